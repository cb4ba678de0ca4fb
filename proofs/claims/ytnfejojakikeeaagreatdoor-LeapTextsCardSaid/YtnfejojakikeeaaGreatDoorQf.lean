/- head and line of the reference's reader. Condition: the lengths. -/
import Derived.Test.YtnfejojakikeeaaGreatDoorQe
namespace Go.Proofs.YtnfejojakikeeaaGreatDoor
open Go.RowKit

/-- what the reader holds -/
def Ps2 (w00 w : World) (pb : Nat) (st : PSt) : Prop :=
  ∃ v, w.heap[pb]? = some (.cells #[.int .i64 st.b, .int .i64 st.x, v, .bool st.ke, .bool st.kb] 57 (0, 0)) ∧ Own leC 42 2 w00.heap.size w v st.es ∧ Only [] w00 w
def HdV (w00 : World) (pb : Nat) (r : Option (List Int)) (again : Bool) (f : Int → PSt) (e : Ending) (w' : World) : Prop :=
  match r with
  | some [n] => e = .returned (.bool (!again)) ∧ Ps2 w00 w' pb (f n)
  | _ => e = .returned (.bool false) ∧ Only [] w00 w'
def RdV2 (w00 w : World) (pb : Nat) (r : Option PSt) (e : Ending) (w' : World) : Prop :=
  (match r with
  | none => e = .returned (.bool false) ∧ Only [] w00 w'
  | some st' => e = .returned (.bool true) ∧ Ps2 w00 w' pb st') ∧ Fr pb w w'
theorem set_end2 {w00 w w3 : World} {pb i j : Nat} {v : Value} {n : Int} {st st' : PSt} (hbk : w.heap[pb]? = some (.cells #[.int .i64 st.b, .int .i64 st.x, v, .bool st.ke, .bool st.kb] 57 (0, 0)))
    (how : Own leC 42 2 w00.heap.size w v st.es) (hon : Only [] w00 w) (hpb : w00.heap.size ≤ pb) (ho3 : Only [] w w3)
    (hc : ((#[.int .i64 st.b, .int .i64 st.x, v, .bool st.ke, .bool st.kb] : Array Value).setIfInBounds j (.bool true)).setIfInBounds i (.int .i64 n) = #[.int .i64 st'.b, .int .i64 st'.x, v, .bool st'.ke, .bool st'.kb]) (hes : st'.es = st.es) :
    Ps2 w00 ((w3.setCell ⟨pb, j, none⟩ (.bool true)).setCell ⟨pb, i, none⟩ (.int .i64 n)) pb st' ∧ Fr pb w ((w3.setCell ⟨pb, j, none⟩ (.bool true)).setCell ⟨pb, i, none⟩ (.int .i64 n)) := by
  have hw : Only [pb] w ((w3.setCell ⟨pb, j, none⟩ (.bool true)).setCell ⟨pb, i, none⟩ (.int .i64 n)) := (((Only.refl [pb] w).trans ho3 (by simp)).setCell (.inl (by simp)) _).setCell (.inl (by simp)) _
  refine ⟨⟨v, ?_, ?_, ((hon.nil_trans ho3).setCell (.inr hpb) _).setCell (.inr hpb) _⟩, [pb], hw, by simp⟩
  · rw [setCell_got _ (setCell_got _ (ho3.got hbk (by simp))), hc]
  · rw [hes]
    rcases how with h | ⟨g, cap, h1, h2, h3⟩
    · exact .inl h
    · refine .inr ⟨g, cap, h1, h2, h3.kept hw ?_⟩
      intro hm
      obtain rfl : g = pb := by simpa using hm
      obtain ⟨cur, hg, _⟩ := h3
      rw [hbk] at hg
      cases hg
set_option maxRecDepth 100000 in
set_option maxHeartbeats 2000000 in
theorem rhead_x {w00 w : World} {p : Option Addr} {n cap : Nat} {ws : List (List UInt8)} (pb : Nat) (st : PSt) (hp : Ps2 w00 w pb st) (hpb : w00.heap.size ≤ pb) (hv : VRow strC 1 w p n cap ws) (hn : n ≤ 200000) (hl : ∀ x ∈ ws, x.length ≤ 1000000) :
    Calls Tryz.prog 49 #[.pointer (some ⟨pb, 0, none⟩), .int .u8 64, .slice p n cap] w fun e w' => HdV w00 pb (numsO ws) st.ke (fun z => { st with x := z, ke := true }) e w' ∧ Fr pb w w' := by
  have HNU := Lib.hid (rnumbers hv hn hl)
  obtain ⟨v, hbk, hown, hon⟩ := hp
  have HBK := Lib.hid hbk; have HOW := Lib.hid hown; have HON := Lib.hid hon
  clear hbk hown hon hv hl
  obtain ⟨pv, capv, rfl, _⟩ := HOW.out.vrow leC_len
  go_enter Tryz.func49, Tryz.ntmps49
  go_wp2_with fail
  refine HNU.out.mono ?_
  rintro e w1 ⟨hv1, ho1⟩
  have O1 := Lib.hid ho1
  clear ho1 HNU
  cases hq : numsO ws with
  | none =>
    rw [hq] at hv1
    obtain rfl : e = _ := hv1
    have HQ := Lib.hid hq
    clear hq
    go_wp2
    go_ret
    rw [HQ.out]
    exact ⟨⟨rfl, HON.out.nil_trans O1.out⟩, Fr.nil O1.out⟩
  | some ns =>
    rw [hq] at hv1
    obtain ⟨vv, rfl, hrow⟩ := hv1
    have HQ := Lib.hid hq
    clear hq
    by_cases h1 : ns.length = 1
    · obtain ⟨z, rfl⟩ : ∃ z, ns = [z] := List.length_eq_one_iff.1 h1
      clear h1
      obtain ⟨bn, capn, rfl, hbn, hra⟩ : ∃ g cap, vv = .slice (some ⟨g, 0, none⟩) 1 cap ∧ w.heap.size ≤ g ∧ RowAt (fun z : Int => [Value.int .i64 z]) 3 1 w1 g cap [z] := by
        rcases hrow with ⟨_, h⟩ | ⟨g, cap, h1, h2, h3⟩
        · cases h
        · exact ⟨g, cap, h1, h2, h3⟩
      have c0 : w1.cell? ⟨bn, 0, none⟩ = some (.int .i64 z) := by
        have := RowAt.cell (enc := fun z : Int => [Value.int .i64 z]) (s := 1) (l := [z]) (x := z) (i := 0) (j := 0) (fun _ => rfl) hra rfl (by decide)
        simpa using this
      have lbn := hra.lt
      clear hrow hra
      have BK := Lib.hid (O1.out.got HBK.out (by simp))
      have lp := got_lt BK.out
      have k0 := cell_got BK.out 1; have k1 := cell_got BK.out 3
      have f0 := frozen_got BK.out 1; have f1 := frozen_got BK.out 3
      have hnb : bn ≠ pb := by have := got_lt HBK.out; omega
      clear hbn
      go_wp2
      go_ret
      rw [HQ.out]
      obtain ⟨r1, r2⟩ := set_end2 (i := 1) (j := 3) (n := z) (st' := { st with x := z, ke := true }) HBK.out HOW.out HON.out hpb O1.out rfl rfl
      exact ⟨⟨rfl, r1⟩, r2⟩
    · have q1 : ((ns.length : Int) != 1) = true := by simp; omega
      have q2 : ((ns.length : Int) == 1) = false := by simp; omega
      have HX : Hid (∀ e w', e = .returned (.bool false) ∧ Only [] w00 w' → HdV w00 pb (some ns) st.ke (fun z => { st with x := z, ke := true }) e w') := Lib.hid (fun e w' h => by
        rcases ns with _ | ⟨a, _ | ⟨c, r⟩⟩
        · exact h
        · simp at h1
        · exact h)
      obtain ⟨pn, capn, rfl, _⟩ := Own.vrow (enc := fun z : Int => [Value.int .i64 z]) (s := 1) (fun _ => rfl) hrow
      clear h1 hrow
      go_wp2
      go_ret
      rw [HQ.out]
      exact ⟨HX.out _ _ ⟨rfl, HON.out.nil_trans O1.out⟩, Fr.nil O1.out⟩
set_option maxRecDepth 100000 in
set_option maxHeartbeats 2000000 in
theorem rhead_b {w00 w : World} {p : Option Addr} {n cap : Nat} {ws : List (List UInt8)} (pb : Nat) (st : PSt) (hp : Ps2 w00 w pb st) (hpb : w00.heap.size ≤ pb) (hv : VRow strC 1 w p n cap ws) (hn : n ≤ 200000) (hl : ∀ x ∈ ws, x.length ≤ 1000000) :
    Calls Tryz.prog 49 #[.pointer (some ⟨pb, 0, none⟩), .int .u8 61, .slice p n cap] w fun e w' => HdV w00 pb (numsO ws) st.kb (fun z => { st with b := z, kb := true }) e w' ∧ Fr pb w w' := by
  have HNU := Lib.hid (rnumbers hv hn hl)
  obtain ⟨v, hbk, hown, hon⟩ := hp
  have HBK := Lib.hid hbk; have HOW := Lib.hid hown; have HON := Lib.hid hon
  clear hbk hown hon hv hl
  obtain ⟨pv, capv, rfl, _⟩ := HOW.out.vrow leC_len
  go_enter Tryz.func49, Tryz.ntmps49
  go_wp2_with fail
  refine HNU.out.mono ?_
  rintro e w1 ⟨hv1, ho1⟩
  have O1 := Lib.hid ho1
  clear ho1 HNU
  cases hq : numsO ws with
  | none =>
    rw [hq] at hv1
    obtain rfl : e = _ := hv1
    have HQ := Lib.hid hq
    clear hq
    go_wp2
    go_ret
    rw [HQ.out]
    exact ⟨⟨rfl, HON.out.nil_trans O1.out⟩, Fr.nil O1.out⟩
  | some ns =>
    rw [hq] at hv1
    obtain ⟨vv, rfl, hrow⟩ := hv1
    have HQ := Lib.hid hq
    clear hq
    by_cases h1 : ns.length = 1
    · obtain ⟨z, rfl⟩ : ∃ z, ns = [z] := List.length_eq_one_iff.1 h1
      clear h1
      obtain ⟨bn, capn, rfl, hbn, hra⟩ : ∃ g cap, vv = .slice (some ⟨g, 0, none⟩) 1 cap ∧ w.heap.size ≤ g ∧ RowAt (fun z : Int => [Value.int .i64 z]) 3 1 w1 g cap [z] := by
        rcases hrow with ⟨_, h⟩ | ⟨g, cap, h1, h2, h3⟩
        · cases h
        · exact ⟨g, cap, h1, h2, h3⟩
      have c0 : w1.cell? ⟨bn, 0, none⟩ = some (.int .i64 z) := by
        have := RowAt.cell (enc := fun z : Int => [Value.int .i64 z]) (s := 1) (l := [z]) (x := z) (i := 0) (j := 0) (fun _ => rfl) hra rfl (by decide)
        simpa using this
      have lbn := hra.lt
      clear hrow hra
      have BK := Lib.hid (O1.out.got HBK.out (by simp))
      have lp := got_lt BK.out
      have k0 := cell_got BK.out 0; have k1 := cell_got BK.out 4
      have f0 := frozen_got BK.out 0; have f1 := frozen_got BK.out 4
      have hnb : bn ≠ pb := by have := got_lt HBK.out; omega
      clear hbn
      go_wp2
      go_ret
      rw [HQ.out]
      obtain ⟨r1, r2⟩ := set_end2 (i := 0) (j := 4) (n := z) (st' := { st with b := z, kb := true }) HBK.out HOW.out HON.out hpb O1.out rfl rfl
      exact ⟨⟨rfl, r1⟩, r2⟩
    · have q1 : ((ns.length : Int) != 1) = true := by simp; omega
      have q2 : ((ns.length : Int) == 1) = false := by simp; omega
      have HX : Hid (∀ e w', e = .returned (.bool false) ∧ Only [] w00 w' → HdV w00 pb (some ns) st.kb (fun z => { st with b := z, kb := true }) e w') := Lib.hid (fun e w' h => by
        rcases ns with _ | ⟨a, _ | ⟨c, r⟩⟩
        · exact h
        · simp at h1
        · exact h)
      obtain ⟨pn, capn, rfl, _⟩ := Own.vrow (enc := fun z : Int => [Value.int .i64 z]) (s := 1) (fun _ => rfl) hrow
      clear h1 hrow
      go_wp2
      go_ret
      rw [HQ.out]
      exact ⟨HX.out _ _ ⟨rfl, HON.out.nil_trans O1.out⟩, Fr.nil O1.out⟩
theorem Only.fr {pb : Nat} {w w1 w2 : World} (h : Only [] w w1) (f : Fr pb w1 w2) : Fr pb w w2 := by
  obtain ⟨S, hS, hm⟩ := f
  refine ⟨S.filter (fun k => decide (k < w.heap.size)), ?_, ?_⟩
  · refine ⟨hS.os.trans h.os, hS.tape.trans h.tape, hS.output.trans h.output, Nat.le_trans h.size hS.size, fun k hk hn => ?_⟩
    rw [hS.block k (Nat.lt_of_lt_of_le hk h.size) (fun hm => hn (List.mem_filter.2 ⟨hm, by simpa using hk⟩)), h.block k hk (by simp)]
  · intro k hk
    obtain ⟨hk1, hk2⟩ := List.mem_filter.1 hk
    have hk3 : k < w.heap.size := by simpa using hk2
    rcases hm k hk1 with h1 | ⟨c, hc⟩
    · exact .inl h1
    · exact .inr ⟨c, by rw [← h.block k hk3 (by simp)]; exact hc⟩
theorem wds_mem : ∀ {r cur x : List UInt8}, x ∈ wds cur r → x.length ≤ cur.length + r.length
  | [], cur, x, h => by
    simp only [wds] at h
    split at h
    · cases h
    · simp only [List.mem_singleton] at h; subst h; simp
  | c :: r, cur, x, h => by
    simp only [wds] at h
    split at h
    · split at h
      · have := wds_mem h; simp at this ⊢; omega
      · rcases List.mem_cons.1 h with rfl | h
        · simp
        · have := wds_mem h; simp at this ⊢; omega
    · have := wds_mem h; simp at this ⊢; omega
set_option maxRecDepth 100000 in
set_option maxHeartbeats 2000000 in
theorem rline_x (X : ByteArray) (L : List UInt8) (hL : X.data.toList = L) (hs : X.size ≤ 100000) {w00 w : World} (pb : Nat) (st : PSt) (hp : Ps2 w00 w pb st) (hpb : w00.heap.size ≤ pb) (q : spcB 64 L = true) :
    Calls Tryz.prog 35 #[.pointer (some ⟨pb, 0, none⟩), .string X] w fun e w' => RdV2 w00 w pb (rdO st L) e w' := by
  have hsz : X.size = L.length := by rw [← hL, Array.length_toList]; rfl
  have hdrop := drop2 X
  rw [hL] at hdrop
  have HDR := Lib.hid hdrop
  clear hdrop
  have hrd : rdO st L = (setO st.ke (L.drop 2)).map fun n => { st with x := n, ke := true } := by unfold rdO; rw [if_pos q]
  have HRD := Lib.hid hrd
  clear hrd
  rcases L with _ | ⟨a, _ | ⟨b, _ | ⟨d, r⟩⟩⟩
  · cases q
  · cases q
  · cases q
  · have n0 : 0 < X.size := by rw [hsz]; simp
    have n1 : 1 < X.size := by rw [hsz]; simp
    have n2 : 2 < X.size := by rw [hsz]; simp
    have x0 : X[0]'(n0) = a := by
      have := Array.getElem_toList (xs := X.data) (i := 0) (by show 0 < X.size; rw [hsz]; simp)
      simp only [hL] at this; exact this.symm
    have x1 : X[1]'(n1) = b := by
      have := Array.getElem_toList (xs := X.data) (i := 1) (by show 1 < X.size; rw [hsz]; simp)
      simp only [hL] at this; exact this.symm
    have x2 : X[2]'(n2) = d := by
      have := Array.getElem_toList (xs := X.data) (i := 2) (by show 2 < X.size; rw [hsz]; simp)
      simp only [hL] at this; exact this.symm
    have z0 : (0 : Int) < (X.size : Int) := by omega
    have z1 : (1 : Int) < (X.size : Int) := by omega
    have z2 : (2 : Int) < (X.size : Int) := by omega
    have z4 : (2 : Int) ≤ (X.size : Int) := by omega
    have z3 : decide ((X.size : Int) > 2) = true := by simp; omega
    have z5 : decide (2 < (X.size : Int)) = true := by simp; omega
    have hsp : a = 35 ∧ b = 64 ∧ blk d = true := by
      simp only [spcB, Bool.and_eq_true, beq_iff_eq] at q
      exact ⟨q.1, q.2.1, q.2.2⟩
    obtain ⟨rfl, rfl, hbd⟩ := hsp
    have hbk := rblank d w
    rw [hbd] at hbk
    have HBK := Lib.hid hbk
    have HP := Lib.hid hp
    obtain ⟨DX, hDX⟩ : ∃ DX, DX = X.extract 2 X.size := ⟨_, rfl⟩
    have hds : DX.size ≤ 100000 := by rw [hDX]; simp [ByteArray.size_extract]; omega
    obtain ⟨M, hM⟩ : ∃ M, M = List.drop 2 (35 :: 64 :: d :: r) := ⟨_, rfl⟩
    rw [← hDX, ← hM] at HDR
    rw [← hM] at HRD
    generalize hLL : (35 :: 64 :: d :: r : List UInt8) = LL at HRD ⊢
    have hex : X.extract 2 X.size = DX := hDX.symm
    clear hsz hL q hbk hbd hp hDX hM hLL
    have HFI := Lib.hid (fun w1 => rfields DX M HDR.out hds w1)
    go_enter Tryz.func35, Tryz.ntmps35
    go_wp2_with fail
    refine HBK.out.mono ?_
    rintro e w' ⟨rfl, rfl⟩
    go_wp2_with fail
    refine wp_region_calm2 [0, 1, 2, 3, 4] [6, 7] (OnlyC ([] : List Nat) w) (by kernel_rfl) (by kernel_rfl) ?_
    simp only [pick, List.map_cons, List.map_nil, List.getD_cons_succ, List.getD_cons_zero]
    iterate 5 (refine wpCalm_step (fun K hK => ?_); go_simp; refine hK _ ?_; clear hK K)
    refine wpCalm_nil ?_
    refine Rest.by (X := Value × Bool) (fun y a => ((a.put (some 36) y.1).put (some 37) (.bool y.2)).put (some 4) (.bool y.2)) (fun y w' => RdV2 w00 w pb (rdO st LL) (.returned (.bool y.2)) w') ?_ ?_
    · rintro ⟨y1, y2⟩ w3 hR
      simp only [Act.put, List.setIfInBounds_toArray, List.set_cons_succ, List.set_cons_zero]
      have HR := Lib.hid hR
      clear hR
      go_wp2
      go_ret
      exact HR.out
    · refine wpAnyC_next [5] (by kernel_rfl) (by simp) (.inr (onlyC (Only.refl [] w).drew)) ?_
      simp only [List.mem_cons, List.not_mem_nil, or_false, forall_eq]
      refine wpOp_one rfl ?_
      go_wp2_with fail
      refine (HFI.out _).mono ?_
      rintro e w2 ⟨v2, rfl, hown2, ho2⟩
      obtain ⟨p2, cap2, rfl, hv2⟩ := hown2.vrow strC_len
      have O2 := Lib.hid ((Only.refl [] w).drew.nil_trans ho2)
      obtain ⟨v, hb, how, hon⟩ := HP.out
      have hP2 : Ps2 w00 w2 pb st := ⟨v, O2.out.got hb (by simp), how.kept O2.out, hon.nil_trans O2.out⟩
      have hwl := wds_len M []
      have hML : M.length = DX.size := by rw [← HDR.out, Array.length_toList]; rfl
      have hh := rhead_x pb st hP2 hpb hv2 (by omega) (fun x hx => by have := wds_mem hx; simp at this; omega)
      have HH := Lib.hid hh
      clear hh hP2 hb how hon hv2 hown2 ho2 hwl hML
      go_wp2
      simp only [nrm]
      refine wpAnyC_next [6] (by kernel_rfl) (by simp) (.inr (onlyC O2.out)) ?_
      simp only [List.mem_cons, List.not_mem_nil, or_false, forall_eq]
      refine wpOp_one rfl ?_
      go_wp2_with fail
      refine HH.out.mono ?_
      rintro e w3 ⟨hV, hF⟩
      have hF2 : Fr pb w w3 := O2.out.fr hF
      have HF := Lib.hid hF2
      clear hF hF2 HH
      have hrd := HRD.out
      have key : ∃ y, e = .returned (.bool y) ∧ RdV2 w00 w pb (rdO st LL) (.returned (.bool y)) w3 := by
        cases hq : numsO (wds [] M) with
        | none =>
          rw [hq] at hV
          obtain ⟨rfl, ho3⟩ := hV
          have hX : rdO st LL = none := by rw [hrd]; unfold setO; rw [hq]; rfl
          rw [hX]
          exact ⟨_, rfl, ⟨rfl, ho3⟩, HF.out⟩
        | some ns =>
          rw [hq] at hV
          by_cases h1 : ∃ z, ns = [z]
          · obtain ⟨z, rfl⟩ := h1
            obtain ⟨rfl, hP3⟩ := hV
            cases hk : st.ke with
            | true =>
              have hX : rdO st LL = none := by rw [hrd]; unfold setO; rw [hq, hk]; rfl
              rw [hX]
              exact ⟨_, rfl, ⟨rfl, by obtain ⟨_, _, _, h⟩ := hP3; exact h⟩, HF.out⟩
            | false =>
              have hX : rdO st LL = some { st with x := z, ke := true } := by rw [hrd]; unfold setO; rw [hq, hk]; rfl
              rw [hX]
              exact ⟨_, rfl, ⟨rfl, hP3⟩, HF.out⟩
          · have hV2 : e = .returned (.bool false) ∧ Only [] w00 w3 := by
              rcases ns with _ | ⟨a, _ | ⟨c, r⟩⟩
              · exact hV
              · exact absurd ⟨a, rfl⟩ h1
              · exact hV
            obtain ⟨rfl, ho3⟩ := hV2
            have hX : rdO st LL = none := by
              rw [hrd]; unfold setO; rw [hq]
              rcases ns with _ | ⟨a, _ | ⟨c, r⟩⟩
              · rfl
              · exact absurd ⟨a, rfl⟩ h1
              · rfl
            rw [hX]
            exact ⟨_, rfl, ⟨rfl, ho3⟩, HF.out⟩
      obtain ⟨y, rfl, hR⟩ := key
      have HR := Lib.hid hR
      clear hR hV hrd
      go_wp2
      simp only [nrm]
      refine wpAnyC_next [7] (by kernel_rfl) (by simp) (.inl (late_of (by kernel_rfl))) ?_
      simp only [List.mem_cons, List.not_mem_nil, or_false, forall_eq]
      refine wpOp_one rfl ?_
      go_wp2
      simp only [nrm]
      exact wpAnyC_done (by kernel_rfl) (.inl (late_of (by kernel_rfl))) ⟨(_, y), rfl, HR.out⟩
set_option maxRecDepth 100000 in
set_option maxHeartbeats 2000000 in
theorem rline_b (X : ByteArray) (L : List UInt8) (hL : X.data.toList = L) (hs : X.size ≤ 100000) {w00 w : World} (pb : Nat) (st : PSt) (hp : Ps2 w00 w pb st) (hpb : w00.heap.size ≤ pb) (q : spcB 61 L = true) (q0 : spcB 64 L = false) :
    Calls Tryz.prog 35 #[.pointer (some ⟨pb, 0, none⟩), .string X] w fun e w' => RdV2 w00 w pb (rdO st L) e w' := by
  have hsz : X.size = L.length := by rw [← hL, Array.length_toList]; rfl
  have hdrop := drop2 X
  rw [hL] at hdrop
  have HDR := Lib.hid hdrop
  clear hdrop
  have hrd : rdO st L = (setO st.kb (L.drop 2)).map fun n => { st with b := n, kb := true } := by unfold rdO; rw [if_neg (by simp [q0]), if_pos q]
  have HRD := Lib.hid hrd
  clear hrd
  rcases L with _ | ⟨a, _ | ⟨b, _ | ⟨d, r⟩⟩⟩
  · cases q
  · cases q
  · cases q
  · have n0 : 0 < X.size := by rw [hsz]; simp
    have n1 : 1 < X.size := by rw [hsz]; simp
    have n2 : 2 < X.size := by rw [hsz]; simp
    have x0 : X[0]'(n0) = a := by
      have := Array.getElem_toList (xs := X.data) (i := 0) (by show 0 < X.size; rw [hsz]; simp)
      simp only [hL] at this; exact this.symm
    have x1 : X[1]'(n1) = b := by
      have := Array.getElem_toList (xs := X.data) (i := 1) (by show 1 < X.size; rw [hsz]; simp)
      simp only [hL] at this; exact this.symm
    have x2 : X[2]'(n2) = d := by
      have := Array.getElem_toList (xs := X.data) (i := 2) (by show 2 < X.size; rw [hsz]; simp)
      simp only [hL] at this; exact this.symm
    have z0 : (0 : Int) < (X.size : Int) := by omega
    have z1 : (1 : Int) < (X.size : Int) := by omega
    have z2 : (2 : Int) < (X.size : Int) := by omega
    have z4 : (2 : Int) ≤ (X.size : Int) := by omega
    have z3 : decide ((X.size : Int) > 2) = true := by simp; omega
    have z5 : decide (2 < (X.size : Int)) = true := by simp; omega
    have hsp : a = 35 ∧ b = 61 ∧ blk d = true := by
      simp only [spcB, Bool.and_eq_true, beq_iff_eq] at q
      exact ⟨q.1, q.2.1, q.2.2⟩
    obtain ⟨rfl, rfl, hbd⟩ := hsp
    have hbk := rblank d w
    rw [hbd] at hbk
    have HBK := Lib.hid hbk
    have HP := Lib.hid hp
    obtain ⟨DX, hDX⟩ : ∃ DX, DX = X.extract 2 X.size := ⟨_, rfl⟩
    have hds : DX.size ≤ 100000 := by rw [hDX]; simp [ByteArray.size_extract]; omega
    obtain ⟨M, hM⟩ : ∃ M, M = List.drop 2 (35 :: 61 :: d :: r) := ⟨_, rfl⟩
    rw [← hDX, ← hM] at HDR
    rw [← hM] at HRD
    generalize hLL : (35 :: 61 :: d :: r : List UInt8) = LL at HRD ⊢
    have hex : X.extract 2 X.size = DX := hDX.symm
    clear hsz hL q hbk hbd hp hDX hM hLL
    have HFI := Lib.hid (fun w1 => rfields DX M HDR.out hds w1)
    go_enter Tryz.func35, Tryz.ntmps35
    go_wp2_with fail
    refine HBK.out.mono ?_
    rintro e w' ⟨rfl, rfl⟩
    go_wp2_with fail
    refine wp_region_calm2 [0, 1, 2, 3, 4] [6, 7] (OnlyC ([] : List Nat) w) (by kernel_rfl) (by kernel_rfl) ?_
    simp only [pick, List.map_cons, List.map_nil, List.getD_cons_succ, List.getD_cons_zero]
    iterate 5 (refine wpCalm_step (fun K hK => ?_); go_simp; refine hK _ ?_; clear hK K)
    refine wpCalm_nil ?_
    refine Rest.by (X := Value × Bool) (fun y a => ((a.put (some 36) y.1).put (some 37) (.bool y.2)).put (some 4) (.bool y.2)) (fun y w' => RdV2 w00 w pb (rdO st LL) (.returned (.bool y.2)) w') ?_ ?_
    · rintro ⟨y1, y2⟩ w3 hR
      simp only [Act.put, List.setIfInBounds_toArray, List.set_cons_succ, List.set_cons_zero]
      have HR := Lib.hid hR
      clear hR
      go_wp2
      go_ret
      exact HR.out
    · refine wpAnyC_next [5] (by kernel_rfl) (by simp) (.inr (onlyC (Only.refl [] w).drew)) ?_
      simp only [List.mem_cons, List.not_mem_nil, or_false, forall_eq]
      refine wpOp_one rfl ?_
      go_wp2_with fail
      refine (HFI.out _).mono ?_
      rintro e w2 ⟨v2, rfl, hown2, ho2⟩
      obtain ⟨p2, cap2, rfl, hv2⟩ := hown2.vrow strC_len
      have O2 := Lib.hid ((Only.refl [] w).drew.nil_trans ho2)
      obtain ⟨v, hb, how, hon⟩ := HP.out
      have hP2 : Ps2 w00 w2 pb st := ⟨v, O2.out.got hb (by simp), how.kept O2.out, hon.nil_trans O2.out⟩
      have hwl := wds_len M []
      have hML : M.length = DX.size := by rw [← HDR.out, Array.length_toList]; rfl
      have hh := rhead_b pb st hP2 hpb hv2 (by omega) (fun x hx => by have := wds_mem hx; simp at this; omega)
      have HH := Lib.hid hh
      clear hh hP2 hb how hon hv2 hown2 ho2 hwl hML
      go_wp2
      simp only [nrm]
      refine wpAnyC_next [6] (by kernel_rfl) (by simp) (.inr (onlyC O2.out)) ?_
      simp only [List.mem_cons, List.not_mem_nil, or_false, forall_eq]
      refine wpOp_one rfl ?_
      go_wp2_with fail
      refine HH.out.mono ?_
      rintro e w3 ⟨hV, hF⟩
      have hF2 : Fr pb w w3 := O2.out.fr hF
      have HF := Lib.hid hF2
      clear hF hF2 HH
      have hrd := HRD.out
      have key : ∃ y, e = .returned (.bool y) ∧ RdV2 w00 w pb (rdO st LL) (.returned (.bool y)) w3 := by
        cases hq : numsO (wds [] M) with
        | none =>
          rw [hq] at hV
          obtain ⟨rfl, ho3⟩ := hV
          have hX : rdO st LL = none := by rw [hrd]; unfold setO; rw [hq]; rfl
          rw [hX]
          exact ⟨_, rfl, ⟨rfl, ho3⟩, HF.out⟩
        | some ns =>
          rw [hq] at hV
          by_cases h1 : ∃ z, ns = [z]
          · obtain ⟨z, rfl⟩ := h1
            obtain ⟨rfl, hP3⟩ := hV
            cases hk : st.kb with
            | true =>
              have hX : rdO st LL = none := by rw [hrd]; unfold setO; rw [hq, hk]; rfl
              rw [hX]
              exact ⟨_, rfl, ⟨rfl, by obtain ⟨_, _, _, h⟩ := hP3; exact h⟩, HF.out⟩
            | false =>
              have hX : rdO st LL = some { st with b := z, kb := true } := by rw [hrd]; unfold setO; rw [hq, hk]; rfl
              rw [hX]
              exact ⟨_, rfl, ⟨rfl, hP3⟩, HF.out⟩
          · have hV2 : e = .returned (.bool false) ∧ Only [] w00 w3 := by
              rcases ns with _ | ⟨a, _ | ⟨c, r⟩⟩
              · exact hV
              · exact absurd ⟨a, rfl⟩ h1
              · exact hV
            obtain ⟨rfl, ho3⟩ := hV2
            have hX : rdO st LL = none := by
              rw [hrd]; unfold setO; rw [hq]
              rcases ns with _ | ⟨a, _ | ⟨c, r⟩⟩
              · rfl
              · exact absurd ⟨a, rfl⟩ h1
              · rfl
            rw [hX]
            exact ⟨_, rfl, ⟨rfl, ho3⟩, HF.out⟩
      obtain ⟨y, rfl, hR⟩ := key
      have HR := Lib.hid hR
      clear hR hV hrd
      go_wp2
      simp only [nrm]
      refine wpAnyC_next [7] (by kernel_rfl) (by simp) (.inl (late_of (by kernel_rfl))) ?_
      simp only [List.mem_cons, List.not_mem_nil, or_false, forall_eq]
      refine wpOp_one rfl ?_
      go_wp2
      simp only [nrm]
      exact wpAnyC_done (by kernel_rfl) (.inl (late_of (by kernel_rfl))) ⟨(_, y), rfl, HR.out⟩
end Go.Proofs.YtnfejojakikeeaaGreatDoor
