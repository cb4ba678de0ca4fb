/- read of package leap's parser. Conditions: the library's variables are laid; the lengths. -/
import Derived.Test.YtnfejojakikeeaaGreatDoorKc
import Derived.Test.YtnfejojakikeeaaGreatDoorKr
namespace Go.Proofs.YtnfejojakikeeaaGreatDoor
open Go.RowKit

def Ps (w00 w : World) (pb : Nat) (st : PSt) : Prop :=
  ∃ v, w.heap[pb]? = some (.cells #[.int .i64 st.b, .int .i64 st.x, v, .bool st.kb, .bool st.ke] 51 (0, 0)) ∧ Own leC 42 2 w00.heap.size w v st.es ∧ Only [] w00 w
def Fr (pb : Nat) (w w' : World) : Prop := ∃ S, Only S w w' ∧ ∀ k ∈ S, k = pb ∨ ∃ c, w.heap[k]? = some (.cells c 42 (0, 0))
def RdV (w00 w : World) (pb : Nat) (r : Option PSt) (e : Ending) (w' : World) : Prop :=
  (match r with
  | none => e = .returned (.bool false) ∧ Only [] w00 w'
  | some st' => e = .returned (.bool true) ∧ Ps w00 w' pb st') ∧ Fr pb w w'
theorem Fr.nil {pb : Nat} {w w' : World} (h : Only [] w w') : Fr pb w w' := ⟨[], h, by simp⟩
theorem drop2 (X : ByteArray) : (X.extract 2 X.size).data.toList = X.data.toList.drop 2 := by
  rw [ByteArray.data_extract, Array.toList_extract, List.extract_eq_take_drop, List.take_of_length_le]
  rw [List.length_drop, Array.length_toList]
  exact Nat.le_refl _
theorem spc_len {c : UInt8} {L : List UInt8} (h : spcB c L = true) : 3 ≤ L.length := by
  rcases L with _ | ⟨a, _ | ⟨b, _ | ⟨d, r⟩⟩⟩
  · cases h
  · cases h
  · cases h
  · simp

theorem set_end {w00 w w3 : World} {pb i j : Nat} {v : Value} {n : Int} {st st' : PSt} (hbk : w.heap[pb]? = some (.cells #[.int .i64 st.b, .int .i64 st.x, v, .bool st.kb, .bool st.ke] 51 (0, 0)))
    (how : Own leC 42 2 w00.heap.size w v st.es) (hon : Only [] w00 w) (hpb : w00.heap.size ≤ pb) (ho3 : Only [] w w3)
    (hc : ((#[.int .i64 st.b, .int .i64 st.x, v, .bool st.kb, .bool st.ke] : Array Value).setIfInBounds i (.int .i64 n)).setIfInBounds j (.bool true) = #[.int .i64 st'.b, .int .i64 st'.x, v, .bool st'.kb, .bool st'.ke]) (hes : st'.es = st.es) :
    Ps w00 ((w3.setCell ⟨pb, i, none⟩ (.int .i64 n)).setCell ⟨pb, j, none⟩ (.bool true)) pb st' ∧ Fr pb w ((w3.setCell ⟨pb, i, none⟩ (.int .i64 n)).setCell ⟨pb, j, none⟩ (.bool true)) := by
  have hw : Only [pb] w ((w3.setCell ⟨pb, i, none⟩ (.int .i64 n)).setCell ⟨pb, j, none⟩ (.bool true)) := (((Only.refl [pb] w).trans ho3 (by simp)).setCell (.inl (by simp)) _).setCell (.inl (by simp)) _
  refine ⟨⟨v, ?_, ?_, ((hon.nil_trans ho3).setCell (.inr hpb) _).setCell (.inr hpb) _⟩, [pb], hw, by simp⟩
  · rw [setCell_got _ (setCell_got _ (ho3.got hbk (by simp))), hc]
  · rw [hes]
    rcases how with h | ⟨g, cap, h1, h2, h3⟩
    · exact .inl h
    · refine .inr ⟨g, cap, h1, h2, h3.kept hw ?_⟩
      intro hm
      obtain rfl : g = pb := by simpa using hm
      obtain ⟨cur, hg, _⟩ := h3
      rw [hbk] at hg
      cases hg
set_option maxRecDepth 100000 in
set_option maxHeartbeats 2000000 in
theorem kread1 (X : ByteArray) (L : List UInt8) (hL : X.data.toList = L) (hs : X.size ≤ 1000000) {w00 w : World} (he : Env w00) (pb : Nat) (st : PSt) (hp : Ps w00 w pb st) (hpb : w00.heap.size ≤ pb) (q1 : spcB 64 L = true) :
    Calls Tryz.prog 34 #[.pointer (some ⟨pb, 0, none⟩), .string X] w fun e w' => RdV w00 w pb (rdO st L) e w' := by
  have HP := Lib.hid hp; have HE := Lib.hid he
  have h64 := kspecial 64 X L hL hs w
  have h61 := kspecial 61 X L hL hs w
  rw [show (((64 : UInt8).toNat : Nat) : Int) = 64 from rfl] at h64
  rw [show (((61 : UInt8).toNat : Nat) : Int) = 61 from rfl] at h61
  have hsz : X.size = L.length := by rw [← hL, Array.length_toList]; rfl
  obtain ⟨v, hbk, hown, hon⟩ := hp
  have HBK := Lib.hid hbk; have HOW := Lib.hid hown; have HON := Lib.hid hon
  have lp := got_lt hbk
  clear hbk hown hon he
  go_enter Tryz.func34, Tryz.ntmps34
  rw [q1] at h64
  have HS := Lib.hid h64
  have h3 := spc_len q1
  have HR : Hid (rdO st L = (setO st.ke (L.drop 2)).map fun n => { st with x := n, ke := true }) := Lib.hid (by unfold rdO; rw [if_pos q1])
  clear h64 h61 q1
  go_wp2_with fail
  refine HS.out.mono ?_
  rintro e w' ⟨rfl, rfl⟩
  have z1 : (2 : Int) ≤ (L.length : Int) := by omega
  have z2 : 2 ≤ L.length := by omega
  have hst := fun w1 (ho : Only [] w w1) => kset (X.extract 2 X.size) (L.drop 2) (by rw [drop2, hL]) (by simp [ByteArray.size_extract]; omega) w1 (HE.out.kept (HON.out.nil_trans ho)) pb 1 4 (by decide) st.ke (.int .i64 st.x) (Nat.lt_of_lt_of_le lp ho.size)
    (by rw [ho.cell lp (by simp), cell_got HBK.out]; rfl) (by rw [ho.cell lp (by simp), cell_got HBK.out]; rfl) (by rw [ho.frozen lp (by simp), frozen_got HBK.out]) (by rw [ho.frozen lp (by simp), frozen_got HBK.out])
  rw [hsz] at hst
  have HST := Lib.hid hst
  clear hst
  go_wp2_with fail
  refine wp_region_grown [0, 1, 2, 3, 4, 5, 6, 7, 8] [9, 10] (by kernel_rfl) (by kernel_rfl) ?_
  simp only [pick, List.map_cons, List.map_nil, List.getD_cons_succ, List.getD_cons_zero]
  iterate 9 (refine wpQuiet_step (fun K hK => ?_); go_simp; refine hK _ ?_; clear hK K)
  refine wpQuiet_nil ?_
  intro w1 hw1
  have O1 := Lib.hid (only_of_plus hw1)
  clear hw1
  go_wp2_with fail
  refine (HST.out w1 O1.out).mono ?_
  rintro e w2 hv
  have HRR := HR.out
  cases hq : setO st.ke (L.drop 2) with
  | none =>
    rw [hq] at hv HRR
    obtain ⟨rfl, ho2⟩ := hv
    have HX : Hid (rdO st L = none) := Lib.hid HRR
    have O2 := Lib.hid (O1.out.nil_trans ho2)
    clear HRR hq ho2
    go_wp2
    go_ret
    rw [HX.out]
    exact ⟨⟨rfl, HON.out.nil_trans O2.out⟩, Fr.nil O2.out⟩
  | some n =>
    rw [hq] at hv HRR
    obtain ⟨rfl, w3, ho3, rfl⟩ := hv
    have HX : Hid (rdO st L = some { st with x := n, ke := true }) := Lib.hid HRR
    have O3 := Lib.hid (O1.out.nil_trans ho3)
    clear HRR hq ho3
    go_wp2
    go_ret
    rw [HX.out]
    obtain ⟨r1, r2⟩ := set_end (i := 1) (j := 4) (n := n) (st' := { st with x := n, ke := true }) HBK.out HOW.out HON.out hpb O3.out rfl rfl
    exact ⟨⟨rfl, r1⟩, r2⟩
set_option maxRecDepth 100000 in
set_option maxHeartbeats 2000000 in
theorem kread2 (X : ByteArray) (L : List UInt8) (hL : X.data.toList = L) (hs : X.size ≤ 1000000) {w00 w : World} (he : Env w00) (pb : Nat) (st : PSt) (hp : Ps w00 w pb st) (hpb : w00.heap.size ≤ pb) (q1 : spcB 64 L = false) (q2 : spcB 61 L = true) :
    Calls Tryz.prog 34 #[.pointer (some ⟨pb, 0, none⟩), .string X] w fun e w' => RdV w00 w pb (rdO st L) e w' := by
  have HP := Lib.hid hp; have HE := Lib.hid he
  have h64 := kspecial 64 X L hL hs w
  have h61 := kspecial 61 X L hL hs w
  rw [show (((64 : UInt8).toNat : Nat) : Int) = 64 from rfl] at h64
  rw [show (((61 : UInt8).toNat : Nat) : Int) = 61 from rfl] at h61
  have hsz : X.size = L.length := by rw [← hL, Array.length_toList]; rfl
  obtain ⟨v, hbk, hown, hon⟩ := hp
  have HBK := Lib.hid hbk; have HOW := Lib.hid hown; have HON := Lib.hid hon
  have lp := got_lt hbk
  clear hbk hown hon he
  go_enter Tryz.func34, Tryz.ntmps34
  rw [q1] at h64
  have HS := Lib.hid h64
  clear h64
  rw [q2] at h61
  have HS2 := Lib.hid h61
  have h3 := spc_len q2
  have HR : Hid (rdO st L = (setO st.kb (L.drop 2)).map fun n => { st with b := n, kb := true }) := Lib.hid (by unfold rdO; rw [if_neg (by simp [q1]), if_pos q2])
  clear h61 q2 q1
  go_wp2_with fail
  refine HS.out.mono ?_
  rintro e w' ⟨rfl, rfl⟩
  go_wp2_with fail
  refine HS2.out.mono ?_
  rintro e w' ⟨rfl, rfl⟩
  have z1 : (2 : Int) ≤ (L.length : Int) := by omega
  have z2 : 2 ≤ L.length := by omega
  have hst := fun w1 (ho : Only [] w w1) => kset (X.extract 2 X.size) (L.drop 2) (by rw [drop2, hL]) (by simp [ByteArray.size_extract]; omega) w1 (HE.out.kept (HON.out.nil_trans ho)) pb 0 3 (by decide) st.kb (.int .i64 st.b) (Nat.lt_of_lt_of_le lp ho.size)
    (by rw [ho.cell lp (by simp), cell_got HBK.out]; rfl) (by rw [ho.cell lp (by simp), cell_got HBK.out]; rfl) (by rw [ho.frozen lp (by simp), frozen_got HBK.out]) (by rw [ho.frozen lp (by simp), frozen_got HBK.out])
  rw [hsz] at hst
  have HST := Lib.hid hst
  clear hst
  go_wp2_with fail
  refine wp_region_grown [0, 1, 2, 3, 4, 5, 6, 7, 8] [9, 10] (by kernel_rfl) (by kernel_rfl) ?_
  simp only [pick, List.map_cons, List.map_nil, List.getD_cons_succ, List.getD_cons_zero]
  iterate 9 (refine wpQuiet_step (fun K hK => ?_); go_simp; refine hK _ ?_; clear hK K)
  refine wpQuiet_nil ?_
  intro w1 hw1
  have O1 := Lib.hid (only_of_plus hw1)
  clear hw1
  go_wp2_with fail
  refine (HST.out w1 O1.out).mono ?_
  rintro e w2 hv
  have HRR := HR.out
  cases hq : setO st.kb (L.drop 2) with
  | none =>
    rw [hq] at hv HRR
    obtain ⟨rfl, ho2⟩ := hv
    have HX : Hid (rdO st L = none) := Lib.hid HRR
    have O2 := Lib.hid (O1.out.nil_trans ho2)
    clear HRR hq ho2
    go_wp2
    go_ret
    rw [HX.out]
    exact ⟨⟨rfl, HON.out.nil_trans O2.out⟩, Fr.nil O2.out⟩
  | some n =>
    rw [hq] at hv HRR
    obtain ⟨rfl, w3, ho3, rfl⟩ := hv
    have HX : Hid (rdO st L = some { st with b := n, kb := true }) := Lib.hid HRR
    have O3 := Lib.hid (O1.out.nil_trans ho3)
    clear HRR hq ho3
    go_wp2
    go_ret
    rw [HX.out]
    obtain ⟨r1, r2⟩ := set_end (i := 0) (j := 3) (n := n) (st' := { st with b := n, kb := true }) HBK.out HOW.out HON.out hpb O3.out rfl rfl
    exact ⟨⟨rfl, r1⟩, r2⟩
end Go.Proofs.YtnfejojakikeeaaGreatDoor
