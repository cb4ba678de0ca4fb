/- The writer's lines of a node. Conditions: the library's table is laid; the node is one of a valid scene. -/
import Derived.Test.YthmeifdgkodjlaaDoorSh
namespace Go.Proofs.YthmeifdgkodjlaaDoor
open Go.RowKit

theorem joinN (a : List UInt8) : ∀ r : List (List UInt8), joinC 32 (a :: r) = a ++ r.flatMap (fun w => 32 :: w)
  | [] => by simp [joinC]
  | x :: r => by rw [joinC_cons 32 a (by simp), joinN x r]; simp
theorem lnT_n (a : List UInt8) (ns : List Int) : lnT (a :: ns.map it) = a ++ numT ns ++ [10] := by
  unfold lnT numT; rw [joinN, List.flatMap_map]
theorem Bld.lt {w0 w : World} {l : List UInt8} (h : Bld w0 w l) : w0.heap.size < w.heap.size := by
  rcases h.1 with h | h
  · exact h.lt
  · exact h.lt
theorem ints_row {w1 w2 : World} {ns : List Int} (hb : w2.heap[w1.heap.size]? = some (.cells (ns.map (Value.int .i64)).toArray 3 (0, 0))) (hl : ns.length ≤ 1000) : RowAt itC 3 1 w2 w1.heap.size ns.length ns := by
  refine ⟨_, hb, by simp, Nat.le_refl _, by unfold maxLen; omega, ?_⟩
  rw [List.take_of_length_le (by simp)]
  exact List.map_eq_flatMap
theorem pWordsN {w0 w1 w2 : World} {l : List UInt8} (h : Bld w0 w1 l) (ht : Tab w0) (word : ByteArray) (z : Nat) (hz : word.size ≤ z) (ns : List Int) (m : Nat) (hm : m = ns.length) (hb2 : w2.heap[w1.heap.size]? = some (.cells (ns.map (Value.int .i64)).toArray 3 (0, 0))) (ho : Only [] w1 w2) (hns : ∀ n ∈ ns, i64 n) (hml : m ≤ 1000)
    (hlen : l.length + z + 30 * m ≤ 10000000) :
    Calls Tryd.prog 24 #[.pointer (some ⟨w0.heap.size, 0, none⟩), .string word, .slice (some ⟨w1.heap.size, 0, none⟩) m m] w2 fun e w' => e = .returned (.tuple #[]) ∧ ∃ l', Hid (l' = l ++ (word.data.toList ++ numT ns)) ∧ l'.length ≤ l.length + z + 30 * m + 1 ∧ Bld w0 w' l' ∧ FrB w0.heap.size w1 w' := by
  subst hm
  have hlt := h.lt
  have hwl : word.data.toList.length = word.size := by rw [Array.length_toList]; rfl
  have hnl := numT_len hns
  refine (pWords (h.kept ho) ht word (ints_row hb2 hml) (by omega) hns (by omega)).mono ?_
  rintro e w' ⟨rfl, h1, h2⟩
  exact ⟨rfl, l ++ (word.data.toList ++ numT ns), Lib.hid rfl, by simp only [List.length_append]; omega, by simpa using h1, (frB_only ho).trans h2⟩
theorem pLineN {w0 w1 w2 : World} {l : List UInt8} (h : Bld w0 w1 l) (ht : Tab w0) (word : ByteArray) (z : Nat) (hz : word.size ≤ z) (ns : List Int) (m : Nat) (hm : m = ns.length) (hb2 : w2.heap[w1.heap.size]? = some (.cells (ns.map (Value.int .i64)).toArray 3 (0, 0))) (ho : Only [] w1 w2) (hns : ∀ n ∈ ns, i64 n) (hml : m ≤ 1000)
    (hlen : l.length + z + 30 * m ≤ 10000000) :
    Calls Tryd.prog 19 #[.pointer (some ⟨w0.heap.size, 0, none⟩), .string word, .slice (some ⟨w1.heap.size, 0, none⟩) m m] w2 fun e w' => e = .returned (.tuple #[]) ∧ ∃ l', Hid (l' = l ++ (word.data.toList ++ numT ns ++ [10])) ∧ l'.length ≤ l.length + z + 30 * m + 1 ∧ Bld w0 w' l' ∧ FrB w0.heap.size w1 w' := by
  subst hm
  have hlt := h.lt
  have hwl : word.data.toList.length = word.size := by rw [Array.length_toList]; rfl
  have hnl := numT_len hns
  refine (pLine (h.kept ho) ht word (ints_row hb2 hml) (by omega) hns (by omega)).mono ?_
  rintro e w' ⟨rfl, h1, h2⟩
  exact ⟨rfl, l ++ (word.data.toList ++ numT ns ++ [10]), Lib.hid rfl, by simp only [List.length_append, List.length_cons, List.length_nil]; omega, by simpa using h1, (frB_only ho).trans h2⟩
def SgI (w0 w : World) (l : List UInt8) (i : Int) (sg : List Sg) (vi : Value) (wr : World) : Prop :=
  ∃ k : Nat, k ≤ sg.length ∧ vi = .int .i64 k ∧ Bld w0 wr (l ++ ((sg.take k).map (sgW i)).flatMap lnT) ∧ FrB w0.heap.size w wr
def SvJ (w0 w : World) (l : List UInt8) (i : Int) (sv : List Int) (vi : Value) (wr : World) : Prop :=
  ∃ k : Nat, k ≤ sv.length ∧ vi = .int .i64 k ∧ Bld w0 wr (l ++ ((sv.take k).map (svW i)).flatMap lnT) ∧ FrB w0.heap.size w wr
theorem sgT {i : Int} {s : Sg} : lnT (sgW i s) = wSeg ++ numT [i, s.a, s.p] ++ [10] := lnT_n wSeg [i, s.a, s.p]
theorem svT {i v : Int} : lnT (svW i v) = wUse ++ numT [i, v] ++ [10] := lnT_n wUse [i, v]
theorem sg_snoc (i : Int) {sg : List Sg} {k : Nat} (h : k < sg.length) : ((sg.take (k + 1)).map (sgW i)).flatMap lnT = ((sg.take k).map (sgW i)).flatMap lnT ++ (wSeg ++ numT [i, (sg.getD k sg0).a, (sg.getD k sg0).p] ++ [10]) := by
  rw [List.take_add_one, getD_some sg0 h, ← sgT]; simp
theorem sv_snoc (i : Int) {sv : List Int} {k : Nat} (h : k < sv.length) : ((sv.take (k + 1)).map (svW i)).flatMap lnT = ((sv.take k).map (svW i)).flatMap lnT ++ (wUse ++ numT [i, sv.getD k 0] ++ [10]) := by
  rw [List.take_add_one, getD_some 0 h, ← svT]; simp
theorem sg_len {i : Int} (h0 : i64 i) : ∀ {sg : List Sg}, (∀ s ∈ sg, i64 s.a ∧ i64 s.p) → ((sg.map (sgW i)).flatMap lnT).length ≤ 100 * sg.length
  | [], _ => by simp
  | s :: r, h => by
    have h1 := sg_len h0 (sg := r) (fun x hx => h x (by simp [hx]))
    have h2 := numT_len (ns := [i, s.a, s.p]) (by have := h s (by simp); simp; exact ⟨h0, this.1, this.2⟩)
    simp only [List.map_cons, List.flatMap_cons, List.length_append, sgT, List.length_cons, List.length_nil] at h1 h2 ⊢
    have : wSeg.length = 3 := rfl
    omega
theorem sv_len {i : Int} (h0 : i64 i) : ∀ {sv : List Int}, (∀ s ∈ sv, i64 s) → ((sv.map (svW i)).flatMap lnT).length ≤ 100 * sv.length
  | [], _ => by simp
  | s :: r, h => by
    have h1 := sv_len h0 (sv := r) (fun x hx => h x (by simp [hx]))
    have h2 := numT_len (ns := [i, s]) (by have := h s (by simp); simp; exact ⟨h0, this⟩)
    simp only [List.map_cons, List.flatMap_cons, List.length_append, svT, List.length_cons, List.length_nil] at h1 h2 ⊢
    have : wUse.length = 3 := rfl
    omega
/-- the first line of a node -/
def hdN (n : Nd) (i : Int) : List UInt8 := wNode ++ numT [i] ++ (32 :: wTol ++ numT [n.tol]) ++ (32 :: wStart ++ numT [n.st]) ++ (if n.rf then 32 :: wRef ++ numT [n.er] else []) ++ [10]
theorem hdN_eq (n : Nd) (i : Int) : lnT (ndH n i) = hdN n i := by
  unfold lnT ndH hdN
  cases n.rf <;> simp [joinN, numT]
theorem hdN_len {n : Nd} {i : Int} (h0 : i64 i) (h : NdI n) : (hdN n i).length ≤ 200 := by
  have q0 := it_len h0; have q1 := it_len h.tol; have q2 := it_len h.st; have q3 := it_len h.er
  unfold hdN numT wNode wTol wStart wRef
  cases n.rf <;> simp <;> omega
def oscT (n : Nd) (i : Int) : List UInt8 := wOsc ++ numT [i, n.ph] ++ [10]
theorem ndT_eq (n : Nd) (i : Int) : (ndW n i).flatMap lnT = hdN n i ++ oscT n i ++ (n.sg.map (sgW i)).flatMap lnT ++ (n.sv.map (svW i)).flatMap lnT := by
  unfold ndW
  simp only [List.flatMap_append, List.flatMap_cons, List.flatMap_nil, List.append_nil, hdN_eq]
  rw [show lnT [wOsc, it i, it n.ph] = oscT n i from lnT_n wOsc [i, n.ph]]
theorem i64_one {n : Int} (h : i64 n) : ∀ x ∈ [n], i64 x := by intro x hx; simp only [List.mem_singleton] at hx; rw [hx]; exact h
theorem i64_two {a b : Int} (h : i64 a) (h1 : i64 b) : ∀ x ∈ [a, b], i64 x := by intro x hx; simp only [List.mem_cons, List.not_mem_nil, or_false] at hx; rcases hx with rfl | rfl <;> assumption
theorem i64_three {a b c : Int} (h : i64 a) (h1 : i64 b) (h2 : i64 c) : ∀ x ∈ [a, b, c], i64 x := by intro x hx; simp only [List.mem_cons, List.not_mem_nil, or_false] at hx; rcases hx with rfl | rfl | rfl <;> assumption
set_option maxRecDepth 100000 in
set_option maxHeartbeats 4000000 in
theorem pNodeW {w0 w : World} {l : List UInt8} (h : Bld w0 w l) (ht : Tab w0) (i : Int) (x : NdW) (hx : x.Ok w0) (h0 : i64 i) (hn : NdI x.n) (hsl : x.n.sg.length ≤ 16) (hvl : x.n.sv.length ≤ 12) (hlen : l.length ≤ 1000000) :
    Calls Tryd.prog 22 #[.pointer (some ⟨w0.heap.size, 0, none⟩), .int .i64 i, ndV x.n x.ps x.cs x.pv x.cv] w fun e w' => e = .returned (.tuple #[]) ∧ Bld w0 w' (l ++ (ndW x.n i).flatMap lnT) ∧ FrB w0.heap.size w w' := by
  rw [ndT_eq]
  obtain ⟨⟨ph, sg, tol, rf, er, st, sv⟩, ps, cs, pv, cv⟩ := x
  obtain ⟨htol, hst, her, hph, hsg, hsv, _⟩ := hn
  have hh := hdN_len h0 (n := ⟨ph, sg, tol, rf, er, st, sv⟩) ⟨htol, hst, her, hph, hsg, hsv, by assumption⟩
  unfold ndV oscT
  dsimp only at hsl hvl htol hst her hph hsg hsv ⊢
  have HH : Hid (hdN ⟨ph, sg, tol, rf, er, st, sv⟩ i = wNode ++ numT [i] ++ (32 :: wTol ++ numT [tol]) ++ (32 :: wStart ++ numT [st]) ++ (if rf then 32 :: wRef ++ numT [er] else []) ++ [10]) := Lib.hid rfl
  generalize hdN ⟨ph, sg, tol, rf, er, st, sv⟩ i = hd at HH hh ⊢
  have HV := Lib.hid hx.seg; have HW := Lib.hid hx.srv; have HT := Lib.hid ht; have D0 := Lib.hid h; have HSG := Lib.hid hsg; have HSV := Lib.hid hsv
  have I0 := Lib.hid h0; have ITOL := Lib.hid htol; have IST := Lib.hid hst; have IER := Lib.hid her; have IPH := Lib.hid hph
  dsimp only at HV HW
  clear hx ht h hsg hsv h0 htol hst her hph
  have HL0 := Lib.hid (it_len I0.out); have HL1 := Lib.hid (it_len ITOL.out); have HL2 := Lib.hid (it_len IST.out)
  generalize hR : l ++ (hd ++ (wOsc ++ numT [i, ph] ++ [10]) ++ (sg.map (sgW i)).flatMap lnT ++ (sv.map (svW i)).flatMap lnT) = R
  have HR := Lib.hid hR
  clear hR
  go_enter Tryd.func22, Tryd.ntmps22
  go_upto_region 1 with (fail)
  refine alloc_abs (G := fun w0 => Code.wp _ _ _ _ w0) ?_
  intro w1 hb1 ho1 hs1
  have B1 := Lib.hid hb1; have D1 := Lib.hid (D0.out.kept ho1); have F1 := Lib.hid (frB_refl w0.heap.size w1); have O1 := Lib.hid ho1
  have HBX := Lib.hid (Nat.ne_of_gt D0.out.lt)
  clear hb1 ho1 hs1 D0
  generalize w.heap.size = bx at B1 HBX
  have B0 := B1
  go_wp2_with fail
  refine alloc_abs (G := fun w0 => Calls _ _ _ w0 _) ?_
  intro wx hbx hox hsx
  clear hsx 
  refine (pWordsN D1.out HT.out { data := #[110, 111, 100, 101] } 4 (by decide) [i] 1 rfl hbx hox (i64_one I0.out) (by decide) (by omega)).mono ?_
  rintro e w2 ⟨rfl, l2, hl2, hz2, hb2, hf2⟩
  have D2 := Lib.hid hb2; have F2 := Lib.hid (F1.out.trans hf2); have B2 := Lib.hid (hf2.got B1.out HBX.out (by decide))
  clear hb2 hf2 hbx hox D1 F1 B1
  have g0 := cell_got B2.out 0; have g1 := cell_got B2.out 1; have g2 := cell_got B2.out 2; have g3 := cell_got B2.out 3; have g4 := cell_got B2.out 4; have g5 := cell_got B2.out 5; have g6 := cell_got B2.out 6; have lb := got_lt B2.out
  go_wp2_with fail
  refine alloc_abs (G := fun w0 => Calls _ _ _ w0 _) ?_
  intro wx hbx hox hsx
  clear hsx g0 g1 g2 g3 g4 g5 g6 lb
  refine (pWordsN D2.out HT.out { data := #[32, 116, 111, 108] } 4 (by decide) [tol] 1 rfl hbx hox (i64_one ITOL.out) (by decide) (by omega)).mono ?_
  rintro e w3 ⟨rfl, l3, hl3, hz3, hb3, hf3⟩
  have D3 := Lib.hid hb3; have F3 := Lib.hid (F2.out.trans hf3); have B3 := Lib.hid (hf3.got B2.out HBX.out (by decide))
  clear hb3 hf3 hbx hox D2 F2 B2
  have g0 := cell_got B3.out 0; have g1 := cell_got B3.out 1; have g2 := cell_got B3.out 2; have g3 := cell_got B3.out 3; have g4 := cell_got B3.out 4; have g5 := cell_got B3.out 5; have g6 := cell_got B3.out 6; have lb := got_lt B3.out
  go_wp2_with fail
  refine alloc_abs (G := fun w0 => Calls _ _ _ w0 _) ?_
  intro wx hbx hox hsx
  clear hsx g0 g1 g2 g3 g4 g5 g6 lb
  refine (pWordsN D3.out HT.out { data := #[32, 115, 116, 97, 114, 116] } 6 (by decide) [st] 1 rfl hbx hox (i64_one IST.out) (by decide) (by omega)).mono ?_
  rintro e w4 ⟨rfl, l4, hl4, hz4, hb4, hf4⟩
  have D4 := Lib.hid hb4; have F4 := Lib.hid (F3.out.trans hf4); have B4 := Lib.hid (hf4.got B3.out HBX.out (by decide))
  clear hb4 hf4 hbx hox D3 F3 B3
  have g0 := cell_got B4.out 0; have g1 := cell_got B4.out 1; have g2 := cell_got B4.out 2; have g3 := cell_got B4.out 3; have g4 := cell_got B4.out 4; have g5 := cell_got B4.out 5; have g6 := cell_got B4.out 6; have lb := got_lt B4.out
  cases rf with
  | true =>
    go_wp2_with fail
    refine alloc_abs (G := fun w0 => Calls _ _ _ w0 _) ?_
    intro wx hbx hox hsx
    clear hsx g0 g1 g2 g3 g4 g5 g6 lb
    refine (pWordsN D4.out HT.out { data := #[32, 114, 101, 102] } 4 (by decide) [er] 1 rfl hbx hox (i64_one IER.out) (by decide) (by omega)).mono ?_
    rintro e w5 ⟨rfl, l5, hl5, hz5, hb5, hf5⟩
    have D5 := Lib.hid hb5; have F5 := Lib.hid (F4.out.trans hf5); have B5 := Lib.hid (hf5.got B4.out HBX.out (by decide))
    clear hb5 hf5 hbx hox D4 F4 B4
    have HHD : Hid (l ++ hd = l5 ++ [10]) := Lib.hid (by rw [HH.out, hl5.out, hl4.out, hl3.out, hl2.out]; simp [wNode, wTol, wStart, wRef])
    clear hl2 hl3 hl4 hl5 HH
    have g0 := cell_got B5.out 0; have g1 := cell_got B5.out 1; have g2 := cell_got B5.out 2; have g3 := cell_got B5.out 3; have g4 := cell_got B5.out 4; have g5 := cell_got B5.out 5; have g6 := cell_got B5.out 6; have lb := got_lt B5.out
    go_wp2_with fail
    have HWB := Lib.hid (bWriteByte D5.out 10 (by omega))
    refine HWB.out.mono ?_
    rintro e w6 ⟨rfl, hb6, hf6⟩
    have D6 : Hid (Bld w0 w6 (l ++ hd)) := Lib.hid (by rw [HHD.out]; exact hb6)
    have F6 := Lib.hid (F5.out.trans hf6); have B6 := Lib.hid (hf6.got B5.out HBX.out (by decide))
    clear hb6 hf6 HWB D5 F5 B5 HHD hz5
    have hz6 : (l ++ hd).length ≤ l.length + 200 := by rw [List.length_append]; omega
    obtain ⟨l6, hl6⟩ : ∃ l6, l6 = l ++ hd := ⟨_, rfl⟩
    rw [← hl6] at D6 hz6
    have HL6 := Lib.hid hl6
    clear hl6
    have g0 := cell_got B6.out 0; have g1 := cell_got B6.out 1; have g2 := cell_got B6.out 2; have g3 := cell_got B6.out 3; have g4 := cell_got B6.out 4; have g5 := cell_got B6.out 5; have g6 := cell_got B6.out 6; have lb := got_lt B6.out
    go_wp2_with fail
    refine alloc_abs (G := fun w0 => Calls _ _ _ w0 _) ?_
    intro wx hbx hox hsx
    clear hsx g0 g1 g2 g3 g4 g5 g6 lb
    refine (pLineN D6.out HT.out { data := #[111, 115, 99] } 3 (by decide) [i, ph] 2 rfl hbx hox (i64_two I0.out IPH.out) (by decide) (by omega)).mono ?_
    rintro e w7 ⟨rfl, l7, hl7, hz7, hb7, hf7⟩
    have D7 := Lib.hid hb7; have F7 := Lib.hid (F6.out.trans hf7); have B7 := Lib.hid (hf7.got B6.out HBX.out (by decide))
    clear hb7 hf7 hbx hox D6 F6 B6
    have g0 := cell_got B7.out 0; have g1 := cell_got B7.out 1; have g2 := cell_got B7.out 2; have g3 := cell_got B7.out 3; have g4 := cell_got B7.out 4; have g5 := cell_got B7.out 5; have g6 := cell_got B7.out 6; have lb := got_lt B7.out
    go_wp2
    go_loopw [46] (fun vi wr => SgI w0 w1 l7 i sg vi wr) (fun vi _ => sg.length - (intOf vi).toNat)
    case atStart => exact ⟨0, Nat.zero_le _, rfl, by simpa using D7.out, F7.out⟩
    case round =>
      clear g0 g1 g2 g3 g4 g5 g6 lb
      obtain ⟨k, hk, rfl, hbl, hfr⟩ := hrel
      have DD := Lib.hid hbl; have FF := Lib.hid hfr; have BB := Lib.hid (hfr.got B0.out HBX.out (by decide))
      clear hbl hfr
      by_cases hlt : k < sg.length
      · obtain ⟨bk, off, hp, c0, c1, lc⟩ := HV.out.sg DD.out.2 hlt
        subst hp
        have HTK := Lib.hid (sg_snoc i hlt)
        have hsi := HSG.out _ (getD_mem sg0 hlt)
        have htl := sg_len I0.out (sg := sg.take k) (fun x hx => HSG.out x (List.mem_of_mem_take hx))
        rw [List.length_take, Nat.min_eq_left hk] at htl
        generalize sg.getD k sg0 = s at c0 c1 HTK hsi
        have IA := Lib.hid hsi.1; have IP := Lib.hid hsi.2
        clear hsi
        go_upto_region 11 with (fail)
        refine alloc_abs (G := fun w0 => Code.wp _ _ _ _ w0) ?_
        intro wa hba hoa hsa
        have EA := Lib.hid hba; have DA := Lib.hid (DD.out.kept hoa); have FA := Lib.hid (FF.out.trans (frB_only hoa))
        clear hba hoa hsa c0 c1 lc
        have c0 := cell_got EA.out 0; have c1 := cell_got EA.out 1; have le := got_lt EA.out
        go_wp2_with fail
        refine alloc_abs (G := fun w0 => Calls _ _ _ w0 _) ?_
        intro wx hbx hox hsx
        clear hsx c0 c1 le
        refine (pLineN DA.out HT.out { data := #[115, 101, 103] } 3 (by decide) [i, s.a, s.p] 3 rfl hbx hox (i64_three I0.out IA.out IP.out) (by decide) (by rw [List.length_append]; omega)).mono ?_
        rintro e wb ⟨rfl, lb, hlb, _, hbb, hfb⟩
        have DB : Hid (Bld w0 wb (l7 ++ ((sg.take (k + 1)).map (sgW i)).flatMap lnT)) := Lib.hid (by rw [HTK.out, ← List.append_assoc]; rw [hlb.out] at hbb; exact hbb)
        have FB := Lib.hid (FA.out.trans hfb)
        clear hbb hfb hbx hox hlb DA FA
        go_wp2
        go_roundw
        case rel => exact ⟨k + 1, by omega, by go_num, DB.out, FB.out⟩
        case measure => first | (simp [intOf]; done) | (simp [intOf]; omega)
      · obtain rfl : k = sg.length := by omega
        have D8 := DD
        rw [List.take_of_length_le (Nat.le_refl _)] at D8
        have hsl8 := sg_len I0.out HSG.out
        have hz8 : (l7 ++ (sg.map (sgW i)).flatMap lnT).length ≤ l.length + 2000 := by rw [List.length_append]; omega
        obtain ⟨l8, hl8⟩ : ∃ l8, l8 = l7 ++ (sg.map (sgW i)).flatMap lnT := ⟨_, rfl⟩
        rw [← hl8] at D8 hz8
        have HL8 := Lib.hid hl8
        clear hl8
        obtain ⟨w8, hwo⟩ : ∃ wo : World, wo = wr := ⟨_, rfl⟩
        subst hwo
        clear DD hsl8
        have g0 := cell_got BB.out 0; have g1 := cell_got BB.out 1; have g2 := cell_got BB.out 2; have g3 := cell_got BB.out 3; have g4 := cell_got BB.out 4; have g5 := cell_got BB.out 5; have g6 := cell_got BB.out 6; have lb := got_lt BB.out
        go_wp2
        go_loopw [62] (fun vi wr => SvJ w0 w1 l8 i sv vi wr) (fun vi _ => sv.length - (intOf vi).toNat)
        case atStart => exact ⟨0, Nat.zero_le _, rfl, by simpa using D8.out, FF.out⟩
        case round =>
          clear g0 g1 g2 g3 g4 g5 g6 lb
          obtain ⟨k, hk', rfl, hbl, hfr⟩ := hrel
          have DD := Lib.hid hbl; have FG := Lib.hid hfr
          clear hbl hfr
          by_cases hlt : k < sv.length
          · obtain ⟨bk, off, hp, c0, lc⟩ := HW.out.it DD.out.2 hlt
            subst hp
            have HTK := Lib.hid (sv_snoc i hlt)
            have IA := Lib.hid (HSV.out _ (getD_mem 0 hlt))
            have htl := sv_len I0.out (sv := sv.take k) (fun x hx => HSV.out x (List.mem_of_mem_take hx))
            rw [List.length_take, Nat.min_eq_left hk'] at htl
            generalize sv.getD k 0 = s at c0 HTK IA
            go_wp2_with fail
            refine alloc_abs (G := fun w0 => Calls _ _ _ w0 _) ?_
            intro wx hbx hox hsx
            clear hsx c0 lc
            refine (pLineN DD.out HT.out { data := #[117, 115, 101] } 3 (by decide) [i, s] 2 rfl hbx hox (i64_two I0.out IA.out) (by decide) (by rw [List.length_append]; omega)).mono ?_
            rintro e wb ⟨rfl, lb, hlb, _, hbb, hfb⟩
            have DB : Hid (Bld w0 wb (l8 ++ ((sv.take (k + 1)).map (svW i)).flatMap lnT)) := Lib.hid (by rw [HTK.out, ← List.append_assoc]; rw [hlb.out] at hbb; exact hbb)
            have FB := Lib.hid (FG.out.trans hfb)
            clear hbb hfb hbx hox hlb
            go_wp2
            go_roundw
            case rel => exact ⟨k + 1, by omega, by go_num, DB.out, FB.out⟩
            case measure => first | (simp [intOf]; done) | (simp [intOf]; omega)
          · obtain rfl : k = sv.length := by omega
            have D9 := DD
            rw [List.take_of_length_le (Nat.le_refl _)] at D9
            go_wp2
            go_end0
            exact ⟨rfl, by rw [← HR.out]; have h9 := D9.out; rw [HL8.out, hl7.out, HL6.out] at h9; simp only [List.append_assoc] at h9 ⊢; exact h9, (frB_only O1.out).trans FG.out⟩
  | false =>
    have D5 := D4; have F5 := F4; have B5 := B4
    obtain ⟨l5, hl5⟩ : ∃ l5, l5 = l4 := ⟨_, rfl⟩
    rw [← hl5] at D5
    have HHD : Hid (l ++ hd = l5 ++ [10]) := Lib.hid (by rw [HH.out, hl5, hl4.out, hl3.out, hl2.out]; simp [wNode, wTol, wStart])
    have hz5 : l5.length ≤ l4.length := by rw [hl5]; exact Nat.le_refl _
    clear hl2 hl3 hl4 hl5 HH D4 F4 B4
    go_wp2_with fail
    have HWB := Lib.hid (bWriteByte D5.out 10 (by omega))
    refine HWB.out.mono ?_
    rintro e w6 ⟨rfl, hb6, hf6⟩
    have D6 : Hid (Bld w0 w6 (l ++ hd)) := Lib.hid (by rw [HHD.out]; exact hb6)
    have F6 := Lib.hid (F5.out.trans hf6); have B6 := Lib.hid (hf6.got B5.out HBX.out (by decide))
    clear hb6 hf6 HWB D5 F5 B5 HHD hz5
    have hz6 : (l ++ hd).length ≤ l.length + 200 := by rw [List.length_append]; omega
    obtain ⟨l6, hl6⟩ : ∃ l6, l6 = l ++ hd := ⟨_, rfl⟩
    rw [← hl6] at D6 hz6
    have HL6 := Lib.hid hl6
    clear hl6
    have g0 := cell_got B6.out 0; have g1 := cell_got B6.out 1; have g2 := cell_got B6.out 2; have g3 := cell_got B6.out 3; have g4 := cell_got B6.out 4; have g5 := cell_got B6.out 5; have g6 := cell_got B6.out 6; have lb := got_lt B6.out
    go_wp2_with fail
    refine alloc_abs (G := fun w0 => Calls _ _ _ w0 _) ?_
    intro wx hbx hox hsx
    clear hsx g0 g1 g2 g3 g4 g5 g6 lb
    refine (pLineN D6.out HT.out { data := #[111, 115, 99] } 3 (by decide) [i, ph] 2 rfl hbx hox (i64_two I0.out IPH.out) (by decide) (by omega)).mono ?_
    rintro e w7 ⟨rfl, l7, hl7, hz7, hb7, hf7⟩
    have D7 := Lib.hid hb7; have F7 := Lib.hid (F6.out.trans hf7); have B7 := Lib.hid (hf7.got B6.out HBX.out (by decide))
    clear hb7 hf7 hbx hox D6 F6 B6
    have g0 := cell_got B7.out 0; have g1 := cell_got B7.out 1; have g2 := cell_got B7.out 2; have g3 := cell_got B7.out 3; have g4 := cell_got B7.out 4; have g5 := cell_got B7.out 5; have g6 := cell_got B7.out 6; have lb := got_lt B7.out
    go_wp2
    go_loopw [46] (fun vi wr => SgI w0 w1 l7 i sg vi wr) (fun vi _ => sg.length - (intOf vi).toNat)
    case atStart => exact ⟨0, Nat.zero_le _, rfl, by simpa using D7.out, F7.out⟩
    case round =>
      clear g0 g1 g2 g3 g4 g5 g6 lb
      obtain ⟨k, hk, rfl, hbl, hfr⟩ := hrel
      have DD := Lib.hid hbl; have FF := Lib.hid hfr; have BB := Lib.hid (hfr.got B0.out HBX.out (by decide))
      clear hbl hfr
      by_cases hlt : k < sg.length
      · obtain ⟨bk, off, hp, c0, c1, lc⟩ := HV.out.sg DD.out.2 hlt
        subst hp
        have HTK := Lib.hid (sg_snoc i hlt)
        have hsi := HSG.out _ (getD_mem sg0 hlt)
        have htl := sg_len I0.out (sg := sg.take k) (fun x hx => HSG.out x (List.mem_of_mem_take hx))
        rw [List.length_take, Nat.min_eq_left hk] at htl
        generalize sg.getD k sg0 = s at c0 c1 HTK hsi
        have IA := Lib.hid hsi.1; have IP := Lib.hid hsi.2
        clear hsi
        go_upto_region 11 with (fail)
        refine alloc_abs (G := fun w0 => Code.wp _ _ _ _ w0) ?_
        intro wa hba hoa hsa
        have EA := Lib.hid hba; have DA := Lib.hid (DD.out.kept hoa); have FA := Lib.hid (FF.out.trans (frB_only hoa))
        clear hba hoa hsa c0 c1 lc
        have c0 := cell_got EA.out 0; have c1 := cell_got EA.out 1; have le := got_lt EA.out
        go_wp2_with fail
        refine alloc_abs (G := fun w0 => Calls _ _ _ w0 _) ?_
        intro wx hbx hox hsx
        clear hsx c0 c1 le
        refine (pLineN DA.out HT.out { data := #[115, 101, 103] } 3 (by decide) [i, s.a, s.p] 3 rfl hbx hox (i64_three I0.out IA.out IP.out) (by decide) (by rw [List.length_append]; omega)).mono ?_
        rintro e wb ⟨rfl, lb, hlb, _, hbb, hfb⟩
        have DB : Hid (Bld w0 wb (l7 ++ ((sg.take (k + 1)).map (sgW i)).flatMap lnT)) := Lib.hid (by rw [HTK.out, ← List.append_assoc]; rw [hlb.out] at hbb; exact hbb)
        have FB := Lib.hid (FA.out.trans hfb)
        clear hbb hfb hbx hox hlb DA FA
        go_wp2
        go_roundw
        case rel => exact ⟨k + 1, by omega, by go_num, DB.out, FB.out⟩
        case measure => first | (simp [intOf]; done) | (simp [intOf]; omega)
      · obtain rfl : k = sg.length := by omega
        have D8 := DD
        rw [List.take_of_length_le (Nat.le_refl _)] at D8
        have hsl8 := sg_len I0.out HSG.out
        have hz8 : (l7 ++ (sg.map (sgW i)).flatMap lnT).length ≤ l.length + 2000 := by rw [List.length_append]; omega
        obtain ⟨l8, hl8⟩ : ∃ l8, l8 = l7 ++ (sg.map (sgW i)).flatMap lnT := ⟨_, rfl⟩
        rw [← hl8] at D8 hz8
        have HL8 := Lib.hid hl8
        clear hl8
        obtain ⟨w8, hwo⟩ : ∃ wo : World, wo = wr := ⟨_, rfl⟩
        subst hwo
        clear DD hsl8
        have g0 := cell_got BB.out 0; have g1 := cell_got BB.out 1; have g2 := cell_got BB.out 2; have g3 := cell_got BB.out 3; have g4 := cell_got BB.out 4; have g5 := cell_got BB.out 5; have g6 := cell_got BB.out 6; have lb := got_lt BB.out
        go_wp2
        go_loopw [62] (fun vi wr => SvJ w0 w1 l8 i sv vi wr) (fun vi _ => sv.length - (intOf vi).toNat)
        case atStart => exact ⟨0, Nat.zero_le _, rfl, by simpa using D8.out, FF.out⟩
        case round =>
          clear g0 g1 g2 g3 g4 g5 g6 lb
          obtain ⟨k, hk', rfl, hbl, hfr⟩ := hrel
          have DD := Lib.hid hbl; have FG := Lib.hid hfr
          clear hbl hfr
          by_cases hlt : k < sv.length
          · obtain ⟨bk, off, hp, c0, lc⟩ := HW.out.it DD.out.2 hlt
            subst hp
            have HTK := Lib.hid (sv_snoc i hlt)
            have IA := Lib.hid (HSV.out _ (getD_mem 0 hlt))
            have htl := sv_len I0.out (sv := sv.take k) (fun x hx => HSV.out x (List.mem_of_mem_take hx))
            rw [List.length_take, Nat.min_eq_left hk'] at htl
            generalize sv.getD k 0 = s at c0 HTK IA
            go_wp2_with fail
            refine alloc_abs (G := fun w0 => Calls _ _ _ w0 _) ?_
            intro wx hbx hox hsx
            clear hsx c0 lc
            refine (pLineN DD.out HT.out { data := #[117, 115, 101] } 3 (by decide) [i, s] 2 rfl hbx hox (i64_two I0.out IA.out) (by decide) (by rw [List.length_append]; omega)).mono ?_
            rintro e wb ⟨rfl, lb, hlb, _, hbb, hfb⟩
            have DB : Hid (Bld w0 wb (l8 ++ ((sv.take (k + 1)).map (svW i)).flatMap lnT)) := Lib.hid (by rw [HTK.out, ← List.append_assoc]; rw [hlb.out] at hbb; exact hbb)
            have FB := Lib.hid (FG.out.trans hfb)
            clear hbb hfb hbx hox hlb
            go_wp2
            go_roundw
            case rel => exact ⟨k + 1, by omega, by go_num, DB.out, FB.out⟩
            case measure => first | (simp [intOf]; done) | (simp [intOf]; omega)
          · obtain rfl : k = sv.length := by omega
            have D9 := DD
            rw [List.take_of_length_le (Nat.le_refl _)] at D9
            go_wp2
            go_end0
            exact ⟨rfl, by rw [← HR.out]; have h9 := D9.out; rw [HL8.out, hl7.out, HL6.out] at h9; simp only [List.append_assoc] at h9 ⊢; exact h9, (frB_only O1.out).trans FG.out⟩
end Go.Proofs.YthmeifdgkodjlaaDoor
