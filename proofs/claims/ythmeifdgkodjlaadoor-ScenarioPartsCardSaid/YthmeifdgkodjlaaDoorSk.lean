/- scenario.Text. Conditions: the library's table is laid; the seeds are numbers of 64 bits; the lengths. -/
import Derived.Test.YthmeifdgkodjlaaDoorSj
import Derived.Test.YthmeifdgkodjlaaDoorCalm
namespace Go.Proofs.YthmeifdgkodjlaaDoor
open Go.RowKit

set_option maxRecDepth 100000 in
theorem pKinds (w : World) : Calls Tryd.prog 25 #[] w fun e w' => e = .returned (.slice (some ⟨w.heap.size, 0, none⟩) 9 9) ∧ RowAt strC 9 1 w' w.heap.size 9 kinds9 ∧ Only [] w w' := by
  go_enter Tryd.func25, Tryd.ntmps25
  go_wp2
  go_ret
  exact ⟨rfl, ⟨_, alloc_new _ _, rfl, Nat.le_refl _, by decide, rfl⟩, (Only.refl _ _).alloc _⟩
def ftT (f : Ft) : List UInt8 := wFault ++ numT [f.n, f.f, f.t] ++ (32 :: kinds9.getD (f.k - 1).toNat [] ++ numT [f.v] ++ [10])
theorem ftT_eq (f : Ft) : lnT (ftW f) = ftT f := by
  unfold lnT ftW ftT
  simp [joinN, numT]
theorem kind_len (j : Nat) : (kinds9.getD j []).length ≤ 7 := by
  rcases Nat.lt_or_ge j 9 with h | h
  · have : ∀ j, j < 9 → (kinds9.getD j []).length ≤ 7 := by decide
    exact this j h
  · rw [List.getD_eq_getElem?_getD, List.getElem?_eq_none (by simpa [kinds9] using h)]; simp
theorem cell_kind {w : World} {g j : Nat} (h : RowAt strC 9 1 w g 9 kinds9) (hj : j < 9) : w.cell? ⟨g, j, none⟩ = some (.string (bstr (kinds9.getD j []))) := by
  have := h.cell (i := j) (j := 0) strC_len (getD_some [] (by exact hj)) (by decide)
  simpa [strC] using this
theorem ndT_len {n : Nd} {i : Int} (h0 : i64 i) (h : NdI n) (h1 : n.sg.length ≤ 16) (h2 : n.sv.length ≤ 12) : ((ndW n i).flatMap lnT).length ≤ 3400 := by
  have q0 := hdN_len h0 h; have q1 := sg_len h0 h.sg; have q2 := sv_len h0 h.sv; have q3 := numT_len (i64_two h0 h.ph)
  rw [ndT_eq]
  simp only [oscT, List.length_append, List.length_cons, List.length_nil] at q0 q1 q2 q3 ⊢
  have : wOsc.length = 3 := rfl
  omega
theorem lkT_len {l : Lk} (h : LkI l) (h1 : l.ch.length ≤ 16) : ((lkW l).flatMap lnT).length ≤ 3700 := by
  have q0 := numT_len (i64_seven h.A h.B h.d0 h.d1 h.v0 h.v1 h.lo); have q1 := ch_len h.A h.B h.ch
  have q2 := dec_len_le 20 l.sd.toNat (by decide) (by have := h.sd; omega)
  rw [lkT_eq]
  simp only [hdL, List.length_append, List.length_cons, List.length_nil] at q0 q1 q2 ⊢
  have : wLink.length = 4 := rfl
  omega
theorem ftT_len {f : Ft} (h : FtI f) : (ftT f).length ≤ 200 := by
  have q0 := numT_len (i64_three h.n h.f h.t); have q1 := numT_len (i64_one h.v); have q2 := kind_len (f.k - 1).toNat
  simp only [ftT, List.length_append, List.length_cons, List.length_nil] at q0 q1 ⊢
  have : wFault.length = 5 := rfl
  omega
theorem linkE_len {l : Lk} (h : linkE l = 0) : l.ch.length ≤ 16 := by
  unfold linkE at h
  obtain ⟨_, h⟩ := if_eq h (by decide)
  obtain ⟨_, h⟩ := if_eq h (by decide)
  obtain ⟨h, _⟩ := if_ne h (by decide)
  omega
/-- the text of the first nodes, links, faults -/
def ndsT (ns : List Nd) (k : Nat) : List UInt8 := (ndsW (ns.take k) 0).flatMap lnT
def lksT (ls : List Lk) (k : Nat) : List UInt8 := ((ls.take k).flatMap lkW).flatMap lnT
def ftsT (fs : List Ft) (k : Nat) : List UInt8 := ((fs.take k).map ftW).flatMap lnT
theorem ndsT_snoc {ns : List Nd} {k : Nat} (h : k < ns.length) : ndsT ns (k + 1) = ndsT ns k ++ (ndW (ns.getD k nd0) k).flatMap lnT := by
  unfold ndsT
  rw [List.take_add_one, getD_some nd0 h, Option.toList_some, ndsW_append, List.flatMap_append, List.length_take, Nat.min_eq_left (Nat.le_of_lt h)]
  simp [ndsW]
theorem lksT_snoc {ls : List Lk} {k : Nat} (h : k < ls.length) : lksT ls (k + 1) = lksT ls k ++ (lkW (ls.getD k lk0)).flatMap lnT := by
  unfold lksT
  rw [List.take_add_one, getD_some lk0 h]; simp
theorem ftsT_snoc {fs : List Ft} {k : Nat} (h : k < fs.length) : ftsT fs (k + 1) = ftsT fs k ++ ftT (fs.getD k ft0) := by
  unfold ftsT
  rw [List.take_add_one, getD_some ft0 h, ← ftT_eq]; simp
theorem ndsT_len {ns : List Nd} (hl : ns.length ≤ 24) (h : ∀ i, i < ns.length → ((ndW (ns.getD i nd0) i).flatMap lnT).length ≤ 3400) : ∀ {k : Nat}, k ≤ ns.length → (ndsT ns k).length ≤ 3400 * k
  | 0, _ => by simp [ndsT, ndsW]
  | k + 1, hk => by
    have h1 := ndsT_len hl h (k := k) (by omega)
    rw [ndsT_snoc (by omega), List.length_append]
    have := h k (by omega)
    omega
theorem lksT_len {ls : List Lk} (h : ∀ i, i < ls.length → ((lkW (ls.getD i lk0)).flatMap lnT).length ≤ 3700) : ∀ {k : Nat}, k ≤ ls.length → (lksT ls k).length ≤ 3700 * k
  | 0, _ => by simp [lksT]
  | k + 1, hk => by
    have h1 := lksT_len h (k := k) (by omega)
    rw [lksT_snoc (by omega), List.length_append]
    have := h k (by omega)
    omega
theorem ftsT_len {fs : List Ft} (h : ∀ i, i < fs.length → (ftT (fs.getD i ft0)).length ≤ 200) : ∀ {k : Nat}, k ≤ fs.length → (ftsT fs k).length ≤ 200 * k
  | 0, _ => by simp [ftsT]
  | k + 1, hk => by
    have h1 := ftsT_len h (k := k) (by omega)
    rw [ftsT_snoc (by omega), List.length_append]
    have := h k (by omega)
    omega
set_option maxRecDepth 100000 in
theorem ftLine {w2 wb v v' : World} {lb : List UInt8} (h : Bld w2 wb lb) (ht : Tab w2) (hlb : lb.length ≤ 1000000) {j : Nat} {K : ByteArray} (hK : K.data.toList = kinds9.getD j []) (hKs : K.size ≤ 7) {xv : Int} (hv : i64 xv) (h1 : Only [] wb v) (h2 : Only [] v v')
    (h3 : v'.heap[v.heap.size]? = some (.cells #[.int .i64 xv] 3 (0, 0))) :
    Calls Tryd.prog 19 #[.pointer (some ⟨w2.heap.size, 0, none⟩), .string ({ data := #[32] } ++ K), .slice (some ⟨v.heap.size, 0, none⟩) 1 1] v' fun e w' => e = .returned (.tuple #[]) ∧ Bld w2 w' (lb ++ (32 :: kinds9.getD j [] ++ numT [xv] ++ [10])) := by
  have hzs : ({ data := #[32] } ++ K : ByteArray).size ≤ 8 := by rw [ByteArray.size_append]; have : ({ data := #[32] } : ByteArray).size = 1 := rfl; omega
  have hdl : ({ data := #[32] } ++ K : ByteArray).data.toList = 32 :: kinds9.getD j [] := by rw [ByteArray.data_append, Array.toList_append, hK]; rfl
  generalize ({ data := #[32] } ++ K : ByteArray) = W at hzs hdl ⊢
  have hc := pLineN (h.kept h1) ht W 8 hzs [xv] 1 rfl h3 h2 (i64_one hv) (by decide) (by omega)
  rw [hdl] at hc
  clear hzs hdl hK hKs
  generalize kinds9.getD j [] = kk at hc ⊢
  refine hc.mono ?_
  rintro e w' ⟨rfl, l', hl', _, hb', _⟩
  rw [hl'.out] at hb'
  exact ⟨rfl, hb'⟩
def TxI (w0 : World) (n : Nat) (T : Nat → List UInt8) (l : List UInt8) (vi : Value) (wr : World) : Prop :=
  ∃ k : Nat, k ≤ n ∧ vi = .int .i64 k ∧ Bld w0 wr (l ++ T k)
set_option maxRecDepth 100000 in
set_option maxHeartbeats 8000000 in
theorem pText {w : World} (s : ScW) (hs : s.Ok w) (hsd : SdOk s.sc) (ht : Tab w) :
    Calls Tryd.prog 8 #[scV s] w fun e w' => e = .returned (.tuple #[.string (bstr (txtS s.sc).1), .int .i64 (txtS s.sc).2]) ∧ Only [] w w' := by
  have HCK := Lib.hid (fun (w' : World) (ho : Only [] w w') => pCheck s (hs.kept ho))
  have HT := Lib.hid ht
  clear ht
  by_cases hc : chkS s.sc = 0
  · have hI := scI_of hc hsd
    have hO := chkS_ok hc
    have HR1 : Hid ((txtS s.sc).1 = scT s.sc) := Lib.hid (by unfold txtS; rw [if_pos hc])
    have HR2 : Hid ((txtS s.sc).2 = 0) := Lib.hid (by unfold txtS; rw [if_pos hc])
    rw [hc] at HCK
    have hnl : ∀ i, i < s.sc.nd.length → (s.sc.nd.getD i nd0).sg.length ≤ 16 ∧ (s.sc.nd.getD i nd0).sv.length ≤ 12 := fun i hi => ⟨(oscE_ok (hO.nd i hi).osc).2.2.1, (hO.nd i hi).len⟩
    have hll : ∀ i, i < s.sc.lk.length → (s.sc.lk.getD i lk0).ch.length ≤ 16 := fun i hi => linkE_len (hO.lk i hi).lk
    have hsc : scT s.sc = lnT [wUntil, it s.un] ++ lnT [wSeed, Lib.decDigits s.sd.toNat] ++ ndsT s.sc.nd s.nd.length ++ lksT s.sc.lk s.lk.length ++ ftsT s.ft s.ft.length := by
      unfold scT scW ndsT lksT ftsT
      rw [List.take_of_length_le (by simp [ScW.sc]), List.take_of_length_le (by simp [ScW.sc]), List.take_of_length_le (Nat.le_refl _)]
      simp [ScW.sc]
    generalize txtS s.sc = tx at HR1 HR2 ⊢
    obtain ⟨t1, t2⟩ := tx
    have HT1 : Hid (t1 = scT s.sc) := HR1
    have HT2 : Hid (t2 = 0) := HR2
    clear HR1 HR2
    have h1 := hO.n1; have h2 := hO.l1; have h3 := hO.fl
    have hun := hI.un; have hsd0 := hI.sd
    obtain ⟨u, hu⟩ : ∃ u : Nat, s.sd = u := ⟨s.sd.toNat, by have := hsd0.1; simp only [ScW.sc] at this; omega⟩
    have hu64 : u ≤ 18446744073709551615 := by have := hsd0.2; simp only [ScW.sc] at this; omega
    have hnd := hI.nd; have hlk := hI.lk; have hft := hI.ft
    rw [hsc, hu, Int.toNat_natCast] at HT1
    have HP : Hid (t1 ≠ []) := Lib.hid (by rw [HT1.out]; simp [lnT])
    obtain ⟨ns, ls, ft, un, sd, pn, cn, pl, cl, pf, cf⟩ := s
    dsimp only at hu
    subst hu
    unfold scV at HCK ⊢
    dsimp only [ScW.sc] at HCK HT1 h1 h2 h3 hun hnd hlk hft hnl hll ⊢
    rw [List.length_map] at h1 h2 hnl hll
    have HN := Lib.hid hs.nd; have HL := Lib.hid hs.lk; have HFT := Lib.hid hs.ft; have HNO := Lib.hid hs.ndo; have HLO := Lib.hid hs.lko
    have HND := Lib.hid hnd; have HLK := Lib.hid hlk; have HFI := Lib.hid hft; have HNL := Lib.hid hnl; have HLL := Lib.hid hll; have HUN := Lib.hid hun
    clear hs hnd hlk hft hnl hll hun hI hO hsc hc hsd hsd0
    dsimp only at HN HL HFT HNO HLO
    have HNT : Hid (∀ i, i < ns.length → ((ndW ((ns.map NdW.n).getD i nd0) i).flatMap lnT).length ≤ 3400) := Lib.hid (fun i hi => ndT_len (by constructor <;> omega) (HND.out _ (getD_mem nd0 (by simpa using hi))) (HNL.out i hi).1 (HNL.out i hi).2)
    have HLT : Hid (∀ i, i < ls.length → ((lkW ((ls.map LkW.l).getD i lk0)).flatMap lnT).length ≤ 3700) := Lib.hid (fun i hi => lkT_len (HLK.out _ (getD_mem lk0 (by simpa using hi))) (HLL.out i hi))
    have HFL : Hid (∀ i, i < ft.length → (ftT (ft.getD i ft0)).length ≤ 200) := Lib.hid (fun i hi => ftT_len (HFI.out _ (getD_mem ft0 hi)))
    go_enter Tryd.func8, Tryd.ntmps8
    go_upto_region 1 with (fail)
    refine alloc_abs (G := fun w0 => Code.wp _ _ _ _ w0) ?_
    intro w1 hb1 ho1 hs1
    have B1 := Lib.hid hb1; have O1 := Lib.hid ho1
    clear hb1 ho1 hs1
    have g0 := cell_got B1.out 0; have g1 := cell_got B1.out 1; have g2 := cell_got B1.out 2; have g3 := cell_got B1.out 3; have g4 := cell_got B1.out 4; have lb := got_lt B1.out
    go_wp2_with fail
    refine (HCK.out w1 O1.out).mono ?_
    rintro e w2 ⟨rfl, ho2⟩
    have B2 := Lib.hid (ho2.got B1.out (by simp)); have O2 := Lib.hid (O1.out.nil_trans ho2)
    clear ho2 B1 O1 g0 g1 g2 g3 g4 lb
    go_upto_region 4 with (fail)
    refine alloc_abs (G := fun w0 => Code.wp _ _ _ _ w0) ?_
    intro w3 hb3 ho3 hs3
    have D3 := Lib.hid (bld_new hb3 ho3); have B3 := Lib.hid (ho3.got B2.out (by simp)); have T2 := Lib.hid (HT.out.kept O2.out)
    clear hb3 ho3 hs3
    have g3 := cell_got B3.out 3; have lb := got_lt B3.out
    go_wp2_with fail
    refine alloc_abs (G := fun w0 => Calls _ _ _ w0 _) ?_
    intro wx hbx hox hsx
    clear hsx g3 lb
    refine (pLineN D3.out T2.out { data := #[117, 110, 116, 105, 108] } 5 (by decide) [un] 1 rfl hbx hox (i64_one HUN.out) (by decide) (by simp)).mono ?_
    rintro e w4 ⟨rfl, l4, hl4, hz4, hb4, _⟩
    have D4 := Lib.hid hb4; have B4 := Lib.hid (hb4.2.got B2.out (by simp))
    clear hb4 hbx hox D3 B3
    obtain ⟨X, HI, HX, hxl⟩ := fuX u w4 hu64 (T2.out.kept D4.out.2)
    have q1 : ¬ 9223372036854775807 < 5 + X.size := by omega
    have q2 : ¬ 9223372036854775807 < 5 + X.size + 1 := by omega
    have g4 := cell_got B4.out 4; have lb := got_lt B4.out
    have lw4 := D4.out.lt
    go_wp2_with fail
    refine (HI.out w4 (Only.refl _ _)).mono ?_
    rintro e w5 ⟨rfl, ho5⟩
    have HW := Lib.hid (bWriteString (D4.out.kept ho5) ({ data := #[115, 101, 101, 100, 32] } ++ X ++ { data := #[10] }) (by
      rw [ByteArray.size_append, ByteArray.size_append]
      have : ({ data := #[115, 101, 101, 100, 32] } : ByteArray).size = 5 := rfl
      have : ({ data := #[10] } : ByteArray).size = 1 := rfl
      simp only [List.length_nil] at hz4
      omega))
    have hd : ({ data := #[115, 101, 101, 100, 32] } ++ X ++ { data := #[10] } : ByteArray).data.toList = lnT [wSeed, Lib.decDigits u] := by rw [ByteArray.data_append, Array.toList_append, ByteArray.data_append, Array.toList_append, HX.out]; rfl
    rw [hd] at HW
    clear hd HX g4 lb HI ho5 lw4
    go_wp2_with fail
    refine HW.out.mono ?_
    rintro e w6 ⟨rfl, hb6, _⟩
    have hz6 : (l4 ++ lnT [wSeed, Lib.decDigits u]).length ≤ 200 := by
      have h := dec_len_le 20 u (by decide) (by omega)
      rw [List.length_append]
      have : (lnT [wSeed, Lib.decDigits u]).length ≤ 40 := by unfold lnT; rw [joinN]; simp [wSeed]; omega
      simp only [List.length_nil] at hz4
      omega
    obtain ⟨l6, hl6⟩ : ∃ l6, l6 = l4 ++ lnT [wSeed, Lib.decDigits u] := ⟨_, rfl⟩
    rw [← hl6] at hb6 hz6
    have HL6 : Hid (l6 = lnT [wUntil, it un] ++ lnT [wSeed, Lib.decDigits u]) := Lib.hid (by rw [hl6, hl4.out, show lnT [wUntil, it un] = wUntil ++ numT [un] ++ [10] from lnT_n wUntil [un]]; simp [wUntil])
    rw [← HL6.out] at HT1
    clear hl6 hl4 HL6 q1 q2 hz4
    have D6 := Lib.hid hb6; have B6 := Lib.hid (hb6.2.got B2.out (by simp))
    clear hb6 D4 B4 HW
    generalize ({ data := #[115, 101, 101, 100, 32] } ++ X ++ { data := #[10] } : ByteArray) = z3
    generalize ({ data := #[115, 101, 101, 100, 32] } ++ X : ByteArray) = z2
    have g0 := cell_got B6.out 0; have lb := got_lt B6.out
    go_wp2
    go_loopw [28] (fun vi wr => TxI w2 ns.length (ndsT (ns.map NdW.n)) l6 vi wr) (fun vi _ => ns.length - (intOf vi).toNat)
    case atStart => exact ⟨0, Nat.zero_le _, rfl, by simpa [ndsT, ndsW] using D6.out⟩
    case round =>
      clear g0 lb
      obtain ⟨k, hk, rfl, hbl⟩ := hrel
      have DD := Lib.hid hbl
      clear hbl
      have htl := ndsT_len (ns := ns.map NdW.n) (by simpa using h1) (by rw [List.length_map]; exact HNT.out) (k := k) (by simpa using hk)
      by_cases hlt : k < ns.length
      · obtain ⟨bk, off, hp, lc, c0, c1, c2, c3, c4, c5, c6⟩ := HN.out.nd (O2.out.nil_trans DD.out.2) hlt
        subst hp
        have HTK := Lib.hid (ndsT_snoc (ns := ns.map NdW.n) (k := k) (by simpa using hlt))
        rw [nd_at hlt] at HTK
        have hni := HND.out _ (getD_mem nd0 (l := ns.map NdW.n) (k := k) (by simpa using hlt))
        have hnl := HNL.out k hlt
        rw [nd_at hlt] at hni hnl
        have hno := (HNO.out _ (getD_mem nw0 hlt)).kept O2.out
        generalize ns.getD k nw0 = x at c0 c1 c2 c3 c4 c5 c6 HTK hni hnl hno
        have HNI := Lib.hid hni; have HNOK := Lib.hid hno
        clear hni hno
        go_upto_region 9 with (fail)
        refine alloc_abs (G := fun w0 => Code.wp _ _ _ _ w0) ?_
        intro wa hba hoa hsa
        have EA := Lib.hid hba; have DA := Lib.hid (DD.out.kept hoa)
        clear hba hoa hsa c0 c1 c2 c3 c4 c5 c6 lc
        have c0 := cell_got EA.out 0; have c1 := cell_got EA.out 1; have c2 := cell_got EA.out 2; have c3 := cell_got EA.out 3; have c4 := cell_got EA.out 4; have c5 := cell_got EA.out 5; have c6 := cell_got EA.out 6; have le := got_lt EA.out
        go_wp2_with fail
        refine (pNodeW DA.out T2.out k x HNOK.out (by constructor <;> omega) HNI.out hnl.1 hnl.2 (by rw [List.length_append]; omega)).mono ?_
        rintro e wb ⟨rfl, hbb, _⟩
        have DB : Hid (Bld w2 wb (l6 ++ ndsT (ns.map NdW.n) (k + 1))) := Lib.hid (by rw [HTK.out, ← List.append_assoc]; exact hbb)
        clear hbb c0 c1 c2 c3 c4 c5 c6 le
        go_wp2
        go_roundw
        case rel => exact ⟨k + 1, by omega, by go_num, DB.out⟩
        case measure => first | (simp [intOf]; done) | (simp [intOf]; omega)
      · obtain rfl : k = ns.length := by omega
        obtain ⟨w7, hwo⟩ : ∃ wo : World, wo = wr := ⟨_, rfl⟩
        subst hwo
        have D7 := DD
        have hz7 : (l6 ++ ndsT (ns.map NdW.n) ns.length).length ≤ 90000 := by rw [List.length_append]; omega
        obtain ⟨l7, hl7⟩ : ∃ l7, l7 = l6 ++ ndsT (ns.map NdW.n) ns.length := ⟨_, rfl⟩
        rw [← hl7] at D7 hz7 HT1
        have B7 := Lib.hid (D7.out.2.got B2.out (by simp))
        clear hl7 DD htl
        have g1 := cell_got B7.out 1; have lb := got_lt B7.out
        go_wp2
        go_loopw [40] (fun vi wr => TxI w2 ls.length (lksT (ls.map LkW.l)) l7 vi wr) (fun vi _ => ls.length - (intOf vi).toNat)
        case atStart => exact ⟨0, Nat.zero_le _, rfl, by simpa [lksT] using D7.out⟩
        case round =>
          clear g1 lb hlt
          obtain ⟨k, hk', rfl, hbl⟩ := hrel
          have DD := Lib.hid hbl
          clear hbl
          have htl := lksT_len (ls := ls.map LkW.l) (by rw [List.length_map]; exact HLT.out) (k := k) (by simpa using hk')
          by_cases hlt : k < ls.length
          · obtain ⟨bk, off, hp, lc, c0, c1, c2, c3, c4, c5, c6, c7, c8⟩ := HL.out.lk (O2.out.nil_trans DD.out.2) hlt
            subst hp
            have HTK := Lib.hid (lksT_snoc (ls := ls.map LkW.l) (k := k) (by simpa using hlt))
            rw [lk_at hlt] at HTK
            have hni := HLK.out _ (getD_mem lk0 (l := ls.map LkW.l) (k := k) (by simpa using hlt))
            have hnl := HLL.out k hlt
            rw [lk_at hlt] at hni hnl
            have hno := (HLO.out _ (getD_mem lw0 hlt)).kept O2.out
            generalize ls.getD k lw0 = x at c0 c1 c2 c3 c4 c5 c6 c7 c8 HTK hni hnl hno
            have HNI := Lib.hid hni; have HNOK := Lib.hid hno
            clear hni hno
            go_upto_region 14 with (fail)
            refine alloc_abs (G := fun w0 => Code.wp _ _ _ _ w0) ?_
            intro wa hba hoa hsa
            have EA := Lib.hid hba; have DA := Lib.hid (DD.out.kept hoa)
            clear hba hoa hsa c0 c1 c2 c3 c4 c5 c6 c7 c8 lc
            have c0 := cell_got EA.out 0; have c1 := cell_got EA.out 1; have c2 := cell_got EA.out 2; have c3 := cell_got EA.out 3; have c4 := cell_got EA.out 4; have c5 := cell_got EA.out 5; have c6 := cell_got EA.out 6; have c7 := cell_got EA.out 7; have c8 := cell_got EA.out 8; have le := got_lt EA.out
            go_wp2_with fail
            refine (pLinkW DA.out T2.out x HNOK.out HNI.out hnl (by rw [List.length_append]; omega)).mono ?_
            rintro e wb ⟨rfl, hbb, _⟩
            have DB : Hid (Bld w2 wb (l7 ++ lksT (ls.map LkW.l) (k + 1))) := Lib.hid (by rw [HTK.out, ← List.append_assoc]; exact hbb)
            clear hbb c0 c1 c2 c3 c4 c5 c6 c7 c8 le
            go_wp2
            go_roundw
            case rel => exact ⟨k + 1, by omega, by go_num, DB.out⟩
            case measure => first | (simp [intOf]; done) | (simp [intOf]; omega)
          · obtain rfl : k = ls.length := by omega
            obtain ⟨w8, hwo⟩ : ∃ wo : World, wo = wr := ⟨_, rfl⟩
            subst hwo
            have D8 := DD
            have hz8 : (l7 ++ lksT (ls.map LkW.l) ls.length).length ≤ 400000 := by rw [List.length_append]; omega
            obtain ⟨l8, hl8⟩ : ∃ l8, l8 = l7 ++ lksT (ls.map LkW.l) ls.length := ⟨_, rfl⟩
            rw [← hl8] at D8 hz8 HT1
            have B8 := Lib.hid (D8.out.2.got B2.out (by simp))
            clear hl8 DD htl
            have g2 := cell_got B8.out 2; have lb := got_lt B8.out
            go_wp2
            go_loopw [50] (fun vi wr => TxI w2 ft.length (ftsT ft) l8 vi wr) (fun vi _ => ft.length - (intOf vi).toNat)
            case atStart => exact ⟨0, Nat.zero_le _, rfl, by simpa [ftsT] using D8.out⟩
            case round =>
              clear g2 lb hlt
              obtain ⟨k, hk2, rfl, hbl⟩ := hrel
              have DD := Lib.hid hbl
              clear hbl
              have htl := ftsT_len (fs := ft) HFL.out (k := k) hk2
              by_cases hlt : k < ft.length
              · obtain ⟨bk, off, hp, c0, c1, c2, c3, c4, lc⟩ := HFT.out.ft (O2.out.nil_trans DD.out.2) hlt
                subst hp
                have HTK := Lib.hid (ftsT_snoc (fs := ft) hlt)
                have hni := HFI.out _ (getD_mem ft0 hlt)
                generalize ft.getD k ft0 = x at c0 c1 c2 c3 c4 HTK hni
                obtain ⟨xn, xf, xt, xk, xv⟩ := x
                obtain ⟨i0, i1, i2, i3, hxk⟩ := hni
                dsimp only at c0 c1 c2 c3 c4 i0 i1 i2 i3 hxk
                obtain ⟨j, hj⟩ : ∃ j : Nat, xk = (j : Int) + 1 := ⟨(xk - 1).toNat, by omega⟩
                have hj9 : j < 9 := by omega
                subst hj
                have hkT : ftT ⟨xn, xf, xt, (j : Int) + 1, xv⟩ = (wFault ++ numT [xn, xf, xt]) ++ (32 :: kinds9.getD j [] ++ numT [xv] ++ [10]) := by
                  unfold ftT; dsimp only; rw [show ((j : Int) + 1 - 1).toNat = j by omega]
                rw [hkT] at HTK
                have J0 := Lib.hid i0; have J1 := Lib.hid i1; have J2 := Lib.hid i2; have J3 := Lib.hid i3
                clear hkT i0 i1 i2 i3 hxk
                go_upto_region 19 with (fail)
                refine alloc_abs (G := fun w0 => Code.wp _ _ _ _ w0) ?_
                intro wa hba hoa hsa
                have EA := Lib.hid hba; have DA := Lib.hid (DD.out.kept hoa)
                have HEX := Lib.hid (Nat.ne_of_gt DD.out.lt)
                clear hba hoa hsa c0 c1 c2 c3 c4 lc
                generalize wr.heap.size = ex at EA HEX
                have c0 := cell_got EA.out 0; have c1 := cell_got EA.out 1; have c2 := cell_got EA.out 2; have le := got_lt EA.out
                go_wp2_with fail
                refine alloc_abs (G := fun w0 => Calls _ _ _ w0 _) ?_
                intro wx hbx hox hsx
                clear hsx c0 c1 c2 le
                refine (pWordsN DA.out T2.out { data := #[102, 97, 117, 108, 116] } 5 (by decide) [xn, xf, xt] 3 rfl hbx hox (i64_three J0.out J1.out J2.out) (by decide) (by rw [List.length_append]; omega)).mono ?_
                rintro e wb ⟨rfl, lb, hlb, hzb, hbb, hfb⟩
                have DB := Lib.hid hbb; have EB := Lib.hid (hfb.got EA.out HEX.out (by decide))
                rw [List.length_append] at hzb
                clear hbb hfb hbx hox EA DA
                have hK := kind_len j
                obtain ⟨K, hKd⟩ : ∃ K : ByteArray, K = bstr (kinds9.getD j []) := ⟨_, rfl⟩
                have hKl : K.data.toList = kinds9.getD j [] := by rw [hKd]; rfl
                have hKs : K.size ≤ 7 := by rw [hKd, bstr_size]; exact hK
                have HEQ : Hid (l8 ++ ftsT ft (k + 1) = lb ++ (32 :: kinds9.getD j [] ++ numT [xv] ++ [10])) := Lib.hid (by
                  rw [HTK.out, hlb.out, show ({ data := #[102, 97, 117, 108, 116] } : ByteArray).data.toList = wFault from rfl]
                  generalize kinds9.getD j [] = kk
                  simp only [List.append_assoc])
                have HLN := Lib.hid (fun (v v' : World) (h1 : Only [] wb v) (h2 : Only [] v v') => ftLine DB.out T2.out (by omega) hKl hKs J3.out h1 h2)
                have HCK2 : Hid (∀ (v : World) (g : Nat), RowAt strC 9 1 v g 9 kinds9 → v.cell? ⟨g, j, none⟩ = some (.string K)) := Lib.hid (fun v g h => by rw [hKd]; exact cell_kind h hj9)
                clear hKl hK hKd
                have q1 : ¬ 9223372036854775807 < 1 + K.size := by omega
                have c3 := cell_got EB.out 3; have c4 := cell_got EB.out 4; have le := got_lt EB.out
                have hwj : IntKind.i64.wrap (j : Int) = (j : Int) := by rw [IntKind.wrap_i64]; omega
                go_upto_region 20 with (fail)
                refine wp_region_calm2 [1, 2, 3, 7, 8] [10] (OnlyC ([] : List Nat) wb) (by kernel_rfl) (by kernel_rfl) ?_
                simp only [pick, List.map_cons, List.map_nil, List.getD_cons_succ, List.getD_cons_zero]
                iterate 5 (refine wpCalm_step (fun K hK => ?_); go_simp; refine hK _ ?_; clear hK K)
                refine wpCalm_nil ?_
                clear c3 c4 le
                refine wabs (G := fun w0 => Rest _ _ _ _ _ _ _ w0 _) (R := fun w0 => Only [] wb w0) (Only.refl _ _).drew ?_
                intro ws hos
                have OW := Lib.hid hos
                clear hos
                refine Rest.by (X := Nat × Nat) (fun y a => (((((a.put (some 62) (.slice (some ⟨y.1, 0, none⟩) 9 9)).put (some 66) (.pointer (some ⟨y.1, j, none⟩))).put (some 67) (.string K)).put (some 68) (.string ({ data := #[32] } ++ K))).put (some 71) (.slice (some ⟨y.2, 0, none⟩) 1 1)).put (some 72) (.tuple #[])) (fun _ w' => Bld w2 w' (lb ++ (32 :: kinds9.getD j [] ++ numT [xv] ++ [10]))) ?_ ?_
                · rintro ⟨n1, n2⟩ w9 hb9
                  rw [← HEQ.out] at hb9
                  have D9 := Lib.hid hb9
                  simp only [Act.put, List.setIfInBounds_toArray, List.set_cons_succ, List.set_cons_zero]
                  clear hb9
                  go_wp2
                  go_roundw
                  case rel => exact ⟨k + 1, by omega, by go_num, D9.out⟩
                  case measure => first | (simp [intOf]; done) | (simp [intOf]; omega)
                · refine wpAnyC_next [0, 9] (by kernel_rfl) (by simp) (.inr (onlyC OW.out)) ?_
                  simp only [List.mem_cons, List.not_mem_nil, or_false, forall_eq_or_imp, forall_eq]
                  refine ⟨?_, ?_⟩
                  · refine wpOp_one rfl ?_
                    go_wp2_with fail
                    refine (pKinds _).mono ?_
                    rintro e v1 ⟨rfl, hrow1, ho1⟩
                    have R1 := Lib.hid hrow1; have o1 := Lib.hid ((OW.out).nil_trans ho1)
                    clear hrow1 ho1
                    go_wp2
                    simp only [nrm]
                    refine wpAnyC_next [4, 9] (by kernel_rfl) (by simp) (.inr (onlyC o1.out)) ?_
                    simp only [List.mem_cons, List.not_mem_nil, or_false, forall_eq_or_imp, forall_eq]
                    refine ⟨?_, ?_⟩
                    · refine wpOp_one rfl ?_
                      go_wp2
                      simp only [nrm]
                      refine wpAnyC_next [5, 9] (by kernel_rfl) (by simp) (.inr (onlyC o1.out)) ?_
                      simp only [List.mem_cons, List.not_mem_nil, or_false, forall_eq_or_imp, forall_eq]
                      refine ⟨?_, ?_⟩
                      · refine wpOp_one rfl ?_
                        have cr := HCK2.out _ _ R1.out; have lr := R1.out.lt
                        go_wp2
                        simp only [nrm]
                        clear cr lr
                        refine wpAnyC_next [6, 9] (by kernel_rfl) (by simp) (.inr (onlyC o1.out)) ?_
                        simp only [List.mem_cons, List.not_mem_nil, or_false, forall_eq_or_imp, forall_eq]
                        refine ⟨?_, ?_⟩
                        · refine wpOp_one rfl ?_
                          go_wp2
                          simp only [nrm]
                          refine wpAnyC_next [9] (by kernel_rfl) (by simp) (.inr (onlyC o1.out)) ?_
                          simp only [List.mem_cons, List.not_mem_nil, or_false, forall_eq]
                          refine wpOp_one rfl ?_
                          go_wp2
                          simp only [nrm]
                          refine alloc_abs (G := wpAnyC _ _ _ _ _ _ _ _ _) ?_
                          intro v5 hb5 ho5 hs5
                          have I5 := Lib.hid hb5; have o5 := Lib.hid ((o1.out).nil_trans ho5); have L5 := Lib.hid ho5
                          have R5 := Lib.hid (R1.out.kept ho5 (by simp))
                          clear hb5 ho5 hs5
                          refine wpAnyC_next [10] (by kernel_rfl) (by simp) (.inr (onlyC o5.out)) ?_
                          simp only [List.mem_cons, List.not_mem_nil, or_false, forall_eq]
                          refine wpOp_one rfl ?_
                          go_wp2_with fail
                          refine (HLN.out v1 v5 o1.out (L5.out) I5.out).mono ?_
                          rintro e vz ⟨rfl, hbz⟩
                          go_wp2
                          simp only [nrm]
                          refine wpAnyC_done (by kernel_rfl) (.inl (late_of (by kernel_rfl))) ⟨(ws.heap.size, v1.heap.size), ?_, hbz⟩
                          simp only [Act.put, List.setIfInBounds_toArray, List.set_cons_succ, List.set_cons_zero]
                        · refine wpOp_one rfl ?_
                          go_wp2
                          simp only [nrm]
                          refine alloc_abs (G := wpAnyC _ _ _ _ _ _ _ _ _) ?_
                          intro v7 hb7 ho7 hs7
                          have I7 := Lib.hid hb7; have o7 := Lib.hid ((o1.out).nil_trans ho7); have L7 := Lib.hid ho7
                          have R7 := Lib.hid (R1.out.kept ho7 (by simp))
                          clear hb7 ho7 hs7
                          refine wpAnyC_next [6] (by kernel_rfl) (by simp) (.inr (onlyC o7.out)) ?_
                          simp only [List.mem_cons, List.not_mem_nil, or_false, forall_eq]
                          refine wpOp_one rfl ?_
                          go_wp2
                          simp only [nrm]
                          refine wpAnyC_next [10] (by kernel_rfl) (by simp) (.inr (onlyC o7.out)) ?_
                          simp only [List.mem_cons, List.not_mem_nil, or_false, forall_eq]
                          refine wpOp_one rfl ?_
                          go_wp2_with fail
                          refine (HLN.out v1 v7 o1.out (L7.out) I7.out).mono ?_
                          rintro e vz ⟨rfl, hbz⟩
                          go_wp2
                          simp only [nrm]
                          refine wpAnyC_done (by kernel_rfl) (.inl (late_of (by kernel_rfl))) ⟨(ws.heap.size, v1.heap.size), ?_, hbz⟩
                          simp only [Act.put, List.setIfInBounds_toArray, List.set_cons_succ, List.set_cons_zero]
                      · refine wpOp_one rfl ?_
                        go_wp2
                        simp only [nrm]
                        refine alloc_abs (G := wpAnyC _ _ _ _ _ _ _ _ _) ?_
                        intro v10 hb10 ho10 hs10
                        have I10 := Lib.hid hb10; have o10 := Lib.hid ((o1.out).nil_trans ho10); have L10 := Lib.hid ho10
                        have R10 := Lib.hid (R1.out.kept ho10 (by simp))
                        clear hb10 ho10 hs10
                        refine wpAnyC_next [5] (by kernel_rfl) (by simp) (.inr (onlyC o10.out)) ?_
                        simp only [List.mem_cons, List.not_mem_nil, or_false, forall_eq]
                        refine wpOp_one rfl ?_
                        have cr := HCK2.out _ _ R10.out; have lr := R10.out.lt
                        go_wp2
                        simp only [nrm]
                        clear cr lr
                        refine wpAnyC_next [6] (by kernel_rfl) (by simp) (.inr (onlyC o10.out)) ?_
                        simp only [List.mem_cons, List.not_mem_nil, or_false, forall_eq]
                        refine wpOp_one rfl ?_
                        go_wp2
                        simp only [nrm]
                        refine wpAnyC_next [10] (by kernel_rfl) (by simp) (.inr (onlyC o10.out)) ?_
                        simp only [List.mem_cons, List.not_mem_nil, or_false, forall_eq]
                        refine wpOp_one rfl ?_
                        go_wp2_with fail
                        refine (HLN.out v1 v10 o1.out (L10.out) I10.out).mono ?_
                        rintro e vz ⟨rfl, hbz⟩
                        go_wp2
                        simp only [nrm]
                        refine wpAnyC_done (by kernel_rfl) (.inl (late_of (by kernel_rfl))) ⟨(ws.heap.size, v1.heap.size), ?_, hbz⟩
                        simp only [Act.put, List.setIfInBounds_toArray, List.set_cons_succ, List.set_cons_zero]
                    · refine wpOp_one rfl ?_
                      go_wp2
                      simp only [nrm]
                      refine alloc_abs (G := wpAnyC _ _ _ _ _ _ _ _ _) ?_
                      intro v14 hb14 ho14 hs14
                      have I14 := Lib.hid hb14; have o14 := Lib.hid ((o1.out).nil_trans ho14); have L14 := Lib.hid ho14
                      have R14 := Lib.hid (R1.out.kept ho14 (by simp))
                      clear hb14 ho14 hs14
                      refine wpAnyC_next [4] (by kernel_rfl) (by simp) (.inr (onlyC o14.out)) ?_
                      simp only [List.mem_cons, List.not_mem_nil, or_false, forall_eq]
                      refine wpOp_one rfl ?_
                      go_wp2
                      simp only [nrm]
                      refine wpAnyC_next [5] (by kernel_rfl) (by simp) (.inr (onlyC o14.out)) ?_
                      simp only [List.mem_cons, List.not_mem_nil, or_false, forall_eq]
                      refine wpOp_one rfl ?_
                      have cr := HCK2.out _ _ R14.out; have lr := R14.out.lt
                      go_wp2
                      simp only [nrm]
                      clear cr lr
                      refine wpAnyC_next [6] (by kernel_rfl) (by simp) (.inr (onlyC o14.out)) ?_
                      simp only [List.mem_cons, List.not_mem_nil, or_false, forall_eq]
                      refine wpOp_one rfl ?_
                      go_wp2
                      simp only [nrm]
                      refine wpAnyC_next [10] (by kernel_rfl) (by simp) (.inr (onlyC o14.out)) ?_
                      simp only [List.mem_cons, List.not_mem_nil, or_false, forall_eq]
                      refine wpOp_one rfl ?_
                      go_wp2_with fail
                      refine (HLN.out v1 v14 o1.out (L14.out) I14.out).mono ?_
                      rintro e vz ⟨rfl, hbz⟩
                      go_wp2
                      simp only [nrm]
                      refine wpAnyC_done (by kernel_rfl) (.inl (late_of (by kernel_rfl))) ⟨(ws.heap.size, v1.heap.size), ?_, hbz⟩
                      simp only [Act.put, List.setIfInBounds_toArray, List.set_cons_succ, List.set_cons_zero]
                  · refine wpOp_one rfl ?_
                    go_wp2
                    simp only [nrm]
                    refine alloc_abs (G := wpAnyC _ _ _ _ _ _ _ _ _) ?_
                    intro v19 hb19 ho19 hs19
                    have I19 := Lib.hid hb19; have o19 := Lib.hid ((OW.out).nil_trans ho19); have L19 := Lib.hid ho19
                    clear hb19 ho19 hs19
                    refine wpAnyC_next [0] (by kernel_rfl) (by simp) (.inr (onlyC o19.out)) ?_
                    simp only [List.mem_cons, List.not_mem_nil, or_false, forall_eq]
                    refine wpOp_one rfl ?_
                    go_wp2_with fail
                    refine (pKinds _).mono ?_
                    rintro e v20 ⟨rfl, hrow20, ho20⟩
                    have R20 := Lib.hid hrow20; have o20 := Lib.hid ((o19.out).nil_trans ho20)
                    have I20 := Lib.hid (ho20.got I19.out (by simp)); have L20 := Lib.hid ((L19.out).nil_trans ho20)
                    clear hrow20 ho20
                    go_wp2
                    simp only [nrm]
                    refine wpAnyC_next [4] (by kernel_rfl) (by simp) (.inr (onlyC o20.out)) ?_
                    simp only [List.mem_cons, List.not_mem_nil, or_false, forall_eq]
                    refine wpOp_one rfl ?_
                    go_wp2
                    simp only [nrm]
                    refine wpAnyC_next [5] (by kernel_rfl) (by simp) (.inr (onlyC o20.out)) ?_
                    simp only [List.mem_cons, List.not_mem_nil, or_false, forall_eq]
                    refine wpOp_one rfl ?_
                    have cr := HCK2.out _ _ R20.out; have lr := R20.out.lt
                    go_wp2
                    simp only [nrm]
                    clear cr lr
                    refine wpAnyC_next [6] (by kernel_rfl) (by simp) (.inr (onlyC o20.out)) ?_
                    simp only [List.mem_cons, List.not_mem_nil, or_false, forall_eq]
                    refine wpOp_one rfl ?_
                    go_wp2
                    simp only [nrm]
                    refine wpAnyC_next [10] (by kernel_rfl) (by simp) (.inr (onlyC o20.out)) ?_
                    simp only [List.mem_cons, List.not_mem_nil, or_false, forall_eq]
                    refine wpOp_one rfl ?_
                    go_wp2_with fail
                    refine (HLN.out ws v20 OW.out (L20.out) I20.out).mono ?_
                    rintro e vz ⟨rfl, hbz⟩
                    go_wp2
                    simp only [nrm]
                    refine wpAnyC_done (by kernel_rfl) (.inl (late_of (by kernel_rfl))) ⟨(v19.heap.size, ws.heap.size), ?_, hbz⟩
                    simp only [Act.put, List.setIfInBounds_toArray, List.set_cons_succ, List.set_cons_zero]
              · obtain rfl : k = ft.length := by omega
                have D9 := DD
                rw [← HT1.out] at D9
                go_wp2_with fail
                refine (bString D9.out HP.out).mono ?_
                rintro e w9 ⟨rfl, ho9⟩
                go_wp2
                refine bodyPost_ret (v := .tuple #[.string ⟨t1.toArray⟩, .int .i64 0]) (by simp [results, Tryd.results8, go_sem]) rfl ⟨?_, O2.out.nil_trans ho9⟩
                rw [HT2.out]
                rfl
  · have HR1 : Hid ((txtS s.sc).1 = []) := Lib.hid (by unfold txtS; rw [if_neg hc])
    have HR2 : Hid ((txtS s.sc).2 = 2) := Lib.hid (by unfold txtS; rw [if_neg hc])
    generalize txtS s.sc = tx at HR1 HR2 ⊢
    obtain ⟨t1, t2⟩ := tx
    have HT1 : Hid (t1 = []) := HR1
    have HT2 : Hid (t2 = 2) := HR2
    have hx : (chkS s.sc != 0) = true := by simp [hc]
    have hy : (chkS s.sc == 0) = false := by simp [hc]
    generalize chkS s.sc = er at HCK hx hy
    unfold scV at HCK ⊢
    clear hc hs hsd HR1 HR2
    go_enter Tryd.func8, Tryd.ntmps8
    go_upto_region 1 with (fail)
    refine alloc_abs (G := fun w0 => Code.wp _ _ _ _ w0) ?_
    intro w1 hb1 ho1 hs1
    have B1 := Lib.hid hb1; have O1 := Lib.hid ho1
    clear hb1 ho1 hs1
    have g0 := cell_got B1.out 0; have g1 := cell_got B1.out 1; have g2 := cell_got B1.out 2; have g3 := cell_got B1.out 3; have g4 := cell_got B1.out 4; have lb := got_lt B1.out
    go_wp2_with fail
    refine (HCK.out w1 O1.out).mono ?_
    rintro e w2 ⟨rfl, ho2⟩
    have O2 := Lib.hid (O1.out.nil_trans ho2)
    clear ho2 B1 O1 g0 g1 g2 g3 g4 lb
    go_wp2
    refine bodyPost_ret (v := .tuple #[.string ⟨#[]⟩, .int .i64 2]) (by simp [results, Tryd.results8, go_sem]) rfl ⟨?_, O2.out⟩
    rw [HT1.out, HT2.out]
    rfl
end Go.Proofs.YthmeifdgkodjlaaDoor
