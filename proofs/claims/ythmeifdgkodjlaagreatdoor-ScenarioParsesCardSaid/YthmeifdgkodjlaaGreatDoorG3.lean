/- Texts of one chain: XSg XSh XSi XSj XSk XSl XSm XSn XSo XSp XSq. -/
import Derived.Test.YthmeifdgkodjlaaGreatDoorG2
import Derived.Test.YthmeifdgkodjlaaGreatDoorGe
import Derived.Test.YthmeifdgkodjlaaGreatDoorShelfU
import Derived.Lib.ItoaMem
import Derived.Lib.AppendIntMem
import Derived.WalkKit
import Derived.BigCall
import Derived.Test.YthmeifdgkodjlaaGreatDoorG1
import Derived.RangeFuncOwn
import Derived.Lib.ParseIntBCases
import Derived.Shelf.Pu.ErrVarParseUint
/- The writer's words and line. Conditions: the library's table is laid; the lengths. -/
namespace Go.Proofs.YthmeifdgkodjlaaGreatDoor
open Go.RowKit

theorem itoaX (n : Int) (w : World) (h : i64 n) (ht : Tab w) :
    ∃ X : ByteArray, Hid (∀ w', Only [] w w' → Calls Tryz.prog 58 #[.int .i64 n] w' fun e w'' => e = .returned (.string X) ∧ Only [] w' w'') ∧ Hid (X.data.toList = it n) ∧ X.size ≤ 30 :=
  ⟨bstr (Lib.itoa n), Lib.hid (fun w' ho => itoa_plus n w' h.1 h.2 (ht.kept ho)), Lib.hid rfl, by rw [bstr_size]; have := Lib.itoa_length_le n h.1 h.2; omega⟩
/-- numbers, a blank before each -/
def numT (ns : List Int) : List UInt8 := ns.flatMap fun n => 32 :: it n
theorem numT_snoc (ns : List Int) (n : Int) : numT (ns ++ [n]) = numT ns ++ (32 :: it n) := by simp [numT]
theorem it_len {n : Int} (h : i64 n) : (it n).length ≤ 29 := by have := Lib.itoa_length_le n h.1 h.2; unfold it; omega
theorem numT_len : ∀ {ns : List Int}, (∀ n ∈ ns, i64 n) → (numT ns).length ≤ 30 * ns.length
  | [], _ => by simp [numT]
  | n :: r, h => by
    have h1 := it_len (h n (by simp))
    have h2 := numT_len (ns := r) (fun x hx => h x (by simp [hx]))
    simp only [numT, List.flatMap_cons, List.length_append, List.length_cons] at h2 ⊢
    omega
def WdI (w0 w : World) (l : List UInt8) (ns : List Int) (vi : Value) (wr : World) : Prop :=
  ∃ k : Nat, k ≤ ns.length ∧ vi = .int .i64 k ∧ Bld w0 wr (l ++ numT (ns.take k)) ∧ FrB w0.heap.size w wr
set_option maxRecDepth 100000 in
set_option maxHeartbeats 2000000 in
theorem pWords {w0 w : World} {l : List UInt8} (h : Bld w0 w l) (ht : Tab w0) (word : ByteArray) {g cap : Nat} {ns : List Int} (hr : RowAt itC 3 1 w g cap ns) (hg : g ≠ w0.heap.size) (hns : ∀ n ∈ ns, i64 n)
    (hlen : l.length + word.size + 30 * ns.length ≤ 10000000) :
    Calls Tryz.prog 33 #[.pointer (some ⟨w0.heap.size, 0, none⟩), .string word, .slice (some ⟨g, 0, none⟩) ns.length cap] w fun e w' => e = .returned (.tuple #[]) ∧ Bld w0 w' (l ++ word.data.toList ++ numT ns) ∧ FrB w0.heap.size w w' := by
  have HW := Lib.hid (bWriteString h word (by omega))
  have HR := Lib.hid hr; have HT := Lib.hid ht; have HNS := Lib.hid hns
  have hwl : word.data.toList.length = word.size := by rw [Array.length_toList]; rfl
  have hcap : (ns.length : Int) ≤ 9223372036854775807 := by omega
  clear h hr ht hns
  generalize hl1 : l ++ word.data.toList = l1 at HW ⊢
  have hl1l : l1.length = l.length + word.size := by rw [← hl1, List.length_append, hwl]
  clear hl1 hwl
  go_enter Tryz.func33, Tryz.ntmps33
  go_wp2_with fail
  refine HW.out.mono ?_
  rintro e w1 ⟨rfl, hb1, hf1⟩
  have D1 := Lib.hid hb1; have F1 := Lib.hid hf1
  clear hb1 hf1 HW
  go_wp2
  go_loopw [15] (fun vi wr => WdI w0 w l1 ns vi wr) (fun vi _ => ns.length - (intOf vi).toNat)
  case atStart => exact ⟨0, Nat.zero_le _, rfl, by simpa [numT] using D1.out, F1.out⟩
  case round =>
    obtain ⟨k, hk, rfl, hbl, hfr⟩ := hrel
    have DD := Lib.hid hbl; have FF := Lib.hid hfr
    clear hbl hfr
    by_cases hlt : k < ns.length
    · have hcell : wr.cell? ⟨g, k, none⟩ = some (.int .i64 (ns.getD k 0)) := by
        have := (FF.out.row HR.out hg (by decide)).cell (i := k) (j := 0) itC_len (getD_some 0 hlt) (by decide)
        simpa [itC] using this
      have lg := (FF.out.row HR.out hg (by decide)).lt
      have hi := HNS.out _ (getD_mem 0 hlt)
      have htk : numT (ns.take (k + 1)) = numT (ns.take k) ++ (32 :: it (ns.getD k 0)) := by rw [List.take_add_one, getD_some 0 hlt]; exact numT_snoc _ _
      have htl := numT_len (ns := ns.take k) (fun x hx => HNS.out x (List.mem_of_mem_take hx))
      have hlk : (ns.take k).length = k := by rw [List.length_take]; omega
      rw [hlk] at htl
      generalize ns.getD k 0 = n at hcell hi htk
      obtain ⟨X, HI, HX, hxl⟩ := itoaX n wr hi (HT.out.kept DD.out.2)
      have HTK := Lib.hid htk
      have q1 : ¬ 9223372036854775807 < 1 + X.size := by omega
      have HW := Lib.hid (fun (w' : World) (ho : Only [] wr w') => bWriteString (DD.out.kept ho) ({ data := #[32] } ++ X) (by
        rw [List.length_append, ByteArray.size_append]
        have : ({ data := #[32] } : ByteArray).size = 1 := rfl
        omega))
      have hd : ({ data := #[32] } ++ X : ByteArray).data.toList = 32 :: it n := by rw [ByteArray.data_append, Array.toList_append, HX.out]; rfl
      rw [hd, List.append_assoc, ← HTK.out] at HW
      clear htk hlk hi hd
      go_upto_region 4 with (fail)
      refine wp_region_grown [0, 1, 2, 3, 4, 5] [6] (by kernel_rfl) (by kernel_rfl) ?_
      simp only [pick, List.map_cons, List.map_nil, List.getD_cons_succ, List.getD_cons_zero]
      iterate 4 (refine wpQuiet_step (fun K hK => ?_); go_simp; refine hK _ ?_; clear hK K)
      refine wpQuiet_enter_w (by kernel_rfl) 58 #[.int .i64 n] (fun _ => by kernel_rfl) (.string X) (grown_only2 fun w' ho' => HI.out w' ho') ?_
      iterate 1 (refine wpQuiet_step (fun K hK => ?_); go_simp; refine hK _ ?_; clear hK K)
      refine wpQuiet_nil ?_
      intro w4 hw4
      have O4 := Lib.hid (only_of_plus hw4)
      clear hw4 hcell lg HI
      go_wp2_with fail
      refine (HW.out w4 O4.out).mono ?_
      rintro e w5 ⟨rfl, hb5, hf5⟩
      have D5 := Lib.hid hb5; have F5 := Lib.hid ((FF.out.trans (frB_only O4.out)).trans hf5)
      clear hb5 hf5 HW q1
      go_wp2
      go_roundw
      case rel => exact ⟨k + 1, by omega, by go_num, D5.out, F5.out⟩
      case measure => first | (simp [intOf]; done) | (simp [intOf]; omega)
    · obtain rfl : k = ns.length := by omega
      go_wp2
      go_end0
      have := DD.out
      rw [List.take_of_length_le (Nat.le_refl _)] at this
      exact ⟨rfl, this, FF.out⟩
set_option maxRecDepth 100000 in
set_option maxHeartbeats 2000000 in
theorem pLine {w0 w : World} {l : List UInt8} (h : Bld w0 w l) (ht : Tab w0) (word : ByteArray) {g cap : Nat} {ns : List Int} (hr : RowAt itC 3 1 w g cap ns) (hg : g ≠ w0.heap.size) (hns : ∀ n ∈ ns, i64 n)
    (hlen : l.length + word.size + 30 * ns.length ≤ 10000000) :
    Calls Tryz.prog 28 #[.pointer (some ⟨w0.heap.size, 0, none⟩), .string word, .slice (some ⟨g, 0, none⟩) ns.length cap] w fun e w' => e = .returned (.tuple #[]) ∧ Bld w0 w' (l ++ word.data.toList ++ numT ns ++ [10]) ∧ FrB w0.heap.size w w' := by
  have HW := Lib.hid (pWords h ht word hr hg hns hlen)
  have hnl := numT_len hns
  have hwl : word.data.toList.length = word.size := by rw [Array.length_toList]; rfl
  clear h hr ht hns
  go_enter Tryz.func28, Tryz.ntmps28
  go_wp2_with fail
  refine HW.out.mono ?_
  rintro e w1 ⟨rfl, hb1, hf1⟩
  have F1 := Lib.hid hf1
  have HB := Lib.hid (bWriteByte hb1 10 (by simp only [List.length_append]; omega))
  clear hb1 hf1 HW
  go_wp2_with fail
  refine HB.out.mono ?_
  rintro e w2 ⟨rfl, hb2, hf2⟩
  go_wp2
  go_end0
  exact ⟨rfl, hb2, F1.out.trans hf2⟩
end Go.Proofs.YthmeifdgkodjlaaGreatDoor

/- strconv.FormatUint at base 10. Condition: the library's table is laid. -/
namespace Go.Proofs.YthmeifdgkodjlaaGreatDoor
open Go.RowKit Go.Sort Go.Lib

set_option maxRecDepth 100000 in
set_option maxHeartbeats 4000000 in
theorem fuIn (u : Nat) (hu64 : u < 18446744073709551616) (w : World) (ht : Tab w) :
    Calls Tryz.prog 57 #[.int .u64 u, .int .i64 10] w fun e w' => e = .returned (.string ⟨(Lib.decDigits u).toArray⟩) ∧ Only [] w w' := by
  have HT := Lib.hid ht
  by_cases hs : u < 100
  · have hsm := Lib.hid (fun w' => Tryz.internal_strconv_small u hs w')
    have d1 : decide ((u : Int) < 100) = true := decide_eq_true (by omega)
    go_enter Tryz.func57, Tryz.ntmps57
    go_wp2_with fail
    refine (hsm.out _).mono ?_
    rintro e w' ⟨rfl, rfl⟩
    go_wp2
    go_ret
    exact ⟨rfl, Only.refl _ _⟩
  · have d1 : decide ((u : Int) < 100) = false := decide_eq_false (by omega)
    have hu1 : 1 ≤ u := by omega
    have hnd20 : Lib.nDigits u ≤ 20 := by have := Lib.numDigits_eq u hu1 hu64; split at this <;> omega
    have hal : Tryz.prog.arrayLen 134 = 24 := by kernel_rfl
    have hsl2 : ∀ (b : Nat) (W : World), (Instr.sliceAt 134 (.pointer (some ⟨b, 0, none⟩)) none (some (.int .i64 (Lib.nDigits u : Int))) none).run Tryz.prog W = .ok (.slice (some ⟨b, 0, none⟩) (Lib.nDigits u) 24) W := fun b W => by
      rw [run_sliceAt_array_h W 134 ⟨b, 0, none⟩ (by simp [Program.arrayLen, Program.elem, Tryz.underlying134]) .i64 (Lib.nDigits u : Int) (by omega) (by rw [hal]; omega)]
      go_simp
    have hH0 := Lib.holds_zero0 w 134 (Lib.nDigits u) (by omega)
    have hfmt := Tryz.internal_strconv_formatBase10 w.heap.size 0 24 u (Array.replicate (Lib.nDigits u) 0) (w.alloc (.cells Lib.zeros24 134)) hH0 (by rw [Array.size_replicate]; exact Lib.lt_pow_nDigits u) hu64 (by rw [Array.size_replicate]; omega)
    rw [Array.size_replicate] at hfmt
    have HH0 := Lib.hid hH0
    have hnd := Tryz.internal_strconv_numDigits u hu1 hu64 (w.alloc (.cells Lib.zeros24 134)) (ht.kept ((Only.refl _ _).alloc _))
    have hsl := hsl2 w.heap.size
    clear hH0 hal hsl2
    have HF := Lib.hid hfmt; have HN := Lib.hid hnd
    clear hfmt hnd ht
    have hs1 : (Lib.nDigits u : Int) ≤ 24 := by omega
    go_enter Tryz.func57, Tryz.ntmps57
    go_wp2_with fail
    refine HN.out.mono ?_
    rintro e w' ⟨rfl, rfl⟩
    go_wp2_with fail
    refine HF.out.mono ?_
    rintro e w' ⟨rfl, k, v', dk, rfl, hF⟩
    have hcv : (convert 63 9 (.slice (some ⟨w.heap.size, 0, none⟩) (Lib.nDigits u) 24)).run Tryz.prog ((putRow (fun (b : UInt8) => Value.int .u8 (b.toNat : Int)) (w.alloc (.cells Lib.zeros24 134)) w.heap.size 0 dk).drewN k) = .ok (.string ⟨(Lib.decDigits u).toArray⟩) ((putRow (fun (b : UInt8) => Value.int .u8 (b.toNat : Int)) (w.alloc (.cells Lib.zeros24 134)) w.heap.size 0 dk).drewN k) := by
      have h := run_convert_bytes_back (P := Tryz.prog) ((putRow (fun (b : UInt8) => Value.int .u8 (b.toNat : Int)) (w.alloc (.cells Lib.zeros24 134)) w.heap.size 0 dk).drewN k) 63 9 5 ⟨w.heap.size, 0, none⟩ 24 (Lib.decDigits u) Tryz.underlying63 Tryz.underlying5 Tryz.underlying9 (fun j hj => by
        rw [Lib.row_is_numeral hF j hj, Lib.add_plain, World.cell?_drewN]
        exact cell?_putRow (fun (b : UInt8) => Value.int .u8 (b.toNat : Int)) _ w.heap.size 0 _ dk HH0.out (by rw [hF.size, Array.size_replicate]) j (by rw [hF.size]; rw [Lib.decDigits_length] at hj; exact hj))
      rw [Lib.decDigits_length] at h
      exact h
    have HW : Hid (Only [] w ((putRow (fun (b : UInt8) => Value.int .u8 (b.toNat : Int)) (w.alloc (.cells Lib.zeros24 134)) w.heap.size 0 dk).drewN k)) := Lib.hid (by
      obtain ⟨os, eo⟩ := Lib.fin_at w (.cells Lib.zeros24 134) dk k 0
      rw [eo]
      exact only_of_below (Lib.below_grow w.heap.size w (Nat.le_refl _) k os))
    generalize (putRow (fun (b : UInt8) => Value.int .u8 (b.toNat : Int)) (w.alloc (.cells Lib.zeros24 134)) w.heap.size 0 dk).drewN k = W at hcv HW ⊢
    go_wp2
    go_ret
    exact ⟨rfl, HW.out⟩
set_option maxRecDepth 100000 in
theorem fu_plus (u : Nat) (hu64 : u < 18446744073709551616) (w : World) (ht : Tab w) :
    Calls Tryz.prog 30 #[.int .u64 u, .int .i64 10] w fun e w' => e = .returned (.string ⟨(Lib.decDigits u).toArray⟩) ∧ Only [] w w' := by
  have HC := Lib.hid (fuIn u hu64 w ht)
  go_enter Tryz.func30, Tryz.ntmps30
  go_wp2_with fail
  refine HC.out.mono ?_
  rintro e w' ⟨rfl, ho⟩
  go_wp2
  go_ret
  exact ⟨rfl, ho⟩
end Go.Proofs.YthmeifdgkodjlaaGreatDoor

/- The writer's lines of a node. Conditions: the library's table is laid; the node is one of a valid scene. -/
namespace Go.Proofs.YthmeifdgkodjlaaGreatDoor
open Go.RowKit

theorem joinN (a : List UInt8) : ∀ r : List (List UInt8), joinC 32 (a :: r) = a ++ r.flatMap (fun w => 32 :: w)
  | [] => by simp [joinC]
  | x :: r => by rw [joinC_cons 32 a (by simp), joinN x r]; simp
theorem lnT_n (a : List UInt8) (ns : List Int) : lnT (a :: ns.map it) = a ++ numT ns ++ [10] := by
  unfold lnT numT; rw [joinN, List.flatMap_map]
theorem Bld.lt {w0 w : World} {l : List UInt8} (h : Bld w0 w l) : w0.heap.size < w.heap.size := by
  rcases h.1 with h | h
  · exact h.lt
  · exact h.lt
theorem ints_row {w1 w2 : World} {ns : List Int} (hb : w2.heap[w1.heap.size]? = some (.cells (ns.map (Value.int .i64)).toArray 3 (0, 0))) (hl : ns.length ≤ 1000) : RowAt itC 3 1 w2 w1.heap.size ns.length ns := by
  refine ⟨_, hb, by simp, Nat.le_refl _, by unfold maxLen; omega, ?_⟩
  rw [List.take_of_length_le (by simp)]
  exact List.map_eq_flatMap
theorem pWordsN {w0 w1 w2 : World} {l : List UInt8} (h : Bld w0 w1 l) (ht : Tab w0) (word : ByteArray) (z : Nat) (hz : word.size ≤ z) (ns : List Int) (m : Nat) (hm : m = ns.length) (hb2 : w2.heap[w1.heap.size]? = some (.cells (ns.map (Value.int .i64)).toArray 3 (0, 0))) (ho : Only [] w1 w2) (hns : ∀ n ∈ ns, i64 n) (hml : m ≤ 1000)
    (hlen : l.length + z + 30 * m ≤ 10000000) :
    Calls Tryz.prog 33 #[.pointer (some ⟨w0.heap.size, 0, none⟩), .string word, .slice (some ⟨w1.heap.size, 0, none⟩) m m] w2 fun e w' => e = .returned (.tuple #[]) ∧ ∃ l', Hid (l' = l ++ (word.data.toList ++ numT ns)) ∧ l'.length ≤ l.length + z + 30 * m + 1 ∧ Bld w0 w' l' ∧ FrB w0.heap.size w1 w' := by
  subst hm
  have hlt := h.lt
  have hwl : word.data.toList.length = word.size := by rw [Array.length_toList]; rfl
  have hnl := numT_len hns
  refine (pWords (h.kept ho) ht word (ints_row hb2 hml) (by omega) hns (by omega)).mono ?_
  rintro e w' ⟨rfl, h1, h2⟩
  exact ⟨rfl, l ++ (word.data.toList ++ numT ns), Lib.hid rfl, by simp only [List.length_append]; omega, by simpa using h1, (frB_only ho).trans h2⟩
theorem pLineN {w0 w1 w2 : World} {l : List UInt8} (h : Bld w0 w1 l) (ht : Tab w0) (word : ByteArray) (z : Nat) (hz : word.size ≤ z) (ns : List Int) (m : Nat) (hm : m = ns.length) (hb2 : w2.heap[w1.heap.size]? = some (.cells (ns.map (Value.int .i64)).toArray 3 (0, 0))) (ho : Only [] w1 w2) (hns : ∀ n ∈ ns, i64 n) (hml : m ≤ 1000)
    (hlen : l.length + z + 30 * m ≤ 10000000) :
    Calls Tryz.prog 28 #[.pointer (some ⟨w0.heap.size, 0, none⟩), .string word, .slice (some ⟨w1.heap.size, 0, none⟩) m m] w2 fun e w' => e = .returned (.tuple #[]) ∧ ∃ l', Hid (l' = l ++ (word.data.toList ++ numT ns ++ [10])) ∧ l'.length ≤ l.length + z + 30 * m + 1 ∧ Bld w0 w' l' ∧ FrB w0.heap.size w1 w' := by
  subst hm
  have hlt := h.lt
  have hwl : word.data.toList.length = word.size := by rw [Array.length_toList]; rfl
  have hnl := numT_len hns
  refine (pLine (h.kept ho) ht word (ints_row hb2 hml) (by omega) hns (by omega)).mono ?_
  rintro e w' ⟨rfl, h1, h2⟩
  exact ⟨rfl, l ++ (word.data.toList ++ numT ns ++ [10]), Lib.hid rfl, by simp only [List.length_append, List.length_cons, List.length_nil]; omega, by simpa using h1, (frB_only ho).trans h2⟩
def SgI (w0 w : World) (l : List UInt8) (i : Int) (sg : List Sg) (vi : Value) (wr : World) : Prop :=
  ∃ k : Nat, k ≤ sg.length ∧ vi = .int .i64 k ∧ Bld w0 wr (l ++ ((sg.take k).map (sgW i)).flatMap lnT) ∧ FrB w0.heap.size w wr
def SvJ (w0 w : World) (l : List UInt8) (i : Int) (sv : List Int) (vi : Value) (wr : World) : Prop :=
  ∃ k : Nat, k ≤ sv.length ∧ vi = .int .i64 k ∧ Bld w0 wr (l ++ ((sv.take k).map (svW i)).flatMap lnT) ∧ FrB w0.heap.size w wr
theorem sgT {i : Int} {s : Sg} : lnT (sgW i s) = wSeg ++ numT [i, s.a, s.p] ++ [10] := lnT_n wSeg [i, s.a, s.p]
theorem svT {i v : Int} : lnT (svW i v) = wUse ++ numT [i, v] ++ [10] := lnT_n wUse [i, v]
theorem sg_snoc (i : Int) {sg : List Sg} {k : Nat} (h : k < sg.length) : ((sg.take (k + 1)).map (sgW i)).flatMap lnT = ((sg.take k).map (sgW i)).flatMap lnT ++ (wSeg ++ numT [i, (sg.getD k sg0).a, (sg.getD k sg0).p] ++ [10]) := by
  rw [List.take_add_one, getD_some sg0 h, ← sgT]; simp
theorem sv_snoc (i : Int) {sv : List Int} {k : Nat} (h : k < sv.length) : ((sv.take (k + 1)).map (svW i)).flatMap lnT = ((sv.take k).map (svW i)).flatMap lnT ++ (wUse ++ numT [i, sv.getD k 0] ++ [10]) := by
  rw [List.take_add_one, getD_some 0 h, ← svT]; simp
theorem sg_len {i : Int} (h0 : i64 i) : ∀ {sg : List Sg}, (∀ s ∈ sg, i64 s.a ∧ i64 s.p) → ((sg.map (sgW i)).flatMap lnT).length ≤ 100 * sg.length
  | [], _ => by simp
  | s :: r, h => by
    have h1 := sg_len h0 (sg := r) (fun x hx => h x (by simp [hx]))
    have h2 := numT_len (ns := [i, s.a, s.p]) (by have := h s (by simp); simp; exact ⟨h0, this.1, this.2⟩)
    simp only [List.map_cons, List.flatMap_cons, List.length_append, sgT, List.length_cons, List.length_nil] at h1 h2 ⊢
    have : wSeg.length = 3 := rfl
    omega
theorem sv_len {i : Int} (h0 : i64 i) : ∀ {sv : List Int}, (∀ s ∈ sv, i64 s) → ((sv.map (svW i)).flatMap lnT).length ≤ 100 * sv.length
  | [], _ => by simp
  | s :: r, h => by
    have h1 := sv_len h0 (sv := r) (fun x hx => h x (by simp [hx]))
    have h2 := numT_len (ns := [i, s]) (by have := h s (by simp); simp; exact ⟨h0, this⟩)
    simp only [List.map_cons, List.flatMap_cons, List.length_append, svT, List.length_cons, List.length_nil] at h1 h2 ⊢
    have : wUse.length = 3 := rfl
    omega
/-- the first line of a node -/
def hdN (n : Nd) (i : Int) : List UInt8 := wNode ++ numT [i] ++ (32 :: wTol ++ numT [n.tol]) ++ (32 :: wStart ++ numT [n.st]) ++ (if n.rf then 32 :: wRef ++ numT [n.er] else []) ++ [10]
theorem hdN_eq (n : Nd) (i : Int) : lnT (ndH n i) = hdN n i := by
  unfold lnT ndH hdN
  cases n.rf <;> simp [joinN, numT]
theorem hdN_len {n : Nd} {i : Int} (h0 : i64 i) (h : NdI n) : (hdN n i).length ≤ 200 := by
  have q0 := it_len h0; have q1 := it_len h.tol; have q2 := it_len h.st; have q3 := it_len h.er
  unfold hdN numT wNode wTol wStart wRef
  cases n.rf <;> simp <;> omega
def oscT (n : Nd) (i : Int) : List UInt8 := wOsc ++ numT [i, n.ph] ++ [10]
theorem ndT_eq (n : Nd) (i : Int) : (ndW n i).flatMap lnT = hdN n i ++ oscT n i ++ (n.sg.map (sgW i)).flatMap lnT ++ (n.sv.map (svW i)).flatMap lnT := by
  unfold ndW
  simp only [List.flatMap_append, List.flatMap_cons, List.flatMap_nil, List.append_nil, hdN_eq]
  rw [show lnT [wOsc, it i, it n.ph] = oscT n i from lnT_n wOsc [i, n.ph]]
theorem i64_one {n : Int} (h : i64 n) : ∀ x ∈ [n], i64 x := by intro x hx; simp only [List.mem_singleton] at hx; rw [hx]; exact h
theorem i64_two {a b : Int} (h : i64 a) (h1 : i64 b) : ∀ x ∈ [a, b], i64 x := by intro x hx; simp only [List.mem_cons, List.not_mem_nil, or_false] at hx; rcases hx with rfl | rfl <;> assumption
theorem i64_three {a b c : Int} (h : i64 a) (h1 : i64 b) (h2 : i64 c) : ∀ x ∈ [a, b, c], i64 x := by intro x hx; simp only [List.mem_cons, List.not_mem_nil, or_false] at hx; rcases hx with rfl | rfl | rfl <;> assumption
set_option maxRecDepth 100000 in
set_option maxHeartbeats 4000000 in
theorem pNodeW {w0 w : World} {l : List UInt8} (h : Bld w0 w l) (ht : Tab w0) (i : Int) (x : NdW) (hx : x.Ok w0) (h0 : i64 i) (hn : NdI x.n) (hsl : x.n.sg.length ≤ 16) (hvl : x.n.sv.length ≤ 12) (hlen : l.length ≤ 1000000) :
    Calls Tryz.prog 31 #[.pointer (some ⟨w0.heap.size, 0, none⟩), .int .i64 i, ndV x.n x.ps x.cs x.pv x.cv] w fun e w' => e = .returned (.tuple #[]) ∧ Bld w0 w' (l ++ (ndW x.n i).flatMap lnT) ∧ FrB w0.heap.size w w' := by
  rw [ndT_eq]
  obtain ⟨⟨ph, sg, tol, rf, er, st, sv⟩, ps, cs, pv, cv⟩ := x
  obtain ⟨htol, hst, her, hph, hsg, hsv, _⟩ := hn
  have hh := hdN_len h0 (n := ⟨ph, sg, tol, rf, er, st, sv⟩) ⟨htol, hst, her, hph, hsg, hsv, by assumption⟩
  unfold ndV oscT
  dsimp only at hsl hvl htol hst her hph hsg hsv ⊢
  have HH : Hid (hdN ⟨ph, sg, tol, rf, er, st, sv⟩ i = wNode ++ numT [i] ++ (32 :: wTol ++ numT [tol]) ++ (32 :: wStart ++ numT [st]) ++ (if rf then 32 :: wRef ++ numT [er] else []) ++ [10]) := Lib.hid rfl
  generalize hdN ⟨ph, sg, tol, rf, er, st, sv⟩ i = hd at HH hh ⊢
  have HV := Lib.hid hx.seg; have HW := Lib.hid hx.srv; have HT := Lib.hid ht; have D0 := Lib.hid h; have HSG := Lib.hid hsg; have HSV := Lib.hid hsv
  have I0 := Lib.hid h0; have ITOL := Lib.hid htol; have IST := Lib.hid hst; have IER := Lib.hid her; have IPH := Lib.hid hph
  dsimp only at HV HW
  clear hx ht h hsg hsv h0 htol hst her hph
  have HL0 := Lib.hid (it_len I0.out); have HL1 := Lib.hid (it_len ITOL.out); have HL2 := Lib.hid (it_len IST.out)
  generalize hR : l ++ (hd ++ (wOsc ++ numT [i, ph] ++ [10]) ++ (sg.map (sgW i)).flatMap lnT ++ (sv.map (svW i)).flatMap lnT) = R
  have HR := Lib.hid hR
  clear hR
  go_enter Tryz.func31, Tryz.ntmps31
  go_upto_region 1 with (fail)
  refine alloc_abs (G := fun w0 => Code.wp _ _ _ _ w0) ?_
  intro w1 hb1 ho1 hs1
  have B1 := Lib.hid hb1; have D1 := Lib.hid (D0.out.kept ho1); have F1 := Lib.hid (frB_refl w0.heap.size w1); have O1 := Lib.hid ho1
  have HBX := Lib.hid (Nat.ne_of_gt D0.out.lt)
  clear hb1 ho1 hs1 D0
  generalize w.heap.size = bx at B1 HBX
  have B0 := B1
  go_wp2_with fail
  refine alloc_abs (G := fun w0 => Calls _ _ _ w0 _) ?_
  intro wx hbx hox hsx
  clear hsx 
  refine (pWordsN D1.out HT.out { data := #[110, 111, 100, 101] } 4 (by decide) [i] 1 rfl hbx hox (i64_one I0.out) (by decide) (by omega)).mono ?_
  rintro e w2 ⟨rfl, l2, hl2, hz2, hb2, hf2⟩
  have D2 := Lib.hid hb2; have F2 := Lib.hid (F1.out.trans hf2); have B2 := Lib.hid (hf2.got B1.out HBX.out (by decide))
  clear hb2 hf2 hbx hox D1 F1 B1
  have g0 := cell_got B2.out 0; have g1 := cell_got B2.out 1; have g2 := cell_got B2.out 2; have g3 := cell_got B2.out 3; have g4 := cell_got B2.out 4; have g5 := cell_got B2.out 5; have g6 := cell_got B2.out 6; have lb := got_lt B2.out
  go_wp2_with fail
  refine alloc_abs (G := fun w0 => Calls _ _ _ w0 _) ?_
  intro wx hbx hox hsx
  clear hsx g0 g1 g2 g3 g4 g5 g6 lb
  refine (pWordsN D2.out HT.out { data := #[32, 116, 111, 108] } 4 (by decide) [tol] 1 rfl hbx hox (i64_one ITOL.out) (by decide) (by omega)).mono ?_
  rintro e w3 ⟨rfl, l3, hl3, hz3, hb3, hf3⟩
  have D3 := Lib.hid hb3; have F3 := Lib.hid (F2.out.trans hf3); have B3 := Lib.hid (hf3.got B2.out HBX.out (by decide))
  clear hb3 hf3 hbx hox D2 F2 B2
  have g0 := cell_got B3.out 0; have g1 := cell_got B3.out 1; have g2 := cell_got B3.out 2; have g3 := cell_got B3.out 3; have g4 := cell_got B3.out 4; have g5 := cell_got B3.out 5; have g6 := cell_got B3.out 6; have lb := got_lt B3.out
  go_wp2_with fail
  refine alloc_abs (G := fun w0 => Calls _ _ _ w0 _) ?_
  intro wx hbx hox hsx
  clear hsx g0 g1 g2 g3 g4 g5 g6 lb
  refine (pWordsN D3.out HT.out { data := #[32, 115, 116, 97, 114, 116] } 6 (by decide) [st] 1 rfl hbx hox (i64_one IST.out) (by decide) (by omega)).mono ?_
  rintro e w4 ⟨rfl, l4, hl4, hz4, hb4, hf4⟩
  have D4 := Lib.hid hb4; have F4 := Lib.hid (F3.out.trans hf4); have B4 := Lib.hid (hf4.got B3.out HBX.out (by decide))
  clear hb4 hf4 hbx hox D3 F3 B3
  have g0 := cell_got B4.out 0; have g1 := cell_got B4.out 1; have g2 := cell_got B4.out 2; have g3 := cell_got B4.out 3; have g4 := cell_got B4.out 4; have g5 := cell_got B4.out 5; have g6 := cell_got B4.out 6; have lb := got_lt B4.out
  cases rf with
  | true =>
    go_wp2_with fail
    refine alloc_abs (G := fun w0 => Calls _ _ _ w0 _) ?_
    intro wx hbx hox hsx
    clear hsx g0 g1 g2 g3 g4 g5 g6 lb
    refine (pWordsN D4.out HT.out { data := #[32, 114, 101, 102] } 4 (by decide) [er] 1 rfl hbx hox (i64_one IER.out) (by decide) (by omega)).mono ?_
    rintro e w5 ⟨rfl, l5, hl5, hz5, hb5, hf5⟩
    have D5 := Lib.hid hb5; have F5 := Lib.hid (F4.out.trans hf5); have B5 := Lib.hid (hf5.got B4.out HBX.out (by decide))
    clear hb5 hf5 hbx hox D4 F4 B4
    have HHD : Hid (l ++ hd = l5 ++ [10]) := Lib.hid (by rw [HH.out, hl5.out, hl4.out, hl3.out, hl2.out]; simp [wNode, wTol, wStart, wRef])
    clear hl2 hl3 hl4 hl5 HH
    have g0 := cell_got B5.out 0; have g1 := cell_got B5.out 1; have g2 := cell_got B5.out 2; have g3 := cell_got B5.out 3; have g4 := cell_got B5.out 4; have g5 := cell_got B5.out 5; have g6 := cell_got B5.out 6; have lb := got_lt B5.out
    go_wp2_with fail
    have HWB := Lib.hid (bWriteByte D5.out 10 (by omega))
    refine HWB.out.mono ?_
    rintro e w6 ⟨rfl, hb6, hf6⟩
    have D6 : Hid (Bld w0 w6 (l ++ hd)) := Lib.hid (by rw [HHD.out]; exact hb6)
    have F6 := Lib.hid (F5.out.trans hf6); have B6 := Lib.hid (hf6.got B5.out HBX.out (by decide))
    clear hb6 hf6 HWB D5 F5 B5 HHD hz5
    have hz6 : (l ++ hd).length ≤ l.length + 200 := by rw [List.length_append]; omega
    obtain ⟨l6, hl6⟩ : ∃ l6, l6 = l ++ hd := ⟨_, rfl⟩
    rw [← hl6] at D6 hz6
    have HL6 := Lib.hid hl6
    clear hl6
    have g0 := cell_got B6.out 0; have g1 := cell_got B6.out 1; have g2 := cell_got B6.out 2; have g3 := cell_got B6.out 3; have g4 := cell_got B6.out 4; have g5 := cell_got B6.out 5; have g6 := cell_got B6.out 6; have lb := got_lt B6.out
    go_wp2_with fail
    refine alloc_abs (G := fun w0 => Calls _ _ _ w0 _) ?_
    intro wx hbx hox hsx
    clear hsx g0 g1 g2 g3 g4 g5 g6 lb
    refine (pLineN D6.out HT.out { data := #[111, 115, 99] } 3 (by decide) [i, ph] 2 rfl hbx hox (i64_two I0.out IPH.out) (by decide) (by omega)).mono ?_
    rintro e w7 ⟨rfl, l7, hl7, hz7, hb7, hf7⟩
    have D7 := Lib.hid hb7; have F7 := Lib.hid (F6.out.trans hf7); have B7 := Lib.hid (hf7.got B6.out HBX.out (by decide))
    clear hb7 hf7 hbx hox D6 F6 B6
    have g0 := cell_got B7.out 0; have g1 := cell_got B7.out 1; have g2 := cell_got B7.out 2; have g3 := cell_got B7.out 3; have g4 := cell_got B7.out 4; have g5 := cell_got B7.out 5; have g6 := cell_got B7.out 6; have lb := got_lt B7.out
    go_wp2
    go_loopw [46] (fun vi wr => SgI w0 w1 l7 i sg vi wr) (fun vi _ => sg.length - (intOf vi).toNat)
    case atStart => exact ⟨0, Nat.zero_le _, rfl, by simpa using D7.out, F7.out⟩
    case round =>
      clear g0 g1 g2 g3 g4 g5 g6 lb
      obtain ⟨k, hk, rfl, hbl, hfr⟩ := hrel
      have DD := Lib.hid hbl; have FF := Lib.hid hfr; have BB := Lib.hid (hfr.got B0.out HBX.out (by decide))
      clear hbl hfr
      by_cases hlt : k < sg.length
      · obtain ⟨bk, off, hp, c0, c1, lc⟩ := HV.out.sg DD.out.2 hlt
        subst hp
        have HTK := Lib.hid (sg_snoc i hlt)
        have hsi := HSG.out _ (getD_mem sg0 hlt)
        have htl := sg_len I0.out (sg := sg.take k) (fun x hx => HSG.out x (List.mem_of_mem_take hx))
        rw [List.length_take, Nat.min_eq_left hk] at htl
        generalize sg.getD k sg0 = s at c0 c1 HTK hsi
        have IA := Lib.hid hsi.1; have IP := Lib.hid hsi.2
        clear hsi
        go_upto_region 11 with (fail)
        refine alloc_abs (G := fun w0 => Code.wp _ _ _ _ w0) ?_
        intro wa hba hoa hsa
        have EA := Lib.hid hba; have DA := Lib.hid (DD.out.kept hoa); have FA := Lib.hid (FF.out.trans (frB_only hoa))
        clear hba hoa hsa c0 c1 lc
        have c0 := cell_got EA.out 0; have c1 := cell_got EA.out 1; have le := got_lt EA.out
        go_wp2_with fail
        refine alloc_abs (G := fun w0 => Calls _ _ _ w0 _) ?_
        intro wx hbx hox hsx
        clear hsx c0 c1 le
        refine (pLineN DA.out HT.out { data := #[115, 101, 103] } 3 (by decide) [i, s.a, s.p] 3 rfl hbx hox (i64_three I0.out IA.out IP.out) (by decide) (by rw [List.length_append]; omega)).mono ?_
        rintro e wb ⟨rfl, lb, hlb, _, hbb, hfb⟩
        have DB : Hid (Bld w0 wb (l7 ++ ((sg.take (k + 1)).map (sgW i)).flatMap lnT)) := Lib.hid (by rw [HTK.out, ← List.append_assoc]; rw [hlb.out] at hbb; exact hbb)
        have FB := Lib.hid (FA.out.trans hfb)
        clear hbb hfb hbx hox hlb DA FA
        go_wp2
        go_roundw
        case rel => exact ⟨k + 1, by omega, by go_num, DB.out, FB.out⟩
        case measure => first | (simp [intOf]; done) | (simp [intOf]; omega)
      · obtain rfl : k = sg.length := by omega
        have D8 := DD
        rw [List.take_of_length_le (Nat.le_refl _)] at D8
        have hsl8 := sg_len I0.out HSG.out
        have hz8 : (l7 ++ (sg.map (sgW i)).flatMap lnT).length ≤ l.length + 2000 := by rw [List.length_append]; omega
        obtain ⟨l8, hl8⟩ : ∃ l8, l8 = l7 ++ (sg.map (sgW i)).flatMap lnT := ⟨_, rfl⟩
        rw [← hl8] at D8 hz8
        have HL8 := Lib.hid hl8
        clear hl8
        obtain ⟨w8, hwo⟩ : ∃ wo : World, wo = wr := ⟨_, rfl⟩
        subst hwo
        clear DD hsl8
        have g0 := cell_got BB.out 0; have g1 := cell_got BB.out 1; have g2 := cell_got BB.out 2; have g3 := cell_got BB.out 3; have g4 := cell_got BB.out 4; have g5 := cell_got BB.out 5; have g6 := cell_got BB.out 6; have lb := got_lt BB.out
        go_wp2
        go_loopw [62] (fun vi wr => SvJ w0 w1 l8 i sv vi wr) (fun vi _ => sv.length - (intOf vi).toNat)
        case atStart => exact ⟨0, Nat.zero_le _, rfl, by simpa using D8.out, FF.out⟩
        case round =>
          clear g0 g1 g2 g3 g4 g5 g6 lb
          obtain ⟨k, hk', rfl, hbl, hfr⟩ := hrel
          have DD := Lib.hid hbl; have FG := Lib.hid hfr
          clear hbl hfr
          by_cases hlt : k < sv.length
          · obtain ⟨bk, off, hp, c0, lc⟩ := HW.out.it DD.out.2 hlt
            subst hp
            have HTK := Lib.hid (sv_snoc i hlt)
            have IA := Lib.hid (HSV.out _ (getD_mem 0 hlt))
            have htl := sv_len I0.out (sv := sv.take k) (fun x hx => HSV.out x (List.mem_of_mem_take hx))
            rw [List.length_take, Nat.min_eq_left hk'] at htl
            generalize sv.getD k 0 = s at c0 HTK IA
            go_wp2_with fail
            refine alloc_abs (G := fun w0 => Calls _ _ _ w0 _) ?_
            intro wx hbx hox hsx
            clear hsx c0 lc
            refine (pLineN DD.out HT.out { data := #[117, 115, 101] } 3 (by decide) [i, s] 2 rfl hbx hox (i64_two I0.out IA.out) (by decide) (by rw [List.length_append]; omega)).mono ?_
            rintro e wb ⟨rfl, lb, hlb, _, hbb, hfb⟩
            have DB : Hid (Bld w0 wb (l8 ++ ((sv.take (k + 1)).map (svW i)).flatMap lnT)) := Lib.hid (by rw [HTK.out, ← List.append_assoc]; rw [hlb.out] at hbb; exact hbb)
            have FB := Lib.hid (FG.out.trans hfb)
            clear hbb hfb hbx hox hlb
            go_wp2
            go_roundw
            case rel => exact ⟨k + 1, by omega, by go_num, DB.out, FB.out⟩
            case measure => first | (simp [intOf]; done) | (simp [intOf]; omega)
          · obtain rfl : k = sv.length := by omega
            have D9 := DD
            rw [List.take_of_length_le (Nat.le_refl _)] at D9
            go_wp2
            go_end0
            exact ⟨rfl, by rw [← HR.out]; have h9 := D9.out; rw [HL8.out, hl7.out, HL6.out] at h9; simp only [List.append_assoc] at h9 ⊢; exact h9, (frB_only O1.out).trans FG.out⟩
  | false =>
    have D5 := D4; have F5 := F4; have B5 := B4
    obtain ⟨l5, hl5⟩ : ∃ l5, l5 = l4 := ⟨_, rfl⟩
    rw [← hl5] at D5
    have HHD : Hid (l ++ hd = l5 ++ [10]) := Lib.hid (by rw [HH.out, hl5, hl4.out, hl3.out, hl2.out]; simp [wNode, wTol, wStart])
    have hz5 : l5.length ≤ l4.length := by rw [hl5]; exact Nat.le_refl _
    clear hl2 hl3 hl4 hl5 HH D4 F4 B4
    go_wp2_with fail
    have HWB := Lib.hid (bWriteByte D5.out 10 (by omega))
    refine HWB.out.mono ?_
    rintro e w6 ⟨rfl, hb6, hf6⟩
    have D6 : Hid (Bld w0 w6 (l ++ hd)) := Lib.hid (by rw [HHD.out]; exact hb6)
    have F6 := Lib.hid (F5.out.trans hf6); have B6 := Lib.hid (hf6.got B5.out HBX.out (by decide))
    clear hb6 hf6 HWB D5 F5 B5 HHD hz5
    have hz6 : (l ++ hd).length ≤ l.length + 200 := by rw [List.length_append]; omega
    obtain ⟨l6, hl6⟩ : ∃ l6, l6 = l ++ hd := ⟨_, rfl⟩
    rw [← hl6] at D6 hz6
    have HL6 := Lib.hid hl6
    clear hl6
    have g0 := cell_got B6.out 0; have g1 := cell_got B6.out 1; have g2 := cell_got B6.out 2; have g3 := cell_got B6.out 3; have g4 := cell_got B6.out 4; have g5 := cell_got B6.out 5; have g6 := cell_got B6.out 6; have lb := got_lt B6.out
    go_wp2_with fail
    refine alloc_abs (G := fun w0 => Calls _ _ _ w0 _) ?_
    intro wx hbx hox hsx
    clear hsx g0 g1 g2 g3 g4 g5 g6 lb
    refine (pLineN D6.out HT.out { data := #[111, 115, 99] } 3 (by decide) [i, ph] 2 rfl hbx hox (i64_two I0.out IPH.out) (by decide) (by omega)).mono ?_
    rintro e w7 ⟨rfl, l7, hl7, hz7, hb7, hf7⟩
    have D7 := Lib.hid hb7; have F7 := Lib.hid (F6.out.trans hf7); have B7 := Lib.hid (hf7.got B6.out HBX.out (by decide))
    clear hb7 hf7 hbx hox D6 F6 B6
    have g0 := cell_got B7.out 0; have g1 := cell_got B7.out 1; have g2 := cell_got B7.out 2; have g3 := cell_got B7.out 3; have g4 := cell_got B7.out 4; have g5 := cell_got B7.out 5; have g6 := cell_got B7.out 6; have lb := got_lt B7.out
    go_wp2
    go_loopw [46] (fun vi wr => SgI w0 w1 l7 i sg vi wr) (fun vi _ => sg.length - (intOf vi).toNat)
    case atStart => exact ⟨0, Nat.zero_le _, rfl, by simpa using D7.out, F7.out⟩
    case round =>
      clear g0 g1 g2 g3 g4 g5 g6 lb
      obtain ⟨k, hk, rfl, hbl, hfr⟩ := hrel
      have DD := Lib.hid hbl; have FF := Lib.hid hfr; have BB := Lib.hid (hfr.got B0.out HBX.out (by decide))
      clear hbl hfr
      by_cases hlt : k < sg.length
      · obtain ⟨bk, off, hp, c0, c1, lc⟩ := HV.out.sg DD.out.2 hlt
        subst hp
        have HTK := Lib.hid (sg_snoc i hlt)
        have hsi := HSG.out _ (getD_mem sg0 hlt)
        have htl := sg_len I0.out (sg := sg.take k) (fun x hx => HSG.out x (List.mem_of_mem_take hx))
        rw [List.length_take, Nat.min_eq_left hk] at htl
        generalize sg.getD k sg0 = s at c0 c1 HTK hsi
        have IA := Lib.hid hsi.1; have IP := Lib.hid hsi.2
        clear hsi
        go_upto_region 11 with (fail)
        refine alloc_abs (G := fun w0 => Code.wp _ _ _ _ w0) ?_
        intro wa hba hoa hsa
        have EA := Lib.hid hba; have DA := Lib.hid (DD.out.kept hoa); have FA := Lib.hid (FF.out.trans (frB_only hoa))
        clear hba hoa hsa c0 c1 lc
        have c0 := cell_got EA.out 0; have c1 := cell_got EA.out 1; have le := got_lt EA.out
        go_wp2_with fail
        refine alloc_abs (G := fun w0 => Calls _ _ _ w0 _) ?_
        intro wx hbx hox hsx
        clear hsx c0 c1 le
        refine (pLineN DA.out HT.out { data := #[115, 101, 103] } 3 (by decide) [i, s.a, s.p] 3 rfl hbx hox (i64_three I0.out IA.out IP.out) (by decide) (by rw [List.length_append]; omega)).mono ?_
        rintro e wb ⟨rfl, lb, hlb, _, hbb, hfb⟩
        have DB : Hid (Bld w0 wb (l7 ++ ((sg.take (k + 1)).map (sgW i)).flatMap lnT)) := Lib.hid (by rw [HTK.out, ← List.append_assoc]; rw [hlb.out] at hbb; exact hbb)
        have FB := Lib.hid (FA.out.trans hfb)
        clear hbb hfb hbx hox hlb DA FA
        go_wp2
        go_roundw
        case rel => exact ⟨k + 1, by omega, by go_num, DB.out, FB.out⟩
        case measure => first | (simp [intOf]; done) | (simp [intOf]; omega)
      · obtain rfl : k = sg.length := by omega
        have D8 := DD
        rw [List.take_of_length_le (Nat.le_refl _)] at D8
        have hsl8 := sg_len I0.out HSG.out
        have hz8 : (l7 ++ (sg.map (sgW i)).flatMap lnT).length ≤ l.length + 2000 := by rw [List.length_append]; omega
        obtain ⟨l8, hl8⟩ : ∃ l8, l8 = l7 ++ (sg.map (sgW i)).flatMap lnT := ⟨_, rfl⟩
        rw [← hl8] at D8 hz8
        have HL8 := Lib.hid hl8
        clear hl8
        obtain ⟨w8, hwo⟩ : ∃ wo : World, wo = wr := ⟨_, rfl⟩
        subst hwo
        clear DD hsl8
        have g0 := cell_got BB.out 0; have g1 := cell_got BB.out 1; have g2 := cell_got BB.out 2; have g3 := cell_got BB.out 3; have g4 := cell_got BB.out 4; have g5 := cell_got BB.out 5; have g6 := cell_got BB.out 6; have lb := got_lt BB.out
        go_wp2
        go_loopw [62] (fun vi wr => SvJ w0 w1 l8 i sv vi wr) (fun vi _ => sv.length - (intOf vi).toNat)
        case atStart => exact ⟨0, Nat.zero_le _, rfl, by simpa using D8.out, FF.out⟩
        case round =>
          clear g0 g1 g2 g3 g4 g5 g6 lb
          obtain ⟨k, hk', rfl, hbl, hfr⟩ := hrel
          have DD := Lib.hid hbl; have FG := Lib.hid hfr
          clear hbl hfr
          by_cases hlt : k < sv.length
          · obtain ⟨bk, off, hp, c0, lc⟩ := HW.out.it DD.out.2 hlt
            subst hp
            have HTK := Lib.hid (sv_snoc i hlt)
            have IA := Lib.hid (HSV.out _ (getD_mem 0 hlt))
            have htl := sv_len I0.out (sv := sv.take k) (fun x hx => HSV.out x (List.mem_of_mem_take hx))
            rw [List.length_take, Nat.min_eq_left hk'] at htl
            generalize sv.getD k 0 = s at c0 HTK IA
            go_wp2_with fail
            refine alloc_abs (G := fun w0 => Calls _ _ _ w0 _) ?_
            intro wx hbx hox hsx
            clear hsx c0 lc
            refine (pLineN DD.out HT.out { data := #[117, 115, 101] } 3 (by decide) [i, s] 2 rfl hbx hox (i64_two I0.out IA.out) (by decide) (by rw [List.length_append]; omega)).mono ?_
            rintro e wb ⟨rfl, lb, hlb, _, hbb, hfb⟩
            have DB : Hid (Bld w0 wb (l8 ++ ((sv.take (k + 1)).map (svW i)).flatMap lnT)) := Lib.hid (by rw [HTK.out, ← List.append_assoc]; rw [hlb.out] at hbb; exact hbb)
            have FB := Lib.hid (FG.out.trans hfb)
            clear hbb hfb hbx hox hlb
            go_wp2
            go_roundw
            case rel => exact ⟨k + 1, by omega, by go_num, DB.out, FB.out⟩
            case measure => first | (simp [intOf]; done) | (simp [intOf]; omega)
          · obtain rfl : k = sv.length := by omega
            have D9 := DD
            rw [List.take_of_length_le (Nat.le_refl _)] at D9
            go_wp2
            go_end0
            exact ⟨rfl, by rw [← HR.out]; have h9 := D9.out; rw [HL8.out, hl7.out, HL6.out] at h9; simp only [List.append_assoc] at h9 ⊢; exact h9, (frB_only O1.out).trans FG.out⟩
end Go.Proofs.YthmeifdgkodjlaaGreatDoor

/- The writer's lines of a link. Conditions: the library's table is laid; the link is one of a valid scene. -/
namespace Go.Proofs.YthmeifdgkodjlaaGreatDoor
open Go.RowKit

theorem fuX (n : Nat) (w : World) (h : n ≤ 18446744073709551615) (ht : Tab w) :
    ∃ X : ByteArray, Hid (∀ w', Only [] w w' → Calls Tryz.prog 30 #[.int .u64 n, .int .i64 10] w' fun e w'' => e = .returned (.string X) ∧ Only [] w' w'') ∧ Hid (X.data.toList = Lib.decDigits n) ∧ X.size ≤ 20 :=
  ⟨bstr (Lib.decDigits n), Lib.hid (fun w' ho => fu_plus n (by omega) w' (ht.kept ho)), Lib.hid rfl, by rw [bstr_size]; exact dec_len_le 20 n (by decide) (by omega)⟩
def hdL (l : Lk) : List UInt8 := wLink ++ numT [l.A, l.B, l.d0, l.d1, l.v0, l.v1, l.lo] ++ (32 :: Lib.decDigits l.sd.toNat ++ [10])
theorem hdL_eq (l : Lk) : lnT (lkH l) = hdL l := by
  unfold lnT lkH hdL
  simp [joinN, numT]
theorem chT {l : Lk} {c : Ch} : lnT (chW l c) = wChange ++ numT [l.A, l.B, c.a, c.d, c.y] ++ [10] := lnT_n wChange [l.A, l.B, c.a, c.d, c.y]
theorem ch_snoc (l : Lk) {ch : List Ch} {k : Nat} (h : k < ch.length) : ((ch.take (k + 1)).map (chW l)).flatMap lnT = ((ch.take k).map (chW l)).flatMap lnT ++ (wChange ++ numT [l.A, l.B, (ch.getD k ch0).a, (ch.getD k ch0).d, (ch.getD k ch0).y] ++ [10]) := by
  rw [List.take_add_one, getD_some ch0 h, ← chT]; simp
theorem i64_five {a b c d e : Int} (h : i64 a) (h1 : i64 b) (h2 : i64 c) (h3 : i64 d) (h4 : i64 e) : ∀ x ∈ [a, b, c, d, e], i64 x := by intro x hx; simp only [List.mem_cons, List.not_mem_nil, or_false] at hx; rcases hx with rfl | rfl | rfl | rfl | rfl <;> assumption
theorem i64_seven {a b c d e f g : Int} (h : i64 a) (h1 : i64 b) (h2 : i64 c) (h3 : i64 d) (h4 : i64 e) (h5 : i64 f) (h6 : i64 g) : ∀ x ∈ [a, b, c, d, e, f, g], i64 x := by intro x hx; simp only [List.mem_cons, List.not_mem_nil, or_false] at hx; rcases hx with rfl | rfl | rfl | rfl | rfl | rfl | rfl <;> assumption
theorem ch_len {l : Lk} (hA : i64 l.A) (hB : i64 l.B) : ∀ {ch : List Ch}, (∀ c ∈ ch, i64 c.a ∧ i64 c.d ∧ i64 c.y) → ((ch.map (chW l)).flatMap lnT).length ≤ 200 * ch.length
  | [], _ => by simp
  | s :: r, h => by
    have h1 := ch_len hA hB (ch := r) (fun x hx => h x (by simp [hx]))
    have h2 := numT_len (i64_five hA hB (h s (by simp)).1 (h s (by simp)).2.1 (h s (by simp)).2.2)
    simp only [List.map_cons, List.flatMap_cons, List.length_append, chT, List.length_cons, List.length_nil] at h1 h2 ⊢
    have : wChange.length = 6 := rfl
    omega
theorem lkT_eq (l : Lk) : (lkW l).flatMap lnT = hdL l ++ (l.ch.map (chW l)).flatMap lnT := by
  unfold lkW
  rw [List.flatMap_cons, hdL_eq]
def ChI (w0 w : World) (l : List UInt8) (x : Lk) (ch : List Ch) (vi : Value) (wr : World) : Prop :=
  ∃ k : Nat, k ≤ ch.length ∧ vi = .int .i64 k ∧ Bld w0 wr (l ++ ((ch.take k).map (chW x)).flatMap lnT) ∧ FrB w0.heap.size w wr
set_option maxRecDepth 100000 in
set_option maxHeartbeats 4000000 in
theorem pLinkW {w0 w : World} {l : List UInt8} (h : Bld w0 w l) (ht : Tab w0) (x : LkW) (hx : x.Ok w0) (hn : LkI x.l) (hcl : x.l.ch.length ≤ 16) (hlen : l.length ≤ 1000000) :
    Calls Tryz.prog 32 #[.pointer (some ⟨w0.heap.size, 0, none⟩), slV x] w fun e w' => e = .returned (.tuple #[]) ∧ Bld w0 w' (l ++ (lkW x.l).flatMap lnT) ∧ FrB w0.heap.size w w' := by
  rw [lkT_eq]
  obtain ⟨lx, p, c⟩ := x
  have hcA : lx.A = lx.A := rfl
  have hCH : Hid ((lx.ch.map (chW lx)).flatMap lnT = (lx.ch.map (chW lx)).flatMap lnT) := Lib.hid rfl
  obtain ⟨hA, hB, hd0, hd1, hv0, hv1, hlo, hsd, hch⟩ := hn
  obtain ⟨u, hu⟩ : ∃ u : Nat, lx.sd = u := ⟨lx.sd.toNat, by have := hsd.1; simp only at this; omega⟩
  have hu64 : u ≤ 18446744073709551615 := by have := hsd.2; simp only at this; omega
  have hhd : hdL lx = wLink ++ numT [lx.A, lx.B, lx.d0, lx.d1, lx.v0, lx.v1, lx.lo] ++ (32 :: Lib.decDigits u ++ [10]) := by unfold hdL; rw [hu]; rfl
  unfold slV
  dsimp only at hcl hA hB hd0 hd1 hv0 hv1 hlo hch ⊢
  rw [hu, hhd]
  have HV := Lib.hid hx.row; have HT := Lib.hid ht; have D0 := Lib.hid h
  dsimp only at HV
  have IA := Lib.hid hA; have IB := Lib.hid hB; have I0 := Lib.hid hd0; have I1 := Lib.hid hd1; have I2 := Lib.hid hv0; have I3 := Lib.hid hv1; have I4 := Lib.hid hlo; have HCH := Lib.hid hch
  clear hx ht h hA hB hd0 hd1 hv0 hv1 hlo hch hsd hu hhd hcA hCH
  obtain ⟨A, B, d0, d1, v0, v1, lo, sd, ch⟩ := lx
  dsimp only at IA IB I0 I1 I2 I3 I4 HCH hcl HV ⊢
  generalize hR : l ++ (wLink ++ numT [A, B, d0, d1, v0, v1, lo] ++ (32 :: Lib.decDigits u ++ [10]) ++ (ch.map (chW ⟨A, B, d0, d1, v0, v1, lo, sd, ch⟩)).flatMap lnT) = R
  have HR := Lib.hid hR
  clear hR
  obtain ⟨lx, hlx⟩ : ∃ lx : Lk, lx = ⟨A, B, d0, d1, v0, v1, lo, sd, ch⟩ := ⟨_, rfl⟩
  rw [← hlx] at HR
  have HA : Hid (lx.A = A) := Lib.hid (by rw [hlx]); have HB : Hid (lx.B = B) := Lib.hid (by rw [hlx])
  clear hlx
  go_enter Tryz.func32, Tryz.ntmps32
  go_upto_region 1 with (fail)
  refine alloc_abs (G := fun w0 => Code.wp _ _ _ _ w0) ?_
  intro w1 hb1 ho1 hs1
  have B1 := Lib.hid hb1; have D1 := Lib.hid (D0.out.kept ho1); have O1 := Lib.hid ho1
  have HBX := Lib.hid (Nat.ne_of_gt D0.out.lt)
  clear hb1 ho1 hs1 D0
  generalize w.heap.size = bx at B1 HBX
  have g0 := cell_got B1.out 0; have g1 := cell_got B1.out 1; have g2 := cell_got B1.out 2; have g3 := cell_got B1.out 3; have g4 := cell_got B1.out 4; have g5 := cell_got B1.out 5; have g6 := cell_got B1.out 6; have g7 := cell_got B1.out 7; have g8 := cell_got B1.out 8; have lb := got_lt B1.out
  go_upto_region 2 with (fail)
  refine alloc_abs (G := fun w0 => Code.wp _ _ _ _ w0) ?_
  intro w2 hb2 ho2 hs2
  have K2 := Lib.hid hb2; have B2 := Lib.hid (ho2.got B1.out (by simp)); have D2 := Lib.hid (D1.out.kept ho2); have O2 := Lib.hid (O1.out.nil_trans ho2)
  have HKX := Lib.hid (Nat.ne_of_gt D1.out.lt)
  clear hb2 ho2 hs2 g0 g1 g2 g3 g4 g5 g6 g7 g8 lb D1 O1
  generalize w1.heap.size = kx at K2 HKX
  clear B1
  have F2 := Lib.hid (frB_refl w0.heap.size w2)
  have g0 := cell_got B2.out 0; have g1 := cell_got B2.out 1; have lb := got_lt B2.out
  have k0 := cell_got K2.out 0; have k1 := cell_got K2.out 1; have k2 := cell_got K2.out 2; have k3 := cell_got K2.out 3; have k4 := cell_got K2.out 4; have lk := got_lt K2.out
  go_wp2_with fail
  refine alloc_abs (G := fun w0 => Calls _ _ _ w0 _) ?_
  intro wx hbx hox hsx
  clear hsx g0 g1 lb k0 k1 k2 k3 k4 lk
  refine (pWordsN D2.out HT.out { data := #[108, 105, 110, 107] } 4 (by decide) [A, B, d0, d1, v0, v1, lo] 7 rfl hbx hox (i64_seven IA.out IB.out I0.out I1.out I2.out I3.out I4.out) (by decide) (by omega)).mono ?_
  rintro e w3 ⟨rfl, l3, hl3, hz3, hb3, hf3⟩
  have D3 := Lib.hid hb3; have F3 := Lib.hid (F2.out.trans hf3); have B3 := Lib.hid (hf3.got B2.out HBX.out (by decide)); have K3 := Lib.hid (hf3.got K2.out HKX.out (by decide))
  clear hb3 hf3 hbx hox D2 F2
  obtain ⟨X, HI, HX, hxl⟩ := fuX u w3 hu64 (HT.out.kept D3.out.2)
  have k5 := cell_got K3.out 5; have lk := got_lt K3.out
  have q1 : ¬ 9223372036854775807 < 1 + X.size := by omega
  have q2 : ¬ 9223372036854775807 < 1 + X.size + 1 := by omega
  have HW := Lib.hid (fun (w' : World) (ho : Only [] w3 w') => bWriteString (D3.out.kept ho) ({ data := #[32] } ++ X ++ { data := #[10] }) (by
    rw [ByteArray.size_append, ByteArray.size_append]
    have : ({ data := #[32] } : ByteArray).size = 1 := rfl
    have : ({ data := #[10] } : ByteArray).size = 1 := rfl
    omega))
  have hd : ({ data := #[32] } ++ X ++ { data := #[10] } : ByteArray).data.toList = 32 :: Lib.decDigits u ++ [10] := by rw [ByteArray.data_append, Array.toList_append, ByteArray.data_append, Array.toList_append, HX.out]; rfl
  rw [hd] at HW
  clear hd HX
  go_upto_region 3 with (fail)
  refine wp_region_grown [0, 1, 2, 3, 4, 5, 6, 7] [8] (by kernel_rfl) (by kernel_rfl) ?_
  simp only [pick, List.map_cons, List.map_nil, List.getD_cons_succ, List.getD_cons_zero]
  iterate 5 (refine wpQuiet_step (fun K hK => ?_); go_simp; refine hK _ ?_; clear hK K)
  refine wpQuiet_enter_w (by kernel_rfl) 30 #[.int .u64 u, .int .i64 10] (fun _ => by kernel_rfl) (.string X) (grown_only2 fun w' ho' => HI.out w' ho') ?_
  iterate 2 (refine wpQuiet_step (fun K hK => ?_); go_simp; refine hK _ ?_; clear hK K)
  refine wpQuiet_nil ?_
  intro w4 hw4
  have O4 := Lib.hid (only_of_plus hw4)
  clear hw4 k5 lk HI
  go_wp2_with fail
  refine (HW.out w4 O4.out).mono ?_
  rintro e w5 ⟨rfl, hb5, hf5⟩
  have D5 := Lib.hid hb5; have F5 := Lib.hid ((F3.out.trans (frB_only O4.out)).trans hf5)
  have B5 := Lib.hid (hf5.got (O4.out.got B3.out (by simp)) HBX.out (by decide)); have K5 := Lib.hid (hf5.got (O4.out.got K3.out (by simp)) HKX.out (by decide))
  clear hb5 hf5 HW q1 q2 D3 F3 B3 K3 O4
  have hz5 : (l3 ++ (32 :: Lib.decDigits u ++ [10])).length ≤ l.length + 300 := by
    have := dec_len_le 20 u (by decide) (by omega)
    simp only [List.length_append, List.length_cons, List.length_nil]; omega
  obtain ⟨l5, hl5⟩ : ∃ l5, l5 = l3 ++ (32 :: Lib.decDigits u ++ [10]) := ⟨_, rfl⟩
  rw [← hl5] at D5 hz5
  have HL5 := Lib.hid hl5
  clear hl5
  have k8 := cell_got K5.out 6; have lk := got_lt K5.out
  go_wp2
  clear k8 lk
  generalize ({ data := #[32] } ++ X ++ { data := #[10] } : ByteArray) = z3
  generalize ({ data := #[32] } ++ X : ByteArray) = z2
  go_loopw [42] (fun vi wr => ChI w0 w2 l5 lx ch vi wr) (fun vi _ => ch.length - (intOf vi).toNat)
  case atStart => exact ⟨0, Nat.zero_le _, rfl, by simpa using D5.out, F5.out⟩
  case round =>
    obtain ⟨k, hk, rfl, hbl, hfr⟩ := hrel
    have DD := Lib.hid hbl; have FF := Lib.hid hfr; have BB := Lib.hid (hfr.got B2.out HBX.out (by decide))
    clear hbl hfr
    by_cases hlt : k < ch.length
    · obtain ⟨bk, off, hp, c0, c1, c2, lc⟩ := HV.out.ch DD.out.2 hlt
      subst hp
      have HTK := Lib.hid (ch_snoc lx hlt)
      rw [HA.out, HB.out] at HTK
      have hsi := HCH.out _ (getD_mem ch0 hlt)
      have htl := ch_len (l := lx) (by rw [HA.out]; exact IA.out) (by rw [HB.out]; exact IB.out) (ch := ch.take k) (fun x hx => HCH.out x (List.mem_of_mem_take hx))
      rw [List.length_take, Nat.min_eq_left hk] at htl
      generalize ch.getD k ch0 = s at c0 c1 c2 HTK hsi
      have J0 := Lib.hid hsi.1; have J1 := Lib.hid hsi.2.1; have J2 := Lib.hid hsi.2.2
      clear hsi
      go_upto_region 7 with (fail)
      refine alloc_abs (G := fun w0 => Code.wp _ _ _ _ w0) ?_
      intro wa hba hoa hsa
      have EA := Lib.hid hba; have DA := Lib.hid (DD.out.kept hoa); have FA := Lib.hid (FF.out.trans (frB_only hoa)); have BA := Lib.hid (hoa.got BB.out (by simp))
      clear hba hoa hsa c0 c1 c2 lc
      have c0 := cell_got EA.out 0; have c1 := cell_got EA.out 1; have c2 := cell_got EA.out 2; have le := got_lt EA.out
      have g0 := cell_got BA.out 0; have g1 := cell_got BA.out 1; have lb := got_lt BA.out
      go_wp2_with fail
      refine alloc_abs (G := fun w0 => Calls _ _ _ w0 _) ?_
      intro wx hbx hox hsx
      clear hsx c0 c1 c2 le g0 g1 lb
      refine (pLineN DA.out HT.out { data := #[99, 104, 97, 110, 103, 101] } 6 (by decide) [A, B, s.a, s.d, s.y] 5 rfl hbx hox (i64_five IA.out IB.out J0.out J1.out J2.out) (by decide) (by rw [List.length_append]; omega)).mono ?_
      rintro e wb ⟨rfl, lb, hlb, _, hbb, hfb⟩
      have DB : Hid (Bld w0 wb (l5 ++ ((ch.take (k + 1)).map (chW lx)).flatMap lnT)) := Lib.hid (by rw [HTK.out, ← List.append_assoc]; rw [hlb.out] at hbb; exact hbb)
      have FB := Lib.hid (FA.out.trans hfb)
      clear hbb hfb hbx hox hlb DA FA
      go_wp2
      go_roundw
      case rel => exact ⟨k + 1, by omega, by go_num, DB.out, FB.out⟩
      case measure => first | (simp [intOf]; done) | (simp [intOf]; omega)
    · obtain rfl : k = ch.length := by omega
      have D9 := DD
      rw [List.take_of_length_le (Nat.le_refl _)] at D9
      go_wp2
      go_end0
      exact ⟨rfl, by rw [← HR.out]; have h9 := D9.out; rw [HL5.out, hl3.out] at h9; simp only [List.append_assoc] at h9 ⊢; exact h9, (frB_only O2.out).trans FF.out⟩
end Go.Proofs.YthmeifdgkodjlaaGreatDoor

/- scenario.Text. Conditions: the library's table is laid; the seeds are numbers of 64 bits; the lengths. -/
namespace Go.Proofs.YthmeifdgkodjlaaGreatDoor
open Go.RowKit

set_option maxRecDepth 100000 in
theorem pKinds (w : World) : Calls Tryz.prog 34 #[] w fun e w' => e = .returned (.slice (some ⟨w.heap.size, 0, none⟩) 9 9) ∧ RowAt strC 9 1 w' w.heap.size 9 kinds9 ∧ Only [] w w' := by
  go_enter Tryz.func34, Tryz.ntmps34
  go_wp2
  go_ret
  exact ⟨rfl, ⟨_, alloc_new _ _, rfl, Nat.le_refl _, by decide, rfl⟩, (Only.refl _ _).alloc _⟩
def ftT (f : Ft) : List UInt8 := wFault ++ numT [f.n, f.f, f.t] ++ (32 :: kinds9.getD (f.k - 1).toNat [] ++ numT [f.v] ++ [10])
theorem ftT_eq (f : Ft) : lnT (ftW f) = ftT f := by
  unfold lnT ftW ftT
  simp [joinN, numT]
theorem kind_len (j : Nat) : (kinds9.getD j []).length ≤ 7 := by
  rcases Nat.lt_or_ge j 9 with h | h
  · have : ∀ j, j < 9 → (kinds9.getD j []).length ≤ 7 := by decide
    exact this j h
  · rw [List.getD_eq_getElem?_getD, List.getElem?_eq_none (by simpa [kinds9] using h)]; simp
theorem cell_kind {w : World} {g j : Nat} (h : RowAt strC 9 1 w g 9 kinds9) (hj : j < 9) : w.cell? ⟨g, j, none⟩ = some (.string (bstr (kinds9.getD j []))) := by
  have := h.cell (i := j) (j := 0) strC_len (getD_some [] (by exact hj)) (by decide)
  simpa [strC] using this
theorem ndT_len {n : Nd} {i : Int} (h0 : i64 i) (h : NdI n) (h1 : n.sg.length ≤ 16) (h2 : n.sv.length ≤ 12) : ((ndW n i).flatMap lnT).length ≤ 3400 := by
  have q0 := hdN_len h0 h; have q1 := sg_len h0 h.sg; have q2 := sv_len h0 h.sv; have q3 := numT_len (i64_two h0 h.ph)
  rw [ndT_eq]
  simp only [oscT, List.length_append, List.length_cons, List.length_nil] at q0 q1 q2 q3 ⊢
  have : wOsc.length = 3 := rfl
  omega
theorem lkT_len {l : Lk} (h : LkI l) (h1 : l.ch.length ≤ 16) : ((lkW l).flatMap lnT).length ≤ 3700 := by
  have q0 := numT_len (i64_seven h.A h.B h.d0 h.d1 h.v0 h.v1 h.lo); have q1 := ch_len h.A h.B h.ch
  have q2 := dec_len_le 20 l.sd.toNat (by decide) (by have := h.sd; omega)
  rw [lkT_eq]
  simp only [hdL, List.length_append, List.length_cons, List.length_nil] at q0 q1 q2 ⊢
  have : wLink.length = 4 := rfl
  omega
theorem ftT_len {f : Ft} (h : FtI f) : (ftT f).length ≤ 200 := by
  have q0 := numT_len (i64_three h.n h.f h.t); have q1 := numT_len (i64_one h.v); have q2 := kind_len (f.k - 1).toNat
  simp only [ftT, List.length_append, List.length_cons, List.length_nil] at q0 q1 ⊢
  have : wFault.length = 5 := rfl
  omega
theorem linkE_len {l : Lk} (h : linkE l = 0) : l.ch.length ≤ 16 := by
  unfold linkE at h
  obtain ⟨_, h⟩ := if_eq h (by decide)
  obtain ⟨_, h⟩ := if_eq h (by decide)
  obtain ⟨h, _⟩ := if_ne h (by decide)
  omega
/-- the text of the first nodes, links, faults -/
def ndsT (ns : List Nd) (k : Nat) : List UInt8 := (ndsW (ns.take k) 0).flatMap lnT
def lksT (ls : List Lk) (k : Nat) : List UInt8 := ((ls.take k).flatMap lkW).flatMap lnT
def ftsT (fs : List Ft) (k : Nat) : List UInt8 := ((fs.take k).map ftW).flatMap lnT
theorem ndsT_snoc {ns : List Nd} {k : Nat} (h : k < ns.length) : ndsT ns (k + 1) = ndsT ns k ++ (ndW (ns.getD k nd0) k).flatMap lnT := by
  unfold ndsT
  rw [List.take_add_one, getD_some nd0 h, Option.toList_some, ndsW_append, List.flatMap_append, List.length_take, Nat.min_eq_left (Nat.le_of_lt h)]
  simp [ndsW]
theorem lksT_snoc {ls : List Lk} {k : Nat} (h : k < ls.length) : lksT ls (k + 1) = lksT ls k ++ (lkW (ls.getD k lk0)).flatMap lnT := by
  unfold lksT
  rw [List.take_add_one, getD_some lk0 h]; simp
theorem ftsT_snoc {fs : List Ft} {k : Nat} (h : k < fs.length) : ftsT fs (k + 1) = ftsT fs k ++ ftT (fs.getD k ft0) := by
  unfold ftsT
  rw [List.take_add_one, getD_some ft0 h, ← ftT_eq]; simp
theorem ndsT_len {ns : List Nd} (hl : ns.length ≤ 24) (h : ∀ i, i < ns.length → ((ndW (ns.getD i nd0) i).flatMap lnT).length ≤ 3400) : ∀ {k : Nat}, k ≤ ns.length → (ndsT ns k).length ≤ 3400 * k
  | 0, _ => by simp [ndsT, ndsW]
  | k + 1, hk => by
    have h1 := ndsT_len hl h (k := k) (by omega)
    rw [ndsT_snoc (by omega), List.length_append]
    have := h k (by omega)
    omega
theorem lksT_len {ls : List Lk} (h : ∀ i, i < ls.length → ((lkW (ls.getD i lk0)).flatMap lnT).length ≤ 3700) : ∀ {k : Nat}, k ≤ ls.length → (lksT ls k).length ≤ 3700 * k
  | 0, _ => by simp [lksT]
  | k + 1, hk => by
    have h1 := lksT_len h (k := k) (by omega)
    rw [lksT_snoc (by omega), List.length_append]
    have := h k (by omega)
    omega
theorem ftsT_len {fs : List Ft} (h : ∀ i, i < fs.length → (ftT (fs.getD i ft0)).length ≤ 200) : ∀ {k : Nat}, k ≤ fs.length → (ftsT fs k).length ≤ 200 * k
  | 0, _ => by simp [ftsT]
  | k + 1, hk => by
    have h1 := ftsT_len h (k := k) (by omega)
    rw [ftsT_snoc (by omega), List.length_append]
    have := h k (by omega)
    omega
set_option maxRecDepth 100000 in
theorem ftLine {w2 wb v v' : World} {lb : List UInt8} (h : Bld w2 wb lb) (ht : Tab w2) (hlb : lb.length ≤ 1000000) {j : Nat} {K : ByteArray} (hK : K.data.toList = kinds9.getD j []) (hKs : K.size ≤ 7) {xv : Int} (hv : i64 xv) (h1 : Only [] wb v) (h2 : Only [] v v')
    (h3 : v'.heap[v.heap.size]? = some (.cells #[.int .i64 xv] 3 (0, 0))) :
    Calls Tryz.prog 28 #[.pointer (some ⟨w2.heap.size, 0, none⟩), .string ({ data := #[32] } ++ K), .slice (some ⟨v.heap.size, 0, none⟩) 1 1] v' fun e w' => e = .returned (.tuple #[]) ∧ Bld w2 w' (lb ++ (32 :: kinds9.getD j [] ++ numT [xv] ++ [10])) := by
  have hzs : ({ data := #[32] } ++ K : ByteArray).size ≤ 8 := by rw [ByteArray.size_append]; have : ({ data := #[32] } : ByteArray).size = 1 := rfl; omega
  have hdl : ({ data := #[32] } ++ K : ByteArray).data.toList = 32 :: kinds9.getD j [] := by rw [ByteArray.data_append, Array.toList_append, hK]; rfl
  generalize ({ data := #[32] } ++ K : ByteArray) = W at hzs hdl ⊢
  have hc := pLineN (h.kept h1) ht W 8 hzs [xv] 1 rfl h3 h2 (i64_one hv) (by decide) (by omega)
  rw [hdl] at hc
  clear hzs hdl hK hKs
  generalize kinds9.getD j [] = kk at hc ⊢
  refine hc.mono ?_
  rintro e w' ⟨rfl, l', hl', _, hb', _⟩
  rw [hl'.out] at hb'
  exact ⟨rfl, hb'⟩
def TxI (w0 : World) (n : Nat) (T : Nat → List UInt8) (l : List UInt8) (vi : Value) (wr : World) : Prop :=
  ∃ k : Nat, k ≤ n ∧ vi = .int .i64 k ∧ Bld w0 wr (l ++ T k)
set_option maxRecDepth 100000 in
set_option maxHeartbeats 8000000 in
theorem pText {w : World} (s : ScW) (hs : s.Ok w) (hsd : SdOk s.sc) (ht : Tab w) :
    Calls Tryz.prog 12 #[scV s] w fun e w' => e = .returned (.tuple #[.string (bstr (txtS s.sc).1), .int .i64 (txtS s.sc).2]) ∧ Only [] w w' := by
  have HCK := Lib.hid (fun (w' : World) (ho : Only [] w w') => pCheck s (hs.kept ho))
  have HT := Lib.hid ht
  clear ht
  by_cases hc : chkS s.sc = 0
  · have hI := scI_of hc hsd
    have hO := chkS_ok hc
    have HR1 : Hid ((txtS s.sc).1 = scT s.sc) := Lib.hid (by unfold txtS; rw [if_pos hc])
    have HR2 : Hid ((txtS s.sc).2 = 0) := Lib.hid (by unfold txtS; rw [if_pos hc])
    rw [hc] at HCK
    have hnl : ∀ i, i < s.sc.nd.length → (s.sc.nd.getD i nd0).sg.length ≤ 16 ∧ (s.sc.nd.getD i nd0).sv.length ≤ 12 := fun i hi => ⟨(oscE_ok (hO.nd i hi).osc).2.2.1, (hO.nd i hi).len⟩
    have hll : ∀ i, i < s.sc.lk.length → (s.sc.lk.getD i lk0).ch.length ≤ 16 := fun i hi => linkE_len (hO.lk i hi).lk
    have hsc : scT s.sc = lnT [wUntil, it s.un] ++ lnT [wSeed, Lib.decDigits s.sd.toNat] ++ ndsT s.sc.nd s.nd.length ++ lksT s.sc.lk s.lk.length ++ ftsT s.ft s.ft.length := by
      unfold scT scW ndsT lksT ftsT
      rw [List.take_of_length_le (by simp [ScW.sc]), List.take_of_length_le (by simp [ScW.sc]), List.take_of_length_le (Nat.le_refl _)]
      simp [ScW.sc]
    generalize txtS s.sc = tx at HR1 HR2 ⊢
    obtain ⟨t1, t2⟩ := tx
    have HT1 : Hid (t1 = scT s.sc) := HR1
    have HT2 : Hid (t2 = 0) := HR2
    clear HR1 HR2
    have h1 := hO.n1; have h2 := hO.l1; have h3 := hO.fl
    have hun := hI.un; have hsd0 := hI.sd
    obtain ⟨u, hu⟩ : ∃ u : Nat, s.sd = u := ⟨s.sd.toNat, by have := hsd0.1; simp only [ScW.sc] at this; omega⟩
    have hu64 : u ≤ 18446744073709551615 := by have := hsd0.2; simp only [ScW.sc] at this; omega
    have hnd := hI.nd; have hlk := hI.lk; have hft := hI.ft
    rw [hsc, hu, Int.toNat_natCast] at HT1
    have HP : Hid (t1 ≠ []) := Lib.hid (by rw [HT1.out]; simp [lnT])
    obtain ⟨ns, ls, ft, un, sd, pn, cn, pl, cl, pf, cf⟩ := s
    dsimp only at hu
    subst hu
    unfold scV at HCK ⊢
    dsimp only [ScW.sc] at HCK HT1 h1 h2 h3 hun hnd hlk hft hnl hll ⊢
    rw [List.length_map] at h1 h2 hnl hll
    have HN := Lib.hid hs.nd; have HL := Lib.hid hs.lk; have HFT := Lib.hid hs.ft; have HNO := Lib.hid hs.ndo; have HLO := Lib.hid hs.lko
    have HND := Lib.hid hnd; have HLK := Lib.hid hlk; have HFI := Lib.hid hft; have HNL := Lib.hid hnl; have HLL := Lib.hid hll; have HUN := Lib.hid hun
    clear hs hnd hlk hft hnl hll hun hI hO hsc hc hsd hsd0
    dsimp only at HN HL HFT HNO HLO
    have HNT : Hid (∀ i, i < ns.length → ((ndW ((ns.map NdW.n).getD i nd0) i).flatMap lnT).length ≤ 3400) := Lib.hid (fun i hi => ndT_len (by constructor <;> omega) (HND.out _ (getD_mem nd0 (by simpa using hi))) (HNL.out i hi).1 (HNL.out i hi).2)
    have HLT : Hid (∀ i, i < ls.length → ((lkW ((ls.map LkW.l).getD i lk0)).flatMap lnT).length ≤ 3700) := Lib.hid (fun i hi => lkT_len (HLK.out _ (getD_mem lk0 (by simpa using hi))) (HLL.out i hi))
    have HFL : Hid (∀ i, i < ft.length → (ftT (ft.getD i ft0)).length ≤ 200) := Lib.hid (fun i hi => ftT_len (HFI.out _ (getD_mem ft0 hi)))
    go_enter Tryz.func12, Tryz.ntmps12
    go_upto_region 1 with (fail)
    refine alloc_abs (G := fun w0 => Code.wp _ _ _ _ w0) ?_
    intro w1 hb1 ho1 hs1
    have B1 := Lib.hid hb1; have O1 := Lib.hid ho1
    clear hb1 ho1 hs1
    have g0 := cell_got B1.out 0; have g1 := cell_got B1.out 1; have g2 := cell_got B1.out 2; have g3 := cell_got B1.out 3; have g4 := cell_got B1.out 4; have lb := got_lt B1.out
    go_wp2_with fail
    refine (HCK.out w1 O1.out).mono ?_
    rintro e w2 ⟨rfl, ho2⟩
    have B2 := Lib.hid (ho2.got B1.out (by simp)); have O2 := Lib.hid (O1.out.nil_trans ho2)
    clear ho2 B1 O1 g0 g1 g2 g3 g4 lb
    go_upto_region 4 with (fail)
    refine alloc_abs (G := fun w0 => Code.wp _ _ _ _ w0) ?_
    intro w3 hb3 ho3 hs3
    have D3 := Lib.hid (bld_new hb3 ho3); have B3 := Lib.hid (ho3.got B2.out (by simp)); have T2 := Lib.hid (HT.out.kept O2.out)
    clear hb3 ho3 hs3
    have g3 := cell_got B3.out 3; have lb := got_lt B3.out
    go_wp2_with fail
    refine alloc_abs (G := fun w0 => Calls _ _ _ w0 _) ?_
    intro wx hbx hox hsx
    clear hsx g3 lb
    refine (pLineN D3.out T2.out { data := #[117, 110, 116, 105, 108] } 5 (by decide) [un] 1 rfl hbx hox (i64_one HUN.out) (by decide) (by simp)).mono ?_
    rintro e w4 ⟨rfl, l4, hl4, hz4, hb4, _⟩
    have D4 := Lib.hid hb4; have B4 := Lib.hid (hb4.2.got B2.out (by simp))
    clear hb4 hbx hox D3 B3
    obtain ⟨X, HI, HX, hxl⟩ := fuX u w4 hu64 (T2.out.kept D4.out.2)
    have q1 : ¬ 9223372036854775807 < 5 + X.size := by omega
    have q2 : ¬ 9223372036854775807 < 5 + X.size + 1 := by omega
    have g4 := cell_got B4.out 4; have lb := got_lt B4.out
    have lw4 := D4.out.lt
    go_wp2_with fail
    refine (HI.out w4 (Only.refl _ _)).mono ?_
    rintro e w5 ⟨rfl, ho5⟩
    have HW := Lib.hid (bWriteString (D4.out.kept ho5) ({ data := #[115, 101, 101, 100, 32] } ++ X ++ { data := #[10] }) (by
      rw [ByteArray.size_append, ByteArray.size_append]
      have : ({ data := #[115, 101, 101, 100, 32] } : ByteArray).size = 5 := rfl
      have : ({ data := #[10] } : ByteArray).size = 1 := rfl
      simp only [List.length_nil] at hz4
      omega))
    have hd : ({ data := #[115, 101, 101, 100, 32] } ++ X ++ { data := #[10] } : ByteArray).data.toList = lnT [wSeed, Lib.decDigits u] := by rw [ByteArray.data_append, Array.toList_append, ByteArray.data_append, Array.toList_append, HX.out]; rfl
    rw [hd] at HW
    clear hd HX g4 lb HI ho5 lw4
    go_wp2_with fail
    refine HW.out.mono ?_
    rintro e w6 ⟨rfl, hb6, _⟩
    have hz6 : (l4 ++ lnT [wSeed, Lib.decDigits u]).length ≤ 200 := by
      have h := dec_len_le 20 u (by decide) (by omega)
      rw [List.length_append]
      have : (lnT [wSeed, Lib.decDigits u]).length ≤ 40 := by unfold lnT; rw [joinN]; simp [wSeed]; omega
      simp only [List.length_nil] at hz4
      omega
    obtain ⟨l6, hl6⟩ : ∃ l6, l6 = l4 ++ lnT [wSeed, Lib.decDigits u] := ⟨_, rfl⟩
    rw [← hl6] at hb6 hz6
    have HL6 : Hid (l6 = lnT [wUntil, it un] ++ lnT [wSeed, Lib.decDigits u]) := Lib.hid (by rw [hl6, hl4.out, show lnT [wUntil, it un] = wUntil ++ numT [un] ++ [10] from lnT_n wUntil [un]]; simp [wUntil])
    rw [← HL6.out] at HT1
    clear hl6 hl4 HL6 q1 q2 hz4
    have D6 := Lib.hid hb6; have B6 := Lib.hid (hb6.2.got B2.out (by simp))
    clear hb6 D4 B4 HW
    generalize ({ data := #[115, 101, 101, 100, 32] } ++ X ++ { data := #[10] } : ByteArray) = z3
    generalize ({ data := #[115, 101, 101, 100, 32] } ++ X : ByteArray) = z2
    have g0 := cell_got B6.out 0; have lb := got_lt B6.out
    go_wp2
    go_loopw [28] (fun vi wr => TxI w2 ns.length (ndsT (ns.map NdW.n)) l6 vi wr) (fun vi _ => ns.length - (intOf vi).toNat)
    case atStart => exact ⟨0, Nat.zero_le _, rfl, by simpa [ndsT, ndsW] using D6.out⟩
    case round =>
      clear g0 lb
      obtain ⟨k, hk, rfl, hbl⟩ := hrel
      have DD := Lib.hid hbl
      clear hbl
      have htl := ndsT_len (ns := ns.map NdW.n) (by simpa using h1) (by rw [List.length_map]; exact HNT.out) (k := k) (by simpa using hk)
      by_cases hlt : k < ns.length
      · obtain ⟨bk, off, hp, lc, c0, c1, c2, c3, c4, c5, c6⟩ := HN.out.nd (O2.out.nil_trans DD.out.2) hlt
        subst hp
        have HTK := Lib.hid (ndsT_snoc (ns := ns.map NdW.n) (k := k) (by simpa using hlt))
        rw [nd_at hlt] at HTK
        have hni := HND.out _ (getD_mem nd0 (l := ns.map NdW.n) (k := k) (by simpa using hlt))
        have hnl := HNL.out k hlt
        rw [nd_at hlt] at hni hnl
        have hno := (HNO.out _ (getD_mem nw0 hlt)).kept O2.out
        generalize ns.getD k nw0 = x at c0 c1 c2 c3 c4 c5 c6 HTK hni hnl hno
        have HNI := Lib.hid hni; have HNOK := Lib.hid hno
        clear hni hno
        go_upto_region 9 with (fail)
        refine alloc_abs (G := fun w0 => Code.wp _ _ _ _ w0) ?_
        intro wa hba hoa hsa
        have EA := Lib.hid hba; have DA := Lib.hid (DD.out.kept hoa)
        clear hba hoa hsa c0 c1 c2 c3 c4 c5 c6 lc
        have c0 := cell_got EA.out 0; have c1 := cell_got EA.out 1; have c2 := cell_got EA.out 2; have c3 := cell_got EA.out 3; have c4 := cell_got EA.out 4; have c5 := cell_got EA.out 5; have c6 := cell_got EA.out 6; have le := got_lt EA.out
        go_wp2_with fail
        refine (pNodeW DA.out T2.out k x HNOK.out (by constructor <;> omega) HNI.out hnl.1 hnl.2 (by rw [List.length_append]; omega)).mono ?_
        rintro e wb ⟨rfl, hbb, _⟩
        have DB : Hid (Bld w2 wb (l6 ++ ndsT (ns.map NdW.n) (k + 1))) := Lib.hid (by rw [HTK.out, ← List.append_assoc]; exact hbb)
        clear hbb c0 c1 c2 c3 c4 c5 c6 le
        go_wp2
        go_roundw
        case rel => exact ⟨k + 1, by omega, by go_num, DB.out⟩
        case measure => first | (simp [intOf]; done) | (simp [intOf]; omega)
      · obtain rfl : k = ns.length := by omega
        obtain ⟨w7, hwo⟩ : ∃ wo : World, wo = wr := ⟨_, rfl⟩
        subst hwo
        have D7 := DD
        have hz7 : (l6 ++ ndsT (ns.map NdW.n) ns.length).length ≤ 90000 := by rw [List.length_append]; omega
        obtain ⟨l7, hl7⟩ : ∃ l7, l7 = l6 ++ ndsT (ns.map NdW.n) ns.length := ⟨_, rfl⟩
        rw [← hl7] at D7 hz7 HT1
        have B7 := Lib.hid (D7.out.2.got B2.out (by simp))
        clear hl7 DD htl
        have g1 := cell_got B7.out 1; have lb := got_lt B7.out
        go_wp2
        go_loopw [40] (fun vi wr => TxI w2 ls.length (lksT (ls.map LkW.l)) l7 vi wr) (fun vi _ => ls.length - (intOf vi).toNat)
        case atStart => exact ⟨0, Nat.zero_le _, rfl, by simpa [lksT] using D7.out⟩
        case round =>
          clear g1 lb hlt
          obtain ⟨k, hk', rfl, hbl⟩ := hrel
          have DD := Lib.hid hbl
          clear hbl
          have htl := lksT_len (ls := ls.map LkW.l) (by rw [List.length_map]; exact HLT.out) (k := k) (by simpa using hk')
          by_cases hlt : k < ls.length
          · obtain ⟨bk, off, hp, lc, c0, c1, c2, c3, c4, c5, c6, c7, c8⟩ := HL.out.lk (O2.out.nil_trans DD.out.2) hlt
            subst hp
            have HTK := Lib.hid (lksT_snoc (ls := ls.map LkW.l) (k := k) (by simpa using hlt))
            rw [lk_at hlt] at HTK
            have hni := HLK.out _ (getD_mem lk0 (l := ls.map LkW.l) (k := k) (by simpa using hlt))
            have hnl := HLL.out k hlt
            rw [lk_at hlt] at hni hnl
            have hno := (HLO.out _ (getD_mem lw0 hlt)).kept O2.out
            generalize ls.getD k lw0 = x at c0 c1 c2 c3 c4 c5 c6 c7 c8 HTK hni hnl hno
            have HNI := Lib.hid hni; have HNOK := Lib.hid hno
            clear hni hno
            go_upto_region 14 with (fail)
            refine alloc_abs (G := fun w0 => Code.wp _ _ _ _ w0) ?_
            intro wa hba hoa hsa
            have EA := Lib.hid hba; have DA := Lib.hid (DD.out.kept hoa)
            clear hba hoa hsa c0 c1 c2 c3 c4 c5 c6 c7 c8 lc
            have c0 := cell_got EA.out 0; have c1 := cell_got EA.out 1; have c2 := cell_got EA.out 2; have c3 := cell_got EA.out 3; have c4 := cell_got EA.out 4; have c5 := cell_got EA.out 5; have c6 := cell_got EA.out 6; have c7 := cell_got EA.out 7; have c8 := cell_got EA.out 8; have le := got_lt EA.out
            go_wp2_with fail
            refine (pLinkW DA.out T2.out x HNOK.out HNI.out hnl (by rw [List.length_append]; omega)).mono ?_
            rintro e wb ⟨rfl, hbb, _⟩
            have DB : Hid (Bld w2 wb (l7 ++ lksT (ls.map LkW.l) (k + 1))) := Lib.hid (by rw [HTK.out, ← List.append_assoc]; exact hbb)
            clear hbb c0 c1 c2 c3 c4 c5 c6 c7 c8 le
            go_wp2
            go_roundw
            case rel => exact ⟨k + 1, by omega, by go_num, DB.out⟩
            case measure => first | (simp [intOf]; done) | (simp [intOf]; omega)
          · obtain rfl : k = ls.length := by omega
            obtain ⟨w8, hwo⟩ : ∃ wo : World, wo = wr := ⟨_, rfl⟩
            subst hwo
            have D8 := DD
            have hz8 : (l7 ++ lksT (ls.map LkW.l) ls.length).length ≤ 400000 := by rw [List.length_append]; omega
            obtain ⟨l8, hl8⟩ : ∃ l8, l8 = l7 ++ lksT (ls.map LkW.l) ls.length := ⟨_, rfl⟩
            rw [← hl8] at D8 hz8 HT1
            have B8 := Lib.hid (D8.out.2.got B2.out (by simp))
            clear hl8 DD htl
            have g2 := cell_got B8.out 2; have lb := got_lt B8.out
            go_wp2
            go_loopw [50] (fun vi wr => TxI w2 ft.length (ftsT ft) l8 vi wr) (fun vi _ => ft.length - (intOf vi).toNat)
            case atStart => exact ⟨0, Nat.zero_le _, rfl, by simpa [ftsT] using D8.out⟩
            case round =>
              clear g2 lb hlt
              obtain ⟨k, hk2, rfl, hbl⟩ := hrel
              have DD := Lib.hid hbl
              clear hbl
              have htl := ftsT_len (fs := ft) HFL.out (k := k) hk2
              by_cases hlt : k < ft.length
              · obtain ⟨bk, off, hp, c0, c1, c2, c3, c4, lc⟩ := HFT.out.ft (O2.out.nil_trans DD.out.2) hlt
                subst hp
                have HTK := Lib.hid (ftsT_snoc (fs := ft) hlt)
                have hni := HFI.out _ (getD_mem ft0 hlt)
                generalize ft.getD k ft0 = x at c0 c1 c2 c3 c4 HTK hni
                obtain ⟨xn, xf, xt, xk, xv⟩ := x
                obtain ⟨i0, i1, i2, i3, hxk⟩ := hni
                dsimp only at c0 c1 c2 c3 c4 i0 i1 i2 i3 hxk
                obtain ⟨j, hj⟩ : ∃ j : Nat, xk = (j : Int) + 1 := ⟨(xk - 1).toNat, by omega⟩
                have hj9 : j < 9 := by omega
                subst hj
                have hkT : ftT ⟨xn, xf, xt, (j : Int) + 1, xv⟩ = (wFault ++ numT [xn, xf, xt]) ++ (32 :: kinds9.getD j [] ++ numT [xv] ++ [10]) := by
                  unfold ftT; dsimp only; rw [show ((j : Int) + 1 - 1).toNat = j by omega]
                rw [hkT] at HTK
                have J0 := Lib.hid i0; have J1 := Lib.hid i1; have J2 := Lib.hid i2; have J3 := Lib.hid i3
                clear hkT i0 i1 i2 i3 hxk
                go_upto_region 19 with (fail)
                refine alloc_abs (G := fun w0 => Code.wp _ _ _ _ w0) ?_
                intro wa hba hoa hsa
                have EA := Lib.hid hba; have DA := Lib.hid (DD.out.kept hoa)
                have HEX := Lib.hid (Nat.ne_of_gt DD.out.lt)
                clear hba hoa hsa c0 c1 c2 c3 c4 lc
                generalize wr.heap.size = ex at EA HEX
                have c0 := cell_got EA.out 0; have c1 := cell_got EA.out 1; have c2 := cell_got EA.out 2; have le := got_lt EA.out
                go_wp2_with fail
                refine alloc_abs (G := fun w0 => Calls _ _ _ w0 _) ?_
                intro wx hbx hox hsx
                clear hsx c0 c1 c2 le
                refine (pWordsN DA.out T2.out { data := #[102, 97, 117, 108, 116] } 5 (by decide) [xn, xf, xt] 3 rfl hbx hox (i64_three J0.out J1.out J2.out) (by decide) (by rw [List.length_append]; omega)).mono ?_
                rintro e wb ⟨rfl, lb, hlb, hzb, hbb, hfb⟩
                have DB := Lib.hid hbb; have EB := Lib.hid (hfb.got EA.out HEX.out (by decide))
                rw [List.length_append] at hzb
                clear hbb hfb hbx hox EA DA
                have hK := kind_len j
                obtain ⟨K, hKd⟩ : ∃ K : ByteArray, K = bstr (kinds9.getD j []) := ⟨_, rfl⟩
                have hKl : K.data.toList = kinds9.getD j [] := by rw [hKd]; rfl
                have hKs : K.size ≤ 7 := by rw [hKd, bstr_size]; exact hK
                have HEQ : Hid (l8 ++ ftsT ft (k + 1) = lb ++ (32 :: kinds9.getD j [] ++ numT [xv] ++ [10])) := Lib.hid (by
                  rw [HTK.out, hlb.out, show ({ data := #[102, 97, 117, 108, 116] } : ByteArray).data.toList = wFault from rfl]
                  generalize kinds9.getD j [] = kk
                  simp only [List.append_assoc])
                have HLN := Lib.hid (fun (v v' : World) (h1 : Only [] wb v) (h2 : Only [] v v') => ftLine DB.out T2.out (by omega) hKl hKs J3.out h1 h2)
                have HCK2 : Hid (∀ (v : World) (g : Nat), RowAt strC 9 1 v g 9 kinds9 → v.cell? ⟨g, j, none⟩ = some (.string K)) := Lib.hid (fun v g h => by rw [hKd]; exact cell_kind h hj9)
                clear hKl hK hKd
                have q1 : ¬ 9223372036854775807 < 1 + K.size := by omega
                have c3 := cell_got EB.out 3; have c4 := cell_got EB.out 4; have le := got_lt EB.out
                have hwj : IntKind.i64.wrap (j : Int) = (j : Int) := by rw [IntKind.wrap_i64]; omega
                go_upto_region 20 with (fail)
                refine wp_region_calm2 [1, 2, 3, 7, 8] [10] (OnlyC ([] : List Nat) wb) (by kernel_rfl) (by kernel_rfl) ?_
                simp only [pick, List.map_cons, List.map_nil, List.getD_cons_succ, List.getD_cons_zero]
                iterate 5 (refine wpCalm_step (fun K hK => ?_); go_simp; refine hK _ ?_; clear hK K)
                refine wpCalm_nil ?_
                clear c3 c4 le
                refine wabs (G := fun w0 => Rest _ _ _ _ _ _ _ w0 _) (R := fun w0 => Only [] wb w0) (Only.refl _ _).drew ?_
                intro ws hos
                have OW := Lib.hid hos
                clear hos
                refine Rest.by (X := Nat × Nat) (fun y a => (((((a.put (some 62) (.slice (some ⟨y.1, 0, none⟩) 9 9)).put (some 66) (.pointer (some ⟨y.1, j, none⟩))).put (some 67) (.string K)).put (some 68) (.string ({ data := #[32] } ++ K))).put (some 71) (.slice (some ⟨y.2, 0, none⟩) 1 1)).put (some 72) (.tuple #[])) (fun _ w' => Bld w2 w' (lb ++ (32 :: kinds9.getD j [] ++ numT [xv] ++ [10]))) ?_ ?_
                · rintro ⟨n1, n2⟩ w9 hb9
                  rw [← HEQ.out] at hb9
                  have D9 := Lib.hid hb9
                  simp only [Act.put, List.setIfInBounds_toArray, List.set_cons_succ, List.set_cons_zero]
                  clear hb9
                  go_wp2
                  go_roundw
                  case rel => exact ⟨k + 1, by omega, by go_num, D9.out⟩
                  case measure => first | (simp [intOf]; done) | (simp [intOf]; omega)
                · refine wpAnyC_next [0, 9] (by kernel_rfl) (by simp) (.inr (onlyC OW.out)) ?_
                  simp only [List.mem_cons, List.not_mem_nil, or_false, forall_eq_or_imp, forall_eq]
                  refine ⟨?_, ?_⟩
                  · refine wpOp_one rfl ?_
                    go_wp2_with fail
                    refine (pKinds _).mono ?_
                    rintro e v1 ⟨rfl, hrow1, ho1⟩
                    have R1 := Lib.hid hrow1; have o1 := Lib.hid ((OW.out).nil_trans ho1)
                    clear hrow1 ho1
                    go_wp2
                    simp only [nrm]
                    refine wpAnyC_next [4, 9] (by kernel_rfl) (by simp) (.inr (onlyC o1.out)) ?_
                    simp only [List.mem_cons, List.not_mem_nil, or_false, forall_eq_or_imp, forall_eq]
                    refine ⟨?_, ?_⟩
                    · refine wpOp_one rfl ?_
                      go_wp2
                      simp only [nrm]
                      refine wpAnyC_next [5, 9] (by kernel_rfl) (by simp) (.inr (onlyC o1.out)) ?_
                      simp only [List.mem_cons, List.not_mem_nil, or_false, forall_eq_or_imp, forall_eq]
                      refine ⟨?_, ?_⟩
                      · refine wpOp_one rfl ?_
                        have cr := HCK2.out _ _ R1.out; have lr := R1.out.lt
                        go_wp2
                        simp only [nrm]
                        clear cr lr
                        refine wpAnyC_next [6, 9] (by kernel_rfl) (by simp) (.inr (onlyC o1.out)) ?_
                        simp only [List.mem_cons, List.not_mem_nil, or_false, forall_eq_or_imp, forall_eq]
                        refine ⟨?_, ?_⟩
                        · refine wpOp_one rfl ?_
                          go_wp2
                          simp only [nrm]
                          refine wpAnyC_next [9] (by kernel_rfl) (by simp) (.inr (onlyC o1.out)) ?_
                          simp only [List.mem_cons, List.not_mem_nil, or_false, forall_eq]
                          refine wpOp_one rfl ?_
                          go_wp2
                          simp only [nrm]
                          refine alloc_abs (G := wpAnyC _ _ _ _ _ _ _ _ _) ?_
                          intro v5 hb5 ho5 hs5
                          have I5 := Lib.hid hb5; have o5 := Lib.hid ((o1.out).nil_trans ho5); have L5 := Lib.hid ho5
                          have R5 := Lib.hid (R1.out.kept ho5 (by simp))
                          clear hb5 ho5 hs5
                          refine wpAnyC_next [10] (by kernel_rfl) (by simp) (.inr (onlyC o5.out)) ?_
                          simp only [List.mem_cons, List.not_mem_nil, or_false, forall_eq]
                          refine wpOp_one rfl ?_
                          go_wp2_with fail
                          refine (HLN.out v1 v5 o1.out (L5.out) I5.out).mono ?_
                          rintro e vz ⟨rfl, hbz⟩
                          go_wp2
                          simp only [nrm]
                          refine wpAnyC_done (by kernel_rfl) (.inl (late_of (by kernel_rfl))) ⟨(ws.heap.size, v1.heap.size), ?_, hbz⟩
                          simp only [Act.put, List.setIfInBounds_toArray, List.set_cons_succ, List.set_cons_zero]
                        · refine wpOp_one rfl ?_
                          go_wp2
                          simp only [nrm]
                          refine alloc_abs (G := wpAnyC _ _ _ _ _ _ _ _ _) ?_
                          intro v7 hb7 ho7 hs7
                          have I7 := Lib.hid hb7; have o7 := Lib.hid ((o1.out).nil_trans ho7); have L7 := Lib.hid ho7
                          have R7 := Lib.hid (R1.out.kept ho7 (by simp))
                          clear hb7 ho7 hs7
                          refine wpAnyC_next [6] (by kernel_rfl) (by simp) (.inr (onlyC o7.out)) ?_
                          simp only [List.mem_cons, List.not_mem_nil, or_false, forall_eq]
                          refine wpOp_one rfl ?_
                          go_wp2
                          simp only [nrm]
                          refine wpAnyC_next [10] (by kernel_rfl) (by simp) (.inr (onlyC o7.out)) ?_
                          simp only [List.mem_cons, List.not_mem_nil, or_false, forall_eq]
                          refine wpOp_one rfl ?_
                          go_wp2_with fail
                          refine (HLN.out v1 v7 o1.out (L7.out) I7.out).mono ?_
                          rintro e vz ⟨rfl, hbz⟩
                          go_wp2
                          simp only [nrm]
                          refine wpAnyC_done (by kernel_rfl) (.inl (late_of (by kernel_rfl))) ⟨(ws.heap.size, v1.heap.size), ?_, hbz⟩
                          simp only [Act.put, List.setIfInBounds_toArray, List.set_cons_succ, List.set_cons_zero]
                      · refine wpOp_one rfl ?_
                        go_wp2
                        simp only [nrm]
                        refine alloc_abs (G := wpAnyC _ _ _ _ _ _ _ _ _) ?_
                        intro v10 hb10 ho10 hs10
                        have I10 := Lib.hid hb10; have o10 := Lib.hid ((o1.out).nil_trans ho10); have L10 := Lib.hid ho10
                        have R10 := Lib.hid (R1.out.kept ho10 (by simp))
                        clear hb10 ho10 hs10
                        refine wpAnyC_next [5] (by kernel_rfl) (by simp) (.inr (onlyC o10.out)) ?_
                        simp only [List.mem_cons, List.not_mem_nil, or_false, forall_eq]
                        refine wpOp_one rfl ?_
                        have cr := HCK2.out _ _ R10.out; have lr := R10.out.lt
                        go_wp2
                        simp only [nrm]
                        clear cr lr
                        refine wpAnyC_next [6] (by kernel_rfl) (by simp) (.inr (onlyC o10.out)) ?_
                        simp only [List.mem_cons, List.not_mem_nil, or_false, forall_eq]
                        refine wpOp_one rfl ?_
                        go_wp2
                        simp only [nrm]
                        refine wpAnyC_next [10] (by kernel_rfl) (by simp) (.inr (onlyC o10.out)) ?_
                        simp only [List.mem_cons, List.not_mem_nil, or_false, forall_eq]
                        refine wpOp_one rfl ?_
                        go_wp2_with fail
                        refine (HLN.out v1 v10 o1.out (L10.out) I10.out).mono ?_
                        rintro e vz ⟨rfl, hbz⟩
                        go_wp2
                        simp only [nrm]
                        refine wpAnyC_done (by kernel_rfl) (.inl (late_of (by kernel_rfl))) ⟨(ws.heap.size, v1.heap.size), ?_, hbz⟩
                        simp only [Act.put, List.setIfInBounds_toArray, List.set_cons_succ, List.set_cons_zero]
                    · refine wpOp_one rfl ?_
                      go_wp2
                      simp only [nrm]
                      refine alloc_abs (G := wpAnyC _ _ _ _ _ _ _ _ _) ?_
                      intro v14 hb14 ho14 hs14
                      have I14 := Lib.hid hb14; have o14 := Lib.hid ((o1.out).nil_trans ho14); have L14 := Lib.hid ho14
                      have R14 := Lib.hid (R1.out.kept ho14 (by simp))
                      clear hb14 ho14 hs14
                      refine wpAnyC_next [4] (by kernel_rfl) (by simp) (.inr (onlyC o14.out)) ?_
                      simp only [List.mem_cons, List.not_mem_nil, or_false, forall_eq]
                      refine wpOp_one rfl ?_
                      go_wp2
                      simp only [nrm]
                      refine wpAnyC_next [5] (by kernel_rfl) (by simp) (.inr (onlyC o14.out)) ?_
                      simp only [List.mem_cons, List.not_mem_nil, or_false, forall_eq]
                      refine wpOp_one rfl ?_
                      have cr := HCK2.out _ _ R14.out; have lr := R14.out.lt
                      go_wp2
                      simp only [nrm]
                      clear cr lr
                      refine wpAnyC_next [6] (by kernel_rfl) (by simp) (.inr (onlyC o14.out)) ?_
                      simp only [List.mem_cons, List.not_mem_nil, or_false, forall_eq]
                      refine wpOp_one rfl ?_
                      go_wp2
                      simp only [nrm]
                      refine wpAnyC_next [10] (by kernel_rfl) (by simp) (.inr (onlyC o14.out)) ?_
                      simp only [List.mem_cons, List.not_mem_nil, or_false, forall_eq]
                      refine wpOp_one rfl ?_
                      go_wp2_with fail
                      refine (HLN.out v1 v14 o1.out (L14.out) I14.out).mono ?_
                      rintro e vz ⟨rfl, hbz⟩
                      go_wp2
                      simp only [nrm]
                      refine wpAnyC_done (by kernel_rfl) (.inl (late_of (by kernel_rfl))) ⟨(ws.heap.size, v1.heap.size), ?_, hbz⟩
                      simp only [Act.put, List.setIfInBounds_toArray, List.set_cons_succ, List.set_cons_zero]
                  · refine wpOp_one rfl ?_
                    go_wp2
                    simp only [nrm]
                    refine alloc_abs (G := wpAnyC _ _ _ _ _ _ _ _ _) ?_
                    intro v19 hb19 ho19 hs19
                    have I19 := Lib.hid hb19; have o19 := Lib.hid ((OW.out).nil_trans ho19); have L19 := Lib.hid ho19
                    clear hb19 ho19 hs19
                    refine wpAnyC_next [0] (by kernel_rfl) (by simp) (.inr (onlyC o19.out)) ?_
                    simp only [List.mem_cons, List.not_mem_nil, or_false, forall_eq]
                    refine wpOp_one rfl ?_
                    go_wp2_with fail
                    refine (pKinds _).mono ?_
                    rintro e v20 ⟨rfl, hrow20, ho20⟩
                    have R20 := Lib.hid hrow20; have o20 := Lib.hid ((o19.out).nil_trans ho20)
                    have I20 := Lib.hid (ho20.got I19.out (by simp)); have L20 := Lib.hid ((L19.out).nil_trans ho20)
                    clear hrow20 ho20
                    go_wp2
                    simp only [nrm]
                    refine wpAnyC_next [4] (by kernel_rfl) (by simp) (.inr (onlyC o20.out)) ?_
                    simp only [List.mem_cons, List.not_mem_nil, or_false, forall_eq]
                    refine wpOp_one rfl ?_
                    go_wp2
                    simp only [nrm]
                    refine wpAnyC_next [5] (by kernel_rfl) (by simp) (.inr (onlyC o20.out)) ?_
                    simp only [List.mem_cons, List.not_mem_nil, or_false, forall_eq]
                    refine wpOp_one rfl ?_
                    have cr := HCK2.out _ _ R20.out; have lr := R20.out.lt
                    go_wp2
                    simp only [nrm]
                    clear cr lr
                    refine wpAnyC_next [6] (by kernel_rfl) (by simp) (.inr (onlyC o20.out)) ?_
                    simp only [List.mem_cons, List.not_mem_nil, or_false, forall_eq]
                    refine wpOp_one rfl ?_
                    go_wp2
                    simp only [nrm]
                    refine wpAnyC_next [10] (by kernel_rfl) (by simp) (.inr (onlyC o20.out)) ?_
                    simp only [List.mem_cons, List.not_mem_nil, or_false, forall_eq]
                    refine wpOp_one rfl ?_
                    go_wp2_with fail
                    refine (HLN.out ws v20 OW.out (L20.out) I20.out).mono ?_
                    rintro e vz ⟨rfl, hbz⟩
                    go_wp2
                    simp only [nrm]
                    refine wpAnyC_done (by kernel_rfl) (.inl (late_of (by kernel_rfl))) ⟨(v19.heap.size, ws.heap.size), ?_, hbz⟩
                    simp only [Act.put, List.setIfInBounds_toArray, List.set_cons_succ, List.set_cons_zero]
              · obtain rfl : k = ft.length := by omega
                have D9 := DD
                rw [← HT1.out] at D9
                go_wp2_with fail
                refine (bString D9.out HP.out).mono ?_
                rintro e w9 ⟨rfl, ho9⟩
                go_wp2
                refine bodyPost_ret (v := .tuple #[.string ⟨t1.toArray⟩, .int .i64 0]) (by simp [results, Tryz.results12, go_sem]) rfl ⟨?_, O2.out.nil_trans ho9⟩
                rw [HT2.out]
                rfl
  · have HR1 : Hid ((txtS s.sc).1 = []) := Lib.hid (by unfold txtS; rw [if_neg hc])
    have HR2 : Hid ((txtS s.sc).2 = 2) := Lib.hid (by unfold txtS; rw [if_neg hc])
    generalize txtS s.sc = tx at HR1 HR2 ⊢
    obtain ⟨t1, t2⟩ := tx
    have HT1 : Hid (t1 = []) := HR1
    have HT2 : Hid (t2 = 2) := HR2
    have hx : (chkS s.sc != 0) = true := by simp [hc]
    have hy : (chkS s.sc == 0) = false := by simp [hc]
    generalize chkS s.sc = er at HCK hx hy
    unfold scV at HCK ⊢
    clear hc hs hsd HR1 HR2
    go_enter Tryz.func12, Tryz.ntmps12
    go_upto_region 1 with (fail)
    refine alloc_abs (G := fun w0 => Code.wp _ _ _ _ w0) ?_
    intro w1 hb1 ho1 hs1
    have B1 := Lib.hid hb1; have O1 := Lib.hid ho1
    clear hb1 ho1 hs1
    have g0 := cell_got B1.out 0; have g1 := cell_got B1.out 1; have g2 := cell_got B1.out 2; have g3 := cell_got B1.out 3; have g4 := cell_got B1.out 4; have lb := got_lt B1.out
    go_wp2_with fail
    refine (HCK.out w1 O1.out).mono ?_
    rintro e w2 ⟨rfl, ho2⟩
    have O2 := Lib.hid (O1.out.nil_trans ho2)
    clear ho2 B1 O1 g0 g1 g2 g3 g4 lb
    go_wp2
    refine bodyPost_ret (v := .tuple #[.string ⟨#[]⟩, .int .i64 2]) (by simp [results, Tryz.results12, go_sem]) rfl ⟨?_, O2.out⟩
    rw [HT1.out, HT2.out]
    rfl
end Go.Proofs.YthmeifdgkodjlaaGreatDoor

/- number and numbers of package scenario. Conditions: the library's variables are laid; the lengths. -/
namespace Go.Proofs.YthmeifdgkodjlaaGreatDoor
open Go.RowKit

/-- what number returns -/
def NumR (r : Option Int) (e : Ending) : Prop := match r with
  | some n => e = .returned (.tuple #[.int .i64 n, .bool true])
  | none => ∃ V, e = .returned (.tuple #[.int .i64 V, .bool false])
set_option maxRecDepth 100000 in
set_option maxHeartbeats 2000000 in
theorem pNumber (l : List UInt8) (hs : l.length ≤ 1000000) (w : World) (he : Env w) :
    Calls Tryz.prog 97 #[.string (bstr l)] w fun e w' => NumR (numO l) e ∧ Only [] w w' := by
  have HE := Lib.hid he
  have hsz : (bstr l).size ≤ 1000000 := by rw [bstr_size]; exact hs
  by_cases ha : ∃ z, Lib.atoiAll l = .ok z
  · obtain ⟨z, hz⟩ := ha
    have hb := Lib.atoiAll_bounds hz
    have HA := Lib.hid (atoi_ok (bstr l) z hz hsz w)
    have HI := Lib.hid (fun w' (ho : Only [] w w') => itoa_plus z w' hb.1 hb.2 (HE.out.kept ho).tab)
    have hq : numO l = if Lib.itoa z = l then some z else none := by
      by_cases h : Lib.itoa z = l
      · rw [if_pos h, numO_ok hz h]
      · rw [if_neg h, numO_no hz h]
    have heq : ((⟨(Lib.itoa z).toArray⟩ : ByteArray).toList == (bstr l).toList) = decide (Lib.itoa z = l) := by
      rw [Lib.toList_data, Lib.toList_data, Bool.eq_iff_iff, beq_iff_eq, decide_eq_true_eq]
      exact Iff.rfl
    have HQ := Lib.hid hq
    clear hq hz hb he
    generalize hS : (⟨(Lib.itoa z).toArray⟩ : ByteArray) = S at HI heq
    generalize bstr l = T at HA heq hsz
    generalize numO l = res at HQ ⊢
    by_cases hd : Lib.itoa z = l
    · have HR : Hid (res = some z) := Lib.hid (by rw [HQ.out, if_pos hd])
      rw [decide_eq_true hd] at heq
      clear hd HQ hS
      go_enter Tryz.func97, Tryz.ntmps97
      go_wp2_with fail
      refine HA.out.mono ?_
      rintro e w1 ⟨rfl, ho1⟩
      have O1 := Lib.hid ho1
      clear ho1
      go_wp2_with fail
      refine (HI.out w1 O1.out).mono ?_
      rintro e w2 ⟨rfl, ho2⟩
      have O2 := Lib.hid (O1.out.nil_trans ho2)
      clear ho2
      go_wp2
      refine bodyPost_ret (v := .tuple #[.int .i64 z, .bool true]) (by simp [results, Tryz.results97, go_sem]) rfl ⟨?_, O2.out⟩
      rw [HR.out]; rfl
    · have HR : Hid (res = none) := Lib.hid (by rw [HQ.out, if_neg hd])
      rw [decide_eq_false hd] at heq
      clear hd HQ hS
      go_enter Tryz.func97, Tryz.ntmps97
      go_wp2_with fail
      refine HA.out.mono ?_
      rintro e w1 ⟨rfl, ho1⟩
      have O1 := Lib.hid ho1
      clear ho1
      go_wp2_with fail
      refine (HI.out w1 O1.out).mono ?_
      rintro e w2 ⟨rfl, ho2⟩
      have O2 := Lib.hid (O1.out.nil_trans ho2)
      clear ho2
      go_wp2
      refine bodyPost_ret (v := .tuple #[.int .i64 z, .bool false]) (by simp [results, Tryz.results97, go_sem]) rfl ⟨?_, O2.out⟩
      rw [HR.out]; exact ⟨_, rfl⟩
  · have ha' : ∀ z, Lib.atoiAll l ≠ .ok z := fun z hz => ha ⟨z, hz⟩
    have HA := Lib.hid (atoi_bad (bstr l) ha' hsz w he)
    have HR : Hid (numO l = none) := Lib.hid (numO_bad ha')
    clear ha ha' he
    generalize numO l = res at HR ⊢
    go_enter Tryz.func97, Tryz.ntmps97
    go_wp2_with fail
    refine HA.out.mono ?_
    rintro e w1 ⟨V, N, rfl, ho1⟩
    have O1 := Lib.hid ho1
    clear ho1
    go_wp2
    refine bodyPost_ret (v := .tuple #[.int .i64 V, .bool false]) (by simp [results, Tryz.results97, go_sem]) rfl ⟨?_, O1.out⟩
    rw [HR.out]; exact ⟨_, rfl⟩
theorem numsO_len : ∀ {l : List (List UInt8)} {ns : List Int}, numsO l = some ns → ns.length = l.length
  | [], ns, h => by cases h; rfl
  | x :: l, ns, h => by
    cases hx : numO x with
    | none => simp [numsO, hx] at h
    | some n =>
      cases hl : numsO l with
      | none => simp [numsO, hx, hl] at h
      | some m => simp [numsO, hx, hl] at h; subst h; simp [numsO_len hl]
theorem numsO_snoc (x : List UInt8) : ∀ (l : List (List UInt8)) (ns : List Int), numsO l = some ns → numsO (l ++ [x]) = (numO x).map (fun n => ns ++ [n])
  | [], ns, h => by cases h; cases hx : numO x <;> simp [numsO, hx]
  | y :: l, ns, h => by
    cases hy : numO y with
    | none => simp [numsO, hy] at h
    | some n =>
      cases hl : numsO l with
      | none => simp [numsO, hy, hl] at h
      | some m =>
        simp [numsO, hy, hl] at h
        subst h
        have := numsO_snoc x l m hl
        simp only [List.cons_append, numsO, hy]
        rw [this]
        cases numO x <;> rfl
theorem numsO_none {l r : List (List UInt8)} (h : numsO l = none) (hp : l <+: r) : numsO r = none := by
  obtain ⟨t, rfl⟩ := hp
  induction l with
  | nil => cases h
  | cons x l ih =>
    simp only [List.cons_append, numsO]
    cases hx : numO x with
    | none => rfl
    | some n =>
      cases hl : numsO l with
      | none => rw [ih hl]
      | some m => simp [numsO, hx, hl] at h
/-- what numbers returns -/
def NumsR (r : Option (List Int)) (w : World) (e : Ending) (w' : World) : Prop := match r with
  | some ns => ∃ g, w.heap.size ≤ g ∧ e = .returned (.tuple #[.slice (some ⟨g, 0, none⟩) ns.length ns.length, .bool true]) ∧ RowAt itC 3 1 w' g ns.length ns
  | none => e = .returned (.tuple #[.slice none 0 0, .bool false])
def NbI (w : World) (g : Nat) (ws : List (List UInt8)) (vi : Value) (wr : World) : Prop :=
  ∃ (k : Nat) (ns : List Int), k ≤ ws.length ∧ vi = .int .i64 k ∧ ns.length = k ∧ numsO (ws.take k) = some ns ∧ RowAt itC 3 1 wr g ws.length (ns ++ List.replicate (ws.length - k) 0) ∧ Only [] w wr
theorem VRow.str {w wr : World} {cap k : Nat} {p : Option Addr} {l : List (List UInt8)} (hv : VRow strC 1 w p l.length cap l) (ho : Only [] w wr) (hk : k < l.length) :
    ∃ bk off, p = some ⟨bk, off, none⟩ ∧ wr.cell? ⟨bk, off + k, none⟩ = some (.string (bstr (l.getD k []))) ∧ bk < wr.heap.size := by
  obtain ⟨bk, off, hp, hb, hc⟩ := hv.at_ ho (getD_some [] hk)
  exact ⟨bk, off, hp, by have := hc 0 _ rfl; rwa [Nat.mul_one, Nat.add_zero] at this, hb⟩
set_option maxRecDepth 100000 in
set_option maxHeartbeats 2000000 in
theorem pNumbers {w : World} {p : Option Addr} {n cap : Nat} {ws : List (List UInt8)} (hv : VRow strC 1 w p n cap ws) (hn : n ≤ 100000) (hl : ∀ x ∈ ws, x.length ≤ 1000000) (he : Env w) :
    Calls Tryz.prog 99 #[.slice p n cap] w fun e w' => NumsR (numsO ws) w e w' ∧ Only [] w w' := by
  have hlen := hv.len
  subst hlen
  have HV := Lib.hid hv; have HE := Lib.hid he; have HL := Lib.hid hl; clear hv he hl
  obtain ⟨res, hres⟩ : ∃ res, res = numsO ws := ⟨_, rfl⟩
  rw [← hres]
  have HR := Lib.hid hres
  clear hres
  go_enter Tryz.func99, Tryz.ntmps99
  go_wp2_with (refine wpList_make_own itC rfl _ _ 46 rfl 3 (.int .i64 0) 1 8 Tryz.underlying46 (by kernel_rfl) itC_len (0 : Int) rfl .i64 .i64 _ _ ws.length rfl rfl rfl rfl (by omega) (by unfold maxLen; omega) ?_; intro w1 hr1 ho1 hs1; have R1 := Lib.hid hr1; have O1 := Lib.hid ho1; clear hr1 ho1 hs1)
  go_loopw [14] (fun vi wr => NbI w w.heap.size ws vi wr) (fun vi _ => ws.length - (intOf vi).toNat)
  case atStart => exact ⟨0, [], Nat.zero_le _, rfl, rfl, rfl, by simpa using R1.out, O1.out⟩
  case round =>
    obtain ⟨k, ns, hk, rfl, hnl, hns, hrow, ho⟩ := hrel
    have HN := Lib.hid hns; have RR := Lib.hid hrow; have OO := Lib.hid ho
    clear hns hrow ho
    by_cases hlt : k < ws.length
    · obtain ⟨bk, off, hp, c0, lb⟩ := HV.out.str OO.out hlt
      subst hp
      have htk : ws.take (k + 1) = ws.take k ++ [ws.getD k []] := by rw [List.take_add_one, getD_some [] hlt]; rfl
      have hxl := HL.out _ (getD_mem [] hlt)
      have hsn := numsO_snoc (ws.getD k []) _ _ HN.out
      rw [← htk] at hsn
      generalize ws.getD k [] = x at c0 hxl hsn
      have HSN := Lib.hid hsn
      have HP := Lib.hid (pNumber x hxl wr (HE.out.kept OO.out))
      clear htk hsn
      go_wp2_with fail
      refine HP.out.mono ?_
      rintro e w2 ⟨hv2, ho2⟩
      have O2 := Lib.hid (OO.out.nil_trans ho2); have R2 := Lib.hid (RR.out.kept ho2 (by simp))
      clear ho2 c0 lb HP
      cases hx : numO x with
      | none =>
        rw [hx] at hv2 HSN
        obtain ⟨V, rfl⟩ := hv2
        have HX : Hid (res = none) := Lib.hid (by rw [HR.out]; exact numsO_none HSN.out (List.take_prefix _ _))
        go_wp2
        refine bodyPost_ret (v := .tuple #[.slice none 0 0, .bool false]) (by simp [results, Tryz.results99, go_sem]) rfl ⟨?_, O2.out⟩
        rw [HX.out]; rfl
      | some z =>
        rw [hx] at hv2 HSN
        have hv2' : e = .returned (.tuple #[.int .i64 z, .bool true]) := hv2
        subst hv2'
        have HSM : Hid (numsO (ws.take (k + 1)) = some (ns ++ [z])) := HSN
        obtain ⟨cur, hcur, hcz, _⟩ := R2.out
        have hsz := R2.out.set1 (f := Value.int .i64) (i := k) (by simp; omega) z
        have hset : (ns ++ List.replicate (ws.length - k) 0).set k z = (ns ++ [z]) ++ List.replicate (ws.length - (k + 1)) 0 := by
          rw [show ws.length - k = (ws.length - (k + 1)) + 1 by omega, List.replicate_succ, List.set_append_right _ _ (by omega), hnl, Nat.sub_self, List.set_cons_zero]
          simp
        rw [hset] at hsz
        have R3 := Lib.hid hsz
        have O3 := Lib.hid (O2.out.setCell (p := ⟨w.heap.size, k, none⟩) (.inr (Nat.le_refl _)) (.int .i64 z))
        have cc := cell_got hcur k; have ff := frozen_got hcur k; have lc := got_lt hcur
        have hck : k < cur.size := by rw [hcz]; omega
        rw [Array.getElem?_eq_getElem hck] at cc
        clear hsz hset hcur hcz
        go_wp2
        go_roundw
        case rel => exact ⟨k + 1, ns ++ [z], by omega, by go_num, by simp; omega, HSM.out, R3.out, O3.out⟩
        case measure => first | (simp [intOf]; done) | (simp [intOf]; omega)
    · obtain rfl : k = ws.length := by omega
      have hn' := HN.out
      rw [List.take_of_length_le (Nat.le_refl _)] at hn'
      have HX : Hid (res = some ns) := Lib.hid (by rw [HR.out, hn'])
      have hrow := RR.out
      rw [Nat.sub_self, List.replicate_zero, List.append_nil] at hrow
      go_wp2
      refine bodyPost_ret (v := .tuple #[.slice (some ⟨w.heap.size, 0, none⟩) ws.length ws.length, .bool true]) (by simp [results, Tryz.results99, go_sem]) rfl ⟨?_, OO.out⟩
      rw [HX.out]; exact ⟨w.heap.size, Nat.le_refl _, by rw [hnl], by rw [hnl]; exact hrow⟩
end Go.Proofs.YthmeifdgkodjlaaGreatDoor

/- The reader of package scenario in memory. No condition. -/
namespace Go.Proofs.YthmeifdgkodjlaaGreatDoor
open Go.RowKit

section
variable {α β : Type} {enc : α → List Value} {e : TypeId} {s : Nat} {enc' : β → List Value} {e' : TypeId} {s' : Nat}
theorem RowAt.ne {w : World} {g g' cap cap' : Nat} {l : List α} {l' : List β} (h : RowAt enc e s w g cap l) (h' : RowAt enc' e' s' w g' cap' l') (he : e ≠ e') : g ≠ g' := by
  rintro rfl
  obtain ⟨c, h1, _⟩ := h
  obtain ⟨c', h2, _⟩ := h'
  rw [h1] at h2
  cases h2
  exact he rfl
/-- the block of a slice's own row -/
theorem Own.block {B : Nat} {w : World} {v : Value} {l : List α} {k : Nat} (h : Own enc e s B w v l) (hk : v.ownBlock = some k) : B ≤ k ∧ ∃ cap, RowAt enc e s w k cap l := by
  rcases h with ⟨rfl, _⟩ | ⟨g, cap, rfl, h2, h3⟩
  · simp [Value.ownBlock] at hk
  · simp only [Value.ownBlock, Option.some.injEq] at hk
    subst hk
    exact ⟨h2, cap, h3⟩
theorem Own.keptS {B : Nat} {w w' : World} {v : Value} {l : List α} {S : List Nat} (h : Own enc e s B w v l) (ho : Only S w w') (hS : ∀ k ∈ S, v.ownBlock ≠ some k) : Own enc e s B w' v l := by
  rcases h with h | ⟨g, cap, rfl, h2, h3⟩
  · exact .inl h
  · exact .inr ⟨g, cap, rfl, h2, h3.kept ho (fun hm => hS g hm rfl)⟩
/-- rows of different types lie in different blocks -/
theorem Own.ne_of {B B' : Nat} {w : World} {v v' : Value} {l : List α} {l' : List β} (h : Own enc e s B w v l) (h' : Own enc' e' s' B' w v' l') (he : e ≠ e') : ∀ k ∈ v'.ownBlock.toList, v.ownBlock ≠ some k := by
  intro k hk hv
  have hk' : v'.ownBlock = some k := by simpa using hk
  obtain ⟨_, c1, h1⟩ := h.block hv
  obtain ⟨_, c2, h2⟩ := h'.block hk'
  exact h1.ne h2 he rfl
theorem Own.ne_box {B : Nat} {w : World} {v : Value} {l : List α} {b : Nat} {c : Array Value} {t : TypeId} (h : Own enc e s B w v l) (hb : w.heap[b]? = some (.cells c t (0, 0))) (he : e ≠ t) : v.ownBlock ≠ some b := by
  intro hv
  obtain ⟨_, c1, cur, h1, _⟩ := h.block hv
  rw [hb] at h1
  cases h1
  exact he rfl
/-- a store into one cell of an element -/
theorem RowAt.put1 (hs : ∀ x, (enc x).length = s) {w : World} {g cap i j : Nat} {l : List α} {x0 x : α} {u : Value} (h : RowAt enc e s w g cap l) (hi : l[i]? = some x0) (hj : j < s) (hx : enc x = (enc x0).set j u) :
    RowAt enc e s (w.setCell ⟨g, i * s + j, none⟩ u) g cap (l.set i x) := by
  obtain ⟨cur, hg, h1, h2, h3, h4⟩ := h
  have hil : i < l.length := (List.getElem?_eq_some_iff.1 hi).1
  have hrow : RowAt enc e s w g cap l := ⟨cur, hg, h1, h2, h3, h4⟩
  refine RowAt.set hs hil hrow hg (x := x) ?_
  rw [setCell_got u hg]
  congr 2
  have hlt : i * s + s ≤ l.length * s := by
    have : (i + 1) * s ≤ l.length * s := Nat.mul_le_mul_right s hil
    rw [Nat.succ_mul] at this; omega
  have hcap : l.length * s ≤ cur.size := by rw [h1]; exact Nat.mul_le_mul_right s h2
  have hat : ∀ q, q < s → cur.toList[i * s + q]? = (enc x0)[q]? := fun q hq => by
    rw [← flat_get enc s hs l i q x0 hi hq, ← h4, List.getElem?_take, if_pos (by omega)]
  apply Array.ext'
  apply List.ext_getElem?
  intro m
  rw [Array.toList_setIfInBounds, hx]
  have hlx : ((enc x0).set j u).length = s := by rw [List.length_set, hs]
  have hcl : cur.toList.length = cur.size := Array.length_toList
  by_cases hm : m < i * s
  · rw [List.getElem?_set_ne (by omega), List.append_assoc, List.getElem?_append_left (by rw [List.length_take]; omega), List.getElem?_take, if_pos hm]
  · by_cases hm2 : m < i * s + s
    · obtain ⟨q, rfl⟩ : ∃ q, m = i * s + q := ⟨m - i * s, by omega⟩
      have hq : q < s := by omega
      rw [List.append_assoc, List.getElem?_append_right (by rw [List.length_take]; omega), List.length_take, Nat.min_eq_left (by omega), show i * s + q - i * s = q by omega, List.getElem?_append_left (by omega)]
      by_cases hqj : q = j
      · subst hqj
        rw [List.getElem?_set_self (by omega), List.getElem?_set_self (by rw [hs]; exact hq)]
      · rw [List.getElem?_set_ne (by omega), List.getElem?_set_ne (by omega), hat q hq]
    · rw [List.getElem?_set_ne (by omega), List.getElem?_append_right (by simp only [List.length_append, List.length_take]; omega)]
      simp only [List.length_append, List.length_take, hlx]
      rw [Nat.min_eq_left (by omega), List.getElem?_drop]
      congr 1; omega
end
/-- what the reader's cell and the rows behind it hold -/
structure RdW (B b : Nat) (w : World) (x : SSt) (ns : List NdW) (ls : List LkW) (vn vl vf : Value) : Prop where
  box : w.heap[b]? = some (.cells #[vn, vl, vf, .int .i64 x.sc.un, .int .u64 x.sc.sd, .int .i64 x.at_] 82 (0, 0))
  hn : x.sc.nd = ns.map NdW.n
  hl : x.sc.lk = ls.map LkW.l
  nd : Own ndC 48 7 B w vn ns
  lk : Own lkC 54 9 B w vl ls
  ft : Own ftC 60 5 B w vf x.sc.ft
  sg : ∀ y ∈ ns, Own sgC 96 2 B w (.slice y.ps y.n.sg.length y.cs) y.n.sg
  sv : ∀ y ∈ ns, Own itC 3 1 B w (.slice y.pv y.n.sv.length y.cv) y.n.sv
  ch : ∀ y ∈ ls, Own chC 98 3 B w (.slice y.p y.l.ch.length y.c) y.l.ch
  apN : ∀ r y, ns = r ++ [y] → ∀ z ∈ r, (z.ps ≠ y.ps ∨ y.ps = none) ∧ (z.pv ≠ y.pv ∨ y.pv = none)
  apL : ∀ r y, ls = r ++ [y] → ∀ z ∈ r, z.p ≠ y.p ∨ y.p = none
/-- two worlds: one of which all blocks but the reader's lie as they lay, one of which whatever is no cells does -/
structure Two where
  wo : World
  vo : World
def Two.heap (t : Two) : Array Obj := t.wo.heap
theorem ko_nil {w w' : World} (h : Only [] w w') : KeepsOthers w w' := ⟨h.size, fun _ _ hk _ => h.got hk (by simp)⟩
/-- since the worlds `W0` the reader's block `b` alone has changed, and rows of its own -/
structure Ob (b : Nat) (W0 : Two) (w : World) : Prop where
  only : Only [b] W0.wo w
  keep : KeepsOthers W0.vo w
theorem Ob.size {b : Nat} {W0 : Two} {w : World} (h : Ob b W0 w) : W0.heap.size ≤ w.heap.size := h.only.size
theorem Ob.nil_trans {b : Nat} {W0 : Two} {w w' : World} (h : Ob b W0 w) (k : Only [] w w') : Ob b W0 w' := ⟨h.only.nil_trans k, h.keep.trans (ko_nil k)⟩
theorem Ob.setCell {b : Nat} {W0 : Two} {w : World} (h : Ob b W0 w) {p : Addr} (hp : p.block ∈ [b] ∨ W0.heap.size ≤ p.block) (u : Value) : Ob b W0 (w.setCell p u) := ⟨h.only.setCell hp u, h.keep.trans (KeepsOthers.setCell _ _ _)⟩
theorem Ob.row {b : Nat} {W0 : Two} {w w' : World} {S : List Nat} (h : Ob b W0 w) (k : Only S w w') (hs : ∀ x ∈ S, W0.heap.size ≤ x ∧ ∃ c t, w.heap[x]? = some (.cells c t (0, 0))) : Ob b W0 w' :=
  ⟨h.only.trans k (fun x hx => .inr (hs x hx).1), h.keep.trans ⟨k.size, fun x o hx ho => k.got hx (fun hm => by
    obtain ⟨_, c, t, hc⟩ := hs x hm
    rw [hx] at hc
    cases hc
    cases ho)⟩⟩
theorem Own.blockC {α : Type} {enc : α → List Value} {e : TypeId} {s B : Nat} {w : World} {v : Value} {l : List α} {k : Nat} (h : Own enc e s B w v l) (hk : v.ownBlock = some k) : B ≤ k ∧ ∃ c t, w.heap[k]? = some (.cells c t (0, 0)) := by
  obtain ⟨h1, cap, cur, h2, _⟩ := h.block hk
  exact ⟨h1, cur, _, h2⟩
/-- the reader's block is `b`; all else that has changed since the world `W0` is new -/
def RdX (W0 : Two) (b : Nat) (w : World) (x : SSt) : Prop := b < W0.heap.size ∧ Ob b W0 w ∧ ∃ ns ls vn vl vf, RdW W0.heap.size b w x ns ls vn vl vf
/-- what a method of the reader returns -/
def RdR (W0 : Two) (b : Nat) (r : Option SSt) (e : Ending) (w : World) : Prop := match r with
  | none => e = .returned (.bool false) ∧ Ob b W0 w
  | some y => e = .returned (.bool true) ∧ RdX W0 b w y
theorem RdW.kept {B b : Nat} {w w' : World} {x : SSt} {ns : List NdW} {ls : List LkW} {vn vl vf : Value} (h : RdW B b w x ns ls vn vl vf) (ho : Only [] w w') : RdW B b w' x ns ls vn vl vf :=
  ⟨ho.got h.box (by simp), h.hn, h.hl, h.nd.kept ho, h.lk.kept ho, h.ft.kept ho, fun y hy => (h.sg y hy).kept ho, fun y hy => (h.sv y hy).kept ho, fun y hy => (h.ch y hy).kept ho, h.apN, h.apL⟩
theorem RdX.kept {W0 : Two} {b : Nat} {w w' : World} {x : SSt} (h : RdX W0 b w x) (ho : Only [] w w') : RdX W0 b w' x := by
  obtain ⟨h0, h1, ns, ls, vn, vl, vf, h2⟩ := h
  exact ⟨h0, h1.nil_trans ho, ns, ls, vn, vl, vf, h2.kept ho⟩
theorem own_setB {α : Type} {enc : α → List Value} {e : TypeId} {s B b : Nat} {w w' : World} {v : Value} {l : List α} {c : Array Value} {t : TypeId} (h : Own enc e s B w v l) (hb : w.heap[b]? = some (.cells c t (0, 0))) (he : e ≠ t) (ho : Only [b] w w') : Own enc e s B w' v l :=
  h.keptS ho (fun k hk => by rw [List.mem_singleton] at hk; rw [hk]; exact h.ne_box hb he)
/-- the reader's cell is written: its numbers change -/
theorem RdW.cell {B b : Nat} {w w' : World} {x x' : SSt} {ns : List NdW} {ls : List LkW} {vn vl vf : Value} (h : RdW B b w x ns ls vn vl vf) (ho : Only [b] w w')
    (hb : w'.heap[b]? = some (.cells #[vn, vl, vf, .int .i64 x'.sc.un, .int .u64 x'.sc.sd, .int .i64 x'.at_] 82 (0, 0))) (h1 : x'.sc.nd = x.sc.nd) (h2 : x'.sc.lk = x.sc.lk) (h3 : x'.sc.ft = x.sc.ft) : RdW B b w' x' ns ls vn vl vf :=
  ⟨hb, by rw [h1, h.hn], by rw [h2, h.hl], own_setB h.nd h.box (by decide) ho, own_setB h.lk h.box (by decide) ho, by rw [h3]; exact own_setB h.ft h.box (by decide) ho,
    fun y hy => own_setB (h.sg y hy) h.box (by decide) ho, fun y hy => own_setB (h.sv y hy) h.box (by decide) ho, fun y hy => own_setB (h.ch y hy) h.box (by decide) ho, h.apN, h.apL⟩
end Go.Proofs.YthmeifdgkodjlaaGreatDoor

/- whole, until of the reader. Conditions: the library's variables are laid; the lengths. -/
namespace Go.Proofs.YthmeifdgkodjlaaGreatDoor
open Go.RowKit

def bk (W0 : Two) (b : Nat) (w : World) : Prop := b < W0.heap.size ∧ Ob b W0 w
set_option maxRecDepth 100000 in
set_option maxHeartbeats 2000000 in
theorem kWhole {w : World} {b a : Nat} {v0 v1 v2 v3 v4 : Value} (hb : w.heap[b]? = some (.cells #[v0, v1, v2, v3, v4, .int .i64 a] 82 (0, 0))) :
    Calls Tryz.prog 41 #[.pointer (some ⟨b, 0, none⟩)] w fun e w' => e = .returned (.bool (whole a)) ∧ Only [] w w' := by
  have hw : whole a = (((a : Int) == 2) || decide ((a : Int) ≥ 4)) := by
    unfold whole
    rw [Bool.eq_iff_iff]; simp only [decide_eq_true_eq, Bool.or_eq_true, beq_iff_eq]; omega
  have HW := Lib.hid hw
  have c5 := cell_got hb 5; have lb := got_lt hb
  generalize whole a = res at HW ⊢
  clear hw hb
  by_cases h2 : (a : Int) = 2
  · have d1 : ((a : Int) == 2) = true := by simp [h2]
    have HR : Hid (res = true) := Lib.hid (by rw [HW.out, d1]; rfl)
    clear HW h2
    go_enter Tryz.func41, Tryz.ntmps41
    go_wp2
    go_ret
    exact ⟨by rw [HR.out]; rfl, Only.refl _ _⟩
  · have d1 : ((a : Int) == 2) = false := by simp [h2]
    by_cases h4 : (a : Int) ≥ 4
    · have d2 : decide ((a : Int) ≥ 4) = true := by simp only [decide_eq_true_eq]; exact h4
      have d3 : decide ((4 : Int) ≤ (a : Int)) = true := by simp only [decide_eq_true_eq]; exact h4
      have HR : Hid (res = true) := Lib.hid (by rw [HW.out, d1, d2]; rfl)
      clear HW h2 h4
      go_enter Tryz.func41, Tryz.ntmps41
      go_wp2
      go_ret
      exact ⟨by rw [HR.out]; rfl, Only.refl _ _⟩
    · have d2 : decide ((a : Int) ≥ 4) = false := by simp only [decide_eq_false_iff_not]; exact h4
      have d3 : decide ((4 : Int) ≤ (a : Int)) = false := by simp only [decide_eq_false_iff_not]; exact h4
      have HR : Hid (res = false) := Lib.hid (by rw [HW.out, d1, d2]; rfl)
      clear HW h2 h4
      go_enter Tryz.func41, Tryz.ntmps41
      go_wp2
      go_ret
      exact ⟨by rw [HR.out]; rfl, Only.refl _ _⟩
set_option maxRecDepth 100000 in
set_option maxHeartbeats 2000000 in
theorem kUntil {W0 : Two} {w : World} {b : Nat} {x : SSt} {p : Option Addr} {n cap : Nat} {wd : List UInt8} {r : List (List UInt8)} (h : RdX W0 b w x) (hv : VRow strC 1 w p n cap (wd :: r)) (hn : n ≤ 100000) (hl : ∀ y ∈ wd :: r, y.length ≤ 1000000) (he : Env w) :
    Calls Tryz.prog 68 #[.pointer (some ⟨b, 0, none⟩), .slice p n cap] w fun e w' => RdR W0 b (rdUntil x r) e w' := by
  have hlen := hv.len
  subst hlen
  obtain ⟨hb0, hb1, ns, ls, vn, vl, vf, hR⟩ := h
  have HR := Lib.hid hR; have HV := Lib.hid hv; have HE := Lib.hid he; have HL := Lib.hid hl; have H0 := Lib.hid hb0; have H1 := Lib.hid hb1
  clear hR hv he hl hb0 hb1
  have c5 := cell_got HR.out.box 5; have lb := got_lt HR.out.box
  by_cases h0 : x.at_ = 0
  · have d0 : ((x.at_ : Int) != 0) = false := by rw [h0]; rfl
    have d0' : ((x.at_ : Int) == 0) = true := by rw [h0]; rfl
    by_cases h2 : (wd :: r).length = 2
    · obtain ⟨a, rfl⟩ : ∃ a, r = [a] := by
        rcases r with _ | ⟨a, _ | ⟨c, r⟩⟩
        · simp at h2
        · exact ⟨a, rfl⟩
        · simp at h2
      have HRD : Hid (rdUntil x [a] = (numO a).map fun m => ⟨{ x.sc with un := m }, 1⟩) := Lib.hid (if_pos h0)
      generalize rdUntil x [a] = res at HRD ⊢
      obtain ⟨bw, off, hp, s1, lw⟩ := HV.out.str (Only.refl [] w) (k := 1) (by simp)
      subst hp
      have hal := HL.out a (by simp)
      have s1' : w.cell? ⟨bw, off + 1, none⟩ = some (.string (bstr a)) := s1
      have HC := Lib.hid (pNumber a hal w HE.out)
      clear s1 h0 h2 hal
      have z2 : ((([wd, a] : List (List UInt8)).length : Int) != 2) = false := rfl
      go_enter Tryz.func68, Tryz.ntmps68
      go_wp2_with fail
      refine HC.out.mono ?_
      rintro e w1 ⟨hv1, ho1⟩
      have R1 := Lib.hid (HR.out.kept ho1); have O1 := Lib.hid (H1.out.nil_trans ho1)
      clear ho1 s1' c5 lb lw d0 d0' z2 HC HR H1
      cases hx : numO a with
      | none =>
        rw [hx] at hv1 HRD
        obtain ⟨V, rfl⟩ := hv1
        have HX : Hid (res = none) := HRD
        have lb := got_lt R1.out.box
        have f3 := frozen_got R1.out.box 3; have f5 := frozen_got R1.out.box 5; have c3 := cell_got R1.out.box 3; have c5 := cell_got R1.out.box 5
        go_wp2
        go_ret
        rw [HX.out]
        exact ⟨rfl, (O1.out.setCell (.inl (by simp)) _).setCell (.inl (by simp)) _⟩
      | some m =>
        rw [hx] at hv1 HRD
        have hv1' : e = .returned (.tuple #[.int .i64 m, .bool true]) := hv1
        subst hv1'
        have HX : Hid (res = some ⟨{ x.sc with un := m }, 1⟩) := HRD
        have lb := got_lt R1.out.box
        have f3 := frozen_got R1.out.box 3; have f5 := frozen_got R1.out.box 5; have c3 := cell_got R1.out.box 3; have c5 := cell_got R1.out.box 5
        go_wp2
        go_ret
        rw [HX.out]
        refine ⟨rfl, H0.out, (O1.out.setCell (.inl (by simp)) _).setCell (.inl (by simp)) _, ns, ls, vn, vl, vf, ?_⟩
        exact R1.out.cell (((Only.refl [b] w1).setCell (.inl (by simp)) _).setCell (.inl (by simp)) _) (setCell_got _ (setCell_got _ R1.out.box)) rfl rfl rfl
    · have HX : Hid (rdUntil x r = none) := Lib.hid (by
        rcases r with _ | ⟨a, _ | ⟨c, r⟩⟩
        · rfl
        · exact absurd rfl h2
        · rfl)
      generalize rdUntil x r = res at HX ⊢
      have z2 : (((wd :: r).length : Int) != 2) = true := by rw [bne_iff_ne]; omega
      have z2' : (((wd :: r).length : Int) == 2) = false := by rw [beq_eq_false_iff_ne]; omega
      clear h0 h2
      generalize (wd :: r).length = nn at z2 z2' hn ⊢
      go_enter Tryz.func68, Tryz.ntmps68
      go_wp2
      go_ret
      rw [HX.out]
      exact ⟨rfl, H1.out⟩
  · have d0 : ((x.at_ : Int) != 0) = true := by rw [bne_iff_ne]; omega
    have d0' : ((x.at_ : Int) == 0) = false := by rw [beq_eq_false_iff_ne]; omega
    have HX : Hid (rdUntil x r = none) := Lib.hid (by
      rcases r with _ | ⟨a, _ | ⟨c, r⟩⟩
      · rfl
      · exact if_neg h0
      · rfl)
    generalize rdUntil x r = res at HX ⊢
    clear h0
    generalize (wd :: r).length = nn at hn ⊢
    go_enter Tryz.func68, Tryz.ntmps68
    go_wp2
    go_ret
    rw [HX.out]
    exact ⟨rfl, H1.out⟩
end Go.Proofs.YthmeifdgkodjlaaGreatDoor

/- seed of package scenario. Conditions: the library's variables are laid; the lengths. -/
namespace Go.Proofs.YthmeifdgkodjlaaGreatDoor
open Go.RowKit

theorem natO_parse (l : List UInt8) : natO l = match Lib.parseMag l with
    | .ok u => if Lib.decDigits u = l then some u else none
    | _ => none := by
  cases h : natO l with
  | some m =>
    obtain ⟨h1, h2⟩ := natO_some h
    have := mag_dec m (by omega)
    rw [h2] at this
    rw [this]
    simp [h2]
  | none =>
    rcases hp : Lib.parseMag l with u | _ | _
    · have hu := Lib.parseMag_lt hp
      by_cases hd : Lib.decDigits u = l
      · rw [← hd, natO_dec (by omega)] at h; cases h
      · simp [hd]
    · rfl
    · rfl
/-- what seed returns -/
def SeedR (r : Option Nat) (e : Ending) : Prop := match r with
  | some n => e = .returned (.tuple #[.int .u64 n, .bool true])
  | none => ∃ V, e = .returned (.tuple #[.int .u64 V, .bool false])
theorem pu_ok (l : List UInt8) (u : Nat) (h : Lib.parseMag l = .ok u) (hs : l.length ≤ 1000000) (w : World) :
    Calls Tryz.prog 112 #[.string (bstr l), .int .i64 10, .int .i64 64] w fun e w' => e = .returned (.tuple #[.int .u64 u, .nilIface]) ∧ Only [] w w' := by
  refine (Tryz.strconv_ParseUint_10_at64_ok (bstr l) (by rw [bstr_size]; omega) u (by rw [Lib.parseUintB_64]; exact h) w).mono ?_
  rintro e w' ⟨rfl, rfl | ⟨t, rfl⟩⟩
  · exact ⟨rfl, Only.refl _ _⟩
  · exact ⟨rfl, only_bytes _ _ _⟩
theorem pu_bad (l : List UInt8) (h : ∀ u, Lib.parseMag l ≠ .ok u) (hs : l.length ≤ 1000000) (w : World) (he : Env w) :
    Calls Tryz.prog 112 #[.string (bstr l), .int .i64 10, .int .i64 64] w fun e w' => ∃ (V : Int) (N : Nat), e = .returned (.tuple #[.int .u64 V, .iface 166 (.pointer (some ⟨N, 0, none⟩))]) ∧ Only [] w w' := by
  rcases hq : Lib.parseMag l with u | _ | _
  · exact absurd hq (h u)
  · obtain ⟨tp, p, hv⟩ := he.syn
    have hc : Calls Tryz.prog 112 #[.string (bstr l), .int .i64 10, .int .i64 64] w _ := Any.strconv_ParseUint_10_at64_syntax_var Tryz.laysPu14 (bstr l) (by rw [bstr_size]; omega) (by rw [Lib.parseUintB_64]; exact hq) tp p w hv
    refine hc.mono ?_
    rintro e w' ⟨N, rfl, _, _, hb⟩
    exact ⟨_, N, rfl, only_of_below hb⟩
  · obtain ⟨tp, p, hv⟩ := he.ran
    have hc : Calls Tryz.prog 112 #[.string (bstr l), .int .i64 10, .int .i64 64] w _ := Any.strconv_ParseUint_10_at64_range_var Tryz.laysPu14 (bstr l) (by rw [bstr_size]; omega) (by rw [Lib.parseUintB_64]; exact hq) tp p w hv
    refine hc.mono ?_
    rintro e w' ⟨N, rfl, _, _, hb⟩
    exact ⟨_, N, rfl, only_of_below hb⟩
set_option maxRecDepth 100000 in
set_option maxHeartbeats 2000000 in
theorem pSeed (l : List UInt8) (hs : l.length ≤ 1000000) (w : World) (he : Env w) :
    Calls Tryz.prog 98 #[.string (bstr l)] w fun e w' => SeedR (natO l) e ∧ Only [] w w' := by
  have HE := Lib.hid he
  by_cases ha : ∃ u, Lib.parseMag l = .ok u
  · obtain ⟨u, hz⟩ := ha
    have hb := Lib.parseMag_lt hz
    have HA := Lib.hid (pu_ok l u hz hs w)
    have HI := Lib.hid (fun w' (ho : Only [] w w') => fu_plus u hb w' (HE.out.kept ho).tab)
    have hq : natO l = if Lib.decDigits u = l then some u else none := by rw [natO_parse, hz]
    have heq : ((⟨(Lib.decDigits u).toArray⟩ : ByteArray).toList == (bstr l).toList) = decide (Lib.decDigits u = l) := by
      rw [Lib.toList_data, Lib.toList_data, Bool.eq_iff_iff, beq_iff_eq, decide_eq_true_eq]
      exact Iff.rfl
    have HQ := Lib.hid hq
    clear hq hz hb he
    generalize hS : (⟨(Lib.decDigits u).toArray⟩ : ByteArray) = S at HI heq
    generalize bstr l = T at HA heq
    generalize natO l = res at HQ ⊢
    by_cases hd : Lib.decDigits u = l
    · have HR : Hid (res = some u) := Lib.hid (by rw [HQ.out, if_pos hd])
      rw [decide_eq_true hd] at heq
      clear hd HQ hS
      go_enter Tryz.func98, Tryz.ntmps98
      go_wp2_with fail
      refine HA.out.mono ?_
      rintro e w1 ⟨rfl, ho1⟩
      have O1 := Lib.hid ho1
      clear ho1
      go_wp2_with fail
      refine (HI.out w1 O1.out).mono ?_
      rintro e w2 ⟨rfl, ho2⟩
      have O2 := Lib.hid (O1.out.nil_trans ho2)
      clear ho2
      go_wp2
      refine bodyPost_ret (v := .tuple #[.int .u64 u, .bool true]) (by simp [results, Tryz.results98, go_sem]) rfl ⟨?_, O2.out⟩
      rw [HR.out]; rfl
    · have HR : Hid (res = none) := Lib.hid (by rw [HQ.out, if_neg hd])
      rw [decide_eq_false hd] at heq
      clear hd HQ hS
      go_enter Tryz.func98, Tryz.ntmps98
      go_wp2_with fail
      refine HA.out.mono ?_
      rintro e w1 ⟨rfl, ho1⟩
      have O1 := Lib.hid ho1
      clear ho1
      go_wp2_with fail
      refine (HI.out w1 O1.out).mono ?_
      rintro e w2 ⟨rfl, ho2⟩
      have O2 := Lib.hid (O1.out.nil_trans ho2)
      clear ho2
      go_wp2
      refine bodyPost_ret (v := .tuple #[.int .u64 u, .bool false]) (by simp [results, Tryz.results98, go_sem]) rfl ⟨?_, O2.out⟩
      rw [HR.out]; exact ⟨_, rfl⟩
  · have ha' : ∀ z, Lib.parseMag l ≠ .ok z := fun z hz => ha ⟨z, hz⟩
    have HA := Lib.hid (pu_bad l ha' hs w he)
    have HR : Hid (natO l = none) := Lib.hid (by
      rw [natO_parse]
      rcases hp : Lib.parseMag l with u | _ | _
      · exact absurd hp (ha' u)
      · rfl
      · rfl)
    clear ha ha' he
    generalize natO l = res at HR ⊢
    go_enter Tryz.func98, Tryz.ntmps98
    go_wp2_with fail
    refine HA.out.mono ?_
    rintro e w1 ⟨V, N, rfl, ho1⟩
    have O1 := Lib.hid ho1
    clear ho1
    go_wp2
    refine bodyPost_ret (v := .tuple #[.int .u64 V, .bool false]) (by simp [results, Tryz.results98, go_sem]) rfl ⟨?_, O1.out⟩
    rw [HR.out]; exact ⟨_, rfl⟩
end Go.Proofs.YthmeifdgkodjlaaGreatDoor

/- seed of the reader. Conditions: the library's variables are laid; the lengths. -/
namespace Go.Proofs.YthmeifdgkodjlaaGreatDoor
open Go.RowKit

set_option maxRecDepth 100000 in
set_option maxHeartbeats 2000000 in
theorem kSeed {W0 : Two} {w : World} {b : Nat} {x : SSt} {p : Option Addr} {n cap : Nat} {wd : List UInt8} {r : List (List UInt8)} (h : RdX W0 b w x) (hv : VRow strC 1 w p n cap (wd :: r)) (hn : n ≤ 100000) (hl : ∀ y ∈ wd :: r, y.length ≤ 1000000) (he : Env w) :
    Calls Tryz.prog 69 #[.pointer (some ⟨b, 0, none⟩), .slice p n cap] w fun e w' => RdR W0 b (rdSeed x r) e w' := by
  have hlen := hv.len
  subst hlen
  obtain ⟨hb0, hb1, ns, ls, vn, vl, vf, hR⟩ := h
  have HR := Lib.hid hR; have HV := Lib.hid hv; have HE := Lib.hid he; have HL := Lib.hid hl; have H0 := Lib.hid hb0; have H1 := Lib.hid hb1
  clear hR hv he hl hb0 hb1
  have c5 := cell_got HR.out.box 5; have lb := got_lt HR.out.box
  by_cases h0 : x.at_ = 1
  · have d0 : ((x.at_ : Int) != 1) = false := by rw [h0]; rfl
    have d0' : ((x.at_ : Int) == 1) = true := by rw [h0]; rfl
    by_cases h2 : (wd :: r).length = 2
    · obtain ⟨a, rfl⟩ : ∃ a, r = [a] := by
        rcases r with _ | ⟨a, _ | ⟨c, r⟩⟩
        · simp at h2
        · exact ⟨a, rfl⟩
        · simp at h2
      have HRD : Hid (rdSeed x [a] = (natO a).map fun m => ⟨{ x.sc with sd := m }, 2⟩) := Lib.hid (if_pos h0)
      generalize rdSeed x [a] = res at HRD ⊢
      obtain ⟨bw, off, hp, s1, lw⟩ := HV.out.str (Only.refl [] w) (k := 1) (by simp)
      subst hp
      have hal := HL.out a (by simp)
      have s1' : w.cell? ⟨bw, off + 1, none⟩ = some (.string (bstr a)) := s1
      have HC := Lib.hid (pSeed a hal w HE.out)
      clear s1 h0 h2 hal
      have z2 : ((([wd, a] : List (List UInt8)).length : Int) != 2) = false := rfl
      go_enter Tryz.func69, Tryz.ntmps69
      go_wp2_with fail
      refine HC.out.mono ?_
      rintro e w1 ⟨hv1, ho1⟩
      have R1 := Lib.hid (HR.out.kept ho1); have O1 := Lib.hid (H1.out.nil_trans ho1)
      clear ho1 s1' c5 lb lw d0 d0' z2 HC HR H1
      cases hx : natO a with
      | none =>
        rw [hx] at hv1 HRD
        obtain ⟨V, rfl⟩ := hv1
        have HX : Hid (res = none) := HRD
        have lb := got_lt R1.out.box
        have f4 := frozen_got R1.out.box 4; have f5 := frozen_got R1.out.box 5; have c4 := cell_got R1.out.box 4; have c5 := cell_got R1.out.box 5
        go_wp2
        go_ret
        rw [HX.out]
        exact ⟨rfl, (O1.out.setCell (.inl (by simp)) _).setCell (.inl (by simp)) _⟩
      | some m =>
        rw [hx] at hv1 HRD
        have hv1' : e = .returned (.tuple #[.int .u64 m, .bool true]) := hv1
        subst hv1'
        have HX : Hid (res = some ⟨{ x.sc with sd := m }, 2⟩) := HRD
        have lb := got_lt R1.out.box
        have f4 := frozen_got R1.out.box 4; have f5 := frozen_got R1.out.box 5; have c4 := cell_got R1.out.box 4; have c5 := cell_got R1.out.box 5
        go_wp2
        go_ret
        rw [HX.out]
        refine ⟨rfl, H0.out, (O1.out.setCell (.inl (by simp)) _).setCell (.inl (by simp)) _, ns, ls, vn, vl, vf, ?_⟩
        exact R1.out.cell (((Only.refl [b] w1).setCell (.inl (by simp)) _).setCell (.inl (by simp)) _) (setCell_got _ (setCell_got _ R1.out.box)) rfl rfl rfl
    · have HX : Hid (rdSeed x r = none) := Lib.hid (by
        rcases r with _ | ⟨a, _ | ⟨c, r⟩⟩
        · rfl
        · exact absurd rfl h2
        · rfl)
      generalize rdSeed x r = res at HX ⊢
      have z2 : (((wd :: r).length : Int) != 2) = true := by rw [bne_iff_ne]; omega
      have z2' : (((wd :: r).length : Int) == 2) = false := by rw [beq_eq_false_iff_ne]; omega
      clear h0 h2
      generalize (wd :: r).length = nn at z2 z2' hn ⊢
      go_enter Tryz.func69, Tryz.ntmps69
      go_wp2
      go_ret
      rw [HX.out]
      exact ⟨rfl, H1.out⟩
  · have d0 : ((x.at_ : Int) != 1) = true := by rw [bne_iff_ne]; omega
    have d0' : ((x.at_ : Int) == 1) = false := by rw [beq_eq_false_iff_ne]; omega
    have HX : Hid (rdSeed x r = none) := Lib.hid (by
      rcases r with _ | ⟨a, _ | ⟨c, r⟩⟩
      · rfl
      · exact if_neg h0
      · rfl)
    generalize rdSeed x r = res at HX ⊢
    clear h0
    generalize (wd :: r).length = nn at hn ⊢
    go_enter Tryz.func69, Tryz.ntmps69
    go_wp2
    go_ret
    rw [HX.out]
    exact ⟨rfl, H1.out⟩
end Go.Proofs.YthmeifdgkodjlaaGreatDoor

/- The reader's rows grow and change. No condition. -/
namespace Go.Proofs.YthmeifdgkodjlaaGreatDoor
open Go.RowKit

section
variable {α : Type} {enc : α → List Value}
/-- one element is appended to a slice that the caller owns -/
theorem wpList_append_B {P : Program} {w : World} {B : Nat} {ops : Array Oper} {rest : List Oper} {o : Oper} {a : Act} {Q : Exit → Act → World → Prop} (hgd : o.guard = none) (sO xO : Operand) (t : TypeId)
    (ho : o.op = .call { callee := .builtin .append, args := #[sO, xO], argTypes := #[t, t] })
    (e : TypeId) (z : Value) (size bytes : Nat) (ht : P.underlying t = some (.slice e)) (hi : (P.info? e).map (fun i => (i.zero, i.size, i.bytes)) = some (some z, size, bytes)) (hzs : z.cells.size = size) (hsz : 0 < size)
    (hs : ∀ x, (enc x).length = size) (h1c : ∀ x, ∀ u ∈ enc x, u.oneCell' = true) (l : List α) (v : Value) (hv : a.eval sO = v) (hown : Own enc e size B w v l)
    (ad : Nat) (x : α) (hx : a.eval xO = .slice (some ⟨ad, 0, none⟩) 1 1) (hnews : ∀ j u, (enc x)[j]? = some u → w.cell? ⟨ad, j, none⟩ = some u)
    (hlen : l.length + 1 ≤ maxLen) (hby : (l.length + 1) * bytes ≤ 140737488355328) (hB : B ≤ w.heap.size)
    (hK : ∀ g' cap' w', Own enc e size B w' (.slice (some ⟨g', 0, none⟩) (l.length + 1) cap') (l ++ [x]) → Only v.ownBlock.toList w w' → (v.ownBlock = some g' ∨ g' = w.heap.size) → wpList P ops Q rest (a.put o.dst (.slice (some ⟨g', 0, none⟩) (l.length + 1) cap')) w') : wpList P ops Q (o :: rest) a w := by
  cases hi' : P.info? e with
  | none => rw [hi'] at hi; simp at hi
  | some i =>
    rw [hi'] at hi
    simp only [Option.map_some, Option.some.injEq, Prod.mk.injEq] at hi
    obtain ⟨z1, z2, z3⟩ := hi
    have hadd : ∀ j, (⟨ad, 0, none⟩ : Addr).add j = ⟨ad, j, none⟩ := fun j => by rw [addr_add]; simp
    have hfl : (l ++ [x]).flatMap enc = l.flatMap enc ++ enc x := by simp
    have hblk : w.ownsRow 0 e size v l.length (l.flatMap enc) := by
      rcases hown with ⟨rfl, rfl⟩ | ⟨g, cap, rfl, _, h3⟩
      · exact ⟨by simp, .inl ⟨rfl, rfl⟩⟩
      · exact h3.owns hs (Nat.zero_le _)
    refine wpList_append_row hgd sO xO t ho e i z size bytes ht hi' z1 z2 z3 hzs hsz v l.length (l.flatMap enc) hv hblk ⟨ad, 0, none⟩ 1 1 (enc x) hx (by rw [hs]; omega) (fun j u hj => by rw [hadd]; exact hnews j u hj) (h1c x) hlen hby (by decide) ?_
    intro g' cap' w' hown' ho' hg'
    rw [← hfl] at hown'
    refine hK _ _ _ (.inr ⟨g', cap', by simp, ?_, RowAt.of_owns hown' (by simp)⟩) ho' hg'
    rcases hg' with h | rfl
    · exact (hown.block h).1
    · exact hB
end
theorem own_empty {α : Type} {enc : α → List Value} {e : TypeId} {s B : Nat} {w : World} {n c : Nat} (hn : n = 0) (hc : c = 0) : Own enc e s B w (.slice none n c) [] := by subst hn; subst hc; exact own_nil _ _
theorem mem_snoc {α : Type} {r : List α} {y z : α} (h : z ∈ r ++ [y]) : z ∈ r ∨ z = y := by simpa using h
section
variable {B b : Nat} {w w1 w2 : World} {x x' : SSt} {ns : List NdW} {ls : List LkW} {vn vl vf v' : Value}
theorem RdW.addN {y : NdW} (h : RdW B b w x ns ls vn vl vf) (ho : Only vn.ownBlock.toList w w1) (hv : Own ndC 48 7 B w1 v' (ns ++ [y])) (hy : y.ps = none ∧ y.pv = none ∧ y.cs = 0 ∧ y.cv = 0 ∧ y.n.sg = [] ∧ y.n.sv = []) (ho2 : Only [b] w1 w2)
    (hb : w2.heap[b]? = some (.cells #[v', vl, vf, .int .i64 x'.sc.un, .int .u64 x'.sc.sd, .int .i64 x'.at_] 82 (0, 0))) (h1 : x'.sc.nd = x.sc.nd ++ [y.n]) (h2 : x'.sc.lk = x.sc.lk) (h3 : x'.sc.ft = x.sc.ft) : RdW B b w2 x' (ns ++ [y]) ls v' vl vf := by
  obtain ⟨p1, p2, p3, p4, p5, p6⟩ := hy
  have hbb : w1.heap[b]? = _ := ho.got h.box (fun hm => h.nd.ne_box h.box (by decide) (by simpa using hm))
  refine ⟨hb, by rw [h1, h.hn]; simp, by rw [h2, h.hl], own_setB hv hbb (by decide) ho2, own_setB (h.lk.keptS ho (h.lk.ne_of h.nd (by decide))) hbb (by decide) ho2, by rw [h3]; exact own_setB (h.ft.keptS ho (h.ft.ne_of h.nd (by decide))) hbb (by decide) ho2, fun z hz => ?_, fun z hz => ?_, fun z hz => own_setB ((h.ch z hz).keptS ho ((h.ch z hz).ne_of h.nd (by decide))) hbb (by decide) ho2, fun r z hr => ?_, h.apL⟩
  · rcases mem_snoc hz with hz | rfl
    · exact own_setB ((h.sg z hz).keptS ho ((h.sg z hz).ne_of h.nd (by decide))) hbb (by decide) ho2
    · rw [p1, p5]; exact own_empty rfl p3
  · rcases mem_snoc hz with hz | rfl
    · exact own_setB ((h.sv z hz).keptS ho ((h.sv z hz).ne_of h.nd (by decide))) hbb (by decide) ho2
    · rw [p2, p6]; exact own_empty rfl p4
  · obtain ⟨rfl, hz⟩ := List.append_inj' hr rfl
    cases hz
    exact fun q _ => ⟨.inr p1, .inr p2⟩
theorem RdW.addL {y : LkW} (h : RdW B b w x ns ls vn vl vf) (ho : Only vl.ownBlock.toList w w1) (hv : Own lkC 54 9 B w1 v' (ls ++ [y])) (hy : y.p = none ∧ y.c = 0 ∧ y.l.ch = []) (ho2 : Only [b] w1 w2)
    (hb : w2.heap[b]? = some (.cells #[vn, v', vf, .int .i64 x'.sc.un, .int .u64 x'.sc.sd, .int .i64 x'.at_] 82 (0, 0))) (h1 : x'.sc.nd = x.sc.nd) (h2 : x'.sc.lk = x.sc.lk ++ [y.l]) (h3 : x'.sc.ft = x.sc.ft) : RdW B b w2 x' ns (ls ++ [y]) vn v' vf := by
  obtain ⟨p1, p2, p3⟩ := hy
  have hbb : w1.heap[b]? = _ := ho.got h.box (fun hm => h.lk.ne_box h.box (by decide) (by simpa using hm))
  refine ⟨hb, by rw [h1, h.hn], by rw [h2, h.hl]; simp, own_setB (h.nd.keptS ho (h.nd.ne_of h.lk (by decide))) hbb (by decide) ho2, own_setB hv hbb (by decide) ho2, by rw [h3]; exact own_setB (h.ft.keptS ho (h.ft.ne_of h.lk (by decide))) hbb (by decide) ho2, fun z hz => own_setB ((h.sg z hz).keptS ho ((h.sg z hz).ne_of h.lk (by decide))) hbb (by decide) ho2, fun z hz => own_setB ((h.sv z hz).keptS ho ((h.sv z hz).ne_of h.lk (by decide))) hbb (by decide) ho2, fun z hz => ?_, h.apN, fun r z hr => ?_⟩
  · rcases mem_snoc hz with hz | rfl
    · exact own_setB ((h.ch z hz).keptS ho ((h.ch z hz).ne_of h.lk (by decide))) hbb (by decide) ho2
    · rw [p1, p3]; exact own_empty rfl p2
  · obtain ⟨rfl, hz⟩ := List.append_inj' hr rfl
    cases hz
    exact fun q _ => .inr p1
theorem RdW.addF {y : Ft} (h : RdW B b w x ns ls vn vl vf) (ho : Only vf.ownBlock.toList w w1) (hv : Own ftC 60 5 B w1 v' (x.sc.ft ++ [y])) (ho2 : Only [b] w1 w2)
    (hb : w2.heap[b]? = some (.cells #[vn, vl, v', .int .i64 x'.sc.un, .int .u64 x'.sc.sd, .int .i64 x'.at_] 82 (0, 0))) (h1 : x'.sc.nd = x.sc.nd) (h2 : x'.sc.lk = x.sc.lk) (h3 : x'.sc.ft = x.sc.ft ++ [y]) : RdW B b w2 x' ns ls vn vl v' := by
  have hbb : w1.heap[b]? = _ := ho.got h.box (fun hm => h.ft.ne_box h.box (by decide) (by simpa using hm))
  exact ⟨hb, by rw [h1, h.hn], by rw [h2, h.hl], own_setB (h.nd.keptS ho (h.nd.ne_of h.ft (by decide))) hbb (by decide) ho2, own_setB (h.lk.keptS ho (h.lk.ne_of h.ft (by decide))) hbb (by decide) ho2, by rw [h3]; exact own_setB hv hbb (by decide) ho2, fun z hz => own_setB ((h.sg z hz).keptS ho ((h.sg z hz).ne_of h.ft (by decide))) hbb (by decide) ho2, fun z hz => own_setB ((h.sv z hz).keptS ho ((h.sv z hz).ne_of h.ft (by decide))) hbb (by decide) ho2, fun z hz => own_setB ((h.ch z hz).keptS ho ((h.ch z hz).ne_of h.ft (by decide))) hbb (by decide) ho2, h.apN, h.apL⟩
theorem own_at {α : Type} {enc : α → List Value} {e : TypeId} {s : Nat} {r : List α} {y : α} {v : Value} (h : Own enc e s B w v (r ++ [y])) : ∃ g cap, v = .slice (some ⟨g, 0, none⟩) (r.length + 1) cap ∧ B ≤ g ∧ RowAt enc e s w g cap (r ++ [y]) := by
  rcases h with ⟨_, h⟩ | ⟨g, cap, h1, h2, h3⟩
  · simp at h
  · exact ⟨g, cap, by rw [h1]; simp, h2, h3⟩
theorem row_last {α : Type} {r : List α} {y : α} : (r ++ [y])[r.length]? = some y := by simp
theorem set_last {α : Type} {r : List α} {y y' : α} : (r ++ [y]).set r.length y' = r ++ [y'] := by simp
/-- the last node changes -/
theorem RdW.setN {r : List NdW} {y y' : NdW} {S : List Nat} {j : Nat} {u : Value} (h : RdW B b w x (r ++ [y]) ls vn vl vf) (ho : Only S w w1) (hbS : b ∉ S)
    (k1 : ∀ k ∈ S, vn.ownBlock ≠ some k) (k2 : ∀ k ∈ S, vl.ownBlock ≠ some k) (k3 : ∀ k ∈ S, vf.ownBlock ≠ some k) (k4 : ∀ z ∈ ls, ∀ k ∈ S, (Value.slice z.p z.l.ch.length z.c).ownBlock ≠ some k)
    (k5 : ∀ z ∈ r, ∀ k ∈ S, (Value.slice z.ps z.n.sg.length z.cs).ownBlock ≠ some k) (k6 : ∀ z ∈ r, ∀ k ∈ S, (Value.slice z.pv z.n.sv.length z.cv).ownBlock ≠ some k)
    (q1 : Own sgC 96 2 B w1 (.slice y'.ps y'.n.sg.length y'.cs) y'.n.sg) (q2 : Own itC 3 1 B w1 (.slice y'.pv y'.n.sv.length y'.cv) y'.n.sv)
    (hap : ∀ z ∈ r, (z.ps ≠ y'.ps ∨ y'.ps = none) ∧ (z.pv ≠ y'.pv ∨ y'.pv = none)) (hj : j < 7) (hu : ndC y' = (ndC y).set j u)
    (h1 : x'.sc.nd = r.map NdW.n ++ [y'.n]) (h2 : x'.sc.lk = x.sc.lk) (h3 : x'.sc.ft = x.sc.ft) (h4 : x'.sc.un = x.sc.un) (h5 : x'.sc.sd = x.sc.sd) (h6 : x'.at_ = x.at_) :
    ∃ gn cap, vn = .slice (some ⟨gn, 0, none⟩) (r.length + 1) cap ∧ B ≤ gn ∧ w1.heap[gn]?.isSome = true ∧ RdW B b (w1.setCell ⟨gn, r.length * 7 + j, none⟩ u) x' (r ++ [y']) ls vn vl vf := by
  obtain ⟨gn, cap, hvn, hgB, hrow⟩ := own_at (h.nd.keptS ho k1)
  have hlt := hrow.lt
  have hput := hrow.put1 ndC_len row_last hj hu
  rw [set_last] at hput
  have hset : Only [gn] w1 (w1.setCell ⟨gn, r.length * 7 + j, none⟩ u) := (Only.refl [gn] w1).setCell (.inl (by simp)) _
  have hbox1 : w1.heap[b]? = _ := ho.got h.box hbS
  have hown : Own ndC 48 7 B w1 vn (r ++ [y]) := h.nd.keptS ho k1
  have hvb : vn.ownBlock = some gn := by rw [hvn]; rfl
  have hgb : gn ≠ b := fun e => hown.ne_box hbox1 (by decide) (by rw [hvb, e])
  have hS : ∀ {α : Type} {enc : α → List Value} {e : TypeId} {s : Nat} {v : Value} {l : List α}, Own enc e s B w1 v l → e ≠ 48 → Own enc e s B (w1.setCell ⟨gn, r.length * 7 + j, none⟩ u) v l := fun hq he =>
    hq.keptS hset (fun k hk => by rw [List.mem_singleton] at hk; rw [hk]; exact hq.ne_of hown he gn (by rw [hvb]; simp))
  refine ⟨gn, cap, hvn, hgB, by simp [hlt], ?_⟩
  refine ⟨?_, by rw [h1]; simp, by rw [h2, h.hl], .inr ⟨gn, cap, by rw [hvn]; simp, hgB, hput⟩, hS (h.lk.keptS ho k2) (by decide), by rw [h3]; exact hS (h.ft.keptS ho k3) (by decide), fun z hz => ?_, fun z hz => ?_, fun z hz => hS ((h.ch z hz).keptS ho (k4 z hz)) (by decide), fun r' z hr => ?_, h.apL⟩
  · rw [h4, h5, h6]; exact hset.got hbox1 (by simpa using fun e => hgb e.symm)
  · rcases mem_snoc hz with hz | rfl
    · exact hS ((h.sg z (by simp [hz])).keptS ho (k5 z hz)) (by decide)
    · exact hS q1 (by decide)
  · rcases mem_snoc hz with hz | rfl
    · exact hS ((h.sv z (by simp [hz])).keptS ho (k6 z hz)) (by decide)
    · exact hS q2 (by decide)
  · obtain ⟨rfl, hz⟩ := List.append_inj' hr rfl
    cases hz
    exact hap
/-- the last link changes -/
theorem RdW.setL {r : List LkW} {y y' : LkW} {S : List Nat} {j : Nat} {u : Value} (h : RdW B b w x ns (r ++ [y]) vn vl vf) (ho : Only S w w1) (hbS : b ∉ S)
    (k1 : ∀ k ∈ S, vn.ownBlock ≠ some k) (k2 : ∀ k ∈ S, vl.ownBlock ≠ some k) (k3 : ∀ k ∈ S, vf.ownBlock ≠ some k) (k4 : ∀ z ∈ r, ∀ k ∈ S, (Value.slice z.p z.l.ch.length z.c).ownBlock ≠ some k)
    (k5 : ∀ z ∈ ns, ∀ k ∈ S, (Value.slice z.ps z.n.sg.length z.cs).ownBlock ≠ some k) (k6 : ∀ z ∈ ns, ∀ k ∈ S, (Value.slice z.pv z.n.sv.length z.cv).ownBlock ≠ some k)
    (q1 : Own chC 98 3 B w1 (.slice y'.p y'.l.ch.length y'.c) y'.l.ch)
    (hap : ∀ z ∈ r, z.p ≠ y'.p ∨ y'.p = none) (hj : j < 9) (hu : lkC y' = (lkC y).set j u)
    (h1 : x'.sc.nd = x.sc.nd) (h2 : x'.sc.lk = r.map LkW.l ++ [y'.l]) (h3 : x'.sc.ft = x.sc.ft) (h4 : x'.sc.un = x.sc.un) (h5 : x'.sc.sd = x.sc.sd) (h6 : x'.at_ = x.at_) :
    ∃ gn cap, vl = .slice (some ⟨gn, 0, none⟩) (r.length + 1) cap ∧ B ≤ gn ∧ w1.heap[gn]?.isSome = true ∧ RdW B b (w1.setCell ⟨gn, r.length * 9 + j, none⟩ u) x' ns (r ++ [y']) vn vl vf := by
  obtain ⟨gn, cap, hvn, hgB, hrow⟩ := own_at (h.lk.keptS ho k2)
  have hlt := hrow.lt
  have hput := hrow.put1 lkC_len row_last hj hu
  rw [set_last] at hput
  have hset : Only [gn] w1 (w1.setCell ⟨gn, r.length * 9 + j, none⟩ u) := (Only.refl [gn] w1).setCell (.inl (by simp)) _
  have hbox1 : w1.heap[b]? = _ := ho.got h.box hbS
  have hown : Own lkC 54 9 B w1 vl (r ++ [y]) := h.lk.keptS ho k2
  have hvb : vl.ownBlock = some gn := by rw [hvn]; rfl
  have hgb : gn ≠ b := fun e => hown.ne_box hbox1 (by decide) (by rw [hvb, e])
  have hS : ∀ {α : Type} {enc : α → List Value} {e : TypeId} {s : Nat} {v : Value} {l : List α}, Own enc e s B w1 v l → e ≠ 54 → Own enc e s B (w1.setCell ⟨gn, r.length * 9 + j, none⟩ u) v l := fun hq he =>
    hq.keptS hset (fun k hk => by rw [List.mem_singleton] at hk; rw [hk]; exact hq.ne_of hown he gn (by rw [hvb]; simp))
  refine ⟨gn, cap, hvn, hgB, by simp [hlt], ?_⟩
  refine ⟨?_, by rw [h1, h.hn], by rw [h2]; simp, hS (h.nd.keptS ho k1) (by decide), .inr ⟨gn, cap, by rw [hvn]; simp, hgB, hput⟩, by rw [h3]; exact hS (h.ft.keptS ho k3) (by decide), fun z hz => hS ((h.sg z hz).keptS ho (k5 z hz)) (by decide), fun z hz => hS ((h.sv z hz).keptS ho (k6 z hz)) (by decide), fun z hz => ?_, h.apN, fun r' z hr => ?_⟩
  · rw [h4, h5, h6]; exact hset.got hbox1 (by simpa using fun e => hgb e.symm)
  · rcases mem_snoc hz with hz | rfl
    · exact hS ((h.ch z (by simp [hz])).keptS ho (k4 z hz)) (by decide)
    · exact hS q1 (by decide)
  · obtain ⟨rfl, hz⟩ := List.append_inj' hr rfl
    cases hz
    exact hap
end
end Go.Proofs.YthmeifdgkodjlaaGreatDoor
