/- The writer's words and line. Conditions: the library's table is laid; the lengths. -/
import Derived.Test.YthmeifdgkodjlaaDoorSf
import Derived.Test.YthmeifdgkodjlaaDoorEnw
import Derived.Test.YthmeifdgkodjlaaDoorSe
namespace Go.Proofs.YthmeifdgkodjlaaDoor
open Go.RowKit

theorem itoaX (n : Int) (w : World) (h : i64 n) (ht : Tab w) :
    ∃ X : ByteArray, Hid (∀ w', Only [] w w' → Calls Tryd.prog 43 #[.int .i64 n] w' fun e w'' => e = .returned (.string X) ∧ Only [] w' w'') ∧ Hid (X.data.toList = it n) ∧ X.size ≤ 30 :=
  ⟨bstr (Lib.itoa n), Lib.hid (fun w' ho => itoa_plus n w' h.1 h.2 (ht.kept ho)), Lib.hid rfl, by rw [bstr_size]; have := Lib.itoa_length_le n h.1 h.2; omega⟩
/-- numbers, a blank before each -/
def numT (ns : List Int) : List UInt8 := ns.flatMap fun n => 32 :: it n
theorem numT_snoc (ns : List Int) (n : Int) : numT (ns ++ [n]) = numT ns ++ (32 :: it n) := by simp [numT]
theorem it_len {n : Int} (h : i64 n) : (it n).length ≤ 29 := by have := Lib.itoa_length_le n h.1 h.2; unfold it; omega
theorem numT_len : ∀ {ns : List Int}, (∀ n ∈ ns, i64 n) → (numT ns).length ≤ 30 * ns.length
  | [], _ => by simp [numT]
  | n :: r, h => by
    have h1 := it_len (h n (by simp))
    have h2 := numT_len (ns := r) (fun x hx => h x (by simp [hx]))
    simp only [numT, List.flatMap_cons, List.length_append, List.length_cons] at h2 ⊢
    omega
def WdI (w0 w : World) (l : List UInt8) (ns : List Int) (vi : Value) (wr : World) : Prop :=
  ∃ k : Nat, k ≤ ns.length ∧ vi = .int .i64 k ∧ Bld w0 wr (l ++ numT (ns.take k)) ∧ FrB w0.heap.size w wr
set_option maxRecDepth 100000 in
set_option maxHeartbeats 2000000 in
theorem pWords {w0 w : World} {l : List UInt8} (h : Bld w0 w l) (ht : Tab w0) (word : ByteArray) {g cap : Nat} {ns : List Int} (hr : RowAt itC 3 1 w g cap ns) (hg : g ≠ w0.heap.size) (hns : ∀ n ∈ ns, i64 n)
    (hlen : l.length + word.size + 30 * ns.length ≤ 10000000) :
    Calls Tryd.prog 24 #[.pointer (some ⟨w0.heap.size, 0, none⟩), .string word, .slice (some ⟨g, 0, none⟩) ns.length cap] w fun e w' => e = .returned (.tuple #[]) ∧ Bld w0 w' (l ++ word.data.toList ++ numT ns) ∧ FrB w0.heap.size w w' := by
  have HW := Lib.hid (bWriteString h word (by omega))
  have HR := Lib.hid hr; have HT := Lib.hid ht; have HNS := Lib.hid hns
  have hwl : word.data.toList.length = word.size := by rw [Array.length_toList]; rfl
  have hcap : (ns.length : Int) ≤ 9223372036854775807 := by omega
  clear h hr ht hns
  generalize hl1 : l ++ word.data.toList = l1 at HW ⊢
  have hl1l : l1.length = l.length + word.size := by rw [← hl1, List.length_append, hwl]
  clear hl1 hwl
  go_enter Tryd.func24, Tryd.ntmps24
  go_wp2_with fail
  refine HW.out.mono ?_
  rintro e w1 ⟨rfl, hb1, hf1⟩
  have D1 := Lib.hid hb1; have F1 := Lib.hid hf1
  clear hb1 hf1 HW
  go_wp2
  go_loopw [15] (fun vi wr => WdI w0 w l1 ns vi wr) (fun vi _ => ns.length - (intOf vi).toNat)
  case atStart => exact ⟨0, Nat.zero_le _, rfl, by simpa [numT] using D1.out, F1.out⟩
  case round =>
    obtain ⟨k, hk, rfl, hbl, hfr⟩ := hrel
    have DD := Lib.hid hbl; have FF := Lib.hid hfr
    clear hbl hfr
    by_cases hlt : k < ns.length
    · have hcell : wr.cell? ⟨g, k, none⟩ = some (.int .i64 (ns.getD k 0)) := by
        have := (FF.out.row HR.out hg (by decide)).cell (i := k) (j := 0) itC_len (getD_some 0 hlt) (by decide)
        simpa [itC] using this
      have lg := (FF.out.row HR.out hg (by decide)).lt
      have hi := HNS.out _ (getD_mem 0 hlt)
      have htk : numT (ns.take (k + 1)) = numT (ns.take k) ++ (32 :: it (ns.getD k 0)) := by rw [List.take_add_one, getD_some 0 hlt]; exact numT_snoc _ _
      have htl := numT_len (ns := ns.take k) (fun x hx => HNS.out x (List.mem_of_mem_take hx))
      have hlk : (ns.take k).length = k := by rw [List.length_take]; omega
      rw [hlk] at htl
      generalize ns.getD k 0 = n at hcell hi htk
      obtain ⟨X, HI, HX, hxl⟩ := itoaX n wr hi (HT.out.kept DD.out.2)
      have HTK := Lib.hid htk
      have q1 : ¬ 9223372036854775807 < 1 + X.size := by omega
      have HW := Lib.hid (fun (w' : World) (ho : Only [] wr w') => bWriteString (DD.out.kept ho) ({ data := #[32] } ++ X) (by
        rw [List.length_append, ByteArray.size_append]
        have : ({ data := #[32] } : ByteArray).size = 1 := rfl
        omega))
      have hd : ({ data := #[32] } ++ X : ByteArray).data.toList = 32 :: it n := by rw [ByteArray.data_append, Array.toList_append, HX.out]; rfl
      rw [hd, List.append_assoc, ← HTK.out] at HW
      clear htk hlk hi hd
      go_upto_region 4 with (fail)
      refine wp_region_grown [0, 1, 2, 3, 4, 5] [6] (by kernel_rfl) (by kernel_rfl) ?_
      simp only [pick, List.map_cons, List.map_nil, List.getD_cons_succ, List.getD_cons_zero]
      iterate 4 (refine wpQuiet_step (fun K hK => ?_); go_simp; refine hK _ ?_; clear hK K)
      refine wpQuiet_enter_w (by kernel_rfl) 43 #[.int .i64 n] (fun _ => by kernel_rfl) (.string X) (grown_only2 fun w' ho' => HI.out w' ho') ?_
      iterate 1 (refine wpQuiet_step (fun K hK => ?_); go_simp; refine hK _ ?_; clear hK K)
      refine wpQuiet_nil ?_
      intro w4 hw4
      have O4 := Lib.hid (only_of_plus hw4)
      clear hw4 hcell lg HI
      go_wp2_with fail
      refine (HW.out w4 O4.out).mono ?_
      rintro e w5 ⟨rfl, hb5, hf5⟩
      have D5 := Lib.hid hb5; have F5 := Lib.hid ((FF.out.trans (frB_only O4.out)).trans hf5)
      clear hb5 hf5 HW q1
      go_wp2
      go_roundw
      case rel => exact ⟨k + 1, by omega, by go_num, D5.out, F5.out⟩
      case measure => first | (simp [intOf]; done) | (simp [intOf]; omega)
    · obtain rfl : k = ns.length := by omega
      go_wp2
      go_end0
      have := DD.out
      rw [List.take_of_length_le (Nat.le_refl _)] at this
      exact ⟨rfl, this, FF.out⟩
set_option maxRecDepth 100000 in
set_option maxHeartbeats 2000000 in
theorem pLine {w0 w : World} {l : List UInt8} (h : Bld w0 w l) (ht : Tab w0) (word : ByteArray) {g cap : Nat} {ns : List Int} (hr : RowAt itC 3 1 w g cap ns) (hg : g ≠ w0.heap.size) (hns : ∀ n ∈ ns, i64 n)
    (hlen : l.length + word.size + 30 * ns.length ≤ 10000000) :
    Calls Tryd.prog 19 #[.pointer (some ⟨w0.heap.size, 0, none⟩), .string word, .slice (some ⟨g, 0, none⟩) ns.length cap] w fun e w' => e = .returned (.tuple #[]) ∧ Bld w0 w' (l ++ word.data.toList ++ numT ns ++ [10]) ∧ FrB w0.heap.size w w' := by
  have HW := Lib.hid (pWords h ht word hr hg hns hlen)
  have hnl := numT_len hns
  have hwl : word.data.toList.length = word.size := by rw [Array.length_toList]; rfl
  clear h hr ht hns
  go_enter Tryd.func19, Tryd.ntmps19
  go_wp2_with fail
  refine HW.out.mono ?_
  rintro e w1 ⟨rfl, hb1, hf1⟩
  have F1 := Lib.hid hf1
  have HB := Lib.hid (bWriteByte hb1 10 (by simp only [List.length_append]; omega))
  clear hb1 hf1 HW
  go_wp2_with fail
  refine HB.out.mono ?_
  rintro e w2 ⟨rfl, hb2, hf2⟩
  go_wp2
  go_end0
  exact ⟨rfl, hb2, F1.out.trans hf2⟩
end Go.Proofs.YthmeifdgkodjlaaDoor
