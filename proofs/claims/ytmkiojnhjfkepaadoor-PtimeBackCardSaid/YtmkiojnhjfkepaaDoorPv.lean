/- What Encode and Text of package ptime compute, and the chapter's examples. Condition: the table of powers of ten is laid. -/
import Derived.Test.YtmkiojnhjfkepaaDoorWi
import Derived.Lib.LaidTab
import Derived.Lib.ItoaNum
import Derived.Lib.AppendIntMem
import Derived.Lib.ItoaLen
import Derived.Lib.ItoaMem
namespace Go.Proofs.YtmkiojnhjfkepaaDoor
open Go.RowKit

/-- the table of powers of ten is as the library lays it -/
def Tab (w : World) : Prop := Lib.TabIs Tryd.prog w "internal/strconv.uint64pow10" .u64 Lib.pow10Tab
theorem tab_glob : Tryd.prog.globalNamed "internal/strconv.uint64pow10" = some 3 := by kernel_rfl
theorem Tab.kept {w w' : World} (h : Tab w) (ho : Only [] w w') : Tab w' := by
  unfold Tab Lib.TabIs at *
  unfold World.var? at *
  rw [tab_glob] at *
  simp only [Option.bind_some] at *
  cases hb : w.heap[3]? with
  | none => simp [hb] at h
  | some o => rw [ho.got hb (by simp), ← hb]; exact h

theorem itoa_plus (n : Int) (w : World) (h0 : -9223372036854775808 ≤ n) (h1 : n ≤ 9223372036854775807) (ht : Tab w) :
    Calls Tryd.prog 42 #[.int .i64 n] w fun e w' => e = .returned (.string ⟨(Lib.itoa n).toArray⟩) ∧ Only [] w w' := by
  refine (Tryd.strconv_Itoa n h0 h1 w ht).mono ?_
  rintro e w' ⟨rfl, k, os, rfl⟩
  refine ⟨rfl, ?_⟩
  exact only_of_below (Lib.below_grow w.heap.size w (Nat.le_refl _) k os)

/-- the text of a timestamp -/
def stStr (s n : Int) : ByteArray := ⟨(Lib.itoa s).toArray⟩ ++ ⟨#[46]⟩ ++ (⟨(Lib.itoa (1000000000 + n)).toArray⟩ : ByteArray).extract 1 (⟨(Lib.itoa (1000000000 + n)).toArray⟩ : ByteArray).size
theorem decDigits_pos (u : Nat) : 1 ≤ (Lib.decDigits u).length := by
  rw [Lib.decDigits]; split <;> simp
theorem itoa_pos (n : Int) : 1 ≤ (Lib.itoa n).length := by
  unfold Lib.itoa; split
  · simp
  · exact decDigits_pos _

theorem itoa_le (n : Int) (h0 : 0 ≤ n) (h1 : n ≤ 9223372036854775807) : (Lib.itoa n).length ≤ 100 := by
  obtain ⟨u, rfl⟩ : ∃ u : Nat, n = u := ⟨n.toNat, by omega⟩
  rw [Lib.itoa_nonneg, Lib.decDigits_length]
  have := Lib.nDigits_le20 u (by omega)
  omega

theorem Ptext_no (s n : Int) (w : World) (h : ¬ stOk s n) :
    Calls Tryd.prog 27 #[.agg #[.int .i64 s, .int .i64 n]] w fun e w' => e = .returned (.string ⟨#[]⟩) ∧ Only [] w w' := by
  go_enter Tryd.func27, Tryd.ntmps27
  go_wp2_with fail
  refine alloc_abs (G := fun w0 => Calls _ _ _ w0 _) ?_
  intro w1 hb1 ho1 hs1
  clear hb1 hs1
  refine (Pcheck_no s n w1 h).mono ?_
  rintro e w2 ⟨rfl, ho2⟩
  go_wp2_with fail
  go_ret
  exact ⟨rfl, ho1.nil_trans ho2⟩

set_option maxHeartbeats 400000 in
theorem Ptext_yes (s n : Int) (w : World) (h : stOk s n) (ht : Tab w) :
    Calls Tryd.prog 27 #[.agg #[.int .i64 s, .int .i64 n]] w fun e w' => e = .returned (.string (stStr s n)) ∧ Only [] w w' := by
  have h' := h
  obtain ⟨h1, h2, h3, h4⟩ := h'
  unfold stStr
  have hp := itoa_pos (1000000000 + n)
  obtain ⟨X, hX⟩ : ∃ X : ByteArray, X = ⟨(Lib.itoa (1000000000 + n)).toArray⟩ := ⟨_, rfl⟩
  obtain ⟨Y, hY⟩ : ∃ Y : ByteArray, Y = ⟨(Lib.itoa s).toArray⟩ := ⟨_, rfl⟩
  have hXs : 1 ≤ X.size := by rw [hX]; simpa [ByteArray.size] using hp
  have hXt : X.size ≤ 100 := by rw [hX]; simpa [ByteArray.size] using itoa_le (1000000000 + n) (by omega) (by omega)
  have hYt : Y.size ≤ 100 := by rw [hY]; simpa [ByteArray.size] using itoa_le s (by omega) (by omega)
  rw [← hX, ← hY]
  have EX := Lib.hid hX; have EY := Lib.hid hY
  clear hX hY hp
  go_enter Tryd.func27, Tryd.ntmps27
  go_wp2_with fail
  refine alloc_abs (G := fun w0 => Calls _ _ _ w0 _) ?_
  intro w1 hb1 ho1 hs1
  have B1 := Lib.hid hb1
  clear hb1 hs1
  refine (Pcheck_yes s n w1 h).mono ?_
  rintro e w2 ⟨rfl, ho2⟩
  have B2 := Lib.hid (ho2.got B1.out (by simp))
  have g0 := cell_got B2.out 0; have g1 := cell_got B2.out 1
  go_wp2_with fail
  have hi := itoa_plus (1000000000 + n) w2 (by omega) (by omega) (ht.kept (ho1.nil_trans ho2))
  rw [← EX.out] at hi
  refine hi.mono ?_
  clear hi
  rintro e w3 ⟨rfl, ho3⟩
  have B3 := Lib.hid (ho3.got B2.out (by simp))
  clear g0 g1
  have g0 := cell_got B3.out 0
  have hlt := got_lt B3.out
  have T3 := Lib.hid (ht.kept ((ho1.nil_trans ho2).nil_trans ho3))
  clear ht
  go_wp2_with fail
  refine wp_region_grown [0,1,2,3,4,5,6,7] [] (by kernel_rfl) (by kernel_rfl) ?_
  simp only [pick, List.map_cons, List.map_nil, List.getD_cons_succ, List.getD_cons_zero]
  iterate 2 (refine wpQuiet_step (fun K hK => ?_); go_simp; refine hK _ ?_; clear hK K)
  refine wpQuiet_enter rfl 42 #[.int .i64 s] (fun _ => by kernel_rfl) (.string Y) (grown_calls fun w' hw' => ?_) ?_
  · have hi := itoa_plus s w' (by omega) (by omega) (T3.out.kept (only_of_plus hw'))
    rw [← EY.out] at hi
    exact hi.mono fun e w'' ⟨he, ho⟩ => ⟨he, ho.nil_below⟩
  have hc0 : (1 : Int) ≤ (X.size : Int) := by omega
  have hc1 : ¬ 9223372036854775807 < Y.size + 1 := by omega
  have hc2 : ¬ 9223372036854775807 < Y.size + 1 + (X.size - 1) := by omega
  iterate 4 (refine wpQuiet_step (fun K hK => ?_); go_simp; refine hK _ ?_; clear hK K)
  (refine wpQuiet_step (fun K hK => ?_); go_simp; refine hK _ ?_; clear hK K)
  refine wpQuiet_nil ?_
  intro w4 hw4
  have ho4 := only_of_plus hw4; clear hw4
  go_wp2
  go_ret
  exact ⟨rfl, ((ho1.nil_trans ho2).nil_trans ho3).nil_trans ho4⟩
end Go.Proofs.YtmkiojnhjfkepaaDoor
