/- slices.Clone and slices.Delete of one, on candidates. Conditions: the lengths. -/
import Derived.Test.YtikjdmbfjkbndaaGreatMd
import Derived.Lib.SliceRun
namespace Go.Proofs.YtikjdmbfjkbndaaGreat
open Go.RowKit

theorem VRow.flat {α : Type} {ec : α → List Value} {s : Nat} (hs : ∀ x, (ec x).length = s) {w : World} {b off n cap : Nat} {l : List α} (h : VRow ec s w (some ⟨b, off, none⟩) n cap l) {j : Nat} {u : Value} (hj : (l.flatMap ec)[j]? = some u) : w.cell? ((⟨b, off, none⟩ : Addr).add j) = some u := by
  have hlt := (List.getElem?_eq_some_iff.1 hj).1
  rw [flat_length ec s hs] at hlt
  have k0 : 0 < s := by
    rcases Nat.eq_zero_or_pos s with h | h
    · subst h; simp at hlt
    · exact h
  have h1 : j / s < l.length := (Nat.div_lt_iff_lt_mul k0).2 hlt
  have h2 : j % s < s := Nat.mod_lt _ k0
  have hf := flat_get ec s hs l (j / s) (j % s) l[j / s] (List.getElem?_eq_getElem h1) h2
  rw [show j / s * s + j % s = j by rw [Nat.mul_comm]; exact Nat.div_add_mod j s, hj] at hf
  obtain ⟨b', off', hp, hb, hc⟩ := h.cell (j / s) l[j / s] (List.getElem?_eq_getElem h1)
  simp only [Option.some.injEq, Addr.mk.injEq, and_true] at hp
  obtain ⟨rfl, rfl⟩ := hp
  have := hc (j % s) u hf.symm
  rw [show off + (j / s * s + j % s) = off + j by rw [Nat.mul_comm, Nat.div_add_mod]] at this
  rw [addr_add]; exact this
def cdZ : Value := .agg #[.int .i64 0, .int .i64 0, .int .i64 0, .int .i64 0, .int .i64 0]
theorem cd_info : (Tryz.prog.info? 126).map (fun i => (i.zero, i.size, i.bytes)) = some (some cdZ, 5, 40) := by kernel_rfl
theorem cd_flat_one (l : List Cd) : ∀ u ∈ l.flatMap cdC, u.oneCell' = true := fun u hu => by
  obtain ⟨x, _, hx⟩ := List.mem_flatMap.1 hu
  exact cdC_one x u hx
set_option maxRecDepth 100000 in
set_option maxHeartbeats 1000000 in
theorem cloneC {w : World} {p : Option Addr} {n cap : Nat} {l : List Cd} (hv : VRow cdC 5 w p n cap l) (h0 : 0 < l.length) (hl : l.length ≤ 1000) :
    Calls Tryz.prog 160 #[.slice p n cap] w fun e w' => (∃ g cap', e = .returned (.slice (some ⟨g, 0, none⟩) l.length cap') ∧ w.heap.size ≤ g ∧ RowAt cdC 126 5 w' g cap' l) ∧ Only [] w w' := by
  obtain ⟨b, off, hp, hb, _⟩ := hv.cell 0 l[0] (List.getElem?_eq_getElem h0)
  subst hp
  have hln := hv.len
  subst hln
  have HV := Lib.hid hv
  have q22 : ∀ w, (binOp .eql 85 (.slice (some ⟨b, off, none⟩) l.length cap) (.slice none 0 0)).run Tryz.prog w = .ok (.bool false) w := fun w => Lib.run_eql_slice_nil w _ _ _ _ _ _ _ Tryz.underlying85
  clear hv
  go_enter Tryz.func160, Tryz.ntmps160
  go_wp2_with (at_builtin; refine stop_here ?_)
  refine alloc_abs (G := fun w0 => Stop (wpList _ _ _ _ _ w0)) ?_
  intro w1 hb1 ho1 hs1
  have B1 := Lib.hid hb1; have O1 := Lib.hid ho1
  have hrow : RowAt cdC 126 5 w1 w.heap.size 0 [] := ⟨#[], hb1, rfl, Nat.le_refl _, Nat.zero_le _, rfl⟩
  have HR := Lib.hid hrow
  obtain ⟨i0, hi0, hz0, hz1, hz2⟩ := info_parts cd_info
  have HI0 := Lib.hid hi0; have HZ0 := Lib.hid hz0; have HZ1 := Lib.hid hz1; have HZ2 := Lib.hid hz2; clear hi0 hz0 hz1 hz2
  clear hb1 ho1 hrow
  refine stop_go ?_
  refine wpList_append_row rfl _ _ 85 rfl 126 i0 cdZ 5 40 Tryz.underlying85 HI0.out HZ0.out HZ1.out HZ2.out rfl (by decide) (.slice (some ⟨w.heap.size, 0, none⟩) 0 0) 0 [] rfl (HR.out.owns cdC_len (Nat.zero_le _)) ⟨b, off, none⟩ l.length cap (l.flatMap cdC) rfl (flat_length cdC 5 cdC_len l) (fun j u hj => (HV.out.kept O1.out).flat cdC_len hj) (cd_flat_one l) (by simp [maxLen]; omega) (by omega) h0 ?_
  intro g' cap' w' hown' ho' hg'
  rw [Nat.zero_add, List.nil_append] at hown'
  have hge : w.heap.size ≤ g' := by
    rcases hg' with hg' | hg'
    · simp only [Value.ownBlock, Option.some.injEq] at hg'; omega
    · omega
  have R2 := Lib.hid (RowAt.of_owns hown' rfl); have O2 := Lib.hid (O1.out.trans (S := []) ho' (fun x hx => .inr (by simp [Value.ownBlock] at hx; omega))); have HGE := Lib.hid hge
  clear hown' ho' hg' hge
  rw [show 0 + l.length = l.length from Nat.zero_add _]
  go_wp2
  go_ret
  exact ⟨⟨g', cap', rfl, HGE.out, R2.out⟩, O2.out⟩

/-- cells set one by one are a row set at once -/
theorem setCells_row {w : World} {g : Nat} {cur : Array Value} {e : TypeId} (hg : w.heap[g]? = some (.cells cur e (0, 0))) (o : Nat) (vs : List Value) (hfit : o + vs.length ≤ cur.size) (h1 : ∀ v ∈ vs, v.oneCell' = true) :
    w.setCells g o vs = w.setRow g (cur.toList.take o ++ vs ++ cur.toList.drop (o + vs.length)).toArray := by
  have a := run_storeCells_at Tryz.prog g o e vs 0 cur w hg (by simpa using hfit) h1
  have b := run_storeCells_cells (P := Tryz.prog) g o vs 0 w (fun j hj => by
    rw [cell_got hg]
    simp only [Nat.add_zero]
    rw [Array.getElem?_eq_getElem (by omega)]; rfl) (fun j hj => frozen_got hg _) h1
  rw [b] at a
  simpa using a
theorem setCells_got {w : World} {g : Nat} {cur : Array Value} {e : TypeId} (hg : w.heap[g]? = some (.cells cur e (0, 0))) (o : Nat) (vs : List Value) (hfit : o + vs.length ≤ cur.size) (h1 : ∀ v ∈ vs, v.oneCell' = true) :
    (w.setCells g o vs).heap[g]? = some (.cells (cur.toList.take o ++ vs ++ cur.toList.drop (o + vs.length)).toArray e (0, 0)) ∧ Only [g] w (w.setCells g o vs) := by
  rw [setCells_row hg o vs hfit h1]
  exact ⟨setRow_heap w g cur _ e _ hg, ⟨rfl, rfl, rfl, by simp [World.setRow], fun k _ hk => setRow_other w g k _ (fun e => hk (by simp [e]))⟩⟩
end Go.Proofs.YtikjdmbfjkbndaaGreat
