/- A writer of the call's own: WriteString, WriteByte, String, walked by hand. Condition: the lengths. -/
import Derived.Test.YthmeifdgkodjlaaDoorOwn
import Derived.Test.YthmeifdgkodjlaaDoorLaw
import Derived.Shelf.RegionOpenPlain
import Derived.Lib.UnsafeStr
import Derived.Lib.AppendStr
import Derived.Laws.AppendOwn
import Derived.Laws.Externs
import Derived.Lib.Builder
namespace Go.Proofs.YthmeifdgkodjlaaDoor
open Go.RowKit

/-- of the blocks of `w` only `b` and rows of bytes may have changed -/
structure FrB (b : Nat) (w w' : World) : Prop where
  os : w'.os = w.os
  tape : w'.tape = w.tape
  output : w'.output = w.output
  size : w.heap.size ≤ w'.heap.size
  block : ∀ k o, w.heap[k]? = some o → k ≠ b → (∀ c z, o ≠ .cells c 5 z) → w'.heap[k]? = some o
theorem frB_only {b : Nat} {w w' : World} (h : Only [] w w') : FrB b w w' := ⟨h.os, h.tape, h.output, h.size, fun _ _ hk _ _ => h.got hk (by simp)⟩
theorem frB_refl (b : Nat) (w : World) : FrB b w w := frB_only (Only.refl _ _)
theorem FrB.trans {b : Nat} {u v w : World} (h : FrB b u v) (k : FrB b v w) : FrB b u w :=
  ⟨k.os.trans h.os, k.tape.trans h.tape, k.output.trans h.output, Nat.le_trans h.size k.size, fun i o hi hb hc => k.block i o (h.block i o hi hb hc) hb hc⟩
theorem FrB.got {b k : Nat} {w w' : World} {c : Array Value} {t : TypeId} {z : Nat × Nat} (h : FrB b w w') (hk : w.heap[k]? = some (.cells c t z)) (hb : k ≠ b) (ht : t ≠ 5) : w'.heap[k]? = some (.cells c t z) :=
  h.block k _ hk hb (fun c' z' e => by cases e; exact ht rfl)
theorem FrB.row {α : Type} {enc : α → List Value} {e : TypeId} {s b g cap : Nat} {w w' : World} {l : List α} (h : FrB b w w') (hr : RowAt enc e s w g cap l) (hb : g ≠ b) (he : e ≠ 5) : RowAt enc e s w' g cap l := by
  obtain ⟨cur, hg, r⟩ := hr
  exact ⟨cur, h.got hg hb he, r⟩
theorem frB_setCell {b o : Nat} {w : World} (v : Value) : FrB b w (w.setCell ⟨b, o, none⟩ v) :=
  ⟨rfl, rfl, rfl, by simp [World.setCell], fun k _ hk hb _ => by rw [← hk]; exact Below.heap_setCell _ _ _ _ hb⟩

/-- the writer that the call made in the world `w0` holds these bytes; nothing else that was there has changed -/
def Bld (w0 w : World) (l : List UInt8) : Prop := Lib.IsBuilder 63 5 w0.heap.size w0.heap.size (Lib.byteCells l) w ∧ Only [] w0 w
theorem byteCells_append (a b : List UInt8) : Lib.byteCells (a ++ b) = Lib.byteCells a ++ Lib.byteCells b := by simp [Lib.byteCells]
theorem owns_kept {w w' : World} {B : Nat} {e : TypeId} {s n : Nat} {v : Value} {xs : List Value} (h : w.ownsRow B e s v n xs) (ho : Only [] w w') : w'.ownsRow B e s v n xs := by
  refine ⟨h.1, ?_⟩
  rcases h.2 with h2 | ⟨g, cap, cur, h1, h2, h3, h4⟩
  · exact .inl h2
  · exact .inr ⟨g, cap, cur, h1, h2, ho.got h3 (by simp), h4⟩
theorem builderAt_kept {w w' : World} {T e : TypeId} {B b : Nat} {p : Value} {bs : List Value} (h : Lib.BuilderAt T e B b p bs w) (ho : Only [] w w') : Lib.BuilderAt T e B b p bs w' := by
  obtain ⟨h1, v, h2, h3, h4⟩ := h
  exact ⟨h1, v, ho.got h2 (by simp), owns_kept h3 ho, h4⟩
theorem Bld.kept {w0 w w' : World} {l : List UInt8} (h : Bld w0 w l) (ho : Only [] w w') : Bld w0 w' l := by
  refine ⟨?_, h.2.nil_trans ho⟩
  rcases h.1 with h | h
  · exact .inl (builderAt_kept h ho)
  · exact .inr (builderAt_kept h ho)
theorem only_of_belowB {w0 w w' : World} (ho : Only [] w0 w) (hb : Below w0.heap.size w w') : Only [] w0 w' :=
  ⟨hb.os.trans ho.os, hb.tape.trans ho.tape, hb.output.trans ho.output, Nat.le_trans ho.size hb.size, fun k hk hn => (hb.block k hk).trans (ho.block k hk hn)⟩
theorem bld_new {w0 w : World} (hb : w.heap[w0.heap.size]? = some (.cells #[.pointer none, .slice none 0 0] 63 (0, 0))) (ho : Only [] w0 w) : Bld w0 w [] :=
  ⟨.inl ⟨Nat.le_refl _, .slice none 0 0, hb, ⟨rfl, .inl ⟨rfl, rfl⟩⟩, by simp [Value.ownBlock]⟩, ho⟩
set_option maxHeartbeats 1000000 in
set_option maxRecDepth 100000 in
/-- copyCheck at a builder that has been used: nothing turns -/
theorem bcc_used (b : Nat) (w : World) (h0 : w.cell? ⟨b, 0, none⟩ = some (.pointer (some ⟨b, 0, none⟩))) :
    Calls Tryd.prog 41 #[.pointer (some ⟨b, 0, none⟩)] w fun e w' => e = .returned (.tuple #[]) ∧ w' = w := by
  obtain ⟨j, hj, _⟩ := Option.map_eq_some_iff.1 (show (Tryd.prog.info? 61).map (·.size) = some 2 by kernel_rfl)
  go_enter Tryd.func41, Tryd.ntmps41
  go_wp2
  rw [Lib.run_neq_ptr_same w _ Tryd.underlying58 hj]
  go_wp2
  go_end0
  exact ⟨rfl, rfl⟩
set_option maxHeartbeats 1000000 in
set_option maxRecDepth 100000 in
/-- copyCheck at a fresh builder: it stores its own address -/
theorem bcc_fresh (b : Nat) (w : World) (h0 : w.cell? ⟨b, 0, none⟩ = some (.pointer none)) (hsh : w.shape? b = some (63, 2)) (hfz : w.frozen? ⟨b, 0, none⟩ = false) :
    Calls Tryd.prog 41 #[.pointer (some ⟨b, 0, none⟩)] w fun e w' => e = .returned (.tuple #[]) ∧ w' = w.setCell ⟨b, 0, none⟩ (.pointer (some ⟨b, 0, none⟩)) := by
  obtain ⟨j, hj, hjs⟩ := Option.map_eq_some_iff.1 (show (Tryd.prog.info? 61).map (·.size) = some 2 by kernel_rfl)
  go_enter Tryd.func41, Tryd.ntmps41
  go_wp2
  rw [Lib.run_to_unsafe w ⟨b, 0, none⟩ Tryd.underlying58 Tryd.underlying111 hj (by rw [hjs]; decide) hsh (Nat.zero_lt_succ 1)]
  simp only [Result.andThen]
  rw [Oper.upon_value]
  go_wp2
  rw [run_callFunc_extern Tryd.func55 (by kernel_rfl) (by kernel_rfl) (by kernel_rfl) (e := Extern.AbiNoEscape.same) (by kernel_rfl)]
  rw [Lib.run_noEscape]
  simp only [Result.andThen]
  rw [Oper.upon_value]
  go_wp2
  rw [Lib.run_from_unsafe w ⟨b, 0, none⟩ Tryd.underlying111 Tryd.underlying58 hj hsh (by kernel_rfl)]
  simp only [Result.andThen]
  rw [Oper.upon_value]
  go_wp2
  go_end0
  exact ⟨rfl, rfl⟩
theorem bcc_any {w0 w : World} {l : List UInt8} (h : Bld w0 w l) :
    Calls Tryd.prog 41 #[.pointer (some ⟨w0.heap.size, 0, none⟩)] w fun e w' => e = .returned (.tuple #[]) ∧ Lib.BuilderAt 63 5 w0.heap.size w0.heap.size (.pointer (some ⟨w0.heap.size, 0, none⟩)) (Lib.byteCells l) w' ∧ Only [] w0 w' ∧ FrB w0.heap.size w w' := by
  obtain ⟨h, ho⟩ := h
  rcases h with h | h
  · refine (bcc_fresh w0.heap.size w h.cell0 h.shape h.frozen0).mono ?_
    rintro e w' ⟨rfl, rfl⟩
    exact ⟨rfl, h.used _, ho.setCell (.inr (Nat.le_refl _)) _, frB_setCell _⟩
  · refine (bcc_used w0.heap.size w h.cell0).mono ?_
    rintro e w' ⟨rfl, rfl⟩
    exact ⟨rfl, h, ho, frB_refl _ _⟩
theorem frB_grown {b B n : Nat} {w w' : World} {v : Value} {xs : List Value} (hg : w.grownBy w' v.ownBlock) (hown : w.ownsRow B 5 1 v n xs) : FrB b w w' := by
  refine ⟨hg.os, hg.tape, hg.output, hg.size, fun k o hk _ hc => ?_⟩
  rw [← hk]
  refine hg.block k (got_lt hk) (fun e => ?_)
  rcases hown.2 with ⟨rfl, _⟩ | ⟨g, cap, cur, rfl, _, h3, _⟩
  · simp [Value.ownBlock] at e
  · simp only [Value.ownBlock, Option.some.injEq] at e
    subst e
    rw [hk] at h3
    exact hc _ _ (Option.some.inj h3)
theorem only_grown {n : Nat} {w0 w w' : World} {v : Value} {xs : List Value} (ho : Only [] w0 w) (hg : w.grownBy w' v.ownBlock) (hown : w.ownsRow w0.heap.size 5 1 v n xs) : Only [] w0 w' :=
  ho.grown hg (fun k hk => .inr (hown.lt k hk).1)
set_option maxHeartbeats 2000000 in
set_option maxRecDepth 100000 in
theorem bWriteString {w0 w : World} {l : List UInt8} (h : Bld w0 w l) (s : ByteArray) (hlen : l.length + s.size ≤ 100000000) :
    Calls Tryd.prog 20 #[.pointer (some ⟨w0.heap.size, 0, none⟩), .string s] w fun e w' => e = .returned (.tuple #[.int .i64 s.size, .nilIface]) ∧ Bld w0 w' (l ++ s.data.toList) ∧ FrB w0.heap.size w w' := by
  have HC := Lib.hid (bcc_any h)
  clear h
  cases hi : Tryd.prog.info? 5 with
  | none => exact absurd (show (Tryd.prog.info? 5).isSome = true by kernel_rfl) (by rw [hi]; simp)
  | some i =>
    have hi3 : (Tryd.prog.info? 5).map (fun i => (i.zero, i.size, i.bytes)) = some (some (.int .u8 0), 1, 1) := by kernel_rfl
    rw [hi] at hi3
    simp only [Option.map_some, Option.some.injEq, Prod.mk.injEq] at hi3
    obtain ⟨i1, i2, i3⟩ := hi3
    go_enter Tryd.func20, Tryd.ntmps20
    go_wp2_with fail
    refine HC.out.mono ?_
    rintro e w1 ⟨rfl, h1, ho1, hf1⟩
    obtain ⟨hB, v, hbk, hown, hne⟩ := h1
    have O1 := Lib.hid ho1; have F1 := Lib.hid hf1
    clear ho1 hf1
    have c0 : w1.cell? ⟨w0.heap.size, 0, none⟩ = some (.pointer (some ⟨w0.heap.size, 0, none⟩)) := by rw [cell_got hbk]; rfl
    have c1 : w1.cell? ⟨w0.heap.size, 1, none⟩ = some v := by rw [cell_got hbk]; rfl
    have hsz1 := O1.out.size
    go_wp2_with (at_builtin; refine Lib.wpList_append_own_string _ rfl _ _ 59 9 rfl w0.heap.size 5 i Tryd.underlying59 Tryd.underlying9 hi i1 i2 i3 _ _ _ rfl hown s rfl ?c3 ?c4 ?c5 ?_)
    case c3 => unfold maxLen; rw [Lib.byteCells_length]; omega
    case c4 => rw [Lib.byteCells_length]; omega
    case c5 => omega
    intro v' w2 hown' hgrow _
    have hlt := got_lt hbk
    have hb2 : w2.heap[w0.heap.size]? = some (.cells #[.pointer (some ⟨w0.heap.size, 0, none⟩), v] 63 (0, 0)) := by
      rw [hgrow.block _ hlt (fun e => hne e.symm)]
      exact hbk
    have d0 := cell_got hb2 0; have d1 := cell_got hb2 1
    have f1 := frozen_got hb2 1
    obtain ⟨ao, n', cap, rfl⟩ : ∃ ao n' cap, v' = .slice ao n' cap := by
      rcases hown'.2 with ⟨hv, _⟩ | ⟨g, cap, cur, hv, _⟩
      · exact ⟨_, _, _, hv⟩
      · exact ⟨_, _, _, hv⟩
    have O2 := Lib.hid (only_grown O1.out hgrow hown)
    have F2 := Lib.hid (F1.out.trans (frB_grown hgrow hown))
    have HB := Lib.hid hb2; have HO := Lib.hid hown'
    clear hgrow hown hown' hbk hb2 hi i1 i2 i3 hne c0 c1 hlt
    go_wp2
    go_ret2
    refine ⟨rfl, ⟨.inr ?_, O2.out.setCell (.inr (Nat.le_refl _)) _⟩, F2.out.trans (frB_setCell _)⟩
    rw [byteCells_append]
    exact Lib.BuilderAt.put (T := 63) (e := 5) hB HB.out (bs' := Lib.byteCells l ++ Lib.strCells s) (by simpa [Lib.strCells_length] using HO.out) (by decide)
set_option maxHeartbeats 1000000 in
set_option maxRecDepth 100000 in
theorem bWriteByte {w0 w : World} {l : List UInt8} (h : Bld w0 w l) (c : UInt8) (hlen : l.length ≤ 100000000) :
    Calls Tryd.prog 40 #[.pointer (some ⟨w0.heap.size, 0, none⟩), .int .u8 c.toNat] w fun e w' => e = .returned .nilIface ∧ Bld w0 w' (l ++ [c]) ∧ FrB w0.heap.size w w' := by
  have HC := Lib.hid (bcc_any h)
  clear h
  go_enter Tryd.func40, Tryd.ntmps40
  go_wp2_with fail
  refine HC.out.mono ?_
  rintro e w1 ⟨rfl, h1, ho1, hf1⟩
  obtain ⟨hB, v, hbk, hown, hne⟩ := h1
  have O1 := Lib.hid ho1; have F1 := Lib.hid hf1
  clear ho1 hf1
  have c0 : w1.cell? ⟨w0.heap.size, 0, none⟩ = some (.pointer (some ⟨w0.heap.size, 0, none⟩)) := by rw [cell_got hbk]; rfl
  have c1 : w1.cell? ⟨w0.heap.size, 1, none⟩ = some v := by rw [cell_got hbk]; rfl
  have l1 := got_lt hbk
  rw [Lib.byteCells_length] at hown
  have HO := Lib.hid hown; have HN := Lib.hid hne; have HB := Lib.hid hbk
  clear hown hne hbk HC
  go_wp2_with (at_builtin; refine stop_here ?_)
  refine alloc_abs (G := fun w0 => Stop (wpList _ _ _ _ _ w0)) ?_
  intro w2 hb2 ho2 hs2
  have O2 := Lib.hid (O1.out.nil_trans ho2); have HO2 := Lib.hid (owns_kept HO.out ho2); have HB2 := Lib.hid (ho2.got HB.out (by simp)); have X2 := Lib.hid hb2; have F2 := Lib.hid (F1.out.trans (frB_only ho2))
  clear hb2 ho2 hs2 c0 c1 l1
  refine stop_go ?_
  cases hi : Tryd.prog.info? 5 with
  | none => exact absurd (show (Tryd.prog.info? 5).isSome = true by kernel_rfl) (by rw [hi]; simp)
  | some i =>
    have hi3 : (Tryd.prog.info? 5).map (fun i => (i.zero, i.size, i.bytes)) = some (some (.int .u8 0), 1, 1) := by kernel_rfl
    rw [hi] at hi3
    simp only [Option.map_some, Option.some.injEq, Prod.mk.injEq] at hi3
    obtain ⟨i1, i2, i3⟩ := hi3
    refine wpList_append_own _ rfl _ _ 59 rfl w0.heap.size 5 i (.int .u8 0) 1 1 Tryd.underlying59 hi i1 i2 i3 rfl (by decide) v l.length (Lib.byteCells l) rfl HO2.out ⟨w1.heap.size, 0, none⟩ 1 1 [.int .u8 c.toNat] rfl rfl (fun j u hj => ?_) (by simp [Value.oneCell']) (by simp [maxLen]; omega) (by omega) O2.out.size ?_
    · have hadd : (⟨w1.heap.size, 0, none⟩ : Addr).add j = ⟨w1.heap.size, j, none⟩ := by rw [addr_add]; simp
      rw [hadd, cell_got X2.out]; simpa using hj
    intro v' w3 hown3 hgrow _
    have hB3 : w3.heap[w0.heap.size]? = _ := (hgrow.block _ (got_lt HB2.out) (fun e => HN.out e.symm)).trans HB2.out
    have O3 := Lib.hid (only_grown O2.out hgrow HO2.out)
    have F3 := Lib.hid (F2.out.trans (frB_grown hgrow HO2.out))
    have d0 := cell_got hB3 0; have d1 := cell_got hB3 1
    have f1 := frozen_got hB3 1
    have l3 := got_lt hB3
    obtain ⟨g, cap, rfl⟩ : ∃ g cap, v' = .slice (some ⟨g, 0, none⟩) (l.length + 1) cap := by
      rcases hown3.2 with ⟨_, h0⟩ | ⟨g, cap, cur, hv, _⟩
      · omega
      · exact ⟨g, cap, hv⟩
    have HO3 := Lib.hid hown3; have HB3 := Lib.hid hB3
    clear hown3 hgrow hB3 hi i1 i2 i3
    go_wp2
    go_ret
    refine ⟨rfl, ⟨.inr ?_, O3.out.setCell (.inr (Nat.le_refl _)) _⟩, F3.out.trans (frB_setCell _)⟩
    refine Lib.BuilderAt.put (Nat.le_refl _) HB3.out (bs' := Lib.byteCells (l ++ [c])) ?_ (by decide)
    rw [Lib.byteCells_length, List.length_append, byteCells_append]
    exact HO3.out
set_option maxHeartbeats 1000000 in
set_option maxRecDepth 100000 in
/-- String of a writer that holds bytes -/
theorem bString {w0 w : World} {l : List UInt8} (h : Bld w0 w l) (h0 : l ≠ []) :
    Calls Tryd.prog 26 #[.pointer (some ⟨w0.heap.size, 0, none⟩)] w fun e w' => e = .returned (.string ⟨l.toArray⟩) ∧ Only [] w0 w' := by
  obtain ⟨h, ho⟩ := h
  obtain ⟨p, hB, v, hbk, hown, hne⟩ : ∃ p, Lib.BuilderAt 63 5 w0.heap.size w0.heap.size p (Lib.byteCells l) w := by
    rcases h with h | h
    · exact ⟨_, h⟩
    · exact ⟨_, h⟩
  have hl0 : l.length ≠ 0 := by simpa using h0
  rw [Lib.byteCells_length] at hown
  obtain ⟨g, cap, cur, rfl, hbg, hg, hnc, hcm, hcs, htake⟩ : ∃ g cap cur, v = .slice (some ⟨g, 0, none⟩) l.length cap ∧ w0.heap.size ≤ g ∧ w.heap[g]? = some (.cells cur 5 (0, 0)) ∧ l.length ≤ cap ∧ cap ≤ maxLen ∧ cur.size = cap * 1 ∧ cur.toList.take (l.length * 1) = Lib.byteCells l := by
    rcases hown.2 with ⟨_, hz⟩ | ⟨g, cap, cur, hv, r⟩
    · exact absurd hz hl0
    · exact ⟨g, cap, cur, hv, r⟩
  have c1 : w.drew.cell? ⟨w0.heap.size, 1, none⟩ = some (.slice (some ⟨g, 0, none⟩) l.length cap) := by
    have : w.drew.heap[w0.heap.size]? = some (.cells #[p, .slice (some ⟨g, 0, none⟩) l.length cap] 63 (0, 0)) := hbk
    rw [cell_got this]; rfl
  have hSD : (Builtin.unsafeSliceData_ #[59] 105 #[.slice (some ⟨g, 0, none⟩) l.length cap]).run Tryd.prog w.drew = .ok (.pointer (some ⟨g, 0, none⟩)) w.drew :=
    Lib.run_unsafeSliceData_row _ _ _ _ _ _ (by omega)
  have hUS : (Builtin.unsafeString_ #[105, 3] 9 #[.pointer (some ⟨g, 0, none⟩), .int .i64 l.length]).run Tryd.prog w.drew = .ok (.string ⟨l.toArray⟩) (w.drew.freeze ⟨g, 0, none⟩ l.length) := by
    refine Lib.run_unsafeString_row w.drew 105 3 9 5 Tryd.underlying105 (by kernel_rfl) g cur.size (by have hg' : w.drew.heap[g]? = some (.cells cur 5 (0, 0)) := hg; simp [World.shape?, hg']) l h0 (by omega) (by unfold maxLen at hcm; omega) ?_
    intro j x hx
    have := hown.cells (g := g) rfl j (.int .u8 x.toNat) (by simp [Lib.byteCells, hx])
    exact this
  have HO := Lib.hid ho; have mixed : Tryd.prog.follows .mixedOrders = true := by kernel_rfl
  clear ho hown htake hg hbk h hne
  go_enter Tryd.func26, Tryd.ntmps26
  go_wp2
  go_region_o
  all_goals (go_wp2; go_ret; exact ⟨rfl, only_of_belowB HO.out (Lib.below_freeze (Below.drew (Below.refl w0.heap.size w)) (p := ⟨g, 0, none⟩) hbg _)⟩)
end Go.Proofs.YthmeifdgkodjlaaDoor
