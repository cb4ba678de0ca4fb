/- A strings.Builder of the call's own: WriteString, WriteByte, String; Join of words. Condition: the lengths. -/
import Derived.Test.YtdpfbedcejahjaaDoorShelfB
import Derived.Test.YtdpfbedcejahjaaDoorEnv
import Derived.Test.YtdpfbedcejahjaaDoorOwn
import Derived.Laws.AppendOwn
namespace Go.Proofs.YtdpfbedcejahjaaDoor
open Go.RowKit

/-- the builder that the call made in the world `w0` holds these bytes; nothing else that was there has changed -/
def Bld (w0 w : World) (l : List UInt8) : Prop := Lib.IsBuilder 55 5 w0.heap.size w0.heap.size (Lib.byteCells l) w ∧ Only [] w0 w
theorem byteCells_append (a b : List UInt8) : Lib.byteCells (a ++ b) = Lib.byteCells a ++ Lib.byteCells b := by simp [Lib.byteCells]
theorem owns_kept {w w' : World} {B : Nat} {e : TypeId} {s n : Nat} {v : Value} {xs : List Value} (h : w.ownsRow B e s v n xs) (ho : Only [] w w') : w'.ownsRow B e s v n xs := by
  refine ⟨h.1, ?_⟩
  rcases h.2 with h2 | ⟨g, cap, cur, h1, h2, h3, h4⟩
  · exact .inl h2
  · exact .inr ⟨g, cap, cur, h1, h2, ho.got h3 (by simp), h4⟩
theorem builderAt_kept {w w' : World} {T e : TypeId} {B b : Nat} {p : Value} {bs : List Value} (h : Lib.BuilderAt T e B b p bs w) (ho : Only [] w w') : Lib.BuilderAt T e B b p bs w' := by
  obtain ⟨h1, v, h2, h3, h4⟩ := h
  exact ⟨h1, v, ho.got h2 (by simp), owns_kept h3 ho, h4⟩
theorem Bld.kept {w0 w w' : World} {l : List UInt8} (h : Bld w0 w l) (ho : Only [] w w') : Bld w0 w' l := by
  refine ⟨?_, h.2.nil_trans ho⟩
  rcases h.1 with h | h
  · exact .inl (builderAt_kept h ho)
  · exact .inr (builderAt_kept h ho)
theorem only_of_belowB {w0 w w' : World} (ho : Only [] w0 w) (hb : Below w0.heap.size w w') : Only [] w0 w' :=
  ⟨hb.os.trans ho.os, hb.tape.trans ho.tape, hb.output.trans ho.output, Nat.le_trans ho.size hb.size, fun k hk hn => (hb.block k hk).trans (ho.block k hk hn)⟩
theorem bld_new {w0 w : World} (hb : w.heap[w0.heap.size]? = some (.cells #[.pointer none, .slice none 0 0] 55 (0, 0))) (ho : Only [] w0 w) : Bld w0 w [] :=
  ⟨.inl ⟨Nat.le_refl _, .slice none 0 0, hb, ⟨rfl, .inl ⟨rfl, rfl⟩⟩, by simp [Value.ownBlock]⟩, ho⟩
theorem bWriteString {w0 w : World} {l : List UInt8} (h : Bld w0 w l) (s : ByteArray) (hlen : l.length + s.size ≤ 100000000) :
    Calls Tryd.prog 30 #[.pointer (some ⟨w0.heap.size, 0, none⟩), .string s] w fun e w' => e = .returned (.tuple #[.int .i64 s.size, .nilIface]) ∧ Bld w0 w' (l ++ s.data.toList) := by
  have hc : Calls Tryd.prog 30 #[.pointer (some ⟨w0.heap.size, 0, none⟩), .string s] w _ := Any.Builder_WriteString { Tryd.lays156 with } Tryd.Builder_Extra_156 w0.heap.size w0.heap.size (Lib.byteCells l) s w h.1 (by rw [Lib.byteCells_length]; omega) h.2.size
  refine hc.mono ?_
  rintro e w' ⟨rfl, h1, h2⟩
  refine ⟨rfl, .inr ?_, only_of_belowB h.2 h2⟩
  rw [byteCells_append]
  exact h1
theorem bString {w0 w : World} {l : List UInt8} (h : Bld w0 w l) :
    Calls Tryd.prog 34 #[.pointer (some ⟨w0.heap.size, 0, none⟩)] w fun e w' => e = .returned (.string (bstr l)) ∧ Only [] w0 w' := by
  refine (Tryd.Builder_String_any w0.heap.size w0.heap.size l w h.1 h.2.size).mono ?_
  rintro e w' ⟨rfl, h2⟩
  exact ⟨rfl, only_of_belowB h.2 h2⟩
set_option maxHeartbeats 1000000 in
set_option maxRecDepth 100000 in
theorem bWriteByte {w0 w : World} {l : List UInt8} (h : Bld w0 w l) (c : UInt8) (hlen : l.length ≤ 100000000) :
    Calls Tryd.prog 33 #[.pointer (some ⟨w0.heap.size, 0, none⟩), .int .u8 c.toNat] w fun e w' => e = .returned .nilIface ∧ Bld w0 w' (l ++ [c]) := by
  have hcc : Calls Tryd.prog 44 #[.pointer (some ⟨w0.heap.size, 0, none⟩)] w _ := Any.Builder_copyCheck { Tryd.lays156 with } Tryd.Builder_Extra_156.toX72 w0.heap.size w0.heap.size (Lib.byteCells l) w h.1
  have HC := Lib.hid hcc; have H0 := Lib.hid h
  clear hcc h
  go_enter Tryd.func33, Tryd.ntmps33
  go_wp2_with fail
  refine HC.out.mono ?_
  rintro e w1 ⟨rfl, h1, hb1⟩
  have h1 : Lib.BuilderAt 55 5 w0.heap.size w0.heap.size (.pointer (some ⟨w0.heap.size, 0, none⟩)) (Lib.byteCells l) w1 := h1
  obtain ⟨hB, v, hbk, hown, hne⟩ := h1
  have O1 := Lib.hid (only_of_belowB H0.out.2 hb1)
  have c0 : w1.cell? ⟨w0.heap.size, 0, none⟩ = some (.pointer (some ⟨w0.heap.size, 0, none⟩)) := by rw [cell_got hbk]; rfl
  have c1 : w1.cell? ⟨w0.heap.size, 1, none⟩ = some v := by rw [cell_got hbk]; rfl
  have l1 := got_lt hbk
  rw [Lib.byteCells_length] at hown
  have HO := Lib.hid hown; have HN := Lib.hid hne; have HB := Lib.hid hbk
  clear hown hne hbk hb1 HC H0
  go_wp2_with (at_builtin; refine stop_here ?_)
  refine alloc_abs (G := fun w0 => Stop (wpList _ _ _ _ _ w0)) ?_
  intro w2 hb2 ho2 hs2
  have O2 := Lib.hid (O1.out.nil_trans ho2); have HO2 := Lib.hid (owns_kept HO.out ho2); have HB2 := Lib.hid (ho2.got HB.out (by simp)); have X2 := Lib.hid hb2
  clear hb2 ho2 hs2 c0 c1 l1
  refine stop_go ?_
  cases hi : Tryd.prog.info? 5 with
  | none => exact absurd (show (Tryd.prog.info? 5).isSome = true by kernel_rfl) (by rw [hi]; simp)
  | some i =>
    have hi3 : (Tryd.prog.info? 5).map (fun i => (i.zero, i.size, i.bytes)) = some (some (.int .u8 0), 1, 1) := by kernel_rfl
    rw [hi] at hi3
    simp only [Option.map_some, Option.some.injEq, Prod.mk.injEq] at hi3
    obtain ⟨i1, i2, i3⟩ := hi3
    refine wpList_append_own _ rfl _ _ 53 rfl w0.heap.size 5 i (.int .u8 0) 1 1 Tryd.underlying53 hi i1 i2 i3 rfl (by decide) v l.length (Lib.byteCells l) rfl HO2.out ⟨w1.heap.size, 0, none⟩ 1 1 [.int .u8 c.toNat] rfl rfl (fun j u hj => ?_) (by simp [Value.oneCell']) (by simp [maxLen]; omega) (by omega) O2.out.size ?_
    · have hadd : (⟨w1.heap.size, 0, none⟩ : Addr).add j = ⟨w1.heap.size, j, none⟩ := by rw [addr_add]; simp
      rw [hadd, cell_got X2.out]; simpa using hj
    intro v' w3 hown3 hgrow _
    have ho3 : Only v.ownBlock.toList w2 w3 := (Only.refl _ w2).grown hgrow (by intro k hk; left; rw [hk]; simp)
    have hB3 := ho3.got HB2.out (fun hm => HN.out (by simpa using hm))
    have hge : ∀ k ∈ v.ownBlock.toList, k ∈ ([] : List Nat) ∨ w0.heap.size ≤ k := by
      intro k hk
      right
      have hk' : v.ownBlock = some k := by simpa using hk
      exact (HO2.out.lt k hk').1
    have O3 := Lib.hid (O2.out.trans ho3 hge)
    have d0 := cell_got hB3 0; have d1 := cell_got hB3 1
    have f1 := frozen_got hB3 1
    have l3 := got_lt hB3
    obtain ⟨g, cap, rfl⟩ : ∃ g cap, v' = .slice (some ⟨g, 0, none⟩) (l.length + 1) cap := by
      rcases hown3.2 with ⟨_, h0⟩ | ⟨g, cap, cur, hv, _⟩
      · omega
      · exact ⟨g, cap, hv⟩
    have HO3 := Lib.hid hown3; have HB3 := Lib.hid hB3
    clear hown3 hgrow ho3 hB3 hge hi i1 i2 i3
    go_wp2
    go_ret
    refine ⟨rfl, .inr ?_, O3.out.setCell (.inr (Nat.le_refl _)) _⟩
    refine Lib.BuilderAt.put (Nat.le_refl _) HB3.out (bs' := Lib.byteCells (l ++ [c])) ?_ (by decide)
    rw [Lib.byteCells_length, List.length_append, byteCells_append]
    exact HO3.out
theorem join_C (c : UInt8) : ∀ (x : List UInt8) (r : List (List UInt8)), Lib.join (x :: r) [c] = joinC c (x :: r)
  | x, [] => by simp [Lib.join, joinC, List.intercalate]
  | x, y :: r => by
    rw [joinC_cons c x (by simp), ← join_C c y r]
    simp [Lib.join, List.intercalate]
/-- strings.Join of words with one byte between them -/
theorem join_any (c : UInt8) {w : World} {g cap : Nat} {x : List UInt8} {r : List (List UInt8)} (h : RowAt strC 9 1 w g cap (x :: r)) (hr : r.length ≤ 1000) (hl : (joinC c (x :: r)).length ≤ 1000000) :
    Calls Tryd.prog 31 #[.slice (some ⟨g, 0, none⟩) (r.length + 1) cap, .string ⟨#[c]⟩] w fun e w' => e = .returned (.string (bstr (joinC c (x :: r)))) ∧ Only [] w w' := by
  have h' := h
  obtain ⟨_, _, _, hcap, _⟩ := h'
  have hd : ((x :: r).map bstr).map (·.data.toList) = x :: r := by
    rw [List.map_map]
    conv => rhs; rw [← List.map_id (x :: r)]
    rfl
  have hc := Tryd.strings_Join g 0 cap ((x :: r).map bstr) ⟨#[c]⟩ w (fun j y hy => by
    rw [List.getElem?_map] at hy
    cases hq : (x :: r)[j]? with
    | none => rw [hq] at hy; cases hy
    | some z =>
      rw [hq] at hy
      simp only [Option.map_some, Option.some.injEq] at hy
      subst hy
      have := h.cell (i := j) (j := 0) strC_len hq (by decide)
      simpa [strC] using this) h.lt (by simp; omega) (by simpa using hcap) (by rw [hd, show (⟨#[c]⟩ : ByteArray).data.toList = [c] from rfl, join_C]; omega)
  rw [hd, show (⟨#[c]⟩ : ByteArray).data.toList = [c] from rfl, join_C, List.length_map, List.length_cons] at hc
  refine hc.mono ?_
  rintro e w' ⟨rfl, h2⟩
  exact ⟨rfl, only_of_below h2⟩
end Go.Proofs.YtdpfbedcejahjaaDoor
