/- What wire.Append computes: the bytes and those of a number, in new memory. No condition but the number's size. -/
import Derived.Test.YtikjdmbfjkbndaaGreatC9
import Derived.Test.YtikjdmbfjkbndaaGreatLaw
import Derived.Laws.CopyOwn
namespace Go.Proofs.YtikjdmbfjkbndaaGreat
open Go.RowKit

/-- a byte's cell -/
abbrev bE : Int → List Value := fun z => [.int .u8 z]
/-- byte `i` of the `size` bytes of `x` -/
def beAt (x size i : Nat) : Int := ((x / 2 ^ (8 * (size - 1 - i)) % 256 : Nat) : Int)
/-- the `size` bytes of `x`, the most significant one first -/
def be (x size : Nat) : List Int := (List.range size).map (beAt x size)
theorem be_length (x size : Nat) : (be x size).length = size := by simp [be]

theorem sized_yes (n : Nat) (w : World) (h1 : 1 ≤ n) (h2 : n ≤ 8) :
    Calls Tryz.prog 304 #[.int .i64 n] w fun e w' => e = .returned (.bool true) ∧ w = w' := by
  have d1 : decide (1 ≤ (n : Int)) = true := by simp; omega
  have d2 : decide ((n : Int) ≤ 8) = true := by simp; omega
  go_enter Tryz.func304, Tryz.ntmps304
  go_wp2
  go_ret
  exact ⟨rfl, rfl⟩

theorem VRow.cells1 {f : Int → Value} {w : World} {p : Option Addr} {n cap : Nat} {l : List Int} (h : VRow (fun z => [f z]) 1 w p n cap l) (hl : 0 < l.length) :
    ∃ ad, p = some ad ∧ ∀ j v, (l.map f)[j]? = some v → w.cell? (ad.add j) = some v := by
  obtain ⟨b, off, hp, _, _⟩ := h.cell 0 l[0] (List.getElem?_eq_getElem hl)
  refine ⟨_, hp, fun j v hv => ?_⟩
  rw [List.getElem?_map] at hv
  obtain ⟨z, hz, rfl⟩ := Option.map_eq_some_iff.1 hv
  obtain ⟨b', off', hp', _, hc⟩ := h.cell j z hz
  rw [hp'] at hp
  simp only [Option.some.injEq, Addr.mk.injEq, and_true] at hp
  obtain ⟨rfl, rfl⟩ := hp
  rw [addr_add]
  have := hc 0 (f z) rfl
  simpa using this

theorem row_bytes {w : World} {g n : Nat} {l : List Int} {e : TypeId} (h : RowAt bE e 1 w g n l) (hn : l.length = n) : ∃ cur : List Value, w.heap[g]? = some (.cells cur.toArray e (0, 0)) ∧ cur = l.map (Value.int .u8) := by
  obtain ⟨cur, hg, h1, h2, h3, h4⟩ := h
  have e1 : l.flatMap bE = l.map (Value.int .u8) := by
    clear hg h1 h2 h3 h4 hn
    induction l with
    | nil => rfl
    | cons x l ih => simp [List.flatMap_cons, bE, ← ih]
  refine ⟨cur.toList, by simpa using hg, ?_⟩
  rw [← e1, ← h4, List.take_of_length_le (by simp; omega)]
theorem row_of_bytes {w : World} {g : Nat} {l : List Int} {e : TypeId} (h : w.heap[g]? = some (.cells (l.map (Value.int .u8)).toArray e (0, 0))) (hm : l.length ≤ maxLen) : RowAt bE e 1 w g l.length l := by
  have e1 : l.flatMap bE = l.map (Value.int .u8) := by
    clear h hm
    induction l with
    | nil => rfl
    | cons x l ih => simp [List.flatMap_cons, bE, ← ih]
  exact ⟨_, h, by simp, Nat.le_refl _, hm, by rw [e1, List.take_of_length_le (by simp)]⟩

/-- copy of a slice of bytes to the front of a row of bytes -/
theorem wpList_copy_bytes {P : Program} {w : World} {ops : Array Oper} {rest : List Oper} {o : Oper} {a : Act} {Q : Exit → Act → World → Prop} (hgd : o.guard = none) (d s : Operand) (dT sT : TypeId)
    (ho : o.op = .call { callee := .builtin .copy, args := #[d, s], argTypes := #[dT, sT] }) (elem : TypeId) (hu : P.underlying dT = some (.slice elem)) (hsz : (P.info? elem).map (·.size) = some 1)
    (g N cap : Nat) (p : Option Addr) (n scap : Nat) (hd : a.eval d = .slice (some ⟨g, 0, none⟩) N cap) (hs : a.eval s = .slice p n scap)
    (old new : List Int) (hrow : RowAt bE elem 1 w g N old) (hold : old.length = N) (hv : VRow bE 1 w p n scap new) (hle : n ≤ N)
    (h : ∀ w', RowAt bE elem 1 w' g N (new ++ old.drop n) → Only [g] w w' → w'.heap.size = w.heap.size → wpList P ops Q rest (a.put o.dst (goInt n)) w') :
    wpList P ops Q (o :: rest) a w := by
  by_cases h0 : n = 0
  · subst h0
    have hn : new = [] := List.eq_nil_of_length_eq_zero hv.len
    subst hn
    refine wpList_copy_nothing hgd d s dT sT ho elem hu hsz _ _ _ _ _ _ hd hs (by simp) ?_
    exact h w (by simpa using hrow) (Only.refl _ _) rfl
  · have hlen := hv.len
    obtain ⟨ad, rfl, hc⟩ := hv.cells1 (f := Value.int .u8) (by omega)
    obtain ⟨cur, hg, hcur⟩ := row_bytes hrow hold
    have hm : N ≤ maxLen := by obtain ⟨_, _, _, _, h, _⟩ := hrow; exact h
    have hcl : cur.length = N := by rw [hcur]; simpa using hold
    refine wpList_copy_own hgd d s dT sT ho elem hu hsz g 0 N cap ad n scap hd hs cur.toArray elem hg (new.map (Value.int .u8)) (by rw [List.length_map, hlen]; exact (Nat.min_eq_left hle).symm) hc (by simp [hlen]; omega) (by intro v hv; obtain ⟨z, _, rfl⟩ := List.mem_map.1 hv; rfl) ?_
    have e1 : (new.map (Value.int .u8)).length = n := by simp [hlen]
    rw [e1]
    have e2 : (cur.toArray.toList.take 0 ++ (new.map (Value.int .u8) ++ cur.toArray.toList.drop (0 + n))) = (new ++ old.drop n).map (Value.int .u8) := by
      rw [hcur]; simp
    rw [e2]
    refine h _ ?_ ⟨rfl, rfl, rfl, by simp [World.setRow], fun k _ hk => setRow_other w g k _ (fun e => hk (by simp [e]))⟩ (by simp [World.setRow])
    have hl : (new ++ old.drop n).length = N := by simp; omega
    have := row_of_bytes (l := new ++ old.drop n) (setRow_heap w g cur.toArray _ elem _ hg) (by omega)
    rw [hl] at this
    exact this

/-- what the loop of Append keeps -/
def AppRel (w : World) (bs : List Int) (x n size : Nat) (vi : Value) (wr : World) : Prop :=
  ∃ k : Nat, k ≤ size ∧ vi = .int .i64 k ∧ RowAt bE 5 1 wr w.heap.size (n + size) (bs ++ ((be x size).take k ++ List.replicate (size - k) 0)) ∧ Only [] w wr

theorem app_list (bs b : List Int) (k size : Nat) (hb : b.length = size) (hk : k < size) (v : Int) (hv : b[k]? = some v) :
    (bs ++ (b.take k ++ List.replicate (size - k) 0)).set (bs.length + k) v = bs ++ (b.take (k + 1) ++ List.replicate (size - (k + 1)) 0) := by
  apply List.ext_getElem?
  intro j
  obtain ⟨m, hm⟩ : ∃ m, size - k = m + 1 := ⟨size - k - 1, by omega⟩
  rw [hm, show size - (k + 1) = m by omega, List.replicate_succ, List.set_append_right _ _ (by omega), Nat.add_sub_cancel_left, List.set_append_right _ _ (by simp; omega)]
  congr 2
  rw [List.take_add_one, hv]
  simp [hb, Nat.min_eq_left (Nat.le_of_lt hk)]
theorem beAt_get (x size k : Nat) (hk : k < size) : (be x size)[k]? = some (beAt x size k) := by simp [be, hk]
theorem app_cell {wr : World} {bs : List Int} {x n size k g : Nat} (h : RowAt bE 5 1 wr g (n + size) (bs ++ ((be x size).take k ++ List.replicate (size - k) 0))) (hn : bs.length = n) (hk : k < size) :
    wr.cell? ⟨g, n + k, none⟩ = some (.int .u8 0) := by
  have hg : (bs ++ ((be x size).take k ++ List.replicate (size - k) 0))[n + k]? = some 0 := by
    have hl : ((be x size).take k).length = k := by simp [be_length]; omega
    rw [List.getElem?_append_right (by omega), List.getElem?_append_right (by omega), hn, hl, show n + k - n - k = 0 by omega, List.getElem?_replicate, if_pos (by omega)]
  have := RowAt.cell (s := 1) (enc := bE) (fun _ => rfl) h (i := n + k) (j := 0) (x := (0 : Int)) hg (by decide)
  simpa using this
theorem app_next {wr : World} {bs : List Int} {x n size k g : Nat} (h : RowAt bE 5 1 wr g (n + size) (bs ++ ((be x size).take k ++ List.replicate (size - k) 0))) (hn : bs.length = n) (hk : k < size) :
    RowAt bE 5 1 (wr.setCell ⟨g, n + k, none⟩ (.int .u8 (beAt x size k))) g (n + size) (bs ++ ((be x size).take (k + 1) ++ List.replicate (size - (k + 1)) 0)) := by
  have h1 := RowAt.set1 (f := Value.int .u8) h (i := n + k) (by simp [be_length]; omega) (beAt x size k)
  rw [← hn, app_list bs (be x size) k size (be_length x size) hk _ (beAt_get x size k hk), hn] at h1
  exact h1

theorem info_u8 : (Tryz.prog.info? 5).map (fun i => (i.zero, i.size, i.bytes)) = some (some (.int .u8 0), 1, 1) := by kernel_rfl

set_option maxRecDepth 100000 in
set_option maxHeartbeats 1000000 in
theorem wappend {w : World} {p : Option Addr} {n cap : Nat} {bs : List Int} (hv : VRow bE 1 w p n cap bs) (x size : Nat) (h1 : 1 ≤ size) (h2 : size ≤ 8) (hx : x < 2 ^ (8 * size)) (hn : n ≤ 1000000) :
    Calls Tryz.prog 274 #[.slice p n cap, .int .u64 x, .int .i64 size] w fun e w' =>
      e = .returned (.tuple #[.slice (some ⟨w.heap.size, 0, none⟩) (n + size) (n + size), .int .i64 0]) ∧ RowAt bE 5 1 w' w.heap.size (n + size) (bs ++ be x size) ∧ Only [] w w' := by
  obtain ⟨i0, hi, hz0, hz1, hz2⟩ := info_parts info_u8
  have HV := Lib.hid hv
  have hx64 : x < 18446744073709551616 := Nat.lt_of_lt_of_le hx (Nat.le_trans (Nat.pow_le_pow_right (by omega) (by omega : 8 * size ≤ 64)) (by decide))
  have HX := Lib.hid hx
  have HL := Lib.hid hv.len
  clear hv hx
  have hsh : (x : Int) / 2 ^ (8 * (size : Int)).toNat = 0 := by
    rw [show (8 * (size : Int)).toNat = 8 * size by omega]
    have := Nat.div_eq_of_lt HX.out
    have h3 : ((x / 2 ^ (8 * size) : Nat) : Int) = 0 := by rw [this]; rfl
    rw [Int.natCast_ediv] at h3
    simpa using h3
  go_enter Tryz.func274, Tryz.ntmps274
  go_wp2_with fail
  refine (sized_yes size w h1 h2).mono ?_
  rintro e w' ⟨rfl, rfl⟩
  have hd8 : decide ((size : Int) < 8) = true ∨ decide ((size : Int) < 8) = false := by cases decide ((size : Int) < 8) <;> simp
  rcases hd8 with d8 | d8
  all_goals
    go_wp2_with (first | (at_make; refine wpList_make_row bE rfl _ _ 254 rfl 5 i0 (.int .u8 0) 1 1 Tryz.underlying254 hi hz0 hz1 hz2 (fun _ => rfl) 0 rfl .i64 .i64 _ _ (n + size) rfl rfl (by omega) (by omega) (by omega) (by simp [maxLen]; omega) ?_; intro w3 hrow3 ho3 hs3) | (with_reducible refine wpList_copy_bytes rfl (.tmp 27) (.tmp 28) 254 254 rfl 5 Tryz.underlying254 (by kernel_rfl) _ _ _ _ _ _ rfl rfl _ _ hrow3 (by simp) (HV.out.kept ho3) (by omega) ?_))
    intro w4 hrow4 ho4 hs4
    have R4 : Hid (RowAt bE 5 1 w4 w.heap.size (n + size) (bs ++ List.replicate size 0)) := Lib.hid (by simpa using hrow4)
    have O4 := Lib.hid (Only.mono (S' := []) (ho3.nil_left ho4) (by simp))
    have HI := Lib.hid hi; have Z0 := Lib.hid hz0; have Z1 := Lib.hid hz1; have Z2 := Lib.hid hz2
    clear hrow3 ho3 hs3 hrow4 ho4 hs4 hi hz0 hz1 hz2
    go_wp2
    go_loopw [9, 31] (fun _ vi wr => AppRel w bs x n size vi wr) (fun _ vi _ => size - (intOf vi).toNat)
    case atStart => exact ⟨0, by omega, rfl, by simpa using R4.out, O4.out⟩
    case round =>
      obtain ⟨k, hk, rfl, hrow, ho⟩ := hrel
      have RR := Lib.hid hrow; have OO := Lib.hid ho
      clear hrow ho
      by_cases hlt : k < size
      · have hcell : wr.cell? ⟨w.heap.size, n + k, none⟩ = some (.int .u8 0) := app_cell RR.out HL.out hlt
        have hfr : wr.frozen? ⟨w.heap.size, n + k, none⟩ = false := RR.out.frozen _
        have hsz : w.heap.size < wr.heap.size := RR.out.lt
        obtain ⟨y, hy, hy8⟩ : ∃ y : Nat, (x : Int) / 2 ^ (8 * ((size : Int) - 1 - (k : Int))).toNat = (y : Int) ∧ Hid (((y % 256 : Nat) : Int) = beAt x size k) := by
          refine ⟨x / 2 ^ (8 * (size - 1 - k)), ?_, Lib.hid rfl⟩
          rw [show (8 * ((size : Int) - 1 - (k : Int))).toNat = 8 * (size - 1 - k) by omega, Int.natCast_ediv]
          simp
        have hyw : IntKind.u8.wrap (y : Int) = ((y % 256 : Nat) : Int) := by rw [IntKind.wrap_u8]; simp
        have NX := Lib.hid (app_next RR.out HL.out hlt)
        have b1 : 0 ≤ 8 * ((size : Int) - 1 - (k : Int)) := by omega
        have b2 : 8 * ((size : Int) - 1 - (k : Int)) ≤ 64 := by omega
        have b3 : 0 ≤ (size : Int) - 1 - (k : Int) := by omega
        go_wp2
        go_roundw
        case rel => exact ⟨k + 1, by omega, by go_num, by rw [show (y : Int) % 256 = beAt x size k from by rw [← hy8.out]; simp]; exact NX.out, OO.out.setCell (.inr (Nat.le_refl _)) _⟩
        case measure => simp [intOf]; omega
      · obtain rfl : k = size := by omega
        go_wp2
        go_ret2
        refine ⟨rfl, ?_, OO.out⟩
        have := RR.out
        simpa [List.take_of_length_le (Nat.le_of_eq (be_length x k))] using this
end Go.Proofs.YtikjdmbfjkbndaaGreat
