/- Texts of one chain: XSz XP1 XP2. -/
import Derived.Test.YthmeifdgkodjlaaGreatDoorG5
import Derived.Test.YthmeifdgkodjlaaGreatDoorShelfU
import Derived.Lib.IndexLaws
import Derived.RangeFuncNested
import Derived.RangeFuncBound
import Derived.RangeFuncCalls
import Derived.RangeFuncLeaves
import Derived.Shelf.Abstract
import Derived.Shelf.RegionOpen
import Derived.WalkKit
import Derived.OwnWalkIn
import Derived.TacticsInMore
import Derived.LoopNIn
import Derived.LoopIn
import Derived.RangeFuncBox
import Derived.Maps.AppendAt
/- lines of package scenario: the lines of a text, one after another, with their numbers. Condition: the length. -/
namespace Go.Proofs.YthmeifdgkodjlaaGreatDoor
open Go.RowKit Go.Shelf
attribute [local go_sem] Oper.semAt_some

theorem ib_at {c : UInt8} : ∀ (a r : List UInt8), c ∉ a → Lib.indexByte (a ++ c :: r) c = a.length
  | [], r, _ => by simp [Lib.indexByte]
  | x :: a, r, h => by
    have hx : (x == c) = false := beq_eq_false_iff_ne.2 fun e => h (by simp [e])
    have ih := ib_at (c := c) a r fun m => h (by simp [m])
    rw [List.cons_append, Lib.indexByte, if_neg (by rw [hx]; simp), ih]
    simp
theorem ib_no {c : UInt8} : ∀ (a : List UInt8), c ∉ a → Lib.indexByte a c = -1
  | [], _ => rfl
  | x :: a, h => by
    have hx : (x == c) = false := beq_eq_false_iff_ne.2 fun e => h (by simp [e])
    have ih := ib_no (c := c) a fun m => h (by simp [m])
    rw [Lib.indexByte, if_neg (by rw [hx]; simp), ih]
    simp
theorem bstr_take (l r : List UInt8) : (bstr (l ++ r)).extract 0 l.length = bstr l := by
  refine bstr_eq ?_
  rw [ByteArray.data_extract, Array.toList_extract]
  simp [bstr]
theorem bstr_drop (l r : List UInt8) (n : Nat) (h : n = (l ++ r).length) : (bstr (l ++ r)).extract l.length n = bstr r := by
  refine bstr_eq ?_
  rw [ByteArray.data_extract, Array.toList_extract, List.extract_eq_take_drop]
  subst h
  simp [bstr]
/-- a line and its number -/
abbrev LnN := Nat × List UInt8
def LnJ (L : List UInt8) (J : List LnN → World → Prop) (v vi : Value) (wr : World) : Prop :=
  ∃ (k : Nat) (R : List UInt8) (pre : List LnN), v = .string (bstr R) ∧ vi = .int .i64 k ∧ J pre wr ∧ pre ++ lnsO k (pcs 10 R) = lnsO 1 (pcs 10 L) ∧ 1 ≤ k ∧ k + R.length ≤ L.length + 1
def strLen : Value → Nat
  | .string s => s.size
  | _ => 0
set_option maxRecDepth 100000 in
set_option maxHeartbeats 2000000 in
theorem lines1_in (n l Bn : Nat) (X : ByteArray) (L : List UInt8) (hL : X.data.toList = L) (hs : X.size ≤ 1000000) (hlp : ∀ p ∈ pcs 10 L, p.length ≤ 99999) (J Jx : List LnN → World → Prop)
    (hY : ∀ pre (x : LnN) W, x.1 ≤ 1000001 → x.2.length ≤ 100000 → J pre W → pre.length < (lnsO 1 (pcs 10 L)).length → YieldAt Fence.wide (n - 1) Tryz.prog l #[.int .i64 x.1, .string (bstr x.2)] W fun e W' =>
      (e = .returned (.bool true) ∧ J (pre ++ [x]) W') ∨ (e = .returned (.bool false) ∧ Jx (pre ++ [x]) W'))
    (W : World) (hBn : W.cell? ⟨Bn, 0, none⟩ = some (.string X)) (h0 : J [] W) :
    CallsIn Fence.wide n Tryz.prog 65 #[.func (.yield l) #[] #[], .pointer (some ⟨Bn, 0, none⟩)] W fun e W' => (∃ v, e = .returned v) ∧
      ((∃ ys, ys = lnsO 1 (pcs 10 L) ∧ J ys W') ∨ (∃ pre, pre <+: lnsO 1 (pcs 10 L) ∧ Jx pre W')) := by
  have hsz : X.size = L.length := by rw [← hL, Array.length_toList]; rfl
  have hX : X = bstr L := bstr_eq hL
  have HLL : L.length ≤ 1000000 := by omega
  have HY := Lib.hid hY; have HP := Lib.hid hlp
  have HX := Lib.hid hX
  clear hY hL hX hsz hs hlp
  refine callsIn_of_wp Tryz.func65 rfl trivial ?_ rfl
  simp only [Tryz.ntmps65, List.size_toArray, List.length_cons, List.length_nil, Nat.reduceAdd, Nat.reduceSub, Array.replicate_succ, Array.replicate_zero, List.push_toArray, List.append_toArray, List.nil_append, List.cons_append]
  gi_wp2
  gi_loopw [3, 4] (fun v vi wr => LnJ L J v vi wr) (fun v _ _ => strLen v)
  case atStart => exact ⟨1, L, [], by rw [HX.out], rfl, h0, rfl, Nat.le_refl _, by omega⟩
  case round =>
    obtain ⟨k, R, pre, rfl, rfl, hJ, hw, hk1, hkR⟩ := hrel
    by_cases hR : R = []
    · subst hR
      rw [lns_nil, List.append_nil] at hw
      have HW := Lib.hid hw
      have tR : (bstr []).toList = [] := by rw [Lib.toList_data]; rfl
      clear hw
      generalize bstr [] = S at tR
      gi_wp2
      go_end0
      exact ⟨⟨_, rfl⟩, .inl ⟨_, HW.out, hJ⟩⟩
    · obtain ⟨a, r, hR2, hne, hst, hcase⟩ := lns_step k R hR
      have hpos : 0 < a.length := by
        rcases a with _ | ⟨q, a⟩
        · exact absurd rfl hne
        · simp
      have hlen : R.length = a.length + r.length := by rw [hR2]; simp
      have hsz : (bstr R).size = a.length + r.length := by rw [bstr_size, hlen]
      have hib : Lib.indexByte R 10 = (a.length : Int) - 1 ∨ (Lib.indexByte R 10 = -1 ∧ r = []) := by
        rcases hcase with ⟨h1, h2, h3⟩ | ⟨q, h1, h2⟩
        · exact .inr ⟨ib_no R h1, h3⟩
        · left
          rw [hR2, h2, List.append_assoc, List.cons_append, List.nil_append, ib_at q r h1]
          simp
      have hmem : a.length ≤ 100000 := by
        obtain ⟨p, hp, hpp⟩ := lnsO_mem (pcs 10 L) 1 (k, a) (by rw [← hw, hst]; simp)
        have := HP.out p hp
        rcases hpp with hpp | hpp <;> simp only at hpp <;> rw [hpp] <;> simp <;> omega
      have hyy := HY.out pre (k, a) wr (by simp; omega) hmem hJ (by rw [← hw, hst]; simp)
      have hw2 : pre ++ [(k, a)] ++ lnsO (k + 1) (pcs 10 r) = lnsO 1 (pcs 10 L) := by rw [← hw, hst]; simp
      have HW := Lib.hid hw2
      have e1 : (bstr R).extract 0 a.length = bstr a := by rw [hR2]; exact bstr_take a r
      have e2 : (bstr R).extract a.length (a.length + r.length) = bstr r := by rw [hR2]; exact bstr_drop a r _ (by simp)
      simp only at hyy
      rw [← e1] at hyy
      obtain ⟨fn, tmps, assign, body, hy, hrd⟩ := hyy
      have HR := Lib.hid hrd
      have HE2 := Lib.hid e2
      have tR : ¬ (bstr R).toList = [] := by rw [Lib.toList_data]; exact hR
      have tRb : ((bstr R).toList == []) = false := beq_eq_false_iff_ne.2 tR
      have tRn : (!(bstr R).toList == []) = true := by rw [tRb]; rfl
      have hcall : Calls Tryz.prog 66 #[.string (bstr R), .int .u8 10] wr fun e w' => e = .returned (.int .i64 (Lib.indexByte R 10)) ∧ wr = w' := (Tryz.strings_IndexByte (bstr R) 10 wr).mono fun e w' ⟨h1, h2⟩ => ⟨h1, h2.symm⟩
      have HC := Lib.hid hcall
      have hal : a.length ≤ 1000000 := by omega
      clear hw hw2 hst hcase hrd e1 e2 hcall hne hR hmem
      generalize hI : Lib.indexByte R 10 = I at HC hib
      clear hI
      have hkr : k + (a.length + r.length) ≤ L.length + 1 := by omega
      clear hkR hlen hR2
      generalize bstr R = S at *
      rcases hib with hib | ⟨hib, hr0⟩
      · have z1 : I + 1 = (a.length : Int) := by omega
        have z0 : ((a.length : Int) == 0) = false := by rw [beq_eq_false_iff_ne]; omega
        subst hib
        have hsub : (a.length : Int) - 1 + 1 = (a.length : Int) := by omega
        have hwr : IntKind.i64.wrap ((a.length : Int) - 1 + 1) = (a.length : Int) := by rw [hsub, IntKind.wrap_i64]; omega
        clear z1
        gi_wp2_with (refine ⟨trivial, ?_⟩; gi_at_call 66; fail)
        refine ⟨trivial, fun h => (by cases h), ?_⟩
        refine (callsIn_wide.2 HC.out).mono ?_
        rintro e w' ⟨rfl, rfl⟩
        gi_wp2
        refine ⟨fun h => (by cases h), HR.out.mono ?_⟩
        rintro e W3 (⟨rfl, hJ3⟩ | ⟨rfl, hJx3⟩)
        · gi_wp2
          go_roundw
          case rel => exact ⟨k + 1, r, pre ++ [(k, a)], by rw [HE2.out], by go_num, hJ3, HW.out, by omega, by omega⟩
          case measure => simp only [strLen, HE2.out, bstr_size, hsz]; omega
        · gi_wp2
          refine bodyPost_ret (results_none rfl _ _ _) rfl ?_
          exact ⟨⟨_, rfl⟩, .inr ⟨pre ++ [(k, a)], ⟨lnsO (k + 1) (pcs 10 r), HW.out⟩, hJx3⟩⟩
      · subst hib; subst hr0
        simp only [List.length_nil, Nat.add_zero] at hsz hkr HE2
        gi_wp2_with (refine ⟨trivial, ?_⟩; gi_at_call 66; fail)
        refine ⟨trivial, fun h => (by cases h), ?_⟩
        refine (callsIn_wide.2 HC.out).mono ?_
        rintro e w' ⟨rfl, rfl⟩
        gi_wp2
        refine ⟨fun h => (by cases h), HR.out.mono ?_⟩
        rintro e W3 (⟨rfl, hJ3⟩ | ⟨rfl, hJx3⟩)
        · gi_wp2
          go_roundw
          case rel => exact ⟨k + 1, [], pre ++ [(k, a)], rfl, by go_num, hJ3, HW.out, by omega, by simp; omega⟩
          case measure => have h0 : ByteArray.empty.size = 0 := rfl; simp only [strLen, hsz]; omega
        · gi_wp2
          refine bodyPost_ret (results_none rfl _ _ _) rfl ?_
          exact ⟨⟨_, rfl⟩, .inr ⟨pre ++ [(k, a)], ⟨lnsO (k + 1) (pcs 10 []), HW.out⟩, hJx3⟩⟩
/-- a line that is not too long -/
abbrev LnK := { x : LnN // x.1 ≤ 1000001 ∧ x.2.length ≤ 100000 }
theorem lines_stops (n Bn : Nat) (X : ByteArray) (L : List UInt8) (hL : X.data.toList = L) (hs : X.size ≤ 1000000) (hlp : ∀ p ∈ pcs 10 L, p.length ≤ 99999) (w : World) (hBn : Bn < w.heap.size) (hc : w.cell? ⟨Bn, 0, none⟩ = some (.string X)) :
    SeqStopsK Fence.wide n Tryz.prog 65 #[.pointer (some ⟨Bn, 0, none⟩)] (fun x : LnK => #[Value.int .i64 x.1.1, Value.string (bstr x.1.2)]) (fun _ _ => True)
      (fun ys => ys.map Subtype.val = lnsO 1 (pcs 10 L)) (fun pre => pre.map Subtype.val <+: lnsO 1 (pcs 10 L)) (lnsO 1 (pcs 10 L)).length w := fun l J Jx W hW _ _ hY h0 => by
  refine (lines1_in n l Bn X L hL hs hlp (fun pre W => ∃ q : List LnK, q.map Subtype.val = pre ∧ J q W) (fun pre W => ∃ q : List LnK, q.map Subtype.val = pre ∧ Jx q W) ?_ W ((hW.cell (p := ⟨Bn, 0, none⟩) hBn).trans hc) ⟨[], rfl, h0⟩).mono ?_
  · rintro pre x W1 hx1 hx2 ⟨q, rfl, hj⟩ hlen
    refine (hY q ⟨x, hx1, hx2⟩ W1 hj (by simpa using hlen)).mono ?_
    rintro e W' (⟨rfl, hj2, _⟩ | ⟨rfl, hj2⟩)
    · exact .inl ⟨rfl, q ++ [⟨x, hx1, hx2⟩], by simp, hj2⟩
    · exact .inr ⟨rfl, q ++ [⟨x, hx1, hx2⟩], by simp, hj2⟩
  · rintro e W' ⟨he, ⟨ys, rfl, q, hq, hj⟩ | ⟨pre, hp, q, rfl, hj⟩⟩
    · exact ⟨he, .inl ⟨q, hq, hj⟩⟩
    · exact ⟨he, .inr ⟨q, hp, hj⟩⟩
set_option maxHeartbeats 1000000 in
theorem lines_in (n : Nat) (X : ByteArray) (w : World) :
    CallsIn Fence.wide n Tryz.prog 37 #[.string X] w fun e w' => e = .returned (.func (.func 65) #[] #[.pointer (some ⟨w.heap.size, 0, none⟩)]) ∧ w' = w.alloc (.cells #[.string X] 9) := by
  refine callsIn_of_wp Tryz.func37 rfl trivial ?_ rfl
  simp only [Tryz.ntmps37, List.size_toArray, List.length_cons, List.length_nil, Nat.reduceAdd, Nat.reduceSub, Array.replicate_succ, Array.replicate_zero, List.push_toArray, List.append_toArray, List.nil_append, List.cons_append]
  gi_wp2
  go_ret
  exact ⟨rfl, rfl⟩
end Go.Proofs.YthmeifdgkodjlaaGreatDoor

/- What holds before and behind each round of Parse of package scenario. No condition. -/
namespace Go.Proofs.YthmeifdgkodjlaaGreatDoor
open Go.RowKit Go.Shelf

/-- blocks that are no cells have changed -/
theorem Own.keptN {α : Type} {enc : α → List Value} {e : TypeId} {s B : Nat} {w w' : World} {v : Value} {l : List α} {S : List Nat} (h : Own enc e s B w v l) (ho : Only S w w') (hS : ∀ k ∈ S, ∃ o, w.heap[k]? = some o ∧ o.isCells = false) : Own enc e s B w' v l :=
  h.keptS ho fun k hk hv => by
    obtain ⟨o, h1, h2⟩ := hS k hk
    obtain ⟨_, c, t, h3⟩ := h.blockC hv
    rw [h1] at h3; cases h3; cases h2
theorem got_keptN {w w' : World} {S : List Nat} {k : Nat} {c : Array Value} {t : TypeId} {z : Nat × Nat} (h : w.heap[k]? = some (.cells c t z)) (ho : Only S w w') (hS : ∀ k ∈ S, ∃ o, w.heap[k]? = some o ∧ o.isCells = false) : w'.heap[k]? = some (.cells c t z) :=
  ho.got h fun hm => by
    obtain ⟨o, h1, h2⟩ := hS k hm
    rw [h1] at h; cases h; cases h2
theorem RdW.keptN {B b : Nat} {w w' : World} {x : SSt} {ns : List NdW} {ls : List LkW} {vn vl vf : Value} {S : List Nat} (h : RdW B b w x ns ls vn vl vf) (ho : Only S w w') (hS : ∀ k ∈ S, ∃ o, w.heap[k]? = some o ∧ o.isCells = false) : RdW B b w' x ns ls vn vl vf :=
  ⟨got_keptN h.box ho hS, h.hn, h.hl, h.nd.keptN ho hS, h.lk.keptN ho hS, h.ft.keptN ho hS, fun y hy => (h.sg y hy).keptN ho hS, fun y hy => (h.sv y hy).keptN ho hS, fun y hy => (h.ch y hy).keptN ho hS, h.apN, h.apL⟩
/-- blocks have changed that lie below all rows -/
theorem RdW.keptLow {B b : Nat} {w w' : World} {x : SSt} {ns : List NdW} {ls : List LkW} {vn vl vf : Value} {S : List Nat} (h : RdW B b w x ns ls vn vl vf) (ho : Only S w w') (hb : b ∉ S) (hS : ∀ k ∈ S, k < B) : RdW B b w' x ns ls vn vl vf :=
  ⟨ho.got h.box hb, h.hn, h.hl, h.nd.kept_below ho hS, h.lk.kept_below ho hS, h.ft.kept_below ho hS, fun y hy => (h.sg y hy).kept_below ho hS, fun y hy => (h.sv y hy).kept_below ho hS, fun y hy => (h.ch y hy).kept_below ho hS, h.apN, h.apL⟩
/-- the number of the last line -/
def cnt (pre : List LnN) : Nat := (pre.getLast?.map Prod.fst).getD 0
theorem cnt_snoc (pre : List LnN) (x : LnN) : cnt (pre ++ [x]) = x.1 := by simp [cnt]
theorem cnt_lns (ps : List (List UInt8)) : cnt (lnsO 1 ps) = (lnsO 1 ps).length := by
  unfold cnt
  cases hq : (lnsO 1 ps).getLast? with
  | none => rw [List.getLast?_eq_none_iff] at hq; rw [hq]; rfl
  | some y =>
    have hg : (lnsO 1 ps)[(lnsO 1 ps).length - 1]? = some y := by rw [← List.getLast?_eq_getElem?]; exact hq
    have h1 := lnsO_num ps 1 _ y hg
    have h2 := (List.getElem?_eq_some_iff.1 hg).1
    simp only [Option.map_some, Option.getD_some]
    omega
def zSc : Array Value := #[.slice none 0 0, .slice none 0 0, .slice none 0 0, .int .i64 0, .int .u64 0]
def vals (pre : List LnK) : List LnN := pre.map Subtype.val
/-- before and behind each round -/
def PI (w : World) (n : Nat) (pre : List LnK) (W : World) : Prop :=
  ∃ x ns ls vn vl vf, rdI ss0 (vals pre) = .ok x ∧ RdW n (w.heap.size + 1 + 1 + 1) W x ns ls vn vl vf ∧ W.heap[w.heap.size]? = some (.cells zSc 27 (0, 0)) ∧ W.heap[w.heap.size + 1]? = some (.cells #[.int .i64 0] 3 (0, 0)) ∧
    W.heap[w.heap.size + 1 + 1]? = some (.cells #[.int .i64 0] 30 (0, 0)) ∧ W.heap[w.heap.size + 1 + 1 + 1 + 1]? = some (.cells #[.int .i64 (cnt (vals pre))] 3 (0, 0)) ∧ Only [] w W ∧ n ≤ W.heap.size
/-- a wrong line -/
def PX (w : World) (c : Code) (pre : List LnK) (W : World) : Prop :=
  ∃ m : Nat, c = .ret ∧ rdI ss0 (vals pre) = .error m ∧ W.heap[w.heap.size]? = some (.cells zSc 27 (0, 0)) ∧ W.heap[w.heap.size + 1]? = some (.cells #[.int .i64 m] 3 (0, 0)) ∧
    W.heap[w.heap.size + 1 + 1]? = some (.cells #[.int .i64 19] 30 (0, 0)) ∧ Only [] w W
theorem row_facts {n : Nat} {w W W' : World} {row : Option Nat} (hn : w.heap.size ≤ n) (hw : Only [] w W) (hg : W.grownBy W' row) (hr : ∀ r, row = some r → n ≤ r ∧ ∃ o : Obj, W.heap[r]? = some o ∧ o.isCells = false) :
    Only row.toList W W' ∧ (∀ k ∈ row.toList, ∃ o, W.heap[k]? = some o ∧ o.isCells = false) ∧ Only [] w W' := by
  have h1 : Only row.toList W W' := (Only.refl _ W).grown hg (fun k hk => .inl (by rw [hk]; simp))
  refine ⟨h1, fun k hk => (hr k (by simpa using hk)).2, hw.trans h1 (fun k hk => .inr ?_)⟩
  have := (hr k (by simpa using hk)).1
  omega
theorem pi_from {w : World} {n : Nat} (hn : w.heap.size ≤ n) : OwnFrom n (PI w n) := by
  rintro s W W' row ⟨x, ns, ls, vn, vl, vf, h1, h2, h3, h4, h5, h6, h7, h8⟩ hg hr
  obtain ⟨k1, k2, k3⟩ := row_facts hn h7 hg hr
  exact ⟨x, ns, ls, vn, vl, vf, h1, h2.keptN k1 k2, got_keptN h3 k1 k2, got_keptN h4 k1 k2, got_keptN h5 k1 k2, got_keptN h6 k1 k2, k3, Nat.le_trans h8 hg.size⟩
theorem px_from {w : World} {n : Nat} (hn : w.heap.size ≤ n) (c : Code) : OwnFrom n (PX w c) := by
  rintro s W W' row ⟨m, h1, h2, h3, h4, h5, h7⟩ hg hr
  obtain ⟨k1, k2, k3⟩ := row_facts hn h7 hg hr
  exact ⟨m, h1, h2, got_keptN h3 k1 k2, got_keptN h4 k1 k2, got_keptN h5 k1 k2, k3⟩
/-- the blocks of a world below n -/
def cutW (W : World) (n : Nat) : World := { W with heap := W.heap.extract 0 n }
theorem cutW_size {W : World} {n : Nat} (h : n ≤ W.heap.size) : (cutW W n).heap.size = n := by simp [cutW]; omega
theorem cutW_only {W : World} {n : Nat} (h : n ≤ W.heap.size) : Only [] (cutW W n) W :=
  ⟨rfl, rfl, rfl, by rw [cutW_size h]; exact h, fun k hk _ => by
    rw [cutW_size h] at hk
    simp only [cutW, Array.getElem?_extract]
    rw [if_pos (by omega), Nat.zero_add]⟩
/-- what the reader has kept -/
theorem Ob.back {b n : Nat} {W w' : World} (hn : n ≤ W.heap.size) (h : Ob b ⟨cutW W n, W⟩ w') : (∀ k c t, k < n → k ≠ b → W.heap[k]? = some (.cells c t (0, 0)) → w'.heap[k]? = some (.cells c t (0, 0))) ∧ KeepsOthers W w' := by
  refine ⟨fun k c t hk hb hc => ?_, h.keep⟩
  have h1 : (cutW W n).heap[k]? = some (.cells c t (0, 0)) := by
    rw [← (cutW_only hn).block k (by rw [cutW_size hn]; exact hk) (by simp)]; exact hc
  exact h.only.got h1 (by simpa using hb)
theorem Ob.only_back {b n : Nat} {w W w' : World} (hw : Only [] w W) (h1 : w.heap.size ≤ n) (h2 : n ≤ W.heap.size) (hb : w.heap.size ≤ b) (h : Ob b ⟨cutW W n, W⟩ w') : Only [] w w' := by
  have hc := cutW_size h2
  have ho : Only [b] (cutW W n) w' := h.only
  refine ⟨ho.os.trans hw.os, ho.tape.trans hw.tape, ho.output.trans hw.output, by have := ho.size; omega, fun k hk _ => ?_⟩
  have h3 : w'.heap[k]? = (cutW W n).heap[k]? := ho.block k (by omega) (by simp; omega)
  rw [h3, ← hw.block k hk (by simp)]
  exact ((cutW_only h2).block k (by omega) (by simp)).symm
theorem set_other {w : World} {k : Nat} {a : Addr} {v : Value} {o : Obj} (hne : k ≠ a.block) (h : w.heap[k]? = some o) : (w.setCell a v).heap[k]? = some o := (Below.heap_setCell w a v k hne).trans h
theorem own_vrow {α : Type} {enc : α → List Value} {e : TypeId} {s B n c : Nat} {w : World} {p : Option Addr} {l : List α} (hs : ∀ x, (enc x).length = s) (h : Own enc e s B w (.slice p n c) l) : VRow enc s w p l.length c l := by
  obtain ⟨p', c', h1, h2⟩ := h.vrow hs
  cases h1
  exact h2
/-- what Parse returns -/
def PrsR (r : Sc × Nat × Int) (e : Ending) (w : World) : Prop := ∃ s : ScW, s.sc = r.1 ∧ s.Ok w ∧ e = .returned (.tuple #[scV s, .int .i64 r.2.1, .int .i64 r.2.2])
/-- the scene that the reader holds -/
theorem RdW.scene {x : SSt} {B b : Nat} {w : World} {ns : List NdW} {ls : List LkW} {vn vl vf : Value} (h : RdW B b w x ns ls vn vl vf) (hz : SLe 100000 x) :
    ∃ s : ScW, s.sc = x.sc ∧ scV s = .agg #[vn, vl, vf, .int .i64 x.sc.un, .int .u64 x.sc.sd] ∧ ∀ B' b' w', RdW B' b' w' x ns ls vn vl vf → s.Ok w' := by
  obtain ⟨pn, cn, e1, _⟩ := h.nd.vrow ndC_len
  obtain ⟨pl, cl, e2, _⟩ := h.lk.vrow lkC_len
  obtain ⟨pf, cf, e3, _⟩ := h.ft.vrow ftC_len
  subst e1 e2 e3
  refine ⟨⟨ns, ls, x.sc.ft, x.sc.un, x.sc.sd, pn, cn, pl, cl, pf, cf⟩, ?_, rfl, fun B' b' w' k => ?_⟩
  · obtain ⟨⟨nd, lk, ft, un, sd⟩, a⟩ := x
    have e1 := h.hn; have e2 := h.hl
    simp only at e1 e2
    simp only [ScW.sc, e1, e2]
  · have hn := hz.nd; have hl := hz.lk
    rw [h.hn, List.length_map] at hn
    rw [h.hl, List.length_map] at hl
    refine ⟨own_vrow ndC_len k.nd, own_vrow lkC_len k.lk, own_vrow ftC_len k.ft, fun y hy => ?_, fun y hy => ?_, hn, hl, hz.ft⟩
    · have := hz.sg y.n (by rw [h.hn]; exact List.mem_map_of_mem hy)
      exact ⟨own_vrow sgC_len (k.sg y hy), own_vrow (fun _ => rfl) (k.sv y hy), this.1, this.2⟩
    · exact ⟨own_vrow (fun _ => rfl) (k.ch y hy), hz.ch y.l (by rw [h.hl]; exact List.mem_map_of_mem hy)⟩
theorem suf_yes (a : List UInt8) : Lib.hasSuffix (a ++ [10]) [10] = true ∧ Lib.trimSuffix (a ++ [10]) [10] = a := by
  have h : Lib.hasSuffix (a ++ [10]) [10] = true := by
    unfold Lib.hasSuffix
    rw [List.isSuffixOf_iff_suffix]
    exact ⟨a, rfl⟩
  refine ⟨h, ?_⟩
  unfold Lib.trimSuffix
  rw [if_pos h]
  simp
theorem suf_no {l : List UInt8} (h : l.getLast? ≠ some 10) : Lib.hasSuffix l [10] = false := by
  cases hq : Lib.hasSuffix l [10] with
  | false => rfl
  | true =>
    unfold Lib.hasSuffix at hq
    rw [List.isSuffixOf_iff_suffix] at hq
    obtain ⟨a, rfl⟩ := hq
    exact absurd (by simp) h
theorem last_split {l : List UInt8} (h : l.getLast? = some 10) : ∃ a, l = a ++ [10] := by
  rcases List.eq_nil_or_concat l with rfl | ⟨a, b, rfl⟩
  · cases h
  · refine ⟨a, ?_⟩
    simp at h
    simp [h]
end Go.Proofs.YthmeifdgkodjlaaGreatDoor

/- Parse of package scenario. Conditions: the library's variables are laid; the lengths. -/
namespace Go.Proofs.YthmeifdgkodjlaaGreatDoor
open Go.RowKit Go.Shelf
attribute [local go_sem] Oper.semAt_some

theorem drew_got {w : World} {k : Nat} {o : Obj} (h : w.heap[k]? = some o) : w.drew.heap[k]? = some o := h
theorem ko_drew {w w' : World} (h : KeepsOthers w w') : KeepsOthers w w'.drew := ⟨h.size, h.same⟩
theorem put_other {w : World} {D k : Nat} {o o' : Obj} (hne : k ≠ D) (h : w.heap[k]? = some o) : (w.putObj D o').heap[k]? = some o := by rw [World.putObj_heap_other hne]; exact h
theorem put_only {w W : World} {D : Nat} {o : Obj} (hw : Only [] w W) (hD : w.heap.size ≤ D) : Only [] w (W.putObj D o) :=
  hw.trans ((Only.refl [D] W).grown (grownBy_putObj' W D o) (fun k hk => .inl (by cases hk; simp))) (fun k hk => .inr (by rw [List.mem_singleton] at hk; omega))
theorem zero_ok (w : World) : ScW.Ok w ⟨[], [], [], 0, 0, none, 0, none, 0, none, 0⟩ := ⟨vrow_nil w, vrow_nil w, vrow_nil w, by simp, by simp, by simp, by simp, by simp⟩
theorem prsR_bad {w : World} {r : Sc × Nat × Int} {m : Nat} {e : Int} (h : r = (sc0, m, e)) : PrsR r (.returned (.tuple #[.agg #[.slice none 0 0, .slice none 0 0, .slice none 0 0, .int .i64 0, .int .u64 0], .int .i64 m, .int .i64 e])) w := by
  subst h
  exact ⟨_, rfl, zero_ok w, rfl⟩
set_option maxRecDepth 100000 in
set_option maxHeartbeats 1000000 in
theorem pParse (X : ByteArray) (L : List UInt8) (hL : X.data.toList = L) (hs : X.size ≤ 1000000) (hlp : ∀ p ∈ pcs 10 L, p.length ≤ 99999) (hN : (lnsO 1 (pcs 10 L)).length ≤ 99999) (w : World) (he : Env w) :
    Calls Tryz.prog 14 #[.string X] w fun e w' => PrsR (prsS L) e w' ∧ Only [] w w' := by
  have HE := Lib.hid he
  have HLP := Lib.hid hlp
  clear he
  refine (callsIn_wide (n := 5)).1 ?_
  refine callsIn_of_wp_marks Tryz.func14 rfl trivial ?_ rfl
  simp only [Tryz.ntmps14, List.size_toArray, List.length_cons, List.length_nil, Nat.reduceAdd, Nat.reduceSub, Array.replicate_succ, Array.replicate_zero, List.push_toArray, List.append_toArray, List.nil_append, List.cons_append]
  gi_wp2_with (refine ⟨trivial, ?_⟩; gi_at_call 37; fail)
  refine ⟨trivial, ?_⟩
  refine (lines_in _ X _).mono ?_
  rintro e w' ⟨rfl, rfl⟩
  gi_wp2
  refine wabs (G := fun W0 => Code.wpIn _ _ _ _ _ _ W0) (R := fun W0 => W0.heap[w.heap.size]? = some (.cells zSc 27 (0, 0)) ∧ W0.heap[w.heap.size + 1]? = some (.cells #[.int .i64 0] 3 (0, 0)) ∧ W0.heap[w.heap.size + 1 + 1]? = some (.cells #[.int .i64 0] 30 (0, 0)) ∧ W0.heap[w.heap.size + 1 + 1 + 1]? = some (.cells #[.slice none 0 0, .slice none 0 0, .slice none 0 0, .int .i64 0, .int .u64 0, .int .i64 0] 82 (0, 0)) ∧ W0.heap[w.heap.size + 1 + 1 + 1 + 1]? = some (.cells #[.int .i64 0] 3 (0, 0)) ∧ W0.heap[w.heap.size + 1 + 1 + 1 + 1 + 1]? = some (.cells #[.string X] 9 (0, 0)) ∧ Only [] w W0 ∧ W0.heap.size = w.heap.size + 1 + 1 + 1 + 1 + 1 + 1) ?_ ?_
  · have k0 := alloc_new w (.cells zSc 27)
    have k1 := alloc_new (w.alloc (.cells zSc 27)) (.cells #[.int .i64 0] 3)
    have k2 := alloc_new ((w.alloc (.cells zSc 27)).alloc (.cells #[.int .i64 0] 3)) (.cells #[.int .i64 0] 30)
    have k3 := alloc_new (((w.alloc (.cells zSc 27)).alloc (.cells #[.int .i64 0] 3)).alloc (.cells #[.int .i64 0] 30)) (.cells #[.slice none 0 0, .slice none 0 0, .slice none 0 0, .int .i64 0, .int .u64 0, .int .i64 0] 82)
    have k4 := alloc_new ((((w.alloc (.cells zSc 27)).alloc (.cells #[.int .i64 0] 3)).alloc (.cells #[.int .i64 0] 30)).alloc (.cells #[.slice none 0 0, .slice none 0 0, .slice none 0 0, .int .i64 0, .int .u64 0, .int .i64 0] 82)) (.cells #[.int .i64 0] 3)
    have k5 := alloc_new (((((w.alloc (.cells zSc 27)).alloc (.cells #[.int .i64 0] 3)).alloc (.cells #[.int .i64 0] 30)).alloc (.cells #[.slice none 0 0, .slice none 0 0, .slice none 0 0, .int .i64 0, .int .u64 0, .int .i64 0] 82)).alloc (.cells #[.int .i64 0] 3)) (.cells #[.string X] 9)
    simp only [World.size_alloc] at k0 k1 k2 k3 k4 k5
    exact ⟨(alloc_old (alloc_old (alloc_old (alloc_old (alloc_old k0))))), (alloc_old (alloc_old (alloc_old (alloc_old k1)))), (alloc_old (alloc_old (alloc_old k2))), (alloc_old (alloc_old k3)), (alloc_old k4), k5, (((((((Only.refl [] w).alloc _).alloc _).alloc _).alloc _).alloc _).alloc _), by simp only [World.size_alloc]⟩
  rintro W0 ⟨k0, k1, k2, k3, k4, k5, ho0, hsz⟩
  obtain ⟨n0, hn0⟩ : ∃ n0, n0 = W0.heap.size := ⟨_, rfl⟩
  have hbox : W0.cell? ⟨w.heap.size + 1 + 1 + 1 + 1 + 1, 0, none⟩ = some (.string X) := by rw [cell_got k5]; rfl
  have h00 : PI w W0.heap.size [] W0 := ⟨ss0, [], [], .slice none 0 0, .slice none 0 0, .slice none 0 0, rfl, ⟨k3, rfl, rfl, own_nil _ _, own_nil _ _, own_nil _ _, by simp, by simp, by simp, by simp, by simp⟩, k0, k1, k2, k4, ho0, Nat.le_refl _⟩
  refine wpIn_rangeFunc_ownG rfl (by omega) (gf := 65) (lb := #[.pointer (some ⟨w.heap.size + 1 + 1 + 1 + 1 + 1, 0, none⟩)]) rfl trivial (enters_of Tryz.func65 (by kernel_rfl) rfl)
    (lines_stops _ (w.heap.size + 1 + 1 + 1 + 1 + 1) X L hL hs hlp W0 (by omega) hbox) (fun _ _ => trivial) (fun _ _ _ _ _ _ _ _ => trivial) (Below.refl _ _) (fun _ => rfl)
    (PI w W0.heap.size) (PX w) (pi_from (by omega)) (px_from (by omega)) h00
    (fun x => { tmps := #[.string X, undef, .pointer (some ⟨w.heap.size, 0, none⟩), .pointer (some ⟨w.heap.size + 1, 0, none⟩), .pointer (some ⟨w.heap.size + 1 + 1, 0, none⟩), .pointer (some ⟨w.heap.size + 1 + 1 + 1, 0, none⟩), .pointer (some ⟨w.heap.size + 1 + 1 + 1 + 1, 0, none⟩), .int .i64 x.1.1, .string (bstr x.1.2), undef, undef, undef, .string X, .func (.func 65) #[] #[.pointer (some ⟨w.heap.size + 1 + 1 + 1 + 1 + 1, 0, none⟩)], .int .i64 x.1.1, .string (bstr x.1.2), undef, undef, undef, undef, undef, undef, undef, undef, undef, undef, undef, undef, undef, undef, undef, undef, undef, undef, undef, undef, undef, undef, undef, undef, undef, undef, undef, undef, undef, undef], defers := [] }) ?assign ?body ?done ?stop
  case assign =>
    intro l x W K hK
    gi_wp2
    exact hK
  case body =>
    have hn6 : n0 = w.heap.size + 1 + 1 + 1 + 1 + 1 + 1 := by omega
    rw [← hn0]
    have HLP2 := HLP
    clear hbox h00 k0 k1 k2 k3 k4 k5 ho0 hsz hn0 hlp hL hs HLP HLP2
    rintro l pre x W ⟨y, ns, ls, vn, vl, vf, h1, h2, h3, h4, h5, h6, h7, hnW⟩ hlt
    obtain ⟨⟨m, ln⟩, hm, hln⟩ := x
    simp only at hm hln
    have hpl : (vals pre).length ≤ 99999 := by unfold vals; rw [List.length_map]; omega
    have hslm := slm_run (vals pre) ss0 y 0 slm0 h1
    have hsl : SLe 100000 y := ⟨Nat.le_trans hslm.nd (by omega), Nat.le_trans hslm.lk (by omega), Nat.le_trans hslm.ft (by omega), fun z hz => ⟨Nat.le_trans (hslm.sg z hz).1 (by omega), Nat.le_trans (hslm.sg z hz).2 (by omega)⟩, fun z hz => Nat.le_trans (hslm.ch z hz) (by omega)⟩
    have hsn := rdI_snoc (vals pre) ss0 y m ln h1
    have HSN : Hid (rdI ss0 (vals (pre ++ [⟨(m, ln), hm, hln⟩])) = if ln.getLast? = some 10 then (match rdW y (pcs 32 ln.dropLast) with
      | none => .error m
      | some z => .ok z) else .error m) := Lib.hid (by rw [show vals (pre ++ [⟨(m, ln), hm, hln⟩]) = vals pre ++ [(m, ln)] by simp [vals]]; exact hsn)
    have HCN : Hid (cnt (vals (pre ++ [⟨(m, ln), hm, hln⟩])) = m) := Lib.hid (by unfold vals; rw [List.map_append]; exact cnt_snoc _ _)
    generalize pre ++ [⟨(m, ln), hm, hln⟩] = pre2 at HSN HCN
    have H2 := Lib.hid h2; have H3 := Lib.hid h3; have H4 := Lib.hid h4; have H5 := Lib.hid h5; have H6 := Lib.hid h6; have H7 := Lib.hid h7; have HSL := Lib.hid hsl; have HL6 := Lib.hid hslm.l6
    have HNW := Lib.hid hnW
    clear h1 h2 h3 h4 h5 h6 h7 hsl hslm hsn hlt hpl hnW
    by_cases hg : ln.getLast? = some 10
    · obtain ⟨a, rfl⟩ := last_split hg
      have hal : a.length ≤ 99999 := by simp at hln; omega
      have HSN2 : Hid (rdI ss0 (vals pre2) = (match rdW y (pcs 32 a) with
        | none => .error m
        | some z => .ok z)) := Lib.hid (by rw [HSN.out, if_pos hg, List.dropLast_concat])
      have hsf := suf_yes a
      have hcs : Calls Tryz.prog 38 #[.string (bstr (a ++ [10])), .string ⟨#[10]⟩] W fun e w' => e = .returned (.tuple #[.string (bstr a), .bool true]) ∧ W = w' :=
        (Tryz.strings_CutSuffix (bstr (a ++ [10])) ⟨#[10]⟩ W (by rw [bstr_size]; simp; omega)).mono fun e w' ⟨h1, h2⟩ => ⟨by rw [h1, bstr_data, show ((⟨#[10]⟩ : ByteArray).data.toList) = [10] from rfl, hsf.1, hsf.2]; rfl, h2.symm⟩
      have HCS := Lib.hid hcs
      have hon : Only [] w W := H7.out
      have HON := Lib.hid hon
      have hpa : (pcs 32 a).length ≤ 100000 := by have := pcs_length_le 32 a; omega
      have HPM : Hid (∀ q ∈ pcs 32 a, q.length ≤ 1000000) := Lib.hid (fun q hq => by have := mem_pcs_len hq; omega)
      have HSP := Lib.hid (split_any 32 (bstr a) W (by rw [bstr_size]; omega) (HE.out.kept hon))
      clear hsf hcs hon HSN hg
      gi_wp2_with (refine ⟨trivial, ?_⟩; gi_at_call 38; fail)
      refine ⟨trivial, ?_⟩
      refine (CallsIn.inRound l (callsIn_wide.2 (HCS.out))).mono ?_
      rintro e w' ⟨rfl, rfl⟩
      gi_wp2_with (refine ⟨trivial, ?_⟩; gi_at_call 40; fail)
      refine ⟨trivial, ?_⟩
      refine (CallsIn.inRound l (callsIn_wide.2 (HSP.out))).mono ?_
      rintro e W2 ⟨rfl, hrow, ho2⟩
      rw [bstr_data] at hrow ⊢
      have hvr := hrow.vrow strC_len rfl
      have HRX : Hid (RdX ⟨cutW W n0, W⟩ (w.heap.size + 1 + 1 + 1) W2 y) := Lib.hid ⟨by show _ < (cutW W n0).heap.size; rw [cutW_size HNW.out]; omega, ⟨((cutW_only HNW.out).nil_trans ho2).mono (by simp), ko_nil ho2⟩, ns, ls, vn, vl, vf, by show RdW (cutW W n0).heap.size _ _ _ _ _ _ _ _; rw [cutW_size HNW.out]; exact H2.out.kept ho2⟩
      have HVR := Lib.hid hvr
      have HE2 := Lib.hid (HE.out.kept (HON.out.nil_trans ho2))
      have HRD : Hid (Calls Tryz.prog 39 #[.pointer (some ⟨w.heap.size + 1 + 1 + 1, 0, none⟩), .slice (some ⟨W.heap.size, 0, none⟩) (pcs 32 a).length (pcs 32 a).length] W2 fun e w' => RdR ⟨cutW W n0, W⟩ (w.heap.size + 1 + 1 + 1) (rdW y (pcs 32 a)) e w') := Lib.hid (by
        obtain ⟨wd, r, hwr⟩ : ∃ wd r, pcs 32 a = wd :: r := by
          cases hq : pcs 32 a with
          | nil => exact absurd hq (pcs_ne 32 a)
          | cons wd r => exact ⟨wd, r, rfl⟩
        have hv := HVR.out; have hm := HPM.out
        rw [hwr] at hv hm hpa ⊢
        exact kRead HRX.out HSL.out HL6.out hv hpa hm HE2.out)
      clear hrow ho2 hvr HRX HVR HPM HSP HCS
      generalize (pcs 32 a).length = np at HRD hpa ⊢
      obtain ⟨res, hres⟩ : ∃ res, res = rdW y (pcs 32 a) := ⟨_, rfl⟩
      rw [← hres] at HRD HSN2
      clear hres
      gi_wp2_with (refine ⟨trivial, ?_⟩; gi_at_call 39; fail)
      refine ⟨trivial, ?_⟩
      refine (CallsIn.inRound l (callsIn_wide.2 (HRD.out))).mono ?_
      rintro e W3 hr
      cases res with
      | none =>
        obtain ⟨rfl, hob⟩ := hr
        have HX : Hid (rdI ss0 (vals pre2) = .error m) := HSN2
        obtain ⟨hk, hko⟩ := hob.back HNW.out
        have ON := Lib.hid (Ob.only_back HON.out (by omega) HNW.out (by omega) hob)
        have KO := Lib.hid hko
        have G0 := Lib.hid (hk _ _ _ (by omega) (by omega) H3.out); have G1 := Lib.hid (hk _ _ _ (by omega) (by omega) H4.out); have G2 := Lib.hid (hk _ _ _ (by omega) (by omega) H5.out)
        clear hk hko hob HRD HSN2
        have c0 := cell_got G0.out 0; have c1 := cell_got G0.out 1; have c2 := cell_got G0.out 2; have c3 := cell_got G0.out 3; have c4 := cell_got G0.out 4; have c5 := cell_got G1.out 0; have c6 := cell_got G2.out 0
        have f0 := frozen_got G0.out 0; have f1 := frozen_got G0.out 1; have f2 := frozen_got G0.out 2; have f3 := frozen_got G0.out 3; have f4 := frozen_got G0.out 4; have f5 := frozen_got G1.out 0; have f6 := frozen_got G2.out 0
        have l0 := got_lt G0.out; have l1 := got_lt G1.out; have l2 := got_lt G2.out
        unfold zSc at c0 c1 c2 c3 c4
        gi_wp2
        exact ⟨(KeepsOthers.trans KO.out (KeepsOthers.trans (KeepsOthers.trans (KeepsOthers.trans (KeepsOthers.trans (KeepsOthers.trans (KeepsOthers.trans (KeepsOthers.setCell _ _ _) (KeepsOthers.setCell _ _ _)) (KeepsOthers.setCell _ _ _)) (KeepsOthers.setCell _ _ _)) (KeepsOthers.setCell _ _ _)) (KeepsOthers.setCell _ _ _)) (KeepsOthers.setCell _ _ _))).from _, m, rfl, HX.out, (set_other (by first | (simp; done) | (simp; omega)) (set_other (by first | (simp; done) | (simp; omega)) (setCell_got _ (setCell_got _ (setCell_got _ (setCell_got _ (setCell_got _ G0.out))))))), (set_other (by first | (simp; done) | (simp; omega)) (setCell_got _ (set_other (by first | (simp; done) | (simp; omega)) (set_other (by first | (simp; done) | (simp; omega)) (set_other (by first | (simp; done) | (simp; omega)) (set_other (by first | (simp; done) | (simp; omega)) (set_other (by first | (simp; done) | (simp; omega)) G1.out))))))), (setCell_got _ (set_other (by first | (simp; done) | (simp; omega)) (set_other (by first | (simp; done) | (simp; omega)) (set_other (by first | (simp; done) | (simp; omega)) (set_other (by first | (simp; done) | (simp; omega)) (set_other (by first | (simp; done) | (simp; omega)) (set_other (by first | (simp; done) | (simp; omega)) G2.out))))))), (((((((ON.out.setCell (.inr (Nat.le_refl _)) _).setCell (.inr (Nat.le_refl _)) _).setCell (.inr (Nat.le_refl _)) _).setCell (.inr (Nat.le_refl _)) _).setCell (.inr (Nat.le_refl _)) _).setCell (.inr (by first | (simp; done) | (simp; omega))) _).setCell (.inr (by first | (simp; done) | (simp; omega))) _)⟩
      | some z =>
        obtain ⟨rfl, hb0, hob, ns2, ls2, vn2, vl2, vf2, hrw⟩ := hr
        have HX : Hid (rdI ss0 (vals pre2) = .ok z) := HSN2
        obtain ⟨hk, hko⟩ := hob.back HNW.out
        have ON := Lib.hid (Ob.only_back HON.out (by omega) HNW.out (by omega) hob)
        have KO := Lib.hid hko
        have G0 := Lib.hid (hk _ _ _ (by omega) (by omega) H3.out); have G1 := Lib.hid (hk _ _ _ (by omega) (by omega) H4.out); have G2 := Lib.hid (hk _ _ _ (by omega) (by omega) H5.out); have G4 := Lib.hid (hk _ _ _ (by omega) (by omega) H6.out)
        have hrw2 : RdW n0 (w.heap.size + 1 + 1 + 1) W3 z ns2 ls2 vn2 vl2 vf2 := by
          have h : RdW (cutW W n0).heap.size _ _ _ _ _ _ _ _ := hrw
          rw [cutW_size HNW.out] at h; exact h
        have HRW := Lib.hid hrw2
        have HSZ : Hid (n0 ≤ W3.heap.size) := Lib.hid (Nat.le_trans HNW.out hko.size)
        clear hk hko hob hb0 hrw hrw2 HRD HSN2
        have c0 := cell_got G4.out 0; have f0 := frozen_got G4.out 0; have l0 := got_lt G4.out
        gi_wp2
        refine ⟨(KeepsOthers.trans KO.out (KeepsOthers.setCell _ _ _)).from _, trivial, z, ns2, ls2, vn2, vl2, vf2, HX.out, HRW.out.keptLow ((Only.refl [w.heap.size + 1 + 1 + 1 + 1] W3).setCell (.inl (by simp)) _) (by simp) (by first | (simp; done) | (simp; omega)), set_other (by first | (simp; done) | (simp; omega)) G0.out, set_other (by first | (simp; done) | (simp; omega)) G1.out, set_other (by first | (simp; done) | (simp; omega)) G2.out, ?_, ON.out.setCell (.inr (by first | (simp; done) | (simp; omega))) _, by rw [size_setCell]; exact HSZ.out⟩
        rw [HCN.out]
        exact setCell_got _ G4.out
    · have HX : Hid (rdI ss0 (vals pre2) = .error m) := Lib.hid (by rw [HSN.out, if_neg hg])
      obtain ⟨tr, hcs⟩ : ∃ tr, Calls Tryz.prog 38 #[.string (bstr ln), .string ⟨#[10]⟩] W fun e w' => e = .returned (.tuple #[.string tr, .bool false]) ∧ W = w' :=
        ⟨_, (Tryz.strings_CutSuffix (bstr ln) ⟨#[10]⟩ W (by rw [bstr_size]; omega)).mono fun e w' ⟨h1, h2⟩ => ⟨by rw [h1, bstr_data, show ((⟨#[10]⟩ : ByteArray).data.toList) = [10] from rfl, suf_no hg], h2.symm⟩⟩
      have HCS := Lib.hid hcs
      have G0 := H3; have G1 := H4; have G2 := H5; have ON := H7
      have KO := Lib.hid (KeepsOthers.refl W)
      clear hcs HSN hg
      gi_wp2_with (refine ⟨trivial, ?_⟩; gi_at_call 38; fail)
      refine ⟨trivial, ?_⟩
      refine (CallsIn.inRound l (callsIn_wide.2 (HCS.out))).mono ?_
      rintro e w' ⟨rfl, rfl⟩
      have c0 := cell_got G0.out 0; have c1 := cell_got G0.out 1; have c2 := cell_got G0.out 2; have c3 := cell_got G0.out 3; have c4 := cell_got G0.out 4; have c5 := cell_got G1.out 0; have c6 := cell_got G2.out 0
      have f0 := frozen_got G0.out 0; have f1 := frozen_got G0.out 1; have f2 := frozen_got G0.out 2; have f3 := frozen_got G0.out 3; have f4 := frozen_got G0.out 4; have f5 := frozen_got G1.out 0; have f6 := frozen_got G2.out 0
      have l0 := got_lt G0.out; have l1 := got_lt G1.out; have l2 := got_lt G2.out
      unfold zSc at c0 c1 c2 c3 c4
      gi_wp2
      refine ⟨trivial, ?_⟩
      gi_wp2
      refine ⟨trivial, ?_⟩
      gi_wp2
      exact ⟨(KeepsOthers.trans KO.out (KeepsOthers.trans (KeepsOthers.trans (KeepsOthers.trans (KeepsOthers.trans (KeepsOthers.trans (KeepsOthers.trans (KeepsOthers.setCell _ _ _) (KeepsOthers.setCell _ _ _)) (KeepsOthers.setCell _ _ _)) (KeepsOthers.setCell _ _ _)) (KeepsOthers.setCell _ _ _)) (KeepsOthers.setCell _ _ _)) (KeepsOthers.setCell _ _ _))).from _, m, rfl, HX.out, (set_other (by first | (simp; done) | (simp; omega)) (set_other (by first | (simp; done) | (simp; omega)) (setCell_got _ (setCell_got _ (setCell_got _ (setCell_got _ (setCell_got _ G0.out))))))), (set_other (by first | (simp; done) | (simp; omega)) (setCell_got _ (set_other (by first | (simp; done) | (simp; omega)) (set_other (by first | (simp; done) | (simp; omega)) (set_other (by first | (simp; done) | (simp; omega)) (set_other (by first | (simp; done) | (simp; omega)) (set_other (by first | (simp; done) | (simp; omega)) G1.out))))))), (setCell_got _ (set_other (by first | (simp; done) | (simp; omega)) (set_other (by first | (simp; done) | (simp; omega)) (set_other (by first | (simp; done) | (simp; omega)) (set_other (by first | (simp; done) | (simp; omega)) (set_other (by first | (simp; done) | (simp; omega)) (set_other (by first | (simp; done) | (simp; omega)) G2.out))))))), (((((((ON.out.setCell (.inr (Nat.le_refl _)) _).setCell (.inr (Nat.le_refl _)) _).setCell (.inr (Nat.le_refl _)) _).setCell (.inr (Nat.le_refl _)) _).setCell (.inr (Nat.le_refl _)) _).setCell (.inr (by first | (simp; done) | (simp; omega))) _).setCell (.inr (by first | (simp; done) | (simp; omega))) _)⟩
  case done =>
    rintro D ys W hD hS ⟨x, ns, ls, vn, vl, vf, h1, h2, h3, h4, h5, h6, h7, h8⟩ hK
    have hS' : vals ys = lnsO 1 (pcs 10 L) := hS
    have hpl : (vals ys).length ≤ 99999 := by rw [hS']; exact hN
    have hslm := slm_run (vals ys) ss0 x 0 slm0 h1
    have hsl : SLe 100000 x := ⟨Nat.le_trans hslm.nd (by omega), Nat.le_trans hslm.lk (by omega), Nat.le_trans hslm.ft (by omega), fun z hz => ⟨Nat.le_trans (hslm.sg z hz).1 (by omega), Nat.le_trans (hslm.sg z hz).2 (by omega)⟩, fun z hz => Nat.le_trans (hslm.ch z hz) (by omega)⟩
    have hcn : cnt (vals ys) = (lnsO 1 (pcs 10 L)).length := by rw [hS']; exact cnt_lns _
    have hcl : cnt (vals ys) ≤ 99999 := by rw [hcn]; exact hN
    have HP : Hid (prsS L = endS (.ok x) (cnt (vals ys))) := Lib.hid (by rw [prsS_lns, hcn, ← hS', h1])
    obtain ⟨sW, hs1, hs2, hs3⟩ := h2.scene hsl
    have HS1 := Lib.hid hs1; have HS2 := Lib.hid hs2; have HS3 := Lib.hid hs3
    generalize cnt (vals ys) = cn at h6 HP hcl
    have hD6 : w.heap.size + 1 + 1 + 1 + 1 + 1 + 1 ≤ D := by omega
    have HW := Lib.hid (kWhole h2.box)
    have H2 := Lib.hid h2; have H3 := Lib.hid h3; have H4 := Lib.hid h4; have H5 := Lib.hid h5; have H6 := Lib.hid h6; have H7 := Lib.hid h7; have HK := Lib.hid hK
    rw [hsz] at h2
    have hn6 : n0 = w.heap.size + 1 + 1 + 1 + 1 + 1 + 1 := by omega
    rw [← hn0] at H2 hD
    clear h1 h2 h3 h4 h5 h6 h7 h8 hS hS' hpl hslm hsl hcn hs1 hs2 hs3 hbox h00 k0 k1 k2 k3 k4 k5 ho0 hK hn0 hsz hN
    gi_wp2_with (refine ⟨trivial, ?_⟩; gi_at_call 41; fail)
    refine ⟨trivial, ?_⟩
    refine (callsIn_wide.2 HW.out).mono ?_
    rintro e W1 ⟨rfl, ho1⟩
    have R1 := Lib.hid (H2.out.kept ho1); have G0 := Lib.hid (ho1.got H3.out (by simp)); have G1 := Lib.hid (ho1.got H4.out (by simp)); have G2 := Lib.hid (ho1.got H5.out (by simp)); have G4 := Lib.hid (ho1.got H6.out (by simp)); have ON := Lib.hid (H7.out.nil_trans ho1); have KD := Lib.hid (ho1.got HK.out (by simp))
    clear ho1 H2 H3 H4 H5 H6 H7 HK HW
    cases hwh : whole x.at_ with
    | false =>
      have HQ : Hid (prsS L = (sc0, cn + 1, 19)) := Lib.hid (by rw [HP.out]; simp [endS, hwh])
      clear hwh
      gi_wp2_with fail
      refine wpIn_wide.2 ?_
      have c8 := cell_got G4.out 0; have l8 := got_lt G4.out
      have hcw : IntKind.i64.wrap ((cn : Int) + 1) = (cn : Int) + 1 := by rw [IntKind.wrap_i64]; omega
      have hne : ¬ (w.heap.size + 1 + 1 + 1 + 1 = w.heap.size) := by omega
      refine wp_region_calm2 [0, 1, 2] [4, 5] (OnlyC [w.heap.size] W1) (by kernel_rfl) (by kernel_rfl) ?_
      simp only [pick, List.map_cons, List.map_nil, List.getD_cons_succ, List.getD_cons_zero]
      iterate 3 (refine wpCalm_step (fun K hK => ?_); go_simp; refine hK _ ?_; clear hK K)
      refine wpCalm_nil ?_
      clear c8 l8
      refine Rest.by (X := Unit) (fun _ a => a) (fun _ w' => w'.heap[w.heap.size]? = some (.cells zSc 27 (0, 0)) ∧ w'.heap[w.heap.size + 1]? = some (.cells #[.int .i64 ((cn : Int) + 1)] 3 (0, 0)) ∧ w'.heap[w.heap.size + 1 + 1]? = some (.cells #[.int .i64 19] 30 (0, 0)) ∧ Only [] w w' ∧ KeepsOthers W1 w') ?_ ?_
      · rintro _ w9 ⟨g0, g1, g2, o9, k9⟩
        gi_wp2
        refine ⟨by simp, .inl ⟨_, _, rfl, run_takeDeferred (k9.same D _ KD.out rfl), ?_⟩⟩
        have p0 := put_other (D := D) (k := w.heap.size) (o' := .deferred none) (by omega) g0; have p1 := put_other (D := D) (k := w.heap.size + 1) (o' := .deferred none) (by omega) g1; have p2 := put_other (D := D) (k := w.heap.size + 1 + 1) (o' := .deferred none) (by omega) g2
        have c0 := cell_got p0 0; have c1 := cell_got p0 1; have c2 := cell_got p0 2; have c3 := cell_got p0 3; have c4 := cell_got p0 4; have c5 := cell_got p1 0; have c6 := cell_got p2 0
        unfold zSc at c0 c1 c2 c3 c4
        refine ⟨.tuple #[.agg #[.slice none 0 0, .slice none 0 0, .slice none 0 0, .int .i64 0, .int .u64 0], .int .i64 ((cn : Int) + 1), .int .i64 19], by simp [results, Tryz.results14, go_sem, c0, c1, c2, c3, c4, c5, c6], ?_, put_only o9 (by omega)⟩
        exact prsR_bad (m := cn + 1) HQ.out
      · refine wpAnyC_next [3] (by kernel_rfl) (by simp) (.inr (onlyC (Only.refl [w.heap.size] W1).drew)) ?_
        simp only [List.mem_cons, List.not_mem_nil, or_false, forall_eq]
        refine wpOp_one rfl ?_
        have c0 := cell_got G0.out 0; have c1 := cell_got G0.out 1; have c2 := cell_got G0.out 2; have c3 := cell_got G0.out 3; have c4 := cell_got G0.out 4; have c5 := cell_got G1.out 0; have c6 := cell_got G2.out 0
        have f0 := frozen_got G0.out 0; have f1 := frozen_got G0.out 1; have f2 := frozen_got G0.out 2; have f3 := frozen_got G0.out 3; have f4 := frozen_got G0.out 4; have f5 := frozen_got G1.out 0; have f6 := frozen_got G2.out 0
        have l0 := got_lt G0.out; have l1 := got_lt G1.out; have l2 := got_lt G2.out
        unfold zSc at c0 c1 c2 c3 c4
        go_wp2
        simp only [nrm]
        refine wpAnyC_next [4] (by kernel_rfl) (by simp) (.inr (onlyC ((((((Only.refl [w.heap.size] W1).setCell (.inl (by simp)) _).setCell (.inl (by simp)) _).setCell (.inl (by simp)) _).setCell (.inl (by simp)) _).setCell (.inl (by simp)) _).drew)) ?_
        simp only [List.mem_cons, List.not_mem_nil, or_false, forall_eq]
        refine wpOp_one rfl ?_
        go_wp2
        simp only [nrm]
        refine wpAnyC_next [5] (by kernel_rfl) (by simp) (.inl (late_of (by kernel_rfl))) ?_
        simp only [List.mem_cons, List.not_mem_nil, or_false, forall_eq]
        refine wpOp_one rfl ?_
        go_wp2
        simp only [nrm]
        refine wpAnyC_done (by kernel_rfl) (.inl (late_of (by kernel_rfl))) ⟨(), rfl, drew_got ?_, drew_got ?_, drew_got ?_, Only.drew ?_, ko_drew ?_⟩
        · exact (set_other (by first | (simp; done) | (simp; omega)) (set_other (by first | (simp; done) | (simp; omega)) (setCell_got _ (setCell_got _ (setCell_got _ (setCell_got _ (setCell_got _ G0.out)))))))
        · exact (set_other (by first | (simp; done) | (simp; omega)) (setCell_got _ (set_other (by first | (simp; done) | (simp; omega)) (set_other (by first | (simp; done) | (simp; omega)) (set_other (by first | (simp; done) | (simp; omega)) (set_other (by first | (simp; done) | (simp; omega)) (set_other (by first | (simp; done) | (simp; omega)) G1.out)))))))
        · exact (setCell_got _ (set_other (by first | (simp; done) | (simp; omega)) (set_other (by first | (simp; done) | (simp; omega)) (set_other (by first | (simp; done) | (simp; omega)) (set_other (by first | (simp; done) | (simp; omega)) (set_other (by first | (simp; done) | (simp; omega)) (set_other (by first | (simp; done) | (simp; omega)) G2.out)))))))
        · exact (((((((ON.out.setCell (.inr (Nat.le_refl _)) _).setCell (.inr (Nat.le_refl _)) _).setCell (.inr (Nat.le_refl _)) _).setCell (.inr (Nat.le_refl _)) _).setCell (.inr (Nat.le_refl _)) _).setCell (.inr (by first | (simp; done) | (simp; omega))) _).setCell (.inr (by first | (simp; done) | (simp; omega))) _)
        · exact (KeepsOthers.trans (KeepsOthers.trans (KeepsOthers.trans (KeepsOthers.trans (KeepsOthers.trans (KeepsOthers.trans (KeepsOthers.setCell _ _ _) (KeepsOthers.setCell _ _ _)) (KeepsOthers.setCell _ _ _)) (KeepsOthers.setCell _ _ _)) (KeepsOthers.setCell _ _ _)) (KeepsOthers.setCell _ _ _)) (KeepsOthers.setCell _ _ _))
    | true =>
      have HQ : Hid (prsS L = if chkS x.sc = 0 then (x.sc, 0, 0) else (sc0, 0, chkS x.sc)) := Lib.hid (by rw [HP.out]; simp [endS, hwh])
      have hck := pCheck sW (HS3.out _ _ _ R1.out)
      rw [HS1.out, HS2.out] at hck
      have HCK := Lib.hid hck
      have b0 := cell_got R1.out.box 0; have b1 := cell_got R1.out.box 1; have b2 := cell_got R1.out.box 2; have b3 := cell_got R1.out.box 3; have b4 := cell_got R1.out.box 4; have lb := got_lt R1.out.box
      clear hck hwh
      gi_wp2_with (refine ⟨trivial, ?_⟩; gi_at_call 10; fail)
      refine ⟨trivial, ?_⟩
      refine (callsIn_wide.2 HCK.out).mono ?_
      rintro e W2 ⟨rfl, ho2⟩
      clear b0 b1 b2 b3 b4 lb
      have R2 := Lib.hid (R1.out.kept ho2); have g0 := ho2.got G0.out (by simp); have g1 := ho2.got G1.out (by simp); have g2 := ho2.got G2.out (by simp); have ON2 := Lib.hid (ON.out.nil_trans ho2); have KD2 := Lib.hid (ho2.got KD.out (by simp))
      clear G0 G1 G2 G4
      have G0 := Lib.hid g0; have G1 := Lib.hid g1; have G2 := Lib.hid g2
      clear g0 g1 g2 ho2 R1 KD HCK ON
      have KD := KD2
      have c0 := cell_got G0.out 0; have c1 := cell_got G0.out 1; have c2 := cell_got G0.out 2; have c3 := cell_got G0.out 3; have c4 := cell_got G0.out 4; have c5 := cell_got G1.out 0; have c6 := cell_got G2.out 0
      have f0 := frozen_got G0.out 0; have f1 := frozen_got G0.out 1; have f2 := frozen_got G0.out 2; have f3 := frozen_got G0.out 3; have f4 := frozen_got G0.out 4; have f5 := frozen_got G1.out 0; have f6 := frozen_got G2.out 0
      have l0 := got_lt G0.out; have l1 := got_lt G1.out; have l2 := got_lt G2.out
      unfold zSc at c0 c1 c2 c3 c4
      by_cases hck : chkS x.sc = 0
      · have HQ2 : Hid (prsS L = (x.sc, 0, 0)) := Lib.hid (by rw [HQ.out, if_pos hck])
        rw [hck]
        obtain ⟨pn, cn2, hv1, _⟩ := R2.out.nd.vrow ndC_len; obtain ⟨pl, cl, hv2, _⟩ := R2.out.lk.vrow lkC_len; obtain ⟨pf, cf, hv3, _⟩ := R2.out.ft.vrow ftC_len
        subst hv1 hv2 hv3
        have b0 := cell_got R2.out.box 0; have b1 := cell_got R2.out.box 1; have b2 := cell_got R2.out.box 2; have b3 := cell_got R2.out.box 3; have b4 := cell_got R2.out.box 4; have lb := got_lt R2.out.box
        clear hck HQ HP
        gi_wp2
        have g0 : (((((((W2.setCell ⟨w.heap.size, 0, none⟩ (.slice pn ns.length cn2)).setCell ⟨w.heap.size, 1, none⟩ (.slice pl ls.length cl)).setCell ⟨w.heap.size, 2, none⟩ (.slice pf x.sc.ft.length cf)).setCell ⟨w.heap.size, 3, none⟩ (.int .i64 x.sc.un)).setCell ⟨w.heap.size, 4, none⟩ (.int .u64 x.sc.sd)).setCell ⟨w.heap.size + 1, 0, none⟩ (.int .i64 0)).setCell ⟨w.heap.size + 1 + 1, 0, none⟩ (.int .i64 0)).heap[w.heap.size]? = some (.cells #[.slice pn ns.length cn2, .slice pl ls.length cl, .slice pf x.sc.ft.length cf, .int .i64 x.sc.un, .int .u64 x.sc.sd] 27 (0, 0)) := (set_other (by first | (simp; done) | (simp; omega)) (set_other (by first | (simp; done) | (simp; omega)) (setCell_got _ (setCell_got _ (setCell_got _ (setCell_got _ (setCell_got _ G0.out)))))))
        have g1 : (((((((W2.setCell ⟨w.heap.size, 0, none⟩ (.slice pn ns.length cn2)).setCell ⟨w.heap.size, 1, none⟩ (.slice pl ls.length cl)).setCell ⟨w.heap.size, 2, none⟩ (.slice pf x.sc.ft.length cf)).setCell ⟨w.heap.size, 3, none⟩ (.int .i64 x.sc.un)).setCell ⟨w.heap.size, 4, none⟩ (.int .u64 x.sc.sd)).setCell ⟨w.heap.size + 1, 0, none⟩ (.int .i64 0)).setCell ⟨w.heap.size + 1 + 1, 0, none⟩ (.int .i64 0)).heap[w.heap.size + 1]? = some (.cells #[.int .i64 0] 3 (0, 0)) := (set_other (by first | (simp; done) | (simp; omega)) (setCell_got _ (set_other (by first | (simp; done) | (simp; omega)) (set_other (by first | (simp; done) | (simp; omega)) (set_other (by first | (simp; done) | (simp; omega)) (set_other (by first | (simp; done) | (simp; omega)) (set_other (by first | (simp; done) | (simp; omega)) G1.out)))))))
        have g2 : (((((((W2.setCell ⟨w.heap.size, 0, none⟩ (.slice pn ns.length cn2)).setCell ⟨w.heap.size, 1, none⟩ (.slice pl ls.length cl)).setCell ⟨w.heap.size, 2, none⟩ (.slice pf x.sc.ft.length cf)).setCell ⟨w.heap.size, 3, none⟩ (.int .i64 x.sc.un)).setCell ⟨w.heap.size, 4, none⟩ (.int .u64 x.sc.sd)).setCell ⟨w.heap.size + 1, 0, none⟩ (.int .i64 0)).setCell ⟨w.heap.size + 1 + 1, 0, none⟩ (.int .i64 0)).heap[w.heap.size + 1 + 1]? = some (.cells #[.int .i64 0] 30 (0, 0)) := (setCell_got _ (set_other (by first | (simp; done) | (simp; omega)) (set_other (by first | (simp; done) | (simp; omega)) (set_other (by first | (simp; done) | (simp; omega)) (set_other (by first | (simp; done) | (simp; omega)) (set_other (by first | (simp; done) | (simp; omega)) (set_other (by first | (simp; done) | (simp; omega)) G2.out)))))))
        have o9 : Only [] w (((((((W2.setCell ⟨w.heap.size, 0, none⟩ (.slice pn ns.length cn2)).setCell ⟨w.heap.size, 1, none⟩ (.slice pl ls.length cl)).setCell ⟨w.heap.size, 2, none⟩ (.slice pf x.sc.ft.length cf)).setCell ⟨w.heap.size, 3, none⟩ (.int .i64 x.sc.un)).setCell ⟨w.heap.size, 4, none⟩ (.int .u64 x.sc.sd)).setCell ⟨w.heap.size + 1, 0, none⟩ (.int .i64 0)).setCell ⟨w.heap.size + 1 + 1, 0, none⟩ (.int .i64 0)) := (((((((ON2.out.setCell (.inr (Nat.le_refl _)) _).setCell (.inr (Nat.le_refl _)) _).setCell (.inr (Nat.le_refl _)) _).setCell (.inr (Nat.le_refl _)) _).setCell (.inr (Nat.le_refl _)) _).setCell (.inr (by first | (simp; done) | (simp; omega))) _).setCell (.inr (by first | (simp; done) | (simp; omega))) _)
        have k9 : KeepsOthers W2 (((((((W2.setCell ⟨w.heap.size, 0, none⟩ (.slice pn ns.length cn2)).setCell ⟨w.heap.size, 1, none⟩ (.slice pl ls.length cl)).setCell ⟨w.heap.size, 2, none⟩ (.slice pf x.sc.ft.length cf)).setCell ⟨w.heap.size, 3, none⟩ (.int .i64 x.sc.un)).setCell ⟨w.heap.size, 4, none⟩ (.int .u64 x.sc.sd)).setCell ⟨w.heap.size + 1, 0, none⟩ (.int .i64 0)).setCell ⟨w.heap.size + 1 + 1, 0, none⟩ (.int .i64 0)) := (KeepsOthers.trans (KeepsOthers.trans (KeepsOthers.trans (KeepsOthers.trans (KeepsOthers.trans (KeepsOthers.trans (KeepsOthers.setCell _ _ _) (KeepsOthers.setCell _ _ _)) (KeepsOthers.setCell _ _ _)) (KeepsOthers.setCell _ _ _)) (KeepsOthers.setCell _ _ _)) (KeepsOthers.setCell _ _ _)) (KeepsOthers.setCell _ _ _))
        have HR9 := Lib.hid (R2.out.keptLow (w' := (((((((W2.setCell ⟨w.heap.size, 0, none⟩ (.slice pn ns.length cn2)).setCell ⟨w.heap.size, 1, none⟩ (.slice pl ls.length cl)).setCell ⟨w.heap.size, 2, none⟩ (.slice pf x.sc.ft.length cf)).setCell ⟨w.heap.size, 3, none⟩ (.int .i64 x.sc.un)).setCell ⟨w.heap.size, 4, none⟩ (.int .u64 x.sc.sd)).setCell ⟨w.heap.size + 1, 0, none⟩ (.int .i64 0)).setCell ⟨w.heap.size + 1 + 1, 0, none⟩ (.int .i64 0))) ((((((((Only.refl [w.heap.size, w.heap.size + 1, w.heap.size + 1 + 1] W2).setCell (.inl (by simp)) _).setCell (.inl (by simp)) _).setCell (.inl (by simp)) _).setCell (.inl (by simp)) _).setCell (.inl (by simp)) _).setCell (.inl (by simp)) _).setCell (.inl (by simp)) _) (by first | (simp; done) | (simp; omega)) (by simp only [List.mem_cons, List.not_mem_nil, or_false, forall_eq_or_imp, forall_eq]; omega))
        clear c0 c1 c2 c3 c4 c5 c6 f0 f1 f2 f3 f4 f5 f6
        refine ⟨by simp, .inl ⟨_, _, rfl, run_takeDeferred (k9.same D _ KD.out rfl), ?_⟩⟩
        have p0 := put_other (D := D) (k := w.heap.size) (o' := .deferred none) (by omega) g0; have p1 := put_other (D := D) (k := w.heap.size + 1) (o' := .deferred none) (by omega) g1; have p2 := put_other (D := D) (k := w.heap.size + 1 + 1) (o' := .deferred none) (by omega) g2
        have c0 := cell_got p0 0; have c1 := cell_got p0 1; have c2 := cell_got p0 2; have c3 := cell_got p0 3; have c4 := cell_got p0 4; have c5 := cell_got p1 0; have c6 := cell_got p2 0
        refine ⟨.tuple #[.agg #[.slice pn ns.length cn2, .slice pl ls.length cl, .slice pf x.sc.ft.length cf, .int .i64 x.sc.un, .int .u64 x.sc.sd], .int .i64 0, .int .i64 0], by simp [results, Tryz.results14, go_sem, c0, c1, c2, c3, c4, c5, c6], ?_, put_only o9 (by omega)⟩
        refine ⟨sW, ?_, HS3.out _ _ _ (HR9.out.keptN ((Only.refl [D] _).grown (grownBy_putObj' _ D _) (fun k hk => .inl (by cases hk; simp))) (by simp only [List.mem_singleton, forall_eq]; exact ⟨_, k9.same D _ KD.out rfl, rfl⟩)), ?_⟩
        · rw [HS1.out, HQ2.out]
        · rw [HS2.out, HQ2.out]; rfl
      · obtain ⟨E, hE⟩ : ∃ E, E = chkS x.sc := ⟨_, rfl⟩
        rw [← hE] at hck HQ ⊢
        have HQ2 : Hid (prsS L = (sc0, 0, E)) := Lib.hid (by rw [HQ.out, if_neg hck])
        have z0 : (E == 0) = false := by simp [hck]
        have z0n : (E != 0) = true := by simp [hck]
        clear hck HQ HP hE
        gi_wp2
        have g0 : (((((((W2.setCell ⟨w.heap.size, 0, none⟩ (.slice none 0 0)).setCell ⟨w.heap.size, 1, none⟩ (.slice none 0 0)).setCell ⟨w.heap.size, 2, none⟩ (.slice none 0 0)).setCell ⟨w.heap.size, 3, none⟩ (.int .i64 0)).setCell ⟨w.heap.size, 4, none⟩ (.int .u64 0)).setCell ⟨w.heap.size + 1, 0, none⟩ (.int .i64 0)).setCell ⟨w.heap.size + 1 + 1, 0, none⟩ (.int .i64 E)).heap[w.heap.size]? = some (.cells zSc 27 (0, 0)) := (set_other (by first | (simp; done) | (simp; omega)) (set_other (by first | (simp; done) | (simp; omega)) (setCell_got _ (setCell_got _ (setCell_got _ (setCell_got _ (setCell_got _ G0.out)))))))
        have g1 : (((((((W2.setCell ⟨w.heap.size, 0, none⟩ (.slice none 0 0)).setCell ⟨w.heap.size, 1, none⟩ (.slice none 0 0)).setCell ⟨w.heap.size, 2, none⟩ (.slice none 0 0)).setCell ⟨w.heap.size, 3, none⟩ (.int .i64 0)).setCell ⟨w.heap.size, 4, none⟩ (.int .u64 0)).setCell ⟨w.heap.size + 1, 0, none⟩ (.int .i64 0)).setCell ⟨w.heap.size + 1 + 1, 0, none⟩ (.int .i64 E)).heap[w.heap.size + 1]? = some (.cells #[.int .i64 0] 3 (0, 0)) := (set_other (by first | (simp; done) | (simp; omega)) (setCell_got _ (set_other (by first | (simp; done) | (simp; omega)) (set_other (by first | (simp; done) | (simp; omega)) (set_other (by first | (simp; done) | (simp; omega)) (set_other (by first | (simp; done) | (simp; omega)) (set_other (by first | (simp; done) | (simp; omega)) G1.out)))))))
        have g2 : (((((((W2.setCell ⟨w.heap.size, 0, none⟩ (.slice none 0 0)).setCell ⟨w.heap.size, 1, none⟩ (.slice none 0 0)).setCell ⟨w.heap.size, 2, none⟩ (.slice none 0 0)).setCell ⟨w.heap.size, 3, none⟩ (.int .i64 0)).setCell ⟨w.heap.size, 4, none⟩ (.int .u64 0)).setCell ⟨w.heap.size + 1, 0, none⟩ (.int .i64 0)).setCell ⟨w.heap.size + 1 + 1, 0, none⟩ (.int .i64 E)).heap[w.heap.size + 1 + 1]? = some (.cells #[.int .i64 E] 30 (0, 0)) := (setCell_got _ (set_other (by first | (simp; done) | (simp; omega)) (set_other (by first | (simp; done) | (simp; omega)) (set_other (by first | (simp; done) | (simp; omega)) (set_other (by first | (simp; done) | (simp; omega)) (set_other (by first | (simp; done) | (simp; omega)) (set_other (by first | (simp; done) | (simp; omega)) G2.out)))))))
        have o9 : Only [] w (((((((W2.setCell ⟨w.heap.size, 0, none⟩ (.slice none 0 0)).setCell ⟨w.heap.size, 1, none⟩ (.slice none 0 0)).setCell ⟨w.heap.size, 2, none⟩ (.slice none 0 0)).setCell ⟨w.heap.size, 3, none⟩ (.int .i64 0)).setCell ⟨w.heap.size, 4, none⟩ (.int .u64 0)).setCell ⟨w.heap.size + 1, 0, none⟩ (.int .i64 0)).setCell ⟨w.heap.size + 1 + 1, 0, none⟩ (.int .i64 E)) := (((((((ON2.out.setCell (.inr (Nat.le_refl _)) _).setCell (.inr (Nat.le_refl _)) _).setCell (.inr (Nat.le_refl _)) _).setCell (.inr (Nat.le_refl _)) _).setCell (.inr (Nat.le_refl _)) _).setCell (.inr (by first | (simp; done) | (simp; omega))) _).setCell (.inr (by first | (simp; done) | (simp; omega))) _)
        have k9 : KeepsOthers W2 (((((((W2.setCell ⟨w.heap.size, 0, none⟩ (.slice none 0 0)).setCell ⟨w.heap.size, 1, none⟩ (.slice none 0 0)).setCell ⟨w.heap.size, 2, none⟩ (.slice none 0 0)).setCell ⟨w.heap.size, 3, none⟩ (.int .i64 0)).setCell ⟨w.heap.size, 4, none⟩ (.int .u64 0)).setCell ⟨w.heap.size + 1, 0, none⟩ (.int .i64 0)).setCell ⟨w.heap.size + 1 + 1, 0, none⟩ (.int .i64 E)) := (KeepsOthers.trans (KeepsOthers.trans (KeepsOthers.trans (KeepsOthers.trans (KeepsOthers.trans (KeepsOthers.trans (KeepsOthers.setCell _ _ _) (KeepsOthers.setCell _ _ _)) (KeepsOthers.setCell _ _ _)) (KeepsOthers.setCell _ _ _)) (KeepsOthers.setCell _ _ _)) (KeepsOthers.setCell _ _ _)) (KeepsOthers.setCell _ _ _))
        clear c0 c1 c2 c3 c4 c5 c6 f0 f1 f2 f3 f4 f5 f6
        refine ⟨by simp, .inl ⟨_, _, rfl, run_takeDeferred (k9.same D _ KD.out rfl), ?_⟩⟩
        have p0 := put_other (D := D) (k := w.heap.size) (o' := .deferred none) (by omega) g0; have p1 := put_other (D := D) (k := w.heap.size + 1) (o' := .deferred none) (by omega) g1; have p2 := put_other (D := D) (k := w.heap.size + 1 + 1) (o' := .deferred none) (by omega) g2
        have c0 := cell_got p0 0; have c1 := cell_got p0 1; have c2 := cell_got p0 2; have c3 := cell_got p0 3; have c4 := cell_got p0 4; have c5 := cell_got p1 0; have c6 := cell_got p2 0
        unfold zSc at c0 c1 c2 c3 c4
        refine ⟨.tuple #[.agg #[.slice none 0 0, .slice none 0 0, .slice none 0 0, .int .i64 0, .int .u64 0], .int .i64 0, .int .i64 E], by simp [results, Tryz.results14, go_sem, c0, c1, c2, c3, c4, c5, c6], ?_, put_only o9 (by omega)⟩
        exact prsR_bad (m := 0) HQ2.out
  case stop =>
    rintro D c pre W hD hS ⟨m, rfl, h1, h2, h3, h4, h5⟩ hK
    obtain ⟨tl, htl⟩ := hS
    have htl : vals pre ++ tl = lnsO 1 (pcs 10 L) := htl
    have hall : prsS L = (sc0, m, 19) := by
      rw [prsS_lns, ← htl, rdI_err _ tl ss0 m h1]; rfl
    have HAL := Lib.hid hall
    have g0 := put_other (D := D) (o' := .deferred none) (by omega) h2; have g1 := put_other (D := D) (o' := .deferred none) (by omega) h3; have g2 := put_other (D := D) (o' := .deferred none) (by omega) h4
    have c0 := cell_got g0 0; have c1 := cell_got g0 1; have c2 := cell_got g0 2; have c3 := cell_got g0 3; have c4 := cell_got g0 4; have c5 := cell_got g1 0; have c6 := cell_got g2 0
    unfold zSc at c0 c1 c2 c3 c4
    have ON := Lib.hid (put_only (D := D) (o := .deferred none) h5 (by omega))
    clear g0 g1 g2 h1 h2 h3 h4 h5 htl hall hbox h00 k0 k1 k2 k3 k4 k5 ho0
    gi_wp2
    refine ⟨by simp, .inl ⟨_, _, rfl, run_takeDeferred hK, ?_⟩⟩
    refine ⟨.tuple #[.agg #[.slice none 0 0, .slice none 0 0, .slice none 0 0, .int .i64 0, .int .u64 0], .int .i64 m, .int .i64 19], by simp [results, Tryz.results14, go_sem, c0, c1, c2, c3, c4, c5, c6], ?_, ON.out⟩
    exact prsR_bad HAL.out
end Go.Proofs.YthmeifdgkodjlaaGreatDoor
