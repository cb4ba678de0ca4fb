/- Words between blanks: blank, fields of package leap. Condition: the length. -/
import Derived.Test.YtnfejojakikeeaaGreatDoorK7
import Derived.RangeFuncNested
import Derived.RangeFuncBound
import Derived.RangeFuncCalls
import Derived.RangeFuncLeaves
import Derived.Shelf.Abstract
import Derived.Shelf.RegionOpen
import Derived.WalkKit
import Derived.OwnWalkIn
import Derived.TacticsInMore
import Derived.LoopNIn
import Derived.LoopIn
namespace Go.Proofs.YtnfejojakikeeaaGreatDoor
open Go.RowKit Go.Shelf
attribute [local go_sem] Oper.semAt_some

/-- a space or a tab -/
def blk (c : UInt8) : Bool := c == 32 || c == 9
/-- the words between blanks, a part of the first one having come -/
def wds : List UInt8 → List UInt8 → List (List UInt8)
  | cur, [] => if cur = [] then [] else [cur]
  | cur, c :: r => if blk c then (if cur = [] then wds [] r else cur :: wds [] r) else wds (cur ++ [c]) r
theorem kblank (c : UInt8) (w : World) : Calls Tryz.prog 66 #[.int .u8 c.toNat] w fun e w' => e = .returned (.bool (blk c)) ∧ w = w' := by
  have h1 : (c == 32) = ((c.toNat : Int) == 32) := by
    rw [Bool.eq_iff_iff]; simp only [beq_iff_eq]
    exact ⟨fun h => by rw [h]; rfl, fun h => UInt8.toNat.inj (by have e : (32 : UInt8).toNat = 32 := rfl; omega)⟩
  have h2 : (c == 9) = ((c.toNat : Int) == 9) := by
    rw [Bool.eq_iff_iff]; simp only [beq_iff_eq]
    exact ⟨fun h => by rw [h]; rfl, fun h => UInt8.toNat.inj (by have e : (9 : UInt8).toNat = 9 := rfl; omega)⟩
  have hb : blk c = (((c.toNat : Int) == 32) || ((c.toNat : Int) == 9)) := by unfold blk; rw [h1, h2]
  have HB := Lib.hid hb
  have hlt := c.toNat_lt
  clear h1 h2 hb
  generalize c.toNat = z at HB hlt
  by_cases h3 : (z : Int) = 32
  · have d1 : ((z : Int) == 32) = true := by simp [h3]
    have HR : Hid (blk c = true) := Lib.hid (by rw [HB.out, d1]; rfl)
    clear h3
    go_enter Tryz.func66, Tryz.ntmps66
    go_wp2
    go_ret
    exact ⟨by rw [HR.out]; rfl, rfl⟩
  · have d1 : ((z : Int) == 32) = false := by simp [h3]
    have HR : Hid (blk c = ((z : Int) == 9)) := Lib.hid (by rw [HB.out, d1]; rfl)
    clear h3
    go_enter Tryz.func66, Tryz.ntmps66
    go_wp2
    go_ret
    exact ⟨by rw [HR.out]; rfl, rfl⟩
theorem ext_take (X : ByteArray) (s k : Nat) : bstr ((X.data.toList.take k).drop s) = X.extract s k := by
  refine (bstr_eq ?_).symm
  rw [ByteArray.data_extract, Array.toList_extract, List.extract_eq_take_drop, List.drop_take]
/-- how fields stands behind i bytes: no word begun, or one that began at s -/
def FSt (L : List UInt8) (i : Nat) (v : Value) (cur : List UInt8) : Prop :=
  (v = .int .i64 (-1) ∧ cur = []) ∨ ∃ s : Nat, s < i ∧ v = .int .i64 s ∧ cur = (L.take i).drop s
def FInv (L : List UInt8) (Bn : Nat) (X : ByteArray) (J : List (List UInt8) → World → Prop) (v vi : Value) (wr : World) : Prop :=
  ∃ (k : Nat) (pre : List (List UInt8)), k ≤ L.length + 1 ∧ vi = .int .i64 k ∧ J pre wr ∧ wr.cell? ⟨Bn, 0, none⟩ = some (.string X) ∧
    ((k ≤ L.length ∧ ∃ cur, FSt L k v cur ∧ pre ++ wds cur (L.drop k) = wds [] L) ∨ (k = L.length + 1 ∧ pre = wds [] L))

set_option maxRecDepth 100000 in
set_option maxHeartbeats 2000000 in
theorem fields1_in (n l Bn : Nat) (X : ByteArray) (L : List UInt8) (hL : X.data.toList = L) (hs : X.size ≤ 1000000) (J Jx : List (List UInt8) → World → Prop)
    (hY : ∀ pre x W, x.length ≤ 1000000 → J pre W → pre.length < (wds [] L).length → YieldAt Fence.wide (n - 1) Tryz.prog l #[.string (bstr x)] W fun e W' =>
      (e = .returned (.bool true) ∧ J (pre ++ [x]) W' ∧ W'.cell? ⟨Bn, 0, none⟩ = W.cell? ⟨Bn, 0, none⟩) ∨ (e = .returned (.bool false) ∧ Jx (pre ++ [x]) W'))
    (W : World) (hBn : W.cell? ⟨Bn, 0, none⟩ = some (.string X)) (h0 : J [] W) :
    CallsIn Fence.wide n Tryz.prog 80 #[.func (.yield l) #[] #[], .pointer (some ⟨Bn, 0, none⟩)] W fun e W' => (∃ v, e = .returned v) ∧
      ((∃ ys, ys = wds [] L ∧ J ys W') ∨ (∃ pre, pre <+: wds [] L ∧ Jx pre W')) := by
  have hsz : X.size = L.length := by rw [← hL, Array.length_toList]; rfl
  have HY := Lib.hid hY
  clear hY
  refine callsIn_of_wp Tryz.func80 rfl trivial ?_ rfl
  simp only [Tryz.ntmps80, List.size_toArray, List.length_cons, List.length_nil, Nat.reduceAdd, Nat.reduceSub, Array.replicate_succ, Array.replicate_zero, List.push_toArray, List.append_toArray, List.nil_append, List.cons_append]
  gi_wp2
  gi_loopw [3, 8] (fun v vi wr => FInv L Bn X J v vi wr) (fun _ vi _ => L.length + 1 - (intOf vi).toNat)
  case atStart => exact ⟨0, [], by omega, rfl, h0, hBn, .inl ⟨Nat.zero_le _, [], .inl ⟨rfl, rfl⟩, rfl⟩⟩
  case round =>
    obtain ⟨k, pre, hk, rfl, hJ, hB, hrest⟩ := hrel
    rcases hrest with ⟨hkl, cur, hst, hw⟩ | ⟨hkl, hpre⟩
    · by_cases hlt : k < L.length
      · have hki : (k : Int) < (X.size : Int) := by omega
        have hki2 : (k : Int) < (L.length : Int) + 1 := by omega
        have hxk : X[k]'(by omega) = L[k]'hlt := by subst hL; rfl
        have hdr : L.drop k = (L[k]'hlt) :: L.drop (k + 1) := List.drop_eq_getElem_cons hlt
        have htk : L.take (k + 1) = L.take k ++ [L[k]'hlt] := List.take_succ_eq_append_getElem hlt
        have hbk := kblank (L[k]'hlt) wr
        rw [hdr] at hw
        rw [← hxk] at hw htk hbk
        clear hxk hdr
        generalize hc : X[k]'(by omega) = c at hw htk hbk
        by_cases hbl : blk c = true
        · rw [hbl] at hbk
          have HBK := Lib.hid hbk
          clear hbk
          rcases hst with ⟨rfl, hcur⟩ | ⟨s, hsk, rfl, hcur⟩
          · have hw2 : pre ++ wds [] (L.drop (k + 1)) = wds [] L := by rw [← hw, hcur]; simp [wds, hbl]
            have HX := Lib.hid hw2
            clear hw hw2 htk hcur hbl
            gi_wp2_with (refine ⟨trivial, ?_⟩; gi_at_call 66; fail)
            refine ⟨trivial, fun h => (by cases h), ?_⟩
            refine (callsIn_wide.2 HBK.out).mono ?_
            rintro e w' ⟨rfl, rfl⟩
            gi_wp2
            go_roundw
            case rel => exact ⟨k + 1, pre, by omega, by go_num, hJ, hB, .inl ⟨by omega, [], .inl ⟨rfl, rfl⟩, HX.out⟩⟩
            case measure => simp [intOf]; omega
          · have hcn : cur ≠ [] := by
              intro h
              have := congrArg List.length (hcur.symm.trans h)
              simp at this; omega
            have hw2 : pre ++ [cur] ++ wds [] (L.drop (k + 1)) = wds [] L := by rw [← hw]; simp [wds, hbl, hcn]
            have HX := Lib.hid hw2
            have hyy := HY.out pre cur wr (by rw [hcur]; simp; omega) hJ (by rw [← hw2]; simp)
            have hex : bstr cur = X.extract s k := by rw [hcur, ← hL]; exact ext_take X s k
            rw [hex] at hyy
            obtain ⟨fn, tmps, assign, body, hy, hR⟩ := hyy
            have HR := Lib.hid hR
            have hs0 : (0 : Int) ≤ (s : Int) := by omega
            have hs1 : (s : Int) ≤ (k : Int) := by omega
            have d1 : decide ((s : Int) ≥ 0) = true := by simp
            clear hw hw2 htk hcur hbl hR hex
            gi_wp2_with (refine ⟨trivial, ?_⟩; gi_at_call 66; fail)
            refine ⟨trivial, fun h => (by cases h), ?_⟩
            refine (callsIn_wide.2 HBK.out).mono ?_
            rintro e w' ⟨rfl, rfl⟩
            gi_wp2
            refine ⟨fun h => (by cases h), HR.out.mono ?_⟩
            rintro e W3 (⟨rfl, hJ3, hk3⟩ | ⟨rfl, hJx3⟩)
            · gi_wp2
              go_roundw
              case rel => exact ⟨k + 1, pre ++ [cur], by omega, by go_num, hJ3, hk3.trans hB, .inl ⟨by omega, [], .inl ⟨rfl, rfl⟩, HX.out⟩⟩
              case measure => simp [intOf]; omega
            · gi_wp2
              refine bodyPost_ret (results_none rfl _ _ _) rfl ?_
              exact ⟨⟨_, rfl⟩, .inr ⟨pre ++ [cur], ⟨wds [] (L.drop (k + 1)), HX.out⟩, hJx3⟩⟩
        · rw [show blk c = false by simpa using hbl] at hbk
          have HBK := Lib.hid hbk
          clear hbk
          rcases hst with ⟨rfl, hcur⟩ | ⟨s, hsk, rfl, hcur⟩
          · have hw2 : pre ++ wds [c] (L.drop (k + 1)) = wds [] L := by rw [← hw, hcur]; simp [wds, hbl]
            have HX := Lib.hid hw2
            have hcu : [c] = (L.take (k + 1)).drop k := by rw [htk, List.drop_append_of_le_length (by rw [List.length_take]; omega)]; simp
            have HCU := Lib.hid hcu
            clear hw hw2 htk hcur hbl hcu
            gi_wp2_with (refine ⟨trivial, ?_⟩; gi_at_call 66; fail)
            refine ⟨trivial, fun h => (by cases h), ?_⟩
            refine (callsIn_wide.2 HBK.out).mono ?_
            rintro e w' ⟨rfl, rfl⟩
            gi_wp2
            go_roundw
            case rel => exact ⟨k + 1, pre, by omega, by go_num, hJ, hB, .inl ⟨by omega, [c], .inr ⟨k, by omega, rfl, HCU.out⟩, HX.out⟩⟩
            case measure => simp [intOf]; omega
          · have hw2 : pre ++ wds (cur ++ [c]) (L.drop (k + 1)) = wds [] L := by rw [← hw]; simp [wds, hbl]
            have HX := Lib.hid hw2
            have hcu : cur ++ [c] = (L.take (k + 1)).drop s := by rw [htk, List.drop_append_of_le_length (by rw [List.length_take]; omega), hcur]
            have HCU := Lib.hid hcu
            have d1 : decide ((s : Int) < 0) = false := by simp
            clear hw hw2 htk hcur hbl hcu
            gi_wp2_with (refine ⟨trivial, ?_⟩; gi_at_call 66; fail)
            refine ⟨trivial, fun h => (by cases h), ?_⟩
            refine (callsIn_wide.2 HBK.out).mono ?_
            rintro e w' ⟨rfl, rfl⟩
            gi_wp2
            go_roundw
            case rel => exact ⟨k + 1, pre, by omega, by go_num, hJ, hB, .inl ⟨by omega, cur ++ [c], .inr ⟨s, by omega, rfl, HCU.out⟩, HX.out⟩⟩
            case measure => simp [intOf]; omega
      · have hkL : k = L.length := by omega
        have d0 : decide ((k : Int) < (L.length : Int)) = false := by simp; omega
        have hki2 : (k : Int) < (L.length : Int) + 1 := by omega
        rw [List.drop_of_length_le (by omega)] at hw
        rcases hst with ⟨rfl, hcur⟩ | ⟨s, hsk, rfl, hcur⟩
        · have hw2 : pre = wds [] L := by rw [← hw, hcur]; simp [wds]
          have HX := Lib.hid hw2
          clear hw hw2 hcur
          gi_wp2
          refine ⟨trivial, ?_⟩
          gi_wp2
          go_roundw
          case rel => exact ⟨k + 1, pre, by omega, by go_num, hJ, hB, .inr ⟨by omega, HX.out⟩⟩
          case measure => simp [intOf]; omega
        · have hcn : cur ≠ [] := by
            intro h
            have := congrArg List.length (hcur.symm.trans h)
            simp at this; omega
          have hw2 : pre ++ [cur] = wds [] L := by rw [← hw]; simp [wds, hcn]
          have HX := Lib.hid hw2
          have hyy := HY.out pre cur wr (by rw [hcur]; simp; omega) hJ (by rw [← hw2]; simp)
          have hex : bstr cur = X.extract s k := by rw [hcur, ← hL]; exact ext_take X s _
          rw [hex] at hyy
          obtain ⟨fn, tmps, assign, body, hy, hR⟩ := hyy
          have HR := Lib.hid hR
          have hs0 : (0 : Int) ≤ (s : Int) := by omega
          have hs1 : (s : Int) ≤ (k : Int) := by omega
          have d1 : decide ((s : Int) ≥ 0) = true := by simp
          have HKL := Lib.hid hkL
          clear hw hw2 hcur hR hex hkL
          gi_wp2
          refine ⟨trivial, ?_⟩
          gi_wp2
          refine ⟨fun h => (by cases h), HR.out.mono ?_⟩
          rintro e W3 (⟨rfl, hJ3, hk3⟩ | ⟨rfl, hJx3⟩)
          · gi_wp2
            go_roundw
            case rel => exact ⟨k + 1, pre ++ [cur], by omega, by go_num, hJ3, hk3.trans hB, .inr ⟨by have := HKL.out; omega, HX.out⟩⟩
            case measure => simp [intOf]; omega
          · gi_wp2
            refine bodyPost_ret (results_none rfl _ _ _) rfl ?_
            exact ⟨⟨_, rfl⟩, .inr ⟨pre ++ [cur], ⟨[], by rw [List.append_nil]; exact HX.out⟩, hJx3⟩⟩
    · have hkk : (k : Int) = (L.length : Int) + 1 := by omega
      gi_wp2
      go_end0
      exact ⟨⟨_, rfl⟩, .inl ⟨_, hpre, hJ⟩⟩

/-- a word that is not too long -/
abbrev Wd := { x : List UInt8 // x.length ≤ 1000000 }
theorem fields_stops (n Bn : Nat) (X : ByteArray) (L : List UInt8) (hL : X.data.toList = L) (hs : X.size ≤ 1000000) (w : World) (hBn : Bn < w.heap.size) (hc : w.cell? ⟨Bn, 0, none⟩ = some (.string X)) :
    SeqStopsK Fence.wide n Tryz.prog 80 #[.pointer (some ⟨Bn, 0, none⟩)] (fun x : Wd => #[Value.string (bstr x.1)]) (fun A B => B.cell? ⟨Bn, 0, none⟩ = A.cell? ⟨Bn, 0, none⟩)
      (fun ys => ys.map Subtype.val = wds [] L) (fun pre => pre.map Subtype.val <+: wds [] L) (wds [] L).length w := fun l J Jx W hW _ _ hY h0 => by
  refine (fields1_in n l Bn X L hL hs (fun pre W => ∃ q : List Wd, q.map Subtype.val = pre ∧ J q W) (fun pre W => ∃ q : List Wd, q.map Subtype.val = pre ∧ Jx q W) ?_ W ((hW.cell (p := ⟨Bn, 0, none⟩) hBn).trans hc) ⟨[], rfl, h0⟩).mono ?_
  · rintro pre x W1 hx ⟨q, rfl, hj⟩ hlen
    refine (hY q ⟨x, hx⟩ W1 hj (by simpa using hlen)).mono ?_
    rintro e W' (⟨rfl, hj2, hk⟩ | ⟨rfl, hj2⟩)
    · exact .inl ⟨rfl, ⟨q ++ [⟨x, hx⟩], by simp, hj2⟩, hk⟩
    · exact .inr ⟨rfl, ⟨q ++ [⟨x, hx⟩], by simp, hj2⟩⟩
  · rintro e W' ⟨he, ⟨ys, rfl, q, hq, hj⟩ | ⟨pre, hp, q, rfl, hj⟩⟩
    · exact ⟨he, .inl ⟨q, hq, hj⟩⟩
    · exact ⟨he, .inr ⟨q, hp, hj⟩⟩
set_option maxHeartbeats 1000000 in
theorem fields_in (n : Nat) (X : ByteArray) (w : World) :
    CallsIn Fence.wide n Tryz.prog 68 #[.string X] w fun e w' => e = .returned (.func (.func 80) #[] #[.pointer (some ⟨w.heap.size, 0, none⟩)]) ∧ w' = w.alloc (.cells #[.string X] 9) := by
  refine callsIn_of_wp Tryz.func68 rfl trivial ?_ rfl
  simp only [Tryz.ntmps68, List.size_toArray, List.length_cons, List.length_nil, Nat.reduceAdd, Nat.reduceSub, Array.replicate_succ, Array.replicate_zero, List.push_toArray, List.append_toArray, List.nil_append, List.cons_append]
  gi_wp2
  go_ret
  exact ⟨rfl, rfl⟩
end Go.Proofs.YtnfejojakikeeaaGreatDoor
