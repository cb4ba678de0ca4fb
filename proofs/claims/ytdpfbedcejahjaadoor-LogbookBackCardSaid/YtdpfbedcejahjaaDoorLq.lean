/- Pairs of package logbook. Condition: the length of the slice. -/
import Derived.Test.YtdpfbedcejahjaaDoorLg8
import Derived.Test.YtdpfbedcejahjaaDoorLp
import Derived.Test.YtdpfbedcejahjaaDoorOwn
namespace Go.Proofs.YtdpfbedcejahjaaDoor
open Go.RowKit

def natV (n : Nat) : Value := .int .i64 n
theorem prC_len (x : Nat × Nat) : (prC x).length = 2 := rfl
theorem prC_one (x : Nat × Nat) : ∀ u ∈ prC x, u.oneCell' = true := by simp [prC, Value.oneCell']
theorem enC_len (x : En) : (enC x).length = 6 := rfl
theorem enC_one (x : En) : ∀ u ∈ enC x, u.oneCell' = true := by simp [enC, Value.oneCell']
def SentRel (w : World) (b : Nat) (l : List En) (vi : Value) (wr : World) : Prop :=
  ∃ k : Nat, k ≤ l.length ∧ vi = .int .i64 k ∧ MapF ltE natV wr b (sentF (l.take k) 0) ∧ Only [] w wr
def PairRel (w : World) (l : List En) (v vi : Value) (wr : World) : Prop :=
  ∃ k : Nat, k ≤ l.length ∧ vi = .int .i64 k ∧ Own prC 33 2 w.heap.size wr v (prsI l (l.take k) 0) ∧ Only [] w wr
/-- what Pairs returns -/
def prsR (l : List En) : List (Nat × Nat) := if logE l = 0 then prs l else []
theorem prsI_len {l : List En} (hu : Uniq l) : ∀ (xs : List En) (i : Nat), (prsI l xs i).length ≤ xs.length
  | [], i => by simp [prsI]
  | b :: r, i => by
    have := prsI_len hu r (i + 1)
    simp only [prsI, List.length_append, List.length_cons]
    have h1 : (if b.k = 2 then prsK b i l 0 else []).length ≤ 1 := by
      split
      · rw [← prsP_eq hu]; unfold prsP; split <;> simp
      · simp
    omega

set_option maxRecDepth 100000 in
set_option maxHeartbeats 2000000 in
theorem Ppairs {w : World} {p : Option Addr} {n cap : Nat} {l : List En} (hv : VRow enC 6 w p n cap l) (hn : n ≤ 100000) :
    Calls Tryd.prog 17 #[.slice p n cap] w fun e w' => ∃ p' cap', e = .returned (.slice p' (prsR l).length cap') ∧ VRow prC 2 w' p' (prsR l).length cap' (prsR l) ∧ Only [] w w' := by
  have hl := hv.len
  subst hl
  have HV := Lib.hid hv; clear hv
  have hmm := @run_makeMap Tryd.prog
  go_enter Tryd.func17, Tryd.ntmps17
  go_wp2_with fail
  refine (Pcheck HV.out hn).mono ?_
  rintro r w1 ⟨rfl, ho1⟩
  have O1 := Lib.hid ho1; clear ho1
  by_cases h0 : logE l = 0
  · have hu := uniq_of_log h0
    have HR : Hid (prsR l = prs l) := Lib.hid (by unfold prsR; rw [if_pos h0])
    have HU := Lib.hid hu
    clear hu
    rw [h0]
    have HZ := Lib.hid h0
    clear h0
    go_wp2
    go_loopw [17] (fun vi wr => SentRel w w1.heap.size l vi wr) (fun vi _ => l.length - (intOf vi).toNat)
    case atStart =>
      exact ⟨0, Nat.zero_le _, rfl, mapF_new (alloc_new _ _), O1.out.alloc _⟩
    case round =>
      obtain ⟨k, hk, rfl, hm, ho⟩ := hrel
      have MM := Lib.hid hm; have OO := Lib.hid ho
      clear hm ho
      by_cases hlt : k < l.length
      · obtain ⟨bb, off, hp, hb, hcl⟩ := HV.out.cell k l[k] (List.getElem?_eq_getElem hlt)
        subst hp
        have hle := OO.out.size
        have hb' : bb < wr.heap.size := by omega
        obtain ⟨e, he⟩ : ∃ e, e = l[k] := ⟨_, rfl⟩
        rw [← he] at hcl
        have HE := Lib.hid he
        clear he
        obtain ⟨ek, en, ep, em, ec, ev⟩ := e
        have c0 : wr.cell? ⟨bb, off + k * 6, none⟩ = some (.int .i64 ek) := by rw [OO.out.cell hb (by simp)]; exact hcl 0 _ rfl
        have c1 : wr.cell? ⟨bb, off + k * 6 + 1, none⟩ = some (.int .i64 en) := by rw [OO.out.cell hb (by simp)]; exact hcl 1 _ rfl
        have c2 : wr.cell? ⟨bb, off + k * 6 + 2, none⟩ = some (.int .i64 ep) := by rw [OO.out.cell hb (by simp)]; exact hcl 2 _ rfl
        have c3 : wr.cell? ⟨bb, off + k * 6 + 3, none⟩ = some (.int .i64 em) := by rw [OO.out.cell hb (by simp)]; exact hcl 3 _ rfl
        have c4 : wr.cell? ⟨bb, off + k * 6 + 4, none⟩ = some (.int .i64 ec) := by rw [OO.out.cell hb (by simp)]; exact hcl 4 _ rfl
        have c5 : wr.cell? ⟨bb, off + k * 6 + 5, none⟩ = some (.int .i64 ev) := by rw [OO.out.cell hb (by simp)]; exact hcl 5 _ rfl
        clear hcl
        have htake : l.take (k + 1) = l.take k ++ [⟨ek, en, ep, em, ec, ev⟩] := by rw [List.take_succ_eq_append_getElem hlt, HE.out]
        have hlen : (l.take k).length = k := by rw [List.length_take]; omega
        have HTK := Lib.hid htake; have HLN := Lib.hid hlen
        clear htake hlen
        by_cases h1 : ek = 1
        · subst h1
          go_wp2_with (at_mapUpdate; refine stop_here ?_)
          refine alloc_abs (G := fun w0 => Stop (wpList _ _ _ _ _ w0)) ?_
          intro w0 hb0 ho0 hs0
          have P0 := Lib.hid (MM.out.kept ho0 (by simp)); have Q0 := Lib.hid (OO.out.nil_trans ho0)
          clear hb0 ho0 hs0 c0 c1 c2 c3 c4 c5
          refine stop_go ?_
          refine wpList_update_F (kE := ltE) (vE := natV) rfl _ _ _ 48 rfl 50 3 lt_key Tryd.underlying48 w1.heap.size (sentF (l.take k) 0) rfl P0.out ⟨1, en, ep, em⟩ rfl k rfl ?_
          intro w2 hm2 ho2 hs2
          have M2 : Hid (MapF ltE natV w2 w1.heap.size (sentF (l.take (k + 1)) 0)) := Lib.hid (by
            rw [HTK.out]
            refine (show (fun t => if t = (⟨1, en, ep, em⟩ : Lt) then some k else sentF (l.take k) 0 t) = sentF (l.take k ++ [⟨1, en, ep, em, ec, ev⟩]) 0 from ?_) ▸ hm2
            funext t
            rw [sentF_snoc, HLN.out]
            by_cases ht : t = ⟨1, en, ep, em⟩
            · rw [if_pos ht, if_pos ⟨rfl, ht.symm⟩, Nat.zero_add]
            · rw [if_neg ht, if_neg (fun q => ht q.2.symm)])
          have O2 := Lib.hid (Q0.out.trans ho2 (fun x hx => .inr (by have := O1.out.size; simp at hx; omega)))
          clear hm2 ho2 hs2 P0 Q0
          go_wp2
          go_roundw
          case rel => exact ⟨k + 1, by omega, by go_num, M2.out, O2.out⟩
          case measure => simp [intOf]; omega
        · have b1 : (ek == 1) = false := by simp [h1]
          have M2 : Hid (MapF ltE natV (wr.alloc (.cells #[.int .i64 ek, .int .i64 en, .int .i64 ep, .int .i64 em, .int .i64 ec, .int .i64 ev] 37 (0, 0))) w1.heap.size (sentF (l.take (k + 1)) 0)) := Lib.hid (by
            rw [HTK.out]
            refine (show sentF (l.take k) 0 = sentF (l.take k ++ [⟨ek, en, ep, em, ec, ev⟩]) 0 from ?_) ▸ (MM.out.kept ((Only.refl [] wr).alloc _) (by simp))
            funext t
            rw [sentF_snoc, if_neg (fun q => h1 q.1)])
          clear h1
          go_wp2
          go_roundw
          case rel => exact ⟨k + 1, by omega, by go_num, M2.out, OO.out.alloc _⟩
          case measure => simp [intOf]; omega
      · obtain rfl : k = l.length := by omega
        obtain ⟨wo, hwo⟩ : ∃ wo : World, wo = wr := ⟨_, rfl⟩
        subst hwo
        have hm := MM.out
        rw [List.take_of_length_le (Nat.le_refl _)] at hm
        have M1 := Lib.hid hm
        clear hm MM
        go_wp2
        go_loopw [6, 39] (fun v vi wr => PairRel wo l v vi wr) (fun _ vi _ => l.length - (intOf vi).toNat)
        case atStart => exact ⟨0, Nat.zero_le _, rfl, own_nil _ _, Only.refl _ _⟩
        case round =>
          obtain ⟨k, hk, rfl, hown, ho⟩ := hrel
          have RW := Lib.hid hown; have O3 := Lib.hid ho
          clear hown ho hlt
          by_cases hlt : k < l.length
          · obtain ⟨bb, off, hp, hb, hcl⟩ := HV.out.cell k l[k] (List.getElem?_eq_getElem hlt)
            subst hp
            have OA := Lib.hid (OO.out.nil_trans O3.out)
            have hle := OA.out.size
            have hb' : bb < wr.heap.size := by omega
            obtain ⟨e, he⟩ : ∃ e, e = l[k] := ⟨_, rfl⟩
            rw [← he] at hcl
            have HE := Lib.hid he
            clear he
            obtain ⟨ek, en, ep, em, ec, ev⟩ := e
            have c0 : wr.cell? ⟨bb, off + k * 6, none⟩ = some (.int .i64 ek) := by rw [OA.out.cell hb (by simp)]; exact hcl 0 _ rfl
            have c1 : wr.cell? ⟨bb, off + k * 6 + 1, none⟩ = some (.int .i64 en) := by rw [OA.out.cell hb (by simp)]; exact hcl 1 _ rfl
            have c2 : wr.cell? ⟨bb, off + k * 6 + 2, none⟩ = some (.int .i64 ep) := by rw [OA.out.cell hb (by simp)]; exact hcl 2 _ rfl
            have c3 : wr.cell? ⟨bb, off + k * 6 + 3, none⟩ = some (.int .i64 em) := by rw [OA.out.cell hb (by simp)]; exact hcl 3 _ rfl
            have c4 : wr.cell? ⟨bb, off + k * 6 + 4, none⟩ = some (.int .i64 ec) := by rw [OA.out.cell hb (by simp)]; exact hcl 4 _ rfl
            have c5 : wr.cell? ⟨bb, off + k * 6 + 5, none⟩ = some (.int .i64 ev) := by rw [OA.out.cell hb (by simp)]; exact hcl 5 _ rfl
            clear hcl
            have hlen : (l.take k).length = k := by rw [List.length_take]; omega
            have hst : prsI l (l.take (k + 1)) 0 = prsI l (l.take k) 0 ++ if ek = 2 then prsP l ⟨ek, en, ep, em, ec, ev⟩ k else [] := by
              rw [List.take_succ_eq_append_getElem hlt, prsI_snoc, hlen, Nat.zero_add, ← HE.out, prsP_eq HU.out]
            have hll := prsI_len HU.out (l.take k) 0
            rw [hlen] at hll
            have HST := Lib.hid hst; have HLL := Lib.hid hll
            clear hst hlen hll
            by_cases h2 : ek = 2
            · subst h2
              have Z3 : Hid (∀ w, (zeroValue 3).run Tryd.prog w = .ok (.int .i64 0) w) := Lib.hid Tryd.zeroValue3
              go_wp2_with (at_lookup; refine stop_here ?_)
              refine alloc_abs (G := fun w0 => Stop (wpList _ _ _ _ _ w0)) ?_
              intro w0 hb0 ho0 hs0
              have M3 := Lib.hid ((M1.out.kept O3.out (by simp)).kept ho0 (by simp)); have O4 := Lib.hid (O3.out.nil_trans ho0)
              have R4 := Lib.hid (RW.out.kept ho0)
              clear hb0 ho0 hs0 c0 c1 c2 c3 c4 c5 RW
              refine stop_go ?_
              refine wpList_lookup_F (kE := ltE) (vE := natV) rfl _ _ 48 true rfl 50 3 lt_key Tryd.underlying48 (.int .i64 0) (Z3.out _) w1.heap.size (sentF l 0) rfl M3.out ⟨1, ep, en, em⟩ rfl ?_
              obtain ⟨so, hso⟩ : ∃ so, so = sentF l 0 ⟨1, ep, en, em⟩ := ⟨_, rfl⟩
              rw [← hso]
              have hst2 : prsI l (l.take (k + 1)) 0 = prsI l (l.take k) 0 ++ prsP l ⟨2, en, ep, em, ec, ev⟩ k := by rw [HST.out]; simp
              rw [prsP, show sentF l 0 ⟨1, (⟨2, en, ep, em, ec, ev⟩ : En).p, (⟨2, en, ep, em, ec, ev⟩ : En).n, (⟨2, en, ep, em, ec, ev⟩ : En).m⟩ = so from hso.symm] at hst2
              clear HST hso
              cases so with
              | none =>
                have HN : Hid (prsI l (l.take (k + 1)) 0 = prsI l (l.take k) 0) := Lib.hid (by rw [hst2]; simp)
                clear hst2
                simp only [Option.map_none, Option.getD_none, Option.isSome_none, if_true]
                go_wp2
                go_roundw
                case rel => exact ⟨k + 1, by omega, by go_num, HN.out ▸ R4.out, O4.out⟩
                case measure => simp [intOf]; omega
              | some s =>
                have HN : Hid (prsI l (l.take (k + 1)) 0 = prsI l (l.take k) 0 ++ [(s, k)]) := Lib.hid hst2
                clear hst2
                simp only [Option.map_some, Option.getD_some, Option.isSome_some, if_true]
                unfold natV
                go_wp2_with (at_builtin; refine stop_here ?_)
                refine alloc_abs (G := fun w0 => Stop (wpList _ _ _ _ _ w0)) ?_
                intro w5 hb5 ho5 hs5
                have O5 := Lib.hid (O4.out.nil_trans ho5)
                have R5 := Lib.hid (R4.out.kept ho5)
                refine stop_go ?_
                refine wpList_append_one rfl _ _ 32 rfl 33 (.agg #[.int .i64 0, .int .i64 0]) 2 16 Tryd.underlying32 (by kernel_rfl) rfl (by decide) prC prC_len prC_one (prsI l (l.take k) 0) _ rfl R5.out w0.heap.size (s, k) rfl (fun j u hj => ?_) (by have := HLL.out; simp [maxLen]; omega) (by have := HLL.out; omega) O5.out ?_
                · rw [cell_got hb5]; simpa [prC] using hj
                intro v' w6 hown6 ho6 _
                have R6 : Hid (Own prC 33 2 wo.heap.size w6 v' (prsI l (l.take (k + 1)) 0)) := Lib.hid (HN.out ▸ hown6)
                have O6 := Lib.hid ho6
                clear hown6 ho6 hb5 ho5 hs5
                go_wp2
                go_roundw
                case rel => exact ⟨k + 1, by omega, by go_num, R6.out, O6.out⟩
                case measure => simp [intOf]; omega
            · have b1 : (ek == 2) = false := by simp [h2]
              have b2 : (ek != 2) = true := by simp [h2]
              have HN : Hid (prsI l (l.take (k + 1)) 0 = prsI l (l.take k) 0) := Lib.hid (by rw [HST.out, if_neg h2]; simp)
              clear h2 HST
              go_wp2
              go_roundw
              case rel => exact ⟨k + 1, by omega, by go_num, HN.out ▸ (RW.out.kept ((Only.refl [] wr).alloc _)), O3.out.alloc _⟩
              case measure => simp [intOf]; omega
          · obtain rfl : k = l.length := by omega
            have hown := RW.out
            rw [List.take_of_length_le (Nat.le_refl _), show prsI l l 0 = prsR l from HR.out.symm] at hown
            obtain ⟨p', cap', rfl, hvr⟩ := hown.vrow prC_len
            have H1 := Lib.hid hvr
            clear hown hvr RW
            go_wp2
            go_ret
            exact ⟨p', cap', rfl, H1.out, OO.out.nil_trans O3.out⟩
  · have b1 : (logE l == 0) = false := by simp [h0]
    have b2 : (logE l != 0) = true := by simp [h0]
    have HR : Hid (prsR l = []) := Lib.hid (by unfold prsR; rw [if_neg h0])
    clear h0
    go_wp2
    go_ret
    exact ⟨none, 0, by rw [HR.out]; rfl, by rw [HR.out]; exact vrow_nil _, O1.out⟩
end Go.Proofs.YtdpfbedcejahjaaDoor
