/- twice of the reference: was the message of an entry sent, or received, before? Condition: the length of the slice. -/
import Derived.Test.YtdpfbedcejahjaaDoorLg6
namespace Go.Proofs.YtdpfbedcejahjaaDoor
open Go.RowKit

def hitB (e a : En) : Bool := decide (trav e) && (a.k == e.k && (a.n == e.n && (a.p == e.p && a.m == e.m)))
theorem tw_hit (past : List En) (e : En) : tw past e = past.any (hitB e) := by
  unfold tw
  by_cases h : trav e
  · simp only [h, decide_true, Bool.true_and]
    congr 1
    funext a
    unfold hitB
    rw [Bool.eq_iff_iff]
    obtain ⟨ak, an, ap, am, ac, av⟩ := a
    obtain ⟨ek, en, ep, em, ec, ev⟩ := e
    simp [trav, ltOf] at *
    rintro rfl _ _ _
    rfl
  · have : hitB e = fun _ => false := by funext a; simp [hitB, h]
    rw [this]; simp [h]
/-- a callee that changes nothing, in the class of a grown world -/
theorem grown_only {P : Program} {f : FuncId} {args : Array Value} {w : World} {v : Value} (h : ∀ w', Only [] w w' → Calls P f args w' fun e w'' => e = .returned v ∧ Only [] w' w'') :
    ∀ w', (∃ x, w' = plus w x) → Calls P f args w' fun e w'' => e = .returned v ∧ ∃ x, w'' = plus w x :=
  grown_calls fun w' hw' => (h w' (only_of_plus hw')).mono fun _ _ ⟨he, ho⟩ => ⟨he, ho.nil_below⟩
def TwRel (w : World) (l : List En) (e : En) (i : Nat) (vk : Value) (wr : World) : Prop :=
  ∃ j : Nat, j ≤ i ∧ vk = .int .i64 j ∧ (l.take j).any (hitB e) = false ∧ Only [] w wr

set_option maxRecDepth 100000 in
set_option maxHeartbeats 4000000 in
theorem Rtwice {w : World} {p : Option Addr} {cap : Nat} {l : List En} (hv : VRow enC 6 w p l.length cap l) (hn : l.length ≤ 100000) (i : Nat) (hi : i < l.length) :
    Calls Tryd.prog 25 #[.slice p l.length cap, .int .i64 i] w fun e w' => e = .returned (.bool (tw (l.take i) l[i])) ∧ Only [] w w' := by
  have HV := Lib.hid hv; clear hv
  obtain ⟨bb, off, hp, hb, hcl⟩ := HV.out.cell i l[i] (List.getElem?_eq_getElem hi)
  subst hp
  rw [tw_hit]
  have hF := fun (wr : World) (ho : Only [] w wr) => HV.out.field ho rfl hi
  have hF5 : ∀ wr, Only [] w wr → wr.cell? ⟨bb, off + i * 6 + 5, none⟩ = some (.int .i64 l[i].v) := fun wr ho => by rw [ho.cell hb (by simp)]; exact hcl 5 _ rfl
  obtain ⟨e, he⟩ : ∃ e, e = l[i] := ⟨_, rfl⟩
  rw [← he] at hF hF5 ⊢
  obtain ⟨ek, en, ep, em, ec, ev⟩ := e
  dsimp only at hF hF5
  have HF := Lib.hid hF; have HF5 := Lib.hid hF5
  clear hF hF5 he hcl
  have hij : (i : Int) < (l.length : Int) := by omega
  go_enter Tryd.func25, Tryd.ntmps25
  go_wp2
  go_loopw [5] (fun vk wr => TwRel w l ⟨ek, en, ep, em, ec, ev⟩ i vk wr) (fun vk _ => i - (intOf vk).toNat)
  case atStart => exact ⟨0, Nat.zero_le _, rfl, rfl, Only.refl _ _⟩
  case round =>
    obtain ⟨j, hj, rfl, hno, ho⟩ := hrel
    have HN := Lib.hid hno; have OO := Lib.hid ho
    clear hno ho
    by_cases hlt : j < i
    · have hjl : j < l.length := by omega
      obtain ⟨a0, a1, a2, a3, _, hbb⟩ := HV.out.field OO.out rfl hjl
      obtain ⟨e0, e1, e2, e3, e4, _⟩ := HF.out wr OO.out
      have e5 := HF5.out wr OO.out
      have hsn : (l.take (j + 1)).any (hitB ⟨ek, en, ep, em, ec, ev⟩) = hitB ⟨ek, en, ep, em, ec, ev⟩ l[j] := by
        rw [List.take_succ_eq_append_getElem hjl, List.any_append, HN.out]; simp
      have hhit : hitB ⟨ek, en, ep, em, ec, ev⟩ l[j] = true → (l.take i).any (hitB ⟨ek, en, ep, em, ec, ev⟩) = true := fun h => by
        refine List.any_eq_true.2 ⟨l[j], ?_, h⟩
        exact List.mem_take_iff_getElem.2 ⟨j, by omega, rfl⟩
      generalize l[j] = a at a0 a1 a2 a3 hsn hhit
      obtain ⟨ak, an, ap, am, ac, av⟩ := a
      dsimp only at a0 a1 a2 a3
      have HSN := Lib.hid hsn; have HH := Lib.hid hhit
      clear hsn hhit
      have hjj : (j : Int) < (l.length : Int) := by omega
      by_cases ht : trav ⟨ek, en, ep, em, ec, ev⟩
      · have t1 : travB ek = true := by simp only [travB, decide_eq_true_eq]; exact ht
        by_cases q0 : ak = ek
        · have b0 : (ak == ek) = true := by simp [q0]
          by_cases q1 : an = en
          · have b1 : (an == en) = true := by simp [q1]
            by_cases q2 : ap = ep
            · have b2 : (ap == ep) = true := by simp [q2]
              by_cases q3 : am = em
              · have b3 : (am == em) = true := by simp [q3]
                have HNX : Hid ((l.take i).any (hitB ⟨ek, en, ep, em, ec, ev⟩) = true) := Lib.hid (HH.out (by simp [hitB, ht, q0, q1, q2, q3]))
                clear ht q0 q1 q2 q3
                go_wp2_with fail
                refine wp_region_grown [0,1,2,3,4,5,6,7,8,9,10,11,12,13,14,15,16,17,18,19,20,21,22,23,24,25,26,27,28,29,30,31,32,33,34,35,36,37,38,39,40,41,42,43,44,45,46,47,48,49,50,51,52,53,54,55,56] [] (by kernel_rfl) (by kernel_rfl) ?_
                simp only [pick, List.map_cons, List.map_nil, List.getD_cons_succ, List.getD_cons_zero]
                repeat (go_big_quiet_step (fail))
                refine wpQuiet_enter rfl 37 #[.agg #[.int .i64 ek, .int .i64 en, .int .i64 ep, .int .i64 em, .int .i64 ec, .int .i64 ev]] (fun _ => by kernel_rfl) (.bool (travB ek)) (grown_only fun w' _ => trav_any ek en ep em ec ev w') ?_
                iterate 1 (refine wpQuiet_step (fun K hK => ?_); go_simp; refine hK _ ?_; clear hK K)
                repeat (go_big_quiet_step (fail))
                refine wpQuiet_nil ?_
                intro w2 hw2
                have O2 := Lib.hid (OO.out.nil_trans (only_of_plus hw2)); clear hw2
                go_wp2
                go_ret
                exact ⟨by rw [HNX.out]; rfl, O2.out⟩
              · have b3 : (am == em) = false := by simp [q3]
                have HNX : Hid ((l.take (j + 1)).any (hitB ⟨ek, en, ep, em, ec, ev⟩) = false) := Lib.hid (by rw [HSN.out]; simp [hitB, q3])
                clear ht q0 q1 q2 q3
                go_wp2_with fail
                refine wp_region_grown [0,1,2,3,4,5,6,7,8,9,10,11,12,13,14,15,16,17,18,19,20,21,22,23,24,25,26,27,28,29,30,31,32,33,34,35,36,37,38,39,40,41,42,43,44,45,46,47,48,49,50,51,52,53,54,55,56] [] (by kernel_rfl) (by kernel_rfl) ?_
                simp only [pick, List.map_cons, List.map_nil, List.getD_cons_succ, List.getD_cons_zero]
                repeat (go_big_quiet_step (fail))
                refine wpQuiet_enter rfl 37 #[.agg #[.int .i64 ek, .int .i64 en, .int .i64 ep, .int .i64 em, .int .i64 ec, .int .i64 ev]] (fun _ => by kernel_rfl) (.bool (travB ek)) (grown_only fun w' _ => trav_any ek en ep em ec ev w') ?_
                iterate 1 (refine wpQuiet_step (fun K hK => ?_); go_simp; refine hK _ ?_; clear hK K)
                repeat (go_big_quiet_step (fail))
                refine wpQuiet_nil ?_
                intro w2 hw2
                have O2 := Lib.hid (OO.out.nil_trans (only_of_plus hw2)); clear hw2
                go_wp2
                go_roundw
                case rel => exact ⟨j + 1, by omega, by go_num, HNX.out, O2.out⟩
                case measure => simp [intOf]; omega
            · have b2 : (ap == ep) = false := by simp [q2]
              have HNX : Hid ((l.take (j + 1)).any (hitB ⟨ek, en, ep, em, ec, ev⟩) = false) := Lib.hid (by rw [HSN.out]; simp [hitB, q2])
              clear ht q0 q1 q2
              go_wp2_with fail
              refine wp_region_grown [0,1,2,3,4,5,6,7,8,9,10,11,12,13,14,15,16,17,18,19,20,21,22,23,24,25,26,27,28,29,30,31,32,33,34,35,36,37,38,39,40,41,42,43,44,45,46,47,48,49,50,51,52,53,54,55,56] [] (by kernel_rfl) (by kernel_rfl) ?_
              simp only [pick, List.map_cons, List.map_nil, List.getD_cons_succ, List.getD_cons_zero]
              repeat (go_big_quiet_step (fail))
              refine wpQuiet_enter rfl 37 #[.agg #[.int .i64 ek, .int .i64 en, .int .i64 ep, .int .i64 em, .int .i64 ec, .int .i64 ev]] (fun _ => by kernel_rfl) (.bool (travB ek)) (grown_only fun w' _ => trav_any ek en ep em ec ev w') ?_
              iterate 1 (refine wpQuiet_step (fun K hK => ?_); go_simp; refine hK _ ?_; clear hK K)
              repeat (go_big_quiet_step (fail))
              refine wpQuiet_nil ?_
              intro w2 hw2
              have O2 := Lib.hid (OO.out.nil_trans (only_of_plus hw2)); clear hw2
              go_wp2
              go_roundw
              case rel => exact ⟨j + 1, by omega, by go_num, HNX.out, O2.out⟩
              case measure => simp [intOf]; omega
          · have b1 : (an == en) = false := by simp [q1]
            have HNX : Hid ((l.take (j + 1)).any (hitB ⟨ek, en, ep, em, ec, ev⟩) = false) := Lib.hid (by rw [HSN.out]; simp [hitB, q1])
            clear ht q0 q1
            go_wp2_with fail
            refine wp_region_grown [0,1,2,3,4,5,6,7,8,9,10,11,12,13,14,15,16,17,18,19,20,21,22,23,24,25,26,27,28,29,30,31,32,33,34,35,36,37,38,39,40,41,42,43,44,45,46,47,48,49,50,51,52,53,54,55,56] [] (by kernel_rfl) (by kernel_rfl) ?_
            simp only [pick, List.map_cons, List.map_nil, List.getD_cons_succ, List.getD_cons_zero]
            repeat (go_big_quiet_step (fail))
            refine wpQuiet_enter rfl 37 #[.agg #[.int .i64 ek, .int .i64 en, .int .i64 ep, .int .i64 em, .int .i64 ec, .int .i64 ev]] (fun _ => by kernel_rfl) (.bool (travB ek)) (grown_only fun w' _ => trav_any ek en ep em ec ev w') ?_
            iterate 1 (refine wpQuiet_step (fun K hK => ?_); go_simp; refine hK _ ?_; clear hK K)
            repeat (go_big_quiet_step (fail))
            refine wpQuiet_nil ?_
            intro w2 hw2
            have O2 := Lib.hid (OO.out.nil_trans (only_of_plus hw2)); clear hw2
            go_wp2
            go_roundw
            case rel => exact ⟨j + 1, by omega, by go_num, HNX.out, O2.out⟩
            case measure => simp [intOf]; omega
        · have b0 : (ak == ek) = false := by simp [q0]
          have HNX : Hid ((l.take (j + 1)).any (hitB ⟨ek, en, ep, em, ec, ev⟩) = false) := Lib.hid (by rw [HSN.out]; simp [hitB, q0])
          clear ht q0
          go_wp2_with fail
          refine wp_region_grown [0,1,2,3,4,5,6,7,8,9,10,11,12,13,14,15,16,17,18,19,20,21,22,23,24,25,26,27,28,29,30,31,32,33,34,35,36,37,38,39,40,41,42,43,44,45,46,47,48,49,50,51,52,53,54,55,56] [] (by kernel_rfl) (by kernel_rfl) ?_
          simp only [pick, List.map_cons, List.map_nil, List.getD_cons_succ, List.getD_cons_zero]
          repeat (go_big_quiet_step (fail))
          refine wpQuiet_enter rfl 37 #[.agg #[.int .i64 ek, .int .i64 en, .int .i64 ep, .int .i64 em, .int .i64 ec, .int .i64 ev]] (fun _ => by kernel_rfl) (.bool (travB ek)) (grown_only fun w' _ => trav_any ek en ep em ec ev w') ?_
          iterate 1 (refine wpQuiet_step (fun K hK => ?_); go_simp; refine hK _ ?_; clear hK K)
          repeat (go_big_quiet_step (fail))
          refine wpQuiet_nil ?_
          intro w2 hw2
          have O2 := Lib.hid (OO.out.nil_trans (only_of_plus hw2)); clear hw2
          go_wp2
          go_roundw
          case rel => exact ⟨j + 1, by omega, by go_num, HNX.out, O2.out⟩
          case measure => simp [intOf]; omega
      · have t1 : travB ek = false := by simp only [travB, decide_eq_false_iff_not]; exact ht
        have HNX : Hid ((l.take (j + 1)).any (hitB ⟨ek, en, ep, em, ec, ev⟩) = false) := Lib.hid (by rw [HSN.out]; simp [hitB, ht])
        clear ht
        go_wp2_with fail
        refine wp_region_grown [0,1,2,3,4,5,6,7,8,9,10,11,12,13,14,15,16,17,18,19,20,21,22,23,24,25,26,27,28,29,30,31,32,33,34,35,36,37,38,39,40,41,42,43,44,45,46,47,48,49,50,51,52,53,54,55,56] [] (by kernel_rfl) (by kernel_rfl) ?_
        simp only [pick, List.map_cons, List.map_nil, List.getD_cons_succ, List.getD_cons_zero]
        repeat (go_big_quiet_step (fail))
        refine wpQuiet_enter rfl 37 #[.agg #[.int .i64 ek, .int .i64 en, .int .i64 ep, .int .i64 em, .int .i64 ec, .int .i64 ev]] (fun _ => by kernel_rfl) (.bool (travB ek)) (grown_only fun w' _ => trav_any ek en ep em ec ev w') ?_
        iterate 1 (refine wpQuiet_step (fun K hK => ?_); go_simp; refine hK _ ?_; clear hK K)
        repeat (go_big_quiet_step (fail))
        refine wpQuiet_nil ?_
        intro w2 hw2
        have O2 := Lib.hid (OO.out.nil_trans (only_of_plus hw2)); clear hw2
        go_wp2
        go_roundw
        case rel => exact ⟨j + 1, by omega, by go_num, HNX.out, O2.out⟩
        case measure => simp [intOf]; omega
    · obtain rfl : j = i := by omega
      go_wp2
      go_ret
      exact ⟨by rw [HN.out]; rfl, OO.out⟩
end Go.Proofs.YtdpfbedcejahjaaDoor
