/- part of the reader. Conditions: the library's variables are laid; the lengths. -/
import Derived.Test.YthmeifdgkodjlaaDoorSu
import Derived.Test.YthmeifdgkodjlaaDoorCf
namespace Go.Proofs.YthmeifdgkodjlaaDoor
open Go.RowKit

theorem rdPart_none {x : SSt} {w : List UInt8} {r : List (List UInt8)} (h : numsO r = none) : rdPart x w r = none := by
  unfold rdPart
  split
  · rename_i k' ns' h'; rw [h] at h'; cases h'
  · rfl
theorem rdPart_nil {x : SSt} {w : List UInt8} {r : List (List UInt8)} (h : numsO r = some []) : rdPart x w r = none := by
  unfold rdPart
  split
  · rename_i k' ns' h'; rw [h] at h'; cases h'
  · rfl
theorem rdPart_no {x : SSt} {w : List UInt8} {r : List (List UInt8)} {k : Int} {ns : List Int} (h : numsO r = some (k :: ns)) (hk : ¬ (0 < x.sc.nd.length ∧ k = (x.sc.nd.length : Int) - 1)) : rdPart x w r = none := by
  unfold rdPart
  split
  · rename_i k' ns' h'; rw [h] at h'; cases h'; exact if_neg hk
  · rfl
theorem rdPart_yes {x : SSt} {w : List UInt8} {r : List (List UInt8)} {k : Int} {ns : List Int} (h : numsO r = some (k :: ns)) (hk : 0 < x.sc.nd.length ∧ k = (x.sc.nd.length : Int) - 1) : rdPart x w r = (match (generalizing := false) ns with
       | [a] => if w = wOsc ∧ x.at_ = 3 then some ⟨{ x.sc with nd := lastN x.sc.nd (fun n => { n with ph := a }) }, 4⟩
           else if w = wUse ∧ (x.at_ = 4 ∨ x.at_ = 5) then some ⟨{ x.sc with nd := lastN x.sc.nd (fun n => { n with sv := n.sv ++ [a] }) }, 5⟩ else none
       | [a, p] => if w = wSeg ∧ x.at_ = 4 then some ⟨{ x.sc with nd := lastN x.sc.nd (fun n => { n with sg := n.sg ++ [⟨a, p⟩] }) }, 4⟩ else none
       | _ => none) := by
  unfold rdPart
  split
  · rename_i k' ns' h'; rw [h] at h'; cases h'; rw [if_pos hk]; rcases ns with _ | ⟨a, _ | ⟨p, _ | ⟨q, l⟩⟩⟩ <;> rfl
  · rename_i hne; exact absurd h (hne k ns)
theorem rdPart_empty {x : SSt} {w : List UInt8} {r : List (List UInt8)} (h : x.sc.nd = []) : rdPart x w r = none := by
  cases hq : numsO r with
  | none => exact rdPart_none hq
  | some ms =>
    cases ms with
    | nil => exact rdPart_nil hq
    | cons k ns => exact rdPart_no hq (by rw [h]; simp)
theorem str_eq (a b : List UInt8) : ((bstr a).toList == (⟨b.toArray⟩ : ByteArray).toList) = decide (a = b) := by
  rw [Lib.toList_data, Lib.toList_data, Bool.eq_iff_iff, beq_iff_eq, decide_eq_true_eq]
  exact Iff.rfl
set_option maxRecDepth 100000 in
set_option maxHeartbeats 8000000 in
theorem kPartOsc {W0 : Two} {w : World} {b : Nat} {x : SSt} {p : Option Addr} {n cap : Nat} {r : List (List UInt8)} (h : RdX W0 b w x) (hsz : SLe 100000 x) (hv : VRow strC 1 w p n cap (wOsc :: r)) (hn : n ≤ 100000) (hl : ∀ y ∈ wOsc :: r, y.length ≤ 1000000) (he : Env w) :
    Calls Tryd.prog 50 #[.pointer (some ⟨b, 0, none⟩), .slice p n cap] w fun e w' => RdR W0 b (rdPart x wOsc r) e w' := by
  have hlen := hv.len
  subst hlen
  obtain ⟨hb0, hb1, ns, ls, vn, vl, vf, hR⟩ := h
  have hfl := hsz.sg
  have hx1 := hR.hn; have hle := hsz.nd
  have HR := Lib.hid hR; have HV := Lib.hid hv; have HE := Lib.hid he; have HL := Lib.hid hl; have H0 := Lib.hid hb0; have H1 := Lib.hid hb1
  clear hR hv he hl hb0 hb1 hsz
  obtain ⟨bw, off, hp, s0, lw⟩ := HV.out.str (Only.refl [] w) (k := 0) (by simp)
  subst hp
  have hcp : r.length + 1 ≤ cap := HV.out.le
  have HSUB := Lib.hid (HV.out.sub 1 (r.length + 1) (by omega) (by simp))
  rw [show (List.take (r.length + 1) (wOsc :: r)).drop 1 = r by simp, Nat.add_sub_cancel] at HSUB
  have hsl : ∀ y ∈ r, y.length ≤ 1000000 := fun y hy => HL.out y (by simp [hy])
  have hnn : r.length ≤ 100000 := by simp at hn; omega
  have HN : Hid (Calls Tryd.prog 65 #[.slice (some ⟨bw, off + 1, none⟩) r.length (cap - 1)] w fun e w' => NumsR (numsO r) w e w' ∧ Only [] w w') := Lib.hid (pNumbers HSUB.out hnn hsl HE.out)
  have hWL : (wOsc :: r).length = r.length + 1 := by simp
  rw [hWL] at hn ⊢
  have hrn : r.length ≤ 100000 := by omega
  have HE0 := HE
  clear HSUB HE hsl s0
  have hc1 : (1 : Int) ≤ (r.length : Int) + 1 := by omega
  have hc2 : (r.length : Int) + 1 ≤ (cap : Int) := by omega
  obtain ⟨res, hres⟩ : ∃ res, res = rdPart x wOsc r := ⟨_, rfl⟩
  rw [← hres]
  by_cases hcap : cap = 1
  · subst hcap
    obtain rfl : r = [] := by
      rcases r with _ | ⟨q, r⟩
      · rfl
      · simp at hcp
    have HQ : Hid (res = none) := Lib.hid (by rw [hres]; exact rdPart_nil rfl)
    have HV0 : VRow strC 1 w (some ⟨bw, off, none⟩) 0 0 [] := ⟨rfl, Nat.le_refl _, Nat.zero_le _, by simp, by simp⟩
    have HN0 := Lib.hid (pNumbers HV0 (by decide) (by simp) HE0.out)
    obtain ⟨pn, cn, hvn, _⟩ := HR.out.nd.vrow ndC_len
    subst hvn
    have hsn : ∀ m, ns.length = m + 1 → m ≤ 100000 := fun m h => by rw [hx1, List.length_map] at hle; omega
    clear hres hx1 hfl hle HV0 HN
    go_enter Tryd.func50, Tryd.ntmps50
    go_wp2_with fail
    refine HN0.out.mono ?_
    rintro e w2 ⟨hv4, ho2⟩
    have R2 := Lib.hid (HR.out.kept ho2); have O2 := Lib.hid (H1.out.nil_trans ho2)
    clear ho2 HN0 HR H1 HV HE0
    have q0 := cell_got R2.out.box 0; have lq := got_lt R2.out.box
    obtain ⟨g, h4, _⟩ : ∃ g, e = .returned (.tuple #[.slice (some ⟨g, 0, none⟩) 0 0, .bool true]) ∧ True := by obtain ⟨g, _, h, _⟩ := hv4; exact ⟨g, h, trivial⟩
    subst h4
    clear hv4
    by_cases hz : ns.length = 0
    · have dz : ((ns.length : Int) = 0) := by omega
      rw [hz] at q0
      go_wp2
      go_ret
      rw [HQ.out]
      exact ⟨rfl, O2.out⟩
    · obtain ⟨m, hm⟩ : ∃ m, ns.length = m + 1 := ⟨ns.length - 1, by omega⟩
      rw [hm] at q0
      have hm2 : m ≤ 100000 := hsn m hm
      have hwl : IntKind.i64.wrap (m : Int) = (m : Int) := by rw [IntKind.wrap_i64]; omega
      have hsub : ((m : Int) + 1 - 1) = m := by omega
      have hwl2 : IntKind.i64.wrap ((m : Int) + 1 - 1) = (m : Int) := by rw [hsub]; exact hwl
      have hneg : decide ((m : Int) < 0) = false := decide_eq_false (by omega)
      go_wp2
      go_ret
      rw [HQ.out]
      exact ⟨rfl, O2.out⟩
  have hcap2 : ¬ (cap - 1 = 0) := by omega
  have hcap3 : ¬ ((cap : Int) - 1 = 0) := by omega
  rcases snoc_or ns with hns | ⟨rl, y, hns⟩
  · subst hns
    have HQ : Hid (res = none) := Lib.hid (by rw [hres]; exact rdPart_empty (by rw [hx1]; rfl))
    obtain ⟨pn, cn, hvn, _⟩ := HR.out.nd.vrow ndC_len
    subst hvn
    clear hres hx1 hfl hle
    go_enter Tryd.func50, Tryd.ntmps50
    go_wp2_with fail
    refine HN.out.mono ?_
    rintro e w2 ⟨hv4, ho2⟩
    have R2 := Lib.hid (HR.out.kept ho2); have O2 := Lib.hid (H1.out.nil_trans ho2)
    clear ho2 HN HR H1 HV
    have q0 := cell_got R2.out.box 0; have lq := got_lt R2.out.box
    obtain ⟨v0, v1, rfl⟩ := numsR_form hv4
    have hv4 : NumsR (numsO r) w (.returned (.tuple #[v0, v1])) w2 := hv4
    cases hq : numsO r with
    | none =>
      rw [hq] at hv4
      obtain ⟨rfl, rfl⟩ := numsR_no hv4
      clear hv4 hq
      go_wp2
      go_ret
      rw [HQ.out]
      exact ⟨rfl, O2.out⟩
    | some ms =>
      rw [hq] at hv4
      obtain ⟨g, rfl, rfl, _⟩ := numsR_yes hv4
      clear hv4 hq
      go_wp2
      go_ret
      rw [HQ.out]
      exact ⟨rfl, O2.out⟩
  · subst hns
    have hrl : rl.length ≤ 100000 := by rw [hx1] at hle; simp at hle; omega
    have hxl : x.sc.nd.length = rl.length + 1 := by rw [hx1]; simp
    have hyc := hfl y.n (by rw [hx1]; simp)
    obtain ⟨gn, capn, hvn, hgB, hrown⟩ := own_at HR.out.nd
    subst hvn
    have HRN := Lib.hid hrown
    have HSG : Hid (∀ k, (Value.slice y.ps y.n.sg.length y.cs).ownBlock = some k → k < w.heap.size) := Lib.hid (fun k hk => by obtain ⟨_, _, hq⟩ := (HR.out.sg y (by simp)).block hk; exact hq.lt)
    have HSV : Hid (∀ k, (Value.slice y.pv y.n.sv.length y.cv).ownBlock = some k → k < w.heap.size) := Lib.hid (fun k hk => by obtain ⟨_, _, hq⟩ := (HR.out.sv y (by simp)).block hk; exact hq.lt)
    have HRES := Lib.hid hres
    have hwl : IntKind.i64.wrap (rl.length : Int) = (rl.length : Int) := by rw [IntKind.wrap_i64]; omega
    have hsub : ((rl.length : Int) + 1 - 1) = rl.length := by omega
    have hwl2 : IntKind.i64.wrap ((rl.length : Int) + 1 - 1) = (rl.length : Int) := by rw [hsub]; exact hwl
    have hneg : decide ((rl.length : Int) < 0) = false := decide_eq_false (by omega)
    have HX1 := Lib.hid hx1
    clear hres hfl hle hrown hx1
    go_enter Tryd.func50, Tryd.ntmps50
    go_wp2_with fail
    refine HN.out.mono ?_
    rintro e w2 ⟨hv4, ho2⟩
    have R2 := Lib.hid (HR.out.kept ho2); have O2 := Lib.hid (H1.out.nil_trans ho2); have V2 := Lib.hid (HV.out.kept ho2); have N2 := Lib.hid (HRN.out.kept ho2 (by simp))
    clear ho2 HN HR H1 HV HRN
    have q0 := cell_got R2.out.box 0; have q5 := cell_got R2.out.box 5; have lq := got_lt R2.out.box
    obtain ⟨v0, v1, rfl⟩ := numsR_form hv4
    have hv4 : NumsR (numsO r) w (.returned (.tuple #[v0, v1])) w2 := hv4
    cases hq : numsO r with
    | none =>
      rw [hq] at hv4
      obtain ⟨rfl, rfl⟩ := numsR_no hv4
      have HQ : Hid (res = none) := Lib.hid (by rw [HRES.out]; exact rdPart_none hq)
      clear hv4 hq
      go_wp2
      go_ret
      rw [HQ.out]
      exact ⟨rfl, O2.out⟩
    | some ms =>
      rw [hq] at hv4
      obtain ⟨g, hgw, hge, hrow⟩ : ∃ g, w.heap.size ≤ g ∧ _ ∧ RowAt itC 3 1 w2 g ms.length ms := hv4
      have hge' : v0 = .slice (some ⟨g, 0, none⟩) ms.length ms.length ∧ v1 = .bool true := by simpa using hge
      obtain ⟨rfl, rfl⟩ := hge'
      clear hge
      have HGW := Lib.hid hgw
      clear hgw
      rcases ms with _ | ⟨k, ms⟩
      · have HQ : Hid (res = none) := Lib.hid (by rw [HRES.out]; exact rdPart_nil hq)
        clear hq
        go_wp2
        go_ret
        rw [HQ.out]
        exact ⟨rfl, O2.out⟩
      · have M2 := Lib.hid hrow
        have c0 : w2.cell? ⟨g, 0, none⟩ = some (.int .i64 k) := hrow.cell (i := 0) (j := 0) itC_len rfl (by decide)
        have lg := hrow.lt
        have hml : (k :: ms).length = ms.length + 1 := by simp
        rw [hml]
        have hm0 : (((ms.length : Int) + 1) == 0) = false := by rw [beq_eq_false_iff_ne]; omega
        have hmp : (0 : Int) < (ms.length : Int) + 1 := by omega
        by_cases hk : k = (rl.length : Int)
        · have dk : (k != (rl.length : Int)) = false := by simp [hk]
          have HY := Lib.hid (HRES.out.trans (rdPart_yes hq ⟨by omega, by rw [hk, hxl]; omega⟩))
          clear hq HRES
          by_cases hok : ms.length = 1 ∧ x.at_ = 3
          · obtain ⟨hm1, h3⟩ := hok
            obtain ⟨a, rfl⟩ : ∃ a, ms = [a] := by
              rcases ms with _ | ⟨a, _ | ⟨p, l⟩⟩
              · simp at hm1
              · exact ⟨a, rfl⟩
              · simp at hm1
            have HQ : Hid (res = some ⟨{ x.sc with nd := lastN x.sc.nd (fun n => { n with ph := a }) }, 4⟩) := Lib.hid (by rw [HY.out]; exact if_pos ⟨rfl, h3⟩)
            have c1 : w2.cell? ⟨g, 1, none⟩ = some (.int .i64 a) := hrow.cell (i := 1) (j := 0) itC_len rfl (by decide)
            have cP : w2.cell? ⟨gn, rl.length * 7, none⟩ = some (.int .i64 y.n.ph) := N2.out.cell (i := rl.length) (j := 0) ndC_len row_last (by decide)
            have lP := N2.out.lt; have fP := N2.out.frozen (rl.length * 7); have fB := frozen_got R2.out.box 5
            have hgb : gn ≠ b := fun e => R2.out.nd.ne_box R2.out.box (by decide) (by rw [e]; rfl)
            have hbg : b ≠ gn := fun e => hgb e.symm
            obtain ⟨bw', off', hp', s0, lw'⟩ := V2.out.str (Only.refl [] w2) (k := 0) (by simp)
            cases hp'
            simp only [Nat.add_zero, List.getD_cons_zero] at s0
            have tO : (bstr wOsc).toList = [111, 115, 99] := by rw [Lib.toList_data]; rfl
            generalize bstr wOsc = S at s0 tO
            have e3 : ((x.at_ : Int) == 3) = true := by rw [beq_iff_eq]; omega
            rw [hm1]
            clear hm1 HY hrow hm0 hmp hml M2
            go_wp2_with fail
            have hSt := R2.out.setN (y' := ⟨{ y.n with ph := a }, y.ps, y.cs, y.pv, y.cv⟩) (x' := (⟨{ x.sc with nd := lastN x.sc.nd (fun n => { n with ph := a }) }, x.at_⟩ : SSt)) (j := 0) (u := .int .i64 a) (Only.refl [] w2) (by simp) (by simp) (by simp) (by simp) (by simp) (by simp) (by simp)
              (R2.out.sg y (by simp)) (R2.out.sv y (by simp)) (fun z hz => R2.out.apN rl y rfl z hz) (by decide) rfl (by rw [show ((⟨{ x.sc with nd := lastN x.sc.nd (fun n => { n with ph := a }) }, x.at_⟩ : SSt)).sc.nd = lastN x.sc.nd (fun n => { n with ph := a }) from rfl, HX1.out, List.map_append]; exact lastN_snoc _ _ _) rfl rfl rfl rfl rfl
            obtain ⟨gn', capn', he1, hgB', hgs, hRd⟩ := hSt
            cases he1
            rw [Nat.add_zero] at hRd
            go_ret
            rw [HQ.out]
            refine ⟨rfl, H0.out, ?_, _, ls, _, vl, vf, hRd.cell (x' := (⟨{ x.sc with nd := lastN x.sc.nd (fun n => { n with ph := a }) }, 4⟩ : SSt)) ((Only.refl [b] _).setCell (.inl (by simp)) _) (setCell_got _ hRd.box) rfl rfl rfl⟩
            exact (O2.out.setCell (.inr hgB') _).setCell (.inl (by simp)) _
          · have HQ : Hid (res = none) := Lib.hid (by
              rw [HY.out]
              rcases ms with _ | ⟨a, _ | ⟨p, _ | ⟨q, l⟩⟩⟩
              · rfl
              · show (if _ then _ else if _ then _ else none) = none; rw [if_neg (fun h => hok ⟨rfl, h.2⟩), if_neg (fun h => absurd h.1 (by decide))]
              · exact if_neg (fun h => absurd h.1 (by decide))
              · rfl)
            clear HY
            obtain ⟨bw', off', hp', s0, lw'⟩ := V2.out.str (Only.refl [] w2) (k := 0) (by simp)
            cases hp'
            simp only [Nat.add_zero, List.getD_cons_zero] at s0
            have tO : (bstr wOsc).toList = [111, 115, 99] := by rw [Lib.toList_data]; rfl
            generalize bstr wOsc = S at s0 tO
            by_cases h3 : x.at_ = 3
            · have hn2 : ¬ ms.length = 1 := fun h => hok ⟨h, h3⟩
              have e3 : ((x.at_ : Int) == 3) = true := by rw [beq_iff_eq]; omega
              have z2 : (((ms.length : Int) + 1) == 2) = false := by rw [beq_eq_false_iff_ne]; omega
              clear hok h3 hn2 hrow M2
              go_wp2
              go_ret
              rw [HQ.out]
              exact ⟨rfl, O2.out⟩
            · have e3 : ((x.at_ : Int) == 3) = false := by rw [beq_eq_false_iff_ne]; omega
              clear hok h3 hrow M2
              go_wp2
              go_ret
              rw [HQ.out]
              exact ⟨rfl, O2.out⟩
        · have dk : (k != (rl.length : Int)) = true := by simp [hk]
          have HQ : Hid (res = none) := Lib.hid (by rw [HRES.out]; exact rdPart_no hq (fun q => hk (by have := q.2; omega)))
          clear hq hk
          go_wp2
          go_ret
          rw [HQ.out]
          exact ⟨rfl, O2.out⟩
set_option maxRecDepth 100000 in
set_option maxHeartbeats 8000000 in
theorem kPartSeg {W0 : Two} {w : World} {b : Nat} {x : SSt} {p : Option Addr} {n cap : Nat} {r : List (List UInt8)} (h : RdX W0 b w x) (hsz : SLe 100000 x) (hv : VRow strC 1 w p n cap (wSeg :: r)) (hn : n ≤ 100000) (hl : ∀ y ∈ wSeg :: r, y.length ≤ 1000000) (he : Env w) :
    Calls Tryd.prog 50 #[.pointer (some ⟨b, 0, none⟩), .slice p n cap] w fun e w' => RdR W0 b (rdPart x wSeg r) e w' := by
  have hlen := hv.len
  subst hlen
  obtain ⟨hb0, hb1, ns, ls, vn, vl, vf, hR⟩ := h
  have hfl := hsz.sg
  have hx1 := hR.hn; have hle := hsz.nd
  have HR := Lib.hid hR; have HV := Lib.hid hv; have HE := Lib.hid he; have HL := Lib.hid hl; have H0 := Lib.hid hb0; have H1 := Lib.hid hb1
  clear hR hv he hl hb0 hb1 hsz
  obtain ⟨bw, off, hp, s0, lw⟩ := HV.out.str (Only.refl [] w) (k := 0) (by simp)
  subst hp
  have hcp : r.length + 1 ≤ cap := HV.out.le
  have HSUB := Lib.hid (HV.out.sub 1 (r.length + 1) (by omega) (by simp))
  rw [show (List.take (r.length + 1) (wSeg :: r)).drop 1 = r by simp, Nat.add_sub_cancel] at HSUB
  have hsl : ∀ y ∈ r, y.length ≤ 1000000 := fun y hy => HL.out y (by simp [hy])
  have hnn : r.length ≤ 100000 := by simp at hn; omega
  have HN : Hid (Calls Tryd.prog 65 #[.slice (some ⟨bw, off + 1, none⟩) r.length (cap - 1)] w fun e w' => NumsR (numsO r) w e w' ∧ Only [] w w') := Lib.hid (pNumbers HSUB.out hnn hsl HE.out)
  have hWL : (wSeg :: r).length = r.length + 1 := by simp
  rw [hWL] at hn ⊢
  have hrn : r.length ≤ 100000 := by omega
  have HE0 := HE
  clear HSUB HE hsl s0
  have hc1 : (1 : Int) ≤ (r.length : Int) + 1 := by omega
  have hc2 : (r.length : Int) + 1 ≤ (cap : Int) := by omega
  obtain ⟨res, hres⟩ : ∃ res, res = rdPart x wSeg r := ⟨_, rfl⟩
  rw [← hres]
  by_cases hcap : cap = 1
  · subst hcap
    obtain rfl : r = [] := by
      rcases r with _ | ⟨q, r⟩
      · rfl
      · simp at hcp
    have HQ : Hid (res = none) := Lib.hid (by rw [hres]; exact rdPart_nil rfl)
    have HV0 : VRow strC 1 w (some ⟨bw, off, none⟩) 0 0 [] := ⟨rfl, Nat.le_refl _, Nat.zero_le _, by simp, by simp⟩
    have HN0 := Lib.hid (pNumbers HV0 (by decide) (by simp) HE0.out)
    obtain ⟨pn, cn, hvn, _⟩ := HR.out.nd.vrow ndC_len
    subst hvn
    have hsn : ∀ m, ns.length = m + 1 → m ≤ 100000 := fun m h => by rw [hx1, List.length_map] at hle; omega
    clear hres hx1 hfl hle HV0 HN
    go_enter Tryd.func50, Tryd.ntmps50
    go_wp2_with fail
    refine HN0.out.mono ?_
    rintro e w2 ⟨hv4, ho2⟩
    have R2 := Lib.hid (HR.out.kept ho2); have O2 := Lib.hid (H1.out.nil_trans ho2)
    clear ho2 HN0 HR H1 HV HE0
    have q0 := cell_got R2.out.box 0; have lq := got_lt R2.out.box
    obtain ⟨g, h4, _⟩ : ∃ g, e = .returned (.tuple #[.slice (some ⟨g, 0, none⟩) 0 0, .bool true]) ∧ True := by obtain ⟨g, _, h, _⟩ := hv4; exact ⟨g, h, trivial⟩
    subst h4
    clear hv4
    by_cases hz : ns.length = 0
    · have dz : ((ns.length : Int) = 0) := by omega
      rw [hz] at q0
      go_wp2
      go_ret
      rw [HQ.out]
      exact ⟨rfl, O2.out⟩
    · obtain ⟨m, hm⟩ : ∃ m, ns.length = m + 1 := ⟨ns.length - 1, by omega⟩
      rw [hm] at q0
      have hm2 : m ≤ 100000 := hsn m hm
      have hwl : IntKind.i64.wrap (m : Int) = (m : Int) := by rw [IntKind.wrap_i64]; omega
      have hsub : ((m : Int) + 1 - 1) = m := by omega
      have hwl2 : IntKind.i64.wrap ((m : Int) + 1 - 1) = (m : Int) := by rw [hsub]; exact hwl
      have hneg : decide ((m : Int) < 0) = false := decide_eq_false (by omega)
      go_wp2
      go_ret
      rw [HQ.out]
      exact ⟨rfl, O2.out⟩
  have hcap2 : ¬ (cap - 1 = 0) := by omega
  have hcap3 : ¬ ((cap : Int) - 1 = 0) := by omega
  rcases snoc_or ns with hns | ⟨rl, y, hns⟩
  · subst hns
    have HQ : Hid (res = none) := Lib.hid (by rw [hres]; exact rdPart_empty (by rw [hx1]; rfl))
    obtain ⟨pn, cn, hvn, _⟩ := HR.out.nd.vrow ndC_len
    subst hvn
    clear hres hx1 hfl hle
    go_enter Tryd.func50, Tryd.ntmps50
    go_wp2_with fail
    refine HN.out.mono ?_
    rintro e w2 ⟨hv4, ho2⟩
    have R2 := Lib.hid (HR.out.kept ho2); have O2 := Lib.hid (H1.out.nil_trans ho2)
    clear ho2 HN HR H1 HV
    have q0 := cell_got R2.out.box 0; have lq := got_lt R2.out.box
    obtain ⟨v0, v1, rfl⟩ := numsR_form hv4
    have hv4 : NumsR (numsO r) w (.returned (.tuple #[v0, v1])) w2 := hv4
    cases hq : numsO r with
    | none =>
      rw [hq] at hv4
      obtain ⟨rfl, rfl⟩ := numsR_no hv4
      clear hv4 hq
      go_wp2
      go_ret
      rw [HQ.out]
      exact ⟨rfl, O2.out⟩
    | some ms =>
      rw [hq] at hv4
      obtain ⟨g, rfl, rfl, _⟩ := numsR_yes hv4
      clear hv4 hq
      go_wp2
      go_ret
      rw [HQ.out]
      exact ⟨rfl, O2.out⟩
  · subst hns
    have hrl : rl.length ≤ 100000 := by rw [hx1] at hle; simp at hle; omega
    have hxl : x.sc.nd.length = rl.length + 1 := by rw [hx1]; simp
    have hyc := hfl y.n (by rw [hx1]; simp)
    obtain ⟨gn, capn, hvn, hgB, hrown⟩ := own_at HR.out.nd
    subst hvn
    have HRN := Lib.hid hrown
    have HSG : Hid (∀ k, (Value.slice y.ps y.n.sg.length y.cs).ownBlock = some k → k < w.heap.size) := Lib.hid (fun k hk => by obtain ⟨_, _, hq⟩ := (HR.out.sg y (by simp)).block hk; exact hq.lt)
    have HSV : Hid (∀ k, (Value.slice y.pv y.n.sv.length y.cv).ownBlock = some k → k < w.heap.size) := Lib.hid (fun k hk => by obtain ⟨_, _, hq⟩ := (HR.out.sv y (by simp)).block hk; exact hq.lt)
    have HRES := Lib.hid hres
    have hwl : IntKind.i64.wrap (rl.length : Int) = (rl.length : Int) := by rw [IntKind.wrap_i64]; omega
    have hsub : ((rl.length : Int) + 1 - 1) = rl.length := by omega
    have hwl2 : IntKind.i64.wrap ((rl.length : Int) + 1 - 1) = (rl.length : Int) := by rw [hsub]; exact hwl
    have hneg : decide ((rl.length : Int) < 0) = false := decide_eq_false (by omega)
    have HX1 := Lib.hid hx1
    clear hres hfl hle hrown hx1
    go_enter Tryd.func50, Tryd.ntmps50
    go_wp2_with fail
    refine HN.out.mono ?_
    rintro e w2 ⟨hv4, ho2⟩
    have R2 := Lib.hid (HR.out.kept ho2); have O2 := Lib.hid (H1.out.nil_trans ho2); have V2 := Lib.hid (HV.out.kept ho2); have N2 := Lib.hid (HRN.out.kept ho2 (by simp))
    clear ho2 HN HR H1 HV HRN
    have q0 := cell_got R2.out.box 0; have q5 := cell_got R2.out.box 5; have lq := got_lt R2.out.box
    obtain ⟨v0, v1, rfl⟩ := numsR_form hv4
    have hv4 : NumsR (numsO r) w (.returned (.tuple #[v0, v1])) w2 := hv4
    cases hq : numsO r with
    | none =>
      rw [hq] at hv4
      obtain ⟨rfl, rfl⟩ := numsR_no hv4
      have HQ : Hid (res = none) := Lib.hid (by rw [HRES.out]; exact rdPart_none hq)
      clear hv4 hq
      go_wp2
      go_ret
      rw [HQ.out]
      exact ⟨rfl, O2.out⟩
    | some ms =>
      rw [hq] at hv4
      obtain ⟨g, hgw, hge, hrow⟩ : ∃ g, w.heap.size ≤ g ∧ _ ∧ RowAt itC 3 1 w2 g ms.length ms := hv4
      have hge' : v0 = .slice (some ⟨g, 0, none⟩) ms.length ms.length ∧ v1 = .bool true := by simpa using hge
      obtain ⟨rfl, rfl⟩ := hge'
      clear hge
      have HGW := Lib.hid hgw
      clear hgw
      rcases ms with _ | ⟨k, ms⟩
      · have HQ : Hid (res = none) := Lib.hid (by rw [HRES.out]; exact rdPart_nil hq)
        clear hq
        go_wp2
        go_ret
        rw [HQ.out]
        exact ⟨rfl, O2.out⟩
      · have M2 := Lib.hid hrow
        have c0 : w2.cell? ⟨g, 0, none⟩ = some (.int .i64 k) := hrow.cell (i := 0) (j := 0) itC_len rfl (by decide)
        have lg := hrow.lt
        have hml : (k :: ms).length = ms.length + 1 := by simp
        rw [hml]
        have hm0 : (((ms.length : Int) + 1) == 0) = false := by rw [beq_eq_false_iff_ne]; omega
        have hmp : (0 : Int) < (ms.length : Int) + 1 := by omega
        by_cases hk : k = (rl.length : Int)
        · have dk : (k != (rl.length : Int)) = false := by simp [hk]
          have HY := Lib.hid (HRES.out.trans (rdPart_yes hq ⟨by omega, by rw [hk, hxl]; omega⟩))
          clear hq HRES
          by_cases hok : ms.length = 2 ∧ x.at_ = 4
          · obtain ⟨hm1, h4⟩ := hok
            obtain ⟨a, p, rfl⟩ : ∃ a p, ms = [a, p] := by
              rcases ms with _ | ⟨a, _ | ⟨p, _ | ⟨q, l⟩⟩⟩
              · simp at hm1
              · simp at hm1
              · exact ⟨a, p, rfl⟩
              · simp at hm1
            have HQ : Hid (res = some ⟨{ x.sc with nd := lastN x.sc.nd (fun n => { n with sg := n.sg ++ [⟨a, p⟩] }) }, 4⟩) := Lib.hid (by rw [HY.out]; exact if_pos ⟨rfl, h4⟩)
            have c1 : w2.cell? ⟨g, 1, none⟩ = some (.int .i64 a) := hrow.cell (i := 1) (j := 0) itC_len rfl (by decide)
            have c2 : w2.cell? ⟨g, 2, none⟩ = some (.int .i64 p) := hrow.cell (i := 2) (j := 0) itC_len rfl (by decide)
            obtain ⟨bw', off', hp', s0, lw'⟩ := V2.out.str (Only.refl [] w2) (k := 0) (by simp)
            cases hp'
            simp only [Nat.add_zero, List.getD_cons_zero] at s0
            have tO : (bstr wSeg).toList = [115, 101, 103] := by rw [Lib.toList_data]; rfl
            generalize bstr wSeg = S at s0 tO
            have e4 : ((x.at_ : Int) == 4) = true := by rw [beq_iff_eq]; omega
            have E4 := Lib.hid h4
            rw [hm1]
            clear hm1 HY hrow hm0 hmp hml M2 h4
            go_wp2_with fail
            have cS : w2.cell? ⟨gn, rl.length * 7 + 1, none⟩ = some (.slice y.ps y.n.sg.length y.cs) := N2.out.cell (i := rl.length) (j := 1) ndC_len row_last (by decide)
            have lP := N2.out.lt
            have HCO := Lib.hid (R2.out.sg y (by simp))
            obtain ⟨T, hT⟩ : ∃ T, T = (Value.slice y.ps y.n.sg.length y.cs).ownBlock.toList := ⟨_, rfl⟩
            have hbT : b ∉ T := fun hm => by rw [hT] at hm; exact HCO.out.ne_box R2.out.box (by decide) (by simpa using hm)
            have hnT : gn ∉ T := fun hm => by
              rw [hT] at hm
              obtain ⟨_, _, hq⟩ := HCO.out.block (by simpa using hm)
              exact hq.ne N2.out (by decide) rfl
            have hgT : g ∉ T := fun hm => by
              rw [hT] at hm
              have h1 := HSG.out g (by simpa using hm); have h2 := HGW.out
              omega
            have HTE := Lib.hid hT
            clear hT
            refine wp_region_calm2 [0, 1, 2, 3, 4, 5, 6, 7, 8, 9, 10, 11, 12] [15, 16, 17, 18] (OnlyC T w2) (by kernel_rfl) (by kernel_rfl) ?_
            simp only [pick, List.map_cons, List.map_nil, List.getD_cons_succ, List.getD_cons_zero]
            iterate 13 (refine wpCalm_step (fun K hK => ?_); go_simp; refine hK _ ?_; clear hK K)
            refine wpCalm_nil ?_
            refine Rest.by (X := Nat × Nat) (fun q a => ((((a.put (some 104) (.slice (some ⟨w2.heap.size, 0, none⟩) 1 1)).put (some 105) (.slice (some ⟨q.1, 0, none⟩) (y.n.sg.length + 1) q.2)).put (some 106) (.pointer (some ⟨gn, rl.length * 7, none⟩))).put (some 107) (.pointer (some ⟨gn, rl.length * 7, none⟩))).put (some 108) (.pointer (some ⟨gn, rl.length * 7 + 1, none⟩)))
              (fun q w' => Ob b W0 w' ∧ RdW W0.heap.size b w' (⟨{ x.sc with nd := lastN x.sc.nd (fun n => { n with sg := n.sg ++ [⟨a, p⟩] }) }, 4⟩ : SSt) (rl ++ [⟨{ y.n with sg := y.n.sg ++ [⟨a, p⟩] }, some ⟨q.1, 0, none⟩, q.2, y.pv, y.cv⟩]) ls (.slice (some ⟨gn, 0, none⟩) (rl.length + 1) capn) vl vf) ?_ ?_
            · rintro ⟨g9, cap9⟩ w9 ⟨ho9, hr9⟩
              simp only [Act.put, List.setIfInBounds_toArray, List.set_cons_succ, List.set_cons_zero]
              have O9 := Lib.hid ho9; have R9 := Lib.hid hr9
              clear ho9 hr9
              go_wp2
              go_ret
              rw [HQ.out]
              exact ⟨rfl, H0.out, O9.out, _, ls, _, vl, vf, R9.out⟩
            · refine wpAnyC_next [13] (by kernel_rfl) (by simp) (.inr (onlyC (Only.refl T w2).drew)) ?_
              simp only [List.mem_cons, List.not_mem_nil, or_false, forall_eq]
              refine wpOp_one rfl ?_
              go_wp2
              simp only [nrm]
              refine allocd_abs (G := wpAnyC _ _ _ _ _ _ _ _ _) ?_
              intro wa hna hoa hsa
              have MA := Lib.hid hna; have oA := Lib.hid hoa; have RA := Lib.hid (R2.out.kept hoa); have OA := Lib.hid (O2.out.nil_trans hoa); have CA := Lib.hid (HCO.out.kept hoa)
              clear hna hsa hoa
              refine wpAnyC_next [14] (by kernel_rfl) (by simp) (.inr (onlyC (oA.out.mono (by simp)))) ?_
              simp only [List.mem_cons, List.not_mem_nil, or_false, forall_eq]
              refine wpOp_one rfl ?_
              refine wpList_append_B (B := W0.heap.size) rfl _ _ 39 rfl 92 (.agg #[.int .i64 0, .int .i64 0]) 2 16 Tryd.underlying39 (by kernel_rfl) rfl (by decide) sgC_len sgC_one y.n.sg (.slice y.ps y.n.sg.length y.cs) rfl CA.out w2.heap.size (⟨a, p⟩ : Sg) rfl (fun j u hj => ?_) (by simp [maxLen]; omega) (by omega) (by have := OA.out.size; omega) ?_
              · rw [cell_got MA.out]; rw [← hj]; simp [sgC]
              · intro g9 cap9 wb hown hob hg9
                rw [← HTE.out] at hob
                have WB := Lib.hid hown; have oB := Lib.hid hob; have oS := Lib.hid ((oA.out.mono (S' := T) (by simp)).trans hob (fun x h => .inl h)); have HG9 := Lib.hid hg9
                clear hown hob hg9
                simp only [wpList, nrm]
                refine wpAnyC_next [15] (by kernel_rfl) (by simp) (.inr (onlyC oS.out)) ?_
                simp only [List.mem_cons, List.not_mem_nil, or_false, forall_eq]
                refine wpOp_one rfl ?_
                go_wp2
                simp only [nrm]
                refine wpAnyC_next [16] (by kernel_rfl) (by simp) (.inr (onlyC oS.out)) ?_
                simp only [List.mem_cons, List.not_mem_nil, or_false, forall_eq]
                refine wpOp_one rfl ?_
                go_wp2
                simp only [nrm]
                refine wpAnyC_next [17] (by kernel_rfl) (by simp) (.inr (onlyC oS.out)) ?_
                simp only [List.mem_cons, List.not_mem_nil, or_false, forall_eq]
                refine wpOp_one rfl ?_
                go_wp2
                simp only [nrm]
                refine wpAnyC_next [18] (by kernel_rfl) (by simp) (.inr (onlyC oS.out)) ?_
                simp only [List.mem_cons, List.not_mem_nil, or_false, forall_eq]
                refine wpOp_one rfl ?_
                have NB := Lib.hid (N2.out.kept oS.out hnT)
                have cD : wb.cell? ⟨gn, rl.length * 7 + 1, none⟩ = some (.slice y.ps y.n.sg.length y.cs) := NB.out.cell (i := rl.length) (j := 1) ndC_len row_last (by decide)
                have fD := NB.out.frozen (rl.length * 7 + 1); have lD := NB.out.lt
                go_wp2
                simp only [nrm]
                clear cD fD lD
                have hz := oA.out.size
                have hSt := RA.out.setN (y' := ⟨{ y.n with sg := y.n.sg ++ [⟨a, p⟩] }, some ⟨g9, 0, none⟩, cap9, y.pv, y.cv⟩) (x' := (⟨{ x.sc with nd := lastN x.sc.nd (fun n => { n with sg := n.sg ++ [⟨a, p⟩] }) }, x.at_⟩ : SSt)) (j := 1) (u := .slice (some ⟨g9, 0, none⟩) (y.n.sg.length + 1) cap9) oB.out hbT
                  (fun k hk => by rw [HTE.out] at hk; exact RA.out.nd.ne_of CA.out (by decide) k hk) (fun k hk => by rw [HTE.out] at hk; exact RA.out.lk.ne_of CA.out (by decide) k hk) (fun k hk => by rw [HTE.out] at hk; exact RA.out.ft.ne_of CA.out (by decide) k hk)
                  (fun z hz k hk => by rw [HTE.out] at hk; exact (RA.out.ch z hz).ne_of CA.out (by decide) k hk)
                  (fun z hz k hk => by rw [HTE.out] at hk; exact ptr_ne (RA.out.sg z (by simp [hz])) CA.out (RA.out.apN rl y rfl z hz).1 hk) (fun z hz k hk => by rw [HTE.out] at hk; exact (RA.out.sv z (by simp [hz])).ne_of CA.out (by decide) k hk)
                  (by simpa using WB.out) ((RA.out.sv y (by simp)).keptS oB.out (fun k hk => by rw [HTE.out] at hk; exact (RA.out.sv y (by simp)).ne_of CA.out (by decide) k hk))
                  (fun z hz => ⟨.inl (ptr_new (RA.out.sg z (by simp [hz])) CA.out (RA.out.apN rl y rfl z hz).1 (Nat.le_refl _) HG9.out), (RA.out.apN rl y rfl z hz).2⟩) (by decide) (by simp [ndC]) (by rw [show ((⟨{ x.sc with nd := lastN x.sc.nd (fun n => { n with sg := n.sg ++ [⟨a, p⟩] }) }, x.at_⟩ : SSt)).sc.nd = lastN x.sc.nd (fun n => { n with sg := n.sg ++ [⟨a, p⟩] }) from rfl, HX1.out, List.map_append]; exact lastN_snoc _ _ _) rfl rfl rfl rfl rfl
                obtain ⟨gn', capn', he1, hgB', hgs, hRd⟩ := hSt
                cases he1
                have hOn : Ob b W0 wb := Ob.row (S := T) OA.out oB.out (fun k hk => by
                  rw [HTE.out] at hk
                  exact CA.out.blockC (by simpa using hk))
                refine wpAnyC_done (by kernel_rfl) (.inl (late_of (by kernel_rfl))) ⟨(g9, cap9), rfl, hOn.setCell (.inr hgB') _, ?_⟩
                rw [E4.out] at hRd
                exact hRd
          · have HQ : Hid (res = none) := Lib.hid (by
              rw [HY.out]
              rcases ms with _ | ⟨a, _ | ⟨p, _ | ⟨q, l⟩⟩⟩
              · rfl
              · show (if _ then _ else if _ then _ else none) = none; rw [if_neg (fun h => absurd h.1 (by decide)), if_neg (fun h => absurd h.1 (by decide))]
              · exact if_neg (fun h => hok ⟨rfl, h.2⟩)
              · rfl)
            clear HY
            obtain ⟨bw', off', hp', s0, lw'⟩ := V2.out.str (Only.refl [] w2) (k := 0) (by simp)
            cases hp'
            simp only [Nat.add_zero, List.getD_cons_zero] at s0
            have tO : (bstr wSeg).toList = [115, 101, 103] := by rw [Lib.toList_data]; rfl
            generalize bstr wSeg = S at s0 tO
            by_cases h4 : x.at_ = 4
            · have hn2 : ¬ ms.length = 2 := fun h => hok ⟨h, h4⟩
              have e4 : ((x.at_ : Int) == 4) = true := by rw [beq_iff_eq]; omega
              have z3 : (((ms.length : Int) + 1) == 3) = false := by rw [beq_eq_false_iff_ne]; omega
              clear hok h4 hn2 hrow M2
              go_wp2
              go_ret
              rw [HQ.out]
              exact ⟨rfl, O2.out⟩
            · have e4 : ((x.at_ : Int) == 4) = false := by rw [beq_eq_false_iff_ne]; omega
              clear hok h4 hrow M2
              go_wp2
              go_ret
              rw [HQ.out]
              exact ⟨rfl, O2.out⟩
        · have dk : (k != (rl.length : Int)) = true := by simp [hk]
          have HQ : Hid (res = none) := Lib.hid (by rw [HRES.out]; exact rdPart_no hq (fun q => hk (by have := q.2; omega)))
          clear hq hk
          go_wp2
          go_ret
          rw [HQ.out]
          exact ⟨rfl, O2.out⟩
set_option maxRecDepth 100000 in
set_option maxHeartbeats 8000000 in
theorem kPartUse {W0 : Two} {w : World} {b : Nat} {x : SSt} {p : Option Addr} {n cap : Nat} {r : List (List UInt8)} (h : RdX W0 b w x) (hsz : SLe 100000 x) (hv : VRow strC 1 w p n cap (wUse :: r)) (hn : n ≤ 100000) (hl : ∀ y ∈ wUse :: r, y.length ≤ 1000000) (he : Env w) :
    Calls Tryd.prog 50 #[.pointer (some ⟨b, 0, none⟩), .slice p n cap] w fun e w' => RdR W0 b (rdPart x wUse r) e w' := by
  have hlen := hv.len
  subst hlen
  obtain ⟨hb0, hb1, ns, ls, vn, vl, vf, hR⟩ := h
  have hfl := hsz.sg
  have hx1 := hR.hn; have hle := hsz.nd
  have HR := Lib.hid hR; have HV := Lib.hid hv; have HE := Lib.hid he; have HL := Lib.hid hl; have H0 := Lib.hid hb0; have H1 := Lib.hid hb1
  clear hR hv he hl hb0 hb1 hsz
  obtain ⟨bw, off, hp, s0, lw⟩ := HV.out.str (Only.refl [] w) (k := 0) (by simp)
  subst hp
  have hcp : r.length + 1 ≤ cap := HV.out.le
  have HSUB := Lib.hid (HV.out.sub 1 (r.length + 1) (by omega) (by simp))
  rw [show (List.take (r.length + 1) (wUse :: r)).drop 1 = r by simp, Nat.add_sub_cancel] at HSUB
  have hsl : ∀ y ∈ r, y.length ≤ 1000000 := fun y hy => HL.out y (by simp [hy])
  have hnn : r.length ≤ 100000 := by simp at hn; omega
  have HN : Hid (Calls Tryd.prog 65 #[.slice (some ⟨bw, off + 1, none⟩) r.length (cap - 1)] w fun e w' => NumsR (numsO r) w e w' ∧ Only [] w w') := Lib.hid (pNumbers HSUB.out hnn hsl HE.out)
  have hWL : (wUse :: r).length = r.length + 1 := by simp
  rw [hWL] at hn ⊢
  have hrn : r.length ≤ 100000 := by omega
  have HE0 := HE
  clear HSUB HE hsl s0
  have hc1 : (1 : Int) ≤ (r.length : Int) + 1 := by omega
  have hc2 : (r.length : Int) + 1 ≤ (cap : Int) := by omega
  obtain ⟨res, hres⟩ : ∃ res, res = rdPart x wUse r := ⟨_, rfl⟩
  rw [← hres]
  by_cases hcap : cap = 1
  · subst hcap
    obtain rfl : r = [] := by
      rcases r with _ | ⟨q, r⟩
      · rfl
      · simp at hcp
    have HQ : Hid (res = none) := Lib.hid (by rw [hres]; exact rdPart_nil rfl)
    have HV0 : VRow strC 1 w (some ⟨bw, off, none⟩) 0 0 [] := ⟨rfl, Nat.le_refl _, Nat.zero_le _, by simp, by simp⟩
    have HN0 := Lib.hid (pNumbers HV0 (by decide) (by simp) HE0.out)
    obtain ⟨pn, cn, hvn, _⟩ := HR.out.nd.vrow ndC_len
    subst hvn
    have hsn : ∀ m, ns.length = m + 1 → m ≤ 100000 := fun m h => by rw [hx1, List.length_map] at hle; omega
    clear hres hx1 hfl hle HV0 HN
    go_enter Tryd.func50, Tryd.ntmps50
    go_wp2_with fail
    refine HN0.out.mono ?_
    rintro e w2 ⟨hv4, ho2⟩
    have R2 := Lib.hid (HR.out.kept ho2); have O2 := Lib.hid (H1.out.nil_trans ho2)
    clear ho2 HN0 HR H1 HV HE0
    have q0 := cell_got R2.out.box 0; have lq := got_lt R2.out.box
    obtain ⟨g, h4, _⟩ : ∃ g, e = .returned (.tuple #[.slice (some ⟨g, 0, none⟩) 0 0, .bool true]) ∧ True := by obtain ⟨g, _, h, _⟩ := hv4; exact ⟨g, h, trivial⟩
    subst h4
    clear hv4
    by_cases hz : ns.length = 0
    · have dz : ((ns.length : Int) = 0) := by omega
      rw [hz] at q0
      go_wp2
      go_ret
      rw [HQ.out]
      exact ⟨rfl, O2.out⟩
    · obtain ⟨m, hm⟩ : ∃ m, ns.length = m + 1 := ⟨ns.length - 1, by omega⟩
      rw [hm] at q0
      have hm2 : m ≤ 100000 := hsn m hm
      have hwl : IntKind.i64.wrap (m : Int) = (m : Int) := by rw [IntKind.wrap_i64]; omega
      have hsub : ((m : Int) + 1 - 1) = m := by omega
      have hwl2 : IntKind.i64.wrap ((m : Int) + 1 - 1) = (m : Int) := by rw [hsub]; exact hwl
      have hneg : decide ((m : Int) < 0) = false := decide_eq_false (by omega)
      go_wp2
      go_ret
      rw [HQ.out]
      exact ⟨rfl, O2.out⟩
  have hcap2 : ¬ (cap - 1 = 0) := by omega
  have hcap3 : ¬ ((cap : Int) - 1 = 0) := by omega
  rcases snoc_or ns with hns | ⟨rl, y, hns⟩
  · subst hns
    have HQ : Hid (res = none) := Lib.hid (by rw [hres]; exact rdPart_empty (by rw [hx1]; rfl))
    obtain ⟨pn, cn, hvn, _⟩ := HR.out.nd.vrow ndC_len
    subst hvn
    clear hres hx1 hfl hle
    go_enter Tryd.func50, Tryd.ntmps50
    go_wp2_with fail
    refine HN.out.mono ?_
    rintro e w2 ⟨hv4, ho2⟩
    have R2 := Lib.hid (HR.out.kept ho2); have O2 := Lib.hid (H1.out.nil_trans ho2)
    clear ho2 HN HR H1 HV
    have q0 := cell_got R2.out.box 0; have lq := got_lt R2.out.box
    obtain ⟨v0, v1, rfl⟩ := numsR_form hv4
    have hv4 : NumsR (numsO r) w (.returned (.tuple #[v0, v1])) w2 := hv4
    cases hq : numsO r with
    | none =>
      rw [hq] at hv4
      obtain ⟨rfl, rfl⟩ := numsR_no hv4
      clear hv4 hq
      go_wp2
      go_ret
      rw [HQ.out]
      exact ⟨rfl, O2.out⟩
    | some ms =>
      rw [hq] at hv4
      obtain ⟨g, rfl, rfl, _⟩ := numsR_yes hv4
      clear hv4 hq
      go_wp2
      go_ret
      rw [HQ.out]
      exact ⟨rfl, O2.out⟩
  · subst hns
    have hrl : rl.length ≤ 100000 := by rw [hx1] at hle; simp at hle; omega
    have hxl : x.sc.nd.length = rl.length + 1 := by rw [hx1]; simp
    have hyc := hfl y.n (by rw [hx1]; simp)
    obtain ⟨gn, capn, hvn, hgB, hrown⟩ := own_at HR.out.nd
    subst hvn
    have HRN := Lib.hid hrown
    have HSG : Hid (∀ k, (Value.slice y.ps y.n.sg.length y.cs).ownBlock = some k → k < w.heap.size) := Lib.hid (fun k hk => by obtain ⟨_, _, hq⟩ := (HR.out.sg y (by simp)).block hk; exact hq.lt)
    have HSV : Hid (∀ k, (Value.slice y.pv y.n.sv.length y.cv).ownBlock = some k → k < w.heap.size) := Lib.hid (fun k hk => by obtain ⟨_, _, hq⟩ := (HR.out.sv y (by simp)).block hk; exact hq.lt)
    have HRES := Lib.hid hres
    have hwl : IntKind.i64.wrap (rl.length : Int) = (rl.length : Int) := by rw [IntKind.wrap_i64]; omega
    have hsub : ((rl.length : Int) + 1 - 1) = rl.length := by omega
    have hwl2 : IntKind.i64.wrap ((rl.length : Int) + 1 - 1) = (rl.length : Int) := by rw [hsub]; exact hwl
    have hneg : decide ((rl.length : Int) < 0) = false := decide_eq_false (by omega)
    have HX1 := Lib.hid hx1
    clear hres hfl hle hrown hx1
    go_enter Tryd.func50, Tryd.ntmps50
    go_wp2_with fail
    refine HN.out.mono ?_
    rintro e w2 ⟨hv4, ho2⟩
    have R2 := Lib.hid (HR.out.kept ho2); have O2 := Lib.hid (H1.out.nil_trans ho2); have V2 := Lib.hid (HV.out.kept ho2); have N2 := Lib.hid (HRN.out.kept ho2 (by simp))
    clear ho2 HN HR H1 HV HRN
    have q0 := cell_got R2.out.box 0; have q5 := cell_got R2.out.box 5; have lq := got_lt R2.out.box
    obtain ⟨v0, v1, rfl⟩ := numsR_form hv4
    have hv4 : NumsR (numsO r) w (.returned (.tuple #[v0, v1])) w2 := hv4
    cases hq : numsO r with
    | none =>
      rw [hq] at hv4
      obtain ⟨rfl, rfl⟩ := numsR_no hv4
      have HQ : Hid (res = none) := Lib.hid (by rw [HRES.out]; exact rdPart_none hq)
      clear hv4 hq
      go_wp2
      go_ret
      rw [HQ.out]
      exact ⟨rfl, O2.out⟩
    | some ms =>
      rw [hq] at hv4
      obtain ⟨g, hgw, hge, hrow⟩ : ∃ g, w.heap.size ≤ g ∧ _ ∧ RowAt itC 3 1 w2 g ms.length ms := hv4
      have hge' : v0 = .slice (some ⟨g, 0, none⟩) ms.length ms.length ∧ v1 = .bool true := by simpa using hge
      obtain ⟨rfl, rfl⟩ := hge'
      clear hge
      have HGW := Lib.hid hgw
      clear hgw
      rcases ms with _ | ⟨k, ms⟩
      · have HQ : Hid (res = none) := Lib.hid (by rw [HRES.out]; exact rdPart_nil hq)
        clear hq
        go_wp2
        go_ret
        rw [HQ.out]
        exact ⟨rfl, O2.out⟩
      · have M2 := Lib.hid hrow
        have c0 : w2.cell? ⟨g, 0, none⟩ = some (.int .i64 k) := hrow.cell (i := 0) (j := 0) itC_len rfl (by decide)
        have lg := hrow.lt
        have hml : (k :: ms).length = ms.length + 1 := by simp
        rw [hml]
        have hm0 : (((ms.length : Int) + 1) == 0) = false := by rw [beq_eq_false_iff_ne]; omega
        have hmp : (0 : Int) < (ms.length : Int) + 1 := by omega
        by_cases hk : k = (rl.length : Int)
        · have dk : (k != (rl.length : Int)) = false := by simp [hk]
          have HY := Lib.hid (HRES.out.trans (rdPart_yes hq ⟨by omega, by rw [hk, hxl]; omega⟩))
          clear hq HRES
          by_cases hok : ms.length = 1 ∧ (x.at_ = 4 ∨ x.at_ = 5)
          · obtain ⟨hm1, hs45⟩ := hok
            obtain ⟨a, rfl⟩ : ∃ a, ms = [a] := by
              rcases ms with _ | ⟨a, _ | ⟨p, l⟩⟩
              · simp at hm1
              · exact ⟨a, rfl⟩
              · simp at hm1
            have HQ : Hid (res = some ⟨{ x.sc with nd := lastN x.sc.nd (fun n => { n with sv := n.sv ++ [a] }) }, 5⟩) := Lib.hid (by
              rw [HY.out]
              show (if _ then _ else if _ then _ else none) = _
              rw [if_neg (fun h => absurd h.1 (by decide)), if_pos ⟨rfl, hs45⟩])
            have c1 : w2.cell? ⟨g, 1, none⟩ = some (.int .i64 a) := hrow.cell (i := 1) (j := 0) itC_len rfl (by decide)
            obtain ⟨bw', off', hp', s0, lw'⟩ := V2.out.str (Only.refl [] w2) (k := 0) (by simp)
            cases hp'
            simp only [Nat.add_zero, List.getD_cons_zero] at s0
            have tO : (bstr wUse).toList = [117, 115, 101] := by rw [Lib.toList_data]; rfl
            generalize bstr wUse = S at s0 tO
            rw [hm1]
            clear hm1
            by_cases h4 : x.at_ = 4
            · have e4 : ((x.at_ : Int) == 4) = true := by rw [beq_iff_eq]; omega
              clear h4
              clear HY hrow hm0 hmp hml M2 hs45
              go_wp2_with fail
              have cS : w2.cell? ⟨gn, rl.length * 7 + 6, none⟩ = some (.slice y.pv y.n.sv.length y.cv) := N2.out.cell (i := rl.length) (j := 6) ndC_len row_last (by decide)
              have lP := N2.out.lt
              have HCO := Lib.hid (R2.out.sv y (by simp))
              obtain ⟨T, hT⟩ : ∃ T, T = (Value.slice y.pv y.n.sv.length y.cv).ownBlock.toList := ⟨_, rfl⟩
              have hbT : b ∉ T := fun hm => by rw [hT] at hm; exact HCO.out.ne_box R2.out.box (by decide) (by simpa using hm)
              have hnT : gn ∉ T := fun hm => by
                rw [hT] at hm
                obtain ⟨_, _, hq⟩ := HCO.out.block (by simpa using hm)
                exact hq.ne N2.out (by decide) rfl
              have hgT : g ∉ T := fun hm => by
                rw [hT] at hm
                have h1 := HSV.out g (by simpa using hm); have h2 := HGW.out
                omega
              have HTE := Lib.hid hT
              clear hT
              refine wp_region_calm2 [0, 2, 3, 4, 5, 6, 7, 8] [11, 12, 13, 14, 15, 16] (OnlyC T w2) (by kernel_rfl) (by kernel_rfl) ?_
              simp only [pick, List.map_cons, List.map_nil, List.getD_cons_succ, List.getD_cons_zero]
              iterate 8 (refine wpCalm_step (fun K hK => ?_); go_simp; refine hK _ ?_; clear hK K)
              refine wpCalm_nil ?_
              refine Rest.by (X := Nat × Nat) (fun q a => ((((((a.put (some 134) (.pointer (some ⟨b, 0, none⟩))).put (some 142) (.slice (some ⟨w2.heap.size, 0, none⟩) 1 1)).put (some 143) (.slice (some ⟨q.1, 0, none⟩) (y.n.sv.length + 1) q.2)).put (some 144) (.pointer (some ⟨gn, rl.length * 7, none⟩))).put (some 145) (.pointer (some ⟨gn, rl.length * 7 + 6, none⟩))).put (some 146) (.pointer (some ⟨b, 0, none⟩))).put (some 147) (.pointer (some ⟨b, 5, none⟩)))
                (fun q w' => Ob b W0 w' ∧ RdW W0.heap.size b w' (⟨{ x.sc with nd := lastN x.sc.nd (fun n => { n with sv := n.sv ++ [a] }) }, 5⟩ : SSt) (rl ++ [⟨{ y.n with sv := y.n.sv ++ [a] }, y.ps, y.cs, some ⟨q.1, 0, none⟩, q.2⟩]) ls (.slice (some ⟨gn, 0, none⟩) (rl.length + 1) capn) vl vf) ?_ ?_
              · rintro ⟨g9, cap9⟩ w9 ⟨ho9, hr9⟩
                simp only [Act.put, List.setIfInBounds_toArray, List.set_cons_succ, List.set_cons_zero]
                have O9 := Lib.hid ho9; have R9 := Lib.hid hr9
                clear ho9 hr9
                go_wp2
                go_ret
                rw [HQ.out]
                exact ⟨rfl, H0.out, O9.out, _, ls, _, vl, vf, R9.out⟩
              · refine wpAnyC_move 1 (.pointer (some ⟨b, 0, none⟩)) rfl (by kernel_rfl) (by kernel_rfl) (fun _ => rfl) ?_
                refine wpAnyC_next [9] (by kernel_rfl) (by simp) (.inr (onlyC (Only.refl T w2).drew)) ?_
                simp only [List.mem_cons, List.not_mem_nil, or_false, forall_eq]
                refine wpOp_one rfl ?_
                go_wp2
                simp only [nrm]
                refine allocd_abs (G := wpAnyC _ _ _ _ _ _ _ _ _) ?_
                intro wa hna hoa hsa
                have MA := Lib.hid hna; have oA := Lib.hid hoa; have RA := Lib.hid (R2.out.kept hoa); have OA := Lib.hid (O2.out.nil_trans hoa); have CA := Lib.hid (HCO.out.kept hoa)
                clear hna hsa hoa
                refine wpAnyC_next [10] (by kernel_rfl) (by simp) (.inr (onlyC (oA.out.mono (by simp)))) ?_
                simp only [List.mem_cons, List.not_mem_nil, or_false, forall_eq]
                refine wpOp_one rfl ?_
                refine wpList_append_B (B := W0.heap.size) rfl _ _ 42 rfl 3 (.int .i64 0) 1 8 Tryd.underlying42 (by kernel_rfl) rfl (by decide) itC_len itC_one y.n.sv (.slice y.pv y.n.sv.length y.cv) rfl CA.out w2.heap.size (a : Int) rfl (fun j u hj => ?_) (by simp [maxLen]; omega) (by omega) (by have := OA.out.size; omega) ?_
                · rw [cell_got MA.out]; rw [← hj]; simp [itC]
                · intro g9 cap9 wb hown hob hg9
                  rw [← HTE.out] at hob
                  have WB := Lib.hid hown; have oB := Lib.hid hob; have oS := Lib.hid ((oA.out.mono (S' := T) (by simp)).trans hob (fun x h => .inl h)); have HG9 := Lib.hid hg9
                  clear hown hob hg9
                  simp only [wpList, nrm]
                  refine wpAnyC_next [11] (by kernel_rfl) (by simp) (.inr (onlyC oS.out)) ?_
                  simp only [List.mem_cons, List.not_mem_nil, or_false, forall_eq]
                  refine wpOp_one rfl ?_
                  go_wp2
                  simp only [nrm]
                  refine wpAnyC_next [12] (by kernel_rfl) (by simp) (.inr (onlyC oS.out)) ?_
                  simp only [List.mem_cons, List.not_mem_nil, or_false, forall_eq]
                  refine wpOp_one rfl ?_
                  go_wp2
                  simp only [nrm]
                  refine wpAnyC_next [13] (by kernel_rfl) (by simp) (.inr (onlyC oS.out)) ?_
                  simp only [List.mem_cons, List.not_mem_nil, or_false, forall_eq]
                  refine wpOp_one rfl ?_
                  have NB := Lib.hid (N2.out.kept oS.out hnT)
                  have cD : wb.cell? ⟨gn, rl.length * 7 + 6, none⟩ = some (.slice y.pv y.n.sv.length y.cv) := NB.out.cell (i := rl.length) (j := 6) ndC_len row_last (by decide)
                  have fD := NB.out.frozen (rl.length * 7 + 6); have lD := NB.out.lt
                  go_wp2
                  simp only [nrm]
                  clear cD fD lD
                  have hz := oA.out.size
                  have hSt := RA.out.setN (y' := ⟨{ y.n with sv := y.n.sv ++ [a] }, y.ps, y.cs, some ⟨g9, 0, none⟩, cap9⟩) (x' := (⟨{ x.sc with nd := lastN x.sc.nd (fun n => { n with sv := n.sv ++ [a] }) }, x.at_⟩ : SSt)) (j := 6) (u := .slice (some ⟨g9, 0, none⟩) (y.n.sv.length + 1) cap9) oB.out hbT
                    (fun k hk => by rw [HTE.out] at hk; exact RA.out.nd.ne_of CA.out (by decide) k hk) (fun k hk => by rw [HTE.out] at hk; exact RA.out.lk.ne_of CA.out (by decide) k hk) (fun k hk => by rw [HTE.out] at hk; exact RA.out.ft.ne_of CA.out (by decide) k hk)
                    (fun z hz k hk => by rw [HTE.out] at hk; exact (RA.out.ch z hz).ne_of CA.out (by decide) k hk)
                    (fun z hz k hk => by rw [HTE.out] at hk; exact (RA.out.sg z (by simp [hz])).ne_of CA.out (by decide) k hk) (fun z hz k hk => by rw [HTE.out] at hk; exact ptr_ne (RA.out.sv z (by simp [hz])) CA.out (RA.out.apN rl y rfl z hz).2 hk)
                    ((RA.out.sg y (by simp)).keptS oB.out (fun k hk => by rw [HTE.out] at hk; exact (RA.out.sg y (by simp)).ne_of CA.out (by decide) k hk)) (by simpa using WB.out)
                    (fun z hz => ⟨(RA.out.apN rl y rfl z hz).1, .inl (ptr_new (RA.out.sv z (by simp [hz])) CA.out (RA.out.apN rl y rfl z hz).2 (Nat.le_refl _) HG9.out)⟩) (by decide) (by simp [ndC]) (by rw [show ((⟨{ x.sc with nd := lastN x.sc.nd (fun n => { n with sv := n.sv ++ [a] }) }, x.at_⟩ : SSt)).sc.nd = lastN x.sc.nd (fun n => { n with sv := n.sv ++ [a] }) from rfl, HX1.out, List.map_append]; exact lastN_snoc _ _ _) rfl rfl rfl rfl rfl
                  obtain ⟨gn', capn', he1, hgB', hgs, hRd⟩ := hSt
                  cases he1
                  have hOn : Ob b W0 wb := Ob.row (S := T) OA.out oB.out (fun k hk => by
                    rw [HTE.out] at hk
                    exact CA.out.blockC (by simpa using hk))
                  obtain ⟨wc, hwc⟩ : ∃ wc, wc = wb.setCell ⟨gn, rl.length * 7 + 6, none⟩ (.slice (some ⟨g9, 0, none⟩) (y.n.sv.length + 1) cap9) := ⟨_, rfl⟩
                  rw [← hwc] at hRd ⊢
                  have OC := Lib.hid (show Ob b W0 wc by rw [hwc]; exact hOn.setCell (.inr hgB') _)
                  have RC := Lib.hid hRd
                  clear hRd hOn hwc
                  refine wpAnyC_next [14] (by kernel_rfl) (by simp) (.inl (late_of (by kernel_rfl))) ?_
                  simp only [List.mem_cons, List.not_mem_nil, or_false, forall_eq]
                  refine wpOp_one rfl ?_
                  go_wp2
                  simp only [nrm]
                  refine wpAnyC_next [15] (by kernel_rfl) (by simp) (.inl (late_of (by kernel_rfl))) ?_
                  simp only [List.mem_cons, List.not_mem_nil, or_false, forall_eq]
                  refine wpOp_one rfl ?_
                  go_wp2
                  simp only [nrm]
                  refine wpAnyC_next [16] (by kernel_rfl) (by simp) (.inl (late_of (by kernel_rfl))) ?_
                  simp only [List.mem_cons, List.not_mem_nil, or_false, forall_eq]
                  refine wpOp_one rfl ?_
                  have lB := got_lt RC.out.box; have cB := cell_got RC.out.box 5; have fB := frozen_got RC.out.box 5
                  go_wp2
                  simp only [nrm]
                  refine wpAnyC_done (by kernel_rfl) (.inl (late_of (by kernel_rfl))) ?_
                  have hO9 : Ob b W0 (wc.setCell ⟨b, 5, none⟩ (.int .i64 5)) := OC.out.setCell (.inl (by simp)) _
                  first | refine ⟨(g9, cap9), rfl, hO9, ?_⟩ | refine ⟨g9, cap9, rfl, hO9, ?_⟩
                  exact RC.out.cell (x' := (⟨{ x.sc with nd := lastN x.sc.nd (fun n => { n with sv := n.sv ++ [a] }) }, 5⟩ : SSt)) ((Only.refl [b] wc).setCell (.inl (by simp)) _) (setCell_got _ RC.out.box) rfl rfl rfl
            · have h5 : x.at_ = 5 := by omega
              have e4 : ((x.at_ : Int) == 4) = false := by rw [beq_eq_false_iff_ne]; omega
              have e5 : ((x.at_ : Int) == 5) = true := by rw [beq_iff_eq]; omega
              clear h4 h5
              clear HY hrow hm0 hmp hml M2 hs45
              go_wp2_with fail
              have cS : w2.cell? ⟨gn, rl.length * 7 + 6, none⟩ = some (.slice y.pv y.n.sv.length y.cv) := N2.out.cell (i := rl.length) (j := 6) ndC_len row_last (by decide)
              have lP := N2.out.lt
              have HCO := Lib.hid (R2.out.sv y (by simp))
              obtain ⟨T, hT⟩ : ∃ T, T = (Value.slice y.pv y.n.sv.length y.cv).ownBlock.toList := ⟨_, rfl⟩
              have hbT : b ∉ T := fun hm => by rw [hT] at hm; exact HCO.out.ne_box R2.out.box (by decide) (by simpa using hm)
              have hnT : gn ∉ T := fun hm => by
                rw [hT] at hm
                obtain ⟨_, _, hq⟩ := HCO.out.block (by simpa using hm)
                exact hq.ne N2.out (by decide) rfl
              have hgT : g ∉ T := fun hm => by
                rw [hT] at hm
                have h1 := HSV.out g (by simpa using hm); have h2 := HGW.out
                omega
              have HTE := Lib.hid hT
              clear hT
              refine wp_region_calm2 [0, 2, 3, 4, 5, 6, 7, 8] [11, 12, 13, 14, 15, 16] (OnlyC T w2) (by kernel_rfl) (by kernel_rfl) ?_
              simp only [pick, List.map_cons, List.map_nil, List.getD_cons_succ, List.getD_cons_zero]
              iterate 8 (refine wpCalm_step (fun K hK => ?_); go_simp; refine hK _ ?_; clear hK K)
              refine wpCalm_nil ?_
              refine Rest.by (X := Nat × Nat) (fun q a => ((((((a.put (some 134) (.pointer (some ⟨b, 0, none⟩))).put (some 142) (.slice (some ⟨w2.heap.size, 0, none⟩) 1 1)).put (some 143) (.slice (some ⟨q.1, 0, none⟩) (y.n.sv.length + 1) q.2)).put (some 144) (.pointer (some ⟨gn, rl.length * 7, none⟩))).put (some 145) (.pointer (some ⟨gn, rl.length * 7 + 6, none⟩))).put (some 146) (.pointer (some ⟨b, 0, none⟩))).put (some 147) (.pointer (some ⟨b, 5, none⟩)))
                (fun q w' => Ob b W0 w' ∧ RdW W0.heap.size b w' (⟨{ x.sc with nd := lastN x.sc.nd (fun n => { n with sv := n.sv ++ [a] }) }, 5⟩ : SSt) (rl ++ [⟨{ y.n with sv := y.n.sv ++ [a] }, y.ps, y.cs, some ⟨q.1, 0, none⟩, q.2⟩]) ls (.slice (some ⟨gn, 0, none⟩) (rl.length + 1) capn) vl vf) ?_ ?_
              · rintro ⟨g9, cap9⟩ w9 ⟨ho9, hr9⟩
                simp only [Act.put, List.setIfInBounds_toArray, List.set_cons_succ, List.set_cons_zero]
                have O9 := Lib.hid ho9; have R9 := Lib.hid hr9
                clear ho9 hr9
                go_wp2
                go_ret
                rw [HQ.out]
                exact ⟨rfl, H0.out, O9.out, _, ls, _, vl, vf, R9.out⟩
              · refine wpAnyC_move 1 (.pointer (some ⟨b, 0, none⟩)) rfl (by kernel_rfl) (by kernel_rfl) (fun _ => rfl) ?_
                refine wpAnyC_next [9] (by kernel_rfl) (by simp) (.inr (onlyC (Only.refl T w2).drew)) ?_
                simp only [List.mem_cons, List.not_mem_nil, or_false, forall_eq]
                refine wpOp_one rfl ?_
                go_wp2
                simp only [nrm]
                refine allocd_abs (G := wpAnyC _ _ _ _ _ _ _ _ _) ?_
                intro wa hna hoa hsa
                have MA := Lib.hid hna; have oA := Lib.hid hoa; have RA := Lib.hid (R2.out.kept hoa); have OA := Lib.hid (O2.out.nil_trans hoa); have CA := Lib.hid (HCO.out.kept hoa)
                clear hna hsa hoa
                refine wpAnyC_next [10] (by kernel_rfl) (by simp) (.inr (onlyC (oA.out.mono (by simp)))) ?_
                simp only [List.mem_cons, List.not_mem_nil, or_false, forall_eq]
                refine wpOp_one rfl ?_
                refine wpList_append_B (B := W0.heap.size) rfl _ _ 42 rfl 3 (.int .i64 0) 1 8 Tryd.underlying42 (by kernel_rfl) rfl (by decide) itC_len itC_one y.n.sv (.slice y.pv y.n.sv.length y.cv) rfl CA.out w2.heap.size (a : Int) rfl (fun j u hj => ?_) (by simp [maxLen]; omega) (by omega) (by have := OA.out.size; omega) ?_
                · rw [cell_got MA.out]; rw [← hj]; simp [itC]
                · intro g9 cap9 wb hown hob hg9
                  rw [← HTE.out] at hob
                  have WB := Lib.hid hown; have oB := Lib.hid hob; have oS := Lib.hid ((oA.out.mono (S' := T) (by simp)).trans hob (fun x h => .inl h)); have HG9 := Lib.hid hg9
                  clear hown hob hg9
                  simp only [wpList, nrm]
                  refine wpAnyC_next [11] (by kernel_rfl) (by simp) (.inr (onlyC oS.out)) ?_
                  simp only [List.mem_cons, List.not_mem_nil, or_false, forall_eq]
                  refine wpOp_one rfl ?_
                  go_wp2
                  simp only [nrm]
                  refine wpAnyC_next [12] (by kernel_rfl) (by simp) (.inr (onlyC oS.out)) ?_
                  simp only [List.mem_cons, List.not_mem_nil, or_false, forall_eq]
                  refine wpOp_one rfl ?_
                  go_wp2
                  simp only [nrm]
                  refine wpAnyC_next [13] (by kernel_rfl) (by simp) (.inr (onlyC oS.out)) ?_
                  simp only [List.mem_cons, List.not_mem_nil, or_false, forall_eq]
                  refine wpOp_one rfl ?_
                  have NB := Lib.hid (N2.out.kept oS.out hnT)
                  have cD : wb.cell? ⟨gn, rl.length * 7 + 6, none⟩ = some (.slice y.pv y.n.sv.length y.cv) := NB.out.cell (i := rl.length) (j := 6) ndC_len row_last (by decide)
                  have fD := NB.out.frozen (rl.length * 7 + 6); have lD := NB.out.lt
                  go_wp2
                  simp only [nrm]
                  clear cD fD lD
                  have hz := oA.out.size
                  have hSt := RA.out.setN (y' := ⟨{ y.n with sv := y.n.sv ++ [a] }, y.ps, y.cs, some ⟨g9, 0, none⟩, cap9⟩) (x' := (⟨{ x.sc with nd := lastN x.sc.nd (fun n => { n with sv := n.sv ++ [a] }) }, x.at_⟩ : SSt)) (j := 6) (u := .slice (some ⟨g9, 0, none⟩) (y.n.sv.length + 1) cap9) oB.out hbT
                    (fun k hk => by rw [HTE.out] at hk; exact RA.out.nd.ne_of CA.out (by decide) k hk) (fun k hk => by rw [HTE.out] at hk; exact RA.out.lk.ne_of CA.out (by decide) k hk) (fun k hk => by rw [HTE.out] at hk; exact RA.out.ft.ne_of CA.out (by decide) k hk)
                    (fun z hz k hk => by rw [HTE.out] at hk; exact (RA.out.ch z hz).ne_of CA.out (by decide) k hk)
                    (fun z hz k hk => by rw [HTE.out] at hk; exact (RA.out.sg z (by simp [hz])).ne_of CA.out (by decide) k hk) (fun z hz k hk => by rw [HTE.out] at hk; exact ptr_ne (RA.out.sv z (by simp [hz])) CA.out (RA.out.apN rl y rfl z hz).2 hk)
                    ((RA.out.sg y (by simp)).keptS oB.out (fun k hk => by rw [HTE.out] at hk; exact (RA.out.sg y (by simp)).ne_of CA.out (by decide) k hk)) (by simpa using WB.out)
                    (fun z hz => ⟨(RA.out.apN rl y rfl z hz).1, .inl (ptr_new (RA.out.sv z (by simp [hz])) CA.out (RA.out.apN rl y rfl z hz).2 (Nat.le_refl _) HG9.out)⟩) (by decide) (by simp [ndC]) (by rw [show ((⟨{ x.sc with nd := lastN x.sc.nd (fun n => { n with sv := n.sv ++ [a] }) }, x.at_⟩ : SSt)).sc.nd = lastN x.sc.nd (fun n => { n with sv := n.sv ++ [a] }) from rfl, HX1.out, List.map_append]; exact lastN_snoc _ _ _) rfl rfl rfl rfl rfl
                  obtain ⟨gn', capn', he1, hgB', hgs, hRd⟩ := hSt
                  cases he1
                  have hOn : Ob b W0 wb := Ob.row (S := T) OA.out oB.out (fun k hk => by
                    rw [HTE.out] at hk
                    exact CA.out.blockC (by simpa using hk))
                  obtain ⟨wc, hwc⟩ : ∃ wc, wc = wb.setCell ⟨gn, rl.length * 7 + 6, none⟩ (.slice (some ⟨g9, 0, none⟩) (y.n.sv.length + 1) cap9) := ⟨_, rfl⟩
                  rw [← hwc] at hRd ⊢
                  have OC := Lib.hid (show Ob b W0 wc by rw [hwc]; exact hOn.setCell (.inr hgB') _)
                  have RC := Lib.hid hRd
                  clear hRd hOn hwc
                  refine wpAnyC_next [14] (by kernel_rfl) (by simp) (.inl (late_of (by kernel_rfl))) ?_
                  simp only [List.mem_cons, List.not_mem_nil, or_false, forall_eq]
                  refine wpOp_one rfl ?_
                  go_wp2
                  simp only [nrm]
                  refine wpAnyC_next [15] (by kernel_rfl) (by simp) (.inl (late_of (by kernel_rfl))) ?_
                  simp only [List.mem_cons, List.not_mem_nil, or_false, forall_eq]
                  refine wpOp_one rfl ?_
                  go_wp2
                  simp only [nrm]
                  refine wpAnyC_next [16] (by kernel_rfl) (by simp) (.inl (late_of (by kernel_rfl))) ?_
                  simp only [List.mem_cons, List.not_mem_nil, or_false, forall_eq]
                  refine wpOp_one rfl ?_
                  have lB := got_lt RC.out.box; have cB := cell_got RC.out.box 5; have fB := frozen_got RC.out.box 5
                  go_wp2
                  simp only [nrm]
                  refine wpAnyC_done (by kernel_rfl) (.inl (late_of (by kernel_rfl))) ?_
                  have hO9 : Ob b W0 (wc.setCell ⟨b, 5, none⟩ (.int .i64 5)) := OC.out.setCell (.inl (by simp)) _
                  first | refine ⟨(g9, cap9), rfl, hO9, ?_⟩ | refine ⟨g9, cap9, rfl, hO9, ?_⟩
                  exact RC.out.cell (x' := (⟨{ x.sc with nd := lastN x.sc.nd (fun n => { n with sv := n.sv ++ [a] }) }, 5⟩ : SSt)) ((Only.refl [b] wc).setCell (.inl (by simp)) _) (setCell_got _ RC.out.box) rfl rfl rfl
          · have HQ : Hid (res = none) := Lib.hid (by
              rw [HY.out]
              rcases ms with _ | ⟨a, _ | ⟨p, _ | ⟨q, l⟩⟩⟩
              · rfl
              · show (if _ then _ else if _ then _ else none) = none; rw [if_neg (fun h => absurd h.1 (by decide)), if_neg (fun h => hok ⟨rfl, h.2⟩)]
              · exact if_neg (fun h => absurd h.1 (by decide))
              · rfl)
            clear HY
            obtain ⟨bw', off', hp', s0, lw'⟩ := V2.out.str (Only.refl [] w2) (k := 0) (by simp)
            cases hp'
            simp only [Nat.add_zero, List.getD_cons_zero] at s0
            have tO : (bstr wUse).toList = [117, 115, 101] := by rw [Lib.toList_data]; rfl
            generalize bstr wUse = S at s0 tO
            by_cases h4 : x.at_ = 4
            · have hn2 : ¬ ms.length = 1 := fun h => hok ⟨h, .inl h4⟩
              have e4 : ((x.at_ : Int) == 4) = true := by rw [beq_iff_eq]; omega
              have z2 : (((ms.length : Int) + 1) == 2) = false := by rw [beq_eq_false_iff_ne]; omega
              clear hok h4 hn2 hrow M2
              go_wp2
              go_ret
              rw [HQ.out]
              exact ⟨rfl, O2.out⟩
            · by_cases h5 : x.at_ = 5
              · have hn2 : ¬ ms.length = 1 := fun h => hok ⟨h, .inr h5⟩
                have e4 : ((x.at_ : Int) == 4) = false := by rw [beq_eq_false_iff_ne]; omega
                have e5 : ((x.at_ : Int) == 5) = true := by rw [beq_iff_eq]; omega
                have z2 : (((ms.length : Int) + 1) == 2) = false := by rw [beq_eq_false_iff_ne]; omega
                clear hok h4 h5 hn2 hrow M2
                go_wp2
                go_ret
                rw [HQ.out]
                exact ⟨rfl, O2.out⟩
              · have e4 : ((x.at_ : Int) == 4) = false := by rw [beq_eq_false_iff_ne]; omega
                have e5 : ((x.at_ : Int) == 5) = false := by rw [beq_eq_false_iff_ne]; omega
                clear hok h4 h5 hrow M2
                go_wp2
                go_ret
                rw [HQ.out]
                exact ⟨rfl, O2.out⟩
        · have dk : (k != (rl.length : Int)) = true := by simp [hk]
          have HQ : Hid (res = none) := Lib.hid (by rw [HRES.out]; exact rdPart_no hq (fun q => hk (by have := q.2; omega)))
          clear hq hk
          go_wp2
          go_ret
          rw [HQ.out]
          exact ⟨rfl, O2.out⟩
end Go.Proofs.YthmeifdgkodjlaaDoor
