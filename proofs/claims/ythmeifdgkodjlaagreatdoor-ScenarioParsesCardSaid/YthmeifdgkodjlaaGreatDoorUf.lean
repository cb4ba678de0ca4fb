/- timesyncref56's state.read reads a line. Conditions: the lengths. -/
import Derived.Test.YthmeifdgkodjlaaGreatDoorUb
import Derived.Test.YthmeifdgkodjlaaGreatDoorUc
import Derived.Test.YthmeifdgkodjlaaGreatDoorUd
import Derived.Test.YthmeifdgkodjlaaGreatDoorUe
namespace Go.Proofs.YthmeifdgkodjlaaGreatDoor
open Go.RowKit
namespace Rf

theorem at7 {x y : SSt} {ws : List (List UInt8)} (h : rdW x ws = some y) : y.at_ ≤ 7 := by
  rcases ws with _ | ⟨w, r⟩
  · cases h
  · rw [rdW] at h
    split at h
    · obtain ⟨m, rfl, h0, rfl⟩ := until_inv h; simp
    · split at h
      · obtain ⟨m, rfl, h0, rfl, _⟩ := seed_inv h; simp
      · split at h
        · obtain ⟨m, hr, h0, rfl, _⟩ := node_inv h; simp [addN]
        · split at h
          · obtain ⟨l, m, hl, hc⟩ := part_inv h
            rcases hc with ⟨p, rfl, h3, _, rfl⟩ | ⟨v, rfl, h3, _, rfl⟩ | ⟨s, rfl, h3, _, rfl⟩
            · simp
            · simp
            · simp
          · split at h
            · obtain ⟨k, hr, h0, rfl, _⟩ := link_inv h; simp
            · split at h
              · obtain ⟨l, k, c, hl, h6, hr, rfl⟩ := change_inv h; simp
              · split at h
                · obtain ⟨f, hr, h0, rfl⟩ := fault_inv h; simp
                · cases h
theorem rdR_form {W0 : Two} {w : World} {b : Nat} {r : Option SSt} {e : Ending} (h : RdR W0 b r e w) : ∃ ok, e = .returned (.bool ok) := by
  cases r with
  | none => exact ⟨_, h.1⟩
  | some y => exact ⟨_, h.1⟩
set_option maxRecDepth 100000 in
set_option maxHeartbeats 1000000 in
theorem node {W0 : Two} {w : World} {b : Nat} {x : SSt} {p : Option Addr} {n cap : Nat} {wd : List UInt8} {r : List (List UInt8)} (h : RdX W0 b w x) (hsz : SLe 100000 x) (hv : VRow strC 1 w p n cap (wd :: r)) (hn : n ≤ 100000) (hl : ∀ y ∈ wd :: r, y.length ≤ 1000000) :
    Calls Tryz.prog 79 #[.pointer (some ⟨b, 0, none⟩), .slice p n cap] w fun e w' => RdR W0 b (rdNode x r) e w' := by
  have hlen := hv.len
  subst hlen
  rcases r with _ | ⟨a1, _ | ⟨a2, _ | ⟨a3, _ | ⟨a4, _ | ⟨a5, _ | ⟨a6, _ | ⟨a7, _ | ⟨a8, r⟩⟩⟩⟩⟩⟩⟩⟩
  case cons.cons.cons.cons.cons.nil => exact node6 h hsz hv hl
  case cons.cons.cons.cons.cons.cons.cons.nil => exact node8 h hsz hv hl
  all_goals
    obtain ⟨hb0, hb1, ns, ls, vn, vl, vf, hR⟩ := h
    have H1 := Lib.hid hb1
    have HQ : Hid (RdR W0 b none (.returned (.bool false)) w) := Lib.hid ⟨rfl, hb1⟩
    simp only [List.length_cons, List.length_nil] at hn ⊢
    clear hR hb0 hb1 hsz hv hl
    go_enter Tryz.func79, Tryz.ntmps79
    go_wp2
    go_ret
    exact HQ.out
theorem rdU_none {x : SSt} {r : List (List UInt8)} (h : numsO r = none) : rdUntil x r = none := by
  rcases r with _ | ⟨a, _ | ⟨c, r⟩⟩
  · rfl
  · have : numO a = none := by
      cases ha : numO a with
      | none => rfl
      | some z => simp [numsO, ha] at h
    show (if x.at_ = 0 then (numO a).map _ else none) = none
    rw [this]; split <;> rfl
  · rfl
theorem rdU_len {x : SSt} {r : List (List UInt8)} {ns : List Int} (h : numsO r = some ns) (hl : ns.length ≠ 1) : rdUntil x r = none := by
  have := numsO_len h
  rcases r with _ | ⟨a, _ | ⟨c, r⟩⟩
  · rfl
  · simp at this; exact absurd this hl
  · rfl
theorem rdU_at {x : SSt} {r : List (List UInt8)} (h : x.at_ ≠ 0) : rdUntil x r = none := by
  rcases r with _ | ⟨a, _ | ⟨c, r⟩⟩
  · rfl
  · exact if_neg h
  · rfl
theorem rdU_yes {x : SSt} {r : List (List UInt8)} {m : Int} (h : numsO r = some [m]) (h0 : x.at_ = 0) : rdUntil x r = some ⟨{ x.sc with un := m }, 1⟩ := by
  have := numsO_len h
  rcases r with _ | ⟨a, _ | ⟨c, r⟩⟩
  · simp at this
  · cases ha : numO a with
    | none => simp [numsO, ha] at h
    | some z =>
      have hz : z = m := by simpa [numsO, ha] using h
      subst hz
      show (if x.at_ = 0 then (numO a).map _ else none) = _
      rw [if_pos h0, ha]; rfl
  · simp at this
set_option maxRecDepth 100000 in
set_option maxHeartbeats 2000000 in
theorem read_wNode {W0 : Two} {w : World} {b : Nat} {x : SSt} {l : List UInt8} {r : List (List UInt8)} (h : RdX W0 b w x) (hsz : SLe 100000 x) (hlk : x.at_ = 6 → 0 < x.sc.lk.length) (hat : x.at_ ≤ 7) (hl : l.length ≤ 99999) (hp : pcs 32 l = wNode :: r) :
    Calls Tryz.prog 42 #[.pointer (some ⟨b, 0, none⟩), .string (bstr l)] w fun e w' => RdR W0 b (rdW x (wNode :: r)) e w' := by
  have _u : True := by have := hsz; have := hlk; have := hat; trivial
  rw [show rdW x (wNode :: r) = rdNode x r by
    rw [rdW]
    rw [if_neg (show ¬ wNode = wUntil by decide)]
    rw [if_neg (show ¬ wNode = wSeed by decide)]
    rw [if_pos rfl]]
  have hwd := rwords (bstr l) (by rw [bstr_size]; omega) w
  rw [bstr_data, hp] at hwd
  have HWD := Lib.hid hwd
  have hbl : ∀ y ∈ wNode :: r, y.length ≤ 1000000 := fun y hy => by rw [← hp] at hy; have := mem_pcs_len hy; omega
  have hnn : (wNode :: r).length ≤ 100000 := by rw [← hp]; have := pcs_length_le 32 l; omega
  have HC := Lib.hid (fun (w1 : World) (ho : Only [] w w1) (p : Option Addr) (cap : Nat) (hv : VRow strC 1 w1 p (wNode :: r).length cap (wNode :: r)) => node (h.kept ho) hsz hv hnn hbl)
  generalize rdNode x r = res at HC ⊢
  generalize bstr l = X at HWD ⊢
  clear hwd hl hp
  go_enter Tryz.func42, Tryz.ntmps42
  go_wp2_with fail
  refine HWD.out.mono ?_
  rintro e w1 ⟨⟨p, cap, rfl, hv⟩, ho⟩
  have HC1 := Lib.hid (HC.out w1 ho p cap hv)
  obtain ⟨bw, off, hp', s0, lw⟩ := hv.str (Only.refl [] w1) (k := 0) (by simp)
  subst hp'
  have t0 : w1.cell? ⟨bw, off, none⟩ = some (.string (bstr wNode)) := s0
  have tO : (bstr wNode).toList = [110, 111, 100, 101] := by rw [Lib.toList_data]; rfl
  generalize bstr wNode = S at t0 tO
  have hlq : (wNode :: r).length = r.length + 1 := rfl
  rw [hlq] at HC1 hnn ⊢
  generalize r.length = m at HC1 hnn ⊢
  clear h hsz hlk hat hv ho s0 hlq hbl HC HWD
  go_wp2_with fail
  refine HC1.out.mono ?_
  rintro e w2 hr
  obtain ⟨ok, rfl⟩ := rdR_form hr
  have HR := Lib.hid hr
  clear hr HC1
  go_wp2
  go_ret
  exact HR.out
set_option maxRecDepth 100000 in
set_option maxHeartbeats 2000000 in
theorem read_wOsc {W0 : Two} {w : World} {b : Nat} {x : SSt} {l : List UInt8} {r : List (List UInt8)} (h : RdX W0 b w x) (hsz : SLe 100000 x) (hlk : x.at_ = 6 → 0 < x.sc.lk.length) (hat : x.at_ ≤ 7) (hl : l.length ≤ 99999) (hp : pcs 32 l = wOsc :: r) :
    Calls Tryz.prog 42 #[.pointer (some ⟨b, 0, none⟩), .string (bstr l)] w fun e w' => RdR W0 b (rdW x (wOsc :: r)) e w' := by
  have _u : True := by have := hsz; have := hlk; have := hat; trivial
  rw [show rdW x (wOsc :: r) = rdPart x wOsc r by
    rw [rdW]
    rw [if_neg (show ¬ wOsc = wUntil by decide)]
    rw [if_neg (show ¬ wOsc = wSeed by decide)]
    rw [if_neg (show ¬ wOsc = wNode by decide)]
    rw [if_pos (show wOsc = wOsc ∨ wOsc = wSeg ∨ wOsc = wUse by decide)]]
  have hwd := rwords (bstr l) (by rw [bstr_size]; omega) w
  rw [bstr_data, hp] at hwd
  have HWD := Lib.hid hwd
  have hbl : ∀ y ∈ wOsc :: r, y.length ≤ 1000000 := fun y hy => by rw [← hp] at hy; have := mem_pcs_len hy; omega
  have hnn : (wOsc :: r).length ≤ 100000 := by rw [← hp]; have := pcs_length_le 32 l; omega
  have HC := Lib.hid (fun (w1 : World) (ho : Only [] w w1) (p : Option Addr) (cap : Nat) (hv : VRow strC 1 w1 p (wOsc :: r).length cap (wOsc :: r)) => partOsc (h.kept ho) hsz hv hnn hbl)
  generalize rdPart x wOsc r = res at HC ⊢
  generalize bstr l = X at HWD ⊢
  clear hwd hl hp
  go_enter Tryz.func42, Tryz.ntmps42
  go_wp2_with fail
  refine HWD.out.mono ?_
  rintro e w1 ⟨⟨p, cap, rfl, hv⟩, ho⟩
  have HC1 := Lib.hid (HC.out w1 ho p cap hv)
  obtain ⟨bw, off, hp', s0, lw⟩ := hv.str (Only.refl [] w1) (k := 0) (by simp)
  subst hp'
  have t0 : w1.cell? ⟨bw, off, none⟩ = some (.string (bstr wOsc)) := s0
  have tO : (bstr wOsc).toList = [111, 115, 99] := by rw [Lib.toList_data]; rfl
  generalize bstr wOsc = S at t0 tO
  have hlq : (wOsc :: r).length = r.length + 1 := rfl
  rw [hlq] at HC1 hnn ⊢
  generalize r.length = m at HC1 hnn ⊢
  clear h hsz hlk hat hv ho s0 hlq hbl HC HWD
  go_wp2_with fail
  refine HC1.out.mono ?_
  rintro e w2 hr
  obtain ⟨ok, rfl⟩ := rdR_form hr
  have HR := Lib.hid hr
  clear hr HC1
  go_wp2
  go_ret
  exact HR.out
set_option maxRecDepth 100000 in
set_option maxHeartbeats 2000000 in
theorem read_wSeg {W0 : Two} {w : World} {b : Nat} {x : SSt} {l : List UInt8} {r : List (List UInt8)} (h : RdX W0 b w x) (hsz : SLe 100000 x) (hlk : x.at_ = 6 → 0 < x.sc.lk.length) (hat : x.at_ ≤ 7) (hl : l.length ≤ 99999) (hp : pcs 32 l = wSeg :: r) :
    Calls Tryz.prog 42 #[.pointer (some ⟨b, 0, none⟩), .string (bstr l)] w fun e w' => RdR W0 b (rdW x (wSeg :: r)) e w' := by
  have _u : True := by have := hsz; have := hlk; have := hat; trivial
  rw [show rdW x (wSeg :: r) = rdPart x wSeg r by
    rw [rdW]
    rw [if_neg (show ¬ wSeg = wUntil by decide)]
    rw [if_neg (show ¬ wSeg = wSeed by decide)]
    rw [if_neg (show ¬ wSeg = wNode by decide)]
    rw [if_pos (show wSeg = wOsc ∨ wSeg = wSeg ∨ wSeg = wUse by decide)]]
  have hwd := rwords (bstr l) (by rw [bstr_size]; omega) w
  rw [bstr_data, hp] at hwd
  have HWD := Lib.hid hwd
  have hbl : ∀ y ∈ wSeg :: r, y.length ≤ 1000000 := fun y hy => by rw [← hp] at hy; have := mem_pcs_len hy; omega
  have hnn : (wSeg :: r).length ≤ 100000 := by rw [← hp]; have := pcs_length_le 32 l; omega
  have HC := Lib.hid (fun (w1 : World) (ho : Only [] w w1) (p : Option Addr) (cap : Nat) (hv : VRow strC 1 w1 p (wSeg :: r).length cap (wSeg :: r)) => partSeg (h.kept ho) hsz hv hnn hbl)
  generalize rdPart x wSeg r = res at HC ⊢
  generalize bstr l = X at HWD ⊢
  clear hwd hl hp
  go_enter Tryz.func42, Tryz.ntmps42
  go_wp2_with fail
  refine HWD.out.mono ?_
  rintro e w1 ⟨⟨p, cap, rfl, hv⟩, ho⟩
  have HC1 := Lib.hid (HC.out w1 ho p cap hv)
  obtain ⟨bw, off, hp', s0, lw⟩ := hv.str (Only.refl [] w1) (k := 0) (by simp)
  subst hp'
  have t0 : w1.cell? ⟨bw, off, none⟩ = some (.string (bstr wSeg)) := s0
  have tO : (bstr wSeg).toList = [115, 101, 103] := by rw [Lib.toList_data]; rfl
  generalize bstr wSeg = S at t0 tO
  have hlq : (wSeg :: r).length = r.length + 1 := rfl
  rw [hlq] at HC1 hnn ⊢
  generalize r.length = m at HC1 hnn ⊢
  clear h hsz hlk hat hv ho s0 hlq hbl HC HWD
  go_wp2_with fail
  refine HC1.out.mono ?_
  rintro e w2 hr
  obtain ⟨ok, rfl⟩ := rdR_form hr
  have HR := Lib.hid hr
  clear hr HC1
  go_wp2
  go_ret
  exact HR.out
set_option maxRecDepth 100000 in
set_option maxHeartbeats 2000000 in
theorem read_wUse {W0 : Two} {w : World} {b : Nat} {x : SSt} {l : List UInt8} {r : List (List UInt8)} (h : RdX W0 b w x) (hsz : SLe 100000 x) (hlk : x.at_ = 6 → 0 < x.sc.lk.length) (hat : x.at_ ≤ 7) (hl : l.length ≤ 99999) (hp : pcs 32 l = wUse :: r) :
    Calls Tryz.prog 42 #[.pointer (some ⟨b, 0, none⟩), .string (bstr l)] w fun e w' => RdR W0 b (rdW x (wUse :: r)) e w' := by
  have _u : True := by have := hsz; have := hlk; have := hat; trivial
  rw [show rdW x (wUse :: r) = rdPart x wUse r by
    rw [rdW]
    rw [if_neg (show ¬ wUse = wUntil by decide)]
    rw [if_neg (show ¬ wUse = wSeed by decide)]
    rw [if_neg (show ¬ wUse = wNode by decide)]
    rw [if_pos (show wUse = wOsc ∨ wUse = wSeg ∨ wUse = wUse by decide)]]
  have hwd := rwords (bstr l) (by rw [bstr_size]; omega) w
  rw [bstr_data, hp] at hwd
  have HWD := Lib.hid hwd
  have hbl : ∀ y ∈ wUse :: r, y.length ≤ 1000000 := fun y hy => by rw [← hp] at hy; have := mem_pcs_len hy; omega
  have hnn : (wUse :: r).length ≤ 100000 := by rw [← hp]; have := pcs_length_le 32 l; omega
  have HC := Lib.hid (fun (w1 : World) (ho : Only [] w w1) (p : Option Addr) (cap : Nat) (hv : VRow strC 1 w1 p (wUse :: r).length cap (wUse :: r)) => partUse (h.kept ho) hsz hv hnn hbl)
  generalize rdPart x wUse r = res at HC ⊢
  generalize bstr l = X at HWD ⊢
  clear hwd hl hp
  go_enter Tryz.func42, Tryz.ntmps42
  go_wp2_with fail
  refine HWD.out.mono ?_
  rintro e w1 ⟨⟨p, cap, rfl, hv⟩, ho⟩
  have HC1 := Lib.hid (HC.out w1 ho p cap hv)
  obtain ⟨bw, off, hp', s0, lw⟩ := hv.str (Only.refl [] w1) (k := 0) (by simp)
  subst hp'
  have t0 : w1.cell? ⟨bw, off, none⟩ = some (.string (bstr wUse)) := s0
  have tO : (bstr wUse).toList = [117, 115, 101] := by rw [Lib.toList_data]; rfl
  generalize bstr wUse = S at t0 tO
  have hlq : (wUse :: r).length = r.length + 1 := rfl
  rw [hlq] at HC1 hnn ⊢
  generalize r.length = m at HC1 hnn ⊢
  clear h hsz hlk hat hv ho s0 hlq hbl HC HWD
  go_wp2_with fail
  refine HC1.out.mono ?_
  rintro e w2 hr
  obtain ⟨ok, rfl⟩ := rdR_form hr
  have HR := Lib.hid hr
  clear hr HC1
  go_wp2
  go_ret
  exact HR.out
set_option maxRecDepth 100000 in
set_option maxHeartbeats 2000000 in
theorem read_wLink {W0 : Two} {w : World} {b : Nat} {x : SSt} {l : List UInt8} {r : List (List UInt8)} (h : RdX W0 b w x) (hsz : SLe 100000 x) (hlk : x.at_ = 6 → 0 < x.sc.lk.length) (hat : x.at_ ≤ 7) (hl : l.length ≤ 99999) (hp : pcs 32 l = wLink :: r) :
    Calls Tryz.prog 42 #[.pointer (some ⟨b, 0, none⟩), .string (bstr l)] w fun e w' => RdR W0 b (rdW x (wLink :: r)) e w' := by
  have _u : True := by have := hsz; have := hlk; have := hat; trivial
  rw [show rdW x (wLink :: r) = rdLink x r by
    rw [rdW]
    rw [if_neg (show ¬ wLink = wUntil by decide)]
    rw [if_neg (show ¬ wLink = wSeed by decide)]
    rw [if_neg (show ¬ wLink = wNode by decide)]
    rw [if_neg (show ¬ (wLink = wOsc ∨ wLink = wSeg ∨ wLink = wUse) by decide)]
    rw [if_pos rfl]]
  have hwd := rwords (bstr l) (by rw [bstr_size]; omega) w
  rw [bstr_data, hp] at hwd
  have HWD := Lib.hid hwd
  have hbl : ∀ y ∈ wLink :: r, y.length ≤ 1000000 := fun y hy => by rw [← hp] at hy; have := mem_pcs_len hy; omega
  have hnn : (wLink :: r).length ≤ 100000 := by rw [← hp]; have := pcs_length_le 32 l; omega
  have HC := Lib.hid (fun (w1 : World) (ho : Only [] w w1) (p : Option Addr) (cap : Nat) (hv : VRow strC 1 w1 p (wLink :: r).length cap (wLink :: r)) => link (h.kept ho) hsz hat hv hnn hbl)
  generalize rdLink x r = res at HC ⊢
  generalize bstr l = X at HWD ⊢
  clear hwd hl hp
  go_enter Tryz.func42, Tryz.ntmps42
  go_wp2_with fail
  refine HWD.out.mono ?_
  rintro e w1 ⟨⟨p, cap, rfl, hv⟩, ho⟩
  have HC1 := Lib.hid (HC.out w1 ho p cap hv)
  obtain ⟨bw, off, hp', s0, lw⟩ := hv.str (Only.refl [] w1) (k := 0) (by simp)
  subst hp'
  have t0 : w1.cell? ⟨bw, off, none⟩ = some (.string (bstr wLink)) := s0
  have tO : (bstr wLink).toList = [108, 105, 110, 107] := by rw [Lib.toList_data]; rfl
  generalize bstr wLink = S at t0 tO
  have hlq : (wLink :: r).length = r.length + 1 := rfl
  rw [hlq] at HC1 hnn ⊢
  generalize r.length = m at HC1 hnn ⊢
  clear h hsz hlk hat hv ho s0 hlq hbl HC HWD
  go_wp2_with fail
  refine HC1.out.mono ?_
  rintro e w2 hr
  obtain ⟨ok, rfl⟩ := rdR_form hr
  have HR := Lib.hid hr
  clear hr HC1
  go_wp2
  go_ret
  exact HR.out
set_option maxRecDepth 100000 in
set_option maxHeartbeats 2000000 in
theorem read_wChange {W0 : Two} {w : World} {b : Nat} {x : SSt} {l : List UInt8} {r : List (List UInt8)} (h : RdX W0 b w x) (hsz : SLe 100000 x) (hlk : x.at_ = 6 → 0 < x.sc.lk.length) (hat : x.at_ ≤ 7) (hl : l.length ≤ 99999) (hp : pcs 32 l = wChange :: r) :
    Calls Tryz.prog 42 #[.pointer (some ⟨b, 0, none⟩), .string (bstr l)] w fun e w' => RdR W0 b (rdW x (wChange :: r)) e w' := by
  have _u : True := by have := hsz; have := hlk; have := hat; trivial
  rw [show rdW x (wChange :: r) = rdChange x r by
    rw [rdW]
    rw [if_neg (show ¬ wChange = wUntil by decide)]
    rw [if_neg (show ¬ wChange = wSeed by decide)]
    rw [if_neg (show ¬ wChange = wNode by decide)]
    rw [if_neg (show ¬ (wChange = wOsc ∨ wChange = wSeg ∨ wChange = wUse) by decide)]
    rw [if_neg (show ¬ wChange = wLink by decide)]
    rw [if_pos rfl]]
  have hwd := rwords (bstr l) (by rw [bstr_size]; omega) w
  rw [bstr_data, hp] at hwd
  have HWD := Lib.hid hwd
  have hbl : ∀ y ∈ wChange :: r, y.length ≤ 1000000 := fun y hy => by rw [← hp] at hy; have := mem_pcs_len hy; omega
  have hnn : (wChange :: r).length ≤ 100000 := by rw [← hp]; have := pcs_length_le 32 l; omega
  have HC := Lib.hid (fun (w1 : World) (ho : Only [] w w1) (p : Option Addr) (cap : Nat) (hv : VRow strC 1 w1 p (wChange :: r).length cap (wChange :: r)) => change (h.kept ho) hsz hlk hv hnn hbl)
  generalize rdChange x r = res at HC ⊢
  generalize bstr l = X at HWD ⊢
  clear hwd hl hp
  go_enter Tryz.func42, Tryz.ntmps42
  go_wp2_with fail
  refine HWD.out.mono ?_
  rintro e w1 ⟨⟨p, cap, rfl, hv⟩, ho⟩
  have HC1 := Lib.hid (HC.out w1 ho p cap hv)
  obtain ⟨bw, off, hp', s0, lw⟩ := hv.str (Only.refl [] w1) (k := 0) (by simp)
  subst hp'
  have t0 : w1.cell? ⟨bw, off, none⟩ = some (.string (bstr wChange)) := s0
  have tO : (bstr wChange).toList = [99, 104, 97, 110, 103, 101] := by rw [Lib.toList_data]; rfl
  generalize bstr wChange = S at t0 tO
  have hlq : (wChange :: r).length = r.length + 1 := rfl
  rw [hlq] at HC1 hnn ⊢
  generalize r.length = m at HC1 hnn ⊢
  clear h hsz hlk hat hv ho s0 hlq hbl HC HWD
  go_wp2_with fail
  refine HC1.out.mono ?_
  rintro e w2 hr
  obtain ⟨ok, rfl⟩ := rdR_form hr
  have HR := Lib.hid hr
  clear hr HC1
  go_wp2
  go_ret
  exact HR.out
set_option maxRecDepth 100000 in
set_option maxHeartbeats 2000000 in
theorem read_wFault {W0 : Two} {w : World} {b : Nat} {x : SSt} {l : List UInt8} {r : List (List UInt8)} (h : RdX W0 b w x) (hsz : SLe 100000 x) (hlk : x.at_ = 6 → 0 < x.sc.lk.length) (hat : x.at_ ≤ 7) (hl : l.length ≤ 99999) (hp : pcs 32 l = wFault :: r) :
    Calls Tryz.prog 42 #[.pointer (some ⟨b, 0, none⟩), .string (bstr l)] w fun e w' => RdR W0 b (rdW x (wFault :: r)) e w' := by
  have _u : True := by have := hsz; have := hlk; have := hat; trivial
  rw [show rdW x (wFault :: r) = rdFault x r by
    rw [rdW]
    rw [if_neg (show ¬ wFault = wUntil by decide)]
    rw [if_neg (show ¬ wFault = wSeed by decide)]
    rw [if_neg (show ¬ wFault = wNode by decide)]
    rw [if_neg (show ¬ (wFault = wOsc ∨ wFault = wSeg ∨ wFault = wUse) by decide)]
    rw [if_neg (show ¬ wFault = wLink by decide)]
    rw [if_neg (show ¬ wFault = wChange by decide)]
    rw [if_pos rfl]]
  have hwd := rwords (bstr l) (by rw [bstr_size]; omega) w
  rw [bstr_data, hp] at hwd
  have HWD := Lib.hid hwd
  have hbl : ∀ y ∈ wFault :: r, y.length ≤ 1000000 := fun y hy => by rw [← hp] at hy; have := mem_pcs_len hy; omega
  have hnn : (wFault :: r).length ≤ 100000 := by rw [← hp]; have := pcs_length_le 32 l; omega
  have HC := Lib.hid (fun (w1 : World) (ho : Only [] w w1) (p : Option Addr) (cap : Nat) (hv : VRow strC 1 w1 p (wFault :: r).length cap (wFault :: r)) => fault (h.kept ho) hsz hv hnn hbl)
  generalize rdFault x r = res at HC ⊢
  generalize bstr l = X at HWD ⊢
  clear hwd hl hp
  go_enter Tryz.func42, Tryz.ntmps42
  go_wp2_with fail
  refine HWD.out.mono ?_
  rintro e w1 ⟨⟨p, cap, rfl, hv⟩, ho⟩
  have HC1 := Lib.hid (HC.out w1 ho p cap hv)
  obtain ⟨bw, off, hp', s0, lw⟩ := hv.str (Only.refl [] w1) (k := 0) (by simp)
  subst hp'
  have t0 : w1.cell? ⟨bw, off, none⟩ = some (.string (bstr wFault)) := s0
  have tO : (bstr wFault).toList = [102, 97, 117, 108, 116] := by rw [Lib.toList_data]; rfl
  generalize bstr wFault = S at t0 tO
  have hlq : (wFault :: r).length = r.length + 1 := rfl
  rw [hlq] at HC1 hnn ⊢
  generalize r.length = m at HC1 hnn ⊢
  clear h hsz hlk hat hv ho s0 hlq hbl HC HWD
  go_wp2_with fail
  refine HC1.out.mono ?_
  rintro e w2 hr
  obtain ⟨ok, rfl⟩ := rdR_form hr
  have HR := Lib.hid hr
  clear hr HC1
  go_wp2
  go_ret
  exact HR.out
set_option maxRecDepth 100000 in
set_option maxHeartbeats 2000000 in
theorem read_wUntil {W0 : Two} {w : World} {b : Nat} {x : SSt} {l : List UInt8} {r : List (List UInt8)} (h : RdX W0 b w x) (hsz : SLe 100000 x) (hlk : x.at_ = 6 → 0 < x.sc.lk.length) (hat : x.at_ ≤ 7) (hl : l.length ≤ 99999) (hp : pcs 32 l = wUntil :: r) :
    Calls Tryz.prog 42 #[.pointer (some ⟨b, 0, none⟩), .string (bstr l)] w fun e w' => RdR W0 b (rdW x (wUntil :: r)) e w' := by
  have _u : True := by have := hsz; have := hlk; have := hat; trivial
  rw [show rdW x (wUntil :: r) = rdUntil x r by
    rw [rdW]
    rw [if_pos rfl]]
  have hwd := rwords (bstr l) (by rw [bstr_size]; omega) w
  rw [bstr_data, hp] at hwd
  have HWD := Lib.hid hwd
  have hbl : ∀ y ∈ wUntil :: r, y.length ≤ 1000000 := fun y hy => by rw [← hp] at hy; have := mem_pcs_len hy; omega
  have hnn : (wUntil :: r).length ≤ 100000 := by rw [← hp]; have := pcs_length_le 32 l; omega
  obtain ⟨res, hres⟩ : ∃ res, res = rdUntil x r := ⟨_, rfl⟩
  rw [← hres]
  generalize bstr l = X at HWD ⊢
  clear hwd hl hp
  go_enter Tryz.func42, Tryz.ntmps42
  go_wp2_with fail
  refine HWD.out.mono ?_
  rintro e w1 ⟨⟨p, cap, rfl, hv⟩, ho⟩
  have HN := Lib.hid (rNumbers 1 (by simp) hv hnn hbl)
  rw [show (wUntil :: r).drop 1 = r from rfl] at HN
  obtain ⟨hb0, hb1, ns, ls, vn, vl, vf, hR⟩ := h.kept ho
  have HR := Lib.hid hR; have H0 := Lib.hid hb0; have H1 := Lib.hid hb1
  obtain ⟨bw, off, hp', s0, lw⟩ := hv.str (Only.refl [] w1) (k := 0) (by simp)
  subst hp'
  have t0 : w1.cell? ⟨bw, off, none⟩ = some (.string (bstr wUntil)) := s0
  have tO : (bstr wUntil).toList = [117, 110, 116, 105, 108] := by rw [Lib.toList_data]; rfl
  generalize bstr wUntil = S at t0 tO
  have hlq : (wUntil :: r).length = r.length + 1 := rfl
  rw [hlq] at HN hnn ⊢
  generalize r.length = m at HN hnn ⊢
  clear h hsz hlk hat hv ho s0 hlq hbl HWD hR hb0 hb1
  go_wp2_with fail
  refine HN.out.mono ?_
  rintro e w2 ⟨hv4, ho2⟩
  have R2 := Lib.hid (HR.out.kept ho2); have O2 := Lib.hid (H1.out.nil_trans ho2)
  clear HN HR H1 ho2 t0 lw
  cases hq : numsO r with
  | none =>
    rw [hq] at hv4
    have he : e = .returned (.tuple #[.slice none 0 0, .bool false]) := hv4
    subst he
    have HQ : Hid (res = none) := Lib.hid (by rw [hres]; exact rdU_none hq)
    clear hv4 hq hres
    have q5 := cell_got R2.out.box 5; have lq := got_lt R2.out.box
    go_wp2
    go_ret
    rw [HQ.out]
    exact ⟨rfl, O2.out⟩
  | some ms =>
    rw [hq] at hv4
    obtain ⟨v, he, hown⟩ : ∃ v, e = .returned (.tuple #[v, .bool true]) ∧ Own itC 3 1 w1.heap.size w2 v ms := hv4
    subst he
    have q5 := cell_got R2.out.box 5; have lq := got_lt R2.out.box
    by_cases hL : ms.length = 1
    · obtain ⟨m0, rfl⟩ : ∃ m0, ms = [m0] := by
        rcases ms with _ | ⟨m0, _ | ⟨q, l⟩⟩
        · simp at hL
        · exact ⟨m0, rfl⟩
        · simp at hL
      obtain ⟨g, capg, rfl, hgw, hrow⟩ : ∃ g capg, v = .slice (some ⟨g, 0, none⟩) 1 capg ∧ w1.heap.size ≤ g ∧ RowAt itC 3 1 w2 g capg [m0] := by
        rcases hown with ⟨_, h⟩ | h
        · cases h
        · exact h
      have c0 : w2.cell? ⟨g, 0, none⟩ = some (.int .i64 m0) := hrow.cell (i := 0) (j := 0) itC_len rfl (by decide)
      have lg := hrow.lt
      clear hown hgw hL hrow
      by_cases h0 : x.at_ = 0
      · have HQ : Hid (res = some ⟨{ x.sc with un := m0 }, 1⟩) := Lib.hid (by rw [hres]; exact rdU_yes hq h0)
        have d0 : ((x.at_ : Int) != 0) = false := by rw [h0]; rfl
        have d0' : ((x.at_ : Int) == 0) = true := by rw [h0]; rfl
        have f3 := frozen_got R2.out.box 3; have f5 := frozen_got R2.out.box 5; have q3 := cell_got R2.out.box 3
        clear hq hres h0
        go_wp2
        go_ret
        rw [HQ.out]
        refine ⟨rfl, H0.out, (O2.out.setCell (.inl (by simp)) _).setCell (.inl (by simp)) _, ns, ls, vn, vl, vf, ?_⟩
        exact R2.out.cell (((Only.refl [b] w2).setCell (.inl (by simp)) _).setCell (.inl (by simp)) _) (setCell_got _ (setCell_got _ R2.out.box)) rfl rfl rfl
      · have HQ : Hid (res = none) := Lib.hid (by rw [hres]; exact rdU_at h0)
        have d0 : ((x.at_ : Int) != 0) = true := by rw [bne_iff_ne]; omega
        have d0' : ((x.at_ : Int) == 0) = false := by rw [beq_eq_false_iff_ne]; omega
        clear hq hres h0
        go_wp2
        go_ret
        rw [HQ.out]
        exact ⟨rfl, O2.out⟩
    · have HQ : Hid (res = none) := Lib.hid (by rw [hres]; exact rdU_len hq hL)
      obtain ⟨p', cap', rfl, _⟩ := hown.vrow itC_len
      have z1 : ((ms.length : Int) != 1) = true := by rw [bne_iff_ne]; omega
      have z1' : ((ms.length : Int) == 1) = false := by rw [beq_eq_false_iff_ne]; omega
      clear hown hq hres hL
      generalize ms.length = L at z1 z1' ⊢
      go_wp2
      go_ret
      rw [HQ.out]
      exact ⟨rfl, O2.out⟩
set_option maxRecDepth 100000 in
set_option maxHeartbeats 2000000 in
theorem read_wSeed {W0 : Two} {w : World} {b : Nat} {x : SSt} {l : List UInt8} {r : List (List UInt8)} (h : RdX W0 b w x) (hsz : SLe 100000 x) (hlk : x.at_ = 6 → 0 < x.sc.lk.length) (hat : x.at_ ≤ 7) (hl : l.length ≤ 99999) (hp : pcs 32 l = wSeed :: r) :
    Calls Tryz.prog 42 #[.pointer (some ⟨b, 0, none⟩), .string (bstr l)] w fun e w' => RdR W0 b (rdW x (wSeed :: r)) e w' := by
  have _u : True := by have := hsz; have := hlk; have := hat; trivial
  rw [show rdW x (wSeed :: r) = rdSeed x r by
    rw [rdW]
    rw [if_neg (show ¬ wSeed = wUntil by decide)]
    rw [if_pos rfl]]
  have hwd := rwords (bstr l) (by rw [bstr_size]; omega) w
  rw [bstr_data, hp] at hwd
  have HWD := Lib.hid hwd
  have hbl : ∀ y ∈ wSeed :: r, y.length ≤ 1000000 := fun y hy => by rw [← hp] at hy; have := mem_pcs_len hy; omega
  have hnn : (wSeed :: r).length ≤ 100000 := by rw [← hp]; have := pcs_length_le 32 l; omega
  obtain ⟨res, hres⟩ : ∃ res, res = rdSeed x r := ⟨_, rfl⟩
  rw [← hres]
  generalize bstr l = X at HWD ⊢
  clear hwd hl hp
  go_enter Tryz.func42, Tryz.ntmps42
  go_wp2_with fail
  refine HWD.out.mono ?_
  rintro e w1 ⟨⟨p, cap, rfl, hv⟩, ho⟩
  obtain ⟨hb0, hb1, ns, ls, vn, vl, vf, hR⟩ := h.kept ho
  have HR := Lib.hid hR; have H0 := Lib.hid hb0; have O2 := Lib.hid hb1
  have q5 := cell_got HR.out.box 5; have lq := got_lt HR.out.box
  clear hR hb0 hb1 HWD
  by_cases h2 : (wSeed :: r).length = 2
  · obtain ⟨a, rfl⟩ : ∃ a, r = [a] := by
      rcases r with _ | ⟨a, _ | ⟨c, r⟩⟩
      · simp at h2
      · exact ⟨a, rfl⟩
      · simp at h2
    have hx : res = if x.at_ = 1 then (natO a).map fun (n : Nat) => (⟨{ x.sc with sd := (n : Int) }, 2⟩ : SSt) else none := hres
    obtain ⟨bw, off, hp', s0, lw⟩ := hv.str (Only.refl [] w1) (k := 0) (by simp)
    subst hp'
    have t0 : w1.cell? ⟨bw, off, none⟩ = some (.string (bstr wSeed)) := s0
    have tO : (bstr wSeed).toList = [115, 101, 101, 100] := by rw [Lib.toList_data]; rfl
    obtain ⟨_, _, hp1, s1, _⟩ := hv.str (Only.refl [] w1) (k := 1) (by simp)
    cases hp1
    have t1 : w1.cell? ⟨bw, off + 1, none⟩ = some (.string (bstr a)) := s1
    generalize bstr wSeed = S at t0 tO
    have I1 := Lib.hid (rNatural (bstr a) w1 (by rw [bstr_size]; exact hbl a (by simp)))
    rw [bstr_data] at I1
    unfold NatP at I1
    have HXX := Lib.hid hx
    rw [h2] at hnn ⊢
    clear h hsz hlk hat hv ho s0 s1 hbl hres h2 hx
    by_cases h1 : x.at_ = 1
    · have d0 : ((x.at_ : Int) != 1) = false := by rw [h1]; rfl
      have d0' : ((x.at_ : Int) == 1) = true := by rw [h1]; rfl
      have HY := Lib.hid (HXX.out.trans (if_pos h1))
      clear HXX h1
      go_wp2_with fail
      refine I1.out.mono ?_
      rintro e w2 ⟨rfl, rfl⟩
      clear I1 t0 t1
      have f4 := frozen_got HR.out.box 4; have f5 := frozen_got HR.out.box 5; have q4 := cell_got HR.out.box 4
      generalize natO a = o at HY ⊢
      rcases o with _ | u
      · have HQ : Hid (res = none) := HY
        simp only [Option.isSome_none, Option.getD_none]
        go_wp2
        go_ret
        rw [HQ.out]
        exact ⟨rfl, (O2.out.setCell (.inl (by simp)) _).setCell (.inl (by simp)) _⟩
      · have HQ : Hid (res = some (⟨{ x.sc with sd := (u : Int) }, 2⟩ : SSt)) := HY
        simp only [Option.isSome_some, Option.getD_some]
        go_wp2
        go_ret
        rw [HQ.out]
        refine ⟨rfl, H0.out, (O2.out.setCell (.inl (by simp)) _).setCell (.inl (by simp)) _, ns, ls, vn, vl, vf, ?_⟩
        exact HR.out.cell (((Only.refl [b] w1).setCell (.inl (by simp)) _).setCell (.inl (by simp)) _) (setCell_got _ (setCell_got _ HR.out.box)) rfl rfl rfl
    · have d0 : ((x.at_ : Int) != 1) = true := by rw [bne_iff_ne]; omega
      have d0' : ((x.at_ : Int) == 1) = false := by rw [beq_eq_false_iff_ne]; omega
      have HQ := Lib.hid (HXX.out.trans (if_neg h1))
      clear HXX h1
      go_wp2
      go_ret
      rw [HQ.out]
      exact ⟨rfl, O2.out⟩
  · have HQ : Hid (res = none) := Lib.hid (by
      rw [hres]
      rcases r with _ | ⟨a, _ | ⟨c, r⟩⟩
      · rfl
      · exact absurd rfl h2
      · rfl)
    obtain ⟨bw, off, hp', s0, lw⟩ := hv.str (Only.refl [] w1) (k := 0) (by simp)
    subst hp'
    have t0 : w1.cell? ⟨bw, off, none⟩ = some (.string (bstr wSeed)) := s0
    have tO : (bstr wSeed).toList = [115, 101, 101, 100] := by rw [Lib.toList_data]; rfl
    generalize bstr wSeed = S at t0 tO
    have z1 : (((wSeed :: r).length : Int) != 2) = true := by rw [bne_iff_ne]; omega
    have z1' : (((wSeed :: r).length : Int) == 2) = false := by rw [beq_eq_false_iff_ne]; omega
    have hz0 : (0 : Int) < ((wSeed :: r).length : Int) := by simp
    clear h hsz hlk hat hv ho s0 hbl hres h2
    generalize (wSeed :: r).length = nn at z1 z1' hz0 hnn ⊢
    go_wp2
    go_ret
    rw [HQ.out]
    exact ⟨rfl, O2.out⟩
set_option maxRecDepth 100000 in
set_option maxHeartbeats 2000000 in
theorem read_no {W0 : Two} {w : World} {b : Nat} {x : SSt} {l : List UInt8} {wd : List UInt8} {r : List (List UInt8)} (h : RdX W0 b w x) (hl : l.length ≤ 99999) (hp : pcs 32 l = wd :: r) (nwUntil : wd ≠ wUntil) (nwSeed : wd ≠ wSeed) (nwNode : wd ≠ wNode) (nwOsc : wd ≠ wOsc) (nwSeg : wd ≠ wSeg) (nwUse : wd ≠ wUse) (nwLink : wd ≠ wLink) (nwChange : wd ≠ wChange) (nwFault : wd ≠ wFault) :
    Calls Tryz.prog 42 #[.pointer (some ⟨b, 0, none⟩), .string (bstr l)] w fun e w' => RdR W0 b (rdW x (wd :: r)) e w' := by
  rw [show rdW x (wd :: r) = none by
    rw [rdW]
    rw [if_neg nwUntil, if_neg nwSeed, if_neg nwNode, if_neg (fun q => by rcases q with q | q | q; exact nwOsc q; exact nwSeg q; exact nwUse q), if_neg nwLink, if_neg nwChange, if_neg nwFault]]
  have hwd := rwords (bstr l) (by rw [bstr_size]; omega) w
  rw [bstr_data, hp] at hwd
  have HWD := Lib.hid hwd
  have hnn : (wd :: r).length ≤ 100000 := by rw [← hp]; have := pcs_length_le 32 l; omega
  generalize bstr l = X at HWD ⊢
  clear hwd hl hp
  go_enter Tryz.func42, Tryz.ntmps42
  go_wp2_with fail
  refine HWD.out.mono ?_
  rintro e w1 ⟨⟨p, cap, rfl, hv⟩, ho⟩
  obtain ⟨hb0, hb1, ns, ls, vn, vl, vf, hR⟩ := h.kept ho
  have O2 := Lib.hid hb1
  obtain ⟨bw, off, hp', s0, lw⟩ := hv.str (Only.refl [] w1) (k := 0) (by simp)
  subst hp'
  have t0 : w1.cell? ⟨bw, off, none⟩ = some (.string (bstr wd)) := s0
  have twUntil : ¬ (bstr wd).toList = [117, 110, 116, 105, 108] := fun q => nwUntil (by rw [Lib.toList_data] at q; exact q)
  have bwUntil : ((bstr wd).toList == [117, 110, 116, 105, 108]) = false := beq_eq_false_iff_ne.2 twUntil
  have twSeed : ¬ (bstr wd).toList = [115, 101, 101, 100] := fun q => nwSeed (by rw [Lib.toList_data] at q; exact q)
  have bwSeed : ((bstr wd).toList == [115, 101, 101, 100]) = false := beq_eq_false_iff_ne.2 twSeed
  have twNode : ¬ (bstr wd).toList = [110, 111, 100, 101] := fun q => nwNode (by rw [Lib.toList_data] at q; exact q)
  have bwNode : ((bstr wd).toList == [110, 111, 100, 101]) = false := beq_eq_false_iff_ne.2 twNode
  have twOsc : ¬ (bstr wd).toList = [111, 115, 99] := fun q => nwOsc (by rw [Lib.toList_data] at q; exact q)
  have bwOsc : ((bstr wd).toList == [111, 115, 99]) = false := beq_eq_false_iff_ne.2 twOsc
  have twSeg : ¬ (bstr wd).toList = [115, 101, 103] := fun q => nwSeg (by rw [Lib.toList_data] at q; exact q)
  have bwSeg : ((bstr wd).toList == [115, 101, 103]) = false := beq_eq_false_iff_ne.2 twSeg
  have twUse : ¬ (bstr wd).toList = [117, 115, 101] := fun q => nwUse (by rw [Lib.toList_data] at q; exact q)
  have bwUse : ((bstr wd).toList == [117, 115, 101]) = false := beq_eq_false_iff_ne.2 twUse
  have twLink : ¬ (bstr wd).toList = [108, 105, 110, 107] := fun q => nwLink (by rw [Lib.toList_data] at q; exact q)
  have bwLink : ((bstr wd).toList == [108, 105, 110, 107]) = false := beq_eq_false_iff_ne.2 twLink
  have twChange : ¬ (bstr wd).toList = [99, 104, 97, 110, 103, 101] := fun q => nwChange (by rw [Lib.toList_data] at q; exact q)
  have bwChange : ((bstr wd).toList == [99, 104, 97, 110, 103, 101]) = false := beq_eq_false_iff_ne.2 twChange
  have twFault : ¬ (bstr wd).toList = [102, 97, 117, 108, 116] := fun q => nwFault (by rw [Lib.toList_data] at q; exact q)
  have bwFault : ((bstr wd).toList == [102, 97, 117, 108, 116]) = false := beq_eq_false_iff_ne.2 twFault
  generalize bstr wd = S at t0 twUntil bwUntil twSeed bwSeed twNode bwNode twOsc bwOsc twSeg bwSeg twUse bwUse twLink bwLink twChange bwChange twFault bwFault
  have hz0 : (0 : Int) < ((wd :: r).length : Int) := by simp
  generalize (wd :: r).length = nn at hz0 hnn ⊢
  clear h hR hb0 hb1 hv ho s0 HWD nwUntil nwSeed nwNode nwOsc nwSeg nwUse nwLink nwChange nwFault
  go_wp2
  go_ret
  exact ⟨rfl, O2.out⟩
theorem read {W0 : Two} {w : World} {b : Nat} {x : SSt} {l : List UInt8} (h : RdX W0 b w x) (hsz : SLe 100000 x) (hlk : x.at_ = 6 → 0 < x.sc.lk.length) (hat : x.at_ ≤ 7) (hl : l.length ≤ 99999) :
    Calls Tryz.prog 42 #[.pointer (some ⟨b, 0, none⟩), .string (bstr l)] w fun e w' => RdR W0 b (rdW x (pcs 32 l)) e w' := by
  cases hp : pcs 32 l with
  | nil => exact absurd hp (pcs_ne 32 l)
  | cons wd r =>
    by_cases nwUntil : wd = wUntil
    · subst nwUntil
      exact read_wUntil h hsz hlk hat hl hp
    by_cases nwSeed : wd = wSeed
    · subst nwSeed
      exact read_wSeed h hsz hlk hat hl hp
    by_cases nwNode : wd = wNode
    · subst nwNode
      exact read_wNode h hsz hlk hat hl hp
    by_cases nwOsc : wd = wOsc
    · subst nwOsc
      exact read_wOsc h hsz hlk hat hl hp
    by_cases nwSeg : wd = wSeg
    · subst nwSeg
      exact read_wSeg h hsz hlk hat hl hp
    by_cases nwUse : wd = wUse
    · subst nwUse
      exact read_wUse h hsz hlk hat hl hp
    by_cases nwLink : wd = wLink
    · subst nwLink
      exact read_wLink h hsz hlk hat hl hp
    by_cases nwChange : wd = wChange
    · subst nwChange
      exact read_wChange h hsz hlk hat hl hp
    by_cases nwFault : wd = wFault
    · subst nwFault
      exact read_wFault h hsz hlk hat hl hp
    exact read_no h hl hp nwUntil nwSeed nwNode nwOsc nwSeg nwUse nwLink nwChange nwFault
end Rf
end Go.Proofs.YthmeifdgkodjlaaGreatDoor
