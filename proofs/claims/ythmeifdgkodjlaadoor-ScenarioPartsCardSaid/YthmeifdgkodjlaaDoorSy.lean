/- node and read of the reader. Conditions: the library's variables are laid; the lengths. -/
import Derived.Test.YthmeifdgkodjlaaDoorSw
import Derived.Test.YthmeifdgkodjlaaDoorSx
namespace Go.Proofs.YthmeifdgkodjlaaDoor
open Go.RowKit

theorem rdNode_st {x : SSt} {r : List (List UInt8)} (h : ¬ (x.at_ = 2 ∨ x.at_ = 4 ∨ x.at_ = 5)) : rdNode x r = none := by
  unfold rdNode
  split
  · exact if_neg (fun q => h q.1)
  · exact if_neg (fun q => h q.1)
  · rfl
theorem rdNode_len {x : SSt} {r : List (List UInt8)} (h5 : r.length ≠ 5) (h7 : r.length ≠ 7) : rdNode x r = none := by
  unfold rdNode
  split
  · exact absurd rfl h5
  · exact absurd rfl h7
  · rfl
set_option maxRecDepth 100000 in
set_option maxHeartbeats 4000000 in
theorem kNode {W0 : Two} {w : World} {b : Nat} {x : SSt} {p : Option Addr} {n cap : Nat} {wd : List UInt8} {r : List (List UInt8)} (h : RdX W0 b w x) (hsz : SLe 100000 x) (hv : VRow strC 1 w p n cap (wd :: r)) (hn : n ≤ 100000) (hl : ∀ y ∈ wd :: r, y.length ≤ 1000000) (he : Env w) :
    Calls Tryd.prog 49 #[.pointer (some ⟨b, 0, none⟩), .slice p n cap] w fun e' w' => RdR W0 b (rdNode x r) e' w' := by
  have hlen := hv.len
  subst hlen
  by_cases hst : x.at_ = 2 ∨ x.at_ = 4 ∨ x.at_ = 5
  · by_cases h5 : r.length = 5
    · rcases r with _ | ⟨i, _ | ⟨x2, _ | ⟨t, _ | ⟨x4, _ | ⟨s, _ | ⟨q, r⟩⟩⟩⟩⟩⟩
      · simp at h5
      · simp at h5
      · simp at h5
      · simp at h5
      · simp at h5
      · exact kNode6 h hsz hv hl he hst
      · simp at h5
    · by_cases h7 : r.length = 7
      · rcases r with _ | ⟨i, _ | ⟨x2, _ | ⟨t, _ | ⟨x4, _ | ⟨s, _ | ⟨x6, _ | ⟨e, _ | ⟨q, r⟩⟩⟩⟩⟩⟩⟩⟩
        · simp at h7
        · simp at h7
        · simp at h7
        · simp at h7
        · simp at h7
        · simp at h7
        · simp at h7
        · exact kNode8 h hsz hv hl he hst
        · simp at h7
      · have HQ := Lib.hid (rdNode_len (x := x) h5 h7)
        generalize rdNode x r = res at HQ ⊢
        obtain ⟨hb0, hb1, ns, ls, vn, vl, vf, hR⟩ := h
        have hlq : (wd :: r).length = r.length + 1 := rfl
        rw [hlq] at hn ⊢
        generalize r.length = m at hn h5 h7 ⊢
        have HR := Lib.hid hR; have H1 := Lib.hid hb1; have HST := Lib.hid hst
        have q5 := cell_got HR.out.box 5; have lq := got_lt HR.out.box
        have z8 : (((m : Int) + 1) == 8) = false := by rw [beq_eq_false_iff_ne]; omega
        have z8n : (((m : Int) + 1) != 8) = true := by rw [bne_iff_ne]; omega
        have z6 : (((m : Int) + 1) == 6) = false := by rw [beq_eq_false_iff_ne]; omega
        have z6n : (((m : Int) + 1) != 6) = true := by rw [bne_iff_ne]; omega
        clear hR hb0 hb1 hsz hv hl he hst h5 h7 hlq
        go_enter Tryd.func49, Tryd.ntmps49
        go_upto_region 1 with (fail)
        go_cut [27] (fun u27 wx => u27 = .bool false ∧ w = wx)
        case first =>
          rcases HST.out with h | h | h
          · have e2 : ((x.at_ : Int) == 2) = true := by rw [beq_iff_eq]; omega
            have e2n : ((x.at_ : Int) != 2) = false := by rw [bne_eq_false_iff_eq]; omega
            have e4 : ((x.at_ : Int) == 4) = false := by rw [beq_eq_false_iff_ne]; omega
            have e4n : ((x.at_ : Int) != 4) = true := by rw [bne_iff_ne]; omega
            have e5 : ((x.at_ : Int) == 5) = false := by rw [beq_eq_false_iff_ne]; omega
            have e5n : ((x.at_ : Int) != 5) = true := by rw [bne_iff_ne]; omega
            clear h
            go_wp2_with fail
            go_meet
            exact ⟨rfl, rfl⟩
          · have e2 : ((x.at_ : Int) == 2) = false := by rw [beq_eq_false_iff_ne]; omega
            have e2n : ((x.at_ : Int) != 2) = true := by rw [bne_iff_ne]; omega
            have e4 : ((x.at_ : Int) == 4) = true := by rw [beq_iff_eq]; omega
            have e4n : ((x.at_ : Int) != 4) = false := by rw [bne_eq_false_iff_eq]; omega
            have e5 : ((x.at_ : Int) == 5) = false := by rw [beq_eq_false_iff_ne]; omega
            have e5n : ((x.at_ : Int) != 5) = true := by rw [bne_iff_ne]; omega
            clear h
            go_wp2_with fail
            go_meet
            exact ⟨rfl, rfl⟩
          · have e2 : ((x.at_ : Int) == 2) = false := by rw [beq_eq_false_iff_ne]; omega
            have e2n : ((x.at_ : Int) != 2) = true := by rw [bne_iff_ne]; omega
            have e4 : ((x.at_ : Int) == 4) = false := by rw [beq_eq_false_iff_ne]; omega
            have e4n : ((x.at_ : Int) != 4) = true := by rw [bne_iff_ne]; omega
            have e5 : ((x.at_ : Int) == 5) = true := by rw [beq_iff_eq]; omega
            have e5n : ((x.at_ : Int) != 5) = false := by rw [bne_eq_false_iff_eq]; omega
            clear h
            go_wp2_with fail
            go_meet
            exact ⟨rfl, rfl⟩
        case rest =>
          obtain ⟨rfl, rfl⟩ := hcut
          go_wp2
          go_ret
          rw [HQ.out]
          exact ⟨rfl, H1.out⟩
  · have HQ := Lib.hid (rdNode_st (r := r) hst)
    generalize rdNode x r = res at HQ ⊢
    obtain ⟨hb0, hb1, ns, ls, vn, vl, vf, hR⟩ := h
    have HR := Lib.hid hR; have H1 := Lib.hid hb1
    have q5 := cell_got HR.out.box 5; have lq := got_lt HR.out.box
    have e2 : ((x.at_ : Int) == 2) = false := by rw [beq_eq_false_iff_ne]; omega
    have e2n : ((x.at_ : Int) != 2) = true := by rw [bne_iff_ne]; omega
    have e4 : ((x.at_ : Int) == 4) = false := by rw [beq_eq_false_iff_ne]; omega
    have e4n : ((x.at_ : Int) != 4) = true := by rw [bne_iff_ne]; omega
    have e5 : ((x.at_ : Int) == 5) = false := by rw [beq_eq_false_iff_ne]; omega
    have e5n : ((x.at_ : Int) != 5) = true := by rw [bne_iff_ne]; omega
    clear hR hb0 hb1 hsz hv hl he hst hn
    generalize (wd :: r).length = nn
    go_enter Tryd.func49, Tryd.ntmps49
    go_wp2
    go_ret
    rw [HQ.out]
    exact ⟨rfl, H1.out⟩
theorem rdR_form {W0 : Two} {w : World} {b : Nat} {r : Option SSt} {e : Ending} (h : RdR W0 b r e w) : ∃ ok, e = .returned (.bool ok) := by
  cases r with
  | none => exact ⟨_, h.1⟩
  | some y => exact ⟨_, h.1⟩
set_option maxRecDepth 100000 in
set_option maxHeartbeats 4000000 in
theorem kRead_wUntil {W0 : Two} {w : World} {b : Nat} {x : SSt} {p : Option Addr} {n cap : Nat} {r : List (List UInt8)} (h : RdX W0 b w x) (hsz : SLe 100000 x) (hlk : x.at_ = 6 → 0 < x.sc.lk.length) (hv : VRow strC 1 w p n cap (wUntil :: r)) (hn : n ≤ 100000) (hl : ∀ y ∈ wUntil :: r, y.length ≤ 1000000) (he : Env w) :
    Calls Tryd.prog 31 #[.pointer (some ⟨b, 0, none⟩), .slice p n cap] w fun e w' => RdR W0 b (rdW x (wUntil :: r)) e w' := by
  have _u : True := by have := hsz; have := hlk; have := hl; have := he; trivial
  rw [show rdW x (wUntil :: r) = rdUntil x r by
    rw [rdW]
    rw [if_pos rfl]]
  have HC := Lib.hid (kUntil h hv hn hl he)
  generalize rdUntil x r = res at HC ⊢
  have hlen := hv.len
  have HV := Lib.hid hv
  subst hlen
  obtain ⟨bw, off, hp, s0, lw⟩ := HV.out.str (Only.refl [] w) (k := 0) (by simp)
  subst hp
  have t0 : w.cell? ⟨bw, off, none⟩ = some (.string (bstr wUntil)) := s0
  have tO : (bstr wUntil).toList = [117, 110, 116, 105, 108] := by rw [Lib.toList_data]; rfl
  generalize bstr wUntil = S at t0 tO
  have hlq : (wUntil :: r).length = r.length + 1 := rfl
  have hcp := HV.out.le
  rw [hlq] at hn hcp HC ⊢
  generalize r.length = m at hn hcp HC ⊢
  clear h hsz hlk hv hl he s0 HV hlq
  go_enter Tryd.func31, Tryd.ntmps31
  go_wp2_with fail
  refine HC.out.mono ?_
  rintro e w1 hr
  obtain ⟨ok, rfl⟩ := rdR_form hr
  have HR := Lib.hid hr
  clear hr HC
  go_wp2
  go_ret
  exact HR.out
set_option maxRecDepth 100000 in
set_option maxHeartbeats 4000000 in
theorem kRead_wSeed {W0 : Two} {w : World} {b : Nat} {x : SSt} {p : Option Addr} {n cap : Nat} {r : List (List UInt8)} (h : RdX W0 b w x) (hsz : SLe 100000 x) (hlk : x.at_ = 6 → 0 < x.sc.lk.length) (hv : VRow strC 1 w p n cap (wSeed :: r)) (hn : n ≤ 100000) (hl : ∀ y ∈ wSeed :: r, y.length ≤ 1000000) (he : Env w) :
    Calls Tryd.prog 31 #[.pointer (some ⟨b, 0, none⟩), .slice p n cap] w fun e w' => RdR W0 b (rdW x (wSeed :: r)) e w' := by
  have _u : True := by have := hsz; have := hlk; have := hl; have := he; trivial
  rw [show rdW x (wSeed :: r) = rdSeed x r by
    rw [rdW]
    rw [if_neg (show ¬ wSeed = wUntil by decide)]
    rw [if_pos rfl]]
  have HC := Lib.hid (kSeed h hv hn hl he)
  generalize rdSeed x r = res at HC ⊢
  have hlen := hv.len
  have HV := Lib.hid hv
  subst hlen
  obtain ⟨bw, off, hp, s0, lw⟩ := HV.out.str (Only.refl [] w) (k := 0) (by simp)
  subst hp
  have t0 : w.cell? ⟨bw, off, none⟩ = some (.string (bstr wSeed)) := s0
  have tO : (bstr wSeed).toList = [115, 101, 101, 100] := by rw [Lib.toList_data]; rfl
  generalize bstr wSeed = S at t0 tO
  have hlq : (wSeed :: r).length = r.length + 1 := rfl
  have hcp := HV.out.le
  rw [hlq] at hn hcp HC ⊢
  generalize r.length = m at hn hcp HC ⊢
  clear h hsz hlk hv hl he s0 HV hlq
  go_enter Tryd.func31, Tryd.ntmps31
  go_wp2_with fail
  refine HC.out.mono ?_
  rintro e w1 hr
  obtain ⟨ok, rfl⟩ := rdR_form hr
  have HR := Lib.hid hr
  clear hr HC
  go_wp2
  go_ret
  exact HR.out
set_option maxRecDepth 100000 in
set_option maxHeartbeats 4000000 in
theorem kRead_wNode {W0 : Two} {w : World} {b : Nat} {x : SSt} {p : Option Addr} {n cap : Nat} {r : List (List UInt8)} (h : RdX W0 b w x) (hsz : SLe 100000 x) (hlk : x.at_ = 6 → 0 < x.sc.lk.length) (hv : VRow strC 1 w p n cap (wNode :: r)) (hn : n ≤ 100000) (hl : ∀ y ∈ wNode :: r, y.length ≤ 1000000) (he : Env w) :
    Calls Tryd.prog 31 #[.pointer (some ⟨b, 0, none⟩), .slice p n cap] w fun e w' => RdR W0 b (rdW x (wNode :: r)) e w' := by
  have _u : True := by have := hsz; have := hlk; have := hl; have := he; trivial
  rw [show rdW x (wNode :: r) = rdNode x r by
    rw [rdW]
    rw [if_neg (show ¬ wNode = wUntil by decide)]
    rw [if_neg (show ¬ wNode = wSeed by decide)]
    rw [if_pos rfl]]
  have HC := Lib.hid (kNode h hsz hv hn hl he)
  generalize rdNode x r = res at HC ⊢
  have hlen := hv.len
  have HV := Lib.hid hv
  subst hlen
  obtain ⟨bw, off, hp, s0, lw⟩ := HV.out.str (Only.refl [] w) (k := 0) (by simp)
  subst hp
  have t0 : w.cell? ⟨bw, off, none⟩ = some (.string (bstr wNode)) := s0
  have tO : (bstr wNode).toList = [110, 111, 100, 101] := by rw [Lib.toList_data]; rfl
  generalize bstr wNode = S at t0 tO
  have hlq : (wNode :: r).length = r.length + 1 := rfl
  have hcp := HV.out.le
  rw [hlq] at hn hcp HC ⊢
  generalize r.length = m at hn hcp HC ⊢
  clear h hsz hlk hv hl he s0 HV hlq
  go_enter Tryd.func31, Tryd.ntmps31
  go_wp2_with fail
  refine HC.out.mono ?_
  rintro e w1 hr
  obtain ⟨ok, rfl⟩ := rdR_form hr
  have HR := Lib.hid hr
  clear hr HC
  go_wp2
  go_ret
  exact HR.out
set_option maxRecDepth 100000 in
set_option maxHeartbeats 4000000 in
theorem kRead_wOsc {W0 : Two} {w : World} {b : Nat} {x : SSt} {p : Option Addr} {n cap : Nat} {r : List (List UInt8)} (h : RdX W0 b w x) (hsz : SLe 100000 x) (hlk : x.at_ = 6 → 0 < x.sc.lk.length) (hv : VRow strC 1 w p n cap (wOsc :: r)) (hn : n ≤ 100000) (hl : ∀ y ∈ wOsc :: r, y.length ≤ 1000000) (he : Env w) :
    Calls Tryd.prog 31 #[.pointer (some ⟨b, 0, none⟩), .slice p n cap] w fun e w' => RdR W0 b (rdW x (wOsc :: r)) e w' := by
  have _u : True := by have := hsz; have := hlk; have := hl; have := he; trivial
  rw [show rdW x (wOsc :: r) = rdPart x wOsc r by
    rw [rdW]
    rw [if_neg (show ¬ wOsc = wUntil by decide)]
    rw [if_neg (show ¬ wOsc = wSeed by decide)]
    rw [if_neg (show ¬ wOsc = wNode by decide)]
    rw [if_pos (by decide)]]
  have HC := Lib.hid (kPartOsc h hsz hv hn hl he)
  generalize rdPart x wOsc r = res at HC ⊢
  have hlen := hv.len
  have HV := Lib.hid hv
  subst hlen
  obtain ⟨bw, off, hp, s0, lw⟩ := HV.out.str (Only.refl [] w) (k := 0) (by simp)
  subst hp
  have t0 : w.cell? ⟨bw, off, none⟩ = some (.string (bstr wOsc)) := s0
  have tO : (bstr wOsc).toList = [111, 115, 99] := by rw [Lib.toList_data]; rfl
  generalize bstr wOsc = S at t0 tO
  have hlq : (wOsc :: r).length = r.length + 1 := rfl
  have hcp := HV.out.le
  rw [hlq] at hn hcp HC ⊢
  generalize r.length = m at hn hcp HC ⊢
  clear h hsz hlk hv hl he s0 HV hlq
  go_enter Tryd.func31, Tryd.ntmps31
  go_wp2_with fail
  refine HC.out.mono ?_
  rintro e w1 hr
  obtain ⟨ok, rfl⟩ := rdR_form hr
  have HR := Lib.hid hr
  clear hr HC
  go_wp2
  go_ret
  exact HR.out
set_option maxRecDepth 100000 in
set_option maxHeartbeats 4000000 in
theorem kRead_wSeg {W0 : Two} {w : World} {b : Nat} {x : SSt} {p : Option Addr} {n cap : Nat} {r : List (List UInt8)} (h : RdX W0 b w x) (hsz : SLe 100000 x) (hlk : x.at_ = 6 → 0 < x.sc.lk.length) (hv : VRow strC 1 w p n cap (wSeg :: r)) (hn : n ≤ 100000) (hl : ∀ y ∈ wSeg :: r, y.length ≤ 1000000) (he : Env w) :
    Calls Tryd.prog 31 #[.pointer (some ⟨b, 0, none⟩), .slice p n cap] w fun e w' => RdR W0 b (rdW x (wSeg :: r)) e w' := by
  have _u : True := by have := hsz; have := hlk; have := hl; have := he; trivial
  rw [show rdW x (wSeg :: r) = rdPart x wSeg r by
    rw [rdW]
    rw [if_neg (show ¬ wSeg = wUntil by decide)]
    rw [if_neg (show ¬ wSeg = wSeed by decide)]
    rw [if_neg (show ¬ wSeg = wNode by decide)]
    rw [if_pos (by decide)]]
  have HC := Lib.hid (kPartSeg h hsz hv hn hl he)
  generalize rdPart x wSeg r = res at HC ⊢
  have hlen := hv.len
  have HV := Lib.hid hv
  subst hlen
  obtain ⟨bw, off, hp, s0, lw⟩ := HV.out.str (Only.refl [] w) (k := 0) (by simp)
  subst hp
  have t0 : w.cell? ⟨bw, off, none⟩ = some (.string (bstr wSeg)) := s0
  have tO : (bstr wSeg).toList = [115, 101, 103] := by rw [Lib.toList_data]; rfl
  generalize bstr wSeg = S at t0 tO
  have hlq : (wSeg :: r).length = r.length + 1 := rfl
  have hcp := HV.out.le
  rw [hlq] at hn hcp HC ⊢
  generalize r.length = m at hn hcp HC ⊢
  clear h hsz hlk hv hl he s0 HV hlq
  go_enter Tryd.func31, Tryd.ntmps31
  go_wp2_with fail
  refine HC.out.mono ?_
  rintro e w1 hr
  obtain ⟨ok, rfl⟩ := rdR_form hr
  have HR := Lib.hid hr
  clear hr HC
  go_wp2
  go_ret
  exact HR.out
set_option maxRecDepth 100000 in
set_option maxHeartbeats 4000000 in
theorem kRead_wUse {W0 : Two} {w : World} {b : Nat} {x : SSt} {p : Option Addr} {n cap : Nat} {r : List (List UInt8)} (h : RdX W0 b w x) (hsz : SLe 100000 x) (hlk : x.at_ = 6 → 0 < x.sc.lk.length) (hv : VRow strC 1 w p n cap (wUse :: r)) (hn : n ≤ 100000) (hl : ∀ y ∈ wUse :: r, y.length ≤ 1000000) (he : Env w) :
    Calls Tryd.prog 31 #[.pointer (some ⟨b, 0, none⟩), .slice p n cap] w fun e w' => RdR W0 b (rdW x (wUse :: r)) e w' := by
  have _u : True := by have := hsz; have := hlk; have := hl; have := he; trivial
  rw [show rdW x (wUse :: r) = rdPart x wUse r by
    rw [rdW]
    rw [if_neg (show ¬ wUse = wUntil by decide)]
    rw [if_neg (show ¬ wUse = wSeed by decide)]
    rw [if_neg (show ¬ wUse = wNode by decide)]
    rw [if_pos (by decide)]]
  have HC := Lib.hid (kPartUse h hsz hv hn hl he)
  generalize rdPart x wUse r = res at HC ⊢
  have hlen := hv.len
  have HV := Lib.hid hv
  subst hlen
  obtain ⟨bw, off, hp, s0, lw⟩ := HV.out.str (Only.refl [] w) (k := 0) (by simp)
  subst hp
  have t0 : w.cell? ⟨bw, off, none⟩ = some (.string (bstr wUse)) := s0
  have tO : (bstr wUse).toList = [117, 115, 101] := by rw [Lib.toList_data]; rfl
  generalize bstr wUse = S at t0 tO
  have hlq : (wUse :: r).length = r.length + 1 := rfl
  have hcp := HV.out.le
  rw [hlq] at hn hcp HC ⊢
  generalize r.length = m at hn hcp HC ⊢
  clear h hsz hlk hv hl he s0 HV hlq
  go_enter Tryd.func31, Tryd.ntmps31
  go_wp2_with fail
  refine HC.out.mono ?_
  rintro e w1 hr
  obtain ⟨ok, rfl⟩ := rdR_form hr
  have HR := Lib.hid hr
  clear hr HC
  go_wp2
  go_ret
  exact HR.out
set_option maxRecDepth 100000 in
set_option maxHeartbeats 4000000 in
theorem kRead_wLink {W0 : Two} {w : World} {b : Nat} {x : SSt} {p : Option Addr} {n cap : Nat} {r : List (List UInt8)} (h : RdX W0 b w x) (hsz : SLe 100000 x) (hlk : x.at_ = 6 → 0 < x.sc.lk.length) (hv : VRow strC 1 w p n cap (wLink :: r)) (hn : n ≤ 100000) (hl : ∀ y ∈ wLink :: r, y.length ≤ 1000000) (he : Env w) :
    Calls Tryd.prog 31 #[.pointer (some ⟨b, 0, none⟩), .slice p n cap] w fun e w' => RdR W0 b (rdW x (wLink :: r)) e w' := by
  have _u : True := by have := hsz; have := hlk; have := hl; have := he; trivial
  rw [show rdW x (wLink :: r) = rdLink x r by
    rw [rdW]
    rw [if_neg (show ¬ wLink = wUntil by decide)]
    rw [if_neg (show ¬ wLink = wSeed by decide)]
    rw [if_neg (show ¬ wLink = wNode by decide)]
    rw [if_neg (show ¬ (wLink = wOsc ∨ wLink = wSeg ∨ wLink = wUse) by decide)]
    rw [if_pos rfl]]
  have HC := Lib.hid (kLink h hsz hv hn hl he)
  generalize rdLink x r = res at HC ⊢
  have hlen := hv.len
  have HV := Lib.hid hv
  subst hlen
  obtain ⟨bw, off, hp, s0, lw⟩ := HV.out.str (Only.refl [] w) (k := 0) (by simp)
  subst hp
  have t0 : w.cell? ⟨bw, off, none⟩ = some (.string (bstr wLink)) := s0
  have tO : (bstr wLink).toList = [108, 105, 110, 107] := by rw [Lib.toList_data]; rfl
  generalize bstr wLink = S at t0 tO
  have hlq : (wLink :: r).length = r.length + 1 := rfl
  have hcp := HV.out.le
  rw [hlq] at hn hcp HC ⊢
  generalize r.length = m at hn hcp HC ⊢
  clear h hsz hlk hv hl he s0 HV hlq
  go_enter Tryd.func31, Tryd.ntmps31
  go_wp2_with fail
  refine HC.out.mono ?_
  rintro e w1 hr
  obtain ⟨ok, rfl⟩ := rdR_form hr
  have HR := Lib.hid hr
  clear hr HC
  go_wp2
  go_ret
  exact HR.out
set_option maxRecDepth 100000 in
set_option maxHeartbeats 4000000 in
theorem kRead_wChange {W0 : Two} {w : World} {b : Nat} {x : SSt} {p : Option Addr} {n cap : Nat} {r : List (List UInt8)} (h : RdX W0 b w x) (hsz : SLe 100000 x) (hlk : x.at_ = 6 → 0 < x.sc.lk.length) (hv : VRow strC 1 w p n cap (wChange :: r)) (hn : n ≤ 100000) (hl : ∀ y ∈ wChange :: r, y.length ≤ 1000000) (he : Env w) :
    Calls Tryd.prog 31 #[.pointer (some ⟨b, 0, none⟩), .slice p n cap] w fun e w' => RdR W0 b (rdW x (wChange :: r)) e w' := by
  have _u : True := by have := hsz; have := hlk; have := hl; have := he; trivial
  rw [show rdW x (wChange :: r) = rdChange x r by
    rw [rdW]
    rw [if_neg (show ¬ wChange = wUntil by decide)]
    rw [if_neg (show ¬ wChange = wSeed by decide)]
    rw [if_neg (show ¬ wChange = wNode by decide)]
    rw [if_neg (show ¬ (wChange = wOsc ∨ wChange = wSeg ∨ wChange = wUse) by decide)]
    rw [if_neg (show ¬ wChange = wLink by decide)]
    rw [if_pos rfl]]
  have HC := Lib.hid (kChange h hsz hlk hv hn hl he)
  generalize rdChange x r = res at HC ⊢
  have hlen := hv.len
  have HV := Lib.hid hv
  subst hlen
  obtain ⟨bw, off, hp, s0, lw⟩ := HV.out.str (Only.refl [] w) (k := 0) (by simp)
  subst hp
  have t0 : w.cell? ⟨bw, off, none⟩ = some (.string (bstr wChange)) := s0
  have tO : (bstr wChange).toList = [99, 104, 97, 110, 103, 101] := by rw [Lib.toList_data]; rfl
  generalize bstr wChange = S at t0 tO
  have hlq : (wChange :: r).length = r.length + 1 := rfl
  have hcp := HV.out.le
  rw [hlq] at hn hcp HC ⊢
  generalize r.length = m at hn hcp HC ⊢
  clear h hsz hlk hv hl he s0 HV hlq
  go_enter Tryd.func31, Tryd.ntmps31
  go_wp2_with fail
  refine HC.out.mono ?_
  rintro e w1 hr
  obtain ⟨ok, rfl⟩ := rdR_form hr
  have HR := Lib.hid hr
  clear hr HC
  go_wp2
  go_ret
  exact HR.out
set_option maxRecDepth 100000 in
set_option maxHeartbeats 4000000 in
theorem kRead_wFault {W0 : Two} {w : World} {b : Nat} {x : SSt} {p : Option Addr} {n cap : Nat} {r : List (List UInt8)} (h : RdX W0 b w x) (hsz : SLe 100000 x) (hlk : x.at_ = 6 → 0 < x.sc.lk.length) (hv : VRow strC 1 w p n cap (wFault :: r)) (hn : n ≤ 100000) (hl : ∀ y ∈ wFault :: r, y.length ≤ 1000000) (he : Env w) :
    Calls Tryd.prog 31 #[.pointer (some ⟨b, 0, none⟩), .slice p n cap] w fun e w' => RdR W0 b (rdW x (wFault :: r)) e w' := by
  have _u : True := by have := hsz; have := hlk; have := hl; have := he; trivial
  rw [show rdW x (wFault :: r) = rdFault x r by
    rw [rdW]
    rw [if_neg (show ¬ wFault = wUntil by decide)]
    rw [if_neg (show ¬ wFault = wSeed by decide)]
    rw [if_neg (show ¬ wFault = wNode by decide)]
    rw [if_neg (show ¬ (wFault = wOsc ∨ wFault = wSeg ∨ wFault = wUse) by decide)]
    rw [if_neg (show ¬ wFault = wLink by decide)]
    rw [if_neg (show ¬ wFault = wChange by decide)]
    rw [if_pos rfl]]
  have HC := Lib.hid (kFault h hsz hv hn hl he)
  generalize rdFault x r = res at HC ⊢
  have hlen := hv.len
  have HV := Lib.hid hv
  subst hlen
  obtain ⟨bw, off, hp, s0, lw⟩ := HV.out.str (Only.refl [] w) (k := 0) (by simp)
  subst hp
  have t0 : w.cell? ⟨bw, off, none⟩ = some (.string (bstr wFault)) := s0
  have tO : (bstr wFault).toList = [102, 97, 117, 108, 116] := by rw [Lib.toList_data]; rfl
  generalize bstr wFault = S at t0 tO
  have hlq : (wFault :: r).length = r.length + 1 := rfl
  have hcp := HV.out.le
  rw [hlq] at hn hcp HC ⊢
  generalize r.length = m at hn hcp HC ⊢
  clear h hsz hlk hv hl he s0 HV hlq
  go_enter Tryd.func31, Tryd.ntmps31
  go_wp2_with fail
  refine HC.out.mono ?_
  rintro e w1 hr
  obtain ⟨ok, rfl⟩ := rdR_form hr
  have HR := Lib.hid hr
  clear hr HC
  go_wp2
  go_ret
  exact HR.out
set_option maxRecDepth 100000 in
set_option maxHeartbeats 4000000 in
theorem kRead_no {W0 : Two} {w : World} {b : Nat} {x : SSt} {p : Option Addr} {n cap : Nat} {wd : List UInt8} {r : List (List UInt8)} (h : RdX W0 b w x) (hsz : SLe 100000 x) (hlk : x.at_ = 6 → 0 < x.sc.lk.length) (hv : VRow strC 1 w p n cap (wd :: r)) (hn : n ≤ 100000) (hl : ∀ y ∈ wd :: r, y.length ≤ 1000000) (he : Env w) (nwUntil : wd ≠ wUntil) (nwSeed : wd ≠ wSeed) (nwNode : wd ≠ wNode) (nwOsc : wd ≠ wOsc) (nwSeg : wd ≠ wSeg) (nwUse : wd ≠ wUse) (nwLink : wd ≠ wLink) (nwChange : wd ≠ wChange) (nwFault : wd ≠ wFault) :
    Calls Tryd.prog 31 #[.pointer (some ⟨b, 0, none⟩), .slice p n cap] w fun e w' => RdR W0 b (rdW x (wd :: r)) e w' := by
  have _u : True := by have := hsz; have := hlk; have := hl; have := he; trivial
  rw [show rdW x (wd :: r) = none by
    rw [rdW]
    rw [if_neg nwUntil, if_neg nwSeed, if_neg nwNode, if_neg (fun q => by rcases q with q | q | q; exact nwOsc q; exact nwSeg q; exact nwUse q), if_neg nwLink, if_neg nwChange, if_neg nwFault]]
  obtain ⟨hb0, hb1, ns, ls, vn, vl, vf, hR⟩ := h
  have H1 := Lib.hid hb1
  have hlen := hv.len
  have HV := Lib.hid hv
  subst hlen
  obtain ⟨bw, off, hp, s0, lw⟩ := HV.out.str (Only.refl [] w) (k := 0) (by simp)
  subst hp
  have t0 : w.cell? ⟨bw, off, none⟩ = some (.string (bstr wd)) := s0
  have twUntil : ¬ (bstr wd).toList = [117, 110, 116, 105, 108] := fun q => nwUntil (by rw [Lib.toList_data] at q; exact q)
  have bwUntil : ((bstr wd).toList == [117, 110, 116, 105, 108]) = false := beq_eq_false_iff_ne.2 twUntil
  have twSeed : ¬ (bstr wd).toList = [115, 101, 101, 100] := fun q => nwSeed (by rw [Lib.toList_data] at q; exact q)
  have bwSeed : ((bstr wd).toList == [115, 101, 101, 100]) = false := beq_eq_false_iff_ne.2 twSeed
  have twNode : ¬ (bstr wd).toList = [110, 111, 100, 101] := fun q => nwNode (by rw [Lib.toList_data] at q; exact q)
  have bwNode : ((bstr wd).toList == [110, 111, 100, 101]) = false := beq_eq_false_iff_ne.2 twNode
  have twOsc : ¬ (bstr wd).toList = [111, 115, 99] := fun q => nwOsc (by rw [Lib.toList_data] at q; exact q)
  have bwOsc : ((bstr wd).toList == [111, 115, 99]) = false := beq_eq_false_iff_ne.2 twOsc
  have twSeg : ¬ (bstr wd).toList = [115, 101, 103] := fun q => nwSeg (by rw [Lib.toList_data] at q; exact q)
  have bwSeg : ((bstr wd).toList == [115, 101, 103]) = false := beq_eq_false_iff_ne.2 twSeg
  have twUse : ¬ (bstr wd).toList = [117, 115, 101] := fun q => nwUse (by rw [Lib.toList_data] at q; exact q)
  have bwUse : ((bstr wd).toList == [117, 115, 101]) = false := beq_eq_false_iff_ne.2 twUse
  have twLink : ¬ (bstr wd).toList = [108, 105, 110, 107] := fun q => nwLink (by rw [Lib.toList_data] at q; exact q)
  have bwLink : ((bstr wd).toList == [108, 105, 110, 107]) = false := beq_eq_false_iff_ne.2 twLink
  have twChange : ¬ (bstr wd).toList = [99, 104, 97, 110, 103, 101] := fun q => nwChange (by rw [Lib.toList_data] at q; exact q)
  have bwChange : ((bstr wd).toList == [99, 104, 97, 110, 103, 101]) = false := beq_eq_false_iff_ne.2 twChange
  have twFault : ¬ (bstr wd).toList = [102, 97, 117, 108, 116] := fun q => nwFault (by rw [Lib.toList_data] at q; exact q)
  have bwFault : ((bstr wd).toList == [102, 97, 117, 108, 116]) = false := beq_eq_false_iff_ne.2 twFault
  generalize bstr wd = S at t0 twUntil bwUntil twSeed bwSeed twNode bwNode twOsc bwOsc twSeg bwSeg twUse bwUse twLink bwLink twChange bwChange twFault bwFault
  have hlq : (wd :: r).length = r.length + 1 := rfl
  have hcp := HV.out.le
  rw [hlq] at hn hcp ⊢
  generalize r.length = m at hn hcp ⊢
  clear hR hb0 hb1 hsz hlk hv hl he s0 HV hlq nwUntil nwSeed nwNode nwOsc nwSeg nwUse nwLink nwChange nwFault
  go_enter Tryd.func31, Tryd.ntmps31
  go_wp2
  go_ret
  exact ⟨rfl, H1.out⟩
set_option maxRecDepth 100000 in
set_option maxHeartbeats 4000000 in
theorem kRead {W0 : Two} {w : World} {b : Nat} {x : SSt} {p : Option Addr} {n cap : Nat} {wd : List UInt8} {r : List (List UInt8)} (h : RdX W0 b w x) (hsz : SLe 100000 x) (hlk : x.at_ = 6 → 0 < x.sc.lk.length) (hv : VRow strC 1 w p n cap (wd :: r)) (hn : n ≤ 100000) (hl : ∀ y ∈ wd :: r, y.length ≤ 1000000) (he : Env w) :
    Calls Tryd.prog 31 #[.pointer (some ⟨b, 0, none⟩), .slice p n cap] w fun e w' => RdR W0 b (rdW x (wd :: r)) e w' := by
  have _u : True := by have := hsz; have := hlk; have := hl; have := he; trivial
  by_cases nwUntil : wd = wUntil
  · subst nwUntil
    exact kRead_wUntil h hsz hlk hv hn hl he
  by_cases nwSeed : wd = wSeed
  · subst nwSeed
    exact kRead_wSeed h hsz hlk hv hn hl he
  by_cases nwNode : wd = wNode
  · subst nwNode
    exact kRead_wNode h hsz hlk hv hn hl he
  by_cases nwOsc : wd = wOsc
  · subst nwOsc
    exact kRead_wOsc h hsz hlk hv hn hl he
  by_cases nwSeg : wd = wSeg
  · subst nwSeg
    exact kRead_wSeg h hsz hlk hv hn hl he
  by_cases nwUse : wd = wUse
  · subst nwUse
    exact kRead_wUse h hsz hlk hv hn hl he
  by_cases nwLink : wd = wLink
  · subst nwLink
    exact kRead_wLink h hsz hlk hv hn hl he
  by_cases nwChange : wd = wChange
  · subst nwChange
    exact kRead_wChange h hsz hlk hv hn hl he
  by_cases nwFault : wd = wFault
  · subst nwFault
    exact kRead_wFault h hsz hlk hv hn hl he
  exact kRead_no h hsz hlk hv hn hl he nwUntil nwSeed nwNode nwOsc nwSeg nwUse nwLink nwChange nwFault
end Go.Proofs.YthmeifdgkodjlaaDoor
