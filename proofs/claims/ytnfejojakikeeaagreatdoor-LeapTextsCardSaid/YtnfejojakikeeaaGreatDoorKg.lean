/- What the chapter's examples come to, in plain Lean. No condition. -/
import Derived.Test.YtnfejojakikeeaaGreatDoorKr
import Derived.Test.YtnfejojakikeeaaGreatDoorKp
namespace Go.Proofs.YtnfejojakikeeaaGreatDoor
open Go.RowKit

set_option maxRecDepth 100000

/-- the decimal digits, by a bound on their number -/
def digs : Nat → Nat → List UInt8
  | 0, n => [UInt8.ofNat (48 + n)]
  | f + 1, n => if n < 10 then [UInt8.ofNat (48 + n)] else digs f (n / 10) ++ [UInt8.ofNat (48 + n % 10)]
theorem digs_ok : ∀ (f n : Nat), n < 10 ^ (f + 1) → Lib.decDigits n = digs f n
  | 0, n, h => by rw [Lib.decDigits, dif_pos (by simpa using h)]; rfl
  | f + 1, n, h => by
    rw [Lib.decDigits, digs]
    split
    · rename_i h1; rfl
    · rename_i h1
      rw [digs_ok f (n / 10) (by rw [Nat.pow_succ] at h; omega)]
theorem itoa_digs (f n : Nat) (h : n < 10 ^ (f + 1)) : Lib.itoa (n : Int) = digs f n := by rw [Lib.itoa_nonneg, digs_ok f n h]
theorem it36 : Lib.itoa 36 = [51, 54] := (itoa_digs 1 36 (by decide)).trans (by decide)
theorem it37 : Lib.itoa 37 = [51, 55] := (itoa_digs 1 37 (by decide)).trans (by decide)
theorem itX : Lib.itoa 3900000000 = [51, 57, 48, 48, 48, 48, 48, 48, 48, 48] := (itoa_digs 9 3900000000 (by decide)).trans (by decide)
theorem itA : Lib.itoa 3692217600 = [51, 54, 57, 50, 50, 49, 55, 54, 48, 48] := (itoa_digs 9 3692217600 (by decide)).trans (by decide)
theorem nu36 : numO [51, 54] = some 36 := by rw [← it36]; exact numO_itoa ⟨by decide, by decide⟩
theorem nu37 : numO [51, 55] = some 37 := by rw [← it37]; exact numO_itoa ⟨by decide, by decide⟩
theorem nuX : numO [51, 57, 48, 48, 48, 48, 48, 48, 48, 48] = some 3900000000 := by rw [← itX]; exact numO_itoa ⟨by decide, by decide⟩
theorem nuA : numO [51, 54, 57, 50, 50, 49, 55, 54, 48, 48] = some 3692217600 := by rw [← itA]; exact numO_itoa ⟨by decide, by decide⟩
def awE : List Le := [⟨3692217600, 37⟩]
def awE5 : List Le := [⟨3692217600, 35⟩]
theorem aw_m : mst 3692217600 = true := mst_iff.2 ⟨2017, 1, by decide, by decide, by decide, by decide, by decide⟩
theorem aw_c : chkT 36 3900000000 awE = 0 := by
  unfold chkT
  rw [if_neg (by decide), if_pos (by decide), if_pos (by decide), show awE.length = 0 + 1 from rfl, scan_succ, if_neg (by show ¬ mst 3692217600 = false; rw [aw_m]; decide), if_neg (by decide), if_pos (by decide)]
  rfl
theorem aw_c5 : chkT 36 3900000000 awE5 = 0 := by
  unfold chkT
  rw [if_neg (by decide), if_pos (by decide), if_pos (by decide), show awE5.length = 0 + 1 from rfl, scan_succ, if_neg (by show ¬ mst 3692217600 = false; rw [aw_m]; decide), if_neg (by decide), if_pos (by decide)]
  rfl
theorem aw_o6 : offR 36 3900000000 3692217599 awE = 36 := by unfold offR; rw [if_pos aw_c]; decide
theorem aw_o7 : offR 36 3900000000 3692217600 awE = 37 := by unfold offR; rw [if_pos aw_c]; decide
theorem aw_t : taiR 36 3900000000 awE 3692217599 true = (3692217636, 0) := by unfold taiR; rw [if_pos aw_c]; decide
theorem aw_t5 : taiR 36 3900000000 awE5 3692217599 false = (0, 11) := by unfold taiR; rw [if_pos aw_c5]; decide
theorem aw_u : utcR 36 3900000000 awE 3692217636 = (3692217599, true, 0) := by unfold utcR; rw [if_pos aw_c]; decide
theorem aw_n : nxtR 36 3900000000 0 awE = some ⟨3692217600, 37⟩ := by unfold nxtR; rw [if_pos aw_c]; decide
theorem ind_at {utc v y m d : Int} (h0 : -8000000000 ≤ utc) (h1 : utc < 3900000000) (hc : IsCv (utc / 86400) y m d) (h : IndR 36 3900000000 awE utc v) : v = if (secR (nxY y m) (nxM m)).2 = 0 then indC (chg 36 (secR (nxY y m) (nxM m)).1 awE) else 0 := by
  unfold IndR at h
  rw [if_pos ⟨aw_c, h0⟩, if_neg (by omega)] at h
  obtain ⟨y', m', d', hc', hv⟩ := h
  obtain ⟨rfl, rfl, rfl⟩ := hc.uniq hc'
  exact hv
theorem cv {n y m d : Int} (h : 1600 ≤ y ∧ y ≤ 2199 ∧ 1 ≤ m ∧ m ≤ 12 ∧ 1 ≤ d ∧ d ≤ dim y m ∧ dno y m d = n) : IsCv n y m d := h
theorem aw_i1 {v : Int} (h : IndR 36 3900000000 awE 3692217599 v) : v = 1 := (ind_at (y := 2016) (m := 12) (d := 31) (by decide) (by decide) (cv (by decide)) h).trans (by decide)
theorem aw_i2 {v : Int} (h : IndR 36 3900000000 awE 3689539200 v) : v = 1 := (ind_at (y := 2016) (m := 12) (d := 1) (by decide) (by decide) (cv (by decide)) h).trans (by decide)
theorem aw_i3 {v : Int} (h : IndR 36 3900000000 awE 3689539199 v) : v = 0 := (ind_at (y := 2016) (m := 11) (d := 30) (by decide) (by decide) (cv (by decide)) h).trans (by decide)
theorem aw_i4 {v : Int} (h : IndR 36 3900000000 awE 3692217600 v) : v = 0 := (ind_at (y := 2017) (m := 1) (d := 1) (by decide) (by decide) (cv (by decide)) h).trans (by decide)
theorem aw_i5 {v : Int} (h : IndR 36 3900000000 awE 3900000000 v) : v = 3 := by
  unfold IndR at h
  rw [if_pos ⟨aw_c, by decide⟩, if_pos (by decide)] at h
  exact h
def awS : List UInt8 := [35, 32, 108, 101, 97, 112, 32, 115, 101, 99, 111, 110, 100, 115, 10, 35, 64, 9, 51, 57, 48, 48, 48, 48, 48, 48, 48, 48, 10, 35, 61, 32, 51, 54, 32, 10, 10, 51, 54, 57, 50, 50, 49, 55, 54, 48, 48, 9, 51, 55, 32, 35, 32, 50, 48, 49, 55]
def awT : List UInt8 := [35, 64, 32, 51, 57, 48, 48, 48, 48, 48, 48, 48, 48, 10, 35, 61, 32, 51, 54, 10, 51, 54, 57, 50, 50, 49, 55, 54, 48, 48, 32, 51, 55, 10]
theorem aw_txt : txtK 36 3900000000 awE = awT := by
  unfold txtK; rw [if_pos aw_c]
  simp [txT, hdT, bodT, lnE, awE, it36, it37, itX, itA]
  rfl
def awL0 : List UInt8 := [35, 32, 108, 101, 97, 112, 32, 115, 101, 99, 111, 110, 100, 115]
def awL1 : List UInt8 := [35, 64, 9, 51, 57, 48, 48, 48, 48, 48, 48, 48, 48]
def awL2 : List UInt8 := [35, 61, 32, 51, 54, 32]
def awL3 : List UInt8 := []
def awL4 : List UInt8 := [51, 54, 57, 50, 50, 49, 55, 54, 48, 48, 9, 51, 55, 32, 35, 32, 50, 48, 49, 55]
theorem aw_ls : pcs 10 awS = [awL0, awL1, awL2, awL3, awL4] := by decide
theorem aw_r0 : rdO st0 awL0 = some st0 := by
  unfold rdO
  rw [if_neg (by decide), if_neg (by decide), show wds [] (cutH awL0) = [] by decide]
  rfl
theorem aw_r1 (st : PSt) (h : st.ke = false) : rdO st awL1 = some { st with x := 3900000000, ke := true } := by
  unfold rdO
  rw [if_pos (by decide)]
  unfold setO
  rw [show wds [] (awL1.drop 2) = [[51, 57, 48, 48, 48, 48, 48, 48, 48, 48]] by decide, h]
  simp [numsO, nuX]
theorem aw_r2 (st : PSt) (h : st.kb = false) : rdO st awL2 = some { st with b := 36, kb := true } := by
  unfold rdO
  rw [if_neg (by decide), if_pos (by decide)]
  unfold setO
  rw [show wds [] (awL2.drop 2) = [[51, 54]] by decide, h]
  simp [numsO, nu36]
theorem aw_r3 (st : PSt) : rdO st awL3 = some st := rd_nil st
theorem aw_r4 (st : PSt) : rdO st awL4 = some { st with es := st.es ++ [⟨3692217600, 37⟩] } := by
  unfold rdO
  rw [if_neg (by decide), if_neg (by decide), show wds [] (cutH awL4) = [[51, 54, 57, 50, 50, 49, 55, 54, 48, 48], [51, 55]] by decide]
  simp [numsO, nuA, nu37, entR]
theorem aw_p : prsK awS = ((36, 3900000000, awE), 0) := by
  unfold prsK
  have e : rdL st0 [awL0, awL1, awL2, awL3, awL4] = some ⟨36, 3900000000, awE, true, true⟩ := by
    simp only [rdL, aw_r0, aw_r1 st0 rfl, aw_r2 { st0 with x := 3900000000, ke := true } rfl, aw_r3, aw_r4]
    rfl
  rw [aw_ls, e]
  show (if true = true ∧ true = true then (if chkT 36 3900000000 awE = 0 then ((36, 3900000000, awE), 0) else ((0, 0, []), chkT 36 3900000000 awE)) else ((0, 0, []), 11)) = _
  rw [if_pos ⟨rfl, rfl⟩, if_pos aw_c]
end Go.Proofs.YtnfejojakikeeaaGreatDoor
