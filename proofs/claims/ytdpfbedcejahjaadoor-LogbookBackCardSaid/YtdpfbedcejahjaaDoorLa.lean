/- The chapter's examples: awake returns true. Condition: the library's variables are laid. -/
import Derived.Test.YtdpfbedcejahjaaDoorLm
import Derived.Test.YtdpfbedcejahjaaDoorLs
namespace Go.Proofs.YtdpfbedcejahjaaDoor
open Go.RowKit

def awT1 : List UInt8 := [115, 101, 110, 100, 32, 48, 32, 49, 32, 55, 32, 49, 48, 48, 10, 114, 101, 99, 118, 32, 49, 32, 48, 32, 55, 32, 57, 48, 10]
def awT2 : List UInt8 := [109, 97, 114, 107, 32, 48, 32, 53, 10, 109, 97, 114, 107, 32, 48, 32, 52, 10]
def awT3 : List UInt8 := [109, 97, 114, 107, 32, 48, 32, 53, 10, 115, 116, 101, 112, 32, 48, 32, 53, 32, 45, 49, 10, 109, 97, 114, 107, 32, 48, 32, 52, 10]
def awT4 : List UInt8 := [109, 97, 114, 107, 32, 48, 32, 48, 53, 10]
def awL1 : List En := [⟨1, 0, 1, 7, 100, 0⟩, ⟨2, 1, 0, 7, 90, 0⟩]
def awL2 : List En := [⟨4, 0, 0, 0, 5, 0⟩, ⟨4, 0, 0, 0, 4, 0⟩]
def awL3 : List En := [⟨4, 0, 0, 0, 5, 0⟩, ⟨3, 0, 0, 0, 5, -1⟩, ⟨4, 0, 0, 0, 4, 0⟩]
theorem dec_one (n : Nat) (h : n < 10) : Lib.decDigits n = [UInt8.ofNat (48 + n)] := by rw [Lib.decDigits, dif_pos h]
theorem dec_more (n : Nat) (h : ¬ n < 10) : Lib.decDigits n = Lib.decDigits (n / 10) ++ [UInt8.ofNat (48 + n % 10)] := by rw [Lib.decDigits, dif_neg h]
theorem it_small (n : Nat) (h : n < 10) : Lib.itoa (n : Int) = [UInt8.ofNat (48 + n)] := by rw [Lib.itoa_nonneg, dec_one n h]
theorem it0 : Lib.itoa 0 = [48] := it_small 0 (by decide)
theorem it1 : Lib.itoa 1 = [49] := it_small 1 (by decide)
theorem it4 : Lib.itoa 4 = [52] := it_small 4 (by decide)
theorem it5 : Lib.itoa 5 = [53] := it_small 5 (by decide)
theorem it7 : Lib.itoa 7 = [55] := it_small 7 (by decide)
theorem it90 : Lib.itoa 90 = [57, 48] := by
  rw [show (90 : Int) = ((90 : Nat) : Int) from rfl, Lib.itoa_nonneg, dec_more 90 (by decide), dec_one _ (by decide)]; rfl
theorem it100 : Lib.itoa 100 = [49, 48, 48] := by
  rw [show (100 : Int) = ((100 : Nat) : Int) from rfl, Lib.itoa_nonneg, dec_more 100 (by decide), dec_more _ (by decide), dec_one _ (by decide)]; rfl
theorem itm1 : Lib.itoa (-1) = [45, 49] := by
  rw [show (-1 : Int) = -((1 : Nat) : Int) from rfl, Lib.itoa_neg 1 (by decide), dec_one _ (by decide)]; rfl
theorem parR_text {l : List En} {s : List UInt8} (hs : textL l = s) (h : ∀ e ∈ l, eChk e = 0) (hl : s.length ≤ 65536) : parR s = if logE l = 0 then (l, 0, 0) else ([], 0, logE l) := by
  have : parL s = .ok l := by unfold parL; rw [← hs]; exact text_back 1 h
  unfold parR
  rw [if_neg (by omega), this]
theorem aw1 : parR awT1 = (awL1, 0, 0) := by
  rw [parR_text (l := awL1) (by simp [textL, awL1, lineT, wordsE, joinC, it0, it1, it7, it90, it100]; rfl) (by decide) (by decide)]; decide
theorem aw2 : parR awT2 = ([], 0, 12) := by
  rw [parR_text (l := awL2) (by simp [textL, awL2, lineT, wordsE, joinC, it0, it4, it5]; rfl) (by decide) (by decide)]; decide
theorem aw3 : parR awT3 = (awL3, 0, 0) := by
  rw [parR_text (l := awL3) (by simp [textL, awL3, lineT, wordsE, joinC, it0, it4, it5, itm1]; rfl) (by decide) (by decide)]; decide
theorem aw4 : parR awT4 = ([], 1, 19) := by
  have h05 : numO [48, 53] = none := numO_no (v := 5) (by decide) (by rw [it5]; decide)
  have h0 : numO [48] = some 0 := by rw [← it0]; exact numO_itoa ⟨by decide, by decide⟩
  have hp : parL awT4 = .error 1 := by
    have h1 : pcs 10 awT4 = [[109, 97, 114, 107, 32, 48, 32, 48, 53], []] := by decide
    have h2 : pcs 32 [109, 97, 114, 107, 32, 48, 32, 48, 53] = [[109, 97, 114, 107], [48], [48, 53]] := by decide
    unfold parL
    rw [h1]
    simp [parP, lineE, h2, entW, numsO, h0, h05]
  unfold parR
  rw [if_neg (by decide), hp]
theorem awP : prsR awL1 = [(0, 1)] := by decide
theorem awQ (w : World) (he : Env w) (s : List UInt8) (hs : s.length ≤ 1000) (S : ByteArray) (hS : S = bstr s) : Calls Tryd.prog 13 #[.string S] w fun e w' => ParsR (parR s) e w' ∧ Only [] w w' := by
  rw [hS]; exact Pparse s (by omega) w he

set_option maxRecDepth 100000 in
set_option maxHeartbeats 2000000 in
theorem awake_any (w : World) (he : Env w) : Calls Tryd.prog 12 #[] w fun e w' => e = .returned (.bool true) ∧ Only [] w w' := by
  have HE := Lib.hid he; clear he
  have h1 : ∀ w, Env w → Calls Tryd.prog 13 #[.string ⟨#[115, 101, 110, 100, 32, 48, 32, 49, 32, 55, 32, 49, 48, 48, 10, 114, 101, 99, 118, 32, 49, 32, 48, 32, 55, 32, 57, 48, 10]⟩] w fun e w' => ParsR (awL1, 0, 0) e w' ∧ Only [] w w' := fun w he => by
    have := awQ w he awT1 (by decide) ⟨#[115, 101, 110, 100, 32, 48, 32, 49, 32, 55, 32, 49, 48, 48, 10, 114, 101, 99, 118, 32, 49, 32, 48, 32, 55, 32, 57, 48, 10]⟩ rfl
    rwa [aw1] at this
  have h2 : ∀ w, Env w → Calls Tryd.prog 13 #[.string ⟨#[109, 97, 114, 107, 32, 48, 32, 53, 10, 109, 97, 114, 107, 32, 48, 32, 52, 10]⟩] w fun e w' => ParsR ([], 0, 12) e w' ∧ Only [] w w' := fun w he => by
    have := awQ w he awT2 (by decide) ⟨#[109, 97, 114, 107, 32, 48, 32, 53, 10, 109, 97, 114, 107, 32, 48, 32, 52, 10]⟩ rfl
    rwa [aw2] at this
  have h3 : ∀ w, Env w → Calls Tryd.prog 13 #[.string ⟨#[109, 97, 114, 107, 32, 48, 32, 53, 10, 115, 116, 101, 112, 32, 48, 32, 53, 32, 45, 49, 10, 109, 97, 114, 107, 32, 48, 32, 52, 10]⟩] w fun e w' => ParsR (awL3, 0, 0) e w' ∧ Only [] w w' := fun w he => by
    have := awQ w he awT3 (by decide) ⟨#[109, 97, 114, 107, 32, 48, 32, 53, 10, 115, 116, 101, 112, 32, 48, 32, 53, 32, 45, 49, 10, 109, 97, 114, 107, 32, 48, 32, 52, 10]⟩ rfl
    rwa [aw3] at this
  have h4 : ∀ w, Env w → Calls Tryd.prog 13 #[.string ⟨#[109, 97, 114, 107, 32, 48, 32, 48, 53, 10]⟩] w fun e w' => ParsR ([], 1, 19) e w' ∧ Only [] w w' := fun w he => by
    have := awQ w he awT4 (by decide) ⟨#[109, 97, 114, 107, 32, 48, 32, 48, 53, 10]⟩ rfl
    rwa [aw4] at this
  have H1 := Lib.hid h1; have H2 := Lib.hid h2; have H3 := Lib.hid h3; have H4 := Lib.hid h4
  clear h1 h2 h3 h4
  go_enter Tryd.func12, Tryd.ntmps12
  go_wp2_with fail
  with_reducible refine (H1.out w HE.out).mono ?_
  rintro e w1 ⟨⟨p1, cap1, rfl, hv1⟩, ho1⟩
  have O1 := Lib.hid ho1; have V1 := Lib.hid hv1
  clear ho1 hv1
  simp only [show awL1.length = 2 from rfl]
  go_wp2_with fail
  with_reducible refine (H2.out w1 (HE.out.kept O1.out)).mono ?_
  rintro e w2 ⟨⟨p2, cap2, rfl, hv2⟩, ho2⟩
  have O2 := Lib.hid (O1.out.nil_trans ho2); have V2 := Lib.hid (V1.out.kept ho2)
  clear ho2 hv2 V1 O1
  simp only [List.length_nil]
  go_wp2_with fail
  with_reducible refine (H3.out w2 (HE.out.kept O2.out)).mono ?_
  rintro e w3 ⟨⟨p3, cap3, rfl, hv3⟩, ho3⟩
  have O3 := Lib.hid (O2.out.nil_trans ho3); have V3 := Lib.hid (V2.out.kept ho3)
  clear ho3 hv3 V2 O2
  simp only [show awL3.length = 3 from rfl]
  go_wp2_with fail
  with_reducible refine (H4.out w3 (HE.out.kept O3.out)).mono ?_
  rintro e w4 ⟨⟨p4, cap4, rfl, hv4⟩, ho4⟩
  have O4 := Lib.hid (O3.out.nil_trans ho4); have V4 := Lib.hid (V3.out.kept ho4)
  clear ho4 hv4 V3 O3
  simp only [List.length_nil]
  go_wp2_with fail
  have hpr := Ppairs (show VRow enC 6 w4 p1 2 cap1 awL1 from V4.out) (by decide)
  rw [awP] at hpr
  have HPR := Lib.hid hpr
  clear hpr
  with_reducible refine HPR.out.mono ?_
  rintro e w5 ⟨p5, cap5, rfl, hv5, ho5⟩
  have O5 := Lib.hid (O4.out.nil_trans ho5); have V5 := Lib.hid hv5
  clear ho5 hv5 HPR
  simp only [List.length_cons, List.length_nil, Nat.zero_add]
  go_wp2_with fail
  refine alloc_abs (G := fun w0 => Calls _ _ _ w0 _) ?_
  intro w6 hb6 ho6 hs6
  have O6 := Lib.hid (O5.out.nil_trans ho6); have V6 := Lib.hid (V5.out.kept ho6)
  have hr6 : VRow prC 2 w6 (some ⟨w5.heap.size, 0, none⟩) 1 1 [(0, 1)] := RowAt.vrow (e := 33) prC_len ⟨_, hb6, rfl, Nat.le_refl _, by decide, rfl⟩ rfl
  have R6 := Lib.hid hr6
  clear hb6 ho6 hs6 hr6 O5 V5
  have V7 : VRow prC 2 w6 p5 1 cap5 [(0, 1)] := V6.out
  have HEQ := Lib.hid (Eqpairs V7 R6.out (by decide) (by decide))
  clear V7
  with_reducible refine HEQ.out.mono ?_
  rintro e w7 ⟨rfl, ho7⟩
  have O7 := Lib.hid (O6.out.nil_trans ho7)
  clear ho7
  simp only [decide_true]
  go_wp2
  go_ret
  exact ⟨rfl, O7.out⟩
end Go.Proofs.YtdpfbedcejahjaaDoor
