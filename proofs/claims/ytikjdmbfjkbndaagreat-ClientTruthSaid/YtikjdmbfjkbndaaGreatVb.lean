/- Texts of one chain: Ca, Cb, Y1, Y2, Ce. Conditions: those named in each theorem. -/
import Derived.Test.YtikjdmbfjkbndaaGreatVa
import Derived.Laws.BytesArg
import Derived.Test.YtikjdmbfjkbndaaGreatV6
namespace Go.Proofs.YtikjdmbfjkbndaaGreat
open Go.RowKit

def upI (z : Int) : Bool := wth z 65 90
/-- the code of a kiss, out of the reference id -/
def kissS (x : Nat) : ByteArray × Bool := if (be x 4).all upI = true then (strOfNums (be x 4), true) else (⟨#[]⟩, false)
def kissP (p : Np) : ByteArray × Bool := if p.strat = 0 then kissS p.rid.toNat else (⟨#[]⟩, false)
theorem be_bd (x s : Nat) : ∀ z ∈ be x s, 0 ≤ z ∧ z ≤ 255 := by
 intro z hz
 unfold be at hz
 obtain ⟨i, _, rfl⟩ := List.mem_map.1 hz
 unfold beAt
 omega
set_option maxRecDepth 100000 in
set_option maxHeartbeats 1000000 in
theorem pPut {w : World} {b : Nat} (x : Nat) (hx : x < 4294967296) (hb : w.heap[b]? = some (.cells #[.int .u64 x, .int .u64 4] 22 (0, 0))) :
  Calls Tryz.prog 220 #[.slice (some ⟨b, 0, none⟩) 2 2] w fun e w' => ∃ g, e = .returned (.slice (some ⟨g, 0, none⟩) 4 4) ∧ RowAt bE 5 1 w' g 4 (be x 4) ∧ Only [] w w' := by
 have BB := Lib.hid hb
 have hlt := got_lt hb
 clear hb
 go_enter Tryz.func220, Tryz.ntmps220
 go_wp2
 go_loopw [3, 4] (fun vb vi wr => (vb = .slice none 0 0 ∧ vi = .int .i64 0 ∧ Only [] w wr) ∨ (∃ g, vb = .slice (some ⟨g, 0, none⟩) 4 4 ∧ vi = .int .i64 2 ∧ RowAt bE 5 1 wr g 4 (be x 4) ∧ Only [] w wr)) (fun _ vi _ => 2 - (intOf vi).toNat)
 case atStart => exact .inl ⟨rfl, rfl, Only.refl _ _⟩
 case round =>
  rcases hrel with ⟨rfl, rfl, ho⟩ | ⟨g, rfl, rfl, hr, ho⟩
  ·have OO := Lib.hid ho
   have k0 := cell_got (ho.got BB.out (by simp)) 0; have k1 := cell_got (ho.got BB.out (by simp)) 1; have lb := got_lt (ho.got BB.out (by simp))
   have HA := Lib.hid (fun w' => wappend (w := w') (p := none) (n := 0) (cap := 0) (bs := []) (vrow_nil w') x 4 (by omega) (by omega) (by simpa using hx) (by omega))
   have hw1 : IntKind.i64.wrap 1 = 1 := by decide
   have hw4 : IntKind.i64.wrap 4 = 4 := by decide
   clear ho
   go_wp2_with fail
   refine wp_region_calm2 [0, 1, 2, 3, 4, 5, 6, 7, 8, 9, 10] [] (OnlyC ([] : List Nat) wr) (by kernel_rfl) (by kernel_rfl) ?_
   simp only [pick, List.map_cons, List.map_nil, List.getD_cons_succ, List.getD_cons_zero]
   iterate 11 (refine wpCalm_step (fun K hK => ?_); go_simp; refine hK _ ?_; clear hK K)
   refine wpCalm_nil ?_
   refine Rest.by (X := Nat) (fun g a => ((((a.put (some 24) (.tuple #[.slice (some ⟨g, 0, none⟩) 4 4, .int .i64 0])).put (some 12) (.tuple #[.slice (some ⟨g, 0, none⟩) 4 4, .int .i64 0])).put (some 25) (.slice (some ⟨g, 0, none⟩) 4 4)).put (some 26) (.int .i64 0)).put (some 3) (.slice (some ⟨g, 0, none⟩) 4 4)) (fun g w' => RowAt bE 5 1 w' g 4 (be x 4) ∧ Only [] wr w') ?_ ?_
   rotate_left
   ·have O0 := Lib.hid (Only.refl [] wr).drew
    refine wpAnyC_next [11] (by kernel_rfl) (by simp) (.inr (onlyC O0.out)) ?_
    simp only [List.mem_cons, List.not_mem_nil, or_false, forall_eq]
    refine wpOp_one rfl ?_
    go_wp2_with fail
    refine (HA.out _).mono ?_
    rintro e w3 ⟨rfl, hr3, ho3⟩
    have R3 := Lib.hid hr3
    replace O0 := Lib.hid (O0.out.nil_trans ho3)
    clear hr3 ho3 HA k0 k1 lb
    go_wp2
    simp only [nrm]
    refine wpAnyC_next [12] (by kernel_rfl) (by simp) (.inr (onlyC O0.out)) ?_
    simp only [List.mem_cons, List.not_mem_nil, or_false, forall_eq]
    refine wpOp_one rfl ?_
    go_wp2
    simp only [nrm]
    refine wpAnyC_next [13, 14] (by kernel_rfl) (by simp) (.inr (onlyC O0.out)) ?_
    simp only [List.mem_cons, List.not_mem_nil, or_false, forall_eq_or_imp, forall_eq]
    refine ⟨?_, ?_⟩
    ·refine wpOp_one rfl ?_
     go_wp2
     simp only [nrm]
     refine wpAnyC_next [14, 15] (by kernel_rfl) (by simp) (.inr (onlyC O0.out)) ?_
     simp only [List.mem_cons, List.not_mem_nil, or_false, forall_eq_or_imp, forall_eq]
     refine ⟨?_, ?_⟩
     ·refine wpOp_one rfl ?_
      go_wp2
      simp only [nrm]
      refine wpAnyC_next [15] (by kernel_rfl) (by simp) (.inr (onlyC O0.out)) ?_
      simp only [List.mem_cons, List.not_mem_nil, or_false, forall_eq]
      refine wpOp_one rfl ?_
      go_wp2
      simp only [nrm]
      exact wpAnyC_done (by kernel_rfl) (.inr (onlyC O0.out)) ⟨wr.heap.size, by simp [Act.put], by simpa using R3.out, O0.out⟩
     ·refine wpOp_one rfl ?_
      go_wp2
      simp only [nrm]
      refine wpAnyC_next [14] (by kernel_rfl) (by simp) (.inr (onlyC O0.out)) ?_
      simp only [List.mem_cons, List.not_mem_nil, or_false, forall_eq]
      refine wpOp_one rfl ?_
      go_wp2
      simp only [nrm]
      exact wpAnyC_done (by kernel_rfl) (.inr (onlyC O0.out)) ⟨wr.heap.size, by simp [Act.put], by simpa using R3.out, O0.out⟩
    ·refine wpOp_one rfl ?_
     go_wp2
     simp only [nrm]
     refine wpAnyC_next [13] (by kernel_rfl) (by simp) (.inr (onlyC O0.out)) ?_
     simp only [List.mem_cons, List.not_mem_nil, or_false, forall_eq]
     refine wpOp_one rfl ?_
     go_wp2
     simp only [nrm]
     refine wpAnyC_next [15] (by kernel_rfl) (by simp) (.inr (onlyC O0.out)) ?_
     simp only [List.mem_cons, List.not_mem_nil, or_false, forall_eq]
     refine wpOp_one rfl ?_
     go_wp2
     simp only [nrm]
     exact wpAnyC_done (by kernel_rfl) (.inr (onlyC O0.out)) ⟨wr.heap.size, by simp [Act.put], by simpa using R3.out, O0.out⟩
   rintro g w3 ⟨hr3, ho3⟩
   simp only [Act.put, List.setIfInBounds_toArray, List.set_cons_succ, List.set_cons_zero]
   have R3 := Lib.hid hr3; have O3 := Lib.hid (OO.out.nil_trans ho3)
   clear hr3 ho3 HA k0 k1 lb
   go_wp2
   go_roundw
   case rel => exact .inr ⟨_, rfl, by go_num, by simpa using R3.out, O3.out⟩
   case measure => first | (simp [intOf]; done) | (simp [intOf]; omega)
  ·have OO := Lib.hid ho; have RR := Lib.hid hr
   clear ho hr
   go_wp2
   go_ret
   exact ⟨g, rfl, RR.out, OO.out⟩
set_option maxRecDepth 100000 in
set_option maxHeartbeats 1000000 in
theorem pIsCode (xs : List Int) (hl : xs.length = 4) (hb : ∀ z ∈ xs, 0 ≤ z ∧ z ≤ 255) (w : World) :
  Calls Tryz.prog 221 #[.string (strOfNums xs)] w fun e w' => e = .returned (.bool (xs.all upI)) ∧ Only [] w w' := by
 have HG : Hid (∀ k (h : k < (strOfNums xs).size) (hk : k < xs.length), (((strOfNums xs)[k]).toNat : Int) = xs[k]) := Lib.hid (by
  intro k h hk
  have hd := strOfNums_data xs
  have h1 : (strOfNums xs).data.toList[k]? = some ((strOfNums xs)[k]) := by
   rw [List.getElem?_eq_getElem (by rw [Array.length_toList]; exact h)]; rfl
  rw [hd, List.getElem?_map, List.getElem?_eq_getElem hk] at h1
  simp only [Option.map_some, Option.some.injEq] at h1
  rw [← h1]
  have := hb _ (List.getElem_mem hk)
  have h2 : xs[k].toNat < 256 := by omega
  have h3 : (UInt8.ofNat xs[k].toNat).toNat = xs[k].toNat % 256 := rfl
  rw [h3]
  omega)
 have hsz : (strOfNums xs).size = 4 := by rw [strOfNums_size, hl]
 generalize strOfNums xs = S at HG hsz ⊢
 have HL := Lib.hid hl
 have HU : Hid (∀ k (hk : k < xs.length), (xs.take (k + 1)).all upI = ((xs.take k).all upI && upI xs[k])) := Lib.hid (by
  intro k hk
  rw [List.take_succ_eq_append_getElem hk, List.all_append]; simp)
 have HF : Hid (∀ k (hk : k < xs.length), upI xs[k] = false → xs.all upI = false) := Lib.hid (by
  intro k hk h
  rw [List.all_eq_false]
  exact ⟨xs[k], List.getElem_mem hk, by simp [h]⟩)
 have HT : Hid ((xs.take 4).all upI = xs.all upI) := Lib.hid (by rw [List.take_of_length_le (by omega)])
 have HB := Lib.hid hb
 clear hl hb
 go_enter Tryz.func221, Tryz.ntmps221
 go_wp2_with fail
 go_loopw [9] (fun vi wr => ∃ k : Nat, k ≤ 4 ∧ vi = .int .i64 k ∧ (xs.take k).all upI = true ∧ Only [] w wr) (fun vi _ => 4 - (intOf vi).toNat)
 case atStart => exact ⟨0, by omega, rfl, rfl, Only.refl _ _⟩
 case round =>
  obtain ⟨k, hk, rfl, hall, ho⟩ := hrel
  have OO := Lib.hid ho; have HA := Lib.hid hall
  clear ho hall
  by_cases hlt : k < 4
  ·have hkx : k < xs.length := by rw [HL.out]; exact hlt
   have hkS : k < S.size := by rw [hsz]; exact hlt
   have hg := HG.out k hkS hkx
   have hzb := HB.out _ (List.getElem_mem hkx)
   have hu := HU.out k hkx
   rw [HA.out] at hu
   have hf := HF.out k hkx
   generalize xs[k] = z at hg hzb hu hf
   have HU2 := Lib.hid hu; have HF2 := Lib.hid hf
   clear hu hf
   by_cases h1 : z < 65
   ·have a1 : decide (z < 65) = true := decide_eq_true h1
    have HR : Hid (xs.all upI = false) := Lib.hid (HF2.out (by unfold upI; rw [wth_no]; omega))
    go_wp2
    go_ret
    exact ⟨by rw [HR.out]; rfl, OO.out⟩
   ·have a1 : decide (z < 65) = false := decide_eq_false h1
    by_cases h2 : 90 < z
    ·have a2 : decide (90 < z) = true := decide_eq_true h2
     have HR : Hid (xs.all upI = false) := Lib.hid (HF2.out (by unfold upI; rw [wth_no]; omega))
     go_wp2
     go_ret
     exact ⟨by rw [HR.out]; rfl, OO.out⟩
    ·have a2 : decide (90 < z) = false := decide_eq_false h2
     have HN : Hid ((xs.take (k + 1)).all upI = true) := Lib.hid (by rw [HU2.out, show upI z = true from by unfold upI; rw [wth_iff]; omega]; rfl)
     go_wp2
     go_roundw
     case rel => exact ⟨k + 1, by omega, by go_num, HN.out, OO.out⟩
     case measure => first | (simp [intOf]; done) | (simp [intOf]; omega)
  ·obtain rfl : k = 4 := by omega
   have HR : Hid (xs.all upI = true) := Lib.hid (by rw [← HT.out]; exact HA.out)
   go_wp2
   go_ret
   exact ⟨by rw [HR.out]; rfl, OO.out⟩
set_option maxRecDepth 100000 in
set_option maxHeartbeats 1000000 in
theorem pKiss (p : Np) (hp : 0 ≤ p.rid ∧ p.rid ≤ 4294967295) (w : World) :
  Calls Tryz.prog 136 #[npV p] w fun e w' => e = .returned (.tuple #[.string (kissP p).1, .bool (kissP p).2]) ∧ Only [] w w' := by
 have HE : Hid (kissP p = if p.strat = 0 then kissS p.rid.toNat else (⟨#[]⟩, false)) := Lib.hid rfl
 generalize kissP p = res at HE ⊢
 obtain ⟨p1, p2, p3, p4, p5, p6, p7, p8, p9, pa, pb, pc, pd⟩ := p
 dsimp only at hp HE
 unfold npV
 dsimp only
 by_cases hz : p4 = 0
 ·subst hz
  obtain ⟨x, rfl⟩ : ∃ x : Nat, p9 = (x : Int) := ⟨p9.toNat, by omega⟩
  have hx : x < 4294967296 := by omega
  have hxw : IntKind.u64.wrap (x : Int) = (x : Int) := by rw [IntKind.wrap_u64]; omega
  have HR : Hid (res = if (be x 4).all upI = true then (strOfNums (be x 4), true) else (⟨#[]⟩, false)) := Lib.hid (by rw [HE.out, if_pos rfl]; rfl)
  have HI := Lib.hid (fun w' => pIsCode (be x 4) (be_length x 4) (be_bd x 4) w')
  have HP := Lib.hid (fun (w' : World) b hb => pPut (w := w') (b := b) x hx hb)
  clear HE hp
  generalize (be x 4).all upI = ok at HR HI
  go_enter Tryz.func136, Tryz.ntmps136
  go_upto_region 1 with (fail)
  refine alloc_abs (G := fun w0 => Code.wp _ _ _ _ w0) ?_
  intro w1 hb1 ho1 hs1
  have B1 := Lib.hid hb1; have OO := Lib.hid ho1
  clear hb1 ho1 hs1
  have k3 := cell_got B1.out 3; have k8 := cell_got B1.out 8; have l1 := got_lt B1.out
  go_wp2_with fail
  refine alloc_abs (G := fun w0 => Calls _ _ _ w0 _) ?_
  intro w2 hb2 ho2 hs2
  have O2 := Lib.hid (OO.out.nil_trans ho2)
  refine (HP.out w2 _ hb2).mono ?_
  rintro e w3 ⟨g, rfl, hr, ho3⟩
  have O3 := Lib.hid (O2.out.nil_trans ho3)
  have CV := Lib.hid (run_convert_bytes_arg (P := Tryz.prog) w3 254 5 Tryz.underlying254 Tryz.underlying5 g 0 4 4 (be x 4) (be_length x 4) (fun i hi => by
   obtain ⟨b', off, hp', _, hc⟩ := (RowAt.vrow (enc := bE) (s := 1) (fun _ => rfl) hr (be_length x 4).symm).cell i (be x 4)[i] (List.getElem?_eq_getElem (by rw [be_length]; exact hi))
   simp only [Option.some.injEq, Addr.mk.injEq, and_true] at hp'
   obtain ⟨rfl, rfl⟩ := hp'
   have := hc 0 _ rfl
   simp only [Nat.mul_one, Nat.add_zero] at this
   rw [this, List.getD_eq_getElem?_getD, List.getElem?_eq_getElem (by rw [be_length]; exact hi)]; rfl) 9 Tryz.underlying9)
  have cv := CV.out
  clear hb2 ho2 hs2 hr ho3 HP O2 k3 k8 l1
  generalize strOfNums (be x 4) = S at HR HI cv
  go_wp2_with fail
  refine (HI.out w3).mono ?_
  rintro e w4 ⟨rfl, ho4⟩
  have O4 := Lib.hid (O3.out.nil_trans ho4)
  clear ho4 HI cv CV
  cases ok
  ·obtain rfl : res = (⟨#[]⟩, false) := by have := HR.out; simpa using this
   go_wp2
   go_ret2
   exact ⟨rfl, O4.out⟩
  ·obtain rfl : res = (S, true) := by have := HR.out; simpa using this
   go_wp2
   go_ret2
   exact ⟨rfl, O4.out⟩
 ·have q1 : (p4 != 0) = true := by simpa using hz
  obtain rfl : res = (⟨#[]⟩, false) := by rw [HE.out, if_neg hz]
  clear HE
  go_enter Tryz.func136, Tryz.ntmps136
  go_upto_region 1 with (fail)
  refine alloc_abs (G := fun w0 => Code.wp _ _ _ _ w0) ?_
  intro w1 hb1 ho1 hs1
  have B1 := Lib.hid hb1; have OO := Lib.hid ho1
  clear hb1 ho1 hs1
  have k3 := cell_got B1.out 3; have l1 := got_lt B1.out
  go_wp2
  go_ret2
  exact ⟨rfl, OO.out⟩
end Go.Proofs.YtikjdmbfjkbndaaGreat

namespace Go.Proofs.YtikjdmbfjkbndaaGreat
open Go.RowKit

/-- an association -/
structure As where
 ver : Int
 t1 : Int
 nonce : Int
 pend : Bool
 xmt : Int
deriving DecidableEq, Inhabited
/-- an outcome -/
structure Hd where
 kind : Int
 code : ByteArray
 q : Qd
def hdV (h : Hd) : Value := .agg #[.int .i64 h.kind, .string h.code, .int .i64 h.q.t1, .int .i64 h.q.t2, .int .i64 h.q.t3, .int .i64 h.q.t4]
def hdK (k : Int) : Hd := ⟨k, ⟨#[]⟩, ⟨0, 0, 0, 0⟩⟩
def AsAt (w : World) (b : Nat) (a : As) : Prop := ∃ c0 c1 c2 c3 c4 c5 c6 c7 : Int, w.heap[b]? = some (.cells #[.int .i64 a.ver, .int .i64 a.t1, .int .u64 a.nonce, .bool a.pend, .int .u64 a.xmt, .int .i64 c0, .int .i64 c1, .int .i64 c2, .int .i64 c3, .int .i64 c4, .int .i64 c5, .int .i64 c6, .int .i64 c7] 155 (0, 0))
theorem AsAt.kept {w w' : World} {b : Nat} {a : As} {S : List Nat} (h : AsAt w b a) (ho : Only S w w') (hS : b ∉ S) : AsAt w' b a := by
 obtain ⟨c0, c1, c2, c3, c4, c5, c6, c7, h⟩ := h
 exact ⟨c0, c1, c2, c3, c4, c5, c6, c7, ho.got h hS⟩
theorem AsAt.lt {w : World} {b : Nat} {a : As} (h : AsAt w b a) : b < w.heap.size := by
 obtain ⟨c0, c1, c2, c3, c4, c5, c6, c7, h⟩ := h
 exact got_lt h
def aSend (a : As) (now nonce : Int) : Np × Int × As :=
 if isT now = true then (if nonce = 0 then (np0, 2, a) else if nonce = a.nonce then (np0, 10, a) else ({ np0 with ver := a.ver, mode := 3, xmt := nonce }, 0, { a with t1 := now, nonce := nonce, pend := true })) else (np0, 3, a)
/-- the outcome of a reply that ends no request -/
def aRef (a : As) (p : Np) (now : Int) : Option Int :=
 if nchk p = 0 ∧ p.mode = 4 ∧ isT now = true ∧ ¬ ((a.t1 ≠ 0 ∨ a.nonce ≠ 0) ∧ now < a.t1) then (if a.pend = true then (if p.org = a.nonce then (if p.xmt ≠ 0 ∧ p.xmt = a.xmt then some 3 else none) else some 2) else some 1) else some 0
def aAcc (a : As) (p : Np) (now : Int) : Hd :=
 if (kissP p).2 = true then ⟨4, (kissP p).1, ⟨0, 0, 0, 0⟩⟩ else if nsync p = true then
  (if (instS p.rcv now).2 = true ∧ (instS p.xmt now).2 = true ∧ ¬ (instS p.xmt now).1 < (instS p.rcv now).1 then ⟨7, ⟨#[]⟩, ⟨a.t1, (instS p.rcv now).1, (instS p.xmt now).1, now⟩⟩ else hdK 6) else hdK 5
def aRecv (a : As) (p : Np) (now : Int) : Hd × As := match aRef a p now with
 | some k => (hdK k, a)
 | none => (aAcc a p now, { a with pend := false, xmt := p.xmt })
def as4 : As := ⟨4, 0, 0, false, 0⟩
set_option maxRecDepth 100000 in
set_option maxHeartbeats 2000000 in
theorem pANew (w : World) : Calls Tryz.prog 35 #[.int .i64 4] w fun e w' => e = .returned (.pointer (some ⟨w.heap.size, 0, none⟩)) ∧ AsAt w' w.heap.size as4 ∧ Only [] w w' := by
 go_enter Tryz.func35, Tryz.ntmps35
 have OO := Lib.hid (Only.refl [] w)
 go_wp2
 refine alloc_abs (G := fun w0 => bodyPost _ _ _ _ _ w0) ?_
 intro w1 hb ho hs
 go_ret
 exact ⟨rfl, ⟨0, 0, 0, 0, 0, 0, 0, 0, hb⟩, ho⟩
set_option maxRecDepth 100000 in
set_option maxHeartbeats 2000000 in
theorem pASend {w : World} {b : Nat} {a : As} (ha : AsAt w b a) (now n : Int) :
  Calls Tryz.prog 39 #[.pointer (some ⟨b, 0, none⟩), .int .i64 now, .int .u64 n] w fun e w' => e = .returned (.tuple #[npV (aSend a now n).1, .int .i64 (aSend a now n).2.1]) ∧ AsAt w' b (aSend a now n).2.2 ∧ Only [b] w w' := by
 obtain ⟨c0, c1, c2, c3, c4, c5, c6, c7, hA⟩ := ha
 obtain ⟨ver, t1, nonce, pend, xmt⟩ := a
 dsimp only at hA
 have HT := Lib.hid (fun w' => pReading now w')
 have HE : Hid (aSend ⟨ver, t1, nonce, pend, xmt⟩ now n = if isT now = true then (if n = 0 then (np0, 2, ⟨ver, t1, nonce, pend, xmt⟩) else if n = nonce then (np0, 10, ⟨ver, t1, nonce, pend, xmt⟩) else (⟨0, ver, 3, 0, 0, 0, 0, 0, 0, 0, 0, 0, n⟩, 0, ⟨ver, now, n, true, xmt⟩)) else (np0, 3, ⟨ver, t1, nonce, pend, xmt⟩)) := Lib.hid rfl
 generalize aSend ⟨ver, t1, nonce, pend, xmt⟩ now n = res at HE ⊢
 generalize isT now = ok at HT HE
 cases ok
 ·obtain rfl : res = (np0, 3, ⟨ver, t1, nonce, pend, xmt⟩) := by have := HE.out; simpa using this
  clear HE
  go_enter Tryz.func39, Tryz.ntmps39
  go_upto_region 1 with (fail)
  refine alloc_abs (G := fun w0 => Code.wp _ _ _ _ w0) ?_
  intro w1 hb1 ho1 hs1
  obtain ⟨b1, hbe1⟩ : ∃ b, w.heap.size = b := ⟨_, rfl⟩
  rw [hbe1] at hb1
  rw [hbe1]
  have HN : Hid (w.heap.size ≤ b1) := Lib.hid (by omega)
  have B1 := Lib.hid hb1; have OO := Lib.hid ho1
  clear hb1 hs1 hbe1
  have B2 := Lib.hid (ho1.got hA (by simp)); have HX2 := Lib.hid (got_lt hA)
  replace OO := Lib.hid (ho1.weak (S' := [b]) (by simp))
  clear ho1
  have k1 := c_13 B1.out; have k2 := c_13 B2.out
  go_wp2_with fail
  refine (HT.out _).mono ?_
  rintro e w2 ⟨rfl, ho⟩
  clear k1 k2
  replace OO := Lib.hid (OO.out.nil_trans ho); replace B1 := Lib.hid (ho.got B1.out (by simp)); replace B2 := Lib.hid (ho.got B2.out (by simp))
  clear ho
  have k1 := c_13 B1.out; have k2 := c_13 B2.out
  go_wp2
  have HD := setCell_got (o := 12) (.int .u64 0) (setCell_got (o := 11) (.int .u64 0) (setCell_got (o := 10) (.int .u64 0) (setCell_got (o := 9) (.int .u64 0) (setCell_got (o := 8) (.int .u32 0) (setCell_got (o := 7) (.int .u32 0) (setCell_got (o := 6) (.int .u32 0) (setCell_got (o := 5) (.int .i64 0) (setCell_got (o := 4) (.int .i64 0) (setCell_got (o := 3) (.int .i64 0) (setCell_got (o := 2) (.int .i64 0) (setCell_got (o := 1) (.int .i64 0) (setCell_got (o := 0) (.int .i64 0) (B1.out)))))))))))))
  have e0 := cell_got HD 0; have e1 := cell_got HD 1; have e2 := cell_got HD 2; have e3 := cell_got HD 3; have e4 := cell_got HD 4; have e5 := cell_got HD 5; have e6 := cell_got HD 6; have e7 := cell_got HD 7; have e8 := cell_got HD 8; have e9 := cell_got HD 9; have e10 := cell_got HD 10; have e11 := cell_got HD 11; have e12 := cell_got HD 12; have le := got_lt HD
  refine bodyPost_ret (v := .tuple #[.agg #[.int .i64 0, .int .i64 0, .int .i64 0, .int .i64 0, .int .i64 0, .int .i64 0, .int .u32 0, .int .u32 0, .int .u32 0, .int .u64 0, .int .u64 0, .int .u64 0, .int .u64 0], .int .i64 3]) (by simp [results, Tryz.results39, go_sem, e0, e1, e2, e3, e4, e5, e6, e7, e8, e9, e10, e11, e12]) rfl ⟨rfl, ⟨c0, c1, c2, c3, c4, c5, c6, c7, (setCell_oth (.int .u64 0) (setCell_oth (.int .u64 0) (setCell_oth (.int .u64 0) (setCell_oth (.int .u64 0) (setCell_oth (.int .u32 0) (setCell_oth (.int .u32 0) (setCell_oth (.int .u32 0) (setCell_oth (.int .i64 0) (setCell_oth (.int .i64 0) (setCell_oth (.int .i64 0) (setCell_oth (.int .i64 0) (setCell_oth (.int .i64 0) (setCell_oth (.int .i64 0) B2.out (show b ≠ b1 from (by have e2 := HX2.out; have e1 := HN.out; omega))) (show b ≠ b1 from (by have e2 := HX2.out; have e1 := HN.out; omega))) (show b ≠ b1 from (by have e2 := HX2.out; have e1 := HN.out; omega))) (show b ≠ b1 from (by have e2 := HX2.out; have e1 := HN.out; omega))) (show b ≠ b1 from (by have e2 := HX2.out; have e1 := HN.out; omega))) (show b ≠ b1 from (by have e2 := HX2.out; have e1 := HN.out; omega))) (show b ≠ b1 from (by have e2 := HX2.out; have e1 := HN.out; omega))) (show b ≠ b1 from (by have e2 := HX2.out; have e1 := HN.out; omega))) (show b ≠ b1 from (by have e2 := HX2.out; have e1 := HN.out; omega))) (show b ≠ b1 from (by have e2 := HX2.out; have e1 := HN.out; omega))) (show b ≠ b1 from (by have e2 := HX2.out; have e1 := HN.out; omega))) (show b ≠ b1 from (by have e2 := HX2.out; have e1 := HN.out; omega))) (show b ≠ b1 from (by have e2 := HX2.out; have e1 := HN.out; omega)))⟩, (((((((((((((OO.out.setCell (.inr HN.out) _).setCell (.inr HN.out) _).setCell (.inr HN.out) _).setCell (.inr HN.out) _).setCell (.inr HN.out) _).setCell (.inr HN.out) _).setCell (.inr HN.out) _).setCell (.inr HN.out) _).setCell (.inr HN.out) _).setCell (.inr HN.out) _).setCell (.inr HN.out) _).setCell (.inr HN.out) _).setCell (.inr HN.out) _)⟩
 ·by_cases n0 : n = 0
  ·subst n0
   obtain rfl : res = (np0, 2, ⟨ver, t1, nonce, pend, xmt⟩) := by have := HE.out; simpa using this
   clear HE
   go_enter Tryz.func39, Tryz.ntmps39
   go_upto_region 1 with (fail)
   refine alloc_abs (G := fun w0 => Code.wp _ _ _ _ w0) ?_
   intro w1 hb1 ho1 hs1
   obtain ⟨b1, hbe1⟩ : ∃ b, w.heap.size = b := ⟨_, rfl⟩
   rw [hbe1] at hb1
   rw [hbe1]
   have HN : Hid (w.heap.size ≤ b1) := Lib.hid (by omega)
   have B1 := Lib.hid hb1; have OO := Lib.hid ho1
   clear hb1 hs1 hbe1
   have B2 := Lib.hid (ho1.got hA (by simp)); have HX2 := Lib.hid (got_lt hA)
   replace OO := Lib.hid (ho1.weak (S' := [b]) (by simp))
   clear ho1
   have k1 := c_13 B1.out; have k2 := c_13 B2.out
   go_wp2_with fail
   refine (HT.out _).mono ?_
   rintro e w2 ⟨rfl, ho⟩
   clear k1 k2
   replace OO := Lib.hid (OO.out.nil_trans ho); replace B1 := Lib.hid (ho.got B1.out (by simp)); replace B2 := Lib.hid (ho.got B2.out (by simp))
   clear ho
   have k1 := c_13 B1.out; have k2 := c_13 B2.out
   go_wp2
   have HD := setCell_got (o := 12) (.int .u64 0) (setCell_got (o := 11) (.int .u64 0) (setCell_got (o := 10) (.int .u64 0) (setCell_got (o := 9) (.int .u64 0) (setCell_got (o := 8) (.int .u32 0) (setCell_got (o := 7) (.int .u32 0) (setCell_got (o := 6) (.int .u32 0) (setCell_got (o := 5) (.int .i64 0) (setCell_got (o := 4) (.int .i64 0) (setCell_got (o := 3) (.int .i64 0) (setCell_got (o := 2) (.int .i64 0) (setCell_got (o := 1) (.int .i64 0) (setCell_got (o := 0) (.int .i64 0) (B1.out)))))))))))))
   have e0 := cell_got HD 0; have e1 := cell_got HD 1; have e2 := cell_got HD 2; have e3 := cell_got HD 3; have e4 := cell_got HD 4; have e5 := cell_got HD 5; have e6 := cell_got HD 6; have e7 := cell_got HD 7; have e8 := cell_got HD 8; have e9 := cell_got HD 9; have e10 := cell_got HD 10; have e11 := cell_got HD 11; have e12 := cell_got HD 12; have le := got_lt HD
   refine bodyPost_ret (v := .tuple #[.agg #[.int .i64 0, .int .i64 0, .int .i64 0, .int .i64 0, .int .i64 0, .int .i64 0, .int .u32 0, .int .u32 0, .int .u32 0, .int .u64 0, .int .u64 0, .int .u64 0, .int .u64 0], .int .i64 2]) (by simp [results, Tryz.results39, go_sem, e0, e1, e2, e3, e4, e5, e6, e7, e8, e9, e10, e11, e12]) rfl ⟨rfl, ⟨c0, c1, c2, c3, c4, c5, c6, c7, (setCell_oth (.int .u64 0) (setCell_oth (.int .u64 0) (setCell_oth (.int .u64 0) (setCell_oth (.int .u64 0) (setCell_oth (.int .u32 0) (setCell_oth (.int .u32 0) (setCell_oth (.int .u32 0) (setCell_oth (.int .i64 0) (setCell_oth (.int .i64 0) (setCell_oth (.int .i64 0) (setCell_oth (.int .i64 0) (setCell_oth (.int .i64 0) (setCell_oth (.int .i64 0) B2.out (show b ≠ b1 from (by have e2 := HX2.out; have e1 := HN.out; omega))) (show b ≠ b1 from (by have e2 := HX2.out; have e1 := HN.out; omega))) (show b ≠ b1 from (by have e2 := HX2.out; have e1 := HN.out; omega))) (show b ≠ b1 from (by have e2 := HX2.out; have e1 := HN.out; omega))) (show b ≠ b1 from (by have e2 := HX2.out; have e1 := HN.out; omega))) (show b ≠ b1 from (by have e2 := HX2.out; have e1 := HN.out; omega))) (show b ≠ b1 from (by have e2 := HX2.out; have e1 := HN.out; omega))) (show b ≠ b1 from (by have e2 := HX2.out; have e1 := HN.out; omega))) (show b ≠ b1 from (by have e2 := HX2.out; have e1 := HN.out; omega))) (show b ≠ b1 from (by have e2 := HX2.out; have e1 := HN.out; omega))) (show b ≠ b1 from (by have e2 := HX2.out; have e1 := HN.out; omega))) (show b ≠ b1 from (by have e2 := HX2.out; have e1 := HN.out; omega))) (show b ≠ b1 from (by have e2 := HX2.out; have e1 := HN.out; omega)))⟩, (((((((((((((OO.out.setCell (.inr HN.out) _).setCell (.inr HN.out) _).setCell (.inr HN.out) _).setCell (.inr HN.out) _).setCell (.inr HN.out) _).setCell (.inr HN.out) _).setCell (.inr HN.out) _).setCell (.inr HN.out) _).setCell (.inr HN.out) _).setCell (.inr HN.out) _).setCell (.inr HN.out) _).setCell (.inr HN.out) _).setCell (.inr HN.out) _)⟩
  ·have q1 : (n == 0) = false := by simpa using n0
   by_cases n1 : n = nonce
   ·subst n1
    obtain rfl : res = (np0, 10, ⟨ver, t1, n, pend, xmt⟩) := by have := HE.out; simpa [n0] using this
    clear HE n0
    go_enter Tryz.func39, Tryz.ntmps39
    go_upto_region 1 with (fail)
    refine alloc_abs (G := fun w0 => Code.wp _ _ _ _ w0) ?_
    intro w1 hb1 ho1 hs1
    obtain ⟨b1, hbe1⟩ : ∃ b, w.heap.size = b := ⟨_, rfl⟩
    rw [hbe1] at hb1
    rw [hbe1]
    have HN : Hid (w.heap.size ≤ b1) := Lib.hid (by omega)
    have B1 := Lib.hid hb1; have OO := Lib.hid ho1
    clear hb1 hs1 hbe1
    have B2 := Lib.hid (ho1.got hA (by simp)); have HX2 := Lib.hid (got_lt hA)
    replace OO := Lib.hid (ho1.weak (S' := [b]) (by simp))
    clear ho1
    have k1 := c_13 B1.out; have k2 := c_13 B2.out
    go_wp2_with fail
    refine (HT.out _).mono ?_
    rintro e w2 ⟨rfl, ho⟩
    clear k1 k2
    replace OO := Lib.hid (OO.out.nil_trans ho); replace B1 := Lib.hid (ho.got B1.out (by simp)); replace B2 := Lib.hid (ho.got B2.out (by simp))
    clear ho
    have k1 := c_13 B1.out; have k2 := c_13 B2.out
    go_wp2
    have HD := setCell_got (o := 12) (.int .u64 0) (setCell_got (o := 11) (.int .u64 0) (setCell_got (o := 10) (.int .u64 0) (setCell_got (o := 9) (.int .u64 0) (setCell_got (o := 8) (.int .u32 0) (setCell_got (o := 7) (.int .u32 0) (setCell_got (o := 6) (.int .u32 0) (setCell_got (o := 5) (.int .i64 0) (setCell_got (o := 4) (.int .i64 0) (setCell_got (o := 3) (.int .i64 0) (setCell_got (o := 2) (.int .i64 0) (setCell_got (o := 1) (.int .i64 0) (setCell_got (o := 0) (.int .i64 0) (B1.out)))))))))))))
    have e0 := cell_got HD 0; have e1 := cell_got HD 1; have e2 := cell_got HD 2; have e3 := cell_got HD 3; have e4 := cell_got HD 4; have e5 := cell_got HD 5; have e6 := cell_got HD 6; have e7 := cell_got HD 7; have e8 := cell_got HD 8; have e9 := cell_got HD 9; have e10 := cell_got HD 10; have e11 := cell_got HD 11; have e12 := cell_got HD 12; have le := got_lt HD
    refine bodyPost_ret (v := .tuple #[.agg #[.int .i64 0, .int .i64 0, .int .i64 0, .int .i64 0, .int .i64 0, .int .i64 0, .int .u32 0, .int .u32 0, .int .u32 0, .int .u64 0, .int .u64 0, .int .u64 0, .int .u64 0], .int .i64 10]) (by simp [results, Tryz.results39, go_sem, e0, e1, e2, e3, e4, e5, e6, e7, e8, e9, e10, e11, e12]) rfl ⟨rfl, ⟨c0, c1, c2, c3, c4, c5, c6, c7, (setCell_oth (.int .u64 0) (setCell_oth (.int .u64 0) (setCell_oth (.int .u64 0) (setCell_oth (.int .u64 0) (setCell_oth (.int .u32 0) (setCell_oth (.int .u32 0) (setCell_oth (.int .u32 0) (setCell_oth (.int .i64 0) (setCell_oth (.int .i64 0) (setCell_oth (.int .i64 0) (setCell_oth (.int .i64 0) (setCell_oth (.int .i64 0) (setCell_oth (.int .i64 0) B2.out (show b ≠ b1 from (by have e2 := HX2.out; have e1 := HN.out; omega))) (show b ≠ b1 from (by have e2 := HX2.out; have e1 := HN.out; omega))) (show b ≠ b1 from (by have e2 := HX2.out; have e1 := HN.out; omega))) (show b ≠ b1 from (by have e2 := HX2.out; have e1 := HN.out; omega))) (show b ≠ b1 from (by have e2 := HX2.out; have e1 := HN.out; omega))) (show b ≠ b1 from (by have e2 := HX2.out; have e1 := HN.out; omega))) (show b ≠ b1 from (by have e2 := HX2.out; have e1 := HN.out; omega))) (show b ≠ b1 from (by have e2 := HX2.out; have e1 := HN.out; omega))) (show b ≠ b1 from (by have e2 := HX2.out; have e1 := HN.out; omega))) (show b ≠ b1 from (by have e2 := HX2.out; have e1 := HN.out; omega))) (show b ≠ b1 from (by have e2 := HX2.out; have e1 := HN.out; omega))) (show b ≠ b1 from (by have e2 := HX2.out; have e1 := HN.out; omega))) (show b ≠ b1 from (by have e2 := HX2.out; have e1 := HN.out; omega)))⟩, (((((((((((((OO.out.setCell (.inr HN.out) _).setCell (.inr HN.out) _).setCell (.inr HN.out) _).setCell (.inr HN.out) _).setCell (.inr HN.out) _).setCell (.inr HN.out) _).setCell (.inr HN.out) _).setCell (.inr HN.out) _).setCell (.inr HN.out) _).setCell (.inr HN.out) _).setCell (.inr HN.out) _).setCell (.inr HN.out) _).setCell (.inr HN.out) _)⟩
   ·have q2 : (n == nonce) = false := by simpa using n1
    obtain rfl : res = (⟨0, ver, 3, 0, 0, 0, 0, 0, 0, 0, 0, 0, n⟩, 0, ⟨ver, now, n, true, xmt⟩) := by have := HE.out; simpa [n0, n1] using this
    clear HE n0 n1
    go_enter Tryz.func39, Tryz.ntmps39
    go_upto_region 1 with (fail)
    refine alloc_abs (G := fun w0 => Code.wp _ _ _ _ w0) ?_
    intro w1 hb1 ho1 hs1
    obtain ⟨b1, hbe1⟩ : ∃ b, w.heap.size = b := ⟨_, rfl⟩
    rw [hbe1] at hb1
    rw [hbe1]
    have HN : Hid (w.heap.size ≤ b1) := Lib.hid (by omega)
    have B1 := Lib.hid hb1; have OO := Lib.hid ho1
    clear hb1 hs1 hbe1
    have B2 := Lib.hid (ho1.got hA (by simp)); have HX2 := Lib.hid (got_lt hA)
    replace OO := Lib.hid (ho1.weak (S' := [b]) (by simp))
    clear ho1
    have k1 := c_13 B1.out; have k2 := c_13 B2.out
    go_wp2_with fail
    refine (HT.out _).mono ?_
    rintro e w2 ⟨rfl, ho⟩
    clear k1 k2
    replace OO := Lib.hid (OO.out.nil_trans ho); replace B1 := Lib.hid (ho.got B1.out (by simp)); replace B2 := Lib.hid (ho.got B2.out (by simp))
    clear ho
    have k1 := c_13 B1.out; have k2 := c_13 B2.out
    go_upto_region 11 with (fail)
    refine wabs (G := fun w0 => Code.wp _ _ _ _ w0) (R := fun w3 => w3.heap[b1]? = some (.cells #[.int .i64 0, .int .i64 0, .int .i64 0, .int .i64 0, .int .i64 0, .int .i64 0, .int .u32 0, .int .u32 0, .int .u32 0, .int .u64 0, .int .u64 0, .int .u64 0, .int .u64 0] 33 (0, 0)) ∧ w3.heap[b]? = some (.cells #[.int .i64 ver, .int .i64 now, .int .u64 n, .bool true, .int .u64 xmt, .int .i64 c0, .int .i64 c1, .int .i64 c2, .int .i64 c3, .int .i64 c4, .int .i64 c5, .int .i64 c6, .int .i64 c7] 155 (0, 0)) ∧ Only [b] w w3) ⟨(setCell_oth (.bool true) (setCell_oth (.int .u64 n) (setCell_oth (.int .i64 now) B1.out (show b1 ≠ b from (by have e1 := HN.out; have e2 := HX2.out; omega))) (show b1 ≠ b from (by have e1 := HN.out; have e2 := HX2.out; omega))) (show b1 ≠ b from (by have e1 := HN.out; have e2 := HX2.out; omega))), (setCell_got (o := 3) (.bool true) (setCell_got (o := 2) (.int .u64 n) (setCell_got (o := 1) (.int .i64 now) B2.out))), (((OO.out.setCell (.inl (by simp)) _).setCell (.inl (by simp)) _).setCell (.inl (by simp)) _)⟩ ?_
    rintro w3 ⟨g1, g2, ho⟩
    clear k1 k2
    replace B1 := Lib.hid g1; replace B2 := Lib.hid g2; replace OO := Lib.hid ho
    clear ho g1 g2
    have k1 := c_13 B1.out; have k2 := c_13 B2.out
    go_wp2
    have HD := setCell_got (o := 12) (.int .u64 n) (setCell_got (o := 11) (.int .u64 0) (setCell_got (o := 10) (.int .u64 0) (setCell_got (o := 9) (.int .u64 0) (setCell_got (o := 8) (.int .u32 0) (setCell_got (o := 7) (.int .u32 0) (setCell_got (o := 6) (.int .u32 0) (setCell_got (o := 5) (.int .i64 0) (setCell_got (o := 4) (.int .i64 0) (setCell_got (o := 3) (.int .i64 0) (setCell_got (o := 2) (.int .i64 3) (setCell_got (o := 1) (.int .i64 ver) (setCell_got (o := 0) (.int .i64 0) (B1.out)))))))))))))
    have e0 := cell_got HD 0; have e1 := cell_got HD 1; have e2 := cell_got HD 2; have e3 := cell_got HD 3; have e4 := cell_got HD 4; have e5 := cell_got HD 5; have e6 := cell_got HD 6; have e7 := cell_got HD 7; have e8 := cell_got HD 8; have e9 := cell_got HD 9; have e10 := cell_got HD 10; have e11 := cell_got HD 11; have e12 := cell_got HD 12; have le := got_lt HD
    refine bodyPost_ret (v := .tuple #[.agg #[.int .i64 0, .int .i64 ver, .int .i64 3, .int .i64 0, .int .i64 0, .int .i64 0, .int .u32 0, .int .u32 0, .int .u32 0, .int .u64 0, .int .u64 0, .int .u64 0, .int .u64 n], .int .i64 0]) (by simp [results, Tryz.results39, go_sem, e0, e1, e2, e3, e4, e5, e6, e7, e8, e9, e10, e11, e12]) rfl ⟨rfl, ⟨c0, c1, c2, c3, c4, c5, c6, c7, (setCell_oth (.int .u64 n) (setCell_oth (.int .u64 0) (setCell_oth (.int .u64 0) (setCell_oth (.int .u64 0) (setCell_oth (.int .u32 0) (setCell_oth (.int .u32 0) (setCell_oth (.int .u32 0) (setCell_oth (.int .i64 0) (setCell_oth (.int .i64 0) (setCell_oth (.int .i64 0) (setCell_oth (.int .i64 3) (setCell_oth (.int .i64 ver) (setCell_oth (.int .i64 0) B2.out (show b ≠ b1 from (by have e2 := HX2.out; have e1 := HN.out; omega))) (show b ≠ b1 from (by have e2 := HX2.out; have e1 := HN.out; omega))) (show b ≠ b1 from (by have e2 := HX2.out; have e1 := HN.out; omega))) (show b ≠ b1 from (by have e2 := HX2.out; have e1 := HN.out; omega))) (show b ≠ b1 from (by have e2 := HX2.out; have e1 := HN.out; omega))) (show b ≠ b1 from (by have e2 := HX2.out; have e1 := HN.out; omega))) (show b ≠ b1 from (by have e2 := HX2.out; have e1 := HN.out; omega))) (show b ≠ b1 from (by have e2 := HX2.out; have e1 := HN.out; omega))) (show b ≠ b1 from (by have e2 := HX2.out; have e1 := HN.out; omega))) (show b ≠ b1 from (by have e2 := HX2.out; have e1 := HN.out; omega))) (show b ≠ b1 from (by have e2 := HX2.out; have e1 := HN.out; omega))) (show b ≠ b1 from (by have e2 := HX2.out; have e1 := HN.out; omega))) (show b ≠ b1 from (by have e2 := HX2.out; have e1 := HN.out; omega)))⟩, (((((((((((((OO.out.setCell (.inr HN.out) _).setCell (.inr HN.out) _).setCell (.inr HN.out) _).setCell (.inr HN.out) _).setCell (.inr HN.out) _).setCell (.inr HN.out) _).setCell (.inr HN.out) _).setCell (.inr HN.out) _).setCell (.inr HN.out) _).setCell (.inr HN.out) _).setCell (.inr HN.out) _).setCell (.inr HN.out) _).setCell (.inr HN.out) _)⟩
end Go.Proofs.YtikjdmbfjkbndaaGreat

namespace Go.Proofs.YtikjdmbfjkbndaaGreat
open Go.RowKit

@[go_sem ↓] theorem req_neq (t n : Int) (w : World) : (binOp .neq 152 (.agg #[.int .i64 t, .int .u64 n]) (.agg #[.int .i64 0, .int .u64 0])).run Tryz.prog w = .ok (.bool (!(t == 0 && n == 0))) w := by
 by_cases h1 : t = 0
 ·by_cases h2 : n = 0
  ·simp [go_sem, h1, h2]
  ·simp [go_sem, h1, h2]
 ·simp [go_sem, h1]
def refV : Option Int → Value
 | some k => .tuple #[hdV (hdK k), .bool true]
 | none => .tuple #[hdV (hdK 0), .bool false]
set_option maxRecDepth 100000 in
set_option maxHeartbeats 4000000 in
theorem pRefuse {w : World} {b : Nat} {a : As} (ha : AsAt w b a) (p : Np) (now : Int)  :
  Calls Tryz.prog 75 #[.pointer (some ⟨b, 0, none⟩), npV p, .int .i64 now] w fun e w' => e = .returned (refV (aRef a p now)) ∧ Only [] w w' := by
 obtain ⟨c0, c1, c2, c3, c4, c5, c6, c7, hA⟩ := ha
 obtain ⟨ver, t1, nonce, pend, xmt⟩ := a
 obtain ⟨p1, p2, p3, p4, p5, p6, p7, p8, p9, pa, pb, pc, pd⟩ := p
 dsimp only at hA
 have HC := Lib.hid (pNChk ⟨p1, p2, p3, p4, p5, p6, p7, p8, p9, pa, pb, pc, pd⟩)
 have HT := Lib.hid (pReading now)
 obtain ⟨res, HE⟩ : ∃ r, Hid (aRef ⟨ver, t1, nonce, pend, xmt⟩ ⟨p1, p2, p3, p4, p5, p6, p7, p8, p9, pa, pb, pc, pd⟩ now = r) := ⟨_, Lib.hid rfl⟩
 rw [HE.out]
 unfold aRef at HE
 dsimp only at HE
 generalize nchk ⟨p1, p2, p3, p4, p5, p6, p7, p8, p9, pa, pb, pc, pd⟩ = er at HC HE
 generalize isT now = tn at HT HE
 unfold npV at HC ⊢
 dsimp only at HC ⊢
 have m := mmR hA; have k := m.out.k; clear hA
 go_enter Tryz.func75, Tryz.ntmps75
 go_wp2_with (first | ((with_reducible first | refine cM (HC.out _) ?_ | refine cM (HT.out _) ?_); clear k m; intro w m k) | ((with_reducible refine rG (id := 6) [0, 1, 2, 3, 4, 5, 6, 7, 8] [] (by kernel_rfl) (by kernel_rfl) ?_); simp only [pick, List.map_cons, List.map_nil, List.getD_cons_succ, List.getD_cons_zero]; (repeat' (first | go_big_quiet_step (first | exact gX (HC.out _) | exact gX (HT.out _)) | (refine wpQuiet_step (fun K hK => ?_); go_simp; (first | (refine hK _ ?_; clear hK K) | (split <;> (refine hK _ ?_; clear hK K)))))); all_goals (refine wpQuiet_nil ?_; clear k m; intro w m k)) | ((with_reducible refine rG (id := 8) [0, 1, 2, 3, 4, 5, 6, 7, 8, 9, 10, 11, 12] [] (by kernel_rfl) (by kernel_rfl) ?_); simp only [pick, List.map_cons, List.map_nil, List.getD_cons_succ, List.getD_cons_zero]; (repeat' (first | go_big_quiet_step (first | exact gX (HC.out _) | exact gX (HT.out _)) | (refine wpQuiet_step (fun K hK => ?_); go_simp; (first | (refine hK _ ?_; clear hK K) | (split <;> (refine hK _ ?_; clear hK K)))))); all_goals (refine wpQuiet_nil ?_; clear k m; intro w m k)) | ((with_reducible refine wU ?_); clear k m; intro w m k) | ((with_reducible refine lF (fun w k => ⟨rfl, ?_⟩)); rw [← HE.out]; simp [results, Tryz.results75, go_sem, k]))
 all_goals first | rfl | (clear k m; go_tidy; grind [refV, hdV, hdK]) | trace_state
set_option maxRecDepth 100000 in
set_option maxHeartbeats 4000000 in
theorem pAccept {w : World} {b : Nat} {ver t1 nonce xmt c0 c1 c2 c3 c4 c5 c6 c7 : Int} {pend : Bool} (hA : w.heap[b]? = some (.cells #[.int .i64 ver, .int .i64 t1, .int .u64 nonce, .bool pend, .int .u64 xmt, .int .i64 c0, .int .i64 c1, .int .i64 c2, .int .i64 c3, .int .i64 c4, .int .i64 c5, .int .i64 c6, .int .i64 c7] 155 (0, 0))) (p : Np) (now : Int) (hp : npOk p) (hn : isT now = true)  :
  Calls Tryz.prog 76 #[.pointer (some ⟨b, 0, none⟩), npV p, .int .i64 now] w fun e w' => e = .returned (hdV (aAcc ⟨ver, t1, nonce, pend, xmt⟩ p now)) ∧ w'.heap[b]? = some (.cells #[.int .i64 ver, .int .i64 t1, .int .u64 nonce, .bool false, .int .u64 p.xmt, .int .i64 c0, .int .i64 c1, .int .i64 c2, .int .i64 c3, .int .i64 c4, .int .i64 c5, .int .i64 c6, .int .i64 c7] 155 (0, 0)) ∧ Only [b] w w' := by
 have HK := Lib.hid (pKiss p hp.2.2.1)
 have HY := Lib.hid (pNSync p)
 have HI2 := Lib.hid (pInstant p.rcv now hn)
 have HI3 := Lib.hid (pInstant p.xmt now hn)
 obtain ⟨res, HE⟩ : ∃ r, Hid (aAcc ⟨ver, t1, nonce, pend, xmt⟩ p now = r) := ⟨_, Lib.hid rfl⟩
 rw [HE.out]
 unfold aAcc at HE
 generalize kissP p = kk at HK HE
 generalize nsync p = sy at HY HE
 generalize instS p.rcv now = i2 at HI2 HE
 generalize instS p.xmt now = i3 at HI3 HE
 obtain ⟨ks, kb⟩ := kk
 obtain ⟨v2, o2⟩ := i2
 obtain ⟨v3, o3⟩ := i3
 obtain ⟨p1, p2, p3, p4, p5, p6, p7, p8, p9, pa, pb, pc, pd⟩ := p
 unfold npV at HK HY ⊢
 dsimp only at HK HY HI2 HI3 HE ⊢
 clear hp hn
 have m := mm1 hA; have k := m.out.k; clear hA
 go_enter Tryz.func76, Tryz.ntmps76
 go_wp2_with (first | ((with_reducible first | refine cM (HK.out _) ?_ | refine cM (HY.out _) ?_ | refine cM (HI2.out _) ?_ | refine cM (HI3.out _) ?_); clear k m; intro w m k) | ((with_reducible refine wU ?_); clear k m; intro w m k) | ((with_reducible refine lG (fun w g => Has.h w g) (fun w k => ⟨rfl, ?_⟩)); rw [← HE.out]; simp [results, Tryz.results76, go_sem, k]))
 all_goals first | rfl | (clear k m; go_tidy; grind [refV, hdV, hdK]) | trace_state
end Go.Proofs.YtikjdmbfjkbndaaGreat

namespace Go.Proofs.YtikjdmbfjkbndaaGreat
open Go.RowKit

theorem acc_kind (a : As) (p : Np) (now : Int) : (aAcc a p now).kind = 4 ∨ (aAcc a p now).kind = 5 ∨ (aAcc a p now).kind = 6 ∨ (aAcc a p now).kind = 7 := by
 unfold aAcc hdK
 split
 ·simp
 ·split
  ·split <;> simp
  ·simp
theorem ref_kind {a : As} {p : Np} {now k : Int} (h : aRef a p now = some k) : k = 0 ∨ k = 1 ∨ k = 2 ∨ k = 3 := by
 unfold aRef at h
 split at h
 ·split at h
  ·split at h
   ·split at h
    ·simp only [Option.some.injEq] at h; omega
    ·cases h
   ·simp only [Option.some.injEq] at h; omega
  ·simp only [Option.some.injEq] at h; omega
 ·simp only [Option.some.injEq] at h; omega
theorem ref_time {a : As} {p : Np} {now : Int} (h : aRef a p now = none) : isT now = true := by
 unfold aRef at h
 split at h
 ·rename_i hh; exact hh.2.2.1
 ·cases h
set_option maxRecDepth 100000 in
set_option maxHeartbeats 8000000 in
theorem pARecv {w : World} {b : Nat} {a : As} (ha : AsAt w b a) (p : Np) (now : Int) (hp : npOk p) :
  Calls Tryz.prog 41 #[.pointer (some ⟨b, 0, none⟩), npV p, .int .i64 now] w fun e w' => e = .returned (hdV (aRecv a p now).1) ∧ AsAt w' b (aRecv a p now).2 ∧ Only [b] w w' := by
 obtain ⟨c0, c1, c2, c3, c4, c5, c6, c7, hA⟩ := ha
 obtain ⟨ver, t1, nonce, pend, xmt⟩ := a
 dsimp only at hA
 have HR := Lib.hid (fun (w' : World) (h : w'.heap[b]? = some (.cells #[.int .i64 ver, .int .i64 t1, .int .u64 nonce, .bool pend, .int .u64 xmt, .int .i64 c0, .int .i64 c1, .int .i64 c2, .int .i64 c3, .int .i64 c4, .int .i64 c5, .int .i64 c6, .int .i64 c7] 155 (0, 0))) => pRefuse (a := ⟨ver, t1, nonce, pend, xmt⟩) ⟨c0, c1, c2, c3, c4, c5, c6, c7, h⟩ p now)
 have HE : Hid (aRecv ⟨ver, t1, nonce, pend, xmt⟩ p now = match aRef ⟨ver, t1, nonce, pend, xmt⟩ p now with
  | some k => (hdK k, ⟨ver, t1, nonce, pend, xmt⟩)
  | none => (aAcc ⟨ver, t1, nonce, pend, xmt⟩ p now, { (⟨ver, t1, nonce, pend, xmt⟩ : As) with pend := false, xmt := p.xmt })) := Lib.hid rfl
 rw [HE.out]
 clear HE
 cases hr : aRef ⟨ver, t1, nonce, pend, xmt⟩ p now with
 | some kk =>
  rw [hr] at HR
  have hk := ref_kind hr
  clear hr hp
  obtain ⟨p1, p2, p3, p4, p5, p6, p7, p8, p9, pa, pb, pc, pd⟩ := p
  unfold npV refV hdK hdV at HR
  unfold npV hdK hdV
  dsimp only at HR ⊢
  rcases hk with rfl | rfl | rfl | rfl
  all_goals
   have m := mm1 hA; have k := m.out.k
   clear hA
   go_enter Tryz.func41, Tryz.ntmps41
   go_wp2_with (first | ((with_reducible first | refine cM (HR.out _ gB) ?_); clear k m; intro w m k) | ((with_reducible refine rG (id := 6) [0, 1, 2, 3, 4, 5, 6, 7, 8, 9, 10] [11] (by kernel_rfl) (by kernel_rfl) ?_); simp only [pick, List.map_cons, List.map_nil, List.getD_cons_succ, List.getD_cons_zero]; (repeat' (first | go_big_quiet_step (fail) | (refine wpQuiet_step (fun K hK => ?_); go_simp; (first | (refine hK _ ?_; clear hK K) | (split <;> (refine hK _ ?_; clear hK K)))))); all_goals (refine wpQuiet_nil ?_; clear k m; intro w m k)) | ((with_reducible refine wU ?_); clear k m; intro w m k) | ((with_reducible refine lE (fun w o g k K hK => ⟨rfl, ?_⟩)); simp [results, Tryz.results41, go_sem, k]; refine hK _ ?_; clear hK K k; skip; exact ⟨rfl, ⟨_, _, _, _, _, _, _, _, Has.h w g⟩, o⟩))
 | none =>
  rw [hr] at HR
  have hn := ref_time hr
  have hk := acc_kind ⟨ver, t1, nonce, pend, xmt⟩ p now
  have HAc := Lib.hid (fun (w' : World) (h : w'.heap[b]? = some (.cells #[.int .i64 ver, .int .i64 t1, .int .u64 nonce, .bool pend, .int .u64 xmt, .int .i64 c0, .int .i64 c1, .int .i64 c2, .int .i64 c3, .int .i64 c4, .int .i64 c5, .int .i64 c6, .int .i64 c7] 155 (0, 0))) => pAccept h p now hp hn)
  clear hr hp hn
  generalize aAcc ⟨ver, t1, nonce, pend, xmt⟩ p now = ac at HAc hk ⊢
  obtain ⟨ak, akc, ⟨q1, q2, q3, q4⟩⟩ := ac
  obtain ⟨p1, p2, p3, p4, p5, p6, p7, p8, p9, pa, pb, pc, pd⟩ := p
  unfold npV refV hdK hdV at HR
  unfold npV hdV at HAc
  unfold npV hdV
  dsimp only at HR HAc hk ⊢
  rcases hk with rfl | rfl | rfl | rfl
  all_goals
   have m := mm1 hA; have k := m.out.k
   clear hA
   go_enter Tryz.func41, Tryz.ntmps41
   go_wp2_with (first | ((with_reducible first | refine cM (HR.out _ gB) ?_); clear k m; intro w m k) | ((with_reducible first | refine cP (HAc.out _ gB) ?_); clear k m; intro w m k) | ((with_reducible refine rG (id := 6) [0, 1, 2, 3, 4, 5, 6, 7, 8, 9, 10] [11] (by kernel_rfl) (by kernel_rfl) ?_); simp only [pick, List.map_cons, List.map_nil, List.getD_cons_succ, List.getD_cons_zero]; (repeat' (first | go_big_quiet_step (fail) | (refine wpQuiet_step (fun K hK => ?_); go_simp; (first | (refine hK _ ?_; clear hK K) | (split <;> (refine hK _ ?_; clear hK K)))))); all_goals (refine wpQuiet_nil ?_; clear k m; intro w m k)) | ((with_reducible refine wU ?_); clear k m; intro w m k) | ((with_reducible refine lE (fun w o g k K hK => ⟨rfl, ?_⟩)); simp [results, Tryz.results41, go_sem, k]; refine hK _ ?_; clear hK K k; skip; exact ⟨rfl, ⟨_, _, _, _, _, _, _, _, Has.h w g⟩, o⟩))
end Go.Proofs.YtikjdmbfjkbndaaGreat

namespace Go.Proofs.YtikjdmbfjkbndaaGreat
open Go.RowKit

/-- a clock without a slew -/
structure Ck where
 raw : Int
 time : Int
 ppb : Int
 steps : Int
deriving DecidableEq, Inhabited
def CkAt (w : World) (b : Nat) (c : Ck) : Prop := w.heap[b]? = some (.cells #[.int .i64 c.raw, .int .i64 c.time, .int .i64 c.ppb, .int .i64 0, .int .i64 0, .int .i64 c.steps] 178 (0, 0))
structure CkOk (c : Ck) : Prop where
 r0 : -4503599627370496 ≤ c.raw
 r1 : c.raw ≤ 4503599627370496
 t0 : -4503599627370496 ≤ c.time
 t1 : c.time ≤ 4503599627370496
 p0 : -500000 ≤ c.ppb
 p1 : c.ppb ≤ 500000
 s0 : 0 ≤ c.steps
 s1 : c.steps ≤ 9223372036854775807
def cShow (c : Ck) (raw : Int) : Int := c.time + (raw - c.raw) + (raw - c.raw) * c.ppb / 1000000000
def cNow (c : Ck) (raw : Int) : Int × Int := if raw < c.raw then (0, 12) else if 4503599627370496 < raw then (0, 3) else if isT (cShow c raw) = true then (cShow c raw, 0) else (0, 3)
theorem part_bd {e ppb : Int} (h0 : 0 ≤ e) (h1 : e ≤ 9007199254740992) (h2 : -500000 ≤ ppb) (h3 : ppb ≤ 500000) : -9007199254740992 ≤ e * ppb / 1000000000 ∧ e * ppb / 1000000000 ≤ 9007199254740992 := by
 constructor
 ·rw [Int.le_ediv_iff_mul_le (by omega)]
  have := Int.mul_le_mul_of_nonneg_left (a := -500000) (b := ppb) (c := e) h2 h0
  omega
 ·refine Int.ediv_le_of_le_mul (by omega) ?_
  have := Int.mul_le_mul_of_nonneg_left (a := ppb) (b := 500000) (c := e) h3 h0
  omega
set_option maxRecDepth 100000 in
set_option maxHeartbeats 1000000 in
theorem pCWithin (n m : Int) (h0 : 0 ≤ m) (hm : m ≤ 9223372036854775807) (w : World) :
  Calls Tryz.prog 89 #[.int .i64 n, .int .i64 m] w fun e w' => e = .returned (.bool (wth n (-m) m)) ∧ Only [] w w' := by
 have r1 : IntKind.i64.wrap (-m) = -m := by rw [IntKind.wrap_i64]; omega
 by_cases h1 : -m ≤ n
 ·have a1 : decide (-m ≤ n) = true := decide_eq_true h1
  obtain ⟨r, hr⟩ : ∃ r, decide (n ≤ m) = r := ⟨_, rfl⟩
  rw [show wth n (-m) m = r from by unfold wth; rw [a1, hr]; rfl]
  go_enter Tryz.func89, Tryz.ntmps89
  have OO := Lib.hid (Only.refl [] w)
  go_wp2
  go_ret
  exact ⟨rfl, OO.out⟩
 ·have a1 : decide (-m ≤ n) = false := decide_eq_false h1
  rw [show wth n (-m) m = false from by unfold wth; rw [a1]; rfl]
  go_enter Tryz.func89, Tryz.ntmps89
  have OO := Lib.hid (Only.refl [] w)
  go_wp2
  go_ret
  exact ⟨rfl, OO.out⟩
set_option maxRecDepth 100000 in
set_option maxHeartbeats 1000000 in
theorem pCValid (raw time : Int) (w : World) :
  Calls Tryz.prog 133 #[.agg #[.int .i64 raw, .int .i64 time, .int .i64 0, .int .i64 0, .int .i64 0, .int .i64 0]] w fun e w' => e = .returned (.bool (isT raw && isT time)) ∧ Only [] w w' := by
 have H1 := Lib.hid (fun w' => pCWithin raw 4503599627370496 (by omega) (by omega) w')
 have H2 := Lib.hid (fun w' => pCWithin time 4503599627370496 (by omega) (by omega) w')
 have H3 := Lib.hid (fun w' => pCWithin 0 4503599627370496 (by omega) (by omega) w')
 have H4 := Lib.hid (fun w' => pCWithin 0 500000 (by omega) (by omega) w')
 rw [show wth 0 (-4503599627370496) 4503599627370496 = true from by rw [wth_iff]; omega] at H3
 rw [show wth 0 (-500000) 500000 = true from by rw [wth_iff]; omega] at H4
 unfold isT
 generalize wth raw (-4503599627370496) 4503599627370496 = x1 at H1 ⊢
 generalize wth time (-4503599627370496) 4503599627370496 = x2 at H2 ⊢
 cases x1
 ·go_enter Tryz.func133, Tryz.ntmps133
  go_upto_region 1 with (fail)
  refine alloc_abs (G := fun w0 => Code.wp _ _ _ _ w0) ?_
  intro w1 hb1 ho1 hs1
  obtain ⟨b1, hbe1⟩ : ∃ b, w.heap.size = b := ⟨_, rfl⟩
  rw [hbe1] at hb1
  rw [hbe1]
  have HN : Hid (w.heap.size ≤ b1) := Lib.hid (by omega)
  have B1 := Lib.hid hb1; have OO := Lib.hid ho1
  clear hb1 hs1 hbe1
  clear ho1
  have k1 := c_6 B1.out
  go_wp2_with fail
  refine (H1.out _).mono ?_
  rintro e w2 ⟨rfl, ho⟩
  clear k1
  replace OO := Lib.hid (OO.out.nil_trans ho); replace B1 := Lib.hid (ho.got B1.out (by simp))
  clear ho
  have k1 := c_6 B1.out
  go_wp2
  go_ret
  exact ⟨rfl, OO.out⟩
 ·cases x2
  ·go_enter Tryz.func133, Tryz.ntmps133
   go_upto_region 1 with (fail)
   refine alloc_abs (G := fun w0 => Code.wp _ _ _ _ w0) ?_
   intro w1 hb1 ho1 hs1
   obtain ⟨b1, hbe1⟩ : ∃ b, w.heap.size = b := ⟨_, rfl⟩
   rw [hbe1] at hb1
   rw [hbe1]
   have HN : Hid (w.heap.size ≤ b1) := Lib.hid (by omega)
   have B1 := Lib.hid hb1; have OO := Lib.hid ho1
   clear hb1 hs1 hbe1
   clear ho1
   have k1 := c_6 B1.out
   go_wp2_with fail
   refine (H1.out _).mono ?_
   rintro e w2 ⟨rfl, ho⟩
   clear k1
   replace OO := Lib.hid (OO.out.nil_trans ho); replace B1 := Lib.hid (ho.got B1.out (by simp))
   clear ho
   have k1 := c_6 B1.out
   go_wp2_with fail
   refine (H2.out _).mono ?_
   rintro e w3 ⟨rfl, ho⟩
   clear k1
   replace OO := Lib.hid (OO.out.nil_trans ho); replace B1 := Lib.hid (ho.got B1.out (by simp))
   clear ho
   have k1 := c_6 B1.out
   go_wp2
   go_ret
   exact ⟨rfl, OO.out⟩
  ·go_enter Tryz.func133, Tryz.ntmps133
   go_upto_region 1 with (fail)
   refine alloc_abs (G := fun w0 => Code.wp _ _ _ _ w0) ?_
   intro w1 hb1 ho1 hs1
   obtain ⟨b1, hbe1⟩ : ∃ b, w.heap.size = b := ⟨_, rfl⟩
   rw [hbe1] at hb1
   rw [hbe1]
   have HN : Hid (w.heap.size ≤ b1) := Lib.hid (by omega)
   have B1 := Lib.hid hb1; have OO := Lib.hid ho1
   clear hb1 hs1 hbe1
   clear ho1
   have k1 := c_6 B1.out
   go_wp2_with fail
   refine (H1.out _).mono ?_
   rintro e w2 ⟨rfl, ho⟩
   clear k1
   replace OO := Lib.hid (OO.out.nil_trans ho); replace B1 := Lib.hid (ho.got B1.out (by simp))
   clear ho
   have k1 := c_6 B1.out
   go_wp2_with fail
   refine (H2.out _).mono ?_
   rintro e w3 ⟨rfl, ho⟩
   clear k1
   replace OO := Lib.hid (OO.out.nil_trans ho); replace B1 := Lib.hid (ho.got B1.out (by simp))
   clear ho
   have k1 := c_6 B1.out
   go_wp2_with fail
   refine (H3.out _).mono ?_
   rintro e w4 ⟨rfl, ho⟩
   clear k1
   replace OO := Lib.hid (OO.out.nil_trans ho); replace B1 := Lib.hid (ho.got B1.out (by simp))
   clear ho
   have k1 := c_6 B1.out
   go_wp2_with fail
   refine (H4.out _).mono ?_
   rintro e w5 ⟨rfl, ho⟩
   clear k1
   replace OO := Lib.hid (OO.out.nil_trans ho); replace B1 := Lib.hid (ho.got B1.out (by simp))
   clear ho
   have k1 := c_6 B1.out
   go_wp2
   go_ret
   exact ⟨rfl, OO.out⟩
/-- a new clock, or none -/
def CNewR (w0 : World) (raw time : Int) (e : Ending) (w : World) : Prop :=
 ((isT raw && isT time) = false ∧ e = .returned (.pointer none)) ∨ ((isT raw && isT time) = true ∧ ∃ b, e = .returned (.pointer (some ⟨b, 0, none⟩)) ∧ w0.heap.size ≤ b ∧ CkAt w b ⟨raw, time, 0, 0⟩)
set_option maxRecDepth 100000 in
set_option maxHeartbeats 1000000 in
theorem pCOf (raw time : Int) (w : World) :
  Calls Tryz.prog 72 #[.agg #[.int .i64 raw, .int .i64 time, .int .i64 0, .int .i64 0, .int .i64 0, .int .i64 0]] w fun e w' => CNewR w raw time e w' ∧ Only [] w w' := by
 unfold CNewR
 have HV := Lib.hid (fun w' => pCValid raw time w')
 generalize (isT raw && isT time) = ok at HV ⊢
 cases ok
 ·go_enter Tryz.func72, Tryz.ntmps72
  go_upto_region 1 with (fail)
  refine alloc_abs (G := fun w0 => Code.wp _ _ _ _ w0) ?_
  intro w1 hb1 ho1 hs1
  obtain ⟨b1, hbe1⟩ : ∃ b, w.heap.size = b := ⟨_, rfl⟩
  rw [hbe1] at hb1
  rw [hbe1]
  have HN : Hid (w.heap.size ≤ b1) := Lib.hid (by omega)
  have B1 := Lib.hid hb1; have OO := Lib.hid ho1
  clear hb1 hs1 hbe1
  clear ho1
  have k1 := c_6 B1.out
  go_wp2_with fail
  refine (HV.out _).mono ?_
  rintro e w2 ⟨rfl, ho⟩
  clear k1
  replace OO := Lib.hid (OO.out.nil_trans ho); replace B1 := Lib.hid (ho.got B1.out (by simp))
  clear ho
  have k1 := c_6 B1.out
  go_wp2
  go_ret
  exact ⟨.inl ⟨by first | rfl | trivial, rfl⟩, OO.out⟩
 ·go_enter Tryz.func72, Tryz.ntmps72
  go_upto_region 1 with (fail)
  refine alloc_abs (G := fun w0 => Code.wp _ _ _ _ w0) ?_
  intro w1 hb1 ho1 hs1
  obtain ⟨b1, hbe1⟩ : ∃ b, w.heap.size = b := ⟨_, rfl⟩
  rw [hbe1] at hb1
  rw [hbe1]
  have HN : Hid (w.heap.size ≤ b1) := Lib.hid (by omega)
  have B1 := Lib.hid hb1; have OO := Lib.hid ho1
  clear hb1 hs1 hbe1
  clear ho1
  have k1 := c_6 B1.out
  go_wp2_with fail
  refine (HV.out _).mono ?_
  rintro e w2 ⟨rfl, ho⟩
  clear k1
  replace OO := Lib.hid (OO.out.nil_trans ho); replace B1 := Lib.hid (ho.got B1.out (by simp))
  clear ho
  have k1 := c_6 B1.out
  go_wp2
  refine alloc_abs (G := fun w0 => bodyPost _ _ _ _ _ w0) ?_
  intro w3 hb ho _
  go_ret
  exact ⟨.inr ⟨by first | rfl | trivial, _, rfl, OO.out.size, hb⟩, OO.out.nil_trans ho⟩
set_option maxRecDepth 100000 in
set_option maxHeartbeats 1000000 in
theorem pCNew (raw time : Int) (w : World) :
  Calls Tryz.prog 32 #[.int .i64 raw, .int .i64 time] w fun e w' => CNewR w raw time e w' ∧ Only [] w w' := by
 have HO := Lib.hid (pCOf raw time w)
 go_enter Tryz.func32, Tryz.ntmps32
 go_wp2_with fail
 refine HO.out.mono ?_
 rintro e w1 ⟨hr, ho⟩
 have HR := Lib.hid hr; have OO := Lib.hid ho
 clear hr ho HO
 rcases HR.out with ⟨h, rfl⟩ | ⟨h, b, rfl, hb, hc⟩
 ·have HH := Lib.hid h
  clear h HR
  go_wp2
  go_ret
  exact ⟨.inl ⟨HH.out, rfl⟩, OO.out⟩
 ·have HH := Lib.hid h; have HC := Lib.hid hc; have HB := Lib.hid hb
  clear h HR hb hc
  go_wp2
  go_ret
  exact ⟨.inr ⟨HH.out, b, rfl, HB.out, HC.out⟩, OO.out⟩
set_option maxRecDepth 100000 in
set_option maxHeartbeats 1000000 in
theorem pPart (d ppb : Int) (h0 : 0 ≤ d) (h1 : d ≤ 9007199254740992) (h2 : -500000 ≤ ppb) (h3 : ppb ≤ 500000) (w : World) :
  Calls Tryz.prog 153 #[.int .i64 d, .int .i64 ppb] w fun e w' => e = .returned (.int .i64 (d * ppb / 1000000000)) ∧ Only [] w w' := by
 have hb := part_bd h0 h1 h2 h3
 have HM := Lib.hid (fun w' => o_drew (fmuldiv d ppb 1000000000 w' (by omega) (by omega) (by omega) (by omega) (by omega) (by omega)))
 generalize d * ppb / 1000000000 = q at HM hb ⊢
 rw [orZ_yes (by omega) (by omega), inI_yes (by omega) (by omega)] at HM
 go_enter Tryz.func153, Tryz.ntmps153
 have OO := Lib.hid (Only.refl [] w)
 go_wp2_with fail
 refine (HM.out _).mono ?_
 rintro e w2 ⟨rfl, ho⟩
 replace OO := Lib.hid (OO.out.nil_trans ho)
 clear ho
 go_wp2
 go_ret
 exact ⟨rfl, OO.out⟩
set_option maxRecDepth 100000 in
set_option maxHeartbeats 1000000 in
theorem pShown (raw time ppb steps d : Int) (h0 : 0 ≤ d) (h1 : d ≤ 9007199254740992) (h2 : -500000 ≤ ppb) (h3 : ppb ≤ 500000) (h4 : -4503599627370496 ≤ time) (h5 : time ≤ 4503599627370496) (w : World) :
  Calls Tryz.prog 88 #[.agg #[.int .i64 raw, .int .i64 time, .int .i64 ppb, .int .i64 0, .int .i64 0, .int .i64 steps], .int .i64 d] w fun e w' => e = .returned (.int .i64 (time + d + d * ppb / 1000000000)) ∧ Only [] w w' := by
 have hb := part_bd h0 h1 h2 h3
 have HP := Lib.hid (fun w' => pPart d ppb h0 h1 h2 h3 w')
 generalize d * ppb / 1000000000 = q at HP hb ⊢
 have r1 : IntKind.i64.wrap (time + d) = time + d := by rw [IntKind.wrap_i64]; omega
 have r2 : IntKind.i64.wrap (time + d + q) = time + d + q := by rw [IntKind.wrap_i64]; omega
 go_enter Tryz.func88, Tryz.ntmps88
 go_upto_region 1 with (fail)
 refine alloc_abs (G := fun w0 => Code.wp _ _ _ _ w0) ?_
 intro w1 hb1 ho1 hs1
 obtain ⟨b1, hbe1⟩ : ∃ b, w.heap.size = b := ⟨_, rfl⟩
 rw [hbe1] at hb1
 rw [hbe1]
 have HN : Hid (w.heap.size ≤ b1) := Lib.hid (by omega)
 have B1 := Lib.hid hb1; have OO := Lib.hid ho1
 clear hb1 hs1 hbe1
 clear ho1
 have k1 := c_6 B1.out
 go_wp2_with fail
 refine wp_region_grown [0, 1, 2, 3, 4, 5] [] (by kernel_rfl) (by kernel_rfl) ?_
 simp only [pick, List.map_cons, List.map_nil, List.getD_cons_succ, List.getD_cons_zero]
 iterate 6 (refine wpQuiet_step (fun K hK => ?_); go_simp; refine hK _ ?_; clear hK K)
 refine wpQuiet_nil ?_
 intro w2 hw
 have ho := only_of_plus hw
 clear hw
 clear k1
 replace OO := Lib.hid (OO.out.nil_trans ho); replace B1 := Lib.hid (ho.got B1.out (by simp))
 have k1 := c_6 B1.out
 clear ho
 go_wp2_with fail
 refine (HP.out _).mono ?_
 rintro e w3 ⟨rfl, ho⟩
 clear k1
 replace OO := Lib.hid (OO.out.nil_trans ho); replace B1 := Lib.hid (ho.got B1.out (by simp))
 clear ho
 have k1 := c_6 B1.out
 go_wp2
 go_ret
 exact ⟨rfl, OO.out⟩
set_option maxRecDepth 100000 in
set_option maxHeartbeats 1000000 in
theorem pCNow {w : World} {b : Nat} {c : Ck} (hc : CkAt w b c) (hok : CkOk c) (r : Int) (hr0 : -9223372036854775808 ≤ r) (hr1 : r ≤ 9223372036854775807) :
  Calls Tryz.prog 49 #[.pointer (some ⟨b, 0, none⟩), .int .i64 r] w fun e w' => e = .returned (.tuple #[.int .i64 (cNow c r).1, .int .i64 (cNow c r).2]) ∧ Only [] w w' := by
 obtain ⟨raw, time, ppb, steps⟩ := c
 obtain ⟨g0, g1, g2, g3, g4, g5, _, _⟩ := hok
 unfold CkAt at hc
 dsimp only at hc g0 g1 g2 g3 g4 g5
 have HE : Hid (cNow ⟨raw, time, ppb, steps⟩ r = if r < raw then (0, 12) else if 4503599627370496 < r then (0, 3) else if isT (time + (r - raw) + (r - raw) * ppb / 1000000000) = true then (time + (r - raw) + (r - raw) * ppb / 1000000000, 0) else (0, 3)) := Lib.hid rfl
 generalize cNow ⟨raw, time, ppb, steps⟩ r = res at HE ⊢
 by_cases h1 : r < raw
 ·have d1 : decide (r < raw) = true := decide_eq_true h1
  obtain rfl : res = (0, 12) := by rw [HE.out, if_pos h1]
  clear HE
  go_enter Tryz.func49, Tryz.ntmps49
  have OO := Lib.hid (Only.refl [] w)
  have B1 := Lib.hid hc
  have k1 := c_6 B1.out
  go_wp2
  go_ret2
  exact ⟨rfl, OO.out⟩
 ·have d1 : decide (r < raw) = false := decide_eq_false h1
  by_cases h2 : 4503599627370496 < r
  ·have d2 : decide (4503599627370496 < r) = true := decide_eq_true h2
   obtain rfl : res = (0, 3) := by rw [HE.out, if_neg h1, if_pos h2]
   clear HE
   go_enter Tryz.func49, Tryz.ntmps49
   have OO := Lib.hid (Only.refl [] w)
   have B1 := Lib.hid hc
   have k1 := c_6 B1.out
   go_wp2
   go_ret2
   exact ⟨rfl, OO.out⟩
  ·have d2 : decide (4503599627370496 < r) = false := decide_eq_false h2
   obtain ⟨e, he⟩ : ∃ e, r - raw = e := ⟨_, rfl⟩
   have heb : 0 ≤ e ∧ e ≤ 9007199254740992 := by omega
   rw [if_neg h1, if_neg h2, he] at HE
   have r1 : IntKind.i64.wrap (r - raw) = e := by rw [IntKind.wrap_i64]; omega
   have HS := Lib.hid (fun w' => pShown raw time ppb steps e heb.1 heb.2 g4 g5 g2 g3 w')
   obtain ⟨v, hv⟩ : ∃ v, time + e + e * ppb / 1000000000 = v := ⟨_, rfl⟩
   rw [hv] at HE HS
   have HW := Lib.hid (fun w' => pCWithin v 4503599627370496 (by omega) (by omega) w')
   have HV : Hid (isT v = wth v (-4503599627370496) 4503599627370496) := Lib.hid rfl
   rw [HV.out] at HE
   generalize wth v (-4503599627370496) 4503599627370496 = ok at HE HW
   clear he hv HV
   cases ok
   ·obtain rfl : res = (0, 3) := by have := HE.out; simpa using this
    clear HE
    go_enter Tryz.func49, Tryz.ntmps49
    have OO := Lib.hid (Only.refl [] w)
    have B1 := Lib.hid hc
    have k1 := c_6 B1.out
    go_wp2_with fail
    refine wp_region_grown [0, 1, 2, 3, 4, 5, 6, 7, 8, 9, 10, 11, 12] [] (by kernel_rfl) (by kernel_rfl) ?_
    simp only [pick, List.map_cons, List.map_nil, List.getD_cons_succ, List.getD_cons_zero]
    iterate 11 (refine wpQuiet_step (fun K hK => ?_); go_simp; refine hK _ ?_; clear hK K)
    refine wpQuiet_enter_w (by kernel_rfl) 88 #[.agg #[.int .i64 raw, .int .i64 time, .int .i64 ppb, .int .i64 0, .int .i64 0, .int .i64 steps], .int .i64 e] (fun _ => by kernel_rfl) (.int .i64 v) (grown_only2 (fun w' hw' => HS.out w')) ?_
    iterate 1 (refine wpQuiet_step (fun K hK => ?_); go_simp; refine hK _ ?_; clear hK K)
    refine wpQuiet_nil ?_
    intro w2 hw
    have ho := only_of_plus hw
    clear hw
    clear k1
    replace OO := Lib.hid (OO.out.nil_trans ho); replace B1 := Lib.hid (ho.got B1.out (by simp))
    have k1 := c_6 B1.out
    clear ho
    go_wp2_with fail
    refine (HW.out _).mono ?_
    rintro e w3 ⟨rfl, ho⟩
    clear k1
    replace OO := Lib.hid (OO.out.nil_trans ho); replace B1 := Lib.hid (ho.got B1.out (by simp))
    clear ho
    have k1 := c_6 B1.out
    go_wp2
    go_ret2
    exact ⟨rfl, OO.out⟩
   ·obtain rfl : res = (v, 0) := by have := HE.out; simpa using this
    clear HE
    go_enter Tryz.func49, Tryz.ntmps49
    have OO := Lib.hid (Only.refl [] w)
    have B1 := Lib.hid hc
    have k1 := c_6 B1.out
    go_wp2_with fail
    refine wp_region_grown [0, 1, 2, 3, 4, 5, 6, 7, 8, 9, 10, 11, 12] [] (by kernel_rfl) (by kernel_rfl) ?_
    simp only [pick, List.map_cons, List.map_nil, List.getD_cons_succ, List.getD_cons_zero]
    iterate 11 (refine wpQuiet_step (fun K hK => ?_); go_simp; refine hK _ ?_; clear hK K)
    refine wpQuiet_enter_w (by kernel_rfl) 88 #[.agg #[.int .i64 raw, .int .i64 time, .int .i64 ppb, .int .i64 0, .int .i64 0, .int .i64 steps], .int .i64 e] (fun _ => by kernel_rfl) (.int .i64 v) (grown_only2 (fun w' hw' => HS.out w')) ?_
    iterate 1 (refine wpQuiet_step (fun K hK => ?_); go_simp; refine hK _ ?_; clear hK K)
    refine wpQuiet_nil ?_
    intro w2 hw
    have ho := only_of_plus hw
    clear hw
    clear k1
    replace OO := Lib.hid (OO.out.nil_trans ho); replace B1 := Lib.hid (ho.got B1.out (by simp))
    have k1 := c_6 B1.out
    clear ho
    go_wp2_with fail
    refine (HW.out _).mono ?_
    rintro e w3 ⟨rfl, ho⟩
    clear k1
    replace OO := Lib.hid (OO.out.nil_trans ho); replace B1 := Lib.hid (ho.got B1.out (by simp))
    clear ho
    have k1 := c_6 B1.out
    go_wp2
    go_ret2
    exact ⟨rfl, OO.out⟩
end Go.Proofs.YtikjdmbfjkbndaaGreat
