/- What a line, and a text, of a leap table says: plain definitions and the law that a text is read back. No condition. -/
import Derived.Test.YtnfejojakikeeaaGreatDoorKb
namespace Go.Proofs.YtnfejojakikeeaaGreatDoor
open Go.RowKit

/-- what the parser holds -/
structure PSt where
  b : Int
  x : Int
  es : List Le
  kb : Bool
  ke : Bool
def cutH (L : List UInt8) : List UInt8 := (Lib.cut L [35]).1
/-- what the numbers of a line do -/
def entR (st : PSt) (r : Option (List Int)) : Option PSt := match r with
  | some [] => some st
  | some [a, o] => some { st with es := st.es ++ [⟨a, o⟩] }
  | _ => none
/-- what a line does -/
def rdO (st : PSt) (L : List UInt8) : Option PSt :=
  if spcB 64 L then (setO st.ke (L.drop 2)).map fun n => { st with x := n, ke := true }
  else if spcB 61 L then (setO st.kb (L.drop 2)).map fun n => { st with b := n, kb := true }
  else entR st (numsO (wds [] (cutH L)))
def rdL : PSt → List (List UInt8) → Option PSt
  | st, [] => some st
  | st, l :: r => match rdO st l with
    | none => none
    | some st' => rdL st' r
def st0 : PSt := ⟨0, 0, [], false, false⟩
/-- the table of a text, and the error -/
def endK (r : Option PSt) : (Int × Int × List Le) × Int := match r with
  | none => ((0, 0, []), 19)
  | some st => if st.kb = true ∧ st.ke = true then (if chkT st.b st.x st.es = 0 then ((st.b, st.x, st.es), 0) else ((0, 0, []), chkT st.b st.x st.es)) else ((0, 0, []), 11)
def prsK (s : List UInt8) : (Int × Int × List Le) × Int := endK (rdL st0 (pcs 10 s))
theorem prsK_ok {s : List UInt8} (h : (prsK s).2 = 0) : chkT (prsK s).1.1 (prsK s).1.2.1 (prsK s).1.2.2 = 0 := by
  unfold prsK at h ⊢
  cases hr : rdL st0 (pcs 10 s) with
  | none => rw [hr] at h; cases h
  | some st =>
    rw [hr] at h
    by_cases h1 : st.kb = true ∧ st.ke = true
    · by_cases h2 : chkT st.b st.x st.es = 0
      · have e : endK (some st) = ((st.b, st.x, st.es), 0) := by unfold endK; simp only [if_pos h1, if_pos h2]
        rw [e]; exact h2
      · have e : endK (some st) = ((0, 0, []), chkT st.b st.x st.es) := by unfold endK; simp only [if_pos h1, if_neg h2]
        rw [e] at h; exact absurd h h2
    · have e : endK (some st) = ((0, 0, []), 11) := by unfold endK; simp only [if_neg h1]
      rw [e] at h; cases h
theorem prsK_bad {s : List UInt8} (h : (prsK s).2 ≠ 0) : (prsK s).1 = (0, 0, []) := by
  unfold prsK at h ⊢
  cases hr : rdL st0 (pcs 10 s) with
  | none => rfl
  | some st =>
    rw [hr] at h
    by_cases h1 : st.kb = true ∧ st.ke = true
    · by_cases h2 : chkT st.b st.x st.es = 0
      · have e : endK (some st) = ((st.b, st.x, st.es), 0) := by unfold endK; simp only [if_pos h1, if_pos h2]
        rw [e] at h; exact absurd rfl h
      · have e : endK (some st) = ((0, 0, []), chkT st.b st.x st.es) := by unfold endK; simp only [if_pos h1, if_neg h2]
        rw [e]
    · have e : endK (some st) = ((0, 0, []), 11) := by unfold endK; simp only [if_neg h1]
      rw [e]

/-! ### a text is read back -/
def Plain (l : List UInt8) : Prop := ∀ c ∈ l, blk c = false ∧ c ≠ 35 ∧ c ≠ 10
theorem itoa_plain (n : Int) : Plain (Lib.itoa n) := by
  intro c hc
  have h : c = 45 ∨ (48 ≤ c.toNat ∧ c.toNat ≤ 57) := itoa_bytes n c hc
  have key : ∀ k : UInt8, k.toNat < 45 → c ≠ k := fun k hk e => by
    subst e
    rcases h with rfl | h
    · simp at hk
    · omega
  refine ⟨?_, key 35 (by decide), key 10 (by decide)⟩
  have h1 := key 32 (by decide)
  have h2 := key 9 (by decide)
  simp [blk, h1, h2]
theorem wds_plain : ∀ {l : List UInt8} (cur r : List UInt8), (∀ c ∈ l, blk c = false) → wds cur (l ++ r) = wds (cur ++ l) r
  | [], cur, r, _ => by simp
  | c :: l, cur, r, h => by
    have h0 := h c (by simp)
    rw [List.cons_append, wds, if_neg (by simp [h0]), wds_plain (l := l) (cur ++ [c]) r (fun x hx => h x (by simp [hx]))]
    simp
theorem wds_one {l : List UInt8} (hn : l ≠ []) (h : ∀ c ∈ l, blk c = false) : wds [] l = [l] := by
  have := wds_plain [] [] h
  rw [List.append_nil, List.nil_append] at this
  rw [this, wds, if_neg hn]
theorem wds_two {l r : List UInt8} (hn : l ≠ []) (h : ∀ c ∈ l, blk c = false) : wds [] (l ++ 32 :: r) = l :: wds [] r := by
  have := wds_plain [] (32 :: r) h
  rw [List.nil_append] at this
  rw [this, wds, if_pos (by decide), if_neg hn]
theorem spc_plain {c : UInt8} {l : List UInt8} (h : 35 ∉ l) : spcB c l = false := by
  rcases l with _ | ⟨a, _ | ⟨b, _ | ⟨d, r⟩⟩⟩
  · rfl
  · rfl
  · rfl
  · have : a ≠ 35 := fun e => h (by simp [e])
    simp [spcB, this]
theorem numsO_two {a o : Int} (ha : i64 a) (ho : i64 o) : numsO [Lib.itoa a, Lib.itoa o] = some [a, o] := by simp [numsO, numO_itoa ha, numO_itoa ho]
theorem rd_entry (st : PSt) {e : Le} (ha : i64 e.a) (ho : i64 e.o) : rdO st (Lib.itoa e.a ++ 32 :: Lib.itoa e.o) = some { st with es := st.es ++ [e] } := by
  have h1 := itoa_plain e.a
  have h2 := itoa_plain e.o
  have h35 : (35 : UInt8) ∉ Lib.itoa e.a ++ 32 :: Lib.itoa e.o := by
    intro hm
    rcases List.mem_append.1 hm with h | h
    · exact (h1 _ h).2.1 rfl
    · rcases List.mem_cons.1 h with h | h
      · cases h
      · exact (h2 _ h).2.1 rfl
  unfold rdO cutH
  rw [if_neg (by rw [spc_plain h35]; simp), if_neg (by rw [spc_plain h35]; simp), cut_no h35]
  simp only [wds_two (itoa_ne e.a) (fun c hc => (h1 c hc).1), wds_one (itoa_ne e.o) (fun c hc => (h2 c hc).1), numsO_two ha ho, entR]
theorem wds_sp (n : Int) : wds [] (32 :: Lib.itoa n) = [Lib.itoa n] := by
  rw [wds, if_pos (by decide), if_pos rfl, wds_one (itoa_ne n) (fun c hc => (itoa_plain n c hc).1)]
theorem setO_sp {n : Int} (h : i64 n) : setO false (32 :: Lib.itoa n) = some n := by
  unfold setO
  rw [wds_sp]
  simp [numsO, numO_itoa h]
theorem rd_x (st : PSt) (hk : st.ke = false) {n : Int} (h : i64 n) : rdO st ([35, 64, 32] ++ Lib.itoa n) = some { st with x := n, ke := true } := by
  unfold rdO
  rw [if_pos (by simp [spcB, blk])]
  rw [hk, show ([35, 64, 32] ++ Lib.itoa n : List UInt8).drop 2 = 32 :: Lib.itoa n from rfl, setO_sp h]
  rfl
theorem rd_b (st : PSt) (hk : st.kb = false) {n : Int} (h : i64 n) : rdO st ([35, 61, 32] ++ Lib.itoa n) = some { st with b := n, kb := true } := by
  unfold rdO
  rw [if_neg (by simp [spcB]), if_pos (by simp [spcB, blk])]
  rw [hk, show ([35, 61, 32] ++ Lib.itoa n : List UInt8).drop 2 = 32 :: Lib.itoa n from rfl, setO_sp h]
  rfl
theorem rd_nil (st : PSt) : rdO st [] = some st := by
  unfold rdO cutH
  rw [cut_no (by simp)]
  simp [spcB, wds, numsO, entR]
theorem no10 {n : Int} : (10 : UInt8) ∉ Lib.itoa n := fun h => (itoa_plain n _ h).2.2 rfl
theorem rdL_body : ∀ (es : List Le) (st : PSt), (∀ e ∈ es, i64 e.a ∧ i64 e.o) → rdL st (pcs 10 (bodT es)) = some { st with es := st.es ++ es }
  | [], st, _ => by
    simp only [bodT, List.flatMap_nil, pcs, rdL, rd_nil, List.append_nil]
  | e :: r, st, h => by
    have he := h e (by simp)
    have hb : bodT (e :: r) = (Lib.itoa e.a ++ 32 :: Lib.itoa e.o) ++ 10 :: bodT r := by simp [bodT, lnE]
    have h10 : (10 : UInt8) ∉ Lib.itoa e.a ++ 32 :: Lib.itoa e.o := by
      intro hm
      rcases List.mem_append.1 hm with h | h
      · exact no10 h
      · rcases List.mem_cons.1 h with h | h
        · cases h
        · exact no10 h
    rw [hb, pcs_cut _ h10, rdL, rd_entry st he.1 he.2]
    simp only
    rw [rdL_body r _ (fun x hx => h x (by simp [hx]))]
    simp
theorem i64_of {n m : Int} (h : inM n m = true) (hm : m ≤ 9223372036854775807) : i64 n := by
  have := inM_t.1 h
  unfold i64; omega
/-- the text of a valid table is read back -/
theorem text_backK {b x : Int} {es : List Le} (h : chkT b x es = 0) : prsK (txT b x es) = ((b, x, es), 0) := by
  obtain ⟨_, hb, hx, hr, _⟩ := chkT_ok h
  have h1 : (10 : UInt8) ∉ [35, 64, 32] ++ Lib.itoa x := by
    intro hm
    rcases List.mem_append.1 hm with h | h
    · revert h; decide
    · exact no10 h
  have h2 : (10 : UInt8) ∉ [35, 61, 32] ++ Lib.itoa b := by
    intro hm
    rcases List.mem_append.1 hm with h | h
    · revert h; decide
    · exact no10 h
  have ht : txT b x es = ([35, 64, 32] ++ Lib.itoa x) ++ 10 :: (([35, 61, 32] ++ Lib.itoa b) ++ 10 :: bodT es) := by simp [txT, hdT]
  unfold prsK
  rw [ht, pcs_cut _ h1, pcs_cut _ h2, rdL, rd_x st0 rfl (i64_of hx (by decide))]
  simp only
  rw [rdL, rd_b _ rfl (i64_of hb (by decide))]
  simp only
  rw [rdL_body es _ (fun e he => ⟨i64_of (hr e he).2 (by decide), i64_of (hr e he).1 (by decide)⟩)]
  simp only [endK, st0, List.nil_append, and_self, if_true, h]
theorem prsK_nil : prsK [] = ((0, 0, []), 11) := by
  unfold prsK
  rw [show pcs 10 [] = [[]] from rfl, rdL, rd_nil]
  rfl
end Go.Proofs.YtnfejojakikeeaaGreatDoor
