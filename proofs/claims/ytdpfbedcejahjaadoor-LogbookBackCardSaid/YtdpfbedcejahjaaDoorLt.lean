/- The text of a log and the log of a text, in plain Lean. No condition. -/
import Derived.Test.YtdpfbedcejahjaaDoorLg3
import Derived.Test.YtdpfbedcejahjaaDoorTw
namespace Go.Proofs.YtdpfbedcejahjaaDoor
open Go.RowKit

/-- the numbers that words are -/
def numsO : List (List UInt8) → Option (List Int)
  | [] => some []
  | p :: r => match numO p with
    | none => none
    | some n => match numsO r with
      | none => none
      | some ns => some (n :: ns)
def wSend : List UInt8 := [115, 101, 110, 100]
def wRecv : List UInt8 := [114, 101, 99, 118]
def wStep : List UInt8 := [115, 116, 101, 112]
def wMark : List UInt8 := [109, 97, 114, 107]
/-- the entry of a word and numbers -/
def mkE (h : List UInt8) : List Int → Option En
  | [a, b, c, d] => if h = wSend then some ⟨1, a, b, c, d, 0⟩ else if h = wRecv then some ⟨2, a, b, c, d, 0⟩ else none
  | [a, b, c] => if h = wStep then some ⟨3, a, 0, 0, b, c⟩ else none
  | [a, b] => if h = wMark then some ⟨4, a, 0, 0, b, 0⟩ else none
  | _ => none
/-- the entry of words -/
def entW : List (List UInt8) → Option En
  | [] => none
  | h :: r => match numsO r with
    | none => none
    | some ns => mkE h ns
/-- the entry of a line -/
def lineE (l : List UInt8) : Option En := entW (pcs 32 l)
/-- the log of lines, or the number of the first line that is none -/
def parP : List (List UInt8) → Nat → Except Nat (List En)
  | [], n => .error n
  | p :: r, n => if r = [] then (if p = [] then .ok [] else .error n) else match lineE p with
    | none => .error n
    | some e => match parP r (n + 1) with
      | .ok l => .ok (e :: l)
      | .error m => .error m
/-- what comes behind entries that are read -/
def addE (acc : List En) : Except Nat (List En) → Except Nat (List En)
  | .ok l => .ok (acc ++ l)
  | .error m => .error m
theorem addE_nil (x : Except Nat (List En)) : addE [] x = x := by cases x <;> rfl
theorem parP_end {n : Nat} : parP (pcs 10 []) n = .ok [] := rfl
theorem parP_last {s : List UInt8} {n : Nat} (h : (10 : UInt8) ∉ s) (h0 : s ≠ []) : parP (pcs 10 s) n = .error n := by
  rw [pcs_no h]; simp [parP, h0]
theorem parP_line {a r : List UInt8} {n : Nat} (h : (10 : UInt8) ∉ a) : parP (pcs 10 (a ++ 10 :: r)) n = match lineE a with
    | none => .error n
    | some e => addE [e] (parP (pcs 10 r) (n + 1)) := by
  rw [pcs_cut r h, parP, if_neg (pcs_ne 10 r)]
  cases lineE a with
  | none => rfl
  | some e => cases parP (pcs 10 r) (n + 1) <;> rfl
theorem addE_addE (a b : List En) (x : Except Nat (List En)) : addE a (addE b x) = addE (a ++ b) x := by
  cases x <;> simp [addE]
/-- the log of a text -/
def parL (s : List UInt8) : Except Nat (List En) := parP (pcs 10 s) 1
/-- what Parse returns: the log, the line, the error -/
def parR (s : List UInt8) : List En × Nat × Int :=
  if 65536 < s.length then ([], 0, 6) else match parL s with
    | .error n => ([], n, 19)
    | .ok l => if logE l = 0 then (l, 0, 0) else ([], 0, logE l)
/-- the words of an entry -/
def wordsE (e : En) : List (List UInt8) :=
  if e.k = 1 ∨ e.k = 2 then [if e.k = 2 then wRecv else wSend, Lib.itoa e.n, Lib.itoa e.p, Lib.itoa e.m, Lib.itoa e.c]
  else if e.k = 3 then [wStep, Lib.itoa e.n, Lib.itoa e.c, Lib.itoa e.v] else [wMark, Lib.itoa e.n, Lib.itoa e.c]
/-- the line of an entry -/
def lineT (e : En) : List UInt8 := joinC 32 (wordsE e)
/-- the text of a log -/
def textL (l : List En) : List UInt8 := l.flatMap fun e => lineT e ++ [10]
theorem textL_cons (e : En) (l : List En) : textL (e :: l) = lineT e ++ 10 :: textL l := by simp [textL]
theorem textL_snoc (l : List En) (e : En) : textL (l ++ [e]) = textL l ++ (lineT e ++ [10]) := by simp [textL]

theorem no_in_itoa {c : UInt8} (h : c = 10 ∨ c = 32) (n : Int) : c ∉ Lib.itoa n := by
  intro hm
  rcases itoa_bytes n c hm with h1 | h1
  · rcases h with rfl | rfl <;> cases h1
  · rcases h with rfl | rfl <;> simp at h1
theorem no_in_words {c : UInt8} (h : c = 10 ∨ c = 32) (e : En) : ∀ p ∈ wordsE e, c ∉ p := by
  have hw : c ∉ wSend ∧ c ∉ wRecv ∧ c ∉ wStep ∧ c ∉ wMark := by
    rcases h with rfl | rfl <;> decide
  intro p hp
  unfold wordsE at hp
  split at hp
  · simp only [List.mem_cons, List.not_mem_nil, or_false] at hp
    rcases hp with rfl | rfl | rfl | rfl | rfl
    · split
      · exact hw.2.1
      · exact hw.1
    all_goals exact no_in_itoa h _
  · split at hp
    · simp only [List.mem_cons, List.not_mem_nil, or_false] at hp
      rcases hp with rfl | rfl | rfl | rfl
      · exact hw.2.2.1
      all_goals exact no_in_itoa h _
    · simp only [List.mem_cons, List.not_mem_nil, or_false] at hp
      rcases hp with rfl | rfl | rfl
      · exact hw.2.2.2
      all_goals exact no_in_itoa h _
theorem words_ne (e : En) : wordsE e ≠ [] := by
  unfold wordsE
  split
  · simp
  · split <;> simp
theorem mem_joinC {c x : UInt8} : ∀ {ps : List (List UInt8)}, x ∈ joinC c ps → x = c ∨ ∃ p ∈ ps, x ∈ p
  | [], h => by simp [joinC] at h
  | [p], h => .inr ⟨p, by simp, h⟩
  | p :: q :: r, h => by
    rw [joinC_cons c p (by simp)] at h
    rcases List.mem_append.1 h with h | h
    · exact .inr ⟨p, by simp, h⟩
    · rcases List.mem_cons.1 h with h | h
      · exact .inl h
      · rcases mem_joinC h with h | ⟨y, hy, hx⟩
        · exact .inl h
        · exact .inr ⟨y, by simp [hy], hx⟩
theorem no_nl_line (e : En) : (10 : UInt8) ∉ lineT e := by
  intro h
  rcases mem_joinC h with h | ⟨p, hp, hx⟩
  · cases h
  · exact no_in_words (.inl rfl) e p hp hx
theorem pcs_line (e : En) : pcs 32 (lineT e) = wordsE e := pcs_join _ (words_ne e) (no_in_words (.inr rfl) e)
theorem i64_of {n a b : Int} (h1 : a ≤ n) (h2 : n ≤ b) (ha : -9223372036854775808 ≤ a) (hb : b ≤ 9223372036854775807) : i64 n := ⟨by omega, by omega⟩
/-- a valid entry is read back from its line -/
theorem line_back {e : En} (h : eChk e = 0) : lineE (lineT e) = some e := by
  unfold lineE
  rw [pcs_line]
  obtain ⟨k, n, p, m, c, v⟩ := e
  unfold eChk at h
  split at h
  · cases h
  · rename_i hk
    split at h
    · cases h
    · rename_i hr
      split at h
      · cases h
      · rename_i hf
        have hr := Classical.not_not.1 hr
        unfold rngOk at hr
        unfold formBad at hf
        dsimp only at hk hr hf
        have i1 : i64 n := i64_of hr.1 hr.2.1 (by omega) (by omega)
        have i2 : i64 p := i64_of hr.2.2.1 hr.2.2.2.1 (by omega) (by omega)
        have i3 : i64 m := i64_of hr.2.2.2.2.1 hr.2.2.2.2.2.1 (by omega) (by omega)
        have i4 : i64 c := i64_of hr.2.2.2.2.2.2.1 hr.2.2.2.2.2.2.2.1 (by omega) (by omega)
        have i5 : i64 v := i64_of hr.2.2.2.2.2.2.2.2.1 hr.2.2.2.2.2.2.2.2.2 (by omega) (by omega)
        clear hr
        unfold wordsE
        dsimp only
        by_cases h1 : k = 1
        · obtain rfl : v = 0 := by omega
          subst h1
          simp [entW, numsO, numO_itoa i1, numO_itoa i2, numO_itoa i3, numO_itoa i4, mkE]
        · by_cases h2 : k = 2
          · obtain rfl : v = 0 := by omega
            subst h2
            simp [entW, numsO, numO_itoa i1, numO_itoa i2, numO_itoa i3, numO_itoa i4, mkE, show wRecv ≠ wSend by decide]
          · obtain rfl : p = 0 := by omega
            obtain rfl : m = 0 := by omega
            by_cases h3 : k = 3
            · subst h3
              simp [entW, numsO, numO_itoa i1, numO_itoa i4, numO_itoa i5, mkE]
            · obtain rfl : k = 4 := by omega
              obtain rfl : v = 0 := by omega
              simp [entW, numsO, numO_itoa i1, numO_itoa i4, mkE]
theorem numsO_some : ∀ {r : List (List UInt8)} {ns : List Int}, numsO r = some ns → r = ns.map Lib.itoa
  | [], ns, h => by simp [numsO] at h; simp [← h]
  | p :: r, ns, h => by
    unfold numsO at h
    split at h
    · cases h
    · rename_i n hn
      split at h
      · cases h
      · rename_i ms hms
        cases h
        rw [List.map_cons, ← numsO_some hms, (numO_some hn).2]
/-- what is read from a line has this line -/
theorem line_text {s : List UInt8} {e : En} (h : lineE s = some e) : lineT e = s := by
  unfold lineE at h
  have hj := join_pcs 32 s
  cases hp : pcs 32 s with
  | nil => exact absurd hp (pcs_ne _ _)
  | cons w r =>
    rw [hp] at h hj
    simp only [entW] at h
    split at h
    · cases h
    · rename_i ns hns
      have hr := numsO_some hns
      rw [← hj, hr]
      unfold lineT
      congr 1
      unfold mkE at h
      split at h
      · split at h
        · rename_i hw; cases h; simp [wordsE, hw]
        · split at h
          · rename_i hw; cases h; simp [wordsE, hw]
          · cases h
      · split at h
        · rename_i hw; cases h; simp [wordsE, hw]
        · cases h
      · split at h
        · rename_i hw; cases h; simp [wordsE, hw]
        · cases h
      · cases h
/-- a log is read back from its text -/
theorem text_back : ∀ {l : List En} (n : Nat), (∀ e ∈ l, eChk e = 0) → parP (pcs 10 (textL l)) n = .ok l
  | [], n, _ => rfl
  | e :: l, n, h => by
    rw [textL_cons, parP_line (no_nl_line e), line_back (h e (by simp)), text_back (n + 1) (fun x hx => h x (by simp [hx]))]
    rfl
/-- what is read has this text -/
theorem text_of_parse : ∀ {ps : List (List UInt8)} {n : Nat} {l : List En}, parP ps n = .ok l → textL l = joinC 10 ps
  | [], n, l, h => by simp [parP] at h
  | p :: r, n, l, h => by
    unfold parP at h
    split at h
    · rename_i hr
      split at h
      · rename_i hp; cases h; rw [hr, hp]; rfl
      · cases h
    · rename_i hr
      split at h
      · cases h
      · rename_i e he
        split at h
        · rename_i l' hl'
          cases h
          rw [textL_cons, text_of_parse hl', line_text he, joinC_cons 10 p hr]
        · cases h
theorem parse_text {s : List UInt8} {l : List En} (h : parL s = .ok l) : textL l = s := (text_of_parse h).trans (join_pcs 10 s)
theorem onesE_mem : ∀ {l : List En}, onesE l = 0 ↔ ∀ e ∈ l, eChk e = 0
  | [] => by simp [onesE]
  | e :: l => by
    unfold onesE
    split
    · rename_i h; rw [onesE_mem (l := l)]; simp [h]
    · rename_i h; simp [h]
theorem logE_zero {l : List En} : logE l = 0 ↔ l.length ≤ 512 ∧ (∀ e ∈ l, eChk e = 0) ∧ ordE [] l = 0 := by
  unfold logE
  split
  · constructor
    · intro h; cases h
    · rintro ⟨h, _⟩; omega
  · split
    · rename_i h1 h2
      constructor
      · intro h; exact ⟨by omega, onesE_mem.1 h2, h⟩
      · exact fun h => h.2.2
    · rename_i h1 h2
      constructor
      · intro h; exact absurd h h2
      · intro h; exact absurd (onesE_mem.2 h.2.1) h2
theorem ordE_take : ∀ (l past : List En) (k : Nat), ordE past l = 0 → ordE past (l.take k) = 0
  | [], past, k, h => by simp [ordE]
  | e :: l, past, 0, h => rfl
  | e :: l, past, k + 1, h => by
    rw [List.take_succ_cons]
    unfold ordE at h ⊢
    split at h
    · cases h
    · split at h
      · cases h
      · rename_i h1 h2
        rw [if_neg h1, if_neg h2]
        exact ordE_take l _ k h
theorem logE_take {l : List En} (k : Nat) (h : logE l = 0) : logE (l.take k) = 0 := by
  obtain ⟨h1, h2, h3⟩ := logE_zero.1 h
  exact logE_zero.2 ⟨by rw [List.length_take]; omega, fun e he => h2 e (List.mem_of_mem_take he), ordE_take l [] k h3⟩
theorem textL_take (l : List En) (k : Nat) : textL (l.take k) = (textL l).take (textL (l.take k)).length := by
  have : textL l = textL (l.take k) ++ textL (l.drop k) := by
    unfold textL
    rw [← List.flatMap_append, List.take_append_drop]
  rw [this, List.take_left]
end Go.Proofs.YtdpfbedcejahjaaDoor
