/- Maps of the call's own, of whatever key and element: what look-up and store do, as a function from keys to elements. No condition. -/
import Derived.Test.YtikjdmbfjkbndaaGreatBase
import Derived.MapKept
import Derived.WideKeyRuns
namespace Go.Proofs.YtikjdmbfjkbndaaGreat
open Go.RowKit

section
variable {K V : Type} [DecidableEq K]

/-- where the key stands -/
def findPos (k : K) : List MapEntry → List K → Nat → Option (Nat × Value)
  | e :: es, k' :: ks, i => if k = k' then some (i, e.val) else findPos k es ks (i + 1)
  | _, _, _ => none

/-- how keys of this type are found -/
structure KeyOK (P : Program) (KT : TypeId) (kE : K → Value) : Prop where
  check : ∀ (e : Bool) (k : K) (w : World), (Instr.checkKey e 10000 KT (kE k)).run P w = .ok () w
  find : ∀ (k : K) (es : List MapEntry) (ks : List K) (w : World), es.map (·.key) = ks.map kE → (Instr.findKey KT (kE k) es).run P w = .ok (findPos k es ks 0) w
  bits : ∀ k, Instr.sameBits 10000 (kE k) (kE k) = true

/-- the element at a key -/
def look (k : K) : List (K × V) → Option V
  | [] => none
  | p :: r => if k = p.1 then some p.2 else look k r
/-- an element stored at a key -/
def putL (k : K) (v : V) : List (K × V) → List (K × V)
  | [] => [(k, v)]
  | p :: r => if k = p.1 then (k, v) :: r else p :: putL k v r
theorem look_put (k : K) (v : V) (l : List (K × V)) (k' : K) : look k' (putL k v l) = if k' = k then some v else look k' l := by
  induction l with
  | nil => simp [putL, look]
  | cons p r ih =>
    unfold putL
    by_cases h : k = p.1
    · rw [if_pos h]
      simp only [look]
      by_cases h' : k' = k
      · simp [h']
      · rw [if_neg h', if_neg h', if_neg (fun e => h' (e.trans h.symm))]
    · rw [if_neg h]
      simp only [look, ih]
      by_cases h' : k' = p.1
      · rw [if_pos h', if_neg (fun e => h (e.symm.trans h')), if_pos h']
      · rw [if_neg h', if_neg h']

/-- Block `b` is a map with these entries. -/
def MapL (kE : K → Value) (vE : V → Value) (w : World) (b : Nat) (l : List (K × V)) : Prop :=
  ∃ es clock, w.heap[b]? = some (.map es clock) ∧ es.toList.map (·.key) = l.map (fun p => kE p.1) ∧ es.toList.map (·.val) = l.map (fun p => vE p.2)
/-- Block `b` is a map that gives `f`. -/
def MapF (kE : K → Value) (vE : V → Value) (w : World) (b : Nat) (f : K → Option V) : Prop := ∃ l, MapL kE vE w b l ∧ ∀ k, f k = look k l

variable {kE : K → Value} {vE : V → Value}

theorem MapF.kept {w w' : World} {b : Nat} {f : K → Option V} {S : List Nat} (h : MapF kE vE w b f) (ho : Only S w w') (hn : b ∉ S) : MapF kE vE w' b f := by
  obtain ⟨l, ⟨es, c, h1, h2, h3⟩, h4⟩ := h
  exact ⟨l, ⟨es, c, ho.got h1 hn, h2, h3⟩, h4⟩
theorem MapF.lt {w : World} {b : Nat} {f : K → Option V} (h : MapF kE vE w b f) : b < w.heap.size := by
  obtain ⟨l, ⟨es, c, h1, _⟩, _⟩ := h; exact got_lt h1
theorem mapF_new {w : World} {b : Nat} {c : Nat} (h : w.heap[b]? = some (.map #[] c)) : MapF kE vE w b (fun _ => none) := ⟨[], ⟨#[], c, h, rfl, rfl⟩, fun _ => rfl⟩

theorem findPos_look (k : K) : ∀ (l : List (K × V)) (es : List MapEntry) (i : Nat), es.map (·.val) = l.map (fun p => vE p.2) →
    (findPos k es (l.map (·.1)) i).map (·.2) = (look k l).map vE
  | [], es, i, _ => by cases es <;> simp [findPos, look]
  | p :: l, [], i, h => by simp at h
  | p :: l, e :: es, i, h => by
    simp only [List.map_cons, List.cons.injEq] at h
    simp only [List.map_cons, findPos, look]
    split
    · simp [h.1]
    · exact findPos_look k l es (i + 1) h.2

theorem findPos_none (k : K) : ∀ (l : List (K × V)) (es : List MapEntry) (i : Nat), es.length = l.length → findPos k es (l.map (·.1)) i = none → ∀ v, putL k v l = l ++ [(k, v)]
  | [], _, _, _, _, _ => rfl
  | p :: l, [], _, h, _, _ => by simp at h
  | p :: l, e :: es, i, h, hf, v => by
    simp only [List.map_cons, findPos] at hf
    split at hf
    · cases hf
    · rename_i hne
      rw [putL, if_neg hne, findPos_none k l es (i + 1) (by simpa using h) hf v, List.cons_append]
theorem findPos_some (k : K) : ∀ (l : List (K × V)) (es : List MapEntry) (i j : Nat) (x : Value), es.length = l.length → findPos k es (l.map (·.1)) i = some (j, x) →
    ∃ n, j = i + n ∧ n < l.length ∧ (∀ v, putL k v l = l.set n (k, v)) ∧ (l[n]?).map (·.1) = some k
  | [], [], _, _, _, _, hf => by simp [findPos] at hf
  | [], _ :: _, _, _, _, h, _ => by simp at h
  | p :: l, [], _, _, _, h, _ => by simp at h
  | p :: l, e :: es, i, j, x, h, hf => by
    simp only [List.map_cons, findPos] at hf
    split at hf
    · rename_i he
      simp only [Option.some.injEq, Prod.mk.injEq] at hf
      refine ⟨0, by omega, by simp, fun v => ?_, by simp [he]⟩
      rw [putL, if_pos he]; rfl
    · rename_i hne
      obtain ⟨n, h1, h2, h3, h4⟩ := findPos_some k l es (i + 1) j x (by simpa using h) hf
      refine ⟨n + 1, by omega, by simpa using h2, fun v => ?_, by simpa using h4⟩
      rw [putL, if_neg hne, h3 v]; rfl

theorem run_lookup_F {P : Program} {w : World} {t KT ET : TypeId} {b : Nat} {f : K → Option V} {z : Value} (O : KeyOK P KT kE) (ht : P.underlying t = some (.map KT ET)) (hz : (zeroValue ET).run P w = .ok z w)
    (h : MapF kE vE w b f) (k : K) (ok : Bool) :
    (Instr.lookup t (.map (some b)) (kE k) ok).run P w = .ok (if ok then .tuple #[((f k).map vE).getD z, .bool (f k).isSome] else ((f k).map vE).getD z) w := by
  obtain ⟨l, ⟨es, c, h1, h2, h3⟩, h4⟩ := h
  have hfind := O.find k es.toList (l.map (·.1)) w (by rw [h2, List.map_map]; rfl)
  have hl := findPos_look (vE := vE) k l es.toList 0 h3
  rw [← h4 k] at hl
  cases hp : findPos k es.toList (l.map (·.1)) 0 with
  | none =>
    rw [hp] at hfind hl
    have hn : f k = none := by
      cases hq : f k with
      | none => rfl
      | some v => rw [hq] at hl; simp at hl
    simp [Instr.lookup, run_underlying ht, MapKept.run_getObj_map h1, O.check, hfind, hz, hn, Result.andThen]
  | some q =>
    rw [hp] at hfind hl
    cases hq : f k with
    | none => rw [hq] at hl; simp at hl
    | some v =>
      rw [hq] at hl
      simp only [Option.map_some, Option.some.injEq] at hl
      obtain ⟨j, x⟩ := q
      simp only at hl
      subst hl
      simp [Instr.lookup, run_underlying ht, MapKept.run_getObj_map h1, O.check, hfind, Result.andThen]

theorem run_update_F {P : Program} {w : World} {t KT ET : TypeId} {b : Nat} {f : K → Option V} (O : KeyOK P KT kE) (ht : P.underlying t = some (.map KT ET)) (h : MapF kE vE w b f) (k : K) (v : V) :
    ∃ w', (Instr.mapUpdate t (.map (some b)) (kE k) (vE v)).run P w = .ok () w' ∧ MapF kE vE w' b (fun k' => if k' = k then some v else f k') ∧ Only [b] w w' ∧ w'.heap.size = w.heap.size := by
  obtain ⟨l, ⟨es, c, h1, h2, h3⟩, h4⟩ := h
  have hlen : es.toList.length = l.length := by have := congrArg List.length h2; simpa using this
  have hfind := O.find k es.toList (l.map (·.1)) w (by rw [h2, List.map_map]; rfl)
  have hset : ∀ o : Obj, Only [b] w { w with heap := w.heap.setIfInBounds b o } := fun o =>
    ⟨rfl, rfl, rfl, by simp, fun j _ hj => by
      simp only [List.mem_singleton] at hj
      simp [Ne.symm hj]⟩
  have hlt := got_lt h1
  have hf : ∀ k', (if k' = k then some v else f k') = look k' (putL k v l) := fun k' => by rw [look_put, h4 k']
  cases hp : findPos k es.toList (l.map (·.1)) 0 with
  | none =>
    rw [hp] at hfind
    refine ⟨_, by simp [Instr.mapUpdate, run_underlying ht, MapKept.run_getObj_map h1, O.check, hfind, MapKept.run_setObj_map _ h1, Result.andThen]; rfl, ⟨putL k v l, ⟨es.push ⟨kE k, vE v, c⟩, c + 1, by simp [hlt], ?_, ?_⟩, hf⟩, hset _, by simp⟩
    · rw [findPos_none k l es.toList 0 hlen hp v]; simp [h2]
    · rw [findPos_none k l es.toList 0 hlen hp v]; simp [h3]
  | some q =>
    obtain ⟨j, x⟩ := q
    rw [hp] at hfind
    obtain ⟨n, e1, e2, e3, e4⟩ := findPos_some k l es.toList 0 j x hlen hp
    have hjn : j = n := by omega
    subst hjn
    have hkey : (es[j]?).map (·.key) = some (kE k) := by
      have := congrArg (fun m => m[j]?) h2
      simp only [List.getElem?_map, Array.getElem?_toList] at this
      rw [this]
      cases hq : l[j]? with
      | none => rw [hq] at e4; cases e4
      | some p => rw [hq] at e4; simp at e4; simp [e4]
    have hstay : (Instr.keyThatStays (kE k) (kE k)).run P w = .ok (kE k) w := by simp [Instr.keyThatStays, O.bits]
    refine ⟨_, by simp [Instr.mapUpdate, run_underlying ht, MapKept.run_getObj_map h1, O.check, hfind, hkey, hstay, MapKept.run_setObj_map _ h1, Result.andThen]; rfl, ⟨putL k v l, ⟨es.modify j fun e => { e with key := kE k, val := vE v }, c, by simp [hlt], ?_, ?_⟩, hf⟩, hset _, by simp⟩
    · rw [e3 v]
      apply List.ext_getElem?
      intro i
      have := congrArg (fun m => m[i]?) h2
      simp only [List.getElem?_map, Array.getElem?_toList, Array.getElem?_modify, List.getElem?_set] at this ⊢
      by_cases hij : j = i
      · subst hij
        have hjl : j < es.size := by rw [← Array.length_toList, hlen]; exact e2
        simp [e2, hjl]
      · simp [hij, this]
    · rw [e3 v]
      apply List.ext_getElem?
      intro i
      have := congrArg (fun m => m[i]?) h3
      simp only [List.getElem?_map, Array.getElem?_toList, Array.getElem?_modify, List.getElem?_set] at this ⊢
      by_cases hij : j = i
      · subst hij
        have hjl : j < es.size := by rw [← Array.length_toList, hlen]; exact e2
        simp [e2, hjl]
      · simp [hij, this]

theorem wpList_lookup_F {P : Program} {w : World} {ops : Array Oper} {rest : List Oper} {o : Oper} {a : Act} {Q : Exit → Act → World → Prop} (hg : o.guard = none) (m x : Operand) (t : TypeId) (ok : Bool) (hop : o.op = Op.lookup t m x ok)
    (KT ET : TypeId) (O : KeyOK P KT kE) (ht : P.underlying t = some (.map KT ET)) (z : Value) (hz : (zeroValue ET).run P w = .ok z w) (b : Nat) (f : K → Option V) (hm : a.eval m = .map (some b)) (h : MapF kE vE w b f) (k : K) (hx : a.eval x = kE k)
    (hK : wpList P ops Q rest (a.put o.dst (if ok then .tuple #[((f k).map vE).getD z, .bool (f k).isSome] else ((f k).map vE).getD z)) w) : wpList P ops Q (o :: rest) a w := by
  refine wpList_plain hg fun K' hK' => ?_
  have hrun := run_lookup_F O ht hz h k ok
  unfold Oper.wp
  simp only [execOp, hop, hm, hx, Sem.run_bind, hrun, Result.andThen_ok, Sem.run_pure, Oper.upon_value]
  exact hK' _ _ hK

theorem wpList_update_F {P : Program} {w : World} {ops : Array Oper} {rest : List Oper} {o : Oper} {a : Act} {Q : Exit → Act → World → Prop} (hg : o.guard = none) (m x v : Operand) (t : TypeId) (hop : o.op = Op.mapUpdate t m x v)
    (KT ET : TypeId) (O : KeyOK P KT kE) (ht : P.underlying t = some (.map KT ET)) (b : Nat) (f : K → Option V) (hm : a.eval m = .map (some b)) (h : MapF kE vE w b f) (k : K) (hx : a.eval x = kE k) (u : V) (hv : a.eval v = vE u)
    (hK : ∀ w', MapF kE vE w' b (fun k' => if k' = k then some u else f k') → Only [b] w w' → w'.heap.size = w.heap.size → wpList P ops Q rest (a.put o.dst undef) w') : wpList P ops Q (o :: rest) a w := by
  refine wpList_plain hg fun K' hK' => ?_
  obtain ⟨w', hrun, h1, h2, h3⟩ := run_update_F O ht h k u
  unfold Oper.wp
  simp only [execOp, hop, hm, hx, hv, Sem.run_bind, hrun, Result.andThen_ok, Sem.run_pure, Oper.upon_skip]
  exact hK' _ _ (hK w' h1 h2 h3)

/-- keys that are ints -/
theorem key_int {P : Program} {KT : TypeId} {q : IntKind} (hk : P.underlying KT = some (.int q)) : KeyOK P KT (fun n : Int => Value.int q n) where
  check e k w := MapKept.run_checkKey hk (by simp [MapKept.IsKey]) e 9999
  find k es ks w h := by
    refine MapKept.run_findKey hk ?_
    have : ∀ (es : List MapEntry) (ks : List Int) (i : Nat), es.map (·.key) = ks.map (fun n : Int => Value.int q n) → Instr.findNow (.int q) (.int q k) es i = some (findPos k es ks i) := by
      intro es
      induction es with
      | nil => intro ks i _; cases ks <;> rfl
      | cons e es ih =>
        intro ks i h
        cases ks with
        | nil => simp at h
        | cons k' ks =>
          simp only [List.map_cons, List.cons.injEq] at h
          simp only [Instr.findNow, h.1, Instr.sameNow, if_true, findPos]
          by_cases hkk : k = k'
          · simp [hkk]
          · have : (k == k') = false := by simp [hkk]
            simp only [this, if_neg hkk]
            exact ih ks (i + 1) h.2
    exact this es ks 0 h
  bits k := by simp [Instr.sameBits]
/-- keys that are compared part by part -/
theorem key_wide {P : Program} {KT : TypeId} {kE : K → Value} (hwide : (match P.underlying KT with | some (.array _ _) | some (.struct _) => true | _ => false) = true)
    (hc : ∀ (e : Bool) (k : K) (w : World), (Instr.checkKey e 10000 KT (kE k)).run P w = .ok () w) (he : ∀ (k k' : K) (w : World), (Op.equal KT (kE k) (kE k')).run P w = .ok (decide (k = k')) w) (hb : ∀ k, Instr.sameBits 10000 (kE k) (kE k) = true) : KeyOK P KT kE where
  check := hc
  bits := hb
  find k es ks w h := by
    rw [run_findKey_eq w hwide]
    have : ∀ (es : List MapEntry) (ks : List K) (i : Nat), es.map (·.key) = ks.map kE → (Instr.findAsking KT (kE k) es i).run P w = .ok (findPos k es ks i) w := by
      intro es
      induction es with
      | nil => intro ks i _; cases ks <;> rfl
      | cons e es ih =>
        intro ks i h
        cases ks with
        | nil => simp at h
        | cons k' ks =>
          simp only [List.map_cons, List.cons.injEq] at h
          simp only [Instr.findAsking, Sem.run_bind, h.1, he, Result.andThen_ok, findPos]
          by_cases hkk : k = k'
          · simp [hkk]
          · simp only [hkk, decide_false, Bool.false_eq_true, if_false]
            exact ih ks (i + 1) h.2
    exact this es ks 0 h
end
end Go.Proofs.YtikjdmbfjkbndaaGreat
