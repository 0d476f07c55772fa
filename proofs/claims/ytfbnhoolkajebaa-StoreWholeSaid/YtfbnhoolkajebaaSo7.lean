/- Maps from texts to bytes: plain law and rules. Conditions: none beyond those that each theorem states. -/
import Derived.Test.YtfbnhoolkajebaaSo6
import Derived.Test.YtfbnhoolkajebaaFwY
import Derived.Maps.RangeRun
import Derived.Shelf.SlMaps.Clone
import Derived.Shelf.SortM.Plain
import Derived.Shelf.SortM.SortNone
import Derived.Shelf.SlIter.Nil
namespace Go.Proofs.Ytfbnhoolkajebaa
set_option linter.unusedVariables false
set_option linter.unusedSimpArgs false
open Go.ChangeShapes Go.WideShapes Go.ChangeAt Go.RowKit
/-! Keys, rising; values by keys as a list that rises. -/
abbrev KV := ByteArray × List (BitVec 8)
def kl (s : ByteArray) : List UInt8 := s.data.toList
theorem kl_inj {a b : ByteArray} (h : kl a = kl b) : a = b := by
  obtain ⟨⟨x⟩⟩ := a; obtain ⟨⟨y⟩⟩ := b; unfold kl at h; simp only at h; rw [h]
def klt (a b : ByteArray) : Bool := decide (kl a < kl b)
theorem klt_iff {a b : ByteArray} : klt a b = true ↔ kl a < kl b := by unfold klt; rw [decide_eq_true_eq]
theorem klt_ff {a b : ByteArray} : klt a b = false ↔ ¬ kl a < kl b := by unfold klt; rw [decide_eq_false_iff_not]
theorem klt_trans {a b c : ByteArray} (h : kl a < kl b) (k : kl b < kl c) : kl a < kl c := List.lt_trans h k
theorem klt_irrefl (a : ByteArray) : ¬ kl a < kl a := List.lt_irrefl _
theorem klt_of {a b : ByteArray} (h : ¬ kl a < kl b) (hn : a ≠ b) : kl b < kl a := by
  rcases List.le_iff_lt_or_eq.1 (List.not_lt.1 h) with h1 | h1
  · exact h1
  · exact absurd (kl_inj h1).symm hn
def lkA {β : Type} : List (ByteArray × β) → ByteArray → Option β
  | [], _ => none
  | (a, b) :: l, k => if k = a then some b else lkA l k
section
variable {β γ : Type}
theorem lkA_none : ∀ {l : List (ByteArray × β)} {k : ByteArray}, lkA l k = none ↔ k ∉ l.map (·.1)
  | [], k => by simp [lkA]
  | (a, b) :: l, k => by
    unfold lkA
    by_cases h : k = a
    · simp [h]
    · rw [if_neg h, lkA_none]; simp [h]
theorem lkA_mem : ∀ {l : List (ByteArray × β)} {k : ByteArray} {v : β}, lkA l k = some v → (k, v) ∈ l
  | (a, b) :: l, k, v, h => by
    unfold lkA at h
    by_cases hk : k = a
    · rw [if_pos hk] at h; cases h; subst hk; exact List.mem_cons_self
    · rw [if_neg hk] at h; exact List.mem_cons_of_mem _ (lkA_mem h)
theorem lkA_of_mem : ∀ {l : List (ByteArray × β)} {k : ByteArray} {v : β}, (l.map (·.1)).Nodup → (k, v) ∈ l → lkA l k = some v
  | (a, b) :: l, k, v, hn, h => by
    rw [List.map_cons, List.nodup_cons] at hn
    unfold lkA
    rcases List.mem_cons.1 h with h1 | h1
    · cases h1; rw [if_pos rfl]
    · rw [if_neg (fun e => hn.1 (List.mem_map.2 ⟨(k, v), h1, e⟩)), lkA_of_mem hn.2 h1]
theorem keys_same {l : List (ByteArray × β)} {m : List (ByteArray × γ)} (h : ∀ k, (lkA l k).isSome = (lkA m k).isSome) (k : ByteArray) : k ∈ l.map (·.1) ↔ k ∈ m.map (·.1) := by
  have := h k
  cases h1 : lkA l k with
  | none =>
    cases h2 : lkA m k with
    | none => exact iff_of_false (lkA_none.1 h1) (lkA_none.1 h2)
    | some b => rw [h1, h2] at this; cases this
  | some a =>
    cases h2 : lkA m k with
    | none => rw [h1, h2] at this; cases this
    | some b => exact iff_of_true (List.mem_map.2 ⟨_, lkA_mem h1, rfl⟩) (List.mem_map.2 ⟨_, lkA_mem h2, rfl⟩)
/-- It rises, each key once. -/
def SortK (S : List (ByteArray × β)) : Prop := S.Pairwise fun p q => kl p.1 < kl q.1
theorem SortK.nodup {S : List (ByteArray × β)} (h : SortK S) : (S.map (·.1)).Nodup := by
  rw [List.Nodup, List.pairwise_map]
  refine List.Pairwise.imp (R := fun (p q : ByteArray × β) => kl p.1 < kl q.1) ?_ h
  intro a b hab (e : a.1 = b.1)
  rw [e] at hab; exact klt_irrefl b.1 hab
end
def insK : List KV → ByteArray → List (BitVec 8) → List KV
  | [], k, v => [(k, v)]
  | (a, b) :: S, k, v => if klt a k then (a, b) :: insK S k v else if a = k then (k, v) :: S else (k, v) :: (a, b) :: S
def delK : List KV → ByteArray → List KV
  | [], _ => []
  | (a, b) :: S, k => if klt a k then (a, b) :: delK S k else if a = k then S else (a, b) :: S
theorem insK_mem : ∀ {S : List KV} {k : ByteArray} {v : List (BitVec 8)} {p : KV}, p ∈ insK S k v → p = (k, v) ∨ p ∈ S
  | [], k, v, p, h => by simpa [insK] using h
  | (a, b) :: S, k, v, p, h => by
    unfold insK at h
    split at h
    · rcases List.mem_cons.1 h with h | h
      · subst h; exact .inr List.mem_cons_self
      · rcases insK_mem h with h | h
        · exact .inl h
        · exact .inr (List.mem_cons_of_mem _ h)
    · split at h
      · rcases List.mem_cons.1 h with h | h
        · exact .inl h
        · exact .inr (List.mem_cons_of_mem _ h)
      · rcases List.mem_cons.1 h with h | h
        · exact .inl h
        · exact .inr h
theorem delK_mem : ∀ {S : List KV} {k : ByteArray} {p : KV}, p ∈ delK S k → p ∈ S
  | [], k, p, h => h
  | (a, b) :: S, k, p, h => by
    unfold delK at h
    split at h
    · rcases List.mem_cons.1 h with h | h
      · subst h; exact List.mem_cons_self
      · exact List.mem_cons_of_mem _ (delK_mem h)
    · split at h
      · exact List.mem_cons_of_mem _ h
      · exact h
theorem insK_sort : ∀ {S : List KV} {k : ByteArray} {v : List (BitVec 8)}, SortK S → SortK (insK S k v)
  | [], k, v, _ => List.pairwise_singleton _ _
  | (a, b) :: S, k, v, h => by
    obtain ⟨h1, h2⟩ := List.pairwise_cons.1 h
    unfold insK
    split
    · rename_i hlt
      refine List.pairwise_cons.2 ⟨fun p hp => ?_, insK_sort h2⟩
      rcases insK_mem hp with hp | hp
      · subst hp; exact klt_iff.1 hlt
      · exact h1 p hp
    · rename_i hlt
      have hlt := klt_ff.1 (Bool.eq_false_iff.2 hlt)
      split
      · rename_i he; subst he; exact List.pairwise_cons.2 ⟨h1, h2⟩
      · rename_i he
        have hk := klt_of hlt he
        refine List.pairwise_cons.2 ⟨fun p hp => ?_, h⟩
        rcases List.mem_cons.1 hp with hp | hp
        · subst hp; exact hk
        · exact klt_trans hk (h1 p hp)
theorem delK_sort : ∀ {S : List KV} {k : ByteArray}, SortK S → SortK (delK S k)
  | [], k, h => h
  | (a, b) :: S, k, h => by
    obtain ⟨h1, h2⟩ := List.pairwise_cons.1 h
    unfold delK
    split
    · exact List.pairwise_cons.2 ⟨fun p hp => h1 p (delK_mem hp), delK_sort h2⟩
    · split
      · exact h2
      · exact h
theorem lkA_big {β : Type} {S : List (ByteArray × β)} {k : ByteArray} (h : ∀ p ∈ S, kl k < kl p.1) : lkA S k = none := by
  rw [lkA_none]; intro hk
  obtain ⟨p, hp, rfl⟩ := List.mem_map.1 hk
  exact klt_irrefl _ (h p hp)
theorem lkA_ins : ∀ {S : List KV} {k j : ByteArray} {v : List (BitVec 8)}, SortK S → lkA (insK S k v) j = if j = k then some v else lkA S j
  | [], k, j, v, _ => by simp [insK, lkA]
  | (a, b) :: S, k, j, v, h => by
    obtain ⟨h1, h2⟩ := List.pairwise_cons.1 h
    unfold insK
    split
    · rename_i hlt
      simp only [lkA]; rw [lkA_ins h2]
      by_cases ha : j = a
      · subst ha; rw [if_pos rfl, if_pos rfl, if_neg (fun e => klt_irrefl _ (e ▸ klt_iff.1 hlt))]
      · rw [if_neg ha, if_neg ha]
    · split
      · rename_i he; subst he; simp only [lkA]; split <;> rfl
      · simp only [lkA]
theorem lkA_del : ∀ {S : List KV} {k j : ByteArray}, SortK S → lkA (delK S k) j = if j = k then none else lkA S j
  | [], k, j, _ => by simp [delK, lkA]
  | (a, b) :: S, k, j, h => by
    obtain ⟨h1, h2⟩ := List.pairwise_cons.1 h
    unfold delK
    split
    · rename_i hlt
      simp only [lkA]; rw [lkA_del h2]
      by_cases ha : j = a
      · subst ha; rw [if_pos rfl, if_pos rfl, if_neg (fun e => klt_irrefl _ (e ▸ klt_iff.1 hlt))]
      · rw [if_neg ha, if_neg ha]
    · rename_i hlt
      have hlt := klt_ff.1 (Bool.eq_false_iff.2 hlt)
      split
      · rename_i he; subst he
        simp only [lkA]
        by_cases ha : j = a
        · subst ha; rw [if_pos rfl, lkA_big h1]
        · rw [if_neg ha, if_neg ha]
      · rename_i he
        by_cases hj : j = k
        · subst hj
          rw [if_pos rfl]
          have hk := klt_of hlt he
          exact lkA_big fun p hp => by
            rcases List.mem_cons.1 hp with hp | hp
            · subst hp; exact hk
            · exact klt_trans hk (h1 p hp)
        · rw [if_neg hj]
theorem modify_at {α : Type} {f : α → α} : ∀ {l : List α} {j : Nat} {q : α}, l[j]? = some q → l.modify j f = l.set j (f q)
  | [], j, q, h => by simp at h
  | a :: l, 0, q, h => by simp at h; subst h; rfl
  | a :: l, j + 1, q, h => by simp only [List.modify_succ_cons, List.set_cons_succ]; rw [modify_at (by simpa using h)]
theorem erase_map {α β : Type} {f : α → β} : ∀ (l : List α) (j : Nat), (l.eraseIdx j).map f = (l.map f).eraseIdx j
  | [], j => by simp
  | a :: l, 0 => rfl
  | a :: l, j + 1 => by simp only [List.eraseIdx_cons_succ, List.map_cons]; rw [erase_map l j]
/-! A map from texts to slices of bytes. -/
structure MapS (o : Obj) (l : List (ByteArray × SlT)) : Prop where
  ex : ∃ (es : Array MapEntry) (c : Nat), o = .map es c ∧ es.toList.map (fun e => (e.key, e.val)) = l.map (fun p => (Value.string p.1, slv p.2)) ∧ (es.toList.map (·.born)).Nodup ∧ ∀ e ∈ es.toList, e.born < c
  nd : (l.map (·.1)).Nodup
def idxS : List (ByteArray × SlT) → ByteArray → Nat → Option (Nat × SlT)
  | [], _, _ => none
  | (a, b) :: l, k, i => if k = a then some (i, b) else idxS l k (i + 1)
theorem idxS_lk : ∀ (l : List (ByteArray × SlT)) (k : ByteArray) (i : Nat), (idxS l k i).map (·.2) = lkA l k
  | [], _, _ => rfl
  | (a, b) :: l, k, i => by
    unfold idxS lkA
    by_cases h : k = a
    · rw [if_pos h, if_pos h]; rfl
    · rw [if_neg h, if_neg h]; exact idxS_lk l k (i + 1)
theorem idxS_at : ∀ {l : List (ByteArray × SlT)} {k : ByteArray} {i j : Nat} {s : SlT}, idxS l k i = some (j, s) → i ≤ j ∧ l[j - i]? = some (k, s)
  | (a, b) :: l, k, i, j, s, h => by
    unfold idxS at h
    by_cases hk : k = a
    · rw [if_pos hk] at h; cases h; subst hk; exact ⟨Nat.le_refl _, by simp⟩
    · rw [if_neg hk] at h
      obtain ⟨h1, h2⟩ := idxS_at h
      refine ⟨by omega, ?_⟩
      rw [show j - i = (j - (i + 1)) + 1 by omega, List.getElem?_cons_succ]; exact h2
section
variable {P : Program} {fr : Nat → Value} {w : World} {ty T K V E : TypeId} {x y u : Operand} {R : Rest} {H Hs Hv : List (Nat × Obj)} {b : Nat} {l : List (ByteArray × SlT)} {o : Obj} {S : List KV} {k : ByteArray} {m0 m1 : Nat → Option Obj}
theorem find_str (hu : P.underlying K = some .string) {es : List MapEntry} (h : es.map (fun e => (e.key, e.val)) = l.map (fun p => (Value.string p.1, slv p.2))) : (Instr.findKey K (.string k) es).run P w = .ok ((idxS l k 0).map fun p => (p.1, slv p.2)) w := by
  have key : ∀ (es : List MapEntry) (l : List (ByteArray × SlT)) (i : Nat), es.map (fun e => (e.key, e.val)) = l.map (fun p => (Value.string p.1, slv p.2)) → Instr.findNow .string (.string k) es i = some ((idxS l k i).map fun p => (p.1, slv p.2)) := by
    intro es
    induction es with
    | nil => intro l i h; cases l with
      | nil => rfl
      | cons p l => simp at h
    | cons e es ih =>
      intro l i h
      match l, h with
      | (a, s) :: l, h =>
        simp only [List.map_cons, List.cons.injEq, Prod.mk.injEq] at h
        obtain ⟨⟨h1, h2⟩, h3⟩ := h
        unfold Instr.findNow
        rw [h1]
        have hs : Instr.sameNow .string (.string k) (.string a) = some (k == a) := rfl
        rw [hs]
        by_cases hk : k = a
        · subst hk
          rw [show (k == k) = true from (bytes_beq k k).2 rfl]
          simp [idxS, h2]
        · have : (k == a) = false := by rw [Bool.eq_false_iff]; intro e; exact hk ((bytes_beq k a).1 e)
          rw [this]; simp only [idxS, if_neg hk]; exact ih l (i + 1) h3
  simp [Instr.findKey, run_und hu, key es l 0 h]
theorem check_str (hu : P.underlying K = some .string) (e : Bool) : (Instr.checkKey e 10000 K (.string k)).run P w = .ok () w := by
  have : ∀ n, (Instr.checkKey e (n + 1) K (.string k)).run P w = .ok () w := fun n => by simp [Instr.checkKey, run_und hu]
  exact this 9999
theorem look_str (hT : P.underlying T = some (.map K V)) (hK : P.underlying K = some .string) {n kb : Nat} (hz : tinf P V = some (some (.slice none 0 0), n, kb)) (hb : w.heap[b]? = some o) (hM : MapS o l) (ok : Bool) :
    (Instr.lookup T (.map (some b)) (.string k) ok).run P w = .ok (if ok then .tuple #[slv ((lkA l k).getD sl0), bl (lkA l k).isSome] else slv ((lkA l k).getD sl0)) w := by
  obtain ⟨es, c, rfl, h2, _, _⟩ := hM.ex
  have hg : (getObj b).run P w = .ok (.map es c) w := by simp only [getObj, Sem.run, hb]
  have hi := idxS_lk l k 0
  simp only [Instr.lookup, Sem.run_bind, run_und hT, Result.andThen_ok, hg, Sem.run_pure, check_str hK, find_str hK h2]
  cases hx : idxS l k 0 with
  | none =>
    rw [hx] at hi; rw [← hi]
    simp [run_zeroValue hz, bl]
    try (cases ok <;> rfl)
  | some p =>
    rw [hx] at hi; rw [← hi]
    simp [bl]
    try (cases ok <;> rfl)
theorem MapS.put {s : SlT} (hM : MapS o l) : ∃ o', (match idxS l k 0 with | some p => MapS o' (l.set p.1 (k, s)) | none => MapS o' (l ++ [(k, s)])) ∧
    ∀ (u' : Value), u' = slv s → P.underlying T = some (.map K V) → P.underlying K = some .string → w.heap[b]? = some o → (Instr.mapUpdate T (.map (some b)) (.string k) u').run P w = .ok () { w with heap := w.heap.setIfInBounds b o' } := by
  obtain ⟨es, c, rfl, h2, h3, h4⟩ := hM.ex
  have hlen : es.toList.length = l.length := by have := congrArg List.length h2; simpa using this
  cases hx : idxS l k 0 with
  | none =>
    have hno : k ∉ l.map (·.1) := lkA_none.1 (by rw [← idxS_lk l k 0, hx]; rfl)
    refine ⟨.map (es.push { key := .string k, val := slv s, born := c }) (c + 1), ⟨⟨_, _, rfl, by simp [h2], ?_, ?_⟩, ?_⟩, ?_⟩
    · rw [Array.toList_push, List.map_append, List.nodup_append]
      refine ⟨h3, by simp, fun a ha b' hb' e => ?_⟩
      obtain ⟨q, hq, rfl⟩ := List.mem_map.1 ha
      have := h4 q hq
      simp at hb'; omega
    · intro e he
      rw [Array.toList_push] at he
      rcases List.mem_append.1 he with he | he
      · have := h4 e he; omega
      · simp at he; subst he; show c < c + 1; omega
    · rw [List.map_append, List.nodup_append]
      refine ⟨hM.nd, by simp, fun a ha b' hb' e => ?_⟩
      simp at hb'; subst hb'; subst e; exact hno ha
    · rintro u' rfl hT hK hb
      have hg : (getObj b).run P w = .ok (.map es c) w := by simp only [getObj, Sem.run, hb]
      have hs : ∀ o', (setObj b o').run P w = .ok () { w with heap := w.heap.setIfInBounds b o' } := fun o' => by simp only [setObj, Sem.run, hb]
      simp only [Instr.mapUpdate, Sem.run_bind, run_und hT, Result.andThen_ok, hg, check_str hK, find_str hK h2, hx, Option.map_none, hs]
  | some p =>
    obtain ⟨j, s0⟩ := p
    obtain ⟨_, hj⟩ := idxS_at hx
    rw [Nat.sub_zero] at hj
    have hjl : j < es.toList.length := by rw [hlen]; exact (List.getElem?_eq_some_iff.1 hj).1
    have hkey : (es[j]?).map (·.key) = some (.string k) := by
      have e1 := congrArg (fun q : List (Value × Value) => (q[j]?).map (·.1)) h2
      simp only [List.getElem?_map, hj, Option.map_some, Array.getElem?_toList, Option.map_map] at e1
      exact e1
    refine ⟨.map (es.modify j fun e => { e with key := .string k, val := slv s }) c, ⟨⟨_, _, rfl, ?_, ?_, ?_⟩, ?_⟩, ?_⟩
    · show ((es.modify j fun e => { e with key := .string k, val := slv s }).toList).map (fun e => (e.key, e.val)) = (l.set j (k, s)).map (fun p => (Value.string p.1, slv p.2))
      obtain ⟨q, hq⟩ : ∃ q, es.toList[j]? = some q := ⟨_, List.getElem?_eq_getElem hjl⟩
      rw [Array.toList_modify, List.map_set, ← h2, modify_at hq, List.map_set]
    · rw [Array.toList_modify]
      have : (es.toList.modify j fun e => { e with key := .string k, val := slv s }).map (·.born) = es.toList.map (·.born) := by
        obtain ⟨q, hq⟩ : ∃ q, es.toList[j]? = some q := ⟨_, List.getElem?_eq_getElem hjl⟩
        rw [modify_at hq, List.map_set]
        refine List.ext_getElem? fun i => ?_
        rw [List.getElem?_set]
        by_cases hi : j = i
        · subst hi
          rw [if_pos rfl, List.getElem?_map, hq, if_pos (by simpa using hjl)]; rfl
        · rw [if_neg hi]
      rw [this]; exact h3
    · intro e he
      obtain ⟨q, hq⟩ : ∃ q, es.toList[j]? = some q := ⟨_, List.getElem?_eq_getElem hjl⟩
      rw [Array.toList_modify, modify_at hq] at he
      rcases List.mem_or_eq_of_mem_set he with he | he
      · exact h4 e he
      · subst he; exact h4 q (List.mem_of_getElem? hq)
    · show ((l.set j (k, s)).map (·.1)).Nodup
      rw [List.map_set]
      have : (l.map (·.1)).set j k = l.map (·.1) := by
        refine List.ext_getElem? fun i => ?_
        rw [List.getElem?_set]
        by_cases hi : j = i
        · subst hi; rw [if_pos rfl, List.getElem?_map, hj, if_pos (by rw [List.length_map]; omega)]; rfl
        · rw [if_neg hi]
      rw [this]; exact hM.nd
    · rintro u' rfl hT hK hb
      have hg : (getObj b).run P w = .ok (.map es c) w := by simp only [getObj, Sem.run, hb]
      have hs : ∀ o', (setObj b o').run P w = .ok () { w with heap := w.heap.setIfInBounds b o' } := fun o' => by simp only [setObj, Sem.run, hb]
      have hsb : Instr.sameBits 10000 (.string k) (.string k) = true := by
        show Instr.sameBits (9999 + 1) (.string k) (.string k) = true
        simp [Instr.sameBits, bytes_beq]
      simp only [Instr.mapUpdate, Sem.run_bind, run_und hT, Result.andThen_ok, hg, check_str hK, find_str hK h2, hx, Option.map_some, hkey, Option.getD_some, Instr.keyThatStays, hsb, if_true, Sem.run_pure, hs]
theorem MapS.del (hM : MapS o l) : ∃ o', (match idxS l k 0 with | some p => MapS o' (l.eraseIdx p.1) | none => MapS o' l) ∧
    ∀ {t : TypeId}, P.underlying T = some (.map K V) → P.underlying K = some .string → w.heap[b]? = some o → (Builtin.delete_ #[T, K] t #[.map (some b), .string k]).run P w = .ok (.tuple #[]) { w with heap := w.heap.setIfInBounds b o' } := by
  obtain ⟨es, c, rfl, h2, h3, h4⟩ := hM.ex
  have hlen : es.toList.length = l.length := by have := congrArg List.length h2; simpa using this
  cases hx : idxS l k 0 with
  | none =>
    refine ⟨.map es c, hM, ?_⟩
    intro t hT hK hb
    have hg : (getObj b).run P w = .ok (.map es c) w := by simp only [getObj, Sem.run, hb]
    have hs : ∀ o', (setObj b o').run P w = .ok () { w with heap := w.heap.setIfInBounds b o' } := fun o' => by simp only [setObj, Sem.run, hb]
    simp only [Builtin.delete_, List.getElem?_toArray, List.getElem?_cons_zero, List.getElem?_cons_succ, Sem.run_bind, run_und hT, Result.andThen_ok, hg, check_str hK, find_str hK h2, hx, Option.map_none, hs, Sem.run_pure]
  | some p =>
    obtain ⟨j, s0⟩ := p
    obtain ⟨_, hj⟩ := idxS_at hx
    rw [Nat.sub_zero] at hj
    have hjl : j < es.size := by have := (List.getElem?_eq_some_iff.1 hj).1; rw [← hlen] at this; simpa using this
    refine ⟨.map (es.eraseIdxIfInBounds j) c, ⟨⟨_, _, rfl, ?_, ?_, ?_⟩, ?_⟩, ?_⟩
    · rw [Array.toList_eraseIdxIfInBounds, erase_map, h2, erase_map]
    · rw [Array.toList_eraseIdxIfInBounds, erase_map]; exact h3.sublist (List.eraseIdx_sublist _ _)
    · intro e he; rw [Array.toList_eraseIdxIfInBounds] at he; exact h4 e ((List.eraseIdx_sublist _ _).subset he)
    · show ((l.eraseIdx j).map (·.1)).Nodup
      rw [erase_map]; exact hM.nd.sublist (List.eraseIdx_sublist _ _)
    · intro t hT hK hb
      have hg : (getObj b).run P w = .ok (.map es c) w := by simp only [getObj, Sem.run, hb]
      have hs : ∀ o', (setObj b o').run P w = .ok () { w with heap := w.heap.setIfInBounds b o' } := fun o' => by simp only [setObj, Sem.run, hb]
      simp only [Builtin.delete_, List.getElem?_toArray, List.getElem?_cons_zero, List.getElem?_cons_succ, Sem.run_bind, run_und hT, Result.andThen_ok, hg, check_str hK, find_str hK h2, hx, Option.map_some, hs, Sem.run_pure]
theorem lkA_app {l : List (ByteArray × SlT)} {k j : ByteArray} {s : SlT} (h : lkA l k = none) : lkA (l ++ [(k, s)]) j = if j = k then some s else lkA l j := by
  induction l with
  | nil => simp [lkA]
  | cons p l ih =>
    obtain ⟨a, b⟩ := p
    unfold lkA at h
    by_cases ha : k = a
    · rw [if_pos ha] at h; cases h
    · rw [if_neg ha] at h
      simp only [List.cons_append, lkA]
      rw [ih h]
      by_cases hj : j = a
      · subst hj; rw [if_pos rfl, if_pos rfl, if_neg (fun e => ha e.symm)]
      · rw [if_neg hj, if_neg hj]
theorem lkA_set {l : List (ByteArray × SlT)} {k j : ByteArray} {s s0 : SlT} {i n : Nat} (h : idxS l k n = some (i, s0)) : lkA (l.set (i - n) (k, s)) j = if j = k then some s else lkA l j := by
  induction l generalizing n with
  | nil => simp [idxS] at h
  | cons p l ih =>
    obtain ⟨a, b⟩ := p
    unfold idxS at h
    by_cases ha : k = a
    · rw [if_pos ha] at h; cases h; subst ha; rw [Nat.sub_self]
      simp only [List.set_cons_zero, lkA]; split <;> rfl
    · rw [if_neg ha] at h
      have h1 := (idxS_at h).1
      rw [show i - n = (i - (n + 1)) + 1 by omega, List.set_cons_succ]
      simp only [lkA]; rw [ih h]
      by_cases hj : j = a
      · subst hj; rw [if_pos rfl, if_pos rfl, if_neg (fun e => ha e.symm)]
      · rw [if_neg hj, if_neg hj]
theorem lkA_erase {l : List (ByteArray × SlT)} {k j : ByteArray} {s0 : SlT} {i n : Nat} (hn : (l.map (·.1)).Nodup) (h : idxS l k n = some (i, s0)) : lkA (l.eraseIdx (i - n)) j = if j = k then none else lkA l j := by
  induction l generalizing n with
  | nil => simp [idxS] at h
  | cons p l ih =>
    obtain ⟨a, b⟩ := p
    rw [List.map_cons, List.nodup_cons] at hn
    unfold idxS at h
    by_cases ha : k = a
    · rw [if_pos ha] at h; cases h; subst ha; rw [Nat.sub_self]
      simp only [List.eraseIdx_cons_zero, lkA]
      by_cases hj : j = k
      · subst hj; rw [if_pos rfl, lkA_none]; exact hn.1
      · rw [if_neg hj, if_neg hj]
    · rw [if_neg ha] at h
      have h1 := (idxS_at h).1
      rw [show i - n = (i - (n + 1)) + 1 by omega, List.eraseIdx_cons_succ]
      simp only [lkA]; rw [ih hn.2 h]
      by_cases hj : j = a
      · subst hj; rw [if_pos rfl, if_pos rfl, if_neg (fun e => ha e.symm)]
      · rw [if_neg hj, if_neg hj]
/-- A map with the blocks of its values; these may stand in m0's, too. -/
def MapG (m0 : Nat → Option Obj) (b : Nat) (S : List KV) (Hs : List (Nat × Obj)) : Prop :=
  ∃ o He l, Hs = (b, o) :: He ∧ MapS o l ∧ (∀ p ∈ l, ∀ m : Nat → Option Obj, (∀ q ∈ He, m q.1 = some q.2) → (∀ b o, m0 b = some o → m b = some o) → Rd m u8 (slv p.2) p.2.2) ∧ SortK S ∧ ∀ k, (lkA l k).map (·.2) = lkA S k
theorem MapG.sort (h : MapG m0 b S Hs) : SortK S := by obtain ⟨_, _, _, _, _, _, h, _⟩ := h; exact h
theorem MapG.mono (h : MapG m0 b S Hs) (hm : ∀ b o, m0 b = some o → m1 b = some o) : MapG m1 b S Hs := by
  obtain ⟨o, He, l, h1, h2, h3, h4, h5⟩ := h
  exact ⟨o, He, l, h1, h2, fun p hp m q1 q2 => h3 p hp m q1 fun b o e => q2 b o (hm b o e), h4, h5⟩
theorem MapG.more (h : MapG m0 b S Hs) (Hv : List (Nat × Obj)) : MapG m0 b S (Hs ++ Hv) := by
  obtain ⟨o, He, l, h1, h2, h3, h4, h5⟩ := h
  exact ⟨o, He ++ Hv, l, by rw [h1]; rfl, h2, fun p hp m q1 q2 => h3 p hp m (fun q hq => q1 q (List.mem_append_left _ hq)) q2, h4, h5⟩
theorem or_makeMapG (hm : Mem w R H) : OpR P fr w (.makeMap T none) ty (fun v w' => ∃ b Hs, v = .map (some b) ∧ Ext w w' ∧ Mem w' R (Hs ++ H) ∧ MapG mN b [] Hs) := by
  refine .inl ⟨.map (some w.heap.size), { w with heap := w.heap.push (.map #[] 0) }, ?_, w.heap.size, [(w.heap.size, .map #[] 0)], rfl, Ext.alloc w _, hm.alloc _, .map #[] 0, [], [], rfl, ⟨⟨#[], 0, rfl, rfl, by simp, by simp⟩, by simp⟩, by simp, List.Pairwise.nil, fun _ => rfl⟩
  unfold xop
  show Sem.run P (do let v ← Instr.makeMap T none; pure (Next.value v)) w = _
  simp [Instr.makeMap]
theorem MapG.lk (h : MapG m0 b S Hs) (hm : Mem w R (Hs ++ H)) (h0 : ∀ b o, m0 b = some o → w.heap[b]? = some o) (k : ByteArray) (ok : Bool) (hT : P.underlying T = some (.map K V)) (hK : P.underlying K = some .string) {n kb : Nat} (hz : tinf P V = some (some (.slice none 0 0), n, kb)) :
    ∃ s : SlT, (Instr.lookup T (.map (some b)) (.string k) ok).run P w = .ok (if ok then .tuple #[slv s, bl (lkA S k).isSome] else slv s) w ∧ s.2 = (lkA S k).getD [] ∧ Rd (blks w) u8 (slv s) s.2 := by
  obtain ⟨o, He, l, rfl, h2, h3, h4, h5⟩ := h
  have hb : w.heap[b]? = some o := hm.own (b, o) (by simp)
  refine ⟨(lkA l k).getD sl0, ?_, ?_, ?_⟩
  · rw [look_str hT hK hz hb h2 ok, ← h5 k, Option.isSome_map]
  · rw [← h5 k]; cases lkA l k <;> rfl
  · cases hx : lkA l k with
    | none => exact Rd.nil _ _
    | some s => exact h3 (k, s) (lkA_mem hx) _ (fun q hq => hm.own q (by simp [hq])) h0
theorem or_mapUpdateG {v : Value} {lv : List (BitVec 8)} (h : MapG m0 b S Hs) (g : Grow u8 E v lv Hv) (hm : Mem w R (Hs ++ (Hv ++ H))) (hT : P.underlying T = some (.map K V)) (hK : P.underlying K = some .string)
    (hx : evalF fr x = .map (some b)) (hy : evalF fr y = .string k) (hv : evalF fr u = v) : OpR P fr w (.mapUpdate T x y u) ty (fun _ w' => ∃ Hs', MapG m0 b (insK S k lv) Hs' ∧ Mem w' R (Hs' ++ H)) := by
  obtain ⟨o, He, l, rfl, h2, h3, h4, h5⟩ := h
  have hb : w.heap[b]? = some o := hm.own (b, o) (by simp)
  obtain ⟨o', hM, hr⟩ := h2.put (P := P) (w := w) (b := b) (T := T) (K := K) (V := V) (k := k) (s := toSl v lv)
  have hr := hr v (g.toSl lv).symm hT hK hb
  have hmem : Mem { w with heap := w.heap.setIfInBounds b o' } R (((b, o') :: (He ++ Hv)) ++ H) := by
    have := Mem.upd0 (H := He ++ (Hv ++ H)) (by simpa using hm) (Upd.put o' hb)
    simpa using this
  refine .inr (.inl ⟨_, ?_, (b, o') :: (He ++ Hv), ⟨o', He ++ Hv, match idxS l k 0 with | some p => l.set p.1 (k, toSl v lv) | none => l ++ [(k, toSl v lv)], rfl, ?_, ?_, insK_sort h4, ?_⟩, hmem⟩)
  · unfold xop
    show Sem.run P (do Instr.mapUpdate T (evalF fr x) (evalF fr y) (evalF fr u); pure Next.skip) w = _
    rw [hx, hy, hv]
    simp [Sem.run_bind, hr]
  · cases hi : idxS l k 0 with
    | none => rw [hi] at hM; exact hM
    | some p => rw [hi] at hM; exact hM
  · intro p hp m q1 q2
    have hnew : p = (k, toSl v lv) ∨ p ∈ l := by
      cases hi : idxS l k 0 with
      | none => rw [hi] at hp; rcases List.mem_append.1 hp with hp | hp
                · exact .inr hp
                · exact .inl (by simpa using hp)
      | some q => rw [hi] at hp; exact (List.mem_or_eq_of_mem_set hp).symm
    rcases hnew with rfl | hp
    · show Rd m u8 (slv (toSl v lv)) (toSl v lv).2
      rw [g.toSl, toSl_snd]
      exact g.rdIn fun q hq => q1 q (List.mem_append_right _ hq)
    · exact h3 p hp m (fun q hq => q1 q (List.mem_append_left _ hq)) q2
  · intro j
    rw [lkA_ins h4, ← h5 j]
    have hi2 := idxS_lk l k 0
    cases hi : idxS l k 0 with
    | none =>
      rw [hi] at hi2
      show (lkA (l ++ [(k, toSl v lv)]) j).map (·.2) = _
      rw [lkA_app hi2.symm]; split <;> simp [toSl_snd]
    | some q =>
      obtain ⟨i, s0⟩ := q
      show (lkA (l.set i (k, toSl v lv)) j).map (·.2) = _
      have := lkA_set (s := toSl v lv) (j := j) hi
      rw [Nat.sub_zero] at this
      rw [this]; split <;> simp [toSl_snd]
theorem or_deleteG (h : MapG m0 b S Hs) (hm : Mem w R (Hs ++ H)) (hT : P.underlying T = some (.map K V)) (hK : P.underlying K = some .string)
    (hx : evalF fr x = .map (some b)) (hy : evalF fr y = .string k) : OpR P fr w (.call ⟨.builtin .delete, #[x, y], #[T, K]⟩) ty (fun v w' => v = .tuple #[] ∧ ∃ Hs', MapG m0 b (delK S k) Hs' ∧ Mem w' R (Hs' ++ H)) := by
  obtain ⟨o, He, l, rfl, h2, h3, h4, h5⟩ := h
  have hb : w.heap[b]? = some o := hm.own (b, o) (by simp)
  obtain ⟨o', hM, hr⟩ := h2.del (P := P) (w := w) (b := b) (T := T) (K := K) (V := V) (k := k)
  have hr := fun t => hr (t := t) hT hK hb
  have hmem : Mem { w with heap := w.heap.setIfInBounds b o' } R (((b, o') :: He) ++ H) := Mem.upd0 (H := He ++ H) (by simpa using hm) (Upd.put o' hb)
  refine .inl ⟨.tuple #[], _, ?_, rfl, (b, o') :: He, ⟨o', He, match idxS l k 0 with | some p => l.eraseIdx p.1 | none => l, rfl, ?_, ?_, delK_sort h4, ?_⟩, hmem⟩
  · have he : xop (evalF fr) (.call ⟨.builtin .delete, #[x, y], #[T, K]⟩) ty = (do let d ← resolve (evalF fr) ⟨.builtin .delete, #[x, y], #[T, K]⟩ ty; invoke d.target d.args) := rfl
    rw [he]
    simp [resolve, hx, hy, invoke, builtin, hr]
  · cases hi : idxS l k 0 with
    | none => rw [hi] at hM; exact hM
    | some p => rw [hi] at hM; exact hM
  · intro p hp m q1 q2
    refine h3 p ?_ m q1 q2
    cases hi : idxS l k 0 with
    | none => rw [hi] at hp; exact hp
    | some q => rw [hi] at hp; exact (List.eraseIdx_sublist _ _).subset hp
  · intro j
    rw [lkA_del h4, ← h5 j]
    have hi2 := idxS_lk l k 0
    cases hi : idxS l k 0 with
    | none =>
      rw [hi] at hi2
      show (lkA l j).map (·.2) = _
      split
      · rename_i e; subst e; rw [← hi2]; rfl
      · rfl
    | some q =>
      obtain ⟨i, s0⟩ := q
      show (lkA (l.eraseIdx i) j).map (·.2) = _
      have := lkA_erase (j := j) h2.nd hi
      rw [Nat.sub_zero] at this
      rw [this]; split <;> rfl
end


end Go.Proofs.Ytfbnhoolkajebaa
