/- The framework, part Y: slices of structs among the arguments; maps from keys to truth values. Conditions: none. -/
import Derived.Test.YtkmiemlpfkfiiaaDoorFwL
import Derived.Test.YtkmiemlpfkfiiaaDoorFwV
import Derived.WideKeyRuns
namespace Go.Proofs.YtkmiemlpfkfiiaaDoor
open Go.ChangeShapes Go.WideShapes Go.ChangeAt Go.RowKit
set_option linter.unusedVariables false
set_option linter.unusedSimpArgs false
set_option linter.unusedSectionVars false
section
variable {P : Program} {t e : TypeId} {α : Type} {enc : α → List Value} {k : Nat} {q : World → α → Prop}
theorem Qel {β γ : Type} {n : Nat} {p : Nat → β → Prop} (h : ∀ i, i < n → ∃ b, p i b) : ∃ l : List β, l.length = n ∧ ∀ i (hi : i < l.length), p i l[i] := by
  induction n with
  | zero => exact ⟨[], rfl, fun i h => by simp at h⟩
  | succ n ih =>
    obtain ⟨l, h1, h2⟩ := ih fun i hi => h i (by omega)
    obtain ⟨b, hb⟩ := h n (by omega)
    refine ⟨l ++ [b], by simp [h1], fun i hi => ?_⟩
    by_cases hl : i < l.length
    · rw [List.getElem_append_left hl]; exact h2 i hl
    · have : i = n := by simp at hi; omega
      subst this
      rw [List.getElem_append_right (by omega)]
      simpa [h1] using hb
theorem Qhf (hk : Nat.blt 0 k = true) (hu : P.underlying t = some (.slice e)) (hc : P.cellsOf e = k) (he : Opens P e (fun w cs => ∃ a, cs = enc a ∧ (enc a).length = k ∧ q w a)) :
    Opens P t (fun w cs => ∃ (v : Value) (l : List α), cs = [v] ∧ RdK (Y3 w) enc k v l ∧ (∀ a ∈ l, q w a) ∧ l.length ≤ 9223372036854775807) := by
  have hk' : 0 < k := Nat.le_of_ble_eq_true hk
  refine ⟨fun H en w fuel cs x h => ?_⟩
  rcases DataW.trod_slice hu h with ⟨rfl, _⟩ | ⟨a, len, cap, elems, rest, m, _, rfl, _, _, hl, hm, hlen, hel, _, _⟩
  · exact ⟨_, [], rfl, RdK.nil _ _, by simp, by simp⟩
  · rw [hc] at hel
    obtain ⟨l, hll, hp⟩ := Qel (γ := Unit) (n := len) (p := fun i b => (∀ j, j < k → w.cell? ((a.add (i * k)).add j) = (enc b)[j]?) ∧ (enc b).length = k ∧ q w b) (by
      intro i hi
      have h1 := hel i hi
      rw [List.getElem?_eq_getElem (by omega)] at h1
      obtain ⟨cs', h2, h3⟩ := Option.bind_eq_some_iff.1 h1
      obtain ⟨b, rfl, hb, hq⟩ := he.is H en w m _ _ h3
      obtain ⟨_, _, h6⟩ := World.cells?_some h2
      exact ⟨b, h6, hb, hq⟩)
    subst hll
    have hmem : ∀ b ∈ l, (enc b).length = k ∧ q w b := by
      intro b hb
      obtain ⟨i, hi, rfl⟩ := List.mem_iff_getElem.1 hb
      exact (hp i hi).2
    refine ⟨_, l, rfl, ⟨fun b hb => (hmem b hb).1, some a, cap, rfl, hl, fun i hi => ?_⟩, fun b hb => (hmem b hb).2, by unfold maxLen at hm; omega⟩
    obtain ⟨b, off, sp⟩ := a
    have h0 := (hp 0 (by omega)).1 0 hk'
    have hx0 : 0 < (enc l[0]).length := by rw [(hp 0 (by omega)).2.1]; exact hk'
    have ea : ((Addr.mk b off sp).add (0 * k)).add 0 = ⟨b, off, sp⟩ := by simp [Addr.add]
    rw [ea, List.getElem?_eq_getElem hx0] at h0
    obtain ⟨hs0, _⟩ := Ac h0
    simp only at hs0
    subst hs0
    have hxi : 0 < (enc l[i]).length := by rw [(hp i hi).2.1]; exact hk'
    have h2 := (hp i hi).1 0 hk'
    rw [Jl, Jl, List.getElem?_eq_getElem hxi] at h2
    obtain ⟨_, c, E, fz, hb, _⟩ := Ac h2
    refine ⟨b, off, c, E, fz, rfl, hb, fun j hj => ?_⟩
    have h3 := (hp i hi).1 j hj
    rw [Jl, Jl] at h3
    have hjl : j < (enc l[i]).length := by rw [(hp i hi).2.1]; exact hj
    rw [List.getElem?_eq_getElem hjl] at h3 ⊢
    obtain ⟨_, c', E', fz', hb', hc'⟩ := Ac h3
    simp only at hb hb' hc'
    rw [hb] at hb'
    cases hb'
    rw [← Nat.add_assoc]; exact hc'
variable {f0 f1 f2 f3 f4 f5 : Field} {Q0 Q1 Q2 Q3 Q4 Q5 : World → Value → Prop}
end
section
variable {α : Type} [DecidableEq α]
def lkB : List (α × Bool) → α → Bool
  | [], _ => false
  | (a, b) :: l, k => if k = a then b else lkB l k
def insB : List (α × Bool) → α → Bool → List (α × Bool)
  | [], k, v => [(k, v)]
  | (a, b) :: l, k, v => if k = a then (a, v) :: l else (a, b) :: insB l k v
def Qa5 : List (α × Bool) → α → Nat → Option (Nat × Bool)
  | [], _, _ => none
  | (a, b) :: l, k, i => if k = a then some (i, b) else Qa5 l k (i + 1)
theorem Qfd : ∀ (l : List (α × Bool)) (k j : α) (v : Bool), lkB (insB l k v) j = if j = k then v else lkB l j
  | [], k, j, v => by simp [insB, lkB]
  | (a, b) :: l, k, j, v => by
    unfold insB
    by_cases h : k = a
    · subst h; rw [if_pos rfl]; simp only [lkB]; split <;> rfl
    · rw [if_neg h]; simp only [lkB]
      by_cases hj : j = a
      · subst hj; rw [if_pos rfl, if_neg (fun e => h e.symm), if_pos rfl]
      · rw [if_neg hj, if_neg hj]; exact Qfd l k j v
theorem Qgv : ∀ (l : List (α × Bool)) (k : α) (i : Nat), (match Qa5 l k i with | some p => p.2 | none => false) = lkB l k
  | [], _, _ => rfl
  | (a, b) :: l, k, i => by
    unfold Qa5 lkB
    by_cases h : k = a
    · rw [if_pos h, if_pos h]
    · rw [if_neg h, if_neg h]; exact Qgv l k (i + 1)
structure Ents (kf : α → Value) (es : List MapEntry) (l : List (α × Bool)) : Prop where
  is : es.map (fun e => (e.key, e.val)) = l.map fun p => (kf p.1, bl p.2)
structure KeyOk (P : Program) (K : TypeId) (kf : α → Value) : Prop where
  check : ∀ (e : Bool) (k : α) (w : World), (Instr.checkKey e 10000 K (kf k)).run P w = .ok () w
  find : ∀ (k : α) (w : World) (es : List MapEntry) (l : List (α × Bool)), Ents kf es l → (Instr.findKey K (kf k) es).run P w = .ok ((Qa5 l k 0).map fun p => (p.1, bl p.2)) w
  same : ∀ k : α, Instr.sameBits 10000 (kf k) (kf k) = true
theorem Ents.cons_inv {kf : α → Value} {e : MapEntry} {es : List MapEntry} {l : List (α × Bool)} (h : Ents kf (e :: es) l) : ∃ a b l', l = (a, b) :: l' ∧ e.key = kf a ∧ e.val = bl b ∧ Ents kf es l' := by
  match l, h.is with
  | (a, b) :: l', h => simp at h; exact ⟨a, b, l', rfl, h.1.1, h.1.2, ⟨by simpa using h.2⟩⟩
theorem Ents.nil_inv {kf : α → Value} {l : List (α × Bool)} (h : Ents kf [] l) : l = [] := by
  have := congrArg List.length h.is; simpa using this.symm
theorem Ents.put {kf : α → Value} : ∀ {es : List MapEntry} {l : List (α × Bool)} (k : α) (v : Bool) (i : Nat) (c : Nat), Ents kf es l →
    match Qa5 l k i with
    | some p => i ≤ p.1 ∧ ((es[p.1 - i]?).map (·.key)).getD (kf k) = kf k ∧ Ents kf (es.modify (p.1 - i) fun e => { e with key := kf k, val := bl v }) (insB l k v)
    | none => Ents kf (es ++ [{ key := kf k, val := bl v, born := c }]) (insB l k v)
  | [], l, k, v, i, c, h => by
    obtain rfl := h.nil_inv
    exact ⟨rfl⟩
  | e :: es, l, k, v, i, c, h => by
    obtain ⟨a, b, l', rfl, h1, h2, h3⟩ := h.cons_inv
    unfold Qa5 insB
    by_cases hk : k = a
    · subst hk
      rw [if_pos rfl, if_pos rfl]
      refine ⟨Nat.le_refl _, by simp [h1], ⟨?_⟩⟩
      rw [Nat.sub_self]
      simp [h3.is]
    · rw [if_neg hk, if_neg hk]
      have ih := Ents.put (kf := kf) k v (i + 1) c h3
      cases hx : Qa5 l' k (i + 1) with
      | none => rw [hx] at ih; simp only at ih ⊢; exact ⟨by simp [h1, h2, ih.is]⟩
      | some p =>
        rw [hx] at ih
        obtain ⟨h4, h5, h6⟩ := ih
        obtain ⟨j, hj⟩ : ∃ j, p.1 - i = j + 1 := ⟨p.1 - i - 1, by omega⟩
        have hj' : p.1 - (i + 1) = j := by omega
        simp only
        rw [hj'] at h5 h6
        refine ⟨by omega, ?_, ?_⟩
        · rw [hj]; simpa using h5
        · rw [hj]; exact ⟨by simp [h1, h2, h6.is]⟩
end
section
variable {P : Program} {fr : Nat → Value} {w : World} {ty T K V E : TypeId} {x y u : Operand} {R : Rest} {H : List (Nat × Obj)} {α : Type} [DecidableEq α] {kf : α → Value} {b : Nat} {es : Array MapEntry} {c : Nat} {l : List (α × Bool)}
def two (p : ByteArray × ByteArray) : Value := .agg #[.string p.1, .string p.2]
theorem Upd.put {w : World} {b : Nat} {o : Obj} (o' : Obj) (hb : w.heap[b]? = some o) : Upd w b o' { w with heap := w.heap.setIfInBounds b o' } := by
  refine ⟨rfl, rfl, rfl, fun k => ?_⟩
  obtain ⟨hlt, _⟩ := Array.getElem?_eq_some_iff.1 hb
  simp only [Array.getElem?_setIfInBounds]
  by_cases h : k = b
  · subst h; simp [hlt]
  · rw [if_neg h, if_neg (fun e => h e.symm)]
def Nk (kf : α → Value) (o : Obj) (m : α → Bool) : Prop := ∃ (es : Array MapEntry) (c : Nat) (l : List (α × Bool)), o = .map es c ∧ Ents kf es.toList l ∧ ∀ k, lkB l k = m k
theorem Nk.cast {kf : α → Value} {o : Obj} {m m' : α → Bool} (h : Nk kf o m) (e : ∀ k, m k = m' k) : Nk kf o m' := by
  obtain ⟨es, c, l, h1, h2, h3⟩ := h
  exact ⟨es, c, l, h1, h2, fun k => (h3 k).trans (e k)⟩
theorem Qf1 (kf : α → Value) (hm : Mem w R H) : Jr P fr w (.makeMap T none) ty (fun v w' => ∃ b o, v = .map (some b) ∧ Ext w w' ∧ Mem w' R ((b, o) :: H) ∧ Nk kf o (fun _ => false)) := by
  refine .inl ⟨.map (some w.heap.size), { w with heap := w.heap.push (.map #[] 0) }, ?_, w.heap.size, .map #[] 0, rfl, Ext.alloc w _, hm.alloc _, #[], 0, [], rfl, ⟨rfl⟩, fun _ => rfl⟩
  unfold U2
  show Sem.run P (do let v ← Instr.makeMap T none; pure (Next.value v)) w = _
  simp [Instr.makeMap]
theorem Qhx {o : Obj} {m : α → Bool} {k : α} {n kb : Nat} (hk : KeyOk P K kf) (hu : P.underlying T = some (.map K V)) (hz : Yp P V = some (some (bl false), n, kb)) (hb : w.heap[b]? = some o) (hM : Nk kf o m) (hx : Qq fr x = .map (some b)) (hy : Qq fr y = kf k) :
    Ja P fr w (.lookup T x y false) ty (bl (m k)) := by
  obtain ⟨es, c, l, rfl, h2, h3⟩ := hM
  unfold Ja U2
  show Sem.run P (do let v ← Instr.lookup T (Qq fr x) (Qq fr y) false; pure (Next.value v)) w = _
  rw [hx, hy, ← h3, ← Qgv l k 0]
  have hg : (getObj b).run P w = .ok (.map es c) w := by simp only [getObj, Sem.run, hb]
  simp only [Instr.lookup, Sem.run_bind, Y8 hu, Result.andThen_ok, hg, Sem.run_pure, hk.check, hk.find k w es.toList l h2]
  cases Qa5 l k 0 with
  | none => simp [Vs hz]
  | some p => simp
theorem Qei {o : Obj} {m : α → Bool} {k : α} {v : Bool} (hk : KeyOk P K kf) (hu : P.underlying T = some (.map K V)) (hm : Mem w R ((b, o) :: H)) (hM : Nk kf o m) (hx : Qq fr x = .map (some b)) (hy : Qq fr y = kf k) (hv : Qq fr u = bl v) :
    Jr P fr w (.mapUpdate T x y u) ty (fun _ w' => ∃ o', Mem w' R ((b, o') :: H) ∧ Nk kf o' (fun j => if j = k then v else m j)) := by
  obtain ⟨es, c, l, rfl, h2, h3⟩ := hM
  have hb : w.heap[b]? = some (.map es c) := hm.own _ (List.mem_cons_self)
  have hp := Ents.put (kf := kf) k v 0 c h2
  have hL : ∀ j, lkB (insB l k v) j = if j = k then v else m j := fun j => by rw [Qfd, h3]
  have hg : (getObj b).run P w = .ok (.map es c) w := by simp only [getObj, Sem.run, hb]
  cases hi : Qa5 l k 0 with
  | none =>
    rw [hi] at hp
    refine .inr (.inl ⟨{ w with heap := w.heap.setIfInBounds b (.map (es.push { key := kf k, val := bl v, born := c }) (c + 1)) }, ?_, .map (es.push { key := kf k, val := bl v, born := c }) (c + 1), Mem.upd0 hm (Upd.put _ hb), _, _, _, rfl, ⟨by simpa using hp.is⟩, hL⟩)
    unfold U2
    show Sem.run P (do Instr.mapUpdate T (Qq fr x) (Qq fr y) (Qq fr u); pure Next.skip) w = _
    rw [hx, hy, hv]
    simp only [Instr.mapUpdate, Sem.run_bind, Y8 hu, Result.andThen_ok, hg, hk.check, hk.find k w es.toList l h2, hi]
    have hs : ∀ o', (setObj b o').run P w = .ok () { w with heap := w.heap.setIfInBounds b o' } := fun o' => by simp only [setObj, Sem.run, hb]
    simp only [Option.map_none, hs, Result.andThen_ok, Sem.run_bind, Sem.run_pure]
  | some p =>
    rw [hi] at hp
    obtain ⟨_, h5, h6⟩ := hp
    have hL' : Nk kf (.map (es.modify p.1 fun e => { e with key := kf k, val := bl v }) c) (fun j => if j = k then v else m j) := ⟨_, _, _, rfl, ⟨by simpa using h6.is⟩, hL⟩
    refine .inr (.inl ⟨{ w with heap := w.heap.setIfInBounds b (.map (es.modify p.1 fun e => { e with key := kf k, val := bl v }) c) }, ?_, _, Mem.upd0 hm (Upd.put _ hb), hL'⟩)
    unfold U2
    show Sem.run P (do Instr.mapUpdate T (Qq fr x) (Qq fr y) (Qq fr u); pure Next.skip) w = _
    rw [hx, hy, hv]
    have hs : ∀ o', (setObj b o').run P w = .ok () { w with heap := w.heap.setIfInBounds b o' } := fun o' => by simp only [setObj, Sem.run, hb]
    have h5' : ((es[p.1]?).map (·.key)).getD (kf k) = kf k := by simpa using h5
    simp only [Instr.mapUpdate, Sem.run_bind, Y8 hu, Result.andThen_ok, hg, hk.check, hk.find k w es.toList l h2, hi, Option.map_some, h5', Instr.keyThatStays, hk.same, if_true, Sem.run_pure, hs]
end
end Go.Proofs.YtkmiemlpfkfiiaaDoor
