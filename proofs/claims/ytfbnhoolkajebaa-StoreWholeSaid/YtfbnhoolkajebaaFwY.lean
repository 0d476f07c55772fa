/- The framework, part Y: slices of structs among the arguments; maps from keys to truth values. Conditions: none. -/
import Derived.Test.YtfbnhoolkajebaaFwL
import Derived.Test.YtfbnhoolkajebaaFwV
import Derived.WideKeyRuns
namespace Go.Proofs.Ytfbnhoolkajebaa
open Go.ChangeShapes Go.WideShapes Go.ChangeAt Go.RowKit
set_option linter.unusedVariables false
set_option linter.unusedSimpArgs false
set_option linter.unusedSectionVars false
/-! ### Arguments: slices of structs -/
section
variable {P : Program} {t e : TypeId} {α : Type} {enc : α → List Value} {k : Nat} {q : World → α → Prop}
theorem list_of_each {β γ : Type} {n : Nat} {p : Nat → β → Prop} (h : ∀ i, i < n → ∃ b, p i b) : ∃ l : List β, l.length = n ∧ ∀ i (hi : i < l.length), p i l[i] := by
  induction n with
  | zero => exact ⟨[], rfl, fun i h => by simp at h⟩
  | succ n ih =>
    obtain ⟨l, h1, h2⟩ := ih fun i hi => h i (by omega)
    obtain ⟨b, hb⟩ := h n (by omega)
    refine ⟨l ++ [b], by simp [h1], fun i hi => ?_⟩
    by_cases hl : i < l.length
    · rw [List.getElem_append_left hl]; exact h2 i hl
    · have : i = n := by simp at hi; omega
      subst this
      rw [List.getElem_append_right (by omega)]
      simpa [h1] using hb
theorem opens_slK (hk : Nat.blt 0 k = true) (hu : P.underlying t = some (.slice e)) (hc : P.cellsOf e = k) (he : Opens P e (fun w cs => ∃ a, cs = enc a ∧ (enc a).length = k ∧ q w a)) :
    Opens P t (fun w cs => ∃ (v : Value) (l : List α), cs = [v] ∧ RdK (blks w) enc k v l ∧ (∀ a ∈ l, q w a) ∧ l.length ≤ 9223372036854775807) := by
  have hk' : 0 < k := Nat.le_of_ble_eq_true hk
  refine ⟨fun H en w fuel cs x h => ?_⟩
  rcases DataW.trod_slice hu h with ⟨rfl, _⟩ | ⟨a, len, cap, elems, rest, m, _, rfl, _, _, hl, hm, hlen, hel, _, _⟩
  · exact ⟨_, [], rfl, RdK.nil _ _, by simp, by simp⟩
  · rw [hc] at hel
    obtain ⟨l, hll, hp⟩ := list_of_each (γ := Unit) (n := len) (p := fun i b => (∀ j, j < k → w.cell? ((a.add (i * k)).add j) = (enc b)[j]?) ∧ (enc b).length = k ∧ q w b) (by
      intro i hi
      have h1 := hel i hi
      rw [List.getElem?_eq_getElem (by omega)] at h1
      obtain ⟨cs', h2, h3⟩ := Option.bind_eq_some_iff.1 h1
      obtain ⟨b, rfl, hb, hq⟩ := he.is H en w m _ _ h3
      obtain ⟨_, _, h6⟩ := World.cells?_some h2
      exact ⟨b, h6, hb, hq⟩)
    subst hll
    have hmem : ∀ b ∈ l, (enc b).length = k ∧ q w b := by
      intro b hb
      obtain ⟨i, hi, rfl⟩ := List.mem_iff_getElem.1 hb
      exact (hp i hi).2
    refine ⟨_, l, rfl, ⟨fun b hb => (hmem b hb).1, some a, cap, rfl, hl, fun i hi => ?_⟩, fun b hb => (hmem b hb).2, by unfold maxLen at hm; omega⟩
    obtain ⟨b, off, sp⟩ := a
    have h0 := (hp 0 (by omega)).1 0 hk'
    have hx0 : 0 < (enc l[0]).length := by rw [(hp 0 (by omega)).2.1]; exact hk'
    have ea : ((Addr.mk b off sp).add (0 * k)).add 0 = ⟨b, off, sp⟩ := by simp [Addr.add]
    rw [ea, List.getElem?_eq_getElem hx0] at h0
    obtain ⟨hs0, _⟩ := cell_some h0
    simp only at hs0
    subst hs0
    have hxi : 0 < (enc l[i]).length := by rw [(hp i hi).2.1]; exact hk'
    have h2 := (hp i hi).1 0 hk'
    rw [add_none, add_none, List.getElem?_eq_getElem hxi] at h2
    obtain ⟨_, c, E, fz, hb, _⟩ := cell_some h2
    refine ⟨b, off, c, E, fz, rfl, hb, fun j hj => ?_⟩
    have h3 := (hp i hi).1 j hj
    rw [add_none, add_none] at h3
    have hjl : j < (enc l[i]).length := by rw [(hp i hi).2.1]; exact hj
    rw [List.getElem?_eq_getElem hjl] at h3 ⊢
    obtain ⟨_, c', E', fz', hb', hc'⟩ := cell_some h3
    simp only at hb hb' hc'
    rw [hb] at hb'
    cases hb'
    rw [← Nat.add_assoc]; exact hc'
theorem arg_slK {W : World} {r : Reach} {b0 : Nat} {v : Value} {H : Type} {en : TypeId × Value → H} {d : DataW H} {ps : List MemPlace} (hu : P.underlying t = some (.slice e)) (ho : Opens P t (fun w cs => ∃ (v : Value) (l : List α), cs = [v] ∧ RdK (blks w) enc k v l ∧ (∀ a ∈ l, q w a) ∧ l.length ≤ 9223372036854775807)) (hval : Value.okWide P W r b0 t v) (h : DataW.Trod en P W 0 (fun _ => true) true t v d ps) :
    ∃ l : List α, RdK (blks W) enc k v l ∧ (∀ a ∈ l, q W a) ∧ l.length ≤ 9223372036854775807 := by
  obtain ⟨u, l, h1, h2, h3, h4⟩ := ho.of h
  obtain rfl := one_of hu rfl hval h1
  exact ⟨l, h2, h3, h4⟩
variable {f0 f1 f2 f3 f4 f5 : Field} {Q0 Q1 Q2 Q3 Q4 Q5 : World → Value → Prop}
theorem opens_bytes1 (hu : P.underlying t = some (.slice e)) (hc : P.cellsOf e = 1) (he : Opens P e (fun _ cs => ∃ a, cs = [u8 a])) : Opens P t (fun w cs => ∃ v, cs = [v] ∧ ∃ s : SlT, v = slv s ∧ Rd (blks w) u8 (slv s) s.2 ∧ s.2.length ≤ 9223372036854775807) :=
  (opens_sl1 (f := u8) hu hc he).mono fun w cs ⟨v, l, h1, h2, h3⟩ => by
    have e := h2.toSl l
    exact ⟨v, h1, toSl v l, e.symm, by rw [e, toSl_snd]; exact h2, by rw [toSl_snd]; exact h3⟩
end
/-! ### Maps to truth values -/
section
variable {α : Type} [DecidableEq α]
def lkB : List (α × Bool) → α → Bool
  | [], _ => false
  | (a, b) :: l, k => if k = a then b else lkB l k
def insB : List (α × Bool) → α → Bool → List (α × Bool)
  | [], k, v => [(k, v)]
  | (a, b) :: l, k, v => if k = a then (a, v) :: l else (a, b) :: insB l k v
def idxB : List (α × Bool) → α → Nat → Option (Nat × Bool)
  | [], _, _ => none
  | (a, b) :: l, k, i => if k = a then some (i, b) else idxB l k (i + 1)
structure Ents (kf : α → Value) (es : List MapEntry) (l : List (α × Bool)) : Prop where
  is : es.map (fun e => (e.key, e.val)) = l.map fun p => (kf p.1, bl p.2)
theorem Ents.cons_inv {kf : α → Value} {e : MapEntry} {es : List MapEntry} {l : List (α × Bool)} (h : Ents kf (e :: es) l) : ∃ a b l', l = (a, b) :: l' ∧ e.key = kf a ∧ e.val = bl b ∧ Ents kf es l' := by
  match l, h.is with
  | (a, b) :: l', h => simp at h; exact ⟨a, b, l', rfl, h.1.1, h.1.2, ⟨by simpa using h.2⟩⟩
theorem Ents.nil_inv {kf : α → Value} {l : List (α × Bool)} (h : Ents kf [] l) : l = [] := by
  have := congrArg List.length h.is; simpa using this.symm
theorem Ents.put {kf : α → Value} : ∀ {es : List MapEntry} {l : List (α × Bool)} (k : α) (v : Bool) (i : Nat) (c : Nat), Ents kf es l →
    match idxB l k i with
    | some p => i ≤ p.1 ∧ ((es[p.1 - i]?).map (·.key)).getD (kf k) = kf k ∧ Ents kf (es.modify (p.1 - i) fun e => { e with key := kf k, val := bl v }) (insB l k v)
    | none => Ents kf (es ++ [{ key := kf k, val := bl v, born := c }]) (insB l k v)
  | [], l, k, v, i, c, h => by
    obtain rfl := h.nil_inv
    exact ⟨rfl⟩
  | e :: es, l, k, v, i, c, h => by
    obtain ⟨a, b, l', rfl, h1, h2, h3⟩ := h.cons_inv
    unfold idxB insB
    by_cases hk : k = a
    · subst hk
      rw [if_pos rfl, if_pos rfl]
      refine ⟨Nat.le_refl _, by simp [h1], ⟨?_⟩⟩
      rw [Nat.sub_self]
      simp [h3.is]
    · rw [if_neg hk, if_neg hk]
      have ih := Ents.put (kf := kf) k v (i + 1) c h3
      cases hx : idxB l' k (i + 1) with
      | none => rw [hx] at ih; simp only at ih ⊢; exact ⟨by simp [h1, h2, ih.is]⟩
      | some p =>
        rw [hx] at ih
        obtain ⟨h4, h5, h6⟩ := ih
        obtain ⟨j, hj⟩ : ∃ j, p.1 - i = j + 1 := ⟨p.1 - i - 1, by omega⟩
        have hj' : p.1 - (i + 1) = j := by omega
        simp only
        rw [hj'] at h5 h6
        refine ⟨by omega, ?_, ?_⟩
        · rw [hj]; simpa using h5
        · rw [hj]; exact ⟨by simp [h1, h2, h6.is]⟩
end
section
variable {P : Program} {fr : Nat → Value} {w : World} {ty T K V E : TypeId} {x y u : Operand} {R : Rest} {H : List (Nat × Obj)} {α : Type} [DecidableEq α] {kf : α → Value} {b : Nat} {es : Array MapEntry} {c : Nat} {l : List (α × Bool)}
theorem bytes_beq (s t : ByteArray) : (s == t) = true ↔ s = t := by
  obtain ⟨a⟩ := s
  obtain ⟨b⟩ := t
  show (a == b) = true ↔ _
  simp
/-- A struct of two texts. -/
def two (p : ByteArray × ByteArray) : Value := .agg #[.string p.1, .string p.2]
theorem Upd.put {w : World} {b : Nat} {o : Obj} (o' : Obj) (hb : w.heap[b]? = some o) : Upd w b o' { w with heap := w.heap.setIfInBounds b o' } := by
  refine ⟨rfl, rfl, rfl, fun k => ?_⟩
  obtain ⟨hlt, _⟩ := Array.getElem?_eq_some_iff.1 hb
  simp only [Array.getElem?_setIfInBounds]
  by_cases h : k = b
  · subst h; simp [hlt]
  · rw [if_neg h, if_neg (fun e => h e.symm)]
/-- A map to truth values, as a function. -/
def MapIs (kf : α → Value) (o : Obj) (m : α → Bool) : Prop := ∃ (es : Array MapEntry) (c : Nat) (l : List (α × Bool)), o = .map es c ∧ Ents kf es.toList l ∧ ∀ k, lkB l k = m k
theorem MapIs.cast {kf : α → Value} {o : Obj} {m m' : α → Bool} (h : MapIs kf o m) (e : ∀ k, m k = m' k) : MapIs kf o m' := by
  obtain ⟨es, c, l, h1, h2, h3⟩ := h
  exact ⟨es, c, l, h1, h2, fun k => (h3 k).trans (e k)⟩
end
end Go.Proofs.Ytfbnhoolkajebaa
