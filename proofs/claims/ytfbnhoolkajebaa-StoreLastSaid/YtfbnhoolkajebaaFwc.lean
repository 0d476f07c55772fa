/- The framework, part c: copies into the midst of an array. Conditions: none. -/
import Derived.Test.YtfbnhoolkajebaaFwL
import Derived.Test.YtfbnhoolkajebaaFwV
import Derived.WideKeyRuns
import Derived.Test.YtfbnhoolkajebaaFwa
namespace Go.Proofs.Ytfbnhoolkajebaa
section
open Go.ChangeShapes Go.WideShapes Go.ChangeAt Go.RowKit
set_option linter.unusedVariables false
set_option linter.unusedSimpArgs false
set_option linter.unusedSectionVars false
/-! ### Arguments: slices of structs -/
section
variable {P : Program} {t e : TypeId} {α : Type} {enc : α → List Value} {k : Nat} {q : World → α → Prop}
variable {f0 f1 f2 f3 f4 f5 : Field} {Q0 Q1 Q2 Q3 Q4 Q5 : World → Value → Prop}
theorem opens_bytes1 (hu : P.underlying t = some (.slice e)) (hc : P.cellsOf e = 1) (he : Opens P e (fun _ cs => ∃ a, cs = [u8 a])) : Opens P t (fun w cs => ∃ v, cs = [v] ∧ ∃ s : SlT, v = slv s ∧ Rd (blks w) u8 (slv s) s.2 ∧ s.2.length ≤ 9223372036854775807) :=
  (opens_sl1 (f := u8) hu hc he).mono fun w cs ⟨v, l, h1, h2, h3⟩ => by
    have e := h2.toSl l
    exact ⟨v, h1, toSl v l, e.symm, by rw [e, toSl_snd]; exact h2, by rw [toSl_snd]; exact h3⟩
end
/-! ### Maps to truth values -/
section
variable {α : Type} [DecidableEq α]
def lkB : List (α × Bool) → α → Bool
  | [], _ => false
  | (a, b) :: l, k => if k = a then b else lkB l k
def insB : List (α × Bool) → α → Bool → List (α × Bool)
  | [], k, v => [(k, v)]
  | (a, b) :: l, k, v => if k = a then (a, v) :: l else (a, b) :: insB l k v
def idxB : List (α × Bool) → α → Nat → Option (Nat × Bool)
  | [], _, _ => none
  | (a, b) :: l, k, i => if k = a then some (i, b) else idxB l k (i + 1)
structure Ents (kf : α → Value) (es : List MapEntry) (l : List (α × Bool)) : Prop where
  is : es.map (fun e => (e.key, e.val)) = l.map fun p => (kf p.1, bl p.2)
theorem Ents.cons_inv {kf : α → Value} {e : MapEntry} {es : List MapEntry} {l : List (α × Bool)} (h : Ents kf (e :: es) l) : ∃ a b l', l = (a, b) :: l' ∧ e.key = kf a ∧ e.val = bl b ∧ Ents kf es l' := by
  match l, h.is with
  | (a, b) :: l', h => simp at h; exact ⟨a, b, l', rfl, h.1.1, h.1.2, ⟨by simpa using h.2⟩⟩
theorem Ents.nil_inv {kf : α → Value} {l : List (α × Bool)} (h : Ents kf [] l) : l = [] := by
  have := congrArg List.length h.is; simpa using this.symm
theorem Ents.put {kf : α → Value} : ∀ {es : List MapEntry} {l : List (α × Bool)} (k : α) (v : Bool) (i : Nat) (c : Nat), Ents kf es l →
    match idxB l k i with
    | some p => i ≤ p.1 ∧ ((es[p.1 - i]?).map (·.key)).getD (kf k) = kf k ∧ Ents kf (es.modify (p.1 - i) fun e => { e with key := kf k, val := bl v }) (insB l k v)
    | none => Ents kf (es ++ [{ key := kf k, val := bl v, born := c }]) (insB l k v)
  | [], l, k, v, i, c, h => by
    obtain rfl := h.nil_inv
    exact ⟨rfl⟩
  | e :: es, l, k, v, i, c, h => by
    obtain ⟨a, b, l', rfl, h1, h2, h3⟩ := h.cons_inv
    unfold idxB insB
    by_cases hk : k = a
    · subst hk
      rw [if_pos rfl, if_pos rfl]
      refine ⟨Nat.le_refl _, by simp [h1], ⟨?_⟩⟩
      rw [Nat.sub_self]
      simp [h3.is]
    · rw [if_neg hk, if_neg hk]
      have ih := Ents.put (kf := kf) k v (i + 1) c h3
      cases hx : idxB l' k (i + 1) with
      | none => rw [hx] at ih; simp only at ih ⊢; exact ⟨by simp [h1, h2, ih.is]⟩
      | some p =>
        rw [hx] at ih
        obtain ⟨h4, h5, h6⟩ := ih
        obtain ⟨j, hj⟩ : ∃ j, p.1 - i = j + 1 := ⟨p.1 - i - 1, by omega⟩
        have hj' : p.1 - (i + 1) = j := by omega
        simp only
        rw [hj'] at h5 h6
        refine ⟨by omega, ?_, ?_⟩
        · rw [hj]; simpa using h5
        · rw [hj]; exact ⟨by simp [h1, h2, h6.is]⟩
end
section
variable {P : Program} {fr : Nat → Value} {w : World} {ty T K V E : TypeId} {x y u : Operand} {R : Rest} {H : List (Nat × Obj)} {α : Type} [DecidableEq α] {kf : α → Value} {b : Nat} {es : Array MapEntry} {c : Nat} {l : List (α × Bool)}
theorem bytes_beq (s t : ByteArray) : (s == t) = true ↔ s = t := by
  obtain ⟨a⟩ := s
  obtain ⟨b⟩ := t
  show (a == b) = true ↔ _
  simp
/-- A struct of two texts. -/
def two (p : ByteArray × ByteArray) : Value := .agg #[.string p.1, .string p.2]
theorem Upd.put {w : World} {b : Nat} {o : Obj} (o' : Obj) (hb : w.heap[b]? = some o) : Upd w b o' { w with heap := w.heap.setIfInBounds b o' } := by
  refine ⟨rfl, rfl, rfl, fun k => ?_⟩
  obtain ⟨hlt, _⟩ := Array.getElem?_eq_some_iff.1 hb
  simp only [Array.getElem?_setIfInBounds]
  by_cases h : k = b
  · subst h; simp [hlt]
  · rw [if_neg h, if_neg (fun e => h e.symm)]
/-- A map to truth values, as a function. -/
def MapIs (kf : α → Value) (o : Obj) (m : α → Bool) : Prop := ∃ (es : Array MapEntry) (c : Nat) (l : List (α × Bool)), o = .map es c ∧ Ents kf es.toList l ∧ ∀ k, lkB l k = m k
theorem MapIs.cast {kf : α → Value} {o : Obj} {m m' : α → Bool} (h : MapIs kf o m) (e : ∀ k, m k = m' k) : MapIs kf o m' := by
  obtain ⟨es, c, l, h1, h2, h3⟩ := h
  exact ⟨es, c, l, h1, h2, fun k => (h3 k).trans (e k)⟩
end
end --m
section
open Go.ChangeShapes Go.WideShapes Go.ChangeAt Go.RowKit
set_option linter.unusedSimpArgs false
set_option linter.unusedVariables false
section
variable {P : Program} {t : TypeId} {f0 f1 f2 f3 : Field} {k0 k1 k2 k3 n : Nat} {C0 C1 C2 C3 : World → List Value → Prop}
end
end --m
section
set_option linter.unusedSimpArgs false
set_option linter.unusedVariables false
section
variable {P : Program} {fr : Nat → Value} {w : World} {ty T T' E E' : TypeId} {x y : Operand} {z : Option Value} {n kb b : Nat} {α : Type} {f : α → Value} {u : Value} {l ms : List α} {fz : Nat × Nat}
theorem or_copy_mid {i : Int} (hx : evalF fr x = sla b 0 1 i n n) (h0 : 0 ≤ i) (hi : i < n) (hy : evalF fr y = u) (hr : Rd (blks w) f u ms) (hT : P.underlying T = some (.slice E)) (hti : tinf P E = some (z, 1, kb)) (hf : ∀ a, (f a).oneCell' = true)
    (hb : w.heap[b]? = some (.cells (cl f l) E' fz)) (hl : l.length = n) (hms : i.toNat + ms.length ≤ n) (hfz : fz.2 = 0) :
    OpR P fr w (.call ⟨.builtin .copy, #[x, y], #[T, T']⟩) ty (fun v' w' => v' = i64 (ms.length : Nat) ∧ Upd w b (.cells (cl f (l.take i.toNat ++ (ms ++ l.drop (i.toNat + ms.length)))) E' fz) w') := by
  have hx2 : evalF fr x = slc b i.toNat (n - i.toNat) (n - i.toNat) := by
    rw [hx]
    have h1 : ¬ n = i.toNat := by omega
    simp [sla, h1]
  have hmin : min ms.length (n - i.toNat) = ms.length := by omega
  refine (or_copy (T' := T') hx2 hy hr hT hti hf hb (by rw [size_cl, hmin]; omega) (by omega)).mono ?_
  rintro v' w' ⟨e1, hu⟩
  rw [hmin] at e1 hu
  rw [List.take_of_length_le (Nat.le_refl _)] at hu
  refine ⟨e1, ?_⟩
  have e : ovr (cl f l) i.toNat (ms.map f) = cl f (l.take i.toNat ++ (ms ++ l.drop (i.toNat + ms.length))) := by
    apply Array.ext'
    rw [ovr_toList _ _ _ (by rw [size_cl, List.length_map]; omega)]
    simp [cl, List.map_take, List.map_drop]
  rw [e] at hu
  exact hu
end
end --m
end Go.Proofs.Ytfbnhoolkajebaa
