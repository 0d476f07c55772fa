/- The framework, part Y: slices of structs among the arguments; maps from keys to truth values. Conditions: none. -/
import Derived.Test.YtfbnhoolkajebaaFwL
import Derived.Test.YtfbnhoolkajebaaFwV
import Derived.WideKeyRuns
namespace Go.Proofs.Ytfbnhoolkajebaa
open Go.ChangeShapes Go.WideShapes Go.ChangeAt Go.RowKit
set_option linter.unusedVariables false
set_option linter.unusedSimpArgs false
set_option linter.unusedSectionVars false
/-! ### Arguments: slices of structs -/
section
variable {P : Program} {t e : TypeId} {α : Type} {enc : α → List Value} {k : Nat} {q : World → α → Prop}
theorem list_of_each {β γ : Type} {n : Nat} {p : Nat → β → Prop} (h : ∀ i, i < n → ∃ b, p i b) : ∃ l : List β, l.length = n ∧ ∀ i (hi : i < l.length), p i l[i] := by
  induction n with
  | zero => exact ⟨[], rfl, fun i h => by simp at h⟩
  | succ n ih =>
    obtain ⟨l, h1, h2⟩ := ih fun i hi => h i (by omega)
    obtain ⟨b, hb⟩ := h n (by omega)
    refine ⟨l ++ [b], by simp [h1], fun i hi => ?_⟩
    by_cases hl : i < l.length
    · rw [List.getElem_append_left hl]; exact h2 i hl
    · have : i = n := by simp at hi; omega
      subst this
      rw [List.getElem_append_right (by omega)]
      simpa [h1] using hb
theorem opens_slK (hk : Nat.blt 0 k = true) (hu : P.underlying t = some (.slice e)) (hc : P.cellsOf e = k) (he : Opens P e (fun w cs => ∃ a, cs = enc a ∧ (enc a).length = k ∧ q w a)) :
    Opens P t (fun w cs => ∃ (v : Value) (l : List α), cs = [v] ∧ RdK (blks w) enc k v l ∧ (∀ a ∈ l, q w a) ∧ l.length ≤ 9223372036854775807) := by
  have hk' : 0 < k := Nat.le_of_ble_eq_true hk
  refine ⟨fun H en w fuel cs x h => ?_⟩
  rcases DataW.trod_slice hu h with ⟨rfl, _⟩ | ⟨a, len, cap, elems, rest, m, _, rfl, _, _, hl, hm, hlen, hel, _, _⟩
  · exact ⟨_, [], rfl, RdK.nil _ _, by simp, by simp⟩
  · rw [hc] at hel
    obtain ⟨l, hll, hp⟩ := list_of_each (γ := Unit) (n := len) (p := fun i b => (∀ j, j < k → w.cell? ((a.add (i * k)).add j) = (enc b)[j]?) ∧ (enc b).length = k ∧ q w b) (by
      intro i hi
      have h1 := hel i hi
      rw [List.getElem?_eq_getElem (by omega)] at h1
      obtain ⟨cs', h2, h3⟩ := Option.bind_eq_some_iff.1 h1
      obtain ⟨b, rfl, hb, hq⟩ := he.is H en w m _ _ h3
      obtain ⟨_, _, h6⟩ := World.cells?_some h2
      exact ⟨b, h6, hb, hq⟩)
    subst hll
    have hmem : ∀ b ∈ l, (enc b).length = k ∧ q w b := by
      intro b hb
      obtain ⟨i, hi, rfl⟩ := List.mem_iff_getElem.1 hb
      exact (hp i hi).2
    refine ⟨_, l, rfl, ⟨fun b hb => (hmem b hb).1, some a, cap, rfl, hl, fun i hi => ?_⟩, fun b hb => (hmem b hb).2, by unfold maxLen at hm; omega⟩
    obtain ⟨b, off, sp⟩ := a
    have h0 := (hp 0 (by omega)).1 0 hk'
    have hx0 : 0 < (enc l[0]).length := by rw [(hp 0 (by omega)).2.1]; exact hk'
    have ea : ((Addr.mk b off sp).add (0 * k)).add 0 = ⟨b, off, sp⟩ := by simp [Addr.add]
    rw [ea, List.getElem?_eq_getElem hx0] at h0
    obtain ⟨hs0, _⟩ := cell_some h0
    simp only at hs0
    subst hs0
    have hxi : 0 < (enc l[i]).length := by rw [(hp i hi).2.1]; exact hk'
    have h2 := (hp i hi).1 0 hk'
    rw [add_none, add_none, List.getElem?_eq_getElem hxi] at h2
    obtain ⟨_, c, E, fz, hb, _⟩ := cell_some h2
    refine ⟨b, off, c, E, fz, rfl, hb, fun j hj => ?_⟩
    have h3 := (hp i hi).1 j hj
    rw [add_none, add_none] at h3
    have hjl : j < (enc l[i]).length := by rw [(hp i hi).2.1]; exact hj
    rw [List.getElem?_eq_getElem hjl] at h3 ⊢
    obtain ⟨_, c', E', fz', hb', hc'⟩ := cell_some h3
    simp only at hb hb' hc'
    rw [hb] at hb'
    cases hb'
    rw [← Nat.add_assoc]; exact hc'
theorem arg_slK {W : World} {r : Reach} {b0 : Nat} {v : Value} {H : Type} {en : TypeId × Value → H} {d : DataW H} {ps : List MemPlace} (hu : P.underlying t = some (.slice e)) (ho : Opens P t (fun w cs => ∃ (v : Value) (l : List α), cs = [v] ∧ RdK (blks w) enc k v l ∧ (∀ a ∈ l, q w a) ∧ l.length ≤ 9223372036854775807)) (hval : Value.okWide P W r b0 t v) (h : DataW.Trod en P W 0 (fun _ => true) true t v d ps) :
    ∃ l : List α, RdK (blks W) enc k v l ∧ (∀ a ∈ l, q W a) ∧ l.length ≤ 9223372036854775807 := by
  obtain ⟨u, l, h1, h2, h3, h4⟩ := ho.of h
  obtain rfl := one_of hu rfl hval h1
  exact ⟨l, h2, h3, h4⟩
variable {f0 f1 f2 f3 f4 f5 : Field} {Q0 Q1 Q2 Q3 Q4 Q5 : World → Value → Prop}
theorem take_one_drop {cs : List Value} {i : Nat} {v : Value} (h : (cs.drop i).take 1 = [v]) : cs[i]? = some v := by
  have := congrArg (fun l => l[0]?) h
  simpa [List.getElem?_take, List.getElem?_drop] using this
theorem opens_s5 (hu : P.underlying t = some (.struct #[f0, f1, f2, f3, f4])) (hct : P.cellsOf t = 5) (o : f0.offset = 0 ∧ f1.offset = 1 ∧ f2.offset = 2 ∧ f3.offset = 3 ∧ f4.offset = 4) (c : P.cellsOf f0.type = 1 ∧ P.cellsOf f1.type = 1 ∧ P.cellsOf f2.type = 1 ∧ P.cellsOf f3.type = 1 ∧ P.cellsOf f4.type = 1)
    (h0 : Opens P f0.type (fun w cs => ∃ v, cs = [v] ∧ Q0 w v)) (h1 : Opens P f1.type (fun w cs => ∃ v, cs = [v] ∧ Q1 w v)) (h2 : Opens P f2.type (fun w cs => ∃ v, cs = [v] ∧ Q2 w v)) (h3 : Opens P f3.type (fun w cs => ∃ v, cs = [v] ∧ Q3 w v)) (h4 : Opens P f4.type (fun w cs => ∃ v, cs = [v] ∧ Q4 w v)) :
    Opens P t (fun w cs => ∃ v0 v1 v2 v3 v4, cs = [v0, v1, v2, v3, v4] ∧ Q0 w v0 ∧ Q1 w v1 ∧ Q2 w v2 ∧ Q3 w v3 ∧ Q4 w v4) := by
  refine ⟨fun H en w fuel cs x h => ?_⟩
  obtain ⟨xs, n, _, _, hl, hlen, hf⟩ := DataW.trod_struct hu h
  have g : ∀ (i : Nat) (f : Field) (Q : World → Value → Prop), #[f0, f1, f2, f3, f4][i]? = some f → f.offset = i → P.cellsOf f.type = 1 → i < 5 → Opens P f.type (fun w cs => ∃ v, cs = [v] ∧ Q w v) → ∃ v, cs[i]? = some v ∧ Q w v := by
    intro i f Q hi ho hc hi5 hop
    have h5 := hf i f hi
    rw [ho, hc, List.getElem?_eq_getElem (by rw [hlen]; simpa using hi5)] at h5
    obtain ⟨v, hv, hq⟩ := hop.is H en w n _ _ h5
    exact ⟨v, take_one_drop hv, hq⟩
  obtain ⟨v0, e0, q0⟩ := g 0 f0 Q0 rfl o.1 c.1 (by omega) h0
  obtain ⟨v1, e1, q1⟩ := g 1 f1 Q1 rfl o.2.1 c.2.1 (by omega) h1
  obtain ⟨v2, e2, q2⟩ := g 2 f2 Q2 rfl o.2.2.1 c.2.2.1 (by omega) h2
  obtain ⟨v3, e3, q3⟩ := g 3 f3 Q3 rfl o.2.2.2.1 c.2.2.2.1 (by omega) h3
  obtain ⟨v4, e4, q4⟩ := g 4 f4 Q4 rfl o.2.2.2.2 c.2.2.2.2 (by omega) h4
  rw [hct] at hl
  refine ⟨v0, v1, v2, v3, v4, ?_, q0, q1, q2, q3, q4⟩
  match cs, hl, e0, e1, e2, e3, e4 with
  | [a0, a1, a2, a3, a4], _, e0, e1, e2, e3, e4 => simp at e0 e1 e2 e3 e4; subst e0; subst e1; subst e2; subst e3; subst e4; rfl
theorem opens_s6 (hu : P.underlying t = some (.struct #[f0, f1, f2, f3, f4, f5])) (hct : P.cellsOf t = 6) (o : f0.offset = 0 ∧ f1.offset = 1 ∧ f2.offset = 2 ∧ f3.offset = 3 ∧ f4.offset = 4 ∧ f5.offset = 5) (c : P.cellsOf f0.type = 1 ∧ P.cellsOf f1.type = 1 ∧ P.cellsOf f2.type = 1 ∧ P.cellsOf f3.type = 1 ∧ P.cellsOf f4.type = 1 ∧ P.cellsOf f5.type = 1)
    (h0 : Opens P f0.type (fun w cs => ∃ v, cs = [v] ∧ Q0 w v)) (h1 : Opens P f1.type (fun w cs => ∃ v, cs = [v] ∧ Q1 w v)) (h2 : Opens P f2.type (fun w cs => ∃ v, cs = [v] ∧ Q2 w v)) (h3 : Opens P f3.type (fun w cs => ∃ v, cs = [v] ∧ Q3 w v)) (h4 : Opens P f4.type (fun w cs => ∃ v, cs = [v] ∧ Q4 w v)) (h5 : Opens P f5.type (fun w cs => ∃ v, cs = [v] ∧ Q5 w v)) :
    Opens P t (fun w cs => ∃ v0 v1 v2 v3 v4 v5, cs = [v0, v1, v2, v3, v4, v5] ∧ Q0 w v0 ∧ Q1 w v1 ∧ Q2 w v2 ∧ Q3 w v3 ∧ Q4 w v4 ∧ Q5 w v5) := by
  refine ⟨fun H en w fuel cs x h => ?_⟩
  obtain ⟨xs, n, _, _, hl, hlen, hf⟩ := DataW.trod_struct hu h
  have g : ∀ (i : Nat) (f : Field) (Q : World → Value → Prop), #[f0, f1, f2, f3, f4, f5][i]? = some f → f.offset = i → P.cellsOf f.type = 1 → i < 6 → Opens P f.type (fun w cs => ∃ v, cs = [v] ∧ Q w v) → ∃ v, cs[i]? = some v ∧ Q w v := by
    intro i f Q hi ho hc hi5 hop
    have h6 := hf i f hi
    rw [ho, hc, List.getElem?_eq_getElem (by rw [hlen]; simpa using hi5)] at h6
    obtain ⟨v, hv, hq⟩ := hop.is H en w n _ _ h6
    exact ⟨v, take_one_drop hv, hq⟩
  obtain ⟨v0, e0, q0⟩ := g 0 f0 Q0 rfl o.1 c.1 (by omega) h0
  obtain ⟨v1, e1, q1⟩ := g 1 f1 Q1 rfl o.2.1 c.2.1 (by omega) h1
  obtain ⟨v2, e2, q2⟩ := g 2 f2 Q2 rfl o.2.2.1 c.2.2.1 (by omega) h2
  obtain ⟨v3, e3, q3⟩ := g 3 f3 Q3 rfl o.2.2.2.1 c.2.2.2.1 (by omega) h3
  obtain ⟨v4, e4, q4⟩ := g 4 f4 Q4 rfl o.2.2.2.2.1 c.2.2.2.2.1 (by omega) h4
  obtain ⟨v5, e5, q5⟩ := g 5 f5 Q5 rfl o.2.2.2.2.2 c.2.2.2.2.2 (by omega) h5
  rw [hct] at hl
  refine ⟨v0, v1, v2, v3, v4, v5, ?_, q0, q1, q2, q3, q4, q5⟩
  match cs, hl, e0, e1, e2, e3, e4, e5 with
  | [a0, a1, a2, a3, a4, a5], _, e0, e1, e2, e3, e4, e5 => simp at e0 e1 e2 e3 e4 e5; subst e0; subst e1; subst e2; subst e3; subst e4; subst e5; rfl
theorem arg_agg {fs : Array Field} {W : World} {b0 : Nat} {v : Value} {r : Reach} (hu : P.underlying t = some (.struct fs)) (hval : Value.okWide P W r b0 t v) : ∃ cs : Array Value, v = .agg cs := by
  simp only [Value.okWide, hu] at hval
  obtain ⟨cs, h, _⟩ := hval
  exact ⟨cs, h⟩
theorem opens_str1 (hu : P.underlying t = some .string) : Opens P t (fun _ cs => ∃ v, cs = [v] ∧ ∃ s : ByteArray, v = .string s) := (opens_str hu).mono fun _ _ ⟨s, h, _⟩ => ⟨_, h, s, rfl⟩
theorem opens_bool1 (hu : P.underlying t = some .bool) : Opens P t (fun _ cs => ∃ v, cs = [v] ∧ ∃ b, v = bl b) := (opens_bool hu).mono fun _ _ ⟨s, h⟩ => ⟨_, h, s, rfl⟩
theorem opens_i641 (hu : P.underlying t = some (.int .i64)) : Opens P t (fun _ cs => ∃ v, cs = [v] ∧ ∃ n : Int, v = i64 n ∧ -9223372036854775808 ≤ n ∧ n ≤ 9223372036854775807) := (opens_i64 hu).mono fun _ _ ⟨s, h, h2⟩ => ⟨_, h, s, rfl, h2⟩
theorem opens_bytes1 (hu : P.underlying t = some (.slice e)) (hc : P.cellsOf e = 1) (he : Opens P e (fun _ cs => ∃ a, cs = [u8 a])) : Opens P t (fun w cs => ∃ v, cs = [v] ∧ ∃ s : SlT, v = slv s ∧ Rd (blks w) u8 (slv s) s.2 ∧ s.2.length ≤ 9223372036854775807) :=
  (opens_sl1 (f := u8) hu hc he).mono fun w cs ⟨v, l, h1, h2, h3⟩ => by
    have e := h2.toSl l
    exact ⟨v, h1, toSl v l, e.symm, by rw [e, toSl_snd]; exact h2, by rw [toSl_snd]; exact h3⟩
end
/-! ### Maps to truth values -/
section
variable {α : Type} [DecidableEq α]
def lkB : List (α × Bool) → α → Bool
  | [], _ => false
  | (a, b) :: l, k => if k = a then b else lkB l k
def insB : List (α × Bool) → α → Bool → List (α × Bool)
  | [], k, v => [(k, v)]
  | (a, b) :: l, k, v => if k = a then (a, v) :: l else (a, b) :: insB l k v
def idxB : List (α × Bool) → α → Nat → Option (Nat × Bool)
  | [], _, _ => none
  | (a, b) :: l, k, i => if k = a then some (i, b) else idxB l k (i + 1)
theorem lkB_insB : ∀ (l : List (α × Bool)) (k j : α) (v : Bool), lkB (insB l k v) j = if j = k then v else lkB l j
  | [], k, j, v => by simp [insB, lkB]
  | (a, b) :: l, k, j, v => by
    unfold insB
    by_cases h : k = a
    · subst h; rw [if_pos rfl]; simp only [lkB]; split <;> rfl
    · rw [if_neg h]; simp only [lkB]
      by_cases hj : j = a
      · subst hj; rw [if_pos rfl, if_neg (fun e => h e.symm), if_pos rfl]
      · rw [if_neg hj, if_neg hj]; exact lkB_insB l k j v
theorem idxB_lk : ∀ (l : List (α × Bool)) (k : α) (i : Nat), (match idxB l k i with | some p => p.2 | none => false) = lkB l k
  | [], _, _ => rfl
  | (a, b) :: l, k, i => by
    unfold idxB lkB
    by_cases h : k = a
    · rw [if_pos h, if_pos h]
    · rw [if_neg h, if_neg h]; exact idxB_lk l k (i + 1)
structure Ents (kf : α → Value) (es : List MapEntry) (l : List (α × Bool)) : Prop where
  is : es.map (fun e => (e.key, e.val)) = l.map fun p => (kf p.1, bl p.2)
/-- What is asked of keys. -/
structure KeyOk (P : Program) (K : TypeId) (kf : α → Value) : Prop where
  check : ∀ (e : Bool) (k : α) (w : World), (Instr.checkKey e 10000 K (kf k)).run P w = .ok () w
  find : ∀ (k : α) (w : World) (es : List MapEntry) (l : List (α × Bool)), Ents kf es l → (Instr.findKey K (kf k) es).run P w = .ok ((idxB l k 0).map fun p => (p.1, bl p.2)) w
  same : ∀ k : α, Instr.sameBits 10000 (kf k) (kf k) = true
theorem ents_nil {kf : α → Value} : Ents kf [] [] := ⟨rfl⟩
theorem Ents.cons_inv {kf : α → Value} {e : MapEntry} {es : List MapEntry} {l : List (α × Bool)} (h : Ents kf (e :: es) l) : ∃ a b l', l = (a, b) :: l' ∧ e.key = kf a ∧ e.val = bl b ∧ Ents kf es l' := by
  match l, h.is with
  | (a, b) :: l', h => simp at h; exact ⟨a, b, l', rfl, h.1.1, h.1.2, ⟨by simpa using h.2⟩⟩
theorem Ents.nil_inv {kf : α → Value} {l : List (α × Bool)} (h : Ents kf [] l) : l = [] := by
  have := congrArg List.length h.is; simpa using this.symm
theorem Ents.put {kf : α → Value} : ∀ {es : List MapEntry} {l : List (α × Bool)} (k : α) (v : Bool) (i : Nat) (c : Nat), Ents kf es l →
    match idxB l k i with
    | some p => i ≤ p.1 ∧ ((es[p.1 - i]?).map (·.key)).getD (kf k) = kf k ∧ Ents kf (es.modify (p.1 - i) fun e => { e with key := kf k, val := bl v }) (insB l k v)
    | none => Ents kf (es ++ [{ key := kf k, val := bl v, born := c }]) (insB l k v)
  | [], l, k, v, i, c, h => by
    obtain rfl := h.nil_inv
    exact ⟨rfl⟩
  | e :: es, l, k, v, i, c, h => by
    obtain ⟨a, b, l', rfl, h1, h2, h3⟩ := h.cons_inv
    unfold idxB insB
    by_cases hk : k = a
    · subst hk
      rw [if_pos rfl, if_pos rfl]
      refine ⟨Nat.le_refl _, by simp [h1], ⟨?_⟩⟩
      rw [Nat.sub_self]
      simp [h3.is]
    · rw [if_neg hk, if_neg hk]
      have ih := Ents.put (kf := kf) k v (i + 1) c h3
      cases hx : idxB l' k (i + 1) with
      | none => rw [hx] at ih; simp only at ih ⊢; exact ⟨by simp [h1, h2, ih.is]⟩
      | some p =>
        rw [hx] at ih
        obtain ⟨h4, h5, h6⟩ := ih
        obtain ⟨j, hj⟩ : ∃ j, p.1 - i = j + 1 := ⟨p.1 - i - 1, by omega⟩
        have hj' : p.1 - (i + 1) = j := by omega
        simp only
        rw [hj'] at h5 h6
        refine ⟨by omega, ?_, ?_⟩
        · rw [hj]; simpa using h5
        · rw [hj]; exact ⟨by simp [h1, h2, h6.is]⟩
end
section
variable {P : Program} {fr : Nat → Value} {w : World} {ty T K V E : TypeId} {x y u : Operand} {R : Rest} {H : List (Nat × Obj)} {α : Type} [DecidableEq α] {kf : α → Value} {b : Nat} {es : Array MapEntry} {c : Nat} {l : List (α × Bool)}
theorem key_i64 (hu : P.underlying K = some (.int .i64)) : KeyOk P K (fun n : Int => i64 n) := by
  refine ⟨fun e k w => ?_, fun k w es l h => ?_, fun k => ?_⟩
  · have : ∀ n, (Instr.checkKey e (n + 1) K (i64 k)).run P w = .ok () w := fun n => by simp [Instr.checkKey, run_und hu, i64]
    exact this 9999
  · have key : ∀ (es : List MapEntry) (l : List (Int × Bool)) (i : Nat), Ents (fun n : Int => i64 n) es l → Instr.findNow (.int .i64) (i64 k) es i = some ((idxB l k i).map fun p => (p.1, bl p.2)) := by
      intro es
      induction es with
      | nil => intro l i h; obtain rfl := h.nil_inv; rfl
      | cons e es ih =>
        intro l i h
        obtain ⟨a, b, l', rfl, h1, h2, h3⟩ := h.cons_inv
        unfold Instr.findNow
        rw [h1]
        have hs : Instr.sameNow (.int .i64) (i64 k) (i64 a) = some (k == a) := by simp [Instr.sameNow, i64]
        rw [hs]
        by_cases hk : k = a
        · subst hk; simp [idxB, h2]
        · have : (k == a) = false := by simpa using hk
          rw [this]; simp only [idxB, if_neg hk]; exact ih l' (i + 1) h3
    simp [Instr.findKey, run_und hu, key es l 0 h]
  · show Instr.sameBits (9999 + 1) (i64 k) (i64 k) = true
    simp [Instr.sameBits, i64]
theorem bytes_beq (s t : ByteArray) : (s == t) = true ↔ s = t := by
  obtain ⟨a⟩ := s
  obtain ⟨b⟩ := t
  show (a == b) = true ↔ _
  simp
/-- A struct of two texts. -/
def two (p : ByteArray × ByteArray) : Value := .agg #[.string p.1, .string p.2]
theorem run_eq_str {d : Nat} {s t : ByteArray} (hE : P.underlying E = some .string) : (Op.equalIn (d + 1) E (.string s) (.string t)).run P w = .ok (decide (s = t)) w := by
  have : (s == t) = decide (s = t) := by rw [Bool.eq_iff_iff, decide_eq_true_eq]; exact bytes_beq s t
  simp [Op.equalIn, run_und hE, this]
theorem run_eq_twoS {t : TypeId} {f1 f2 : Field} (ht : P.underlying t = some (.struct #[f1, f2])) (hp : P.stoodInHeld t = false) (n1 : (f1.name == "_") = false) (n2 : (f2.name == "_") = false) (t1 : f1.type = E) (t2 : f2.type = E) (o1 : f1.offset = 0) (o2 : f2.offset = 1)
    (hE : P.underlying E = some .string) (p q : ByteArray × ByteArray) : (Op.equalIn (9999 + 1) t (two p) (two q)).run P w = .ok (decide (p.1 = q.1) && decide (p.2 = q.2)) w := by
  have hf : P.fieldsOf t = #[f1, f2] := by unfold Program.fieldsOf; simp [ht]
  unfold two
  rw [run_equalIn_struct w 9999 t _ _ (by rw [hf]; exact ht) hp, hf]
  have p1 := run_part1 (P := P) (w := w) (E := E) (c := #[.string p.1, .string p.2]) (i := 0) (v := .string p.1) hE rfl rfl
  have p2 := run_part1 (P := P) (w := w) (E := E) (c := #[.string q.1, .string q.2]) (i := 0) (v := .string q.1) hE rfl rfl
  have p3 := run_part1 (P := P) (w := w) (E := E) (c := #[.string p.1, .string p.2]) (i := 1) (v := .string p.2) hE rfl rfl
  have p4 := run_part1 (P := P) (w := w) (E := E) (c := #[.string q.1, .string q.2]) (i := 1) (v := .string q.2) hE rfl rfl
  have q1 : (Op.equalIn 9999 E (.string p.1) (.string q.1)).run P w = .ok (decide (p.1 = q.1)) w := run_eq_str (d := 9998) hE
  have q2 : (Op.equalIn 9999 E (.string p.2) (.string q.2)).run P w = .ok (decide (p.2 = q.2)) w := run_eq_str (d := 9998) hE
  have n1' : f1.name ≠ "_" := by simpa using n1
  have n2' : f2.name ≠ "_" := by simpa using n2
  simp only [Op.eqFields, t1, t2, o1, o2, if_pos n1', if_pos n2', ne_eq, n1', n2', not_false_eq_true, if_true, Sem.run_bind, p1, p2, p3, p4, Result.andThen_ok, q1, q2]
  cases h1 : decide (p.1 = q.1) <;> cases h2 : decide (p.2 = q.2) <;> simp [p3, p4, q2, h1, h2]
theorem ev_two_eqlS {t t' : TypeId} {f1 f2 : Field} {p q : ByteArray × ByteArray} (ht : P.underlying t = some (.struct #[f1, f2])) (hp : P.stoodInHeld t = false) (n1 : (f1.name == "_") = false) (n2 : (f2.name == "_") = false) (t1 : f1.type = E) (t2 : f2.type = E) (o1 : f1.offset = 0) (o2 : f2.offset = 1)
    (hE : P.underlying E = some .string) (hg : P.eqGuardType P.depth t = false) (hx : evalF fr x = two p) (hy : evalF fr y = two q) : EvQ P fr w (.binOp .eql t x y t') ty (bl (decide (p.1 = q.1) && decide (p.2 = q.2))) := ev_eql_of hg (run_eq_twoS ht hp n1 n2 t1 t2 o1 o2 hE p q) hx hy
theorem key_two {f1 f2 : Field} (ht : P.underlying K = some (.struct #[f1, f2])) (hp : P.stoodInHeld K = false) (n1 : (f1.name == "_") = false) (n2 : (f2.name == "_") = false) (t1 : f1.type = E) (t2 : f2.type = E) (o1 : f1.offset = 0) (o2 : f2.offset = 1)
    (hE : P.underlying E = some .string) : KeyOk P K two := by
  refine ⟨fun e k w => ?_, fun k w es l h => ?_, fun k => ?_⟩
  · suffices hs : ∀ n, (Instr.checkKey e (n + 2) K (two k)).run P w = .ok () w from hs 9998
    intro n
    have p1 := run_part1 (P := P) (w := w) (E := E) (c := #[.string k.1, .string k.2]) (i := 0) (v := .string k.1) hE rfl rfl
    have p3 := run_part1 (P := P) (w := w) (E := E) (c := #[.string k.1, .string k.2]) (i := 1) (v := .string k.2) hE rfl rfl
    have q1 : ∀ s : ByteArray, (Instr.checkKey e (n + 1) E (.string s)).run P w = .ok () w := fun s => by
      simp [Instr.checkKey, run_und hE]
    have n1' : f1.name ≠ "_" := by simpa using n1
    have n2' : f2.name ≠ "_" := by simpa using n2
    unfold Instr.checkKey two
    simp [run_und ht, n1', n2', t1, t2, o1, o2, p1, p3, q1]
  · have key : ∀ (es : List MapEntry) (l : List ((ByteArray × ByteArray) × Bool)) (i : Nat), Ents two es l → (Instr.findAsking K (two k) es i).run P w = .ok ((idxB l k i).map fun p => (p.1, bl p.2)) w := by
      intro es
      induction es with
      | nil => intro l i h; obtain rfl := h.nil_inv; rfl
      | cons e es ih =>
        intro l i h
        obtain ⟨a, b, l', rfl, h1, h2, h3⟩ := h.cons_inv
        have he : (Op.equal K (two k) (two a)).run P w = .ok (decide (k.1 = a.1) && decide (k.2 = a.2)) w := run_eq_twoS ht hp n1 n2 t1 t2 o1 o2 hE k a
        unfold Instr.findAsking
        rw [h1]
        simp only [Sem.run_bind, he, Result.andThen_ok]
        by_cases hk : k = a
        · subst hk; simp [idxB, h2]
        · have hd : (decide (k.1 = a.1) && decide (k.2 = a.2)) = false := by
            rw [Bool.eq_false_iff]; intro e
            simp at e
            exact hk (Prod.ext e.1 e.2)
          rw [hd]; simp only [idxB, if_neg hk, Bool.false_eq_true, if_false]; exact ih l' (i + 1) h3
    unfold Instr.findKey
    match es, l, h with
    | [], l, h =>
      obtain rfl := h.nil_inv
      simp [run_und ht, Instr.findNow, idxB]
    | e :: es, l, h =>
      obtain ⟨a, b, l', rfl, h1, h2, h3⟩ := h.cons_inv
      have hn : Instr.findNow (.struct #[f1, f2]) (two k) (e :: es) 0 = none := by simp [Instr.findNow, Instr.sameNow]
      simp only [Sem.run_bind, run_und ht, Result.andThen_ok, hn]
      exact key (e :: es) _ 0 h
  · show Instr.sameBits (9999 + 1) (two k) (two k) = true
    simp [two, Instr.sameBits, bytes_beq]
theorem Upd.put {w : World} {b : Nat} {o : Obj} (o' : Obj) (hb : w.heap[b]? = some o) : Upd w b o' { w with heap := w.heap.setIfInBounds b o' } := by
  refine ⟨rfl, rfl, rfl, fun k => ?_⟩
  obtain ⟨hlt, _⟩ := Array.getElem?_eq_some_iff.1 hb
  simp only [Array.getElem?_setIfInBounds]
  by_cases h : k = b
  · subst h; simp [hlt]
  · rw [if_neg h, if_neg (fun e => h e.symm)]
/-- A map to truth values, as a function. -/
def MapIs (kf : α → Value) (o : Obj) (m : α → Bool) : Prop := ∃ (es : Array MapEntry) (c : Nat) (l : List (α × Bool)), o = .map es c ∧ Ents kf es.toList l ∧ ∀ k, lkB l k = m k
theorem MapIs.cast {kf : α → Value} {o : Obj} {m m' : α → Bool} (h : MapIs kf o m) (e : ∀ k, m k = m' k) : MapIs kf o m' := by
  obtain ⟨es, c, l, h1, h2, h3⟩ := h
  exact ⟨es, c, l, h1, h2, fun k => (h3 k).trans (e k)⟩
theorem or_makeMap (kf : α → Value) (hm : Mem w R H) : OpR P fr w (.makeMap T none) ty (fun v w' => ∃ b o, v = .map (some b) ∧ Ext w w' ∧ Mem w' R ((b, o) :: H) ∧ MapIs kf o (fun _ => false)) := by
  refine .inl ⟨.map (some w.heap.size), { w with heap := w.heap.push (.map #[] 0) }, ?_, w.heap.size, .map #[] 0, rfl, Ext.alloc w _, hm.alloc _, #[], 0, [], rfl, ⟨rfl⟩, fun _ => rfl⟩
  unfold xop
  show Sem.run P (do let v ← Instr.makeMap T none; pure (Next.value v)) w = _
  simp [Instr.makeMap]
theorem ev_lookup {o : Obj} {m : α → Bool} {k : α} {n kb : Nat} (hk : KeyOk P K kf) (hu : P.underlying T = some (.map K V)) (hz : tinf P V = some (some (bl false), n, kb)) (hb : w.heap[b]? = some o) (hM : MapIs kf o m) (hx : evalF fr x = .map (some b)) (hy : evalF fr y = kf k) :
    EvQ P fr w (.lookup T x y false) ty (bl (m k)) := by
  obtain ⟨es, c, l, rfl, h2, h3⟩ := hM
  unfold EvQ xop
  show Sem.run P (do let v ← Instr.lookup T (evalF fr x) (evalF fr y) false; pure (Next.value v)) w = _
  rw [hx, hy, ← h3, ← idxB_lk l k 0]
  have hg : (getObj b).run P w = .ok (.map es c) w := by simp only [getObj, Sem.run, hb]
  simp only [Instr.lookup, Sem.run_bind, run_und hu, Result.andThen_ok, hg, Sem.run_pure, hk.check, hk.find k w es.toList l h2]
  cases idxB l k 0 with
  | none => simp [run_zeroValue hz]
  | some p => simp
theorem or_mapUpdate {o : Obj} {m : α → Bool} {k : α} {v : Bool} (hk : KeyOk P K kf) (hu : P.underlying T = some (.map K V)) (hm : Mem w R ((b, o) :: H)) (hM : MapIs kf o m) (hx : evalF fr x = .map (some b)) (hy : evalF fr y = kf k) (hv : evalF fr u = bl v) :
    OpR P fr w (.mapUpdate T x y u) ty (fun _ w' => ∃ o', Mem w' R ((b, o') :: H) ∧ MapIs kf o' (fun j => if j = k then v else m j)) := by
  obtain ⟨es, c, l, rfl, h2, h3⟩ := hM
  have hb : w.heap[b]? = some (.map es c) := hm.own _ (List.mem_cons_self)
  have hp := Ents.put (kf := kf) k v 0 c h2
  have hL : ∀ j, lkB (insB l k v) j = if j = k then v else m j := fun j => by rw [lkB_insB, h3]
  have hg : (getObj b).run P w = .ok (.map es c) w := by simp only [getObj, Sem.run, hb]
  cases hi : idxB l k 0 with
  | none =>
    rw [hi] at hp
    refine .inr (.inl ⟨{ w with heap := w.heap.setIfInBounds b (.map (es.push { key := kf k, val := bl v, born := c }) (c + 1)) }, ?_, .map (es.push { key := kf k, val := bl v, born := c }) (c + 1), Mem.upd0 hm (Upd.put _ hb), _, _, _, rfl, ⟨by simpa using hp.is⟩, hL⟩)
    unfold xop
    show Sem.run P (do Instr.mapUpdate T (evalF fr x) (evalF fr y) (evalF fr u); pure Next.skip) w = _
    rw [hx, hy, hv]
    simp only [Instr.mapUpdate, Sem.run_bind, run_und hu, Result.andThen_ok, hg, hk.check, hk.find k w es.toList l h2, hi]
    have hs : ∀ o', (setObj b o').run P w = .ok () { w with heap := w.heap.setIfInBounds b o' } := fun o' => by simp only [setObj, Sem.run, hb]
    simp only [Option.map_none, hs, Result.andThen_ok, Sem.run_bind, Sem.run_pure]
  | some p =>
    rw [hi] at hp
    obtain ⟨_, h5, h6⟩ := hp
    have hL' : MapIs kf (.map (es.modify p.1 fun e => { e with key := kf k, val := bl v }) c) (fun j => if j = k then v else m j) := ⟨_, _, _, rfl, ⟨by simpa using h6.is⟩, hL⟩
    refine .inr (.inl ⟨{ w with heap := w.heap.setIfInBounds b (.map (es.modify p.1 fun e => { e with key := kf k, val := bl v }) c) }, ?_, _, Mem.upd0 hm (Upd.put _ hb), hL'⟩)
    unfold xop
    show Sem.run P (do Instr.mapUpdate T (evalF fr x) (evalF fr y) (evalF fr u); pure Next.skip) w = _
    rw [hx, hy, hv]
    have hs : ∀ o', (setObj b o').run P w = .ok () { w with heap := w.heap.setIfInBounds b o' } := fun o' => by simp only [setObj, Sem.run, hb]
    have h5' : ((es[p.1]?).map (·.key)).getD (kf k) = kf k := by simpa using h5
    simp only [Instr.mapUpdate, Sem.run_bind, run_und hu, Result.andThen_ok, hg, hk.check, hk.find k w es.toList l h2, hi, Option.map_some, h5', Instr.keyThatStays, hk.same, if_true, Sem.run_pure, hs]
end
end Go.Proofs.Ytfbnhoolkajebaa
