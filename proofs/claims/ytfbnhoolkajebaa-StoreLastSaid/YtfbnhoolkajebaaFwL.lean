/- The framework, part L: what the arguments of a law are. Conditions: none. -/
import Derived.Test.YtfbnhoolkajebaaFwM
import Derived.WalkKit
import Derived.ProofKit
import Derived.OpenShut
import Derived.ShutString
import Derived.ChangeOld
import Derived.ChangeArms
import Derived.ChangeSlices
import Derived.Below
namespace Go.Proofs.Ytfbnhoolkajebaa
open Go.ChangeShapes Go.WideShapes Go.ChangeAt Go.RowKit
set_option linter.unusedSimpArgs false
set_option linter.unusedVariables false

/-- Whatever is read at a type is of this form. -/
structure Opens (P : Program) (t : TypeId) (Q : World → List Value → Prop) : Prop where
  is : ∀ (H : Type) (enc : TypeId × Value → H) (w : World) (fuel : Nat) (cs : List Value) (x : DataW H × List MemPlace), DataW.trod enc P w 0 (fun _ => true) true fuel t cs = some x → Q w cs
section
variable {P : Program} {t e : TypeId} {n : Nat} {Q : World → List Value → Prop} {α : Type} {f : α → Value}
theorem Opens.mono {Q' : World → List Value → Prop} (h : Opens P t Q) (hm : ∀ w cs, Q w cs → Q' w cs) : Opens P t Q' := ⟨fun H enc w fuel cs x hx => hm _ _ (h.is H enc w fuel cs x hx)⟩
theorem opens_i64 (hu : P.underlying t = some (.int .i64)) : Opens P t (fun _ cs => ∃ n : Int, cs = [i64 n] ∧ -9223372036854775808 ≤ n ∧ n ≤ 9223372036854775807) := by
  refine ⟨fun H enc w fuel cs x h => ?_⟩
  obtain ⟨n, rfl, _, hw⟩ := DataW.trod_int hu h
  simp only [Lit.wf, Bool.and_eq_true, decide_eq_true_eq] at hw
  exact ⟨n, rfl, hw.1, hw.2⟩
theorem opens_u8 (hu : P.underlying t = some (.int .u8)) : Opens P t (fun _ cs => ∃ a : BitVec 8, cs = [u8 a]) := by
  refine ⟨fun H enc w fuel cs x h => ?_⟩
  obtain ⟨n, rfl, _, hw⟩ := DataW.trod_int hu h
  simp only [Lit.wf, Bool.and_eq_true, decide_eq_true_eq] at hw
  have h0 : 0 ≤ n := hw.1
  have h1 : n ≤ 255 := hw.2
  refine ⟨BitVec.ofNat 8 n.toNat, ?_⟩
  unfold u8
  rw [BitVec.toNat_ofNat, Nat.mod_eq_of_lt (by omega)]
  rw [Int.toNat_of_nonneg h0]

theorem cells_of_one {w : World} {a : Addr} {cs : List Value} (h : w.cells? 0 a 1 = some cs) : ∃ v, w.cell? a = some v ∧ cs = [v] := by
  simp only [World.cells?, Nat.zero_le, if_true, List.range_one] at h
  simp only [List.mapM_cons, List.mapM_nil] at h
  have ea : a.add 0 = a := by cases a; simp [Addr.add]
  rw [ea] at h
  cases hv : w.cell? a with
  | none => rw [hv] at h; simp at h
  | some v => rw [hv] at h; simp at h; exact ⟨v, rfl, h.symm⟩
theorem cell_some {w : World} {a : Addr} {v : Value} (h : w.cell? a = some v) : a.spot = none ∧ ∃ c E fz, w.heap[a.block]? = some (.cells c E fz) ∧ c[a.off]? = some v := by
  unfold World.cell? at h
  split at h
  · next c E fz hb =>
    cases hs : a.spot with
    | none => rw [hs] at h; simp at h; exact ⟨rfl, c, E, fz, hb, h⟩
    | some s => rw [hs] at h; simp at h
  · simp at h
theorem opens_sl1 (hu : P.underlying t = some (.slice e)) (hc : P.cellsOf e = 1) (he : Opens P e (fun _ cs => ∃ a, cs = [f a])) :
    Opens P t (fun w cs => ∃ (v : Value) (l : List α), cs = [v] ∧ Rd (blks w) f v l ∧ l.length ≤ 9223372036854775807) := by
  refine ⟨fun H enc w fuel cs x h => ?_⟩
  rcases DataW.trod_slice hu h with ⟨rfl, _⟩ | ⟨a, len, cap, elems, rest, m, _, rfl, _, _, hl, hm, hlen, hel, _, _⟩
  · exact ⟨_, [], rfl, Rd.nil _ _, by simp⟩
  · rw [hc] at hel
    have each : ∀ i, i < len → ∃ b : α, w.cell? (a.add i) = some (f b) := by
      intro i hi
      have h1 := hel i hi
      rw [List.getElem?_eq_getElem (by omega), Nat.mul_one] at h1
      obtain ⟨cs', h2, h3⟩ := Option.bind_eq_some_iff.1 h1
      obtain ⟨v, h4, rfl⟩ := cells_of_one h2
      obtain ⟨b, hb⟩ := he.is H enc w m _ _ h3
      exact ⟨b, by rw [h4]; simpa using hb⟩
    obtain ⟨l, hll, hl'⟩ : ∃ l : List α, l.length = len ∧ ∀ i (h : i < l.length), w.cell? (a.add i) = some (f l[i]) := by
      have : ∀ k, k ≤ len → ∃ l : List α, l.length = k ∧ ∀ i (h : i < l.length), w.cell? (a.add i) = some (f l[i]) := by
        intro k
        induction k with
        | zero => intro _; exact ⟨[], rfl, fun i h => by simp at h⟩
        | succ k ih =>
          intro hk
          obtain ⟨l, h1, h2⟩ := ih (by omega)
          obtain ⟨b, hb⟩ := each k (by omega)
          refine ⟨l ++ [b], by simp [h1], fun i h => ?_⟩
          by_cases hi : i < l.length
          · rw [List.getElem_append_left hi]; exact h2 i hi
          · have : i = k := by simp at h; omega
            subst this
            rw [List.getElem_append_right (by omega)]
            simpa [h1] using hb
      exact this len (Nat.le_refl _)
    subst hll
    refine ⟨_, l, rfl, ⟨some a, cap, rfl, hl, fun i hi => ?_⟩, by unfold maxLen at hm; omega⟩
    obtain ⟨b, off, sp⟩ := a
    have h0 := hl' 0 (by omega)
    have ea : (Addr.mk b off sp).add 0 = ⟨b, off, sp⟩ := by simp [Addr.add]
    rw [ea] at h0
    obtain ⟨hs0, _⟩ := cell_some h0
    simp only at hs0
    subst hs0
    obtain ⟨hs, c, E, fz, hb, hcc⟩ := cell_some (hl' i hi)
    rw [add_none] at hb hcc
    exact ⟨b, off, c, E, fz, rfl, hb, hcc⟩
theorem opens_slq {q : World → α → Prop} (hu : P.underlying t = some (.slice e)) (hc : P.cellsOf e = 1) (he : Opens P e (fun w cs => ∃ a, cs = [f a] ∧ q w a)) :
    Opens P t (fun w cs => ∃ (v : Value) (l : List α), cs = [v] ∧ Rd (blks w) f v l ∧ (∀ a ∈ l, q w a) ∧ l.length ≤ 9223372036854775807) := by
  refine ⟨fun H enc w fuel cs x h => ?_⟩
  rcases DataW.trod_slice hu h with ⟨rfl, _⟩ | ⟨a, len, cap, elems, rest, m, _, rfl, _, _, hl, hm, hlen, hel, _, _⟩
  · exact ⟨_, [], rfl, Rd.nil _ _, by simp, by simp⟩
  · rw [hc] at hel
    have each : ∀ i, i < len → ∃ b : α, w.cell? (a.add i) = some (f b) ∧ q w b := by
      intro i hi
      have h1 := hel i hi
      rw [List.getElem?_eq_getElem (by omega), Nat.mul_one] at h1
      obtain ⟨cs', h2, h3⟩ := Option.bind_eq_some_iff.1 h1
      obtain ⟨v, h4, rfl⟩ := cells_of_one h2
      obtain ⟨b, hb, hq⟩ := he.is H enc w m _ _ h3
      exact ⟨b, by rw [h4]; simpa using hb, hq⟩
    obtain ⟨l, hll, hl', hql⟩ : ∃ l : List α, l.length = len ∧ (∀ i (h : i < l.length), w.cell? (a.add i) = some (f l[i])) ∧ ∀ a ∈ l, q w a := by
      have : ∀ k, k ≤ len → ∃ l : List α, l.length = k ∧ (∀ i (h : i < l.length), w.cell? (a.add i) = some (f l[i])) ∧ ∀ a ∈ l, q w a := by
        intro k
        induction k with
        | zero => intro _; exact ⟨[], rfl, fun i h => by simp at h, by simp⟩
        | succ k ih =>
          intro hk
          obtain ⟨l, h1, h2, h5⟩ := ih (by omega)
          obtain ⟨b, hb, hqb⟩ := each k (by omega)
          refine ⟨l ++ [b], by simp [h1], fun i h => ?_, fun a ha => by
            rcases List.mem_append.1 ha with h6 | h6
            · exact h5 a h6
            · rw [List.mem_singleton.1 h6]; exact hqb⟩
          by_cases hi : i < l.length
          · rw [List.getElem_append_left hi]; exact h2 i hi
          · have : i = k := by simp at h; omega
            subst this
            rw [List.getElem_append_right (by omega)]
            simpa [h1] using hb
      exact this len (Nat.le_refl _)
    subst hll
    refine ⟨_, l, rfl, ⟨some a, cap, rfl, hl, fun i hi => ?_⟩, hql, by unfold maxLen at hm; omega⟩
    obtain ⟨b, off, sp⟩ := a
    have h0 := hl' 0 (by omega)
    have ea : (Addr.mk b off sp).add 0 = ⟨b, off, sp⟩ := by simp [Addr.add]
    rw [ea] at h0
    obtain ⟨hs0, _⟩ := cell_some h0
    simp only at hs0
    subst hs0
    obtain ⟨hs, c, E, fz, hb, hcc⟩ := cell_some (hl' i hi)
    rw [add_none] at hb hcc
    exact ⟨b, off, c, E, fz, rfl, hb, hcc⟩
end
/-! The arguments themselves. -/
section
variable {P : Program} {W : World} {r : Reach} {b0 : Nat} {t e : TypeId} {n : Nat} {α : Type} {f : α → Value} {v : Value} {H : Type} {enc : TypeId × Value → H} {d : DataW H} {ps : List MemPlace} {Q : World → List Value → Prop}
theorem Opens.of (ho : Opens P t Q) (h : DataW.Trod enc P W 0 (fun _ => true) true t v d ps) : Q W v.cells.toList := by
  obtain ⟨fuel, hf⟩ := h
  exact ho.is H enc W fuel _ _ hf
theorem one_of {u : Value} {dd : TypeDesc} (hu : P.underlying t = some dd) (ha : aggD dd = false) (hval : Value.okWide P W r b0 t v) (h : v.cells.toList = [u]) : v = u := by
  have hna : ∀ c, v ≠ .agg c := by
    rintro c rfl
    unfold Value.okWide at hval
    rw [hu] at hval
    cases dd <;> simp_all [Cell.okWide, Cell.ok, aggD]
  cases v <;> simp_all [Value.cells]
theorem arg_sl (hu : P.underlying t = some (.slice e)) (ho : Opens P t (fun w cs => ∃ (v : Value) (l : List α), cs = [v] ∧ Rd (blks w) f v l ∧ l.length ≤ 9223372036854775807)) (hval : Value.okWide P W r b0 t v) (h : DataW.Trod enc P W 0 (fun _ => true) true t v d ps) :
    ∃ l : List α, Rd (blks W) f v l ∧ l.length ≤ 9223372036854775807 := by
  obtain ⟨u, l, h1, h2, h3⟩ := ho.of h
  obtain rfl := one_of hu rfl hval h1
  exact ⟨l, h2, h3⟩
theorem arg_slq {q : World → α → Prop} (hu : P.underlying t = some (.slice e)) (ho : Opens P t (fun w cs => ∃ (v : Value) (l : List α), cs = [v] ∧ Rd (blks w) f v l ∧ (∀ a ∈ l, q w a) ∧ l.length ≤ 9223372036854775807)) (hval : Value.okWide P W r b0 t v) (h : DataW.Trod enc P W 0 (fun _ => true) true t v d ps) :
    ∃ l : List α, Rd (blks W) f v l ∧ (∀ a ∈ l, q W a) ∧ l.length ≤ 9223372036854775807 := by
  obtain ⟨u, l, h1, h2, h3, h4⟩ := ho.of h
  obtain rfl := one_of hu rfl hval h1
  exact ⟨l, h2, h3, h4⟩
theorem arg_i64 (hu : P.underlying t = some (.int .i64)) (hval : Value.okWide P W r b0 t v) (h : DataW.Trod enc P W 0 (fun _ => true) true t v d ps) : ∃ n : Int, v = i64 n ∧ -9223372036854775808 ≤ n ∧ n ≤ 9223372036854775807 := by
  obtain ⟨n, h1, h2, h3⟩ := (opens_i64 hu).of h
  exact ⟨n, one_of hu rfl hval h1, h2, h3⟩
end
end Go.Proofs.Ytfbnhoolkajebaa
