/- The framework, part L: what the arguments of a law are. Conditions: none. -/
import Derived.Test.YtkmiemlpfkfiiaaDoorFwJ
import Derived.WalkKit
import Derived.ProofKit
import Derived.OpenShut
import Derived.ShutString
import Derived.ChangeOld
import Derived.ChangeArms
import Derived.ChangeSlices
import Derived.Below
namespace Go.Proofs.YtkmiemlpfkfiiaaDoor
open Go.ChangeShapes Go.WideShapes Go.ChangeAt Go.RowKit
set_option linter.unusedSimpArgs false
set_option linter.unusedVariables false
structure Opens (P : Program) (t : TypeId) (Q : World → List Value → Prop) : Prop where
  is : ∀ (H : Type) (enc : TypeId × Value → H) (w : World) (fuel : Nat) (cs : List Value) (x : DataW H × List MemPlace), DataW.trod enc P w 0 (fun _ => true) true fuel t cs = some x → Q w cs
section
variable {P : Program} {t e : TypeId} {n : Nat} {Q : World → List Value → Prop} {α : Type} {f : α → Value}
theorem Opens.mono {Q' : World → List Value → Prop} (h : Opens P t Q) (hm : ∀ w cs, Q w cs → Q' w cs) : Opens P t Q' := ⟨fun H enc w fuel cs x hx => hm _ _ (h.is H enc w fuel cs x hx)⟩
theorem Ns (hu : P.underlying t = some (.int .i64)) : Opens P t (fun _ cs => ∃ n : Int, cs = [i64 n] ∧ -9223372036854775808 ≤ n ∧ n ≤ 9223372036854775807) := by
  refine ⟨fun H enc w fuel cs x h => ?_⟩
  obtain ⟨n, rfl, _, hw⟩ := DataW.trod_int hu h
  simp only [Lit.wf, Bool.and_eq_true, decide_eq_true_eq] at hw
  exact ⟨n, rfl, hw.1, hw.2⟩
theorem Qcs (hu : P.underlying t = some .bool) : Opens P t (fun _ cs => ∃ b, cs = [bl b]) := by
  refine ⟨fun H enc w fuel cs x h => ?_⟩
  obtain ⟨b, rfl, _⟩ := DataW.trod_bool hu h
  exact ⟨b, rfl⟩
theorem Ep (hu : P.underlying t = some (.int .u8)) : Opens P t (fun _ cs => ∃ a : BitVec 8, cs = [u8 a]) := by
  refine ⟨fun H enc w fuel cs x h => ?_⟩
  obtain ⟨n, rfl, _, hw⟩ := DataW.trod_int hu h
  simp only [Lit.wf, Bool.and_eq_true, decide_eq_true_eq] at hw
  have h0 : 0 ≤ n := hw.1
  have h1 : n ≤ 255 := hw.2
  refine ⟨BitVec.ofNat 8 n.toNat, ?_⟩
  unfold u8
  rw [BitVec.toNat_ofNat, Nat.mod_eq_of_lt (by omega)]
  rw [Int.toNat_of_nonneg h0]
theorem all_map {l : List Value} (h : ∀ i, i < l.length → ∃ a, l[i]? = some (f a)) : ∃ m : List α, l = m.map f := by
  induction l with
  | nil => exact ⟨[], rfl⟩
  | cons v l ih =>
    obtain ⟨a, ha⟩ := h 0 (by simp)
    obtain ⟨m, rfl⟩ := ih fun i hi => by
      obtain ⟨b, hb⟩ := h (i + 1) (by simp; omega)
      exact ⟨b, by simpa using hb⟩
    simp at ha
    exact ⟨a :: m, by simp [ha]⟩
theorem U7 (hu : P.underlying t = some (.array n e)) (hc : P.cellsOf e = 1) (hc' : P.cellsOf t = n) (he : Opens P e (fun _ cs => ∃ a, cs = [f a])) : Opens P t (fun _ cs => ∃ l : List α, cs = l.map f ∧ l.length = n) := by
  refine ⟨fun H enc w fuel cs x h => ?_⟩
  obtain ⟨xs, m, _, _, hl, hx, hi⟩ := DataW.trod_array hu h
  rw [hc'] at hl
  obtain ⟨l, rfl⟩ : ∃ l : List α, cs = l.map f := all_map fun i hlt => by
    have hi' := hi i (by omega)
    have hlt2 : i < xs.length := by omega
    rw [List.getElem?_eq_getElem hlt2, hc] at hi'
    obtain ⟨a, ha⟩ := he.is H enc w m _ _ hi'
    refine ⟨a, ?_⟩
    have hd : (cs.drop (i * 1)).take 1 = [f a] := ha
    rw [Nat.mul_one] at hd
    have := congrArg (fun l => l[0]?) hd
    simpa [List.getElem?_take, List.getElem?_drop] using this
  exact ⟨l, rfl, by simpa using hl⟩
theorem Qer {w : World} {a : Addr} {cs : List Value} (h : w.cells? 0 a 1 = some cs) : ∃ v, w.cell? a = some v ∧ cs = [v] := by
  simp only [World.cells?, Nat.zero_le, if_true, List.range_one] at h
  simp only [List.mapM_cons, List.mapM_nil] at h
  have ea : a.add 0 = a := by cases a; simp [Addr.add]
  rw [ea] at h
  cases hv : w.cell? a with
  | none => rw [hv] at h; simp at h
  | some v => rw [hv] at h; simp at h; exact ⟨v, rfl, h.symm⟩
theorem Ac {w : World} {a : Addr} {v : Value} (h : w.cell? a = some v) : a.spot = none ∧ ∃ c E fz, w.heap[a.block]? = some (.cells c E fz) ∧ c[a.off]? = some v := by
  unfold World.cell? at h
  split at h
  · next c E fz hb =>
    cases hs : a.spot with
    | none => rw [hs] at h; simp at h; exact ⟨rfl, c, E, fz, hb, h⟩
    | some s => rw [hs] at h; simp at h
  · simp at h
theorem Qhg (hu : P.underlying t = some (.slice e)) (hc : P.cellsOf e = 1) (he : Opens P e (fun _ cs => ∃ a, cs = [f a])) :
    Opens P t (fun w cs => ∃ (v : Value) (l : List α), cs = [v] ∧ Rd (Y3 w) f v l ∧ l.length ≤ 9223372036854775807) := by
  refine ⟨fun H enc w fuel cs x h => ?_⟩
  rcases DataW.trod_slice hu h with ⟨rfl, _⟩ | ⟨a, len, cap, elems, rest, m, _, rfl, _, _, hl, hm, hlen, hel, _, _⟩
  · exact ⟨_, [], rfl, Rd.nil _ _, by simp⟩
  · rw [hc] at hel
    have each : ∀ i, i < len → ∃ b : α, w.cell? (a.add i) = some (f b) := by
      intro i hi
      have h1 := hel i hi
      rw [List.getElem?_eq_getElem (by omega), Nat.mul_one] at h1
      obtain ⟨cs', h2, h3⟩ := Option.bind_eq_some_iff.1 h1
      obtain ⟨v, h4, rfl⟩ := Qer h2
      obtain ⟨b, hb⟩ := he.is H enc w m _ _ h3
      exact ⟨b, by rw [h4]; simpa using hb⟩
    obtain ⟨l, hll, hl'⟩ : ∃ l : List α, l.length = len ∧ ∀ i (h : i < l.length), w.cell? (a.add i) = some (f l[i]) := by
      have : ∀ k, k ≤ len → ∃ l : List α, l.length = k ∧ ∀ i (h : i < l.length), w.cell? (a.add i) = some (f l[i]) := by
        intro k
        induction k with
        | zero => intro _; exact ⟨[], rfl, fun i h => by simp at h⟩
        | succ k ih =>
          intro hk
          obtain ⟨l, h1, h2⟩ := ih (by omega)
          obtain ⟨b, hb⟩ := each k (by omega)
          refine ⟨l ++ [b], by simp [h1], fun i h => ?_⟩
          by_cases hi : i < l.length
          · rw [List.getElem_append_left hi]; exact h2 i hi
          · have : i = k := by simp at h; omega
            subst this
            rw [List.getElem_append_right (by omega)]
            simpa [h1] using hb
      exact this len (Nat.le_refl _)
    subst hll
    refine ⟨_, l, rfl, ⟨some a, cap, rfl, hl, fun i hi => ?_⟩, by unfold maxLen at hm; omega⟩
    obtain ⟨b, off, sp⟩ := a
    have h0 := hl' 0 (by omega)
    have ea : (Addr.mk b off sp).add 0 = ⟨b, off, sp⟩ := by simp [Addr.add]
    rw [ea] at h0
    obtain ⟨hs0, _⟩ := Ac h0
    simp only at hs0
    subst hs0
    obtain ⟨hs, c, E, fz, hb, hcc⟩ := Ac (hl' i hi)
    rw [Jl] at hb hcc
    exact ⟨b, off, c, E, fz, rfl, hb, hcc⟩
end
section
variable {P : Program} {W : World} {r : Reach} {b0 : Nat} {t e : TypeId} {n : Nat} {α : Type} {f : α → Value} {v : Value} {H : Type} {enc : TypeId × Value → H} {d : DataW H} {ps : List MemPlace} {Q : World → List Value → Prop}
theorem Opens.of (ho : Opens P t Q) (h : DataW.Trod enc P W 0 (fun _ => true) true t v d ps) : Q W v.cells.toList := by
  obtain ⟨fuel, hf⟩ := h
  exact ho.is H enc W fuel _ _ hf
theorem one_of {u : Value} {dd : TypeDesc} (hu : P.underlying t = some dd) (ha : Dn dd = false) (hval : Value.okWide P W r b0 t v) (h : v.cells.toList = [u]) : v = u := by
  have hna : ∀ c, v ≠ .agg c := by
    rintro c rfl
    unfold Value.okWide at hval
    rw [hu] at hval
    cases dd <;> simp_all [Cell.okWide, Cell.ok, Dn]
  cases v <;> simp_all [Value.cells]
theorem arg_sl (hu : P.underlying t = some (.slice e)) (ho : Opens P t (fun w cs => ∃ (v : Value) (l : List α), cs = [v] ∧ Rd (Y3 w) f v l ∧ l.length ≤ 9223372036854775807)) (hval : Value.okWide P W r b0 t v) (h : DataW.Trod enc P W 0 (fun _ => true) true t v d ps) :
    ∃ l : List α, Rd (Y3 W) f v l ∧ l.length ≤ 9223372036854775807 := by
  obtain ⟨u, l, h1, h2, h3⟩ := ho.of h
  obtain rfl := one_of hu rfl hval h1
  exact ⟨l, h2, h3⟩
end
end Go.Proofs.YtkmiemlpfkfiiaaDoor
