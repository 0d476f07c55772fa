/- The framework, part L: what the arguments of a law are. Conditions: none. -/
import Derived.Test.YtmiagmbgfhakgaaDoorFwJ
import Derived.WalkKit
import Derived.ProofKit
import Derived.OpenShut
import Derived.ShutString
import Derived.ChangeOld
import Derived.ChangeArms
import Derived.ChangeSlices
import Derived.Below
namespace Go.Proofs.YtmiagmbgfhakgaaDoor
open Go.ChangeShapes Go.WideShapes Go.ChangeAt Go.RowKit
set_option linter.unusedSimpArgs false
set_option linter.unusedVariables false

/-- Whatever is read at a type is of this form. -/
structure Opens (P : Program) (t : TypeId) (Q : World → List Value → Prop) : Prop where
  is : ∀ (H : Type) (enc : TypeId × Value → H) (w : World) (fuel : Nat) (cs : List Value) (x : DataW H × List MemPlace), DataW.trod enc P w 0 (fun _ => true) true fuel t cs = some x → Q w cs
section
variable {P : Program} {t e : TypeId} {n : Nat} {Q : World → List Value → Prop} {α : Type} {f : α → Value}
theorem Opens.mono {Q' : World → List Value → Prop} (h : Opens P t Q) (hm : ∀ w cs, Q w cs → Q' w cs) : Opens P t Q' := ⟨fun H enc w fuel cs x hx => hm _ _ (h.is H enc w fuel cs x hx)⟩
theorem opens_u8 (hu : P.underlying t = some (.int .u8)) : Opens P t (fun _ cs => ∃ a : BitVec 8, cs = [u8 a]) := by
  refine ⟨fun H enc w fuel cs x h => ?_⟩
  obtain ⟨n, rfl, _, hw⟩ := DataW.trod_int hu h
  simp only [Lit.wf, Bool.and_eq_true, decide_eq_true_eq] at hw
  have h0 : 0 ≤ n := hw.1
  have h1 : n ≤ 255 := hw.2
  refine ⟨BitVec.ofNat 8 n.toNat, ?_⟩
  unfold u8
  rw [BitVec.toNat_ofNat, Nat.mod_eq_of_lt (by omega)]
  rw [Int.toNat_of_nonneg h0]

/-- A list of values each of which is one. -/
theorem all_map {l : List Value} (h : ∀ i, i < l.length → ∃ a, l[i]? = some (f a)) : ∃ m : List α, l = m.map f := by
  induction l with
  | nil => exact ⟨[], rfl⟩
  | cons v l ih =>
    obtain ⟨a, ha⟩ := h 0 (by simp)
    obtain ⟨m, rfl⟩ := ih fun i hi => by
      obtain ⟨b, hb⟩ := h (i + 1) (by simp; omega)
      exact ⟨b, by simpa using hb⟩
    simp at ha
    exact ⟨a :: m, by simp [ha]⟩
theorem opens_arr1 (hu : P.underlying t = some (.array n e)) (hc : P.cellsOf e = 1) (hc' : P.cellsOf t = n) (he : Opens P e (fun _ cs => ∃ a, cs = [f a])) : Opens P t (fun _ cs => ∃ l : List α, cs = l.map f ∧ l.length = n) := by
  refine ⟨fun H enc w fuel cs x h => ?_⟩
  obtain ⟨xs, m, _, _, hl, hx, hi⟩ := DataW.trod_array hu h
  rw [hc'] at hl
  obtain ⟨l, rfl⟩ : ∃ l : List α, cs = l.map f := all_map fun i hlt => by
    have hi' := hi i (by omega)
    have hlt2 : i < xs.length := by omega
    rw [List.getElem?_eq_getElem hlt2, hc] at hi'
    obtain ⟨a, ha⟩ := he.is H enc w m _ _ hi'
    refine ⟨a, ?_⟩
    have hd : (cs.drop (i * 1)).take 1 = [f a] := ha
    rw [Nat.mul_one] at hd
    have := congrArg (fun l => l[0]?) hd
    simpa [List.getElem?_take, List.getElem?_drop] using this
  exact ⟨l, rfl, by simpa using hl⟩
end
/-! The arguments themselves. -/
section
variable {P : Program} {W : World} {r : Reach} {b0 : Nat} {t e : TypeId} {n : Nat} {α : Type} {f : α → Value} {v : Value} {H : Type} {enc : TypeId × Value → H} {d : DataW H} {ps : List MemPlace} {Q : World → List Value → Prop}
theorem Opens.of (ho : Opens P t Q) (h : DataW.Trod enc P W 0 (fun _ => true) true t v d ps) : Q W v.cells.toList := by
  obtain ⟨fuel, hf⟩ := h
  exact ho.is H enc W fuel _ _ hf
theorem arg_arr (hu : P.underlying t = some (.array n e)) (ho : Opens P t (fun _ cs => ∃ l : List α, cs = l.map f ∧ l.length = n)) (hval : Value.okWide P W r b0 t v) (h : DataW.Trod enc P W 0 (fun _ => true) true t v d ps) :
    ∃ l : List α, v = agg f l ∧ l.length = n := by
  simp only [Value.okWide, hu] at hval
  obtain ⟨cs, rfl, _⟩ := hval
  obtain ⟨l, hl, hn⟩ := ho.of h
  refine ⟨l, ?_, hn⟩
  have : cs.toList = l.map f := by simpa [Value.cells] using hl
  unfold agg cl
  rw [← this]
end
end Go.Proofs.YtmiagmbgfhakgaaDoor

