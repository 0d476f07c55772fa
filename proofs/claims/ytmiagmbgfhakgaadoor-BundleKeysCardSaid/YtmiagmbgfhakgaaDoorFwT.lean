/- The framework, part T: arguments that are structs of two rows. Conditions: none. -/
import Derived.Test.YtmiagmbgfhakgaaDoorFwL
import Derived.Test.YtmiagmbgfhakgaaDoorFwQ
import Derived.ChangeSame
namespace Go.Proofs.YtmiagmbgfhakgaaDoor
open Go.ChangeShapes Go.WideShapes Go.ChangeAt Go.RowKit
set_option linter.unusedSimpArgs false
set_option linter.unusedVariables false

section
variable {P : Program} {t e K : TypeId} {n : Nat} {α : Type} {f : α → Value} {f1 f2 : Field} {H : Type} {enc : TypeId × Value → H} {r : Reach} {b0 : Nat} {W : World} {v : Value} {d : DataW H} {ps : List MemPlace}
theorem opens_two (hu : P.underlying t = some (.struct #[f1, f2])) (t1 : f1.type = K) (t2 : f2.type = K) (o1 : f1.offset = 0) (o2 : f2.offset = n) (hc : P.cellsOf K = n) (hct : P.cellsOf t = n + n) (ho : Opens P K (fun _ cs => ∃ l : List α, cs = l.map f ∧ l.length = n)) :
    Opens P t (fun _ cs => ∃ l m : List α, cs = l.map f ++ m.map f ∧ l.length = n ∧ m.length = n) := by
  refine ⟨fun H enc w fuel cs x h => ?_⟩
  obtain ⟨y0, y1, k, _, hl, h1, h2⟩ := trod_struct2 hu h
  rw [t1, o1, hc] at h1
  rw [t2, o2, hc] at h2
  obtain ⟨l, e1, hl1⟩ := ho.is H enc w k _ _ h1
  obtain ⟨m, e2, hl2⟩ := ho.is H enc w k _ _ h2
  refine ⟨l, m, ?_, hl1, hl2⟩
  rw [hct] at hl
  rw [List.drop_zero] at e1
  rw [List.take_of_length_le (by rw [List.length_drop]; omega)] at e2
  rw [← e1, ← e2, List.take_append_drop]
theorem arg_two (hu : P.underlying t = some (.struct #[f1, f2])) (ho : Opens P t (fun _ cs => ∃ l m : List α, cs = l.map f ++ m.map f ∧ l.length = n ∧ m.length = n)) (hval : Value.okWide P W r b0 t v) (h : DataW.Trod enc P W 0 (fun _ => true) true t v d ps) :
    ∃ l m : List α, v = .agg (segs [l.map f, m.map f]) ∧ l.length = n ∧ m.length = n := by
  simp only [Value.okWide, hu] at hval
  obtain ⟨cs, rfl, _⟩ := hval
  obtain ⟨l, m, hl, hn, hm⟩ := ho.of h
  refine ⟨l, m, ?_, hn, hm⟩
  have : cs.toList = l.map f ++ m.map f := by simpa [Value.cells] using hl
  congr 1
  apply Array.ext'
  rw [this]; simp [segs]
end
end Go.Proofs.YtmiagmbgfhakgaaDoor

