/- The framework, part b: arguments that are structs with arrays among their fields. Conditions: none. -/
import Derived.Test.YtfbnhoolkajebaaFwY
import Derived.Test.YtfbnhoolkajebaaFwa
namespace Go.Proofs.Ytfbnhoolkajebaa
open Go.ChangeShapes Go.WideShapes Go.ChangeAt Go.RowKit
set_option linter.unusedSimpArgs false
set_option linter.unusedVariables false
section
variable {P : Program} {t : TypeId} {f0 f1 f2 f3 : Field} {k0 k1 k2 k3 n : Nat} {C0 C1 C2 C3 : World → List Value → Prop}
theorem opens_sx4 (hu : P.underlying t = some (.struct #[f0, f1, f2, f3])) (hct : P.cellsOf t = n) (hn : n = k0 + (k1 + (k2 + k3))) (o : f0.offset = 0 ∧ f1.offset = k0 ∧ f2.offset = k0 + k1 ∧ f3.offset = k0 + k1 + k2) (c : P.cellsOf f0.type = k0 ∧ P.cellsOf f1.type = k1 ∧ P.cellsOf f2.type = k2 ∧ P.cellsOf f3.type = k3)
    (h0 : Opens P f0.type C0) (h1 : Opens P f1.type C1) (h2 : Opens P f2.type C2) (h3 : Opens P f3.type C3) :
    Opens P t (fun w cs => ∃ c0 c1 c2 c3, cs = c0 ++ (c1 ++ (c2 ++ c3)) ∧ C0 w c0 ∧ C1 w c1 ∧ C2 w c2 ∧ C3 w c3) := by
  refine ⟨fun H en w fuel cs x h => ?_⟩
  obtain ⟨xs, m, _, _, hl, hlen, hf⟩ := DataW.trod_struct hu h
  have g : ∀ (i : Nat) (f : Field) (C : World → List Value → Prop), #[f0, f1, f2, f3][i]? = some f → i < 4 → Opens P f.type C → C w ((cs.drop f.offset).take (P.cellsOf f.type)) := by
    intro i f C hi hi5 hop
    have h5 := hf i f hi
    rw [List.getElem?_eq_getElem (by rw [hlen]; simpa using hi5)] at h5
    exact hop.is H en w m _ _ h5
  have q0 := g 0 f0 C0 rfl (by omega) h0
  have q1 := g 1 f1 C1 rfl (by omega) h1
  have q2 := g 2 f2 C2 rfl (by omega) h2
  have q3 := g 3 f3 C3 rfl (by omega) h3
  rw [o.1, c.1] at q0
  rw [o.2.1, c.2.1] at q1
  rw [o.2.2.1, c.2.2.1] at q2
  rw [o.2.2.2, c.2.2.2] at q3
  rw [hct, hn] at hl
  refine ⟨_, _, _, _, ?_, q0, q1, q2, q3⟩
  have e3 : (cs.drop (k0 + k1 + k2)).take k3 = cs.drop (k0 + k1 + k2) := List.take_of_length_le (by rw [List.length_drop]; omega)
  have e2 : (cs.drop (k0 + k1)).take k2 ++ cs.drop (k0 + k1 + k2) = cs.drop (k0 + k1) := by rw [← List.drop_drop (i := k2)]; exact List.take_append_drop _ _
  have e1 : (cs.drop k0).take k1 ++ cs.drop (k0 + k1) = cs.drop k0 := by rw [← List.drop_drop (i := k1)]; exact List.take_append_drop _ _
  rw [e3, e2, e1, List.drop_zero, List.take_append_drop]
end
end Go.Proofs.Ytfbnhoolkajebaa
