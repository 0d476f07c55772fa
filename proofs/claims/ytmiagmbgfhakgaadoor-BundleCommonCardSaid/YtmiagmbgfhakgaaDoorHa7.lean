/- Contracts: the document's code. Conditions: none beyond those that each theorem states. -/
import Derived.Test.YtmiagmbgfhakgaaDoorHa6
namespace Go.Proofs.YtmiagmbgfhakgaaDoor
set_option linter.unusedVariables false
set_option linter.unusedSimpArgs false

theorem told_true {α : Type} [BEq α] [LawfulBEq α] {a b : α} (h : a = b) : (a == b) = true := by rw [h]; exact beq_self_eq_true b
theorem joinL_one (v : Value) (l : List (BitVec 8)) : joinL [(v, l)] = l := by simp [joinL]
attribute [local irreducible] sumP digestP maskedP hmacP
end Go.Proofs.YtmiagmbgfhakgaaDoor

