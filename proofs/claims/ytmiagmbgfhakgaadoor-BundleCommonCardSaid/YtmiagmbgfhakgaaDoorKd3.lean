/- Contracts: kdf, third part. Conditions: none beyond those that each theorem states. -/
import Derived.Test.YtmiagmbgfhakgaaDoorKd2
namespace Go.Proofs.YtmiagmbgfhakgaaDoor
set_option linter.unusedVariables false
set_option linter.unusedSimpArgs false

@[simp] theorem filled_len {α : Type} (g : Nat → α) (z : α) (n k : Nat) : (filled g z n k).length = k + (n - k) := by simp [filled]
attribute [local irreducible] hmacP tK outK expandP extractP keysQ expandQ errK errP
end Go.Proofs.YtmiagmbgfhakgaaDoor

