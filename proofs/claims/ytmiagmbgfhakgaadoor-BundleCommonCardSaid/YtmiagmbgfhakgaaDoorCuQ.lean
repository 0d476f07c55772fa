/- The curve: plain laws of the product. Conditions: none beyond those that each theorem states. -/
import Derived.Test.YtmiagmbgfhakgaaDoorCuP
namespace Go.Proofs.YtmiagmbgfhakgaaDoor
set_option linter.unusedVariables false
set_option linter.unusedSimpArgs false
/-! Two products, reckoned. -/
/-! Fixed bits, and points that are one. -/
theorem clamp_0 {k : List (BitVec 8)} (hk : k.length = 32) : (clampL k).getD 0 0 = k.getD 0 0 &&& ~~~7#8 := by
  unfold clampL; rw [g8set_ne oM, g8set_eq oM]
end Go.Proofs.YtmiagmbgfhakgaaDoor

