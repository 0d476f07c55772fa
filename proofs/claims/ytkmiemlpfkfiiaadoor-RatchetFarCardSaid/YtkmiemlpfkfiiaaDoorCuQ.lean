/- The curve: plain laws of the product. Conditions: none beyond those that each theorem states. -/
import Derived.Test.YtkmiemlpfkfiiaaDoorCuP
namespace Go.Proofs.YtkmiemlpfkfiiaaDoor
set_option linter.unusedVariables false
set_option linter.unusedSimpArgs false
theorem clamp_0 {k : Zj} (hk : k.length = 32) : (Xo k).getD 0 0 = k.getD 0 0 &&& ~~~7#8 := by
 unfold Xo; rw [Qkh oM, Qki oM]
end Go.Proofs.YtkmiemlpfkfiiaaDoor
