/- The curve: the document's numbers, plain. Conditions: none beyond those that each theorem states. -/
import Derived.Test.YtmiagmbgfhakgaaDoorTab
import Derived.Test.YtmiagmbgfhakgaaDoorCuM
namespace Go.Proofs.YtmiagmbgfhakgaaDoor
set_option linter.unusedVariables false
set_option linter.unusedSimpArgs false
/-! The document's numbers: sixteen limbs, as they are reckoned with. -/
/-! What stays small. -/
end Go.Proofs.YtmiagmbgfhakgaaDoor

