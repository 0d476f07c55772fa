/- Contracts: the document's product of a point. Conditions: none beyond those that each theorem states. -/
import Derived.Test.YtmiagmbgfhakgaaDoorCu3
import Derived.Test.YtmiagmbgfhakgaaDoorCuO
import Derived.Test.YtmiagmbgfhakgaaDoorFwR
namespace Go.Proofs.YtmiagmbgfhakgaaDoor
set_option linter.unusedVariables false
set_option linter.unusedSimpArgs false
attribute [local irreducible] timesL sumL lessL invGo readGo readL bytesE multL ladGo
end Go.Proofs.YtmiagmbgfhakgaaDoor

