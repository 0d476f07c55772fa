/- Contracts: the document's hash. Conditions: none beyond those that each theorem states. -/
import Derived.Test.YtmiagmbgfhakgaaDoorHa5
namespace Go.Proofs.YtmiagmbgfhakgaaDoor
set_option linter.unusedVariables false
set_option linter.unusedSimpArgs false

attribute [local irreducible] sumP hAt takeP schedP rndsGo schedGo rnd
end Go.Proofs.YtmiagmbgfhakgaaDoor

