/- Plain laws of the stream, and the document's turner. Conditions: none beyond those that each theorem states. -/
import Derived.Test.YtkmiemlpfkfiiaaDoorSt5
import Derived.Test.YtkmiemlpfkfiiaaDoorSt3
namespace Go.Proofs.YtkmiemlpfkfiiaaDoor
set_option linter.unusedVariables false
set_option linter.unusedSimpArgs false
end Go.Proofs.YtkmiemlpfkfiiaaDoor
