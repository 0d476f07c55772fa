/- Contracts: the document's product of a point. Conditions: none beyond those that each theorem states. -/
import Derived.Test.YtkmiemlpfkfiiaaDoorTab
import Derived.Test.YtkmiemlpfkfiiaaDoorCuM
import Derived.Test.YtkmiemlpfkfiiaaDoorCu2
import Derived.Test.YtkmiemlpfkfiiaaDoorFwR
namespace Go.Proofs.YtkmiemlpfkfiiaaDoor
section
set_option linter.unusedVariables false
set_option linter.unusedSimpArgs false
end --m
section
set_option linter.unusedVariables false
set_option linter.unusedSimpArgs false
end --m
section
set_option linter.unusedVariables false
set_option linter.unusedSimpArgs false
end --m
section
set_option linter.unusedVariables false
set_option linter.unusedSimpArgs false
attribute [local irreducible] Qe Qz Ql Kw Ea Zi Az Xr Zt
end --m
end Go.Proofs.YtkmiemlpfkfiiaaDoor
