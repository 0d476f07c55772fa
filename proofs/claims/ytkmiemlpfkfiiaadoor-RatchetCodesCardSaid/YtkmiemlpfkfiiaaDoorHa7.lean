/- Contracts: the document's code. Conditions: none beyond those that each theorem states. -/
import Derived.Test.YtkmiemlpfkfiiaaDoorHa5
namespace Go.Proofs.YtkmiemlpfkfiiaaDoor
section
set_option linter.unusedVariables false
set_option linter.unusedSimpArgs false
attribute [local irreducible] Vy hAt Qdl Jy Qay Vq rnd
end --m
section
set_option linter.unusedVariables false
set_option linter.unusedSimpArgs false
theorem Dq (v : Value) (l : List (BitVec 8)) : Js [(v, l)] = l := by simp [Js]
attribute [local irreducible] Vy Vb Y4 Ya
end --m
end Go.Proofs.YtkmiemlpfkfiiaaDoor
