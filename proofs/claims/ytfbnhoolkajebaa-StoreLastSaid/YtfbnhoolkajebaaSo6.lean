/- Contract: the document's pairs of bytes. Conditions: none beyond those that each theorem states. -/
import Derived.Test.YtfbnhoolkajebaaSo4
namespace Go.Proofs.Ytfbnhoolkajebaa
section
set_option linter.unusedVariables false
set_option linter.unusedSimpArgs false
attribute [local irreducible] encK recP num2 num4 rightB allR goneB encV encE
end --m
section
set_option linter.unusedVariables false
set_option linter.unusedSimpArgs false
attribute [local irreducible] natB tkN tkOk kN vN_ oneOk oneR decF decP decV decE rightB
end --m
end Go.Proofs.Ytfbnhoolkajebaa
