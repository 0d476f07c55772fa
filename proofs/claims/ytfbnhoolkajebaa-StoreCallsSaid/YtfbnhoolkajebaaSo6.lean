/- Contract: the document's pairs of bytes. Conditions: none beyond those that each theorem states. -/
import Derived.Test.YtfbnhoolkajebaaSo5
namespace Go.Proofs.Ytfbnhoolkajebaa
set_option linter.unusedVariables false
set_option linter.unusedSimpArgs false
attribute [local irreducible] natB tkN tkOk kN vN_ oneOk oneR decF decP decV decE rightB
end Go.Proofs.Ytfbnhoolkajebaa
