/- Equality of pairs: its contract. Conditions: none beyond those that each theorem states. -/
import Derived.Test.YtfbnhoolkajebaaSoE
namespace Go.Proofs.Ytfbnhoolkajebaa
set_option linter.unusedVariables false
set_option linter.unusedSimpArgs false
attribute [local irreducible] natB tkN tkOk kN vN_ oneOk oneR decF decP decV decE rightB encK recP num2 num4 allR goneB encV encE encL encS doO openK openS okS doK commitF lkA keysB
end Go.Proofs.Ytfbnhoolkajebaa
