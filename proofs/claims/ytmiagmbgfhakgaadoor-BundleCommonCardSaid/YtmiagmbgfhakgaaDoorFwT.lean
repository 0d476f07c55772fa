/- The framework, part T: arguments that are structs of two rows. Conditions: none. -/
import Derived.Test.YtmiagmbgfhakgaaDoorFwL
import Derived.Test.YtmiagmbgfhakgaaDoorFwQ
import Derived.ChangeSame
namespace Go.Proofs.YtmiagmbgfhakgaaDoor
open Go.ChangeShapes Go.WideShapes Go.ChangeAt Go.RowKit
set_option linter.unusedSimpArgs false
set_option linter.unusedVariables false

section
variable {P : Program} {t e K : TypeId} {n : Nat} {α : Type} {f : α → Value} {f1 f2 : Field} {H : Type} {enc : TypeId × Value → H} {r : Reach} {b0 : Nat} {W : World} {v : Value} {d : DataW H} {ps : List MemPlace}
end
end Go.Proofs.YtmiagmbgfhakgaaDoor

