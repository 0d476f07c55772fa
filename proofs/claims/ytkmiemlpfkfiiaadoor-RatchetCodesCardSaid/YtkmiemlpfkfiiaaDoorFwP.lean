/- The framework, part P: slices of an element of a slice of rows. Conditions: none. -/
import Derived.Test.YtkmiemlpfkfiiaaDoorFwO
namespace Go.Proofs.YtkmiemlpfkfiiaaDoor
set_option linter.unusedSimpArgs false
set_option linter.unusedVariables false
section
variable {P : Program} {fr : Nat → Value} {w : World} {ty T U E A : TypeId} {x y : Operand} {d : TypeDesc} {z : Option Value} {n kb k : Nat} {R : Rest} {H Hs : List (Nat × Obj)} {α : Type} {f : α → Value} {v : Value} {l : List α} {vs : List (List α)} {m : Nat → Option Obj}
end
end Go.Proofs.YtkmiemlpfkfiiaaDoor
