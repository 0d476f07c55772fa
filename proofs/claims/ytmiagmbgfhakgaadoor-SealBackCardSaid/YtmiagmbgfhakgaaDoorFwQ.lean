/- The framework, part Q: structs and rows as segments; sums with carry; shifts of whole numbers. Conditions: none. -/
import Derived.Test.YtmiagmbgfhakgaaDoorFwP
import Derived.Laws.Externs
namespace Go.Proofs.YtmiagmbgfhakgaaDoor
set_option linter.unusedSimpArgs false
set_option linter.unusedVariables false

section
variable {P : Program} {fr : Nat → Value} {w : World} {ty T U E A : TypeId} {x y : Operand} {d : TypeDesc} {z : Option Value} {n kb k b off : Nat} {R : Rest} {H Hs : List (Nat × Obj)} {α : Type} {f : α → Value} {v zv : Value} {l : List α} {m : Nat → Option Obj} {fz : Nat × Nat} {c : Array Value}
/-! fields of what is held -/
/-! stores -/
/-! composites -/
/-! sums with carry -/
/-! shifts of whole numbers -/
end
/-! A guard that was not reached. -/
end Go.Proofs.YtmiagmbgfhakgaaDoor

