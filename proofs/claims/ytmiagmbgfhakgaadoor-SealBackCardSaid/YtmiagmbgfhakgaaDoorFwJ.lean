/- The framework, part J: equality of arrays. Conditions: none. -/
import Derived.Test.YtmiagmbgfhakgaaDoorFwI
import Derived.Laws.StructEq
namespace Go.Proofs.YtmiagmbgfhakgaaDoor
set_option linter.unusedSimpArgs false
set_option linter.unusedVariables false

section
variable {P : Program} {fr : Nat → Value} {w : World} {ty T t E t' : TypeId} {x y : Operand} {z : Option Value} {n kb len d : Nat} {α : Type} {f : α → Value} {l m : List α} {dE : TypeDesc}
end
section
variable {P : Program} {fr : Nat → Value} {w : World} {ty T t E t' : TypeId} {x y : Operand} {z : Option Value} {n kb len d : Nat} {dE : TypeDesc}
end
section
variable {α : Type} {f : α → Value} {m : Nat → Option Obj} {b len cap E : Nat} {l : List α} {fz : Nat × Nat}
theorem Rd.mkE (hb : m b = some (.cells (cl f l) E fz)) (h : l.length = len) : Rd m f (slc b 0 len len) l := h ▸ Rd.mkA hb
theorem Grow.ofE (f : α → Value) (E b : Nat) (l : List α) (h : l.length = len) : Grow f E (slc b 0 len len) l [(b, .cells (cl f l) E (0, 0))] := h ▸ Grow.of f E b l
end
end Go.Proofs.YtmiagmbgfhakgaaDoor

