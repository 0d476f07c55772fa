/- The framework, part V: slices whose elements are slices of bytes, each in blocks of its own. Conditions: none. -/
import Derived.Test.YtkmiemlpfkfiiaaDoorFwR
import Derived.Test.YtkmiemlpfkfiiaaDoorFwO
import Derived.Laws.BytesArg
import Derived.Laws.Strings
namespace Go.Proofs.YtkmiemlpfkfiiaaDoor
open Go.RowKit
set_option linter.unusedVariables false
set_option linter.unusedSimpArgs false
abbrev SlT := (Option Addr × Nat × Nat) × List (BitVec 8)
def slv (t : SlT) : Value := .slice t.1.1 t.1.2.1 t.1.2.2
def sl0 : SlT := ((none, 0, 0), [])
section
variable {α : Type} {f : α → Value} {m : Nat → Option Obj} {v : Value} {l' : List α} {E : TypeId} {Hs He : List (Nat × Obj)}
def ElIn (He : List (Nat × Obj)) (ls : List SlT) : Prop := ∀ p ∈ ls, ∀ m : Nat → Option Obj, (∀ q ∈ He, m q.1 = some q.2) → Rd m u8 (slv p) p.2
theorem ElIn.nil (He : List (Nat × Obj)) : ElIn He [] := fun p hp => by cases hp
theorem ElIn.get {ls : List SlT} {L : List (List (BitVec 8))} {k : Nat} (h : ElIn He ls) (hL : ls.map (·.2) = L) (hk : k < ls.length) (hm : ∀ q ∈ He, m q.1 = some q.2) : Rd m u8 (slv (ls.getD k sl0)) (L.getD k []) := by
  subst hL
  have e : ls.getD k sl0 = ls[k] := by simp [List.getD_eq_getElem?_getD, hk]
  have e' : (ls.map (·.2)).getD k [] = ls[k].2 := by simp [List.getD_eq_getElem?_getD, hk]
  rw [e, e']
  exact h _ (List.getElem_mem hk) m hm
end
section
variable {P : Program} {fr : Nat → Value} {w : World} {ty T T' E E' : TypeId} {x y : Operand} {d : TypeDesc} {z : Option Value} {n kb b off : Nat} {c : Array Value} {fz : Nat × Nat} {R : Rest} {H Hs : List (Nat × Obj)} {α : Type} {f : α → Value} {v : Value} {l : List α}
end
section
variable {P : Program} {fr : Nat → Value} {w : World} {ty T U E : TypeId} {x y : Operand} {v : Value} {l : List (BitVec 8)}
end
end Go.Proofs.YtkmiemlpfkfiiaaDoor
