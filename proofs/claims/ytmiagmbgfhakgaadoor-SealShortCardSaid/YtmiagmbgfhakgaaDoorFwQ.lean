/- The framework, part Q: structs and rows as segments; sums with carry; shifts of whole numbers. Conditions: none. -/
import Derived.Test.YtmiagmbgfhakgaaDoorFwP
import Derived.Laws.Externs
namespace Go.Proofs.YtmiagmbgfhakgaaDoor
set_option linter.unusedSimpArgs false
set_option linter.unusedVariables false

section
variable {P : Program} {fr : Nat → Value} {w : World} {ty T U E A : TypeId} {x y : Operand} {d : TypeDesc} {z : Option Value} {n kb k b off : Nat} {R : Rest} {H Hs : List (Nat × Obj)} {α : Type} {f : α → Value} {v zv : Value} {l : List α} {m : Nat → Option Obj} {fz : Nat × Nat} {c : Array Value}
/-! fields of what is held -/
/-! stores -/
/-! composites -/
/-! sums with carry -/
/-! shifts of whole numbers -/
end
/-! A guard that was not reached. -/
theorem rw_gu {P : Program} {n : Nat} {ops : Array Oper} {rest : List Oper} {K : (Nat → Value) → World → Prop} {fr : Nat → Value} {w : World} {op : Op} {ty : TypeId} {pos : String} {aft : Array Edge} {d j s : Nat} {want : Bool} (hj : (ops[j]?).bind (·.dst) = some s) (hs : fr s = undef) (hd : Nat.blt d n = true)
    (k : RW P n ops rest K (upd fr d undef) w) : RW P n ops (⟨some d, op, ty, pos, aft, some (j, want)⟩ :: rest) K fr w := by
  intro a ha Q hQ
  unfold wpList
  have hy : yielded ops a.tmps j = none := by
    have hg := ha.get s
    rw [hs, Array.getD_eq_getD_getElem?] at hg
    unfold yielded
    rw [hj]
    cases h : a.tmps[s]? with
    | none => simp [h]
    | some v => rw [h] at hg; simp at hg; subst hg; simp [h, undef]
  rw [if_neg (by simp [Region.wanted, hy])]
  exact k _ (ha.put (d := some d) (dst_lt hd) _) Q hQ
end Go.Proofs.YtmiagmbgfhakgaaDoor

