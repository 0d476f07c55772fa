/- The framework, part W: parts of slices whose elements take more cells than one. Conditions: none. -/
import Derived.Test.YtfbnhoolkajebaaFwO
import Derived.Test.YtfbnhoolkajebaaFwZ
namespace Go.Proofs.Ytfbnhoolkajebaa
set_option linter.unusedVariables false
section
variable {P : Program} {fr : Nat → Value} {w : World} {ty T E : TypeId} {x : Operand} {z : Option Value} {k kb : Nat} {α : Type} {enc : α → List Value} {v : Value} {l : List α} {m : Nat → Option Obj}
theorem ev_slice_rk {lo hi : Option Operand} {i j : Int} (h : RdK m enc k v l) (hu : P.underlying T = some (.slice E)) (hi' : tinf P E = some (z, k, kb)) (hx : evalF fr x = v) (hlo : optI lo fr 0 i) (hhi : optI hi fr (l.length : Int) j) (h0 : 0 ≤ i) (h1 : i ≤ j) (h2 : j ≤ l.length) :
    EvQ P fr w (.slice T x lo hi none) ty (subvK v i j k) := by
  obtain ⟨a, cap, rfl, hle, h4⟩ := h.is
  exact ev_slice_sl hu hi' hx hlo hhi h0 h1 (by omega)
theorem drop_one (l : List α) : ((l.drop (1 : Int).toNat).take ((l.length : Int).toNat - (1 : Int).toNat)) = l.drop 1 := by
  rw [Int.toNat_natCast, show (1 : Int).toNat = 1 from rfl]
  exact List.take_of_length_le (by simp)
end
end Go.Proofs.Ytfbnhoolkajebaa
