/- The framework, part e: numbers put together by bytes; maps from texts to slices. Conditions: none. -/
import Derived.Test.YtfbnhoolkajebaaFwd
import Derived.Test.YtfbnhoolkajebaaFwc
import Derived.Test.YtfbnhoolkajebaaFwV
namespace Go.Proofs.Ytfbnhoolkajebaa
open Go.ChangeShapes Go.WideShapes Go.ChangeAt Go.RowKit
set_option linter.unusedSimpArgs false
set_option linter.unusedVariables false
section
variable {P : Program} {fr : Nat → Value} {w : World} {ty : TypeId} {x y : Operand}
theorem ev_i64_orB {q b : Int} {t t' : TypeId} (hx : evalF fr x = i64 (q * 256)) (hy : evalF fr y = i64 b) (h0 : 0 ≤ q ∧ q < 36028797018963968) (h1 : 0 ≤ b ∧ b < 256) : EvQ P fr w (.binOp .or t x y t') ty (i64 (q * 256 + b)) :=
  ev_int rfl hx hy (by
    obtain ⟨m, rfl⟩ : ∃ m : Nat, q = (m : Int) := ⟨q.toNat, by omega⟩
    obtain ⟨n, rfl⟩ : ∃ n : Nat, b = (n : Int) := ⟨b.toNat, by omega⟩
    have ha : (BitVec.ofInt 64 ((m : Int) * 256)).toNat = m <<< 8 := by rw [BitVec.toNat_ofInt, Nat.shiftLeft_eq]; omega
    have hb : (BitVec.ofInt 64 (n : Int)).toNat = n := by rw [BitVec.toNat_ofInt]; omega
    have e : intOp .or .i64 ((m : Int) * 256) (n : Int) = pure (.int .i64 (IntKind.i64.wrap ((BitVec.ofInt 64 ((m : Int) * 256) ||| BitVec.ofInt 64 (n : Int)).toNat : Int))) := rfl
    have h : (BitVec.ofInt 64 ((m : Int) * 256) ||| BitVec.ofInt 64 (n : Int)).toNat = m * 256 + n := by
      rw [BitVec.toNat_or, ha, hb, ← Nat.shiftLeft_add_eq_or_of_lt (show n < 2 ^ 8 by omega), Nat.shiftLeft_eq]
    have hc : ((m * 256 + n : Nat) : Int) = (m : Int) * 256 + (n : Int) := by omega
    rw [e, h, wrap_i64 (by omega) (by omega), hc]; rfl)
end
end Go.Proofs.Ytfbnhoolkajebaa
