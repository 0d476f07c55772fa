/- The framework, part S: a row of whatever bytes (internal/bytealg.MakeNoZero), copies into the middle of an own row, slices of an array inside a struct, equality of structs of arrays. Conditions: none. -/
import Derived.Test.YtkmiemlpfkfiiaaDoorFwR
import Derived.Lib.MakeNoZero
namespace Go.Proofs.YtkmiemlpfkfiiaaDoor
set_option linter.unusedSimpArgs false
set_option linter.unusedVariables false
section
variable {P : Program} {fr : Nat → Value} {w : World} {ty T U E A : TypeId} {x y : Operand} {R : Rest} {H Hs : List (Nat × Obj)}
theorem Qfy {d : Nat} {a b : BitVec 8} (hE : P.underlying E = some (.int .u8)) : (Op.equalIn (d + 1) E (u8 a) (u8 b)).run P w = .ok (a == b) w := by
  have := run_equalIn_int w d E .u8 .u8 (a.toNat : Int) (b.toNat : Int) hE
  unfold u8; rw [this]; congr 1
  rw [Bool.eq_iff_iff, beq_iff_eq, beq_iff_eq]
  constructor
  · intro h; exact BitVec.eq_of_toNat_eq (by omega)
  · rintro rfl; rfl
theorem Am {K : TypeId} {dK : TypeDesc} {z : Option Value} {n kb off : Nat} (L1 L3 : List (List Value)) (l : List (BitVec 8)) (hu : P.underlying K = some dK) (hd : Dn dK = true) (hi : Yp P K = some (z, n, kb)) (h1 : L1.flatten.length = off) (hl : l.length = n) : (part K (Qr (L1 ++ (l.map u8 :: L3))) off).run P w = .ok (agg u8 l) w := by
  have e := S9 L1 [l.map u8] L3 h1 (n := n) (by simpa using hl)
  rw [Jb] at e
  simp only [part, Sem.run_bind, Fa hu, hd, Result.andThen_ok, if_true, Yz hi, Sem.run_pure, agg]
  rw [← e]; rfl
end
end Go.Proofs.YtkmiemlpfkfiiaaDoor
