/- The curve: the document's ladder, plain. Conditions: none beyond those that each theorem states. -/
import Derived.Test.YtkmiemlpfkfiiaaDoorTab
import Derived.Test.YtkmiemlpfkfiiaaDoorCuN
namespace Go.Proofs.YtkmiemlpfkfiiaaDoor
set_option linter.unusedVariables false
set_option linter.unusedSimpArgs false
structure LadI where
 x2 : List Int
 z2 : List Int
 x3 : List Int
 z3 : List Int
def Na (x2 z2 x3 z3 x1 : List Int) : LadI :=
  ⟨Xc (Xc (Y6 x2 z2) (Y6 x2 z2)) (Xc (Yb x2 z2) (Yb x2 z2)),
   Xc (Yb (Xc (Y6 x2 z2) (Y6 x2 z2)) (Xc (Yb x2 z2) (Yb x2 z2))) (Y6 (Xc (Y6 x2 z2) (Y6 x2 z2)) (Xc [56129, 1, 0, 0, 0, 0, 0, 0, 0, 0, 0, 0, 0, 0, 0, 0] (Yb (Xc (Y6 x2 z2) (Y6 x2 z2)) (Xc (Yb x2 z2) (Yb x2 z2))))),
   Xc (Y6 (Xc (Yb x3 z3) (Y6 x2 z2)) (Xc (Y6 x3 z3) (Yb x2 z2))) (Y6 (Xc (Yb x3 z3) (Y6 x2 z2)) (Xc (Y6 x3 z3) (Yb x2 z2))),
   Xc x1 (Xc (Yb (Xc (Yb x3 z3) (Y6 x2 z2)) (Xc (Y6 x3 z3) (Yb x2 z2))) (Yb (Xc (Yb x3 z3) (Y6 x2 z2)) (Xc (Y6 x3 z3) (Yb x2 z2))))⟩
def Qf7 (k : List (BitVec 8)) (j : Nat) : Bool := ((k.getD ((254 - j) / 8) 0 >>> ((254 - j) % 8)) &&& 1#8) == 1#8
def Qz (k : List (BitVec 8)) (x1 : List Int) : Nat → LadI
 | 0 => ⟨[1, 0, 0, 0, 0, 0, 0, 0, 0, 0, 0, 0, 0, 0, 0, 0], [0, 0, 0, 0, 0, 0, 0, 0, 0, 0, 0, 0, 0, 0, 0, 0], x1, [1, 0, 0, 0, 0, 0, 0, 0, 0, 0, 0, 0, 0, 0, 0, 0]⟩
 | j + 1 =>
  if Qf7 k j then ⟨(Na (Qz k x1 j).x3 (Qz k x1 j).z3 (Qz k x1 j).x2 (Qz k x1 j).z2 x1).x3, (Na (Qz k x1 j).x3 (Qz k x1 j).z3 (Qz k x1 j).x2 (Qz k x1 j).z2 x1).z3, (Na (Qz k x1 j).x3 (Qz k x1 j).z3 (Qz k x1 j).x2 (Qz k x1 j).z2 x1).x2, (Na (Qz k x1 j).x3 (Qz k x1 j).z3 (Qz k x1 j).x2 (Qz k x1 j).z2 x1).z2⟩
  else Na (Qz k x1 j).x2 (Qz k x1 j).z2 (Qz k x1 j).x3 (Qz k x1 j).z3 x1
theorem Qlg (k : List (BitVec 8)) (x1 : List Int) : Qz k x1 0 = ⟨[1, 0, 0, 0, 0, 0, 0, 0, 0, 0, 0, 0, 0, 0, 0, 0], [0, 0, 0, 0, 0, 0, 0, 0, 0, 0, 0, 0, 0, 0, 0, 0], x1, [1, 0, 0, 0, 0, 0, 0, 0, 0, 0, 0, 0, 0, 0, 0, 0]⟩ := rfl
theorem lad16_t {k : List (BitVec 8)} {x1 : List Int} {j : Nat} (h : Qf7 k j = true) : Qz k x1 (j + 1) = ⟨(Na (Qz k x1 j).x3 (Qz k x1 j).z3 (Qz k x1 j).x2 (Qz k x1 j).z2 x1).x3, (Na (Qz k x1 j).x3 (Qz k x1 j).z3 (Qz k x1 j).x2 (Qz k x1 j).z2 x1).z3, (Na (Qz k x1 j).x3 (Qz k x1 j).z3 (Qz k x1 j).x2 (Qz k x1 j).z2 x1).x2, (Na (Qz k x1 j).x3 (Qz k x1 j).z3 (Qz k x1 j).x2 (Qz k x1 j).z2 x1).z2⟩ := by
 show (if Qf7 k j then _ else _) = _
 rw [if_pos h]
theorem lad16_f {k : List (BitVec 8)} {x1 : List Int} {j : Nat} (h : Qf7 k j = false) : Qz k x1 (j + 1) = Na (Qz k x1 j).x2 (Qz k x1 j).z2 (Qz k x1 j).x3 (Qz k x1 j).z3 x1 := by
 show (if Qf7 k j then _ else _) = _
 rw [if_neg (by rw [h]; decide)]
@[simp] theorem TimesR_length (a b : List Int) : (Xc a b).length = 16 := by unfold Xc; rw [Gz, Gz]; exact Jl _ _ _ _ (Nat.le_refl _)
@[simp] theorem AddR_length (a b : List Int) : (Y6 a b).length = a.length := by unfold Y6; rw [Gz, Jw]
@[simp] theorem LessR_length (a b : List Int) : (Yb a b).length = a.length := by unfold Yb; rw [Gz, Jw]
@[simp] theorem ReadR_length (u : List (BitVec 8)) : (Q9 u).length = 16 := Qbd u
attribute [local irreducible] Xc Y6 Yb Q8 Vu
structure GoodI (s : LadI) : Prop where
 x2 : GoodR s.x2
 z2 : GoodR s.z2
 x3 : GoodR s.x3
 z3 : GoodR s.z3
theorem Qfp {x2 z2 x3 z3 x1 : List Int} (h2 : GoodR x2) (k2 : GoodR z2) (h3 : GoodR x3) (k3 : GoodR z3) (h1 : GoodR x1) : GoodI (Na x2 z2 x3 z3 x1) := by
 have a := Zu h2 k2
 have b := Zn h2 k2
 have c := Zu h3 k3
 have d := Zn h3 k3
 have da := Zj d a
 have cb := Zj c b
 have aa := Zj a a
 have bb := Zj b b
 have e := Zn aa bb
 exact ⟨Zj aa bb, Zj e (Zu aa (Zj Cc e)), Zj (Zu da cb) (Zu da cb), Zj h1 (Zj (Zn da cb) (Zn da cb))⟩
theorem Qep : GoodR [0, 0, 0, 0, 0, 0, 0, 0, 0, 0, 0, 0, 0, 0, 0, 0] := ⟨rfl, Nq (by decide)⟩
theorem Qf6 (k : List (BitVec 8)) {x1 : List Int} (h1 : GoodR x1) : ∀ j, GoodI (Qz k x1 j)
 | 0 => ⟨Qbk, Qep, h1, Qbk⟩
 | j + 1 => by
  have h := Qf6 k h1 j
  unfold Qz; split
  ·have t := Qfp h.x3 h.z3 h.x2 h.z2 h1
   exact ⟨t.x3, t.z3, t.x2, t.z2⟩
  exact Qfp h.x2 h.z2 h.x3 h.z3 h1
def Qp (k : List (BitVec 8)) : List (BitVec 8) := (k.set 0 (k.getD 0 0 / 8#8 * 8#8)).set 31 ((k.set 0 (k.getD 0 0 / 8#8 * 8#8)).getD 31 0 % 64#8 + 64#8)
theorem Qg5 (k : List (BitVec 8)) : (Qp k).length = k.length := by simp [Qp]
def V6 (k u : List (BitVec 8)) : List (BitVec 8) := Qab (Xc (Qz (Qp k) (Q9 u) 255).x2 (Wh (Qz (Qp k) (Q9 u) 255).z2 255))
@[simp] theorem Tj (k u : List (BitVec 8)) : (V6 k u).length = 32 := Qha _
end Go.Proofs.YtkmiemlpfkfiiaaDoor
