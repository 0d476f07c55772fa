/- The curve: the document's ladder, plain. Conditions: none beyond those that each theorem states. -/
import Derived.Test.YtkmiemlpfkfiiaaDoorTab
import Derived.Test.YtkmiemlpfkfiiaaDoorCuN
namespace Go.Proofs.YtkmiemlpfkfiiaaDoor
set_option linter.unusedVariables false
set_option linter.unusedSimpArgs false
structure LadI where
 x2 : List Int
 z2 : List Int
 x3 : List Int
 z3 : List Int
def Qag (x2 z2 x3 z3 x1 : List Int) : LadI :=
  ⟨Xj (Xj (Kq x2 z2) (Kq x2 z2)) (Xj (Yx x2 z2) (Yx x2 z2)),
   Xj (Yx (Xj (Kq x2 z2) (Kq x2 z2)) (Xj (Yx x2 z2) (Yx x2 z2))) (Kq (Xj (Kq x2 z2) (Kq x2 z2)) (Xj [56129, 1, 0, 0, 0, 0, 0, 0, 0, 0, 0, 0, 0, 0, 0, 0] (Yx (Xj (Kq x2 z2) (Kq x2 z2)) (Xj (Yx x2 z2) (Yx x2 z2))))),
   Xj (Kq (Xj (Yx x3 z3) (Kq x2 z2)) (Xj (Kq x3 z3) (Yx x2 z2))) (Kq (Xj (Yx x3 z3) (Kq x2 z2)) (Xj (Kq x3 z3) (Yx x2 z2))),
   Xj x1 (Xj (Yx (Xj (Yx x3 z3) (Kq x2 z2)) (Xj (Kq x3 z3) (Yx x2 z2))) (Yx (Xj (Yx x3 z3) (Kq x2 z2)) (Xj (Kq x3 z3) (Yx x2 z2))))⟩
def Qi9 (k : Xg) (j : Nat) : Bool := ((k.getD ((254 - j) / 8) 0 >>> ((254 - j) % 8)) &&& 1#8) == 1#8
def Qz (k : Xg) (x1 : List Int) : Nat → LadI
 | 0 => ⟨[1, 0, 0, 0, 0, 0, 0, 0, 0, 0, 0, 0, 0, 0, 0, 0], [0, 0, 0, 0, 0, 0, 0, 0, 0, 0, 0, 0, 0, 0, 0, 0], x1, [1, 0, 0, 0, 0, 0, 0, 0, 0, 0, 0, 0, 0, 0, 0, 0]⟩
 | j + 1 =>
  if Qi9 k j then ⟨(Qag (Qz k x1 j).x3 (Qz k x1 j).z3 (Qz k x1 j).x2 (Qz k x1 j).z2 x1).x3, (Qag (Qz k x1 j).x3 (Qz k x1 j).z3 (Qz k x1 j).x2 (Qz k x1 j).z2 x1).z3, (Qag (Qz k x1 j).x3 (Qz k x1 j).z3 (Qz k x1 j).x2 (Qz k x1 j).z2 x1).x2, (Qag (Qz k x1 j).x3 (Qz k x1 j).z3 (Qz k x1 j).x2 (Qz k x1 j).z2 x1).z2⟩
  else Qag (Qz k x1 j).x2 (Qz k x1 j).z2 (Qz k x1 j).x3 (Qz k x1 j).z3 x1
theorem Qox (k : Xg) (x1 : List Int) : Qz k x1 0 = ⟨[1, 0, 0, 0, 0, 0, 0, 0, 0, 0, 0, 0, 0, 0, 0, 0], [0, 0, 0, 0, 0, 0, 0, 0, 0, 0, 0, 0, 0, 0, 0, 0], x1, [1, 0, 0, 0, 0, 0, 0, 0, 0, 0, 0, 0, 0, 0, 0, 0]⟩ := rfl
theorem lad16_t {k : Xg} {x1 : List Int} {j : Nat} (h : Qi9 k j = true) : Qz k x1 (j + 1) = ⟨(Qag (Qz k x1 j).x3 (Qz k x1 j).z3 (Qz k x1 j).x2 (Qz k x1 j).z2 x1).x3, (Qag (Qz k x1 j).x3 (Qz k x1 j).z3 (Qz k x1 j).x2 (Qz k x1 j).z2 x1).z3, (Qag (Qz k x1 j).x3 (Qz k x1 j).z3 (Qz k x1 j).x2 (Qz k x1 j).z2 x1).x2, (Qag (Qz k x1 j).x3 (Qz k x1 j).z3 (Qz k x1 j).x2 (Qz k x1 j).z2 x1).z2⟩ := by
 show (if Qi9 k j then _ else _) = _
 rw [if_pos h]
theorem lad16_f {k : Xg} {x1 : List Int} {j : Nat} (h : Qi9 k j = false) : Qz k x1 (j + 1) = Qag (Qz k x1 j).x2 (Qz k x1 j).z2 (Qz k x1 j).x3 (Qz k x1 j).z3 x1 := by
 show (if Qi9 k j then _ else _) = _
 rw [if_neg (by rw [h]; decide)]
@[simp] theorem TimesR_length (a b : List Int) : (Xj a b).length = 16 := by unfold Xj; rw [Fh, Fh]; exact Kz _ _ _ _ (Nat.le_refl _)
@[simp] theorem AddR_length (a b : List Int) : (Kq a b).length = a.length := by unfold Kq; rw [Fh, Ve]
@[simp] theorem LessR_length (a b : List Int) : (Yx a b).length = a.length := by unfold Yx; rw [Fh, Ve]
@[simp] theorem ReadR_length (u : Xg) : (Q8 u).length = 16 := Qdm u
attribute [local irreducible] Xj Kq Yx Q7 Ue
structure GoodI (s : LadI) : Prop where
 x2 : GoodR s.x2
 z2 : GoodR s.z2
 x3 : GoodR s.x3
 z3 : GoodR s.z3
theorem Qin {x2 z2 x3 z3 x1 : List Int} (h2 : GoodR x2) (k2 : GoodR z2) (h3 : GoodR x3) (k3 : GoodR z3) (h1 : GoodR x1) : GoodI (Qag x2 z2 x3 z3 x1) := by
 have a := Zy h2 k2
 have b := Zq h2 k2
 have c := Zy h3 k3
 have d := Zq h3 k3
 have da := Zk d a
 have cb := Zk c b
 have aa := Zk a a
 have bb := Zk b b
 have e := Zq aa bb
 exact ⟨Zk aa bb, Zk e (Zy aa (Zk Na e)), Zk (Zy da cb) (Zy da cb), Zk h1 (Zk (Zq da cb) (Zq da cb))⟩
theorem Qhg : GoodR [0, 0, 0, 0, 0, 0, 0, 0, 0, 0, 0, 0, 0, 0, 0, 0] := ⟨rfl, Qap Jg⟩
theorem Qi7 (k : Xg) {x1 : List Int} (h1 : GoodR x1) : ∀ j, GoodI (Qz k x1 j)
 | 0 => ⟨Qdr, Qhg, h1, Qdr⟩
 | j + 1 => by
  have h := Qi7 k h1 j
  unfold Qz; split
  ·have t := Qin h.x3 h.z3 h.x2 h.z2 h1
   exact ⟨t.x3, t.z3, t.x2, t.z2⟩
  exact Qin h.x2 h.z2 h.x3 h.z3 h1
def Qn (k : Xg) : Xg := (k.set 0 (k.getD 0 0 / 8#8 * 8#8)).set 31 ((k.set 0 (k.getD 0 0 / 8#8 * 8#8)).getD 31 0 % 64#8 + 64#8)
theorem Qka (k : Xg) : (Qn k).length = k.length := by simp [Qn]
def Yt (k u : Xg) : Xg := Qci (Xj (Qz (Qn k) (Q8 u) 255).x2 (V4 (Qz (Qn k) (Q8 u) 255).z2 255))
@[simp] theorem Tf (k u : Xg) : (Yt k u).length = 32 := Qkf _
end Go.Proofs.YtkmiemlpfkfiiaaDoor
