/- The curve: the document's ladder, plain. Conditions: none beyond those that each theorem states. -/
import Derived.Test.YtkmiemlpfkfiiaaDoorTab
import Derived.Test.YtkmiemlpfkfiiaaDoorCuN
namespace Go.Proofs.YtkmiemlpfkfiiaaDoor
set_option linter.unusedVariables false
set_option linter.unusedSimpArgs false
structure LadI where
 x2 : List Int
 z2 : List Int
 x3 : List Int
 z3 : List Int
def Qal (x2 z2 x3 z3 x1 : List Int) : LadI :=
  ⟨Xh (Xh (J3 x2 z2) (J3 x2 z2)) (Xh (Yy x2 z2) (Yy x2 z2)),
   Xh (Yy (Xh (J3 x2 z2) (J3 x2 z2)) (Xh (Yy x2 z2) (Yy x2 z2))) (J3 (Xh (J3 x2 z2) (J3 x2 z2)) (Xh [56129, 1, 0, 0, 0, 0, 0, 0, 0, 0, 0, 0, 0, 0, 0, 0] (Yy (Xh (J3 x2 z2) (J3 x2 z2)) (Xh (Yy x2 z2) (Yy x2 z2))))),
   Xh (J3 (Xh (Yy x3 z3) (J3 x2 z2)) (Xh (J3 x3 z3) (Yy x2 z2))) (J3 (Xh (Yy x3 z3) (J3 x2 z2)) (Xh (J3 x3 z3) (Yy x2 z2))),
   Xh x1 (Xh (Yy (Xh (Yy x3 z3) (J3 x2 z2)) (Xh (J3 x3 z3) (Yy x2 z2))) (Yy (Xh (Yy x3 z3) (J3 x2 z2)) (Xh (J3 x3 z3) (Yy x2 z2))))⟩
def Qjg (k : Z8) (j : Nat) : Bool := ((k.getD ((254 - j) / 8) 0 >>> ((254 - j) % 8)) &&& 1#8) == 1#8
def Qv (k : Z8) (x1 : List Int) : Nat → LadI
 | 0 => ⟨[1, 0, 0, 0, 0, 0, 0, 0, 0, 0, 0, 0, 0, 0, 0, 0], [0, 0, 0, 0, 0, 0, 0, 0, 0, 0, 0, 0, 0, 0, 0, 0], x1, [1, 0, 0, 0, 0, 0, 0, 0, 0, 0, 0, 0, 0, 0, 0, 0]⟩
 | j + 1 =>
  if Qjg k j then ⟨(Qal (Qv k x1 j).x3 (Qv k x1 j).z3 (Qv k x1 j).x2 (Qv k x1 j).z2 x1).x3, (Qal (Qv k x1 j).x3 (Qv k x1 j).z3 (Qv k x1 j).x2 (Qv k x1 j).z2 x1).z3, (Qal (Qv k x1 j).x3 (Qv k x1 j).z3 (Qv k x1 j).x2 (Qv k x1 j).z2 x1).x2, (Qal (Qv k x1 j).x3 (Qv k x1 j).z3 (Qv k x1 j).x2 (Qv k x1 j).z2 x1).z2⟩
  else Qal (Qv k x1 j).x2 (Qv k x1 j).z2 (Qv k x1 j).x3 (Qv k x1 j).z3 x1
theorem Qo4 (k : Z8) (x1 : List Int) : Qv k x1 0 = ⟨[1, 0, 0, 0, 0, 0, 0, 0, 0, 0, 0, 0, 0, 0, 0, 0], [0, 0, 0, 0, 0, 0, 0, 0, 0, 0, 0, 0, 0, 0, 0, 0], x1, [1, 0, 0, 0, 0, 0, 0, 0, 0, 0, 0, 0, 0, 0, 0, 0]⟩ := rfl
theorem lad16_t {k : Z8} {x1 : List Int} {j : Nat} (h : Qjg k j = true) : Qv k x1 (j + 1) = ⟨(Qal (Qv k x1 j).x3 (Qv k x1 j).z3 (Qv k x1 j).x2 (Qv k x1 j).z2 x1).x3, (Qal (Qv k x1 j).x3 (Qv k x1 j).z3 (Qv k x1 j).x2 (Qv k x1 j).z2 x1).z3, (Qal (Qv k x1 j).x3 (Qv k x1 j).z3 (Qv k x1 j).x2 (Qv k x1 j).z2 x1).x2, (Qal (Qv k x1 j).x3 (Qv k x1 j).z3 (Qv k x1 j).x2 (Qv k x1 j).z2 x1).z2⟩ := by
 show (if Qjg k j then _ else _) = _
 rw [if_pos h]
theorem lad16_f {k : Z8} {x1 : List Int} {j : Nat} (h : Qjg k j = false) : Qv k x1 (j + 1) = Qal (Qv k x1 j).x2 (Qv k x1 j).z2 (Qv k x1 j).x3 (Qv k x1 j).z3 x1 := by
 show (if Qjg k j then _ else _) = _
 rw [if_neg (by rw [h]; decide)]
@[simp] theorem TimesR_length (a b : List Int) : (Xh a b).length = 16 := by unfold Xh; rw [Fh, Fh]; exact J9 _ _ _ _ (Nat.le_refl _)
@[simp] theorem AddR_length (a b : List Int) : (J3 a b).length = a.length := by unfold J3; rw [Fh, Wy]
@[simp] theorem LessR_length (a b : List Int) : (Yy a b).length = a.length := by unfold Yy; rw [Fh, Wy]
@[simp] theorem ReadR_length (u : Z8) : (Qx u).length = 16 := Qdu u
attribute [local irreducible] Xh J3 Yy Qw Ua
structure GoodI (s : LadI) : Prop where
 x2 : GoodR s.x2
 z2 : GoodR s.z2
 x3 : GoodR s.x3
 z3 : GoodR s.z3
theorem Qit {x2 z2 x3 z3 x1 : List Int} (h2 : GoodR x2) (k2 : GoodR z2) (h3 : GoodR x3) (k3 : GoodR z3) (h1 : GoodR x1) : GoodI (Qal x2 z2 x3 z3 x1) := by
 have a := Zw h2 k2
 have b := Zn h2 k2
 have c := Zw h3 k3
 have d := Zn h3 k3
 have da := Zh d a
 have cb := Zh c b
 have aa := Zh a a
 have bb := Zh b b
 have e := Zn aa bb
 exact ⟨Zh aa bb, Zh e (Zw aa (Zh Np e)), Zh (Zw da cb) (Zw da cb), Zh h1 (Zh (Zn da cb) (Zn da cb))⟩
theorem Qhq : GoodR [0, 0, 0, 0, 0, 0, 0, 0, 0, 0, 0, 0, 0, 0, 0, 0] := ⟨rfl, Qas Jb⟩
theorem Qje (k : Z8) {x1 : List Int} (h1 : GoodR x1) : ∀ j, GoodI (Qv k x1 j)
 | 0 => ⟨Qdz, Qhq, h1, Qdz⟩
 | j + 1 => by
  have h := Qje k h1 j
  unfold Qv; split
  ·have t := Qit h.x3 h.z3 h.x2 h.z2 h1
   exact ⟨t.x3, t.z3, t.x2, t.z2⟩
  exact Qit h.x2 h.z2 h.x3 h.z3 h1
def Qk (k : Z8) : Z8 := (k.set 0 (k.getD 0 0 / 8#8 * 8#8)).set 31 ((k.set 0 (k.getD 0 0 / 8#8 * 8#8)).getD 31 0 % 64#8 + 64#8)
theorem Qkk (k : Z8) : (Qk k).length = k.length := by simp [Qk]
def Yu (k u : Z8) : Z8 := Qct (Xh (Qv (Qk k) (Qx u) 255).x2 (Vt (Qv (Qk k) (Qx u) 255).z2 255))
@[simp] theorem Tn (k u : Z8) : (Yu k u).length = 32 := Qkp _
end Go.Proofs.YtkmiemlpfkfiiaaDoor
