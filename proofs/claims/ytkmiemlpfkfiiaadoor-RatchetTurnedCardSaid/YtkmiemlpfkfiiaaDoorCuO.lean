/- The curve: the document's ladder, plain. Conditions: none beyond those that each theorem states. -/
import Derived.Test.YtkmiemlpfkfiiaaDoorTab
import Derived.Test.YtkmiemlpfkfiiaaDoorCuN
namespace Go.Proofs.YtkmiemlpfkfiiaaDoor
set_option linter.unusedVariables false
set_option linter.unusedSimpArgs false
structure LadI where
 x2 : List Int
 z2 : List Int
 x3 : List Int
 z3 : List Int
def Qah (x2 z2 x3 z3 x1 : List Int) : LadI :=
  ⟨Xg (Xg (Jw x2 z2) (Jw x2 z2)) (Xg (Yt x2 z2) (Yt x2 z2)),
   Xg (Yt (Xg (Jw x2 z2) (Jw x2 z2)) (Xg (Yt x2 z2) (Yt x2 z2))) (Jw (Xg (Jw x2 z2) (Jw x2 z2)) (Xg [56129, 1, 0, 0, 0, 0, 0, 0, 0, 0, 0, 0, 0, 0, 0, 0] (Yt (Xg (Jw x2 z2) (Jw x2 z2)) (Xg (Yt x2 z2) (Yt x2 z2))))),
   Xg (Jw (Xg (Yt x3 z3) (Jw x2 z2)) (Xg (Jw x3 z3) (Yt x2 z2))) (Jw (Xg (Yt x3 z3) (Jw x2 z2)) (Xg (Jw x3 z3) (Yt x2 z2))),
   Xg x1 (Xg (Yt (Xg (Yt x3 z3) (Jw x2 z2)) (Xg (Jw x3 z3) (Yt x2 z2))) (Yt (Xg (Yt x3 z3) (Jw x2 z2)) (Xg (Jw x3 z3) (Yt x2 z2))))⟩
def Qj6 (k : Z4) (j : Nat) : Bool := ((k.getD ((254 - j) / 8) 0 >>> ((254 - j) % 8)) &&& 1#8) == 1#8
def Qv (k : Z4) (x1 : List Int) : Nat → LadI
 | 0 => ⟨[1, 0, 0, 0, 0, 0, 0, 0, 0, 0, 0, 0, 0, 0, 0, 0], [0, 0, 0, 0, 0, 0, 0, 0, 0, 0, 0, 0, 0, 0, 0, 0], x1, [1, 0, 0, 0, 0, 0, 0, 0, 0, 0, 0, 0, 0, 0, 0, 0]⟩
 | j + 1 =>
  if Qj6 k j then ⟨(Qah (Qv k x1 j).x3 (Qv k x1 j).z3 (Qv k x1 j).x2 (Qv k x1 j).z2 x1).x3, (Qah (Qv k x1 j).x3 (Qv k x1 j).z3 (Qv k x1 j).x2 (Qv k x1 j).z2 x1).z3, (Qah (Qv k x1 j).x3 (Qv k x1 j).z3 (Qv k x1 j).x2 (Qv k x1 j).z2 x1).x2, (Qah (Qv k x1 j).x3 (Qv k x1 j).z3 (Qv k x1 j).x2 (Qv k x1 j).z2 x1).z2⟩
  else Qah (Qv k x1 j).x2 (Qv k x1 j).z2 (Qv k x1 j).x3 (Qv k x1 j).z3 x1
theorem Qqm (k : Z4) (x1 : List Int) : Qv k x1 0 = ⟨[1, 0, 0, 0, 0, 0, 0, 0, 0, 0, 0, 0, 0, 0, 0, 0], [0, 0, 0, 0, 0, 0, 0, 0, 0, 0, 0, 0, 0, 0, 0, 0], x1, [1, 0, 0, 0, 0, 0, 0, 0, 0, 0, 0, 0, 0, 0, 0, 0]⟩ := rfl
theorem lad16_t {k : Z4} {x1 : List Int} {j : Nat} (h : Qj6 k j = true) : Qv k x1 (j + 1) = ⟨(Qah (Qv k x1 j).x3 (Qv k x1 j).z3 (Qv k x1 j).x2 (Qv k x1 j).z2 x1).x3, (Qah (Qv k x1 j).x3 (Qv k x1 j).z3 (Qv k x1 j).x2 (Qv k x1 j).z2 x1).z3, (Qah (Qv k x1 j).x3 (Qv k x1 j).z3 (Qv k x1 j).x2 (Qv k x1 j).z2 x1).x2, (Qah (Qv k x1 j).x3 (Qv k x1 j).z3 (Qv k x1 j).x2 (Qv k x1 j).z2 x1).z2⟩ := by
 show (if Qj6 k j then _ else _) = _
 rw [if_pos h]
theorem lad16_f {k : Z4} {x1 : List Int} {j : Nat} (h : Qj6 k j = false) : Qv k x1 (j + 1) = Qah (Qv k x1 j).x2 (Qv k x1 j).z2 (Qv k x1 j).x3 (Qv k x1 j).z3 x1 := by
 show (if Qj6 k j then _ else _) = _
 rw [if_neg (by rw [h]; decide)]
@[simp] theorem TimesR_length (a b : List Int) : (Xg a b).length = 16 := by unfold Xg; rw [U9, U9]; exact J8 _ _ _ _ (Nat.le_refl _)
@[simp] theorem AddR_length (a b : List Int) : (Jw a b).length = a.length := by unfold Jw; rw [U9, Wx]
@[simp] theorem LessR_length (a b : List Int) : (Yt a b).length = a.length := by unfold Yt; rw [U9, Wx]
@[simp] theorem ReadR_length (u : Z4) : (Qx u).length = 16 := Qdz u
attribute [local irreducible] Xg Jw Yt Qw Ua
structure GoodI (s : LadI) : Prop where
 x2 : GoodR s.x2
 z2 : GoodR s.z2
 x3 : GoodR s.x3
 z3 : GoodR s.z3
theorem Qji {x2 z2 x3 z3 x1 : List Int} (h2 : GoodR x2) (k2 : GoodR z2) (h3 : GoodR x3) (k3 : GoodR z3) (h1 : GoodR x1) : GoodI (Qah x2 z2 x3 z3 x1) := by
 have a := Zv h2 k2
 have b := Zk h2 k2
 have c := Zv h3 k3
 have d := Zk h3 k3
 have da := Zf d a
 have cb := Zf c b
 have aa := Zf a a
 have bb := Zf b b
 have e := Zk aa bb
 exact ⟨Zf aa bb, Zf e (Zv aa (Zf Na e)), Zf (Zv da cb) (Zv da cb), Zf h1 (Zf (Zk da cb) (Zk da cb))⟩
theorem Qia : GoodR [0, 0, 0, 0, 0, 0, 0, 0, 0, 0, 0, 0, 0, 0, 0, 0] := ⟨rfl, Qap Yx⟩
theorem Qj4 (k : Z4) {x1 : List Int} (h1 : GoodR x1) : ∀ j, GoodI (Qv k x1 j)
 | 0 => ⟨Qd6, Qia, h1, Qd6⟩
 | j + 1 => by
  have h := Qj4 k h1 j
  unfold Qv; split
  ·have t := Qji h.x3 h.z3 h.x2 h.z2 h1
   exact ⟨t.x3, t.z3, t.x2, t.z2⟩
  exact Qji h.x2 h.z2 h.x3 h.z3 h1
def Qk (k : Z4) : Z4 := (k.set 0 (k.getD 0 0 / 8#8 * 8#8)).set 31 ((k.set 0 (k.getD 0 0 / 8#8 * 8#8)).getD 31 0 % 64#8 + 64#8)
theorem Qk5 (k : Z4) : (Qk k).length = k.length := by simp [Qk]
def Yn (k u : Z4) : Z4 := Qcq (Xg (Qv (Qk k) (Qx u) 255).x2 (Vu (Qv (Qk k) (Qx u) 255).z2 255))
@[simp] theorem Tm (k u : Z4) : (Yn k u).length = 32 := Qla _
end Go.Proofs.YtkmiemlpfkfiiaaDoor
