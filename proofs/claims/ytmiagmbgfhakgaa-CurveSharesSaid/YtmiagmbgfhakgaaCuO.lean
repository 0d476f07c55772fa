/- The curve: the document's ladder, plain. Conditions: none beyond those that each theorem states. -/
import Derived.Test.YtmiagmbgfhakgaaTab
import Derived.Test.YtmiagmbgfhakgaaCuN
namespace Go.Proofs.Ytmiagmbgfhakgaa
set_option linter.unusedVariables false
set_option linter.unusedSimpArgs false
/-! The document's ladder. -/
structure LadI where
  x2 : List Int
  z2 : List Int
  x3 : List Int
  z3 : List Int
def stepR (x2 z2 x3 z3 x1 : List Int) : LadI :=
  ⟨TimesR (TimesR (AddR x2 z2) (AddR x2 z2)) (TimesR (LessR x2 z2) (LessR x2 z2)),
   TimesR (LessR (TimesR (AddR x2 z2) (AddR x2 z2)) (TimesR (LessR x2 z2) (LessR x2 z2))) (AddR (TimesR (AddR x2 z2) (AddR x2 z2)) (TimesR [56129, 1, 0, 0, 0, 0, 0, 0, 0, 0, 0, 0, 0, 0, 0, 0] (LessR (TimesR (AddR x2 z2) (AddR x2 z2)) (TimesR (LessR x2 z2) (LessR x2 z2))))),
   TimesR (AddR (TimesR (LessR x3 z3) (AddR x2 z2)) (TimesR (AddR x3 z3) (LessR x2 z2))) (AddR (TimesR (LessR x3 z3) (AddR x2 z2)) (TimesR (AddR x3 z3) (LessR x2 z2))),
   TimesR x1 (TimesR (LessR (TimesR (LessR x3 z3) (AddR x2 z2)) (TimesR (AddR x3 z3) (LessR x2 z2))) (LessR (TimesR (LessR x3 z3) (AddR x2 z2)) (TimesR (AddR x3 z3) (LessR x2 z2))))⟩
def kbitR (k : List (BitVec 8)) (j : Nat) : Bool := ((k.getD ((254 - j) / 8) 0 >>> ((254 - j) % 8)) &&& 1#8) == 1#8
def lad16 (k : List (BitVec 8)) (x1 : List Int) : Nat → LadI
  | 0 => ⟨[1, 0, 0, 0, 0, 0, 0, 0, 0, 0, 0, 0, 0, 0, 0, 0], [0, 0, 0, 0, 0, 0, 0, 0, 0, 0, 0, 0, 0, 0, 0, 0], x1, [1, 0, 0, 0, 0, 0, 0, 0, 0, 0, 0, 0, 0, 0, 0, 0]⟩
  | j + 1 =>
    if kbitR k j then ⟨(stepR (lad16 k x1 j).x3 (lad16 k x1 j).z3 (lad16 k x1 j).x2 (lad16 k x1 j).z2 x1).x3, (stepR (lad16 k x1 j).x3 (lad16 k x1 j).z3 (lad16 k x1 j).x2 (lad16 k x1 j).z2 x1).z3, (stepR (lad16 k x1 j).x3 (lad16 k x1 j).z3 (lad16 k x1 j).x2 (lad16 k x1 j).z2 x1).x2, (stepR (lad16 k x1 j).x3 (lad16 k x1 j).z3 (lad16 k x1 j).x2 (lad16 k x1 j).z2 x1).z2⟩
    else stepR (lad16 k x1 j).x2 (lad16 k x1 j).z2 (lad16 k x1 j).x3 (lad16 k x1 j).z3 x1
theorem lad16_zero (k : List (BitVec 8)) (x1 : List Int) : lad16 k x1 0 = ⟨[1, 0, 0, 0, 0, 0, 0, 0, 0, 0, 0, 0, 0, 0, 0, 0], [0, 0, 0, 0, 0, 0, 0, 0, 0, 0, 0, 0, 0, 0, 0, 0], x1, [1, 0, 0, 0, 0, 0, 0, 0, 0, 0, 0, 0, 0, 0, 0, 0]⟩ := rfl
theorem lad16_t {k : List (BitVec 8)} {x1 : List Int} {j : Nat} (h : kbitR k j = true) : lad16 k x1 (j + 1) = ⟨(stepR (lad16 k x1 j).x3 (lad16 k x1 j).z3 (lad16 k x1 j).x2 (lad16 k x1 j).z2 x1).x3, (stepR (lad16 k x1 j).x3 (lad16 k x1 j).z3 (lad16 k x1 j).x2 (lad16 k x1 j).z2 x1).z3, (stepR (lad16 k x1 j).x3 (lad16 k x1 j).z3 (lad16 k x1 j).x2 (lad16 k x1 j).z2 x1).x2, (stepR (lad16 k x1 j).x3 (lad16 k x1 j).z3 (lad16 k x1 j).x2 (lad16 k x1 j).z2 x1).z2⟩ := by
  show (if kbitR k j then _ else _) = _
  rw [if_pos h]
theorem lad16_f {k : List (BitVec 8)} {x1 : List Int} {j : Nat} (h : kbitR k j = false) : lad16 k x1 (j + 1) = stepR (lad16 k x1 j).x2 (lad16 k x1 j).z2 (lad16 k x1 j).x3 (lad16 k x1 j).z3 x1 := by
  show (if kbitR k j then _ else _) = _
  rw [if_neg (by rw [h]; decide)]
@[simp] theorem TimesR_length (a b : List Int) : (TimesR a b).length = 16 := by unfold TimesR; rw [carryR_length, carryR_length]; exact filled_length _ _ _ _ (Nat.le_refl _)
@[simp] theorem AddR_length (a b : List Int) : (AddR a b).length = a.length := by unfold AddR; rw [carryR_length, addGo_length]
@[simp] theorem LessR_length (a b : List Int) : (LessR a b).length = a.length := by unfold LessR; rw [carryR_length, addGo_length]
@[simp] theorem ReadR_length (u : List (BitVec 8)) : (ReadR u).length = 16 := readR_len u
attribute [local irreducible] TimesR AddR LessR carryR crGo
structure GoodI (s : LadI) : Prop where
  x2 : GoodR s.x2
  z2 : GoodR s.z2
  x3 : GoodR s.x3
  z3 : GoodR s.z3
theorem stepR_good {x2 z2 x3 z3 x1 : List Int} (h2 : GoodR x2) (k2 : GoodR z2) (h3 : GoodR x3) (k3 : GoodR z3) (h1 : GoodR x1) : GoodI (stepR x2 z2 x3 z3 x1) := by
  have a := goodR_add h2 k2
  have b := goodR_less h2 k2
  have c := goodR_add h3 k3
  have d := goodR_less h3 k3
  have da := goodR_times d a
  have cb := goodR_times c b
  have aa := goodR_times a a
  have bb := goodR_times b b
  have e := goodR_less aa bb
  exact ⟨goodR_times aa bb, goodR_times e (goodR_add aa (goodR_times goodR_a24 e)), goodR_times (goodR_add da cb) (goodR_add da cb), goodR_times h1 (goodR_times (goodR_less da cb) (goodR_less da cb))⟩
theorem goodR_zero' : GoodR [0, 0, 0, 0, 0, 0, 0, 0, 0, 0, 0, 0, 0, 0, 0, 0] := ⟨rfl, mem_bd (by decide)⟩
theorem lad16_good (k : List (BitVec 8)) {x1 : List Int} (h1 : GoodR x1) : ∀ j, GoodI (lad16 k x1 j)
  | 0 => ⟨goodR_one, goodR_zero', h1, goodR_one⟩
  | j + 1 => by
    have h := lad16_good k h1 j
    unfold lad16; split
    · have t := stepR_good h.x3 h.z3 h.x2 h.z2 h1
      exact ⟨t.x3, t.z3, t.x2, t.z2⟩
    · exact stepR_good h.x2 h.z2 h.x3 h.z3 h1
def clampR (k : List (BitVec 8)) : List (BitVec 8) := (k.set 0 (k.getD 0 0 / 8#8 * 8#8)).set 31 ((k.set 0 (k.getD 0 0 / 8#8 * 8#8)).getD 31 0 % 64#8 + 64#8)
theorem clampR_length (k : List (BitVec 8)) : (clampR k).length = k.length := by simp [clampR]
def multR (k u : List (BitVec 8)) : List (BitVec 8) := WriteR (TimesR (lad16 (clampR k) (ReadR u) 255).x2 (invRGo (lad16 (clampR k) (ReadR u) 255).z2 255))
@[simp] theorem multR_length (k u : List (BitVec 8)) : (multR k u).length = 32 := WriteR_length _


end Go.Proofs.Ytmiagmbgfhakgaa
