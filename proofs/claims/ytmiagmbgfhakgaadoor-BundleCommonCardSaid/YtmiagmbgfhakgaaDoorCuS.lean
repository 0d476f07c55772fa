/- Points on a curve in Edwards' form; the ladder follows them. Conditions: none beyond those that each theorem states. -/
import Derived.Test.YtmiagmbgfhakgaaDoorCuR
namespace Go.Proofs.YtmiagmbgfhakgaaDoor
set_option linter.unusedVariables false
set_option linter.unusedSimpArgs false
/-! ### Points on a curve x^2 + y^2 = 1 + d x^2 y^2, where d is no square -/
structure Ed (cP : Nat) [NeZero cP] where
  inv : (Fin cP) → (Fin cP)
  mul_inv : ∀ x, x ≠ 0 → x * inv x = 1
  inv_zero : inv 0 = 0
  one_ne : (1 : (Fin cP)) ≠ 0
  two_ne : (2 : (Fin cP)) ≠ 0
  d : (Fin cP)
  nonsq : ∀ s, s * s ≠ d
section
variable {cP : Nat} [NeZero cP]
theorem Ed.nzd (E : Ed cP) {x y : (Fin cP)} (h : x * y = 0) : x = 0 ∨ y = 0 := by
  by_cases hx : x = 0
  · exact .inl hx
  · have := E.mul_inv x hx
    right; grind
theorem Ed.mul_ne (E : Ed cP) {x y : (Fin cP)} (hx : x ≠ 0) (hy : y ≠ 0) : x * y ≠ 0 := fun h => (E.nzd h).elim hx hy
theorem Ed.cancel (E : Ed cP) {a x y : (Fin cP)} (ha : a ≠ 0) (h : x * a = y * a) : x = y := by
  have := E.mul_inv a ha
  grind
theorem Ed.not_sq (E : Ed cP) {w z : (Fin cP)} (hz : z ≠ 0) : w * w ≠ E.d * (z * z) := fun h => by
  have := E.mul_inv z hz
  exact E.nonsq (w * E.inv z) (by grind)
theorem Ed.one_sq (E : Ed cP) {x1 y1 x2 y2 : (Fin cP)} (e1 : x1 * x1 + y1 * y1 = 1 + E.d * (x1 * x1) * (y1 * y1)) (e2 : x2 * x2 + y2 * y2 = 1 + E.d * (x2 * x2) * (y2 * y2)) : (E.d * x1 * x2 * y1 * y2) * (E.d * x1 * x2 * y1 * y2) ≠ 1 := fun h => by
  have h1 : (x1 + E.d * x1 * x2 * y1 * y2 * y1) * (x1 + E.d * x1 * x2 * y1 * y2 * y1) = E.d * ((x1 * y1 * (x2 + y2)) * (x1 * y1 * (x2 + y2))) := by grind
  have h2 : (x1 - E.d * x1 * x2 * y1 * y2 * y1) * (x1 - E.d * x1 * x2 * y1 * y2 * y1) = E.d * ((x1 * y1 * (x2 - y2)) * (x1 * y1 * (x2 - y2))) := by grind
  have z1 : x1 * y1 * (x2 + y2) = 0 := by
    by_cases c : x1 * y1 * (x2 + y2) = 0
    · exact c
    · exact absurd h1 (E.not_sq c)
  have z2 : x1 * y1 * (x2 - y2) = 0 := by
    by_cases c : x1 * y1 * (x2 - y2) = 0
    · exact c
    · exact absurd h2 (E.not_sq c)
  have h12 : x1 * y1 * (2 * x2) = 0 := by grind
  rcases E.nzd h12 with c | c
  · exact E.one_ne (by grind)
  · rcases E.nzd c with c | c
    · exact E.two_ne c
    · exact E.one_ne (by grind)
theorem Ed.complete (E : Ed cP) {x1 y1 x2 y2 : (Fin cP)} (e1 : x1 * x1 + y1 * y1 = 1 + E.d * (x1 * x1) * (y1 * y1)) (e2 : x2 * x2 + y2 * y2 = 1 + E.d * (x2 * x2) * (y2 * y2)) : 1 + E.d * x1 * x2 * y1 * y2 ≠ 0 ∧ 1 - E.d * x1 * x2 * y1 * y2 ≠ 0 := by
  have := E.one_sq e1 e2
  exact ⟨fun h => this (by grind), fun h => this (by grind)⟩
/-- A point. -/
structure Pt (E : Ed cP) where
  x : (Fin cP)
  y : (Fin cP)
  on : x * x + y * y = 1 + E.d * (x * x) * (y * y)
variable {E : Ed cP}
theorem Pt.ext {P Q : Pt E} (hx : P.x = Q.x) (hy : P.y = Q.y) : P = Q := by cases P; cases Q; cases hx; cases hy; rfl
theorem on_sum {d x1 y1 x2 y2 : (Fin cP)} (e1 : x1 * x1 + y1 * y1 = 1 + d * (x1 * x1) * (y1 * y1)) (e2 : x2 * x2 + y2 * y2 = 1 + d * (x2 * x2) * (y2 * y2)) :
    (x1 * y2 + y1 * x2) * (x1 * y2 + y1 * x2) * ((1 - d * x1 * x2 * y1 * y2) * (1 - d * x1 * x2 * y1 * y2)) + (y1 * y2 - x1 * x2) * (y1 * y2 - x1 * x2) * ((1 + d * x1 * x2 * y1 * y2) * (1 + d * x1 * x2 * y1 * y2))
    = (1 - d * x1 * x2 * y1 * y2) * (1 - d * x1 * x2 * y1 * y2) * ((1 + d * x1 * x2 * y1 * y2) * (1 + d * x1 * x2 * y1 * y2)) + d * ((x1 * y2 + y1 * x2) * (x1 * y2 + y1 * x2)) * ((y1 * y2 - x1 * x2) * (y1 * y2 - x1 * x2)) := by grind
def Pt.add (P Q : Pt E) : Pt E where
  x := (P.x * Q.y + P.y * Q.x) * E.inv (1 + E.d * P.x * Q.x * P.y * Q.y)
  y := (P.y * Q.y - P.x * Q.x) * E.inv (1 - E.d * P.x * Q.x * P.y * Q.y)
  on := by
    obtain ⟨ha, hb⟩ := E.complete P.on Q.on
    have i1 := E.mul_inv _ ha
    have i2 := E.mul_inv _ hb
    have h := on_sum P.on Q.on
    generalize E.inv (1 + E.d * P.x * Q.x * P.y * Q.y) = a at *
    generalize E.inv (1 - E.d * P.x * Q.x * P.y * Q.y) = b at *
    generalize P.x * Q.y + P.y * Q.x = X at *
    generalize P.y * Q.y - P.x * Q.x = Y at *
    generalize 1 + E.d * P.x * Q.x * P.y * Q.y = A at *
    generalize 1 - E.d * P.x * Q.x * P.y * Q.y = B at *
    have h2 := congrArg (fun t => t * (a * a) * (b * b)) h
    grind
theorem Pt.add_x (P Q : Pt E) : (P.add Q).x * (1 + E.d * P.x * Q.x * P.y * Q.y) = P.x * Q.y + P.y * Q.x := by
  have i1 := E.mul_inv _ (E.complete P.on Q.on).1
  show (P.x * Q.y + P.y * Q.x) * E.inv (1 + E.d * P.x * Q.x * P.y * Q.y) * (1 + E.d * P.x * Q.x * P.y * Q.y) = _
  grind
theorem Pt.add_y (P Q : Pt E) : (P.add Q).y * (1 - E.d * P.x * Q.x * P.y * Q.y) = P.y * Q.y - P.x * Q.x := by
  have i1 := E.mul_inv _ (E.complete P.on Q.on).2
  show (P.y * Q.y - P.x * Q.x) * E.inv (1 - E.d * P.x * Q.x * P.y * Q.y) * (1 - E.d * P.x * Q.x * P.y * Q.y) = _
  grind
theorem Pt.add_comm (P Q : Pt E) : P.add Q = Q.add P := by
  have h1 := P.add_x Q; have h2 := P.add_y Q; have h3 := Q.add_x P; have h4 := Q.add_y P
  obtain ⟨ha, hb⟩ := E.complete P.on Q.on
  refine Pt.ext (E.cancel ha ?_) (E.cancel hb ?_) <;> grind
def Pt.zero : Pt E := ⟨0, 1, by grind⟩
theorem Pt.add_zero (P : Pt E) : P.add Pt.zero = P := by
  have h1 := P.add_x Pt.zero; have h2 := P.add_y Pt.zero
  have e1 : (Pt.zero : Pt E).x = 0 := rfl
  have e2 : (Pt.zero : Pt E).y = 1 := rfl
  rw [e1, e2] at h1 h2
  exact Pt.ext (by grind) (by grind)
def Pt.neg (P : Pt E) : Pt E := ⟨-P.x, P.y, by have := P.on; grind⟩
theorem Pt.add_neg (P : Pt E) : P.add P.neg = Pt.zero := by
  have h1 := P.add_x P.neg; have h2 := P.add_y P.neg
  obtain ⟨ha, hb⟩ := E.complete P.on P.neg.on
  have e1 : P.neg.x = -P.x := rfl
  have e2 : P.neg.y = P.y := rfl
  have ho := P.on
  rw [e1, e2] at h1 h2 ha hb
  refine Pt.ext (E.cancel ha ?_) (E.cancel hb ?_)
  · rw [h1]; show _ = 0 * _; grind
  · rw [h2]; show _ = 1 * _; grind
theorem assoc_x {d x1 y1 x2 y2 x3 y3 : (Fin cP)}
  (e1 : x1*x1 + y1*y1 = 1 + d*(x1*x1)*(y1*y1)) (e2 : x2*x2 + y2*y2 = 1 + d*(x2*x2)*(y2*y2)) (e3 : x3*x3 + y3*y3 = 1 + d*(x3*x3)*(y3*y3)) :
  ((x1*y2+y1*x2)*(1-d*x1*x2*y1*y2)*y3 + (y1*y2-x1*x2)*(1+d*x1*x2*y1*y2)*x3) * ((1-(d*x2*x3*y2*y3)*(d*x2*x3*y2*y3)) + d*x1*y1*(x2*y3+y2*x3)*(y2*y3-x2*x3))
  = (x1*(y2*y3-x2*x3)*(1+d*x2*x3*y2*y3) + y1*(x2*y3+y2*x3)*(1-d*x2*x3*y2*y3)) * ((1-(d*x1*x2*y1*y2)*(d*x1*x2*y1*y2)) + d*(x1*y2+y1*x2)*(y1*y2-x1*x2)*x3*y3) := by grind
theorem assoc_y {d x1 y1 x2 y2 x3 y3 : (Fin cP)}
  (e1 : x1*x1 + y1*y1 = 1 + d*(x1*x1)*(y1*y1)) (e2 : x2*x2 + y2*y2 = 1 + d*(x2*x2)*(y2*y2)) (e3 : x3*x3 + y3*y3 = 1 + d*(x3*x3)*(y3*y3)) :
  ((y1*y2-x1*x2)*(1+d*x1*x2*y1*y2)*y3 - (x1*y2+y1*x2)*(1-d*x1*x2*y1*y2)*x3) * ((1-(d*x2*x3*y2*y3)*(d*x2*x3*y2*y3)) - d*x1*y1*(x2*y3+y2*x3)*(y2*y3-x2*x3))
  = (y1*(y2*y3-x2*x3)*(1+d*x2*x3*y2*y3) - x1*(x2*y3+y2*x3)*(1-d*x2*x3*y2*y3)) * ((1-(d*x1*x2*y1*y2)*(d*x1*x2*y1*y2)) - d*(x1*y2+y1*x2)*(y1*y2-x1*x2)*x3*y3) := by grind
theorem ab_fin {T V a b : (Fin cP)} (h : T * a * b = V * b * a) : T * (a * b) = V * (a * b) := by grind
theorem tp1 {T c a b X Y u v p q : (Fin cP)} (h : T * c = X * v + Y * u) (h1 : X * a = p) (h2 : Y * b = q) : T * (c * (a * b)) = p * b * v + q * a * u := by grind
theorem tp2 {T c a b X Y u v p q : (Fin cP)} (h : T * c = Y * v - X * u) (h1 : X * a = p) (h2 : Y * b = q) : T * (c * (a * b)) = q * a * v - p * b * u := by grind
theorem tp3 {T c a b X Y u v p q : (Fin cP)} (h : T * c = u * Y + v * X) (h1 : X * a = p) (h2 : Y * b = q) : T * (c * (a * b)) = u * q * a + v * p * b := by grind
theorem tp4 {T c a b X Y u v p q : (Fin cP)} (h : T * c = v * Y - u * X) (h1 : X * a = p) (h2 : Y * b = q) : T * (c * (a * b)) = v * q * a - u * p * b := by grind
theorem kp1 {d D a b X Y x y p q : (Fin cP)} (ha : a = 1 + D) (hb : b = 1 - D) (h1 : X * a = p) (h2 : Y * b = q) : (1 + d * X * x * Y * y) * (a * b) = (1 - D * D) + d * p * q * x * y := by grind
theorem kp2 {d D a b X Y x y p q : (Fin cP)} (ha : a = 1 + D) (hb : b = 1 - D) (h1 : X * a = p) (h2 : Y * b = q) : (1 - d * X * x * Y * y) * (a * b) = (1 - D * D) - d * p * q * x * y := by grind
theorem kp3 {d D a b X Y x y p q : (Fin cP)} (ha : a = 1 + D) (hb : b = 1 - D) (h1 : X * a = p) (h2 : Y * b = q) : (1 + d * x * X * y * Y) * (a * b) = (1 - D * D) + d * x * y * p * q := by grind
theorem kp4 {d D a b X Y x y p q : (Fin cP)} (ha : a = 1 + D) (hb : b = 1 - D) (h1 : X * a = p) (h2 : Y * b = q) : (1 - d * x * X * y * Y) * (a * b) = (1 - D * D) - d * x * y * p * q := by grind
theorem Pt.add_assoc (P Q R : Pt E) : (P.add Q).add R = P.add (Q.add R) := by
  have a1 := P.add_x Q; have a2 := P.add_y Q; have a3 := Q.add_x R; have a4 := Q.add_y R
  obtain ⟨n1, n2⟩ := E.complete P.on Q.on
  obtain ⟨n3, n4⟩ := E.complete Q.on R.on
  have b1 := (P.add Q).add_x R; have b2 := (P.add Q).add_y R; have b3 := P.add_x (Q.add R); have b4 := P.add_y (Q.add R)
  obtain ⟨m1, m2⟩ := E.complete (P.add Q).on R.on
  obtain ⟨m3, m4⟩ := E.complete P.on (Q.add R).on
  have hx := assoc_x P.on Q.on R.on
  have hy := assoc_y P.on Q.on R.on
  generalize (P.add Q).add R = T at *
  generalize P.add (Q.add R) = V at *
  generalize P.add Q = S at *
  generalize Q.add R = U at *
  -- both sides by the sums' parts
  have k1 : (1 + E.d * S.x * R.x * S.y * R.y) * ((1 + E.d * P.x * Q.x * P.y * Q.y) * (1 - E.d * P.x * Q.x * P.y * Q.y)) = (1 - (E.d * P.x * Q.x * P.y * Q.y) * (E.d * P.x * Q.x * P.y * Q.y)) + E.d * (P.x * Q.y + P.y * Q.x) * (P.y * Q.y - P.x * Q.x) * R.x * R.y := kp1 rfl rfl a1 a2
  have k2 : (1 - E.d * S.x * R.x * S.y * R.y) * ((1 + E.d * P.x * Q.x * P.y * Q.y) * (1 - E.d * P.x * Q.x * P.y * Q.y)) = (1 - (E.d * P.x * Q.x * P.y * Q.y) * (E.d * P.x * Q.x * P.y * Q.y)) - E.d * (P.x * Q.y + P.y * Q.x) * (P.y * Q.y - P.x * Q.x) * R.x * R.y := kp2 rfl rfl a1 a2
  have k3 : (1 + E.d * P.x * U.x * P.y * U.y) * ((1 + E.d * Q.x * R.x * Q.y * R.y) * (1 - E.d * Q.x * R.x * Q.y * R.y)) = (1 - (E.d * Q.x * R.x * Q.y * R.y) * (E.d * Q.x * R.x * Q.y * R.y)) + E.d * P.x * P.y * (Q.x * R.y + Q.y * R.x) * (Q.y * R.y - Q.x * R.x) := kp3 rfl rfl a3 a4
  have k4 : (1 - E.d * P.x * U.x * P.y * U.y) * ((1 + E.d * Q.x * R.x * Q.y * R.y) * (1 - E.d * Q.x * R.x * Q.y * R.y)) = (1 - (E.d * Q.x * R.x * Q.y * R.y) * (E.d * Q.x * R.x * Q.y * R.y)) - E.d * P.x * P.y * (Q.x * R.y + Q.y * R.x) * (Q.y * R.y - Q.x * R.x) := kp4 rfl rfl a3 a4
  have t1 : T.x * ((1 + E.d * S.x * R.x * S.y * R.y) * ((1 + E.d * P.x * Q.x * P.y * Q.y) * (1 - E.d * P.x * Q.x * P.y * Q.y))) = (P.x * Q.y + P.y * Q.x) * (1 - E.d * P.x * Q.x * P.y * Q.y) * R.y + (P.y * Q.y - P.x * Q.x) * (1 + E.d * P.x * Q.x * P.y * Q.y) * R.x := tp1 b1 a1 a2
  have t2 : T.y * ((1 - E.d * S.x * R.x * S.y * R.y) * ((1 + E.d * P.x * Q.x * P.y * Q.y) * (1 - E.d * P.x * Q.x * P.y * Q.y))) = (P.y * Q.y - P.x * Q.x) * (1 + E.d * P.x * Q.x * P.y * Q.y) * R.y - (P.x * Q.y + P.y * Q.x) * (1 - E.d * P.x * Q.x * P.y * Q.y) * R.x := tp2 b2 a1 a2
  have t3 : V.x * ((1 + E.d * P.x * U.x * P.y * U.y) * ((1 + E.d * Q.x * R.x * Q.y * R.y) * (1 - E.d * Q.x * R.x * Q.y * R.y))) = P.x * (Q.y * R.y - Q.x * R.x) * (1 + E.d * Q.x * R.x * Q.y * R.y) + P.y * (Q.x * R.y + Q.y * R.x) * (1 - E.d * Q.x * R.x * Q.y * R.y) := tp3 b3 a3 a4
  have t4 : V.y * ((1 - E.d * P.x * U.x * P.y * U.y) * ((1 + E.d * Q.x * R.x * Q.y * R.y) * (1 - E.d * Q.x * R.x * Q.y * R.y))) = P.y * (Q.y * R.y - Q.x * R.x) * (1 + E.d * Q.x * R.x * Q.y * R.y) - P.x * (Q.x * R.y + Q.y * R.x) * (1 - E.d * Q.x * R.x * Q.y * R.y) := tp4 b4 a3 a4
  have u1 := E.mul_ne m1 (E.mul_ne n1 n2); have u2 := E.mul_ne m2 (E.mul_ne n1 n2); have u3 := E.mul_ne m3 (E.mul_ne n3 n4); have u4 := E.mul_ne m4 (E.mul_ne n3 n4)
  rw [← t1, ← t3, ← k1, ← k3] at hx
  rw [← t2, ← t4, ← k2, ← k4] at hy
  exact Pt.ext (E.cancel (E.mul_ne u1 u3) (ab_fin hx)) (E.cancel (E.mul_ne u2 u4) (ab_fin hy))
/-- A point so many times. -/
def Pt.times (P : Pt E) : Nat → Pt E
  | 0 => Pt.zero
  | n + 1 => (P.times n).add P
theorem Pt.zero_add (P : Pt E) : Pt.zero.add P = P := by rw [Pt.add_comm, Pt.add_zero]
theorem Pt.times_add (P : Pt E) (m : Nat) : ∀ n, P.times (m + n) = (P.times m).add (P.times n)
  | 0 => (Pt.add_zero _).symm
  | n + 1 => by show (P.times (m + n)).add P = (P.times m).add ((P.times n).add P); rw [Pt.times_add P m n, Pt.add_assoc]
theorem Pt.times_mul (P : Pt E) (m : Nat) : ∀ n, P.times (m * n) = (P.times m).times n
  | 0 => rfl
  | n + 1 => by rw [Nat.mul_succ, Pt.times_add, Pt.times_mul P m n]; rfl
theorem Pt.times_comm (P : Pt E) (m n : Nat) : (P.times m).times n = (P.times n).times m := by rw [← Pt.times_mul, ← Pt.times_mul, Nat.mul_comm]
theorem Pt.zero_times : ∀ n, (Pt.zero : Pt E).times n = Pt.zero
  | 0 => rfl
  | n + 1 => by show ((Pt.zero : Pt E).times n).add Pt.zero = _; rw [Pt.zero_times n, Pt.add_zero]
end
/-! ### The ladder follows the points -/
structure LadK (K : Type) where
  px : K
  pz : K
  qx : K
  qz : K
section
variable {cP : Nat} [NeZero cP]
def stepK (a px pz qx qz x1 : (Fin cP)) : LadK (Fin cP) :=
  ⟨((px + pz) * (px + pz)) * ((px - pz) * (px - pz)),
   ((px + pz) * (px + pz) - (px - pz) * (px - pz)) * ((px + pz) * (px + pz) + a * ((px + pz) * (px + pz) - (px - pz) * (px - pz))),
   ((qx - qz) * (px + pz) + (qx + qz) * (px - pz)) * ((qx - qz) * (px + pz) + (qx + qz) * (px - pz)),
   x1 * (((qx - qz) * (px + pz) - (qx + qz) * (px - pz)) * ((qx - qz) * (px + pz) - (qx + qz) * (px - pz)))⟩
def ladK (a : (Fin cP)) (bit : Nat → Bool) (x1 : (Fin cP)) : Nat → LadK (Fin cP)
  | 0 => ⟨1, 0, x1, 1⟩
  | j + 1 =>
    if bit j then stepK a (ladK a bit x1 j).px (ladK a bit x1 j).pz (ladK a bit x1 j).qx (ladK a bit x1 j).qz x1
    else ⟨(stepK a (ladK a bit x1 j).qx (ladK a bit x1 j).qz (ladK a bit x1 j).px (ladK a bit x1 j).pz x1).qx, (stepK a (ladK a bit x1 j).qx (ladK a bit x1 j).qz (ladK a bit x1 j).px (ladK a bit x1 j).pz x1).qz, (stepK a (ladK a bit x1 j).qx (ladK a bit x1 j).qz (ladK a bit x1 j).px (ladK a bit x1 j).pz x1).px, (stepK a (ladK a bit x1 j).qx (ladK a bit x1 j).qz (ladK a bit x1 j).px (ladK a bit x1 j).pz x1).pz⟩
def numK (bit : Nat → Bool) : Nat → Nat
  | 0 => 0
  | j + 1 => if bit j then 2 * numK bit j else 2 * numK bit j + 1
/-- How a curve in Edwards' form stands to the ladder's constant. -/
structure Mo (E : Ed cP) (a s : (Fin cP)) : Prop where
  a0 : a ≠ 0
  a1 : a + 1 ≠ 0
  is : s = 1 ∧ E.d * (a + 1) = a ∨ s = -1 ∧ E.d * a = a + 1
variable {E : Ed cP} {a s : (Fin cP)}
theorem Mo.ss (M : Mo E a s) : s * s = 1 := by
  rcases M.is with ⟨h, _⟩ | ⟨h, _⟩ <;> rw [h] <;> grind
theorem Mo.s0 (M : Mo E a s) : s ≠ 0 := fun h => by
  have := M.ss
  have h1 := E.one_ne
  rw [h] at this
  exact h1 (by grind)
def RepU (s X Z y : (Fin cP)) : Prop := ∃ c, c ≠ 0 ∧ X = c * (1 + y) ∧ Z = c * (s * (1 - y))
theorem repU_of (M : Mo E a s) {X Z y : (Fin cP)} (h : X * (s * (1 - y)) = Z * (1 + y)) (hn : X ≠ 0 ∨ Z ≠ 0) : RepU s X Z y := by
  by_cases c1 : 1 + y = 0
  · have h2 : 1 - y ≠ 0 := fun h2 => E.two_ne (by grind)
    have h3 : s * (1 - y) ≠ 0 := E.mul_ne M.s0 h2
    have hX : X = 0 := by
      have : X * (s * (1 - y)) = 0 := by rw [h, c1]; grind
      exact (E.nzd this).resolve_right h3
    have i := E.mul_inv _ h3
    have hZ : Z ≠ 0 := hn.resolve_left (fun h => h hX)
    refine ⟨Z * E.inv (s * (1 - y)), fun h0 => hZ ?_, by rw [hX, c1]; grind, ?_⟩
    · generalize s * (1 - y) = t at *
      generalize E.inv t = u at *
      grind
    · generalize s * (1 - y) = t at *
      generalize E.inv t = u at *
      grind
  · have i := E.mul_inv _ c1
    have hX : X = X * E.inv (1 + y) * (1 + y) := by generalize E.inv (1 + y) = u at *; grind
    have hZ : Z = X * E.inv (1 + y) * (s * (1 - y)) := by generalize E.inv (1 + y) = u at *; grind
    refine ⟨X * E.inv (1 + y), fun h0 => ?_, hX, hZ⟩
    rw [h0] at hX hZ
    rcases hn with hn | hn
    · exact hn (by rw [hX]; grind)
    · exact hn (by rw [hZ]; grind)
theorem dbl1 {d a c x y : (Fin cP)} (e : x * x + y * y = 1 + d * (x * x) * (y * y)) (hd : d * (a + 1) = a) :
    ((c * (1 + y) + c * (1 * (1 - y))) * (c * (1 + y) + c * (1 * (1 - y)))) * ((c * (1 + y) - c * (1 * (1 - y))) * (c * (1 + y) - c * (1 * (1 - y)))) * (1 * ((1 - d * x * x * y * y) - (y * y - x * x))) =
    ((c * (1 + y) + c * (1 * (1 - y))) * (c * (1 + y) + c * (1 * (1 - y))) - (c * (1 + y) - c * (1 * (1 - y))) * (c * (1 + y) - c * (1 * (1 - y)))) * ((c * (1 + y) + c * (1 * (1 - y))) * (c * (1 + y) + c * (1 * (1 - y))) + a * ((c * (1 + y) + c * (1 * (1 - y))) * (c * (1 + y) + c * (1 * (1 - y))) - (c * (1 + y) - c * (1 * (1 - y))) * (c * (1 + y) - c * (1 * (1 - y))))) * ((1 - d * x * x * y * y) + (y * y - x * x)) := by grind
theorem dbl2 {d a c x y : (Fin cP)} (e : x * x + y * y = 1 + d * (x * x) * (y * y)) (hd : d * a = a + 1) :
    ((c * (1 + y) + c * (-1 * (1 - y))) * (c * (1 + y) + c * (-1 * (1 - y)))) * ((c * (1 + y) - c * (-1 * (1 - y))) * (c * (1 + y) - c * (-1 * (1 - y)))) * (-1 * ((1 - d * x * x * y * y) - (y * y - x * x))) =
    ((c * (1 + y) + c * (-1 * (1 - y))) * (c * (1 + y) + c * (-1 * (1 - y))) - (c * (1 + y) - c * (-1 * (1 - y))) * (c * (1 + y) - c * (-1 * (1 - y)))) * ((c * (1 + y) + c * (-1 * (1 - y))) * (c * (1 + y) + c * (-1 * (1 - y))) + a * ((c * (1 + y) + c * (-1 * (1 - y))) * (c * (1 + y) + c * (-1 * (1 - y))) - (c * (1 + y) - c * (-1 * (1 - y))) * (c * (1 + y) - c * (-1 * (1 - y))))) * ((1 - d * x * x * y * y) + (y * y - x * x)) := by grind
theorem dbl_fin {X Z s y m n : (Fin cP)} (hy : y * m = n) (h : X * (s * (m - n)) = Z * (m + n)) : (X * (s * (1 - y))) * m = (Z * (1 + y)) * m := by grind
theorem four_ne (E : Ed cP) {c : (Fin cP)} (hc : c ≠ 0) : (c + c) * (c + c) ≠ 0 := by
  have h : c + c ≠ 0 := fun h => (E.mul_ne E.two_ne hc) (by grind)
  exact E.mul_ne h h
theorem repU_dbl (M : Mo E a s) (P : Pt E) {X Z qx qz x1 : (Fin cP)} (h : RepU s X Z P.y) : RepU s (stepK a X Z qx qz x1).px (stepK a X Z qx qz x1).pz (P.add P).y := by
  obtain ⟨c, hc, rfl, rfl⟩ := h
  have hy := P.add_y P
  have hm := (E.complete P.on P.on).2
  have ho := P.on
  have f4 := four_ne E hc
  refine repU_of M (E.cancel hm (dbl_fin hy ?_)) ?_
  · rcases M.is with ⟨h, hd⟩ | ⟨h, hd⟩
    · rw [h]; exact dbl1 ho hd
    · rw [h]; exact dbl2 ho hd
  · show ((c * (1 + P.y) + c * (s * (1 - P.y))) * (c * (1 + P.y) + c * (s * (1 - P.y)))) * ((c * (1 + P.y) - c * (s * (1 - P.y))) * (c * (1 + P.y) - c * (s * (1 - P.y)))) ≠ 0 ∨ ((c * (1 + P.y) + c * (s * (1 - P.y))) * (c * (1 + P.y) + c * (s * (1 - P.y))) - (c * (1 + P.y) - c * (s * (1 - P.y))) * (c * (1 + P.y) - c * (s * (1 - P.y)))) * ((c * (1 + P.y) + c * (s * (1 - P.y))) * (c * (1 + P.y) + c * (s * (1 - P.y))) + a * ((c * (1 + P.y) + c * (s * (1 - P.y))) * (c * (1 + P.y) + c * (s * (1 - P.y))) - (c * (1 + P.y) - c * (s * (1 - P.y))) * (c * (1 + P.y) - c * (s * (1 - P.y))))) ≠ 0
    by_cases y0 : P.y = 0
    · right
      rw [y0]
      rcases M.is with ⟨h, hd⟩ | ⟨h, hd⟩
      · rw [h]
        have := E.mul_ne (E.mul_ne f4 f4) M.a1
        intro h2; exact this (by grind)
      · rw [h]
        have := E.mul_ne (E.mul_ne f4 f4) M.a0
        intro h2; exact this (by grind)
    · left
      have := E.mul_ne (E.mul_ne f4 f4) (E.mul_ne y0 y0)
      rcases M.is with ⟨h, hd⟩ | ⟨h, hd⟩
      · rw [h]; intro h2; exact this (by grind)
      · rw [h]; intro h2; exact this (by grind)
theorem diff_id {d xp yp xq yq : (Fin cP)} (e1 : xp * xp + yp * yp = 1 + d * (xp * xp) * (yp * yp)) (e2 : xq * xq + yq * yq = 1 + d * (xq * xq) * (yq * yq)) :
    (yq + yp) * (yq + yp) * ((1 - d * xq * xp * yq * yp) - (yq * yp - xq * xp)) * ((1 + d * xq * xp * yq * yp) - (yq * yp + xq * xp)) =
    (yq - yp) * (yq - yp) * ((1 - d * xq * xp * yq * yp) + (yq * yp - xq * xp)) * ((1 + d * xq * xp * yq * yp) + (yq * yp + xq * xp)) := by grind
theorem diff_fin {s x1 u v y b m n k l C : (Fin cP)} (hs : s * s = 1) (hy : y * m = n) (hb : b * k = l) (hx : x1 * (s * (1 - b)) = 1 + b)
    (h : u * (m - n) * (k - l) = v * (m + n) * (k + l)) : (C * u * (s * (1 - y))) * (m * (s * (1 - b) * k)) = (x1 * (C * v) * (1 + y)) * (m * (s * (1 - b) * k)) := by
  have h1 : (1 - y) * m = m - n := by grind
  have h2 : (1 + y) * m = m + n := by grind
  have h3 : (1 - b) * k = k - l := by grind
  have h4 : (1 + b) * k = k + l := by grind
  have l1 : (C * u * (s * (1 - y))) * (m * (s * (1 - b) * k)) = C * (s * s) * (u * ((1 - y) * m) * ((1 - b) * k)) := by grind
  have l2 : (x1 * (C * v) * (1 + y)) * (m * (s * (1 - b) * k)) = C * (v * ((1 + y) * m) * ((x1 * (s * (1 - b))) * k)) := by grind
  rw [l1, l2, hx, h1, h2, h3, h4, hs, h]; grind
theorem sum_parts {s c e y z : (Fin cP)} (hs : s = 1 ∨ s = -1) :
    ((c * (1 + y) - c * (s * (1 - y))) * (e * (1 + z) + e * (s * (1 - z))) + (c * (1 + y) + c * (s * (1 - y))) * (e * (1 + z) - e * (s * (1 - z)))) * ((c * (1 + y) - c * (s * (1 - y))) * (e * (1 + z) + e * (s * (1 - z))) + (c * (1 + y) + c * (s * (1 - y))) * (e * (1 + z) - e * (s * (1 - z)))) = (4 * (c * e)) * (4 * (c * e)) * ((y + z) * (y + z)) ∧
    ((c * (1 + y) - c * (s * (1 - y))) * (e * (1 + z) + e * (s * (1 - z))) - (c * (1 + y) + c * (s * (1 - y))) * (e * (1 + z) - e * (s * (1 - z)))) * ((c * (1 + y) - c * (s * (1 - y))) * (e * (1 + z) + e * (s * (1 - z))) - (c * (1 + y) + c * (s * (1 - y))) * (e * (1 + z) - e * (s * (1 - z)))) = (4 * (c * e)) * (4 * (c * e)) * ((y - z) * (y - z)) := by
  rcases hs with rfl | rfl <;> constructor <;> grind
theorem repU_sum (M : Mo E a s) (P Q : Pt E) {b x1 px pz qx qz : (Fin cP)} (hb : b * (1 + E.d * Q.x * P.x * Q.y * P.y) = Q.y * P.y + Q.x * P.x) (hx : RepU s x1 1 b) (hx0 : x1 ≠ 0) (hp : RepU s px pz P.y) (hq : RepU s qx qz Q.y) :
    RepU s (stepK a px pz qx qz x1).qx (stepK a px pz qx qz x1).qz (Q.add P).y := by
  obtain ⟨e, he, rfl, rfl⟩ := hp
  obtain ⟨c, hc, rfl, rfl⟩ := hq
  obtain ⟨t, ht, rfl, hz⟩ := hx
  have hs : s = 1 ∨ s = -1 := M.is.imp And.left And.left
  obtain ⟨p1, p2⟩ := sum_parts (c := c) (e := e) (y := Q.y) (z := P.y) hs
  have hy := Q.add_y P
  obtain ⟨hk, hm⟩ := E.complete Q.on P.on
  have hb1 : 1 - b ≠ 0 := fun h => E.one_ne (by rw [hz, h]; grind)
  have hb2 : 1 + b ≠ 0 := fun h => hx0 (by rw [h]; grind)
  have hx2 : t * (1 + b) * (s * (1 - b)) = 1 + b := by
    have : t * (1 + b) * (s * (1 - b)) = (t * (s * (1 - b))) * (1 + b) := by grind
    rw [this, ← hz]; grind
  have four : (4 : (Fin cP)) ≠ 0 := fun h => (E.mul_ne E.two_ne E.two_ne) (by grind)
  have hC : (4 * (c * e)) * (4 * (c * e)) ≠ 0 := E.mul_ne (E.mul_ne four (E.mul_ne hc he)) (E.mul_ne four (E.mul_ne hc he))
  show RepU s _ (_ * _) _
  unfold stepK
  simp only
  rw [p1, p2]
  refine repU_of M (E.cancel (E.mul_ne hm (E.mul_ne (E.mul_ne M.s0 hb1) hk)) (diff_fin M.ss hy hb hx2 ?_)) ?_
  · exact diff_id P.on Q.on
  · by_cases c1 : Q.y + P.y = 0
    · right
      refine E.mul_ne hx0 (E.mul_ne hC ?_)
      have : Q.y - P.y ≠ 0 := fun h => by
        have q0 : Q.y = 0 := by
          have : (2 : (Fin cP)) * Q.y = 0 := by grind
          exact (E.nzd this).resolve_left E.two_ne
        have p0 : P.y = 0 := by grind
        have o1 := P.on; have o2 := Q.on
        rw [p0] at o1 hb; rw [q0] at o2 hb
        have hbb : (1 - b) * (1 + b) = 0 := by
          have e1 : b = Q.x * P.x := by grind
          have e2 : P.x * P.x = 1 := by grind
          have e3 : Q.x * Q.x = 1 := by grind
          rw [e1]; grind
        exact (E.mul_ne hb1 hb2) hbb
      exact E.mul_ne this this
    · left
      exact E.mul_ne hC (E.mul_ne c1 c1)
theorem diff_y (P B : Pt E) : B.y * (1 + E.d * (P.add B).x * P.x * (P.add B).y * P.y) = (P.add B).y * P.y + (P.add B).x * P.x := by
  have h : (P.add B).add P.neg = B := by rw [Pt.add_comm P B, Pt.add_assoc, Pt.add_neg, Pt.add_zero]
  have := (P.add B).add_y P.neg
  rw [h] at this
  have e1 : P.neg.x = -P.x := rfl
  have e2 : P.neg.y = P.y := rfl
  rw [e1, e2] at this
  grind
theorem lad_ok (M : Mo E a s) (B : Pt E) {x1 : (Fin cP)} (hx : RepU s x1 1 B.y) (hx0 : x1 ≠ 0) (bit : Nat → Bool) : ∀ j,
    RepU s (ladK a bit x1 j).px (ladK a bit x1 j).pz (B.times (numK bit j)).y ∧ RepU s (ladK a bit x1 j).qx (ladK a bit x1 j).qz (B.times (numK bit j + 1)).y
  | 0 => by
    refine ⟨⟨E.inv 2, fun h => ?_, ?_, ?_⟩, ?_⟩
    · have := E.mul_inv 2 E.two_ne
      rw [h] at this; exact E.one_ne (by grind)
    · show 1 = E.inv 2 * (1 + 1); have := E.mul_inv 2 E.two_ne; grind
    · show 0 = E.inv 2 * (s * (1 - 1)); grind
    · show RepU s x1 1 ((Pt.zero : Pt E).add B).y
      rw [Pt.zero_add]; exact hx
  | j + 1 => by
    obtain ⟨ih1, ih2⟩ := lad_ok M B hx hx0 bit j
    have hd := diff_y (B.times (numK bit j)) B
    have hQ : (B.times (numK bit j)).add B = B.times (numK bit j + 1) := rfl
    rw [hQ] at hd
    unfold ladK numK
    cases bit j
    · simp only [Bool.false_eq_true, if_false]
      have r1 := repU_dbl M (B.times (numK bit j + 1)) (qx := (ladK a bit x1 j).px) (qz := (ladK a bit x1 j).pz) (x1 := x1) ih2
      have r2 := repU_sum M (B.times (numK bit j + 1)) (B.times (numK bit j)) (b := B.y) (by rw [show B.y * (1 + E.d * (B.times (numK bit j)).x * (B.times (numK bit j + 1)).x * (B.times (numK bit j)).y * (B.times (numK bit j + 1)).y) = B.y * (1 + E.d * (B.times (numK bit j + 1)).x * (B.times (numK bit j)).x * (B.times (numK bit j + 1)).y * (B.times (numK bit j)).y) by grind, hd]; grind) hx hx0 ih2 ih1
      rw [← Pt.times_add] at r1 r2
      rw [show numK bit j + (numK bit j + 1) = 2 * numK bit j + 1 by omega] at r2
      rw [show numK bit j + 1 + (numK bit j + 1) = 2 * numK bit j + 1 + 1 by omega] at r1
      exact ⟨r2, r1⟩
    · simp only [if_true]
      have r1 := repU_dbl M (B.times (numK bit j)) (qx := (ladK a bit x1 j).qx) (qz := (ladK a bit x1 j).qz) (x1 := x1) ih1
      have r2 := repU_sum M (B.times (numK bit j)) (B.times (numK bit j + 1)) (b := B.y) hd hx hx0 ih1 ih2
      rw [← Pt.times_add] at r1 r2
      rw [show numK bit j + numK bit j = 2 * numK bit j by omega] at r1
      rw [show numK bit j + 1 + numK bit j = 2 * numK bit j + 1 by omega] at r2
      exact ⟨r1, r2⟩
/-- The number that the ladder tells. -/
def uvK (E : Ed cP) (s y : (Fin cP)) : (Fin cP) := (1 + y) * E.inv (s * (1 - y))
theorem repU_uv {X Z y : (Fin cP)} (h : RepU s X Z y) : X * E.inv Z = uvK E s y := by
  obtain ⟨c, hc, rfl, rfl⟩ := h
  unfold uvK
  by_cases h0 : s * (1 - y) = 0
  · rw [h0, show c * (0 : (Fin cP)) = 0 by grind, E.inv_zero]; grind
  · have h1 := E.mul_ne hc h0
    have i1 := E.mul_inv _ h1
    have i2 := E.mul_inv _ h0
    refine E.cancel h1 ?_
    generalize s * (1 - y) = t at *
    generalize E.inv (c * t) = u at *
    generalize E.inv t = v at *
    grind
theorem lad_zero (a : (Fin cP)) (bit : Nat → Bool) : ∀ j, (ladK a bit 0 j).pz = 0 ∧ (j = 0 ∨ (ladK a bit 0 j).qz = 0)
  | 0 => ⟨rfl, .inl rfl⟩
  | j + 1 => by
    obtain ⟨h1, h2⟩ := lad_zero a bit j
    unfold ladK
    cases bit j
    · simp only [Bool.false_eq_true, if_false]
      refine ⟨?_, .inr ?_⟩
      · show (0 : (Fin cP)) * _ = 0; grind
      · rcases h2 with rfl | h2
        · show ((0 + 1) * (0 + 1) - (0 - 1) * (0 - 1)) * _ = (0 : (Fin cP)); grind
        · show (_ - _) * _ = (0 : (Fin cP)); rw [h2]; grind
    · simp only [if_true]
      refine ⟨?_, .inr ?_⟩
      · show (_ - _) * _ = (0 : (Fin cP)); rw [h1]; grind
      · show (0 : (Fin cP)) * _ = 0; grind
/-- The product of a number. -/
def prodK (E : Ed cP) (a : (Fin cP)) (bit : Nat → Bool) (x : (Fin cP)) : (Fin cP) := (ladK a bit x 255).px * E.inv (ladK a bit x 255).pz
theorem prod_zero (bit : Nat → Bool) : prodK E a bit 0 = 0 := by
  unfold prodK; rw [(lad_zero a bit 255).1, E.inv_zero]; grind
theorem prod_times (M : Mo E a s) (B : Pt E) {bit : Nat → Bool} {m : Nat} (hev : numK bit 255 = 2 * m) : prodK E a bit (uvK E s B.y) = uvK E s (B.times (numK bit 255)).y := by
  by_cases h0 : uvK E s B.y = 0
  · rw [h0, prod_zero, hev]
    have hb : B.add B = Pt.zero := by
      have ho := B.on
      have hc : (1 + B.y) * (1 - B.y) = 0 := by
        by_cases c : s * (1 - B.y) = 0
        · have := (E.nzd c).resolve_left M.s0
          rw [this]; grind
        · have i := E.mul_inv _ c
          unfold uvK at h0
          have h2 : 1 + B.y = 0 := by
            generalize s * (1 - B.y) = t at *
            generalize E.inv t = u at *
            grind
          rw [h2]; grind
      have hd1 : 1 - E.d ≠ 0 := fun h => E.nonsq 1 (by grind)
      have hx : B.x = 0 := by
        have h3 : (1 - E.d) * (B.x * B.x) = 0 := by grind
        have := (E.nzd h3).resolve_left hd1
        exact (E.nzd this).elim id id
      have h1 := B.add_x B; have h2 := B.add_y B
      rw [hx] at h1 h2
      exact Pt.ext (by show _ = 0; grind) (by show _ = 1; grind)
    have e2 : B.times 2 = Pt.zero := by show (((Pt.zero : Pt E).add B).add B) = _; rw [Pt.zero_add, hb]
    rw [Pt.times_mul, e2, Pt.zero_times]
    unfold uvK
    have e1 : (Pt.zero : Pt E).y = 1 := rfl
    rw [e1, show s * (1 - (1 : (Fin cP))) = 0 by grind, E.inv_zero]; grind
  · have hs : s * (1 - B.y) ≠ 0 := fun h => h0 (by unfold uvK; rw [h, E.inv_zero]; grind)
    have i := E.mul_inv _ hs
    have hr : RepU s (uvK E s B.y) 1 B.y := by
      refine ⟨E.inv (s * (1 - B.y)), fun h => ?_, by unfold uvK; grind, by grind⟩
      rw [h] at i; exact E.one_ne (by grind)
    exact repU_uv (lad_ok M B hr h0 bit 255).1
theorem prod_comm (M : Mo E a s) (B : Pt E) {bit bit' : Nat → Bool} {m m' : Nat} (h : numK bit 255 = 2 * m) (h' : numK bit' 255 = 2 * m') :
    prodK E a bit (prodK E a bit' (uvK E s B.y)) = prodK E a bit' (prodK E a bit (uvK E s B.y)) := by
  rw [prod_times M B h', prod_times M B h, prod_times M _ h, prod_times M _ h', Pt.times_comm]
end


end Go.Proofs.YtmiagmbgfhakgaaDoor
