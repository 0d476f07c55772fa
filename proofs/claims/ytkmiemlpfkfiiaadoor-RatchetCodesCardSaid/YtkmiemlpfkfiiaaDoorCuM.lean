/- The curve: numbers modulo p in five limbs, plain. Conditions: none beyond those that each theorem states. -/
import Derived.Test.YtkmiemlpfkfiiaaDoorTab
import Derived.Test.YtkmiemlpfkfiiaaDoorFwQ
import Derived.Test.YtkmiemlpfkfiiaaDoorSe2
namespace Go.Proofs.YtkmiemlpfkfiiaaDoor
set_option linter.unusedVariables false
set_option linter.unusedSimpArgs false
theorem Qd9 {a b : BitVec 64} (h : a.toNat + b.toNat < 18446744073709551616) : (a + b).toNat = a.toNat + b.toNat := by
  rw [BitVec.toNat_add, Nat.mod_eq_of_lt (by simpa using h)]
def Qbg : List (BitVec 64) → List (BitVec 64)
  | [a0, a1, a2, a3, a4] =>
    let s0 := a0 + 0#64
    let s1 := a1 + s0 >>> 51
    let s2 := a2 + s1 >>> 51
    let s3 := a3 + s2 >>> 51
    let s4 := a4 + s3 >>> 51
    [(s0 &&& 2251799813685247#64) + 19#64 * (s4 >>> 51), s1 &&& 2251799813685247#64, s2 &&& 2251799813685247#64, s3 &&& 2251799813685247#64, s4 &&& 2251799813685247#64]
  | l => l
def Gz (l : List (BitVec 64)) : List (BitVec 64) := Qbg (Qbg l)
def Rk (x y : BitVec 64) : BitVec 64 := BitVec.ofNat 64 (x.toNat * y.toNat / 18446744073709551616)
def mulHG (x y : BitVec 64) : BitVec 64 :=
  ((x >>> 32) * (y >>> 32) + ((x >>> 32) * (y &&& 4294967295#64) + ((x &&& 4294967295#64) * (y &&& 4294967295#64)) >>> 32) >>> 32)
    + (((((x >>> 32) * (y &&& 4294967295#64) + ((x &&& 4294967295#64) * (y &&& 4294967295#64)) >>> 32) &&& 4294967295#64) + (x &&& 4294967295#64) * (y >>> 32)) >>> 32)
theorem Qhi {a b c d A B X Y : Nat} (hX : X = 4294967296 * b + a) (hY : Y = 4294967296 * d + c) (ha : a < 4294967296) (hb : b < 4294967296) (hc : c < 4294967296) (hd : d < 4294967296) :
    X * Y = b * d * 18446744073709551616 + (b * c + a * d) * 4294967296 + a * c ∧ a * c ≤ 18446744065119617025 ∧ b * c ≤ 18446744065119617025 ∧ a * d ≤ 18446744065119617025 ∧ b * d ≤ 18446744065119617025 := by
  subst hX hY
  have m : ∀ p q : Nat, p < 4294967296 → q < 4294967296 → p * q ≤ 18446744065119617025 := fun p q hp hq => Nat.le_trans (Nat.mul_le_mul (Nat.le_of_lt_succ hp) (Nat.le_of_lt_succ hq)) (by decide)
  exact ⟨by grind, m _ _ ha hc, m _ _ hb hc, m _ _ ha hd, m _ _ hb hd⟩
theorem mul_end {p q r s N : Nat} (hN : N = s * 18446744073709551616 + (q + r) * 4294967296 + p) (hp : p ≤ 18446744065119617025) (hq : q ≤ 18446744065119617025) (hr : r ≤ 18446744065119617025) (hs : s ≤ 18446744065119617025) :
    s + (q + p / 4294967296) / 4294967296 + ((q + p / 4294967296) % 4294967296 + r) / 4294967296 = N / 18446744073709551616 ∧ q + p / 4294967296 < 18446744073709551616 ∧ (q + p / 4294967296) % 4294967296 + r < 18446744073709551616 ∧ N / 18446744073709551616 < 18446744073709551616 := by omega
theorem Bi (a : BitVec 64) : (a &&& 4294967295#64).toNat = a.toNat % 4294967296 := by rw [BitVec.toNat_and]; exact Nat.and_two_pow_sub_one_eq_mod a.toNat 32
theorem Du (a : BitVec 64) : (a >>> 32).toNat = a.toNat / 4294967296 := by rw [BitVec.toNat_ushiftRight, Nat.shiftRight_eq_div_pow]
theorem Qd8 {a b : BitVec 64} (h : a.toNat * b.toNat < 18446744073709551616) : (a * b).toNat = a.toNat * b.toNat := by rw [BitVec.toNat_mul, Nat.mod_eq_of_lt (by simpa using h)]
theorem mulHG_eq (x y : BitVec 64) : mulHG x y = Rk x y := by
  have hx := x.isLt
  have hy := y.isLt
  have xl : (x &&& 4294967295#64).toNat < 4294967296 := by rw [Bi]; exact Nat.mod_lt _ (by decide)
  have yl : (y &&& 4294967295#64).toNat < 4294967296 := by rw [Bi]; exact Nat.mod_lt _ (by decide)
  have xh : (x >>> 32).toNat < 4294967296 := by rw [Du]; omega
  have yh : (y >>> 32).toNat < 4294967296 := by rw [Du]; omega
  have hX : x.toNat = 4294967296 * (x >>> 32).toNat + (x &&& 4294967295#64).toNat := by rw [Bi, Du]; omega
  have hY : y.toNat = 4294967296 * (y >>> 32).toNat + (y &&& 4294967295#64).toNat := by rw [Bi, Du]; omega
  obtain ⟨h1, h2, h3, h4, h5⟩ := Qhi (A := 0) (B := 0) hX hY xl xh yl yh
  obtain ⟨k1, k2, k3, k4⟩ := mul_end h1 h2 h3 h4 h5
  unfold mulHG Rk
  generalize x &&& 4294967295#64 = a at *
  generalize x >>> 32 = b at *
  generalize y &&& 4294967295#64 = c at *
  generalize y >>> 32 = d at *
  have e1 : (a * c).toNat = a.toNat * c.toNat := Qd8 oM
  have e2 : (b * c).toNat = b.toNat * c.toNat := Qd8 oM
  have e3 : (a * d).toNat = a.toNat * d.toNat := Qd8 oM
  have e4 : (b * d).toNat = b.toNat * d.toNat := Qd8 oM
  have e5 : ((a * c) >>> 32).toNat = a.toNat * c.toNat / 4294967296 := by rw [Du, e1]
  have e6 : (b * c + (a * c) >>> 32).toNat = b.toNat * c.toNat + a.toNat * c.toNat / 4294967296 := by rw [Qd9 (by rw [e2, e5]; exact k2), e2, e5]
  generalize b * c + (a * c) >>> 32 = t at *
  have e7 : ((t &&& 4294967295#64) + a * d).toNat = t.toNat % 4294967296 + a.toNat * d.toNat := by rw [Qd9 (by rw [Bi, e3, e6]; exact k3), Bi, e3]
  generalize (t &&& 4294967295#64) + a * d = u at *
  apply BitVec.eq_of_toNat_eq
  rw [BitVec.toNat_ofNat, Nat.mod_eq_of_lt k4, ← k1]
  have e8 : (t >>> 32).toNat = t.toNat / 4294967296 := Du t
  have e9 : (u >>> 32).toNat = u.toNat / 4294967296 := Du u
  rw [e6] at e7 e8
  rw [e7] at e9
  have l1 : (b * d + t >>> 32).toNat = b.toNat * d.toNat + (b.toNat * c.toNat + a.toNat * c.toNat / 4294967296) / 4294967296 := by rw [Qd9 (by rw [e4, e8]; omega), e4, e8]
  rw [Qd9 (by rw [l1, e9]; omega), l1, e9]
def F7 (l : List (BitVec 64)) (off : Nat) (x y : BitVec 64) : List (BitVec 64) :=
  (l.set (off + 1) (l.getD (off + 1) 0 + x * y + 0#64)).set (off + 0) ((l.set (off + 1) (l.getD (off + 1) 0 + x * y + 0#64)).getD (off + 0) 0 + Rk x y + Vg (l.getD (off + 1) 0) (x * y) 0#64)
theorem Qda (l : List (BitVec 64)) (off : Nat) (x y : BitVec 64) : (F7 l off x y).length = l.length := by simp [F7]
def F8 (a b l : List (BitVec 64)) (i k : Nat) : List (BitVec 64) :=
  if i + k < 5 then F7 l ((i + k) * 2) (a.getD i 0) (b.getD k 0) else F7 l ((i + k - 5) * 2) (19#64 * a.getD i 0) (b.getD k 0)
theorem Qat (a b l : List (BitVec 64)) (i k : Nat) : (F8 a b l i k).length = l.length := by unfold F8; split <;> exact Qda _ _ _ _
def Lu (a b : List (BitVec 64)) (i : Nat) (l : List (BitVec 64)) : Nat → List (BitVec 64)
  | 0 => l
  | k + 1 => F8 a b (Lu a b i l k) i k
theorem Tm (a b : List (BitVec 64)) (i : Nat) (l : List (BitVec 64)) (k : Nat) : (Lu a b i l k).length = l.length := by
  induction k with
  | zero => rfl
  | succ k ih => rw [Lu, Qat, ih]
def Qd4 (a b : List (BitVec 64)) : Nat → List (BitVec 64)
  | 0 => List.replicate 10 0
  | i + 1 => Lu a b i (Qd4 a b i) 5
theorem Qev (a b : List (BitVec 64)) (i : Nat) : (Qd4 a b i).length = 10 := by
  induction i with
  | zero => rfl
  | succ i ih => rw [Qd4, Tm, ih]
def Ul (l : List (BitVec 64)) : Nat → BitVec 64
  | 0 => 0#64
  | i + 1 => (l.getD (i * 2) 0 + Vg (l.getD (i * 2 + 1) 0) (Ul l i) 0#64) <<< 13 ||| (l.getD (i * 2 + 1) 0 + Ul l i + 0#64) >>> 51
def Gl (l : List (BitVec 64)) (i : Nat) : BitVec 64 := (l.getD (i * 2 + 1) 0 + Ul l i + 0#64) &&& 2251799813685247#64
def Qe (a b : List (BitVec 64)) : List (BitVec 64) :=
  let l := Qd4 a b 5
  Gz [Gl l 0 + 19#64 * (Ul l 5 &&& 2251799813685247#64), Gl l 1 + 19#64 * (Ul l 5 >>> 51), Gl l 2, Gl l 3, Gl l 4]
def Qz : List (BitVec 64) → List (BitVec 64) → List (BitVec 64)
  | [a0, a1, a2, a3, a4], [b0, b1, b2, b3, b4] => Gz [a0 + b0, a1 + b1, a2 + b2, a3 + b3, a4 + b4]
  | l, _ => l
def Ql : List (BitVec 64) → List (BitVec 64) → List (BitVec 64)
  | [a0, a1, a2, a3, a4], [b0, b1, b2, b3, b4] => Gz [a0 + 4503599627370494#64 - b0 - 36#64, a1 + 4503599627370494#64 - b1, a2 + 4503599627370494#64 - b2, a3 + 4503599627370494#64 - b3, a4 + 4503599627370494#64 - b4]
  | l, _ => l
theorem Bg (l : List (BitVec 64)) : (Qbg l).length = l.length := by unfold Qbg; split <;> rfl
@[simp] theorem Gy (l : List (BitVec 64)) : (Gz l).length = l.length := by unfold Gz; rw [Bg, Bg]
@[simp] theorem Jm (a b : List (BitVec 64)) : (Qe a b).length = 5 := by unfold Qe; rw [Gy]; rfl
theorem Ce {a b : List (BitVec 64)} (h : a.length = 5) (h' : b.length = 5) : (Qz a b).length = 5 := by
  unfold Qz; split
  · rw [Gy]; rfl
  · exact h
theorem Dk {a b : List (BitVec 64)} (h : a.length = 5) (h' : b.length = 5) : (Ql a b).length = 5 := by
  unfold Ql; split
  · rw [Gy]; rfl
  · exact h
theorem Qcu {α : Type} (l : List α) (h : l.length = 5) : ∃ a b c d e, l = [a, b, c, d, e] := by
  match l, h with
  | [a, b, c, d, e], _ => exact ⟨a, b, c, d, e, rfl⟩
def Kw (x : List (BitVec 64)) : Nat → List (BitVec 64)
  | 0 => [1#64, 0#64, 0#64, 0#64, 0#64]
  | j + 1 => if j = 252 ∨ j = 250 then Qe (Kw x j) (Kw x j) else Qe (Qe (Kw x j) (Kw x j)) x
theorem Ar (x : List (BitVec 64)) (j : Nat) : (Kw x j).length = 5 := by
  cases j with
  | zero => rfl
  | succ j => unfold Kw; split <;> exact Jm _ _
def invL (x : List (BitVec 64)) : List (BitVec 64) := Kw x 255
structure Lad where
  px : List (BitVec 64)
  pz : List (BitVec 64)
  qx : List (BitVec 64)
  qz : List (BitVec 64)
def Kt (px pz qx qz x1 : List (BitVec 64)) : Lad :=
  let a := Qz px pz
  let b := Ql px pz
  let c := Qz qx qz
  let d := Ql qx qz
  let da := Qe d a
  let cb := Qe c b
  let aa := Qe a a
  let bb := Qe b b
  let e := Ql aa bb
  let s := Qz da cb
  let t := Ql da cb
  ⟨Qe aa bb, Qe e (Qz aa (Qe [121665#64, 0#64, 0#64, 0#64, 0#64] e)), Qe s s, Qe x1 (Qe t t)⟩
def rbit (u : List (BitVec 8)) (i : Nat) : BitVec 64 := ((u.getD (i / 8) 0 >>> (i % 8)) &&& 1#8).setWidth 64
def Ea (u : List (BitVec 8)) : Nat → List (BitVec 64)
  | 0 => List.replicate 5 0
  | i + 1 => (Ea u i).set (i / 51) ((Ea u i).getD (i / 51) 0 ||| rbit u i <<< (i % 51))
theorem Bc (u : List (BitVec 8)) (i : Nat) : (Ea u i).length = 5 := by
  induction i with
  | zero => rfl
  | succ i ih => rw [Ea, List.length_set, ih]
def Zi (u : List (BitVec 8)) : List (BitVec 64) := Ea u 255
def wbit (e : List (BitVec 64)) (i : Nat) : BitVec 8 := ((e.getD (i / 51) 0 >>> (i % 51)) &&& 1#64).setWidth 8
def Ws (e : List (BitVec 64)) : Nat → List (BitVec 8)
  | 0 => List.replicate 32 0
  | i + 1 => (Ws e i).set (i / 8) ((Ws e i).getD (i / 8) 0 ||| wbit e i <<< (i % 8))
theorem Ua (e : List (BitVec 64)) (i : Nat) : (Ws e i).length = 32 := by
  induction i with
  | zero => rfl
  | succ i ih => rw [Ws, List.length_set, ih]
def over1 : List (BitVec 64) → List (BitVec 64) × BitVec 64
  | [a0, a1, a2, a3, a4] =>
    let s0 := a0 + 19#64
    let s1 := a1 + s0 >>> 51
    let s2 := a2 + s1 >>> 51
    let s3 := a3 + s2 >>> 51
    let s4 := a4 + s3 >>> 51
    ([s0 &&& 2251799813685247#64, s1 &&& 2251799813685247#64, s2 &&& 2251799813685247#64, s3 &&& 2251799813685247#64, s4 &&& 2251799813685247#64], s4 >>> 51)
  | l => (l, 0)
def Ku (e : List (BitVec 64)) : List (BitVec 64) := if (0#64).toNat < (over1 (Gz e)).2.toNat then (over1 (Gz e)).1 else Gz e
def Az (e : List (BitVec 64)) : List (BitVec 8) := Ws (Ku e) 255
@[simp] theorem Qdg (e : List (BitVec 64)) : (Az e).length = 32 := Ua _ _
def Ze (k : List (BitVec 8)) : List (BitVec 8) := (k.set 0 (k.getD 0 0 &&& ~~~7#8)).set 31 ((k.set 0 (k.getD 0 0 &&& ~~~7#8)).getD 31 0 &&& ~~~128#8 ||| 64#8)
theorem Qde (k : List (BitVec 8)) : (Ze k).length = k.length := by simp [Ze]
def kbit (k : List (BitVec 8)) (j : Nat) : Bool := ((k.getD ((254 - j) / 8) 0 >>> ((254 - j) % 8)) &&& 1#8) == 0#8
def Zt (k : List (BitVec 8)) (x1 : List (BitVec 64)) : Nat → Lad
  | 0 => ⟨[1#64, 0#64, 0#64, 0#64, 0#64], [0#64, 0#64, 0#64, 0#64, 0#64], x1, [1#64, 0#64, 0#64, 0#64, 0#64]⟩
  | j + 1 =>
    let s := Zt k x1 j
    if kbit k j then Kt s.px s.pz s.qx s.qz x1
    else let t := Kt s.qx s.qz s.px s.pz x1; ⟨t.qx, t.qz, t.px, t.pz⟩
def Xr (k u : List (BitVec 8)) : List (BitVec 8) :=
  let s := Zt (Ze k) (Zi u) 255
  Az (Qe s.px (invL s.pz))
@[simp] theorem Uj (k u : List (BitVec 8)) : (Xr k u).length = 32 := Qdg _
structure LadLen (s : Lad) : Prop where
  px : s.px.length = 5
  pz : s.pz.length = 5
  qx : s.qx.length = 5
  qz : s.qz.length = 5
theorem Nq (px pz qx qz x1 : List (BitVec 64)) : LadLen (Kt px pz qx qz x1) := ⟨Jm _ _, Jm _ _, Jm _ _, Jm _ _⟩
theorem Qhj (k : List (BitVec 8)) {x1 : List (BitVec 64)} (h : x1.length = 5) (j : Nat) : LadLen (Zt k x1 j) := by
  cases j with
  | zero => exact ⟨rfl, rfl, h, rfl⟩
  | succ j =>
    simp only [Zt]
    split
    · exact Nq _ _ _ _ _
    · obtain ⟨h1, h2, h3, h4⟩ := Nq (Zt k x1 j).qx (Zt k x1 j).qz (Zt k x1 j).px (Zt k x1 j).pz x1
      exact ⟨h3, h4, h1, h2⟩
theorem Qbl (a b : BitVec 64) {c : BitVec 64} (hc : c.toNat ≤ 1) : (Vg a b c).toNat ≤ 1 := by
  have := a.isLt
  have := b.isLt
  unfold Vg
  rw [BitVec.toNat_ofNat]
  omega
def carN (l : List (BitVec 64)) : Nat → List (BitVec 64)
  | 0 => l
  | k + 1 => Qbg (carN l k)
theorem Qfq (l : List (BitVec 64)) (k : Nat) : (carN l k).length = l.length := by
  induction k with
  | zero => rfl
  | succ k ih => rw [carN, Bg, ih]
theorem Qha {a b l : List (BitVec 64)} {i k : Nat} (h : i + k < 5) : F7 (Lu a b i l k) ((i + k) * 2) (a.getD i 0) (b.getD k 0) = Lu a b i l (k + 1) := by
  show _ = F8 _ _ _ _ _
  unfold F8; rw [if_pos h]
theorem Qhb {a b l : List (BitVec 64)} {i k : Nat} (h : ¬ i + k < 5) : F7 (Lu a b i l k) ((i + k - 5) * 2) (19#64 * a.getD i 0) (b.getD k 0) = Lu a b i l (k + 1) := by
  show _ = F8 _ _ _ _ _
  unfold F8; rw [if_neg h]
theorem Qfh {x : List (BitVec 64)} {j : Nat} (h : j = 252 ∨ j = 250) : Qe (Kw x j) (Kw x j) = Kw x (j + 1) := by
  show _ = if j = 252 ∨ j = 250 then _ else _
  rw [if_pos h]
theorem Qhm {x : List (BitVec 64)} {j : Nat} (h : ¬ (j = 252 ∨ j = 250)) : Qe (Qe (Kw x j) (Kw x j)) x = Kw x (j + 1) := by
  show _ = if j = 252 ∨ j = 250 then _ else _
  rw [if_neg h]
theorem ladGo_t {k : List (BitVec 8)} {x1 : List (BitVec 64)} {j : Nat} (h : kbit k j = true) : Zt k x1 (j + 1) = Kt (Zt k x1 j).px (Zt k x1 j).pz (Zt k x1 j).qx (Zt k x1 j).qz x1 := by
  show (if kbit k j then _ else _) = _
  rw [if_pos h]
theorem ladGo_f {k : List (BitVec 8)} {x1 : List (BitVec 64)} {j : Nat} (h : kbit k j = false) : Zt k x1 (j + 1) = ⟨(Kt (Zt k x1 j).qx (Zt k x1 j).qz (Zt k x1 j).px (Zt k x1 j).pz x1).qx, (Kt (Zt k x1 j).qx (Zt k x1 j).qz (Zt k x1 j).px (Zt k x1 j).pz x1).qz, (Kt (Zt k x1 j).qx (Zt k x1 j).qz (Zt k x1 j).px (Zt k x1 j).pz x1).px, (Kt (Zt k x1 j).qx (Zt k x1 j).qz (Zt k x1 j).px (Zt k x1 j).pz x1).pz⟩ := by
  show (if kbit k j then _ else _) = _
  rw [if_neg (by rw [h]; decide)]
theorem Qeh {l : List (BitVec 64)} (h : l.length = 5) : (over1 l).1.length = 5 := by
  obtain ⟨a, b, c, d, e, rfl⟩ := Qcu l h; rfl
theorem Pm {e : List (BitVec 64)} (h : e.length = 5) : (Ku e).length = 5 := by
  unfold Ku; split
  · exact Qeh (by rw [Gy, h])
  · rw [Gy, h]
theorem filled5 {α : Type} (g : Nat → α) (z : α) : Jp g z 5 5 = [g 0, g 1, g 2, g 3, g 4] := rfl
theorem Qf6 (x : List (BitVec 64)) : Kw x 0 = [1#64, 0#64, 0#64, 0#64, 0#64] := rfl
theorem Qf4 (k : List (BitVec 8)) (x1 : List (BitVec 64)) : Zt k x1 0 = ⟨[1#64, 0#64, 0#64, 0#64, 0#64], [0#64, 0#64, 0#64, 0#64, 0#64], x1, [1#64, 0#64, 0#64, 0#64, 0#64]⟩ := rfl
theorem Rz (e : List (BitVec 64)) : Ws e 0 = List.replicate 32 0 := rfl
theorem Si (e : List (BitVec 64)) (i : Nat) : Ws e (i + 1) = (Ws e i).set (i / 8) ((Ws e i).getD (i / 8) 0 ||| wbit e i <<< (i % 8)) := rfl
@[simp] theorem invL_length (x : List (BitVec 64)) : (invL x).length = 5 := Ar x 255
end Go.Proofs.YtkmiemlpfkfiiaaDoor
