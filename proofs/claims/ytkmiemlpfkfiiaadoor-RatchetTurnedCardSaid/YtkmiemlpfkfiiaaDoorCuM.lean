/- The curve: numbers modulo p in five limbs, plain. Conditions: none beyond those that each theorem states. -/
import Derived.Test.YtkmiemlpfkfiiaaDoorTab
import Derived.Test.YtkmiemlpfkfiiaaDoorFwQ
import Derived.Test.YtkmiemlpfkfiiaaDoorSe2
namespace Go.Proofs.YtkmiemlpfkfiiaaDoor
open BitVec renaming toNat_mul → eQ, toNat_ofNat → dP, toNat_ushiftRight → eY
open List renaming length_set → cu, replicate → aA
open Nat renaming mod_eq_of_lt → ah
set_option linter.unusedVariables false
set_option linter.unusedSimpArgs false
def pC : Int := 57896044618658097711785492504343953926634992332820282019728792003956564819949
theorem En {a b : BitVec 64} (h : a.toNat + b.toNat < 18446744073709551616) : (a + b).toNat = a.toNat + b.toNat := by
 rw [BitVec.toNat_add, ah (by simpa using h)]
theorem Qiu (a : BitVec 64) : (a &&& 2251799813685247#64).toNat = a.toNat % 2251799813685248 := by
 rw [BitVec.toNat_and]; exact Nat.and_two_pow_sub_one_eq_mod a.toNat 51
theorem Qmq (a : BitVec 64) : (a >>> 51).toNat = a.toNat / 2251799813685248 := by
 rw [eY, Nat.shiftRight_eq_div_pow]
theorem Qfq {a : BitVec 64} (h : a.toNat * 19 < 18446744073709551616) : (19#64 * a).toNat = 19 * a.toNat := by
 rw [eQ]; show 19 * a.toNat % 2 ^ 64 = _; rw [ah oM]
def Qfh : List (BitVec 64) → List (BitVec 64)
 | [a0, a1, a2, a3, a4] =>
  let s0 := a0 + 0#64
  let s1 := a1 + s0 >>> 51
  let s2 := a2 + s1 >>> 51
  let s3 := a3 + s2 >>> 51
  let s4 := a4 + s3 >>> 51
  [(s0 &&& 2251799813685247#64) + 19#64 * (s4 >>> 51), s1 &&& 2251799813685247#64, s2 &&& 2251799813685247#64, s3 &&& 2251799813685247#64, s4 &&& 2251799813685247#64]
 | l => l
def Eb (l : List (BitVec 64)) : List (BitVec 64) := Qfh (Qfh l)
theorem P8 (s : BitVec 64) : ∃ q r : Nat, s.toNat = 2251799813685248 * q + r ∧ r < 2251799813685248 ∧ (s >>> 51).toNat = q ∧ (s &&& 2251799813685247#64).toNat = r :=
 ⟨s.toNat / 2251799813685248, s.toNat % 2251799813685248, (Nat.div_add_mod _ _).symm, Nat.mod_lt _ Yx, Qmq s, Qiu s⟩
theorem Ql9 {a0 a1 a2 a3 a4 : BitVec 64} (h0 : a0.toNat < 9223372036854775808) (h1 : a1.toNat < 9223372036854775808) (h2 : a2.toNat < 9223372036854775808) (h3 : a3.toNat < 9223372036854775808) (h4 : a4.toNat < 9223372036854775808) :
  ∃ r0 r1 r2 r3 r4 : BitVec 64, Qfh [a0, a1, a2, a3, a4] = [r0, r1, r2, r3, r4] ∧
   ∃ c0 c1 c2 c3 c4 m0 : Nat, a0.toNat = 2251799813685248 * c0 + m0 ∧ m0 < 2251799813685248 ∧ r0.toNat = m0 + 19 * c4 ∧ a1.toNat + c0 = 2251799813685248 * c1 + r1.toNat ∧ r1.toNat < 2251799813685248 ∧
    a2.toNat + c1 = 2251799813685248 * c2 + r2.toNat ∧ r2.toNat < 2251799813685248 ∧ a3.toNat + c2 = 2251799813685248 * c3 + r3.toNat ∧ r3.toNat < 2251799813685248 ∧ a4.toNat + c3 = 2251799813685248 * c4 + r4.toNat ∧ r4.toNat < 2251799813685248 := by
 refine ⟨_, _, _, _, _, rfl, ?_⟩
 have e0 : (a0 + 0#64).toNat = a0.toNat := by simp
 generalize a0 + 0#64 = s0 at *
 obtain ⟨q0, r0, p0, u0, x0, y0⟩ := P8 s0
 have e1 : (a1 + s0 >>> 51).toNat = a1.toNat + q0 := by rw [En oM, x0]
 generalize a1 + s0 >>> 51 = s1 at *
 obtain ⟨q1, r1, p1, u1, x1, y1⟩ := P8 s1
 have e2 : (a2 + s1 >>> 51).toNat = a2.toNat + q1 := by rw [En oM, x1]
 generalize a2 + s1 >>> 51 = s2 at *
 obtain ⟨q2, r2, p2, u2, x2, y2⟩ := P8 s2
 have e3 : (a3 + s2 >>> 51).toNat = a3.toNat + q2 := by rw [En oM, x2]
 generalize a3 + s2 >>> 51 = s3 at *
 obtain ⟨q3, r3, p3, u3, x3, y3⟩ := P8 s3
 have e4 : (a4 + s3 >>> 51).toNat = a4.toNat + q3 := by rw [En oM, x3]
 generalize a4 + s3 >>> 51 = s4 at *
 obtain ⟨q4, r4, p4, u4, x4, y4⟩ := P8 s4
 have z1 : (19#64 * (s4 >>> 51)).toNat = 19 * q4 := by rw [Qfq oM, x4]
 have z : ((s0 &&& 2251799813685247#64) + 19#64 * (s4 >>> 51)).toNat = r0 + 19 * q4 := by rw [En oM, y0, z1]
 exact ⟨q0, q1, q2, q3, q4, r0, by rw [← e0]; exact p0, u0, z, by rw [y1, ← e1]; exact p1, by rw [y1]; exact u1, by rw [y2, ← e2]; exact p2, by rw [y2]; exact u2, by rw [y3, ← e3]; exact p3, by rw [y3]; exact u3, by rw [y4, ← e4]; exact p4, by rw [y4]; exact u4⟩
def Qad : List (BitVec 64) → Int
 | [a0, a1, a2, a3, a4] => (a0.toNat : Int) + 2251799813685248 * (a1.toNat : Int) + 5070602400912917605986812821504 * (a2.toNat : Int) + 11417981541647679048466287755595961091061972992 * (a3.toNat : Int) + 25711008708143844408671393477458601640355247900524685364822016 * (a4.toNat : Int)
 | _ => 0
structure Rep (l : List (BitVec 64)) (x : Int) : Prop where
 is : ∃ a0 a1 a2 a3 a4 : BitVec 64, l = [a0, a1, a2, a3, a4] ∧ a0.toNat < 2251799813685248 ∧ a1.toNat < 2251799813685248 ∧ a2.toNat < 2251799813685248 ∧ a3.toNat < 2251799813685248 ∧ a4.toNat < 2251799813685248
 val : Qad l % pC = x
theorem up51 {a c q r : Nat} (h : a + c = 2251799813685248 * q + r) (ha : a < 9223372036854775808) (hc : c ≤ 5000) : q ≤ 4096 := by omega
theorem up51' {a q r : Nat} (h : a = 2251799813685248 * q + r) (ha : a < 9223372036854775808) : q ≤ 4096 := by omega
theorem up1 {a c q r : Nat} (h : a + c = 2251799813685248 * q + r) (ha : a < 2251799813685248) (hc : c ≤ 1) : q ≤ 1 ∧ (q = 1 → c = 1) := by omega
theorem up0 {a q r : Nat} (h : a = 2251799813685248 * q + r) (ha : a < 2251799813685248 + 80000) : q ≤ 1 ∧ (q = 1 → r < 80000) := by omega
theorem low0 {r m c : Nat} (h : r = m + 19 * c) (hm : m < 2251799813685248) (hc : c ≤ 4096) : r < 2251799813685248 + 80000 := by omega
theorem Qiq {a : Nat} (h : a < 2251799813685248) : a < 9223372036854775808 := by omega
theorem lt63' {a : Nat} (h : a < 2251799813685248 + 80000) : a < 9223372036854775808 := by omega
theorem le5 {a : Nat} (h : a ≤ 4096) : a ≤ 5000 := by omega
theorem end0 {t n d : Nat} (h : t = n + 19 * d) (hn : n < 2251799813685248) (hd : d ≤ 1) (hs : d = 1 → n < 80000) : t < 2251799813685248 := by
 rcases Nat.lt_or_ge d 1 with h1 | h1
 ·omega
 have := hs oM; omega
theorem Qii {a c q r : Nat} (h : a + c = 2251799813685248 * q + r) : (a : Int) = 2251799813685248 * (q : Int) + r - c := by omega
theorem castq0 {a q r : Nat} (h : a = 2251799813685248 * q + r) : (a : Int) = 2251799813685248 * (q : Int) + r := by omega
theorem castm {r m c : Nat} (h : r = m + 19 * c) : (m : Int) = r - 19 * c := by omega
theorem carry_id {a0 a1 a2 a3 a4 r0 r1 r2 r3 r4 t0 t1 t2 t3 t4 m0 n0 c0 c1 c2 c3 c4 d0 d1 d2 d3 d4 : Int} (x0 : a0 = 2251799813685248 * c0 + m0) (x1 : a1 = 2251799813685248 * c1 + r1 - c0) (x2 : a2 = 2251799813685248 * c2 + r2 - c1) (x3 : a3 = 2251799813685248 * c3 + r3 - c2) (x4 : a4 = 2251799813685248 * c4 + r4 - c3)
  (m : m0 = r0 - 19 * c4) (y0 : r0 = 2251799813685248 * d0 + n0) (y1 : r1 = 2251799813685248 * d1 + t1 - d0) (y2 : r2 = 2251799813685248 * d2 + t2 - d1) (y3 : r3 = 2251799813685248 * d3 + t3 - d2) (y4 : r4 = 2251799813685248 * d4 + t4 - d3) (n : n0 = t0 - 19 * d4) :
  a0 + 2251799813685248 * a1 + 5070602400912917605986812821504 * a2 + 11417981541647679048466287755595961091061972992 * a3 + 25711008708143844408671393477458601640355247900524685364822016 * a4 =
  t0 + 2251799813685248 * t1 + 5070602400912917605986812821504 * t2 + 11417981541647679048466287755595961091061972992 * t3 + 25711008708143844408671393477458601640355247900524685364822016 * t4 + (c4 + d4) * 57896044618658097711785492504343953926634992332820282019728792003956564819949 := by
 subst x0 x1 x2 x3 x4 m y0 y1 y2 y3 y4 n
 grind
theorem Qcn {a0 a1 a2 a3 a4 : BitVec 64} (h0 : a0.toNat < 9223372036854775808) (h1 : a1.toNat < 9223372036854775808) (h2 : a2.toNat < 9223372036854775808) (h3 : a3.toNat < 9223372036854775808) (h4 : a4.toNat < 9223372036854775808) :
  Rep (Eb [a0, a1, a2, a3, a4]) (Qad [a0, a1, a2, a3, a4] % pC) := by
 obtain ⟨r0, r1, r2, r3, r4, he, c0, c1, c2, c3, c4, m0, q0, q1, q2, q3, q4, q5, q6, q7, q8, q9, q10⟩ := Ql9 h0 h1 h2 h3 h4
 have k0 := up51' q0 h0
 have k1 := up51 q3 h1 (le5 k0)
 have k2 := up51 q5 h2 (le5 k1)
 have k3 := up51 q7 h3 (le5 k2)
 have k4 := up51 q9 h4 (le5 k3)
 have w0 := low0 q2 q1 k4
 obtain ⟨t0, t1, t2, t3, t4, hf, d0, d1, d2, d3, d4, n0, p0, p1, p2, p3, p4, p5, p6, p7, p8, p9, p10⟩ := Ql9 (lt63' w0) (Qiq q4) (Qiq q6) (Qiq q8) (Qiq q10)
 have j0 := up0 p0 w0
 have j1 := up1 p3 q4 j0.1
 have j2 := up1 p5 q6 j1.1
 have j3 := up1 p7 q8 j2.1
 have j4 := up1 p9 q10 j3.1
 have w1 := end0 p2 p1 j4.1 (fun e => j0.2 (j1.2 (j2.2 (j3.2 (j4.2 e)))))
 unfold Eb
 rw [he, hf]
 refine ⟨⟨t0, t1, t2, t3, t4, rfl, w1, p4, p6, p8, p10⟩, ?_⟩
 have e : Qad [a0, a1, a2, a3, a4] = Qad [t0, t1, t2, t3, t4] + ((c4 : Int) + d4) * pC :=
  carry_id (castq0 q0) (Qii q3) (Qii q5) (Qii q7) (Qii q9) (castm q2) (castq0 p0) (Qii p3) (Qii p5) (Qii p7) (Qii p9) (castm p2)
 rw [e, Int.add_mul_emod_self_right]
def Qaz (x y : BitVec 64) : BitVec 64 := BitVec.ofNat 64 (x.toNat * y.toNat / 18446744073709551616)
def mulHG (x y : BitVec 64) : BitVec 64 :=
 ((x >>> 32) * (y >>> 32) + ((x >>> 32) * (y &&& 4294967295#64) + ((x &&& 4294967295#64) * (y &&& 4294967295#64)) >>> 32) >>> 32)
  + (((((x >>> 32) * (y &&& 4294967295#64) + ((x &&& 4294967295#64) * (y &&& 4294967295#64)) >>> 32) &&& 4294967295#64) + (x &&& 4294967295#64) * (y >>> 32)) >>> 32)
theorem Qt0 {a b c d A B X Y : Nat} (hX : X = 4294967296 * b + a) (hY : Y = 4294967296 * d + c) (ha : a < 4294967296) (hb : b < 4294967296) (hc : c < 4294967296) (hd : d < 4294967296) :
  X * Y = b * d * 18446744073709551616 + (b * c + a * d) * 4294967296 + a * c ∧ a * c ≤ 18446744065119617025 ∧ b * c ≤ 18446744065119617025 ∧ a * d ≤ 18446744065119617025 ∧ b * d ≤ 18446744065119617025 := by
 subst hX hY
 have m : ∀ p q : Nat, p < 4294967296 → q < 4294967296 → p * q ≤ 18446744065119617025 := fun p q hp hq => Nat.le_trans (Nat.mul_le_mul (Nat.le_of_lt_succ hp) (Nat.le_of_lt_succ hq)) Yx
 exact ⟨by grind, m _ _ ha hc, m _ _ hb hc, m _ _ ha hd, m _ _ hb hd⟩
theorem mul_end {p q r s N : Nat} (hN : N = s * 18446744073709551616 + (q + r) * 4294967296 + p) (hp : p ≤ 18446744065119617025) (hq : q ≤ 18446744065119617025) (hr : r ≤ 18446744065119617025) (hs : s ≤ 18446744065119617025) :
  s + (q + p / 4294967296) / 4294967296 + ((q + p / 4294967296) % 4294967296 + r) / 4294967296 = N / 18446744073709551616 ∧ q + p / 4294967296 < 18446744073709551616 ∧ (q + p / 4294967296) % 4294967296 + r < 18446744073709551616 ∧ N / 18446744073709551616 < 18446744073709551616 := by omega
theorem Qbl (a : BitVec 64) : (a &&& 4294967295#64).toNat = a.toNat % 4294967296 := by rw [BitVec.toNat_and]; exact Nat.and_two_pow_sub_one_eq_mod a.toNat 32
theorem Qag (a : BitVec 64) : (a >>> 32).toNat = a.toNat / 4294967296 := by rw [eY, Nat.shiftRight_eq_div_pow]
theorem Qmr {a b : BitVec 64} (h : a.toNat * b.toNat < 18446744073709551616) : (a * b).toNat = a.toNat * b.toNat := by rw [eQ, ah (by simpa using h)]
theorem mulHG_eq (x y : BitVec 64) : mulHG x y = Qaz x y := by
 have hx := x.isLt
 have hy := y.isLt
 have xl : (x &&& 4294967295#64).toNat < 4294967296 := by rw [Qbl]; exact Nat.mod_lt _ Yx
 have yl : (y &&& 4294967295#64).toNat < 4294967296 := by rw [Qbl]; exact Nat.mod_lt _ Yx
 have xh : (x >>> 32).toNat < 4294967296 := by rw [Qag]; omega
 have yh : (y >>> 32).toNat < 4294967296 := by rw [Qag]; omega
 have hX : x.toNat = 4294967296 * (x >>> 32).toNat + (x &&& 4294967295#64).toNat := by rw [Qbl, Qag]; omega
 have hY : y.toNat = 4294967296 * (y >>> 32).toNat + (y &&& 4294967295#64).toNat := by rw [Qbl, Qag]; omega
 obtain ⟨h1, h2, h3, h4, h5⟩ := Qt0 (A := 0) (B := 0) hX hY xl xh yl yh
 obtain ⟨k1, k2, k3, k4⟩ := mul_end h1 h2 h3 h4 h5
 unfold mulHG Qaz
 generalize x &&& 4294967295#64 = a at *
 generalize x >>> 32 = b at *
 generalize y &&& 4294967295#64 = c at *
 generalize y >>> 32 = d at *
 have e1 : (a * c).toNat = a.toNat * c.toNat := Qmr oM
 have e2 : (b * c).toNat = b.toNat * c.toNat := Qmr oM
 have e3 : (a * d).toNat = a.toNat * d.toNat := Qmr oM
 have e4 : (b * d).toNat = b.toNat * d.toNat := Qmr oM
 have e5 : ((a * c) >>> 32).toNat = a.toNat * c.toNat / 4294967296 := by rw [Qag, e1]
 have e6 : (b * c + (a * c) >>> 32).toNat = b.toNat * c.toNat + a.toNat * c.toNat / 4294967296 := by rw [En (by rw [e2, e5]; exact k2), e2, e5]
 generalize b * c + (a * c) >>> 32 = t at *
 have e7 : ((t &&& 4294967295#64) + a * d).toNat = t.toNat % 4294967296 + a.toNat * d.toNat := by rw [En (by rw [Qbl, e3, e6]; exact k3), Qbl, e3]
 generalize (t &&& 4294967295#64) + a * d = u at *
 apply BitVec.eq_of_toNat_eq
 rw [dP, ah k4, ← k1]
 have e8 : (t >>> 32).toNat = t.toNat / 4294967296 := Qag t
 have e9 : (u >>> 32).toNat = u.toNat / 4294967296 := Qag u
 rw [e6] at e7 e8
 rw [e7] at e9
 have l1 : (b * d + t >>> 32).toNat = b.toNat * d.toNat + (b.toNat * c.toNat + a.toNat * c.toNat / 4294967296) / 4294967296 := by rw [En (by rw [e4, e8]; omega), e4, e8]
 rw [En (by rw [l1, e9]; omega), l1, e9]
def Dh (l : List (BitVec 64)) (off : Nat) (x y : BitVec 64) : List (BitVec 64) :=
 (l.set (off + 1) (l.getD (off + 1) 0 + x * y + 0#64)).set (off + 0) ((l.set (off + 1) (l.getD (off + 1) 0 + x * y + 0#64)).getD (off + 0) 0 + Qaz x y + V8 (l.getD (off + 1) 0) (x * y) 0#64)
theorem Qkx (l : List (BitVec 64)) (off : Nat) (x y : BitVec 64) : (Dh l off x y).length = l.length := by simp [Dh]
def Be (a b l : List (BitVec 64)) (i k : Nat) : List (BitVec 64) :=
 if i + k < 5 then Dh l ((i + k) * 2) (a.getD i 0) (b.getD k 0) else Dh l ((i + k - 5) * 2) (19#64 * a.getD i 0) (b.getD k 0)
theorem Qg5 (a b l : List (BitVec 64)) (i k : Nat) : (Be a b l i k).length = l.length := by unfold Be; split <;> exact Qkx _ _ _ _
def Ro (a b : List (BitVec 64)) (i : Nat) (l : List (BitVec 64)) : Nat → List (BitVec 64)
 | 0 => l
 | k + 1 => Be a b (Ro a b i l k) i k
theorem Qca (a b : List (BitVec 64)) (i : Nat) (l : List (BitVec 64)) (k : Nat) : (Ro a b i l k).length = l.length := by
 induction k with
 | zero => rfl
 | succ k ih => rw [Ro, Qg5, ih]
def Ub (a b : List (BitVec 64)) : Nat → List (BitVec 64)
 | 0 => aA 10 0
 | i + 1 => Ro a b i (Ub a b i) 5
theorem Qg0 (a b : List (BitVec 64)) (i : Nat) : (Ub a b i).length = 10 := by
 induction i with
 | zero => rfl
 | succ i ih => rw [Ub, Qca, ih]
def Dt (l : List (BitVec 64)) : Nat → BitVec 64
 | 0 => 0#64
 | i + 1 => (l.getD (i * 2) 0 + V8 (l.getD (i * 2 + 1) 0) (Dt l i) 0#64) <<< 13 ||| (l.getD (i * 2 + 1) 0 + Dt l i + 0#64) >>> 51
def Dq (l : List (BitVec 64)) (i : Nat) : BitVec 64 := (l.getD (i * 2 + 1) 0 + Dt l i + 0#64) &&& 2251799813685247#64
def Qm (a b : List (BitVec 64)) : List (BitVec 64) :=
 let l := Ub a b 5
 Eb [Dq l 0 + 19#64 * (Dt l 5 &&& 2251799813685247#64), Dq l 1 + 19#64 * (Dt l 5 >>> 51), Dq l 2, Dq l 3, Dq l 4]
def Zy : List (BitVec 64) → List (BitVec 64) → List (BitVec 64)
 | [a0, a1, a2, a3, a4], [b0, b1, b2, b3, b4] => Eb [a0 + b0, a1 + b1, a2 + b2, a3 + b3, a4 + b4]
 | l, _ => l
def Zb : List (BitVec 64) → List (BitVec 64) → List (BitVec 64)
 | [a0, a1, a2, a3, a4], [b0, b1, b2, b3, b4] => Eb [a0 + 4503599627370494#64 - b0 - 36#64, a1 + 4503599627370494#64 - b1, a2 + 4503599627370494#64 - b2, a3 + 4503599627370494#64 - b3, a4 + 4503599627370494#64 - b4]
 | l, _ => l
theorem Qbh (l : List (BitVec 64)) : (Qfh l).length = l.length := by unfold Qfh; split <;> rfl
@[simp] theorem Bi (l : List (BitVec 64)) : (Eb l).length = l.length := by unfold Eb; rw [Qbh, Qbh]
@[simp] theorem Vj (a b : List (BitVec 64)) : (Qm a b).length = 5 := by unfold Qm; rw [Bi]; rfl
theorem Qa2 {a b : List (BitVec 64)} (h : a.length = 5) (h' : b.length = 5) : (Zy a b).length = 5 := by
 unfold Zy; split
 ·rw [Bi]; rfl
 exact h
theorem Tn {a b : List (BitVec 64)} (h : a.length = 5) (h' : b.length = 5) : (Zb a b).length = 5 := by
 unfold Zb; split
 ·rw [Bi]; rfl
 exact h
theorem Qew {α : Type} (l : List α) (h : l.length = 5) : ∃ a b c d e, l = [a, b, c, d, e] := by
 match l, h with
 | [a, b, c, d, e], _ => exact ⟨a, b, c, d, e, rfl⟩
def U4 (x : List (BitVec 64)) : Nat → List (BitVec 64)
 | 0 => [1#64, 0#64, 0#64, 0#64, 0#64]
 | j + 1 => if j = 252 ∨ j = 250 then Qm (U4 x j) (U4 x j) else Qm (Qm (U4 x j) (U4 x j)) x
theorem Qcf (x : List (BitVec 64)) (j : Nat) : (U4 x j).length = 5 := by
 cases j with
 | zero => rfl
 | succ j => unfold U4; split <;> exact Vj _ _
def invL (x : List (BitVec 64)) : List (BitVec 64) := U4 x 255
structure Lad where
 px : List (BitVec 64)
 pz : List (BitVec 64)
 qx : List (BitVec 64)
 qz : List (BitVec 64)
def Ad (px pz qx qz x1 : List (BitVec 64)) : Lad :=
 let a := Zy px pz
 let b := Zb px pz
 let c := Zy qx qz
 let d := Zb qx qz
 let da := Qm d a
 let cb := Qm c b
 let aa := Qm a a
 let bb := Qm b b
 let e := Zb aa bb
 let s := Zy da cb
 let t := Zb da cb
 ⟨Qm aa bb, Qm e (Zy aa (Qm [121665#64, 0#64, 0#64, 0#64, 0#64] e)), Qm s s, Qm x1 (Qm t t)⟩
def rbit (u : Z4) (i : Nat) : BitVec 64 := ((u.getD (i / 8) 0 >>> (i % 8)) &&& 1#8).setWidth 64
def D8 (u : Z4) : Nat → List (BitVec 64)
 | 0 => aA 5 0
 | i + 1 => (D8 u i).set (i / 51) ((D8 u i).getD (i / 51) 0 ||| rbit u i <<< (i % 51))
theorem H5 (u : Z4) (i : Nat) : (D8 u i).length = 5 := by
 induction i with
 | zero => rfl
 | succ i ih => rw [D8, cu, ih]
def Je (u : Z4) : List (BitVec 64) := D8 u 255
def wbit (e : List (BitVec 64)) (i : Nat) : BitVec 8 := ((e.getD (i / 51) 0 >>> (i % 51)) &&& 1#64).setWidth 8
def Gp (e : List (BitVec 64)) : Nat → Z4
 | 0 => aA 32 0
 | i + 1 => (Gp e i).set (i / 8) ((Gp e i).getD (i / 8) 0 ||| wbit e i <<< (i % 8))
theorem Fb (e : List (BitVec 64)) (i : Nat) : (Gp e i).length = 32 := by
 induction i with
 | zero => rfl
 | succ i ih => rw [Gp, cu, ih]
def over1 : List (BitVec 64) → List (BitVec 64) × BitVec 64
 | [a0, a1, a2, a3, a4] =>
  let s0 := a0 + 19#64
  let s1 := a1 + s0 >>> 51
  let s2 := a2 + s1 >>> 51
  let s3 := a3 + s2 >>> 51
  let s4 := a4 + s3 >>> 51
  ([s0 &&& 2251799813685247#64, s1 &&& 2251799813685247#64, s2 &&& 2251799813685247#64, s3 &&& 2251799813685247#64, s4 &&& 2251799813685247#64], s4 >>> 51)
 | l => (l, 0)
def Gt (e : List (BitVec 64)) : List (BitVec 64) := if (0#64).toNat < (over1 (Eb e)).2.toNat then (over1 (Eb e)).1 else Eb e
def Qav (e : List (BitVec 64)) : Z4 := Gp (Gt e) 255
@[simp] theorem Qk8 (e : List (BitVec 64)) : (Qav e).length = 32 := Fb _ _
def Y3 (k : Z4) : Z4 := (k.set 0 (k.getD 0 0 &&& ~~~7#8)).set 31 ((k.set 0 (k.getD 0 0 &&& ~~~7#8)).getD 31 0 &&& ~~~128#8 ||| 64#8)
theorem Qk6 (k : Z4) : (Y3 k).length = k.length := by simp [Y3]
def Sl (k : Z4) (j : Nat) : Bool := ((k.getD ((254 - j) / 8) 0 >>> ((254 - j) % 8)) &&& 1#8) == 0#8
def Jk (k : Z4) (x1 : List (BitVec 64)) : Nat → Lad
 | 0 => ⟨[1#64, 0#64, 0#64, 0#64, 0#64], [0#64, 0#64, 0#64, 0#64, 0#64], x1, [1#64, 0#64, 0#64, 0#64, 0#64]⟩
 | j + 1 =>
  let s := Jk k x1 j
  if Sl k j then Ad s.px s.pz s.qx s.qz x1
  else let t := Ad s.qx s.qz s.px s.pz x1; ⟨t.qx, t.qz, t.px, t.pz⟩
def Zu (k u : Z4) : Z4 :=
 let s := Jk (Y3 k) (Je u) 255
 Qav (Qm s.px (invL s.pz))
@[simp] theorem Gz (k u : Z4) : (Zu k u).length = 32 := Qk8 _
structure LadLen (s : Lad) : Prop where
 px : s.px.length = 5
 pz : s.pz.length = 5
 qx : s.qx.length = 5
 qz : s.qz.length = 5
theorem Qdx (px pz qx qz x1 : List (BitVec 64)) : LadLen (Ad px pz qx qz x1) := ⟨Vj _ _, Vj _ _, Vj _ _, Vj _ _⟩
theorem Qt2 (k : Z4) {x1 : List (BitVec 64)} (h : x1.length = 5) (j : Nat) : LadLen (Jk k x1 j) := by
 cases j with
 | zero => exact ⟨rfl, rfl, h, rfl⟩
 | succ j =>
  simp only [Jk]
  split
  ·exact Qdx _ _ _ _ _
  obtain ⟨h1, h2, h3, h4⟩ := Qdx (Jk k x1 j).qx (Jk k x1 j).qz (Jk k x1 j).px (Jk k x1 j).pz x1
  exact ⟨h3, h4, h1, h2⟩
theorem Qhr (a b : BitVec 64) {c : BitVec 64} (hc : c.toNat ≤ 1) : (V8 a b c).toNat ≤ 1 := by
 have := a.isLt
 have := b.isLt
 unfold V8
 rw [dP]
 omega
def carN (l : List (BitVec 64)) : Nat → List (BitVec 64)
 | 0 => l
 | k + 1 => Qfh (carN l k)
theorem Qpp (l : List (BitVec 64)) (k : Nat) : (carN l k).length = l.length := by
 induction k with
 | zero => rfl
 | succ k ih => rw [carN, Qbh, ih]
theorem Qtl {a b l : List (BitVec 64)} {i k : Nat} (h : i + k < 5) : Dh (Ro a b i l k) ((i + k) * 2) (a.getD i 0) (b.getD k 0) = Ro a b i l (k + 1) := by
 show _ = Be _ _ _ _ _
 unfold Be; rw [if_pos h]
theorem Qtm {a b l : List (BitVec 64)} {i k : Nat} (h : ¬ i + k < 5) : Dh (Ro a b i l k) ((i + k - 5) * 2) (19#64 * a.getD i 0) (b.getD k 0) = Ro a b i l (k + 1) := by
 show _ = Be _ _ _ _ _
 unfold Be; rw [if_neg h]
theorem Qo9 {x : List (BitVec 64)} {j : Nat} (h : j = 252 ∨ j = 250) : Qm (U4 x j) (U4 x j) = U4 x (j + 1) := by
 show _ = if j = 252 ∨ j = 250 then _ else _
 rw [if_pos h]
theorem Qt4 {x : List (BitVec 64)} {j : Nat} (h : ¬ (j = 252 ∨ j = 250)) : Qm (Qm (U4 x j) (U4 x j)) x = U4 x (j + 1) := by
 show _ = if j = 252 ∨ j = 250 then _ else _
 rw [if_neg h]
theorem ladGo_t {k : Z4} {x1 : List (BitVec 64)} {j : Nat} (h : Sl k j = true) : Jk k x1 (j + 1) = Ad (Jk k x1 j).px (Jk k x1 j).pz (Jk k x1 j).qx (Jk k x1 j).qz x1 := by
 show (if Sl k j then _ else _) = _
 rw [if_pos h]
theorem ladGo_f {k : Z4} {x1 : List (BitVec 64)} {j : Nat} (h : Sl k j = false) : Jk k x1 (j + 1) = ⟨(Ad (Jk k x1 j).qx (Jk k x1 j).qz (Jk k x1 j).px (Jk k x1 j).pz x1).qx, (Ad (Jk k x1 j).qx (Jk k x1 j).qz (Jk k x1 j).px (Jk k x1 j).pz x1).qz, (Ad (Jk k x1 j).qx (Jk k x1 j).qz (Jk k x1 j).px (Jk k x1 j).pz x1).px, (Ad (Jk k x1 j).qx (Jk k x1 j).qz (Jk k x1 j).px (Jk k x1 j).pz x1).pz⟩ := by
 show (if Sl k j then _ else _) = _
 rw [if_neg (by rw [h]; decide)]
theorem Qm4 {l : List (BitVec 64)} (h : l.length = 5) : (over1 l).1.length = 5 := by
 obtain ⟨a, b, c, d, e, rfl⟩ := Qew l h; rfl
theorem Qem {e : List (BitVec 64)} (h : e.length = 5) : (Gt e).length = 5 := by
 unfold Gt; split
 ·exact Qm4 (by rw [Bi, h])
 rw [Bi, h]
theorem filled5 {α : Type} (g : Nat → α) (z : α) : Yv g z 5 5 = [g 0, g 1, g 2, g 3, g 4] := rfl
theorem Qqp (x : List (BitVec 64)) : U4 x 0 = [1#64, 0#64, 0#64, 0#64, 0#64] := rfl
theorem Qql (k : Z4) (x1 : List (BitVec 64)) : Jk k x1 0 = ⟨[1#64, 0#64, 0#64, 0#64, 0#64], [0#64, 0#64, 0#64, 0#64, 0#64], x1, [1#64, 0#64, 0#64, 0#64, 0#64]⟩ := rfl
theorem Qfk (e : List (BitVec 64)) : Gp e 0 = aA 32 0 := rfl
theorem Qfl (e : List (BitVec 64)) (i : Nat) : Gp e (i + 1) = (Gp e i).set (i / 8) ((Gp e i).getD (i / 8) 0 ||| wbit e i <<< (i % 8)) := rfl
@[simp] theorem invL_length (x : List (BitVec 64)) : (invL x).length = 5 := Qcf x 255
end Go.Proofs.YtkmiemlpfkfiiaaDoor
