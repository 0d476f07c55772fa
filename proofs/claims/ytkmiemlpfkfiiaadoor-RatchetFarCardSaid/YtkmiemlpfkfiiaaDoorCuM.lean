/- The curve: numbers modulo p in five limbs, plain. Conditions: none beyond those that each theorem states. -/
import Derived.Test.YtkmiemlpfkfiiaaDoorTab
import Derived.Test.YtkmiemlpfkfiiaaDoorFwQ
import Derived.Test.YtkmiemlpfkfiiaaDoorSe2
namespace Go.Proofs.YtkmiemlpfkfiiaaDoor
set_option linter.unusedVariables false
set_option linter.unusedSimpArgs false
def pC : Int := 57896044618658097711785492504343953926634992332820282019728792003956564819949
theorem Gu {a b : BitVec 64} (h : a.toNat + b.toNat < 18446744073709551616) : (a + b).toNat = a.toNat + b.toNat := by
 rw [BitVec.toNat_add, Nat.mod_eq_of_lt (by simpa using h)]
theorem Qep (a : BitVec 64) : (a &&& 2251799813685247#64).toNat = a.toNat % 2251799813685248 := by
 rw [BitVec.toNat_and]; exact Nat.and_two_pow_sub_one_eq_mod a.toNat 51
theorem Qh2 (a : BitVec 64) : (a >>> 51).toNat = a.toNat / 2251799813685248 := by
 rw [BitVec.toNat_ushiftRight, Nat.shiftRight_eq_div_pow]
theorem Qb3 {a : BitVec 64} (h : a.toNat * 19 < 18446744073709551616) : (19#64 * a).toNat = 19 * a.toNat := by
 rw [BitVec.toNat_mul]; show 19 * a.toNat % 2 ^ 64 = _; rw [Nat.mod_eq_of_lt oM]
def Qbu : List (BitVec 64) → List (BitVec 64)
 | [a0, a1, a2, a3, a4] =>
  let s0 := a0 + 0#64
  let s1 := a1 + s0 >>> 51
  let s2 := a2 + s1 >>> 51
  let s3 := a3 + s2 >>> 51
  let s4 := a4 + s3 >>> 51
  [(s0 &&& 2251799813685247#64) + 19#64 * (s4 >>> 51), s1 &&& 2251799813685247#64, s2 &&& 2251799813685247#64, s3 &&& 2251799813685247#64, s4 &&& 2251799813685247#64]
 | l => l
def Gg (l : List (BitVec 64)) : List (BitVec 64) := Qbu (Qbu l)
theorem Bh (s : BitVec 64) : ∃ q r : Nat, s.toNat = 2251799813685248 * q + r ∧ r < 2251799813685248 ∧ (s >>> 51).toNat = q ∧ (s &&& 2251799813685247#64).toNat = r :=
 ⟨s.toNat / 2251799813685248, s.toNat % 2251799813685248, (Nat.div_add_mod _ _).symm, Nat.mod_lt _ Yh, Qh2 s, Qep s⟩
theorem Qhn {a0 a1 a2 a3 a4 : BitVec 64} (h0 : a0.toNat < 9223372036854775808) (h1 : a1.toNat < 9223372036854775808) (h2 : a2.toNat < 9223372036854775808) (h3 : a3.toNat < 9223372036854775808) (h4 : a4.toNat < 9223372036854775808) :
  ∃ r0 r1 r2 r3 r4 : BitVec 64, Qbu [a0, a1, a2, a3, a4] = [r0, r1, r2, r3, r4] ∧
   ∃ c0 c1 c2 c3 c4 m0 : Nat, a0.toNat = 2251799813685248 * c0 + m0 ∧ m0 < 2251799813685248 ∧ r0.toNat = m0 + 19 * c4 ∧ a1.toNat + c0 = 2251799813685248 * c1 + r1.toNat ∧ r1.toNat < 2251799813685248 ∧
    a2.toNat + c1 = 2251799813685248 * c2 + r2.toNat ∧ r2.toNat < 2251799813685248 ∧ a3.toNat + c2 = 2251799813685248 * c3 + r3.toNat ∧ r3.toNat < 2251799813685248 ∧ a4.toNat + c3 = 2251799813685248 * c4 + r4.toNat ∧ r4.toNat < 2251799813685248 := by
 refine ⟨_, _, _, _, _, rfl, ?_⟩
 have e0 : (a0 + 0#64).toNat = a0.toNat := by simp
 generalize a0 + 0#64 = s0 at *
 obtain ⟨q0, r0, p0, u0, x0, y0⟩ := Bh s0
 have e1 : (a1 + s0 >>> 51).toNat = a1.toNat + q0 := by rw [Gu oM, x0]
 generalize a1 + s0 >>> 51 = s1 at *
 obtain ⟨q1, r1, p1, u1, x1, y1⟩ := Bh s1
 have e2 : (a2 + s1 >>> 51).toNat = a2.toNat + q1 := by rw [Gu oM, x1]
 generalize a2 + s1 >>> 51 = s2 at *
 obtain ⟨q2, r2, p2, u2, x2, y2⟩ := Bh s2
 have e3 : (a3 + s2 >>> 51).toNat = a3.toNat + q2 := by rw [Gu oM, x2]
 generalize a3 + s2 >>> 51 = s3 at *
 obtain ⟨q3, r3, p3, u3, x3, y3⟩ := Bh s3
 have e4 : (a4 + s3 >>> 51).toNat = a4.toNat + q3 := by rw [Gu oM, x3]
 generalize a4 + s3 >>> 51 = s4 at *
 obtain ⟨q4, r4, p4, u4, x4, y4⟩ := Bh s4
 have z1 : (19#64 * (s4 >>> 51)).toNat = 19 * q4 := by rw [Qb3 oM, x4]
 have z : ((s0 &&& 2251799813685247#64) + 19#64 * (s4 >>> 51)).toNat = r0 + 19 * q4 := by rw [Gu oM, y0, z1]
 exact ⟨q0, q1, q2, q3, q4, r0, by rw [← e0]; exact p0, u0, z, by rw [y1, ← e1]; exact p1, by rw [y1]; exact u1, by rw [y2, ← e2]; exact p2, by rw [y2]; exact u2, by rw [y3, ← e3]; exact p3, by rw [y3]; exact u3, by rw [y4, ← e4]; exact p4, by rw [y4]; exact u4⟩
def H7 : List (BitVec 64) → Int
 | [a0, a1, a2, a3, a4] => (a0.toNat : Int) + 2251799813685248 * (a1.toNat : Int) + 5070602400912917605986812821504 * (a2.toNat : Int) + 11417981541647679048466287755595961091061972992 * (a3.toNat : Int) + 25711008708143844408671393477458601640355247900524685364822016 * (a4.toNat : Int)
 | _ => 0
structure Rep (l : List (BitVec 64)) (x : Int) : Prop where
 is : ∃ a0 a1 a2 a3 a4 : BitVec 64, l = [a0, a1, a2, a3, a4] ∧ a0.toNat < 2251799813685248 ∧ a1.toNat < 2251799813685248 ∧ a2.toNat < 2251799813685248 ∧ a3.toNat < 2251799813685248 ∧ a4.toNat < 2251799813685248
 val : H7 l % pC = x
theorem up51 {a c q r : Nat} (h : a + c = 2251799813685248 * q + r) (ha : a < 9223372036854775808) (hc : c ≤ 5000) : q ≤ 4096 := by omega
theorem up51' {a q r : Nat} (h : a = 2251799813685248 * q + r) (ha : a < 9223372036854775808) : q ≤ 4096 := by omega
theorem up1 {a c q r : Nat} (h : a + c = 2251799813685248 * q + r) (ha : a < 2251799813685248) (hc : c ≤ 1) : q ≤ 1 ∧ (q = 1 → c = 1) := by omega
theorem up0 {a q r : Nat} (h : a = 2251799813685248 * q + r) (ha : a < 2251799813685248 + 80000) : q ≤ 1 ∧ (q = 1 → r < 80000) := by omega
theorem low0 {r m c : Nat} (h : r = m + 19 * c) (hm : m < 2251799813685248) (hc : c ≤ 4096) : r < 2251799813685248 + 80000 := by omega
theorem Qek {a : Nat} (h : a < 2251799813685248) : a < 9223372036854775808 := by omega
theorem lt63' {a : Nat} (h : a < 2251799813685248 + 80000) : a < 9223372036854775808 := by omega
theorem le5 {a : Nat} (h : a ≤ 4096) : a ≤ 5000 := by omega
theorem end0 {t n d : Nat} (h : t = n + 19 * d) (hn : n < 2251799813685248) (hd : d ≤ 1) (hs : d = 1 → n < 80000) : t < 2251799813685248 := by
 rcases Nat.lt_or_ge d 1 with h1 | h1
 ·omega
 have := hs oM; omega
theorem Qea {a c q r : Nat} (h : a + c = 2251799813685248 * q + r) : (a : Int) = 2251799813685248 * (q : Int) + r - c := by omega
theorem castq0 {a q r : Nat} (h : a = 2251799813685248 * q + r) : (a : Int) = 2251799813685248 * (q : Int) + r := by omega
theorem castm {r m c : Nat} (h : r = m + 19 * c) : (m : Int) = r - 19 * c := by omega
theorem carry_id {a0 a1 a2 a3 a4 r0 r1 r2 r3 r4 t0 t1 t2 t3 t4 m0 n0 c0 c1 c2 c3 c4 d0 d1 d2 d3 d4 : Int} (x0 : a0 = 2251799813685248 * c0 + m0) (x1 : a1 = 2251799813685248 * c1 + r1 - c0) (x2 : a2 = 2251799813685248 * c2 + r2 - c1) (x3 : a3 = 2251799813685248 * c3 + r3 - c2) (x4 : a4 = 2251799813685248 * c4 + r4 - c3)
  (m : m0 = r0 - 19 * c4) (y0 : r0 = 2251799813685248 * d0 + n0) (y1 : r1 = 2251799813685248 * d1 + t1 - d0) (y2 : r2 = 2251799813685248 * d2 + t2 - d1) (y3 : r3 = 2251799813685248 * d3 + t3 - d2) (y4 : r4 = 2251799813685248 * d4 + t4 - d3) (n : n0 = t0 - 19 * d4) :
  a0 + 2251799813685248 * a1 + 5070602400912917605986812821504 * a2 + 11417981541647679048466287755595961091061972992 * a3 + 25711008708143844408671393477458601640355247900524685364822016 * a4 =
  t0 + 2251799813685248 * t1 + 5070602400912917605986812821504 * t2 + 11417981541647679048466287755595961091061972992 * t3 + 25711008708143844408671393477458601640355247900524685364822016 * t4 + (c4 + d4) * 57896044618658097711785492504343953926634992332820282019728792003956564819949 := by
 subst x0 x1 x2 x3 x4 m y0 y1 y2 y3 y4 n
 grind
theorem Rq {a0 a1 a2 a3 a4 : BitVec 64} (h0 : a0.toNat < 9223372036854775808) (h1 : a1.toNat < 9223372036854775808) (h2 : a2.toNat < 9223372036854775808) (h3 : a3.toNat < 9223372036854775808) (h4 : a4.toNat < 9223372036854775808) :
  Rep (Gg [a0, a1, a2, a3, a4]) (H7 [a0, a1, a2, a3, a4] % pC) := by
 obtain ⟨r0, r1, r2, r3, r4, he, c0, c1, c2, c3, c4, m0, q0, q1, q2, q3, q4, q5, q6, q7, q8, q9, q10⟩ := Qhn h0 h1 h2 h3 h4
 have k0 := up51' q0 h0
 have k1 := up51 q3 h1 (le5 k0)
 have k2 := up51 q5 h2 (le5 k1)
 have k3 := up51 q7 h3 (le5 k2)
 have k4 := up51 q9 h4 (le5 k3)
 have w0 := low0 q2 q1 k4
 obtain ⟨t0, t1, t2, t3, t4, hf, d0, d1, d2, d3, d4, n0, p0, p1, p2, p3, p4, p5, p6, p7, p8, p9, p10⟩ := Qhn (lt63' w0) (Qek q4) (Qek q6) (Qek q8) (Qek q10)
 have j0 := up0 p0 w0
 have j1 := up1 p3 q4 j0.1
 have j2 := up1 p5 q6 j1.1
 have j3 := up1 p7 q8 j2.1
 have j4 := up1 p9 q10 j3.1
 have w1 := end0 p2 p1 j4.1 (fun e => j0.2 (j1.2 (j2.2 (j3.2 (j4.2 e)))))
 unfold Gg
 rw [he, hf]
 refine ⟨⟨t0, t1, t2, t3, t4, rfl, w1, p4, p6, p8, p10⟩, ?_⟩
 have e : H7 [a0, a1, a2, a3, a4] = H7 [t0, t1, t2, t3, t4] + ((c4 : Int) + d4) * pC :=
  carry_id (castq0 q0) (Qea q3) (Qea q5) (Qea q7) (Qea q9) (castm q2) (castq0 p0) (Qea p3) (Qea p5) (Qea p7) (Qea p9) (castm p2)
 rw [e, Int.add_mul_emod_self_right]
def Md (x y : BitVec 64) : BitVec 64 := BitVec.ofNat 64 (x.toNat * y.toNat / 18446744073709551616)
def mulHG (x y : BitVec 64) : BitVec 64 :=
 ((x >>> 32) * (y >>> 32) + ((x >>> 32) * (y &&& 4294967295#64) + ((x &&& 4294967295#64) * (y &&& 4294967295#64)) >>> 32) >>> 32)
  + (((((x >>> 32) * (y &&& 4294967295#64) + ((x &&& 4294967295#64) * (y &&& 4294967295#64)) >>> 32) &&& 4294967295#64) + (x &&& 4294967295#64) * (y >>> 32)) >>> 32)
theorem Qnr {a b c d A B X Y : Nat} (hX : X = 4294967296 * b + a) (hY : Y = 4294967296 * d + c) (ha : a < 4294967296) (hb : b < 4294967296) (hc : c < 4294967296) (hd : d < 4294967296) :
  X * Y = b * d * 18446744073709551616 + (b * c + a * d) * 4294967296 + a * c ∧ a * c ≤ 18446744065119617025 ∧ b * c ≤ 18446744065119617025 ∧ a * d ≤ 18446744065119617025 ∧ b * d ≤ 18446744065119617025 := by
 subst hX hY
 have m : ∀ p q : Nat, p < 4294967296 → q < 4294967296 → p * q ≤ 18446744065119617025 := fun p q hp hq => Nat.le_trans (Nat.mul_le_mul (Nat.le_of_lt_succ hp) (Nat.le_of_lt_succ hq)) Yh
 exact ⟨by grind, m _ _ ha hc, m _ _ hb hc, m _ _ ha hd, m _ _ hb hd⟩
theorem mul_end {p q r s N : Nat} (hN : N = s * 18446744073709551616 + (q + r) * 4294967296 + p) (hp : p ≤ 18446744065119617025) (hq : q ≤ 18446744065119617025) (hr : r ≤ 18446744065119617025) (hs : s ≤ 18446744065119617025) :
  s + (q + p / 4294967296) / 4294967296 + ((q + p / 4294967296) % 4294967296 + r) / 4294967296 = N / 18446744073709551616 ∧ q + p / 4294967296 < 18446744073709551616 ∧ (q + p / 4294967296) % 4294967296 + r < 18446744073709551616 ∧ N / 18446744073709551616 < 18446744073709551616 := by omega
theorem Pg (a : BitVec 64) : (a &&& 4294967295#64).toNat = a.toNat % 4294967296 := by rw [BitVec.toNat_and]; exact Nat.and_two_pow_sub_one_eq_mod a.toNat 32
theorem Lc (a : BitVec 64) : (a >>> 32).toNat = a.toNat / 4294967296 := by rw [BitVec.toNat_ushiftRight, Nat.shiftRight_eq_div_pow]
theorem Qh3 {a b : BitVec 64} (h : a.toNat * b.toNat < 18446744073709551616) : (a * b).toNat = a.toNat * b.toNat := by rw [BitVec.toNat_mul, Nat.mod_eq_of_lt (by simpa using h)]
theorem mulHG_eq (x y : BitVec 64) : mulHG x y = Md x y := by
 have hx := x.isLt
 have hy := y.isLt
 have xl : (x &&& 4294967295#64).toNat < 4294967296 := by rw [Pg]; exact Nat.mod_lt _ Yh
 have yl : (y &&& 4294967295#64).toNat < 4294967296 := by rw [Pg]; exact Nat.mod_lt _ Yh
 have xh : (x >>> 32).toNat < 4294967296 := by rw [Lc]; omega
 have yh : (y >>> 32).toNat < 4294967296 := by rw [Lc]; omega
 have hX : x.toNat = 4294967296 * (x >>> 32).toNat + (x &&& 4294967295#64).toNat := by rw [Pg, Lc]; omega
 have hY : y.toNat = 4294967296 * (y >>> 32).toNat + (y &&& 4294967295#64).toNat := by rw [Pg, Lc]; omega
 obtain ⟨h1, h2, h3, h4, h5⟩ := Qnr (A := 0) (B := 0) hX hY xl xh yl yh
 obtain ⟨k1, k2, k3, k4⟩ := mul_end h1 h2 h3 h4 h5
 unfold mulHG Md
 generalize x &&& 4294967295#64 = a at *
 generalize x >>> 32 = b at *
 generalize y &&& 4294967295#64 = c at *
 generalize y >>> 32 = d at *
 have e1 : (a * c).toNat = a.toNat * c.toNat := Qh3 oM
 have e2 : (b * c).toNat = b.toNat * c.toNat := Qh3 oM
 have e3 : (a * d).toNat = a.toNat * d.toNat := Qh3 oM
 have e4 : (b * d).toNat = b.toNat * d.toNat := Qh3 oM
 have e5 : ((a * c) >>> 32).toNat = a.toNat * c.toNat / 4294967296 := by rw [Lc, e1]
 have e6 : (b * c + (a * c) >>> 32).toNat = b.toNat * c.toNat + a.toNat * c.toNat / 4294967296 := by rw [Gu (by rw [e2, e5]; exact k2), e2, e5]
 generalize b * c + (a * c) >>> 32 = t at *
 have e7 : ((t &&& 4294967295#64) + a * d).toNat = t.toNat % 4294967296 + a.toNat * d.toNat := by rw [Gu (by rw [Pg, e3, e6]; exact k3), Pg, e3]
 generalize (t &&& 4294967295#64) + a * d = u at *
 apply BitVec.eq_of_toNat_eq
 rw [BitVec.toNat_ofNat, Nat.mod_eq_of_lt k4, ← k1]
 have e8 : (t >>> 32).toNat = t.toNat / 4294967296 := Lc t
 have e9 : (u >>> 32).toNat = u.toNat / 4294967296 := Lc u
 rw [e6] at e7 e8
 rw [e7] at e9
 have l1 : (b * d + t >>> 32).toNat = b.toNat * d.toNat + (b.toNat * c.toNat + a.toNat * c.toNat / 4294967296) / 4294967296 := by rw [Gu (by rw [e4, e8]; omega), e4, e8]
 rw [Gu (by rw [l1, e9]; omega), l1, e9]
def G6 (l : List (BitVec 64)) (off : Nat) (x y : BitVec 64) : List (BitVec 64) :=
 (l.set (off + 1) (l.getD (off + 1) 0 + x * y + 0#64)).set (off + 0) ((l.set (off + 1) (l.getD (off + 1) 0 + x * y + 0#64)).getD (off + 0) 0 + Md x y + J7 (l.getD (off + 1) 0) (x * y) 0#64)
theorem Qgj (l : List (BitVec 64)) (off : Nat) (x y : BitVec 64) : (G6 l off x y).length = l.length := by simp [G6]
def Uw (a b l : List (BitVec 64)) (i k : Nat) : List (BitVec 64) :=
 if i + k < 5 then G6 l ((i + k) * 2) (a.getD i 0) (b.getD k 0) else G6 l ((i + k - 5) * 2) (19#64 * a.getD i 0) (b.getD k 0)
theorem Qc5 (a b l : List (BitVec 64)) (i k : Nat) : (Uw a b l i k).length = l.length := by unfold Uw; split <;> exact Qgj _ _ _ _
def Ac (a b : List (BitVec 64)) (i : Nat) (l : List (BitVec 64)) : Nat → List (BitVec 64)
 | 0 => l
 | k + 1 => Uw a b (Ac a b i l k) i k
theorem P6 (a b : List (BitVec 64)) (i : Nat) (l : List (BitVec 64)) (k : Nat) : (Ac a b i l k).length = l.length := by
 induction k with
 | zero => rfl
 | succ k ih => rw [Ac, Qc5, ih]
def Wp (a b : List (BitVec 64)) : Nat → List (BitVec 64)
 | 0 => List.replicate 10 0
 | i + 1 => Ac a b i (Wp a b i) 5
theorem Qc0 (a b : List (BitVec 64)) (i : Nat) : (Wp a b i).length = 10 := by
 induction i with
 | zero => rfl
 | succ i ih => rw [Wp, P6, ih]
def G9 (l : List (BitVec 64)) : Nat → BitVec 64
 | 0 => 0#64
 | i + 1 => (l.getD (i * 2) 0 + J7 (l.getD (i * 2 + 1) 0) (G9 l i) 0#64) <<< 13 ||| (l.getD (i * 2 + 1) 0 + G9 l i + 0#64) >>> 51
def G8 (l : List (BitVec 64)) (i : Nat) : BitVec 64 := (l.getD (i * 2 + 1) 0 + G9 l i + 0#64) &&& 2251799813685247#64
def Qe (a b : List (BitVec 64)) : List (BitVec 64) :=
 let l := Wp a b 5
 Gg [G8 l 0 + 19#64 * (G9 l 5 &&& 2251799813685247#64), G8 l 1 + 19#64 * (G9 l 5 >>> 51), G8 l 2, G8 l 3, G8 l 4]
def Qz : List (BitVec 64) → List (BitVec 64) → List (BitVec 64)
 | [a0, a1, a2, a3, a4], [b0, b1, b2, b3, b4] => Gg [a0 + b0, a1 + b1, a2 + b2, a3 + b3, a4 + b4]
 | l, _ => l
def Qk : List (BitVec 64) → List (BitVec 64) → List (BitVec 64)
 | [a0, a1, a2, a3, a4], [b0, b1, b2, b3, b4] => Gg [a0 + 4503599627370494#64 - b0 - 36#64, a1 + 4503599627370494#64 - b1, a2 + 4503599627370494#64 - b2, a3 + 4503599627370494#64 - b3, a4 + 4503599627370494#64 - b4]
 | l, _ => l
theorem Nz (l : List (BitVec 64)) : (Qbu l).length = l.length := by unfold Qbu; split <;> rfl
@[simp] theorem Uy (l : List (BitVec 64)) : (Gg l).length = l.length := by unfold Gg; rw [Nz, Nz]
@[simp] theorem Jh (a b : List (BitVec 64)) : (Qe a b).length = 5 := by unfold Qe; rw [Uy]; rfl
theorem Me {a b : List (BitVec 64)} (h : a.length = 5) (h' : b.length = 5) : (Qz a b).length = 5 := by
 unfold Qz; split
 ·rw [Uy]; rfl
 exact h
theorem Hm {a b : List (BitVec 64)} (h : a.length = 5) (h' : b.length = 5) : (Qk a b).length = 5 := by
 unfold Qk; split
 ·rw [Uy]; rfl
 exact h
theorem Qbi {α : Type} (l : List α) (h : l.length = 5) : ∃ a b c d e, l = [a, b, c, d, e] := by
 match l, h with
 | [a, b, c, d, e], _ => exact ⟨a, b, c, d, e, rfl⟩
def Vp (x : List (BitVec 64)) : Nat → List (BitVec 64)
 | 0 => [1#64, 0#64, 0#64, 0#64, 0#64]
 | j + 1 => if j = 252 ∨ j = 250 then Qe (Vp x j) (Vp x j) else Qe (Qe (Vp x j) (Vp x j)) x
theorem Rf (x : List (BitVec 64)) (j : Nat) : (Vp x j).length = 5 := by
 cases j with
 | zero => rfl
 | succ j => unfold Vp; split <;> exact Jh _ _
def invL (x : List (BitVec 64)) : List (BitVec 64) := Vp x 255
structure Lad where
 px : List (BitVec 64)
 pz : List (BitVec 64)
 qx : List (BitVec 64)
 qz : List (BitVec 64)
def U5 (px pz qx qz x1 : List (BitVec 64)) : Lad :=
 let a := Qz px pz
 let b := Qk px pz
 let c := Qz qx qz
 let d := Qk qx qz
 let da := Qe d a
 let cb := Qe c b
 let aa := Qe a a
 let bb := Qe b b
 let e := Qk aa bb
 let s := Qz da cb
 let t := Qk da cb
 ⟨Qe aa bb, Qe e (Qz aa (Qe [121665#64, 0#64, 0#64, 0#64, 0#64] e)), Qe s s, Qe x1 (Qe t t)⟩
def rbit (u : Zj) (i : Nat) : BitVec 64 := ((u.getD (i / 8) 0 >>> (i % 8)) &&& 1#8).setWidth 64
def Uj (u : Zj) : Nat → List (BitVec 64)
 | 0 => List.replicate 5 0
 | i + 1 => (Uj u i).set (i / 51) ((Uj u i).getD (i / 51) 0 ||| rbit u i <<< (i % 51))
theorem F9 (u : Zj) (i : Nat) : (Uj u i).length = 5 := by
 induction i with
 | zero => rfl
 | succ i ih => rw [Uj, List.length_set, ih]
def Xu (u : Zj) : List (BitVec 64) := Uj u 255
def wbit (e : List (BitVec 64)) (i : Nat) : BitVec 8 := ((e.getD (i / 51) 0 >>> (i % 51)) &&& 1#64).setWidth 8
def Kr (e : List (BitVec 64)) : Nat → Zj
 | 0 => List.replicate 32 0
 | i + 1 => (Kr e i).set (i / 8) ((Kr e i).getD (i / 8) 0 ||| wbit e i <<< (i % 8))
theorem Vz (e : List (BitVec 64)) (i : Nat) : (Kr e i).length = 32 := by
 induction i with
 | zero => rfl
 | succ i ih => rw [Kr, List.length_set, ih]
def over1 : List (BitVec 64) → List (BitVec 64) × BitVec 64
 | [a0, a1, a2, a3, a4] =>
  let s0 := a0 + 19#64
  let s1 := a1 + s0 >>> 51
  let s2 := a2 + s1 >>> 51
  let s3 := a3 + s2 >>> 51
  let s4 := a4 + s3 >>> 51
  ([s0 &&& 2251799813685247#64, s1 &&& 2251799813685247#64, s2 &&& 2251799813685247#64, s3 &&& 2251799813685247#64, s4 &&& 2251799813685247#64], s4 >>> 51)
 | l => (l, 0)
def We (e : List (BitVec 64)) : List (BitVec 64) := if (0#64).toNat < (over1 (Gg e)).2.toNat then (over1 (Gg e)).1 else Gg e
def Lu (e : List (BitVec 64)) : Zj := Kr (We e) 255
@[simp] theorem Qgr (e : List (BitVec 64)) : (Lu e).length = 32 := Vz _ _
def Xo (k : Zj) : Zj := (k.set 0 (k.getD 0 0 &&& ~~~7#8)).set 31 ((k.set 0 (k.getD 0 0 &&& ~~~7#8)).getD 31 0 &&& ~~~128#8 ||| 64#8)
theorem Qgp (k : Zj) : (Xo k).length = k.length := by simp [Xo]
def Nw (k : Zj) (j : Nat) : Bool := ((k.getD ((254 - j) / 8) 0 >>> ((254 - j) % 8)) &&& 1#8) == 0#8
def Xx (k : Zj) (x1 : List (BitVec 64)) : Nat → Lad
 | 0 => ⟨[1#64, 0#64, 0#64, 0#64, 0#64], [0#64, 0#64, 0#64, 0#64, 0#64], x1, [1#64, 0#64, 0#64, 0#64, 0#64]⟩
 | j + 1 =>
  let s := Xx k x1 j
  if Nw k j then U5 s.px s.pz s.qx s.qz x1
  else let t := U5 s.qx s.qz s.px s.pz x1; ⟨t.qx, t.qz, t.px, t.pz⟩
def Qi (k u : Zj) : Zj :=
 let s := Xx (Xo k) (Xu u) 255
 Lu (Qe s.px (invL s.pz))
@[simp] theorem Jy (k u : Zj) : (Qi k u).length = 32 := Qgr _
structure LadLen (s : Lad) : Prop where
 px : s.px.length = 5
 pz : s.pz.length = 5
 qx : s.qx.length = 5
 qz : s.qz.length = 5
theorem Qar (px pz qx qz x1 : List (BitVec 64)) : LadLen (U5 px pz qx qz x1) := ⟨Jh _ _, Jh _ _, Jh _ _, Jh _ _⟩
theorem Qns (k : Zj) {x1 : List (BitVec 64)} (h : x1.length = 5) (j : Nat) : LadLen (Xx k x1 j) := by
 cases j with
 | zero => exact ⟨rfl, rfl, h, rfl⟩
 | succ j =>
  simp only [Xx]
  split
  ·exact Qar _ _ _ _ _
  obtain ⟨h1, h2, h3, h4⟩ := Qar (Xx k x1 j).qx (Xx k x1 j).qz (Xx k x1 j).px (Xx k x1 j).pz x1
  exact ⟨h3, h4, h1, h2⟩
theorem Qdp (a b : BitVec 64) {c : BitVec 64} (hc : c.toNat ≤ 1) : (J7 a b c).toNat ≤ 1 := by
 have := a.isLt
 have := b.isLt
 unfold J7
 rw [BitVec.toNat_ofNat]
 omega
def carN (l : List (BitVec 64)) : Nat → List (BitVec 64)
 | 0 => l
 | k + 1 => Qbu (carN l k)
theorem Qkv (l : List (BitVec 64)) (k : Nat) : (carN l k).length = l.length := by
 induction k with
 | zero => rfl
 | succ k ih => rw [carN, Nz, ih]
theorem Qnk {a b l : List (BitVec 64)} {i k : Nat} (h : i + k < 5) : G6 (Ac a b i l k) ((i + k) * 2) (a.getD i 0) (b.getD k 0) = Ac a b i l (k + 1) := by
 show _ = Uw _ _ _ _ _
 unfold Uw; rw [if_pos h]
theorem Qnl {a b l : List (BitVec 64)} {i k : Nat} (h : ¬ i + k < 5) : G6 (Ac a b i l k) ((i + k - 5) * 2) (19#64 * a.getD i 0) (b.getD k 0) = Ac a b i l (k + 1) := by
 show _ = Uw _ _ _ _ _
 unfold Uw; rw [if_neg h]
theorem Qke {x : List (BitVec 64)} {j : Nat} (h : j = 252 ∨ j = 250) : Qe (Vp x j) (Vp x j) = Vp x (j + 1) := by
 show _ = if j = 252 ∨ j = 250 then _ else _
 rw [if_pos h]
theorem Qnv {x : List (BitVec 64)} {j : Nat} (h : ¬ (j = 252 ∨ j = 250)) : Qe (Qe (Vp x j) (Vp x j)) x = Vp x (j + 1) := by
 show _ = if j = 252 ∨ j = 250 then _ else _
 rw [if_neg h]
theorem ladGo_t {k : Zj} {x1 : List (BitVec 64)} {j : Nat} (h : Nw k j = true) : Xx k x1 (j + 1) = U5 (Xx k x1 j).px (Xx k x1 j).pz (Xx k x1 j).qx (Xx k x1 j).qz x1 := by
 show (if Nw k j then _ else _) = _
 rw [if_pos h]
theorem ladGo_f {k : Zj} {x1 : List (BitVec 64)} {j : Nat} (h : Nw k j = false) : Xx k x1 (j + 1) = ⟨(U5 (Xx k x1 j).qx (Xx k x1 j).qz (Xx k x1 j).px (Xx k x1 j).pz x1).qx, (U5 (Xx k x1 j).qx (Xx k x1 j).qz (Xx k x1 j).px (Xx k x1 j).pz x1).qz, (U5 (Xx k x1 j).qx (Xx k x1 j).qz (Xx k x1 j).px (Xx k x1 j).pz x1).px, (U5 (Xx k x1 j).qx (Xx k x1 j).qz (Xx k x1 j).px (Xx k x1 j).pz x1).pz⟩ := by
 show (if Nw k j then _ else _) = _
 rw [if_neg (by rw [h]; decide)]
theorem Qif {l : List (BitVec 64)} (h : l.length = 5) : (over1 l).1.length = 5 := by
 obtain ⟨a, b, c, d, e, rfl⟩ := Qbi l h; rfl
theorem Qbc {e : List (BitVec 64)} (h : e.length = 5) : (We e).length = 5 := by
 unfold We; split
 ·exact Qif (by rw [Uy, h])
 rw [Uy, h]
theorem filled5 {α : Type} (g : Nat → α) (z : α) : Wy g z 5 5 = [g 0, g 1, g 2, g 3, g 4] := rfl
theorem Qld (x : List (BitVec 64)) : Vp x 0 = [1#64, 0#64, 0#64, 0#64, 0#64] := rfl
theorem Qlb (k : Zj) (x1 : List (BitVec 64)) : Xx k x1 0 = ⟨[1#64, 0#64, 0#64, 0#64, 0#64], [0#64, 0#64, 0#64, 0#64, 0#64], x1, [1#64, 0#64, 0#64, 0#64, 0#64]⟩ := rfl
theorem Qbw (e : List (BitVec 64)) : Kr e 0 = List.replicate 32 0 := rfl
theorem Qbx (e : List (BitVec 64)) (i : Nat) : Kr e (i + 1) = (Kr e i).set (i / 8) ((Kr e i).getD (i / 8) 0 ||| wbit e i <<< (i % 8)) := rfl
@[simp] theorem invL_length (x : List (BitVec 64)) : (invL x).length = 5 := Rf x 255
end Go.Proofs.YtkmiemlpfkfiiaaDoor
