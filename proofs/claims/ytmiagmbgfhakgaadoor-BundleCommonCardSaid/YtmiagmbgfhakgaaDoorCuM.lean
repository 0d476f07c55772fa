/- The curve: numbers modulo p in five limbs, plain. Conditions: none beyond those that each theorem states. -/
import Derived.Test.YtmiagmbgfhakgaaDoorTab
import Derived.Test.YtmiagmbgfhakgaaDoorFwQ
import Derived.Test.YtmiagmbgfhakgaaDoorKd3
namespace Go.Proofs.YtmiagmbgfhakgaaDoor
set_option linter.unusedVariables false
set_option linter.unusedSimpArgs false
def pC : Int := 57896044618658097711785492504343953926634992332820282019728792003956564819949
theorem tn_add {a b : BitVec 64} (h : a.toNat + b.toNat < 18446744073709551616) : (a + b).toNat = a.toNat + b.toNat := by
  rw [BitVec.toNat_add, Nat.mod_eq_of_lt (by simpa using h)]
theorem tn_mask (a : BitVec 64) : (a &&& 2251799813685247#64).toNat = a.toNat % 2251799813685248 := by
  rw [BitVec.toNat_and]; exact Nat.and_two_pow_sub_one_eq_mod a.toNat 51
theorem tn_shr (a : BitVec 64) : (a >>> 51).toNat = a.toNat / 2251799813685248 := by
  rw [BitVec.toNat_ushiftRight, Nat.shiftRight_eq_div_pow]
theorem tn_mul19 {a : BitVec 64} (h : a.toNat * 19 < 18446744073709551616) : (19#64 * a).toNat = 19 * a.toNat := by
  rw [BitVec.toNat_mul]; show 19 * a.toNat % 2 ^ 64 = _; rw [Nat.mod_eq_of_lt oM]
/-- One round of carrying. -/
def carry1 : List (BitVec 64) → List (BitVec 64)
  | [a0, a1, a2, a3, a4] =>
    let s0 := a0 + 0#64
    let s1 := a1 + s0 >>> 51
    let s2 := a2 + s1 >>> 51
    let s3 := a3 + s2 >>> 51
    let s4 := a4 + s3 >>> 51
    [(s0 &&& 2251799813685247#64) + 19#64 * (s4 >>> 51), s1 &&& 2251799813685247#64, s2 &&& 2251799813685247#64, s3 &&& 2251799813685247#64, s4 &&& 2251799813685247#64]
  | l => l
def carryL (l : List (BitVec 64)) : List (BitVec 64) := carry1 (carry1 l)
theorem split51 (s : BitVec 64) : ∃ q r : Nat, s.toNat = 2251799813685248 * q + r ∧ r < 2251799813685248 ∧ (s >>> 51).toNat = q ∧ (s &&& 2251799813685247#64).toNat = r :=
  ⟨s.toNat / 2251799813685248, s.toNat % 2251799813685248, (Nat.div_add_mod _ _).symm, Nat.mod_lt _ (by decide), tn_shr s, tn_mask s⟩
theorem carry1_ok {a0 a1 a2 a3 a4 : BitVec 64} (h0 : a0.toNat < 9223372036854775808) (h1 : a1.toNat < 9223372036854775808) (h2 : a2.toNat < 9223372036854775808) (h3 : a3.toNat < 9223372036854775808) (h4 : a4.toNat < 9223372036854775808) :
    ∃ r0 r1 r2 r3 r4 : BitVec 64, carry1 [a0, a1, a2, a3, a4] = [r0, r1, r2, r3, r4] ∧
      ∃ c0 c1 c2 c3 c4 m0 : Nat, a0.toNat = 2251799813685248 * c0 + m0 ∧ m0 < 2251799813685248 ∧ r0.toNat = m0 + 19 * c4 ∧ a1.toNat + c0 = 2251799813685248 * c1 + r1.toNat ∧ r1.toNat < 2251799813685248 ∧
        a2.toNat + c1 = 2251799813685248 * c2 + r2.toNat ∧ r2.toNat < 2251799813685248 ∧ a3.toNat + c2 = 2251799813685248 * c3 + r3.toNat ∧ r3.toNat < 2251799813685248 ∧ a4.toNat + c3 = 2251799813685248 * c4 + r4.toNat ∧ r4.toNat < 2251799813685248 := by
  refine ⟨_, _, _, _, _, rfl, ?_⟩
  have e0 : (a0 + 0#64).toNat = a0.toNat := by simp
  generalize a0 + 0#64 = s0 at *
  obtain ⟨q0, r0, p0, u0, x0, y0⟩ := split51 s0
  have e1 : (a1 + s0 >>> 51).toNat = a1.toNat + q0 := by rw [tn_add oM, x0]
  generalize a1 + s0 >>> 51 = s1 at *
  obtain ⟨q1, r1, p1, u1, x1, y1⟩ := split51 s1
  have e2 : (a2 + s1 >>> 51).toNat = a2.toNat + q1 := by rw [tn_add oM, x1]
  generalize a2 + s1 >>> 51 = s2 at *
  obtain ⟨q2, r2, p2, u2, x2, y2⟩ := split51 s2
  have e3 : (a3 + s2 >>> 51).toNat = a3.toNat + q2 := by rw [tn_add oM, x2]
  generalize a3 + s2 >>> 51 = s3 at *
  obtain ⟨q3, r3, p3, u3, x3, y3⟩ := split51 s3
  have e4 : (a4 + s3 >>> 51).toNat = a4.toNat + q3 := by rw [tn_add oM, x3]
  generalize a4 + s3 >>> 51 = s4 at *
  obtain ⟨q4, r4, p4, u4, x4, y4⟩ := split51 s4
  have z1 : (19#64 * (s4 >>> 51)).toNat = 19 * q4 := by rw [tn_mul19 oM, x4]
  have z : ((s0 &&& 2251799813685247#64) + 19#64 * (s4 >>> 51)).toNat = r0 + 19 * q4 := by rw [tn_add oM, y0, z1]
  exact ⟨q0, q1, q2, q3, q4, r0, by rw [← e0]; exact p0, u0, z, by rw [y1, ← e1]; exact p1, by rw [y1]; exact u1, by rw [y2, ← e2]; exact p2, by rw [y2]; exact u2, by rw [y3, ← e3]; exact p3, by rw [y3]; exact u3, by rw [y4, ← e4]; exact p4, by rw [y4]; exact u4⟩
/-- The number that limbs are, and what is meant by them. -/
def valL : List (BitVec 64) → Int
  | [a0, a1, a2, a3, a4] => (a0.toNat : Int) + 2251799813685248 * (a1.toNat : Int) + 5070602400912917605986812821504 * (a2.toNat : Int) + 11417981541647679048466287755595961091061972992 * (a3.toNat : Int) + 25711008708143844408671393477458601640355247900524685364822016 * (a4.toNat : Int)
  | _ => 0
structure Rep (l : List (BitVec 64)) (x : Int) : Prop where
  is : ∃ a0 a1 a2 a3 a4 : BitVec 64, l = [a0, a1, a2, a3, a4] ∧ a0.toNat < 2251799813685248 ∧ a1.toNat < 2251799813685248 ∧ a2.toNat < 2251799813685248 ∧ a3.toNat < 2251799813685248 ∧ a4.toNat < 2251799813685248
  val : valL l % pC = x
theorem up51 {a c q r : Nat} (h : a + c = 2251799813685248 * q + r) (ha : a < 9223372036854775808) (hc : c ≤ 5000) : q ≤ 4096 := by omega
theorem up51' {a q r : Nat} (h : a = 2251799813685248 * q + r) (ha : a < 9223372036854775808) : q ≤ 4096 := by omega
theorem up1 {a c q r : Nat} (h : a + c = 2251799813685248 * q + r) (ha : a < 2251799813685248) (hc : c ≤ 1) : q ≤ 1 ∧ (q = 1 → c = 1) := by omega
theorem up0 {a q r : Nat} (h : a = 2251799813685248 * q + r) (ha : a < 2251799813685248 + 80000) : q ≤ 1 ∧ (q = 1 → r < 80000) := by omega
theorem low0 {r m c : Nat} (h : r = m + 19 * c) (hm : m < 2251799813685248) (hc : c ≤ 4096) : r < 2251799813685248 + 80000 := by omega
theorem lt63 {a : Nat} (h : a < 2251799813685248) : a < 9223372036854775808 := by omega
theorem lt63' {a : Nat} (h : a < 2251799813685248 + 80000) : a < 9223372036854775808 := by omega
theorem le5 {a : Nat} (h : a ≤ 4096) : a ≤ 5000 := by omega
theorem end0 {t n d : Nat} (h : t = n + 19 * d) (hn : n < 2251799813685248) (hd : d ≤ 1) (hs : d = 1 → n < 80000) : t < 2251799813685248 := by
  rcases Nat.lt_or_ge d 1 with h1 | h1
  · omega
  · have := hs oM; omega
theorem castq {a c q r : Nat} (h : a + c = 2251799813685248 * q + r) : (a : Int) = 2251799813685248 * (q : Int) + r - c := by omega
theorem castq0 {a q r : Nat} (h : a = 2251799813685248 * q + r) : (a : Int) = 2251799813685248 * (q : Int) + r := by omega
theorem castm {r m c : Nat} (h : r = m + 19 * c) : (m : Int) = r - 19 * c := by omega
theorem carry_id {a0 a1 a2 a3 a4 r0 r1 r2 r3 r4 t0 t1 t2 t3 t4 m0 n0 c0 c1 c2 c3 c4 d0 d1 d2 d3 d4 : Int} (x0 : a0 = 2251799813685248 * c0 + m0) (x1 : a1 = 2251799813685248 * c1 + r1 - c0) (x2 : a2 = 2251799813685248 * c2 + r2 - c1) (x3 : a3 = 2251799813685248 * c3 + r3 - c2) (x4 : a4 = 2251799813685248 * c4 + r4 - c3)
    (m : m0 = r0 - 19 * c4) (y0 : r0 = 2251799813685248 * d0 + n0) (y1 : r1 = 2251799813685248 * d1 + t1 - d0) (y2 : r2 = 2251799813685248 * d2 + t2 - d1) (y3 : r3 = 2251799813685248 * d3 + t3 - d2) (y4 : r4 = 2251799813685248 * d4 + t4 - d3) (n : n0 = t0 - 19 * d4) :
    a0 + 2251799813685248 * a1 + 5070602400912917605986812821504 * a2 + 11417981541647679048466287755595961091061972992 * a3 + 25711008708143844408671393477458601640355247900524685364822016 * a4 =
    t0 + 2251799813685248 * t1 + 5070602400912917605986812821504 * t2 + 11417981541647679048466287755595961091061972992 * t3 + 25711008708143844408671393477458601640355247900524685364822016 * t4 + (c4 + d4) * 57896044618658097711785492504343953926634992332820282019728792003956564819949 := by
  subst x0 x1 x2 x3 x4 m y0 y1 y2 y3 y4 n
  grind
theorem carryL_rep {a0 a1 a2 a3 a4 : BitVec 64} (h0 : a0.toNat < 9223372036854775808) (h1 : a1.toNat < 9223372036854775808) (h2 : a2.toNat < 9223372036854775808) (h3 : a3.toNat < 9223372036854775808) (h4 : a4.toNat < 9223372036854775808) :
    Rep (carryL [a0, a1, a2, a3, a4]) (valL [a0, a1, a2, a3, a4] % pC) := by
  obtain ⟨r0, r1, r2, r3, r4, he, c0, c1, c2, c3, c4, m0, q0, q1, q2, q3, q4, q5, q6, q7, q8, q9, q10⟩ := carry1_ok h0 h1 h2 h3 h4
  have k0 := up51' q0 h0
  have k1 := up51 q3 h1 (le5 k0)
  have k2 := up51 q5 h2 (le5 k1)
  have k3 := up51 q7 h3 (le5 k2)
  have k4 := up51 q9 h4 (le5 k3)
  have w0 := low0 q2 q1 k4
  obtain ⟨t0, t1, t2, t3, t4, hf, d0, d1, d2, d3, d4, n0, p0, p1, p2, p3, p4, p5, p6, p7, p8, p9, p10⟩ := carry1_ok (lt63' w0) (lt63 q4) (lt63 q6) (lt63 q8) (lt63 q10)
  have j0 := up0 p0 w0
  have j1 := up1 p3 q4 j0.1
  have j2 := up1 p5 q6 j1.1
  have j3 := up1 p7 q8 j2.1
  have j4 := up1 p9 q10 j3.1
  have w1 := end0 p2 p1 j4.1 (fun e => j0.2 (j1.2 (j2.2 (j3.2 (j4.2 e)))))
  unfold carryL
  rw [he, hf]
  refine ⟨⟨t0, t1, t2, t3, t4, rfl, w1, p4, p6, p8, p10⟩, ?_⟩
  have e : valL [a0, a1, a2, a3, a4] = valL [t0, t1, t2, t3, t4] + ((c4 : Int) + d4) * pC :=
    carry_id (castq0 q0) (castq q3) (castq q5) (castq q7) (castq q9) (castm q2) (castq0 p0) (castq p3) (castq p5) (castq p7) (castq p9) (castm p2)
  rw [e, Int.add_mul_emod_self_right]
/-! The steps of the program's numbers, as they are done. -/
def mulH (x y : BitVec 64) : BitVec 64 := BitVec.ofNat 64 (x.toNat * y.toNat / 18446744073709551616)
def mulHG (x y : BitVec 64) : BitVec 64 :=
  ((x >>> 32) * (y >>> 32) + ((x >>> 32) * (y &&& 4294967295#64) + ((x &&& 4294967295#64) * (y &&& 4294967295#64)) >>> 32) >>> 32)
    + (((((x >>> 32) * (y &&& 4294967295#64) + ((x &&& 4294967295#64) * (y &&& 4294967295#64)) >>> 32) &&& 4294967295#64) + (x &&& 4294967295#64) * (y >>> 32)) >>> 32)
theorem mul_parts {a b c d A B X Y : Nat} (hX : X = 4294967296 * b + a) (hY : Y = 4294967296 * d + c) (ha : a < 4294967296) (hb : b < 4294967296) (hc : c < 4294967296) (hd : d < 4294967296) :
    X * Y = b * d * 18446744073709551616 + (b * c + a * d) * 4294967296 + a * c ∧ a * c ≤ 18446744065119617025 ∧ b * c ≤ 18446744065119617025 ∧ a * d ≤ 18446744065119617025 ∧ b * d ≤ 18446744065119617025 := by
  subst hX hY
  have m : ∀ p q : Nat, p < 4294967296 → q < 4294967296 → p * q ≤ 18446744065119617025 := fun p q hp hq => Nat.le_trans (Nat.mul_le_mul (Nat.le_of_lt_succ hp) (Nat.le_of_lt_succ hq)) (by decide)
  exact ⟨by grind, m _ _ ha hc, m _ _ hb hc, m _ _ ha hd, m _ _ hb hd⟩
theorem mul_end {p q r s N : Nat} (hN : N = s * 18446744073709551616 + (q + r) * 4294967296 + p) (hp : p ≤ 18446744065119617025) (hq : q ≤ 18446744065119617025) (hr : r ≤ 18446744065119617025) (hs : s ≤ 18446744065119617025) :
    s + (q + p / 4294967296) / 4294967296 + ((q + p / 4294967296) % 4294967296 + r) / 4294967296 = N / 18446744073709551616 ∧ q + p / 4294967296 < 18446744073709551616 ∧ (q + p / 4294967296) % 4294967296 + r < 18446744073709551616 ∧ N / 18446744073709551616 < 18446744073709551616 := by omega
theorem tn_and32 (a : BitVec 64) : (a &&& 4294967295#64).toNat = a.toNat % 4294967296 := by rw [BitVec.toNat_and]; exact Nat.and_two_pow_sub_one_eq_mod a.toNat 32
theorem tn_shr32 (a : BitVec 64) : (a >>> 32).toNat = a.toNat / 4294967296 := by rw [BitVec.toNat_ushiftRight, Nat.shiftRight_eq_div_pow]
theorem tn_mul {a b : BitVec 64} (h : a.toNat * b.toNat < 18446744073709551616) : (a * b).toNat = a.toNat * b.toNat := by rw [BitVec.toNat_mul, Nat.mod_eq_of_lt (by simpa using h)]
theorem mulHG_eq (x y : BitVec 64) : mulHG x y = mulH x y := by
  have hx := x.isLt
  have hy := y.isLt
  have xl : (x &&& 4294967295#64).toNat < 4294967296 := by rw [tn_and32]; exact Nat.mod_lt _ (by decide)
  have yl : (y &&& 4294967295#64).toNat < 4294967296 := by rw [tn_and32]; exact Nat.mod_lt _ (by decide)
  have xh : (x >>> 32).toNat < 4294967296 := by rw [tn_shr32]; omega
  have yh : (y >>> 32).toNat < 4294967296 := by rw [tn_shr32]; omega
  have hX : x.toNat = 4294967296 * (x >>> 32).toNat + (x &&& 4294967295#64).toNat := by rw [tn_and32, tn_shr32]; omega
  have hY : y.toNat = 4294967296 * (y >>> 32).toNat + (y &&& 4294967295#64).toNat := by rw [tn_and32, tn_shr32]; omega
  obtain ⟨h1, h2, h3, h4, h5⟩ := mul_parts (A := 0) (B := 0) hX hY xl xh yl yh
  obtain ⟨k1, k2, k3, k4⟩ := mul_end h1 h2 h3 h4 h5
  unfold mulHG mulH
  generalize x &&& 4294967295#64 = a at *
  generalize x >>> 32 = b at *
  generalize y &&& 4294967295#64 = c at *
  generalize y >>> 32 = d at *
  have e1 : (a * c).toNat = a.toNat * c.toNat := tn_mul oM
  have e2 : (b * c).toNat = b.toNat * c.toNat := tn_mul oM
  have e3 : (a * d).toNat = a.toNat * d.toNat := tn_mul oM
  have e4 : (b * d).toNat = b.toNat * d.toNat := tn_mul oM
  have e5 : ((a * c) >>> 32).toNat = a.toNat * c.toNat / 4294967296 := by rw [tn_shr32, e1]
  have e6 : (b * c + (a * c) >>> 32).toNat = b.toNat * c.toNat + a.toNat * c.toNat / 4294967296 := by rw [tn_add (by rw [e2, e5]; exact k2), e2, e5]
  generalize b * c + (a * c) >>> 32 = t at *
  have e7 : ((t &&& 4294967295#64) + a * d).toNat = t.toNat % 4294967296 + a.toNat * d.toNat := by rw [tn_add (by rw [tn_and32, e3, e6]; exact k3), tn_and32, e3]
  generalize (t &&& 4294967295#64) + a * d = u at *
  apply BitVec.eq_of_toNat_eq
  rw [BitVec.toNat_ofNat, Nat.mod_eq_of_lt k4, ← k1]
  have e8 : (t >>> 32).toNat = t.toNat / 4294967296 := tn_shr32 t
  have e9 : (u >>> 32).toNat = u.toNat / 4294967296 := tn_shr32 u
  rw [e6] at e7 e8
  rw [e7] at e9
  have l1 : (b * d + t >>> 32).toNat = b.toNat * d.toNat + (b.toNat * c.toNat + a.toNat * c.toNat / 4294967296) / 4294967296 := by rw [tn_add (by rw [e4, e8]; omega), e4, e8]
  rw [tn_add (by rw [l1, e9]; omega), l1, e9]
/-- A product is added to a pair. -/
def waddAt (l : List (BitVec 64)) (off : Nat) (x y : BitVec 64) : List (BitVec 64) :=
  (l.set (off + 1) (l.getD (off + 1) 0 + x * y + 0#64)).set (off + 0) ((l.set (off + 1) (l.getD (off + 1) 0 + x * y + 0#64)).getD (off + 0) 0 + mulH x y + add64C (l.getD (off + 1) 0) (x * y) 0#64)
theorem waddAt_length (l : List (BitVec 64)) (off : Nat) (x y : BitVec 64) : (waddAt l off x y).length = l.length := by simp [waddAt]
def timesStep (a b l : List (BitVec 64)) (i k : Nat) : List (BitVec 64) :=
  if i + k < 5 then waddAt l ((i + k) * 2) (a.getD i 0) (b.getD k 0) else waddAt l ((i + k - 5) * 2) (19#64 * a.getD i 0) (b.getD k 0)
theorem timesStep_length (a b l : List (BitVec 64)) (i k : Nat) : (timesStep a b l i k).length = l.length := by unfold timesStep; split <;> exact waddAt_length _ _ _ _
def rowGo (a b : List (BitVec 64)) (i : Nat) (l : List (BitVec 64)) : Nat → List (BitVec 64)
  | 0 => l
  | k + 1 => timesStep a b (rowGo a b i l k) i k
theorem rowGo_length (a b : List (BitVec 64)) (i : Nat) (l : List (BitVec 64)) (k : Nat) : (rowGo a b i l k).length = l.length := by
  induction k with
  | zero => rfl
  | succ k ih => rw [rowGo, timesStep_length, ih]
def allGo (a b : List (BitVec 64)) : Nat → List (BitVec 64)
  | 0 => List.replicate 10 0
  | i + 1 => rowGo a b i (allGo a b i) 5
theorem allGo_length (a b : List (BitVec 64)) (i : Nat) : (allGo a b i).length = 10 := by
  induction i with
  | zero => rfl
  | succ i ih => rw [allGo, rowGo_length, ih]
/-- The carry that comes to a limb. -/
def finC (l : List (BitVec 64)) : Nat → BitVec 64
  | 0 => 0#64
  | i + 1 => (l.getD (i * 2) 0 + add64C (l.getD (i * 2 + 1) 0) (finC l i) 0#64) <<< 13 ||| (l.getD (i * 2 + 1) 0 + finC l i + 0#64) >>> 51
def finO (l : List (BitVec 64)) (i : Nat) : BitVec 64 := (l.getD (i * 2 + 1) 0 + finC l i + 0#64) &&& 2251799813685247#64
def timesL (a b : List (BitVec 64)) : List (BitVec 64) :=
  let l := allGo a b 5
  carryL [finO l 0 + 19#64 * (finC l 5 &&& 2251799813685247#64), finO l 1 + 19#64 * (finC l 5 >>> 51), finO l 2, finO l 3, finO l 4]
def sumL : List (BitVec 64) → List (BitVec 64) → List (BitVec 64)
  | [a0, a1, a2, a3, a4], [b0, b1, b2, b3, b4] => carryL [a0 + b0, a1 + b1, a2 + b2, a3 + b3, a4 + b4]
  | l, _ => l
def lessL : List (BitVec 64) → List (BitVec 64) → List (BitVec 64)
  | [a0, a1, a2, a3, a4], [b0, b1, b2, b3, b4] => carryL [a0 + 4503599627370494#64 - b0 - 36#64, a1 + 4503599627370494#64 - b1, a2 + 4503599627370494#64 - b2, a3 + 4503599627370494#64 - b3, a4 + 4503599627370494#64 - b4]
  | l, _ => l
theorem carry1_length (l : List (BitVec 64)) : (carry1 l).length = l.length := by unfold carry1; split <;> rfl
@[simp] theorem carryL_length (l : List (BitVec 64)) : (carryL l).length = l.length := by unfold carryL; rw [carry1_length, carry1_length]
@[simp] theorem timesL_length (a b : List (BitVec 64)) : (timesL a b).length = 5 := by unfold timesL; rw [carryL_length]; rfl
theorem sumL_length {a b : List (BitVec 64)} (h : a.length = 5) (h' : b.length = 5) : (sumL a b).length = 5 := by
  unfold sumL; split
  · rw [carryL_length]; rfl
  · exact h
theorem lessL_length {a b : List (BitVec 64)} (h : a.length = 5) (h' : b.length = 5) : (lessL a b).length = 5 := by
  unfold lessL; split
  · rw [carryL_length]; rfl
  · exact h
theorem list5 {α : Type} (l : List α) (h : l.length = 5) : ∃ a b c d e, l = [a, b, c, d, e] := by
  match l, h with
  | [a, b, c, d, e], _ => exact ⟨a, b, c, d, e, rfl⟩
/-- One by a number. -/
def invGo (x : List (BitVec 64)) : Nat → List (BitVec 64)
  | 0 => [1#64, 0#64, 0#64, 0#64, 0#64]
  | j + 1 => if j = 252 ∨ j = 250 then timesL (invGo x j) (invGo x j) else timesL (timesL (invGo x j) (invGo x j)) x
theorem invGo_length (x : List (BitVec 64)) (j : Nat) : (invGo x j).length = 5 := by
  cases j with
  | zero => rfl
  | succ j => unfold invGo; split <;> exact timesL_length _ _
def invL (x : List (BitVec 64)) : List (BitVec 64) := invGo x 255
/-- A step of the ladder. -/
structure Lad where
  px : List (BitVec 64)
  pz : List (BitVec 64)
  qx : List (BitVec 64)
  qz : List (BitVec 64)
def stepL (px pz qx qz x1 : List (BitVec 64)) : Lad :=
  let a := sumL px pz
  let b := lessL px pz
  let c := sumL qx qz
  let d := lessL qx qz
  let da := timesL d a
  let cb := timesL c b
  let aa := timesL a a
  let bb := timesL b b
  let e := lessL aa bb
  let s := sumL da cb
  let t := lessL da cb
  ⟨timesL aa bb, timesL e (sumL aa (timesL [121665#64, 0#64, 0#64, 0#64, 0#64] e)), timesL s s, timesL x1 (timesL t t)⟩
/-- The bytes' bits in limbs, the first ones. -/
def rbit (u : List (BitVec 8)) (i : Nat) : BitVec 64 := ((u.getD (i / 8) 0 >>> (i % 8)) &&& 1#8).setWidth 64
def readGo (u : List (BitVec 8)) : Nat → List (BitVec 64)
  | 0 => List.replicate 5 0
  | i + 1 => (readGo u i).set (i / 51) ((readGo u i).getD (i / 51) 0 ||| rbit u i <<< (i % 51))
theorem readGo_length (u : List (BitVec 8)) (i : Nat) : (readGo u i).length = 5 := by
  induction i with
  | zero => rfl
  | succ i ih => rw [readGo, List.length_set, ih]
def readL (u : List (BitVec 8)) : List (BitVec 64) := readGo u 255
def wbit (e : List (BitVec 64)) (i : Nat) : BitVec 8 := ((e.getD (i / 51) 0 >>> (i % 51)) &&& 1#64).setWidth 8
def writeGo (e : List (BitVec 64)) : Nat → List (BitVec 8)
  | 0 => List.replicate 32 0
  | i + 1 => (writeGo e i).set (i / 8) ((writeGo e i).getD (i / 8) 0 ||| wbit e i <<< (i % 8))
theorem writeGo_length (e : List (BitVec 64)) (i : Nat) : (writeGo e i).length = 32 := by
  induction i with
  | zero => rfl
  | succ i ih => rw [writeGo, List.length_set, ih]
/-- A number that is p or above comes round. -/
def over1 : List (BitVec 64) → List (BitVec 64) × BitVec 64
  | [a0, a1, a2, a3, a4] =>
    let s0 := a0 + 19#64
    let s1 := a1 + s0 >>> 51
    let s2 := a2 + s1 >>> 51
    let s3 := a3 + s2 >>> 51
    let s4 := a4 + s3 >>> 51
    ([s0 &&& 2251799813685247#64, s1 &&& 2251799813685247#64, s2 &&& 2251799813685247#64, s3 &&& 2251799813685247#64, s4 &&& 2251799813685247#64], s4 >>> 51)
  | l => (l, 0)
def wholeL (e : List (BitVec 64)) : List (BitVec 64) := if (0#64).toNat < (over1 (carryL e)).2.toNat then (over1 (carryL e)).1 else carryL e
def bytesE (e : List (BitVec 64)) : List (BitVec 8) := writeGo (wholeL e) 255
@[simp] theorem bytesE_length (e : List (BitVec 64)) : (bytesE e).length = 32 := writeGo_length _ _
def clampL (k : List (BitVec 8)) : List (BitVec 8) := (k.set 0 (k.getD 0 0 &&& ~~~7#8)).set 31 ((k.set 0 (k.getD 0 0 &&& ~~~7#8)).getD 31 0 &&& ~~~128#8 ||| 64#8)
theorem clampL_length (k : List (BitVec 8)) : (clampL k).length = k.length := by simp [clampL]
def kbit (k : List (BitVec 8)) (j : Nat) : Bool := ((k.getD ((254 - j) / 8) 0 >>> ((254 - j) % 8)) &&& 1#8) == 0#8
def ladGo (k : List (BitVec 8)) (x1 : List (BitVec 64)) : Nat → Lad
  | 0 => ⟨[1#64, 0#64, 0#64, 0#64, 0#64], [0#64, 0#64, 0#64, 0#64, 0#64], x1, [1#64, 0#64, 0#64, 0#64, 0#64]⟩
  | j + 1 =>
    let s := ladGo k x1 j
    if kbit k j then stepL s.px s.pz s.qx s.qz x1
    else let t := stepL s.qx s.qz s.px s.pz x1; ⟨t.qx, t.qz, t.px, t.pz⟩
def multL (k u : List (BitVec 8)) : List (BitVec 8) :=
  let s := ladGo (clampL k) (readL u) 255
  bytesE (timesL s.px (invL s.pz))
@[simp] theorem multL_length (k u : List (BitVec 8)) : (multL k u).length = 32 := bytesE_length _
structure LadLen (s : Lad) : Prop where
  px : s.px.length = 5
  pz : s.pz.length = 5
  qx : s.qx.length = 5
  qz : s.qz.length = 5
theorem stepL_len (px pz qx qz x1 : List (BitVec 64)) : LadLen (stepL px pz qx qz x1) := ⟨timesL_length _ _, timesL_length _ _, timesL_length _ _, timesL_length _ _⟩
theorem ladGo_len (k : List (BitVec 8)) {x1 : List (BitVec 64)} (h : x1.length = 5) (j : Nat) : LadLen (ladGo k x1 j) := by
  cases j with
  | zero => exact ⟨rfl, rfl, h, rfl⟩
  | succ j =>
    simp only [ladGo]
    split
    · exact stepL_len _ _ _ _ _
    · obtain ⟨h1, h2, h3, h4⟩ := stepL_len (ladGo k x1 j).qx (ladGo k x1 j).qz (ladGo k x1 j).px (ladGo k x1 j).pz x1
      exact ⟨h3, h4, h1, h2⟩
theorem add64C_le (a b : BitVec 64) {c : BitVec 64} (hc : c.toNat ≤ 1) : (add64C a b c).toNat ≤ 1 := by
  have := a.isLt
  have := b.isLt
  unfold add64C
  rw [BitVec.toNat_ofNat]
  omega
def carN (l : List (BitVec 64)) : Nat → List (BitVec 64)
  | 0 => l
  | k + 1 => carry1 (carN l k)
theorem carN_length (l : List (BitVec 64)) (k : Nat) : (carN l k).length = l.length := by
  induction k with
  | zero => rfl
  | succ k ih => rw [carN, carry1_length, ih]
theorem rowGo_pos {a b l : List (BitVec 64)} {i k : Nat} (h : i + k < 5) : waddAt (rowGo a b i l k) ((i + k) * 2) (a.getD i 0) (b.getD k 0) = rowGo a b i l (k + 1) := by
  show _ = timesStep _ _ _ _ _
  unfold timesStep; rw [if_pos h]
theorem rowGo_neg {a b l : List (BitVec 64)} {i k : Nat} (h : ¬ i + k < 5) : waddAt (rowGo a b i l k) ((i + k - 5) * 2) (19#64 * a.getD i 0) (b.getD k 0) = rowGo a b i l (k + 1) := by
  show _ = timesStep _ _ _ _ _
  unfold timesStep; rw [if_neg h]
theorem invGo_sq {x : List (BitVec 64)} {j : Nat} (h : j = 252 ∨ j = 250) : timesL (invGo x j) (invGo x j) = invGo x (j + 1) := by
  show _ = if j = 252 ∨ j = 250 then _ else _
  rw [if_pos h]
theorem invGo_mul {x : List (BitVec 64)} {j : Nat} (h : ¬ (j = 252 ∨ j = 250)) : timesL (timesL (invGo x j) (invGo x j)) x = invGo x (j + 1) := by
  show _ = if j = 252 ∨ j = 250 then _ else _
  rw [if_neg h]
theorem ladGo_t {k : List (BitVec 8)} {x1 : List (BitVec 64)} {j : Nat} (h : kbit k j = true) : ladGo k x1 (j + 1) = stepL (ladGo k x1 j).px (ladGo k x1 j).pz (ladGo k x1 j).qx (ladGo k x1 j).qz x1 := by
  show (if kbit k j then _ else _) = _
  rw [if_pos h]
theorem ladGo_f {k : List (BitVec 8)} {x1 : List (BitVec 64)} {j : Nat} (h : kbit k j = false) : ladGo k x1 (j + 1) = ⟨(stepL (ladGo k x1 j).qx (ladGo k x1 j).qz (ladGo k x1 j).px (ladGo k x1 j).pz x1).qx, (stepL (ladGo k x1 j).qx (ladGo k x1 j).qz (ladGo k x1 j).px (ladGo k x1 j).pz x1).qz, (stepL (ladGo k x1 j).qx (ladGo k x1 j).qz (ladGo k x1 j).px (ladGo k x1 j).pz x1).px, (stepL (ladGo k x1 j).qx (ladGo k x1 j).qz (ladGo k x1 j).px (ladGo k x1 j).pz x1).pz⟩ := by
  show (if kbit k j then _ else _) = _
  rw [if_neg (by rw [h]; decide)]
theorem over1_length {l : List (BitVec 64)} (h : l.length = 5) : (over1 l).1.length = 5 := by
  obtain ⟨a, b, c, d, e, rfl⟩ := list5 l h; rfl
theorem wholeL_length {e : List (BitVec 64)} (h : e.length = 5) : (wholeL e).length = 5 := by
  unfold wholeL; split
  · exact over1_length (by rw [carryL_length, h])
  · rw [carryL_length, h]
theorem filled5 {α : Type} (g : Nat → α) (z : α) : filled g z 5 5 = [g 0, g 1, g 2, g 3, g 4] := rfl
theorem invGo_zero (x : List (BitVec 64)) : invGo x 0 = [1#64, 0#64, 0#64, 0#64, 0#64] := rfl
theorem ladGo_zero (k : List (BitVec 8)) (x1 : List (BitVec 64)) : ladGo k x1 0 = ⟨[1#64, 0#64, 0#64, 0#64, 0#64], [0#64, 0#64, 0#64, 0#64, 0#64], x1, [1#64, 0#64, 0#64, 0#64, 0#64]⟩ := rfl
theorem writeGo_zero (e : List (BitVec 64)) : writeGo e 0 = List.replicate 32 0 := rfl
theorem writeGo_succ (e : List (BitVec 64)) (i : Nat) : writeGo e (i + 1) = (writeGo e i).set (i / 8) ((writeGo e i).getD (i / 8) 0 ||| wbit e i <<< (i % 8)) := rfl
@[simp] theorem invL_length (x : List (BitVec 64)) : (invL x).length = 5 := invGo_length x 255


end Go.Proofs.YtmiagmbgfhakgaaDoor

