/- The curve: both ladders reckon one product. Conditions: none beyond those that each theorem states. -/
import Derived.Test.YtkmiemlpfkfiiaaDoorTab
import Derived.Test.YtkmiemlpfkfiiaaDoorCuO
namespace Go.Proofs.YtkmiemlpfkfiiaaDoor
open BitVec renaming eq_of_toNat_eq → dG, ofInt → aB, ofNat → aV, toNat_add → eP, toNat_ofInt → bU, toNat_ofNat → dP
open Int renaming mul_ediv_add_emod → dS, natCast_emod → dH
open List renaming getD_eq_getElem?_getD → aI, length_cons → au, range → bP
open Nat renaming le_refl → di, lt_or_ge → ay, mod_eq_of_lt → ah
set_option linter.unusedVariables false
set_option linter.unusedSimpArgs false
def Cg (x y : Int) : Prop := ∃ k : Int, x = y + k * pC
theorem Cg.refl (x : Int) : Cg x x := ⟨0, by simp⟩
theorem Cg.trans {x y z : Int} (h : Cg x y) (g : Cg y z) : Cg x z := by
 obtain ⟨k, rfl⟩ := h; obtain ⟨m, rfl⟩ := g; exact ⟨m + k, by rw [Int.add_mul, Int.add_assoc]⟩
theorem Cg.symm {x y : Int} (h : Cg x y) : Cg y x := by
 obtain ⟨k, rfl⟩ := h; exact ⟨-k, by rw [Int.neg_mul]; omega⟩
theorem Cg.emod {x y : Int} (h : Cg x y) : x % pC = y % pC := by
 obtain ⟨k, rfl⟩ := h; exact Int.add_mul_emod_self_right _ _ _
theorem Qri {x y : Int} (h : x % pC = y % pC) : Cg x y := ⟨x / pC - y / pC, by
 have h1 := dS x pC
 have h2 := dS y pC
 rw [Int.sub_mul, Int.mul_comm (x / pC), Int.mul_comm (y / pC)]; omega⟩
theorem Qfg (x : Int) : Cg (x % pC) x := Qri (Int.emod_emod_of_dvd x (Int.dvd_refl pC))
theorem Cg.add {x y z w : Int} (h : Cg x y) (g : Cg z w) : Cg (x + z) (y + w) := by
 obtain ⟨k, rfl⟩ := h; obtain ⟨m, rfl⟩ := g; exact ⟨k + m, by rw [Int.add_mul]; omega⟩
theorem Cg.sub {x y z w : Int} (h : Cg x y) (g : Cg z w) : Cg (x - z) (y - w) := by
 obtain ⟨k, rfl⟩ := h; obtain ⟨m, rfl⟩ := g; exact ⟨k - m, by rw [Int.sub_mul]; omega⟩
theorem Cg.mul {x y z w : Int} (h : Cg x y) (g : Cg z w) : Cg (x * z) (y * w) := by
 obtain ⟨k, rfl⟩ := h; obtain ⟨m, rfl⟩ := g; exact ⟨y * m + k * w + k * m * pC, by grind⟩
def wv (l : List (BitVec 64)) (n : Nat) : Nat := (l.getD (n * 2 + 0) 0).toNat * 18446744073709551616 + (l.getD (n * 2 + 1) 0).toNat
theorem Qne {l : List (BitVec 64)} {i : Nat} {x : BitVec 64} (h : i < l.length) : (l.set i x).getD i 0 = x := by simp [aI, h]
theorem Qci {l : List (BitVec 64)} {i j : Nat} {x : BitVec 64} (h : i ≠ j) : (l.set i x).getD j 0 = l.getD j 0 := by simp [aI, h]
theorem wide_add {hi lo p m r c : Nat} (hm : m = p / 18446744073709551616) (hr : r = p % 18446744073709551616) (hc : c = (lo + r) / 18446744073709551616) (hlo : lo < 18446744073709551616) (h : hi * 18446744073709551616 + lo + p < 340282366920938463463374607431768211456) :
  hi + m < 18446744073709551616 ∧ hi + m + c < 18446744073709551616 ∧ (hi + m + c) * 18446744073709551616 + (lo + r) % 18446744073709551616 = hi * 18446744073709551616 + lo + p := by omega
theorem Qg3 {l : List (BitVec 64)} {n : Nat} {x y : BitVec 64} (hl : l.length = 10) (hn : n < 5) (h : wv l n + x.toNat * y.toNat < 340282366920938463463374607431768211456) : wv (Dh l (n * 2) x y) n = wv l n + x.toNat * y.toNat := by
 have e1 : (Dh l (n * 2) x y).getD (n * 2 + 0) 0 = l.getD (n * 2 + 0) 0 + Qaz x y + V8 (l.getD (n * 2 + 1) 0) (x * y) 0#64 := by
  unfold Dh
  rw [Qne (by simp; omega), Qci oM]
 have e2 : (Dh l (n * 2) x y).getD (n * 2 + 1) 0 = l.getD (n * 2 + 1) 0 + x * y + 0#64 := by
  unfold Dh
  rw [Qci oM, Qne oM]
 unfold wv at h ⊢
 rw [e1, e2]
 generalize l.getD (n * 2 + 0) 0 = hi at *
 generalize l.getD (n * 2 + 1) 0 = lo at *
 have hx := x.isLt
 have hy := y.isLt
 have hP : x.toNat * y.toNat ≤ 18446744073709551615 * 18446744073709551615 := Nat.mul_le_mul oM oM
 have hm : (Qaz x y).toNat = x.toNat * y.toNat / 18446744073709551616 := by
  unfold Qaz; rw [dP]; exact ah oM
 have hr : (x * y).toNat = x.toNat * y.toNat % 18446744073709551616 := by rw [BitVec.toNat_mul]
 have hlo := lo.isLt
 have hc : (V8 lo (x * y) 0#64).toNat = (lo.toNat + (x * y).toNat) / 18446744073709551616 := by
  have := (x * y).isLt
  unfold V8; rw [dP]
  have e0 : (0#64).toNat = 0 := rfl
  rw [e0, Nat.add_zero]; exact ah oM
 obtain ⟨k1, k2, k3⟩ := wide_add (hi := hi.toNat) (lo := lo.toNat) (p := x.toNat * y.toNat) hm hr hc hlo h
 have l1 : (hi + Qaz x y).toNat = hi.toNat + (Qaz x y).toNat := En k1
 have l2 : (hi + Qaz x y + V8 lo (x * y) 0#64).toNat = hi.toNat + (Qaz x y).toNat + (V8 lo (x * y) 0#64).toNat := by rw [En (by rw [l1]; exact k2), l1]
 have l3 : (lo + x * y + 0#64).toNat = (lo.toNat + (x * y).toNat) % 18446744073709551616 := by
  have e : lo + x * y + 0#64 = lo + x * y := by simp
  rw [e, eP]
 rw [l2, l3]; exact k3
theorem Qmj {l : List (BitVec 64)} {n m : Nat} {x y : BitVec 64} (h : n ≠ m) : wv (Dh l (n * 2) x y) m = wv l m := by
 unfold wv Dh
 rw [Qci oM, Qci oM, Qci oM, Qci oM]
def w51 (n : Nat) : Int := 2251799813685248 ^ n
def VW (l : List (BitVec 64)) : Int := (wv l 0 : Int) + 2251799813685248 * (wv l 1 : Int) + 5070602400912917605986812821504 * (wv l 2 : Int) + 11417981541647679048466287755595961091061972992 * (wv l 3 : Int) + 25711008708143844408671393477458601640355247900524685364822016 * (wv l 4 : Int)
theorem Qs9 {l : List (BitVec 64)} {n : Nat} {x y : BitVec 64} (hl : l.length = 10) (hn : n < 5) (h : wv l n + x.toNat * y.toNat < 340282366920938463463374607431768211456) : VW (Dh l (n * 2) x y) = VW l + (x.toNat * y.toNat : Nat) * w51 n := by
 have e := Qg3 hl hn h
 have ne : ∀ m, n ≠ m → wv (Dh l (n * 2) x y) m = wv l m := fun m hm => Qmj hm
 have hc : n = 0 ∨ n = 1 ∨ n = 2 ∨ n = 3 ∨ n = 4 := by omega
 unfold VW
 rcases hc with rfl | rfl | rfl | rfl | rfl
 ·rw [e, ne 1 Yx, ne 2 Yx, ne 3 Yx, ne 4 Yx]; simp only [w51]; omega
 ·rw [e, ne 0 Yx, ne 2 Yx, ne 3 Yx, ne 4 Yx]; simp only [w51]; omega
 ·rw [e, ne 0 Yx, ne 1 Yx, ne 3 Yx, ne 4 Yx]; simp only [w51]; omega
 ·rw [e, ne 0 Yx, ne 1 Yx, ne 2 Yx, ne 4 Yx]; simp only [w51]; omega
 rw [e, ne 0 Yx, ne 1 Yx, ne 2 Yx, ne 3 Yx]; simp only [w51]; omega
def Sm (l : List (BitVec 64)) : Prop := ∀ i, (l.getD i 0).toNat < 2251799813685248
theorem Qmk (i k : Nat) : w51 (i + k) = w51 i * w51 k := Int.pow_add _ _ _
theorem w51_5 : 19 * 1 + pC = w51 5 := by decide
theorem cg_w51 {i k : Nat} (h : ¬ i + k < 5) : Cg (19 * w51 (i + k - 5)) (w51 (i + k)) := by
 have e : i + k = 5 + (i + k - 5) := by omega
 generalize i + k - 5 = m at *
 rw [e, Qmk, ← w51_5]
 exact ⟨-(w51 m), by grind⟩
theorem prod_lt {a b : Nat} (ha : a < 2251799813685248) (hb : b < 2251799813685248) : a * b ≤ 5070602400912913102387185451009 := Nat.le_trans (Nat.mul_le_mul (Nat.le_of_lt_succ ha) (Nat.le_of_lt_succ hb)) Yx
theorem step_val {a b l : List (BitVec 64)} (ha : Sm a) (hb : Sm b) {i k : Nat} (hi : i < 5) (hk : k < 5) {M : Nat} (hl : l.length = 10) (hM : ∀ n, wv l n ≤ M) (hMM : M ≤ 4000000000000000000000000000000000) :
  (∀ n, wv (Be a b l i k) n ≤ M + 96341445617345348945356523569171) ∧ Cg (VW (Be a b l i k)) (VW l + ((a.getD i 0).toNat : Int) * w51 i * (((b.getD k 0).toNat : Int) * w51 k)) := by
 have hp := prod_lt (ha i) (hb k)
 unfold Be
 split
 ·rename_i h
  have hw := hM (i + k)
  refine ⟨fun n => ?_, ?_⟩
  ·by_cases hn : i + k = n
   ·subst hn; rw [Qg3 hl h oM]; omega
   rw [Qmj hn]; have := hM n; omega
  rw [Qs9 hl h oM, Qmk]
  refine ⟨0, ?_⟩
  simp only [Int.natCast_mul]; grind
 rename_i h
 have hw := hM (i + k - 5)
 have e19 : (19#64 * a.getD i 0).toNat = 19 * (a.getD i 0).toNat := Qfq (by have := ha i; omega)
 have hp2 : (19#64 * a.getD i 0).toNat * (b.getD k 0).toNat = 19 * ((a.getD i 0).toNat * (b.getD k 0).toNat) := by rw [e19, Nat.mul_assoc]
 refine ⟨fun n => ?_, ?_⟩
 ·by_cases hn : i + k - 5 = n
  ·rw [← hn, Qg3 hl oM (by rw [hp2]; omega), hp2]; omega
  rw [Qmj hn]; have := hM n; omega
 rw [Qs9 hl oM (by rw [hp2]; omega), hp2]
 have h2 := (Cg.refl (VW l)).add ((Cg.refl (((a.getD i 0).toNat : Int) * ((b.getD k 0).toNat : Int))).mul (cg_w51 h))
 have e1 : ((19 * ((a.getD i 0).toNat * (b.getD k 0).toNat) : Nat) : Int) * w51 (i + k - 5) = ((a.getD i 0).toNat : Int) * ((b.getD k 0).toNat : Int) * (19 * w51 (i + k - 5)) := by
  simp only [Int.natCast_mul]; grind
 have e2 : ((a.getD i 0).toNat : Int) * ((b.getD k 0).toNat : Int) * w51 (i + k) = ((a.getD i 0).toNat : Int) * w51 i * (((b.getD k 0).toNat : Int) * w51 k) := by rw [Qmk]; grind
 rw [e1, ← e2]; exact h2
def pv (b : List (BitVec 64)) : Nat → Int
 | 0 => 0
 | k + 1 => pv b k + ((b.getD k 0).toNat : Int) * w51 k
theorem row_val {a b l : List (BitVec 64)} (ha : Sm a) (hb : Sm b) {i : Nat} (hi : i < 5) {M : Nat} (hl : l.length = 10) (hM : ∀ n, wv l n ≤ M) (hMM : M ≤ 3000000000000000000000000000000000) : ∀ k, k ≤ 5 →
  (∀ n, wv (Ro a b i l k) n ≤ M + k * 96341445617345348945356523569171) ∧ Cg (VW (Ro a b i l k)) (VW l + ((a.getD i 0).toNat : Int) * w51 i * pv b k) := by
 intro k
 induction k with
 | zero => intro _; exact ⟨fun n => by simpa [Ro] using hM n, by simp only [Ro, pv, Int.mul_zero, Int.add_zero]; exact Cg.refl _⟩
 | succ k ih =>
  intro hk
  obtain ⟨h1, h2⟩ := ih oM
  obtain ⟨h3, h4⟩ := step_val ha hb hi (show k < 5 by omega) (by rw [Qca, hl]) h1 oM
  refine ⟨fun n => by have := h3 n; simp only [Ro]; omega, ?_⟩
  simp only [Ro, pv]
  refine h4.trans ?_
  rw [Int.mul_add, ← Int.add_assoc]
  exact h2.add (Cg.refl _)
theorem all_val {a b : List (BitVec 64)} (ha : Sm a) (hb : Sm b) : ∀ i, i ≤ 5 → (∀ n, wv (Ub a b i) n ≤ i * 481707228086726744726782617845855) ∧ Cg (VW (Ub a b i)) (pv a i * pv b 5) := by
 intro i
 induction i with
 | zero =>
  intro _
  have e : ∀ n, wv (Ub a b 0) n = 0 := by
   intro n
   have g : ∀ j, (Ub a b 0).getD j 0 = 0#64 := by
    intro j; simp only [Ub, aI, List.getElem?_replicate]; split <;> rfl
   unfold wv; rw [g, g]; rfl
  refine ⟨fun n => by rw [e]; omega, ?_⟩
  unfold VW; rw [e, e, e, e, e]; simp only [pv, Int.zero_mul]; exact Cg.refl _
 | succ i ih =>
  intro hi
  obtain ⟨h1, h2⟩ := ih oM
  obtain ⟨h3, h4⟩ := row_val ha hb (show i < 5 by omega) (Qg0 a b i) h1 oM 5 oM
  refine ⟨fun n => by have := h3 n; simp only [Ub]; omega, ?_⟩
  simp only [Ub, pv]
  refine h4.trans ?_
  rw [Int.add_mul]
  exact h2.add (Cg.refl _)
theorem fin_nat {hi lo c h1 l1 : Nat} (hhi : hi < 1125899906842624) (hlo : lo < 18446744073709551616) (hc : c < 18446744073709551616) (hl1 : l1 = (lo + c) % 18446744073709551616) (hh1 : h1 = hi + (lo + c) / 18446744073709551616) :
  h1 * 8192 + l1 / 2251799813685248 < 18446744073709551616 ∧ (hi * 18446744073709551616 + lo + c) % 2251799813685248 = l1 % 2251799813685248 ∧ (hi * 18446744073709551616 + lo + c) / 2251799813685248 = h1 * 8192 + l1 / 2251799813685248 := by omega
theorem shl_or {h l : BitVec 64} (h1 : h.toNat * 8192 < 18446744073709551616) : (h <<< 13 ||| l >>> 51).toNat = h.toNat * 8192 + l.toNat / 2251799813685248 := by
 have e1 : (h <<< 13).toNat = h.toNat <<< 13 := by
  rw [BitVec.toNat_shiftLeft, Nat.shiftLeft_eq]; exact ah (by simpa using h1)
 have e2 : l.toNat / 2251799813685248 < 2 ^ 13 := by have := l.isLt; omega
 rw [BitVec.toNat_or, e1, Qmq, ← Nat.shiftLeft_add_eq_or_of_lt e2, Nat.shiftLeft_eq]
theorem Qdm {l : List (BitVec 64)} {i : Nat} (h : wv l i < 20769187434139310514121985316880384) :
  (Dq l i).toNat = (wv l i + (Dt l i).toNat) % 2251799813685248 ∧ (Dt l (i + 1)).toNat = (wv l i + (Dt l i).toNat) / 2251799813685248 := by
 have ew : wv l i = (l.getD (i * 2) 0).toNat * 18446744073709551616 + (l.getD (i * 2 + 1) 0).toNat := rfl
 rw [ew] at h ⊢
 show ((l.getD (i * 2 + 1) 0 + Dt l i + 0#64) &&& 2251799813685247#64).toNat = _ ∧ ((l.getD (i * 2) 0 + V8 (l.getD (i * 2 + 1) 0) (Dt l i) 0#64) <<< 13 ||| (l.getD (i * 2 + 1) 0 + Dt l i + 0#64) >>> 51).toNat = _
 generalize l.getD (i * 2) 0 = hi at *
 generalize l.getD (i * 2 + 1) 0 = lo at *
 generalize Dt l i = c at *
 have hlo := lo.isLt
 have hc := c.isLt
 have hh : hi.toNat < 1125899906842624 := by omega
 have e0 : lo + c + 0#64 = lo + c := by simp
 have l1 : (lo + c).toNat = (lo.toNat + c.toNat) % 18446744073709551616 := by rw [eP]
 have k1 : (V8 lo c 0#64).toNat = (lo.toNat + c.toNat) / 18446744073709551616 := by
  unfold V8; rw [dP]
  have e0 : (0#64).toNat = 0 := rfl
  rw [e0, Nat.add_zero]; exact ah oM
 have h1 : (hi + V8 lo c 0#64).toNat = hi.toNat + (lo.toNat + c.toNat) / 18446744073709551616 := by rw [En (by rw [k1]; omega), k1]
 obtain ⟨q1, q2, q3⟩ := fin_nat hh hlo hc l1 h1
 have hsh := shl_or (h := hi + V8 lo c 0#64) (l := lo + c) (Nat.lt_of_le_of_lt (Nat.le_add_right _ _) q1)
 rw [e0, Qiu, hsh, q2, q3]
 exact ⟨rfl, rfl⟩
theorem Qgi {w c d o : Nat} (h : o = (w + c) % 2251799813685248) (g : d = (w + c) / 2251799813685248) : (w : Int) = 2251799813685248 * (d : Int) + o - c := by omega
theorem Rep.sm {l : List (BitVec 64)} {x : Int} (h : Rep l x) : Sm l := by
 obtain ⟨a0, a1, a2, a3, a4, rfl, h0, h1, h2, h3, h4⟩ := h.is
 intro i
 match i with
 | 0 => exact h0
 | 1 => exact h1
 | 2 => exact h2
 | 3 => exact h3
 | 4 => exact h4
 | n + 5 => simp [aI]
theorem Rep.len {l : List (BitVec 64)} {x : Int} (h : Rep l x) : l.length = 5 := by
 obtain ⟨a0, a1, a2, a3, a4, rfl, _⟩ := h.is; rfl
theorem pv5 {l : List (BitVec 64)} (h : l.length = 5) : pv l 5 = Qad l := by
 obtain ⟨a0, a1, a2, a3, a4, rfl⟩ := Qew l h
 simp only [pv, w51, Qad, List.getD_cons_zero, List.getD_cons_succ]
 omega
theorem fin_id {v0 v1 v2 v3 v4 : Nat} {d0 d1 d2 d3 d4 d5 p0 p1 p2 p3 p4 h l : Nat} (q0 : (v0 : Int) = 2251799813685248 * (d1 : Int) + p0 - d0) (q1 : (v1 : Int) = 2251799813685248 * (d2 : Int) + p1 - d1) (q2 : (v2 : Int) = 2251799813685248 * (d3 : Int) + p2 - d2) (q3 : (v3 : Int) = 2251799813685248 * (d4 : Int) + p3 - d3) (q4 : (v4 : Int) = 2251799813685248 * (d5 : Int) + p4 - d4)
  (z : (d0 : Int) = 0) (hd : (d5 : Int) = 2251799813685248 * (h : Int) + l) :
  ((p0 + 19 * l : Nat) : Int) + 2251799813685248 * ((p1 + 19 * h : Nat) : Int) + 5070602400912917605986812821504 * (p2 : Int) + 11417981541647679048466287755595961091061972992 * (p3 : Int) + 25711008708143844408671393477458601640355247900524685364822016 * (p4 : Int) =
  ((v0 : Int) + 2251799813685248 * (v1 : Int) + 5070602400912917605986812821504 * (v2 : Int) + 11417981541647679048466287755595961091061972992 * (v3 : Int) + 25711008708143844408671393477458601640355247900524685364822016 * (v4 : Int)) + -(d5 : Int) * pC := by
 rw [q0, q1, q2, q3, q4, z]
 unfold pC
 simp only [Int.natCast_add, Int.natCast_mul]
 have e : ((19 : Nat) : Int) = 19 := rfl
 rw [e]
 grind
theorem lim19 {a b : Nat} (ha : a < 2251799813685248) (hb : b < 2251799813685248) : a + 19 * b < 9223372036854775808 := by omega
theorem lim19' {a b : Nat} (ha : a < 2251799813685248) (hb : b < 18446744073709551616) : a + 19 * (b / 2251799813685248) < 9223372036854775808 := by omega
theorem Qo0 {o t : Nat} (h : o = t % 2251799813685248) : o < 2251799813685248 := by omega
theorem U3 {a b : List (BitVec 64)} {x y : Int} (ha : Rep a x) (hb : Rep b y) : Rep (Qm a b) (x * y % pC) := by
 obtain ⟨hw, hv⟩ := all_val ha.sm hb.sm 5 oM
 rw [pv5 ha.len, pv5 hb.len] at hv
 have hW : ∀ n, wv (Ub a b 5) n < 20769187434139310514121985316880384 := fun n => by have := hw n; omega
 obtain ⟨o0, c1⟩ := Qdm (hW 0)
 obtain ⟨o1, c2⟩ := Qdm (hW 1)
 obtain ⟨o2, c3⟩ := Qdm (hW 2)
 obtain ⟨o3, c4⟩ := Qdm (hW 3)
 obtain ⟨o4, c5⟩ := Qdm (hW 4)
 have q0 := Qgi o0 c1
 have q1 := Qgi o1 c2
 have q2 := Qgi o2 c3
 have q3 := Qgi o3 c4
 have q4 := Qgi o4 c5
 have z0 : (Dt (Ub a b 5) 0).toNat = 0 := rfl
 have b0 := Qo0 o0
 have b1 := Qo0 o1
 have b2 := Qo0 o2
 have b3 := Qo0 o3
 have b4 := Qo0 o4
 have hC := (Dt (Ub a b 5) 5).isLt
 unfold VW at hv
 show Rep (Eb [Dq (Ub a b 5) 0 + 19#64 * (Dt (Ub a b 5) 5 &&& 2251799813685247#64), Dq (Ub a b 5) 1 + 19#64 * (Dt (Ub a b 5) 5 >>> 51), Dq (Ub a b 5) 2, Dq (Ub a b 5) 3, Dq (Ub a b 5) 4]) _
 clear o0 o1 o2 o3 o4 c1 c2 c3 c4 c5 hw hW
 generalize Dq (Ub a b 5) 0 = p0 at *
 generalize Dq (Ub a b 5) 1 = p1 at *
 generalize Dq (Ub a b 5) 2 = p2 at *
 generalize Dq (Ub a b 5) 3 = p3 at *
 generalize Dq (Ub a b 5) 4 = p4 at *
 generalize Dt (Ub a b 5) 0 = d0 at *
 generalize Dt (Ub a b 5) 1 = d1 at *
 generalize Dt (Ub a b 5) 2 = d2 at *
 generalize Dt (Ub a b 5) 3 = d3 at *
 generalize Dt (Ub a b 5) 4 = d4 at *
 generalize Dt (Ub a b 5) 5 = d5 at *
 generalize wv (Ub a b 5) 0 = v0 at *
 generalize wv (Ub a b 5) 1 = v1 at *
 generalize wv (Ub a b 5) 2 = v2 at *
 generalize wv (Ub a b 5) 3 = v3 at *
 generalize wv (Ub a b 5) 4 = v4 at *
 have m1 : (19#64 * (d5 &&& 2251799813685247#64)).toNat = 19 * (d5.toNat % 2251799813685248) := by rw [Qfq (by rw [Qiu]; omega), Qiu]
 have m2 : (19#64 * (d5 >>> 51)).toNat = 19 * (d5.toNat / 2251799813685248) := by rw [Qfq (by rw [Qmq]; omega), Qmq]
 have s0 : (p0 + 19#64 * (d5 &&& 2251799813685247#64)).toNat = p0.toNat + 19 * (d5.toNat % 2251799813685248) := by rw [En (by rw [m1]; omega), m1]
 have s1 : (p1 + 19#64 * (d5 >>> 51)).toNat = p1.toNat + 19 * (d5.toNat / 2251799813685248) := by rw [En (by rw [m2]; omega), m2]
 have hr := Qcn (a0 := p0 + 19#64 * (d5 &&& 2251799813685247#64)) (a1 := p1 + 19#64 * (d5 >>> 51)) (a2 := p2) (a3 := p3) (a4 := p4) (by rw [s0]; exact lim19 b0 (Nat.mod_lt _ Yx)) (by rw [s1]; exact lim19' b1 hC) (Qiq b2) (Qiq b3) (Qiq b4)
 refine ⟨hr.is, hr.val.trans ?_⟩
 have hxy : Cg (Qad a * Qad b) (x * y) := by
  have h1 : Cg (Qad a) x := by rw [← ha.val]; exact (Qfg _).symm
  have h2 : Cg (Qad b) y := by rw [← hb.val]; exact (Qfg _).symm
  exact h1.mul h2
 refine Cg.emod ?_
 refine Cg.trans ?_ (hv.trans hxy)
 refine ⟨-(d5.toNat : Int), ?_⟩
 have hd : (d5.toNat : Int) = 2251799813685248 * ((d5.toNat / 2251799813685248 : Nat) : Int) + ((d5.toNat % 2251799813685248 : Nat) : Int) := by omega
 simp only [Qad]
 rw [s0, s1]
 exact fin_id q0 q1 q2 q3 q4 (by rw [z0]; rfl) hd
theorem Qf2 {a b : List (BitVec 64)} {x y : Int} (ha : Rep a x) (hb : Rep b y) : Rep (Zy a b) ((x + y) % pC) := by
 have hc : Cg (Qad a + Qad b) (x + y) := by
  have h1 : Cg (Qad a) x := by rw [← ha.val]; exact (Qfg _).symm
  have h2 : Cg (Qad b) y := by rw [← hb.val]; exact (Qfg _).symm
  exact h1.add h2
 obtain ⟨a0, a1, a2, a3, a4, rfl, k0, k1, k2, k3, k4⟩ := ha.is
 obtain ⟨b0, b1, b2, b3, b4, rfl, m0, m1, m2, m3, m4⟩ := hb.is
 have s : ∀ {p q : BitVec 64}, p.toNat < 2251799813685248 → q.toNat < 2251799813685248 → (p + q).toNat = p.toNat + q.toNat := fun hp hq => En oM
 have hr := Qcn (a0 := a0 + b0) (a1 := a1 + b1) (a2 := a2 + b2) (a3 := a3 + b3) (a4 := a4 + b4) (by rw [s k0 m0]; omega) (by rw [s k1 m1]; omega) (by rw [s k2 m2]; omega) (by rw [s k3 m3]; omega) (by rw [s k4 m4]; omega)
 refine ⟨hr.is, hr.val.trans (Cg.emod (Cg.trans ⟨0, ?_⟩ hc))⟩
 simp only [Qad]
 rw [s k0 m0, s k1 m1, s k2 m2, s k3 m3, s k4 m4]
 simp only [Int.natCast_add]
 grind
theorem Qbb {p q : BitVec 64} (hp : p.toNat < 2251799813685248) (hq : q.toNat < 2251799813685248) : (p + 4503599627370494#64 - q).toNat = p.toNat + 4503599627370494 - q.toNat := by
 have e : (p + 4503599627370494#64).toNat = p.toNat + 4503599627370494 := En (by show p.toNat + 4503599627370494 < _; omega)
 rw [BitVec.toNat_sub, e]; omega
theorem sub36 {p : BitVec 64} (h : 36 ≤ p.toNat) : (p - 36#64).toNat = p.toNat - 36 := by
 have := p.isLt
 rw [BitVec.toNat_sub]
 have e : (36#64).toNat = 36 := rfl
 rw [e]; omega
theorem less_id {a0 a1 a2 a3 a4 b0 b1 b2 b3 b4 : Nat} (m0 : b0 < 2251799813685248) (m1 : b1 < 2251799813685248) (m2 : b2 < 2251799813685248) (m3 : b3 < 2251799813685248) (m4 : b4 < 2251799813685248) :
  ((a0 + 4503599627370494 - b0 - 36 : Nat) : Int) + 2251799813685248 * ((a1 + 4503599627370494 - b1 : Nat) : Int) + 5070602400912917605986812821504 * ((a2 + 4503599627370494 - b2 : Nat) : Int) + 11417981541647679048466287755595961091061972992 * ((a3 + 4503599627370494 - b3 : Nat) : Int) + 25711008708143844408671393477458601640355247900524685364822016 * ((a4 + 4503599627370494 - b4 : Nat) : Int) =
  ((a0 : Int) + 2251799813685248 * (a1 : Int) + 5070602400912917605986812821504 * (a2 : Int) + 11417981541647679048466287755595961091061972992 * (a3 : Int) + 25711008708143844408671393477458601640355247900524685364822016 * (a4 : Int) -
  ((b0 : Int) + 2251799813685248 * (b1 : Int) + 5070602400912917605986812821504 * (b2 : Int) + 11417981541647679048466287755595961091061972992 * (b3 : Int) + 25711008708143844408671393477458601640355247900524685364822016 * (b4 : Int))) + 2 * pC := by
 have e0 : ((a0 + 4503599627370494 - b0 - 36 : Nat) : Int) = a0 + 4503599627370458 - b0 := by omega
 have e1 : ((a1 + 4503599627370494 - b1 : Nat) : Int) = a1 + 4503599627370494 - b1 := by omega
 have e2 : ((a2 + 4503599627370494 - b2 : Nat) : Int) = a2 + 4503599627370494 - b2 := by omega
 have e3 : ((a3 + 4503599627370494 - b3 : Nat) : Int) = a3 + 4503599627370494 - b3 := by omega
 have e4 : ((a4 + 4503599627370494 - b4 : Nat) : Int) = a4 + 4503599627370494 - b4 := by omega
 rw [e0, e1, e2, e3, e4]
 unfold pC
 grind
theorem Qc8 {a b : List (BitVec 64)} {x y : Int} (ha : Rep a x) (hb : Rep b y) : Rep (Zb a b) ((x - y) % pC) := by
 have hc : Cg (Qad a - Qad b) (x - y) := by
  have h1 : Cg (Qad a) x := by rw [← ha.val]; exact (Qfg _).symm
  have h2 : Cg (Qad b) y := by rw [← hb.val]; exact (Qfg _).symm
  exact h1.sub h2
 obtain ⟨a0, a1, a2, a3, a4, rfl, k0, k1, k2, k3, k4⟩ := ha.is
 obtain ⟨b0, b1, b2, b3, b4, rfl, m0, m1, m2, m3, m4⟩ := hb.is
 have e0 : (a0 + 4503599627370494#64 - b0 - 36#64).toNat = a0.toNat + 4503599627370494 - b0.toNat - 36 := by rw [sub36 (by rw [Qbb k0 m0]; omega), Qbb k0 m0]
 have hr := Qcn (a0 := a0 + 4503599627370494#64 - b0 - 36#64) (a1 := a1 + 4503599627370494#64 - b1) (a2 := a2 + 4503599627370494#64 - b2) (a3 := a3 + 4503599627370494#64 - b3) (a4 := a4 + 4503599627370494#64 - b4)
  (by rw [e0]; omega) (by rw [Qbb k1 m1]; omega) (by rw [Qbb k2 m2]; omega) (by rw [Qbb k3 m3]; omega) (by rw [Qbb k4 m4]; omega)
 refine ⟨hr.is, hr.val.trans (Cg.emod (Cg.trans ⟨2, ?_⟩ hc))⟩
 simp only [Qad]
 rw [e0, Qbb k1 m1, Qbb k2 m2, Qbb k3 m3, Qbb k4 m4]
 exact less_id m0 m1 m2 m3 m4
def fM (x y : Int) : Int := x * y % pC
def fA (x y : Int) : Int := (x + y) % pC
def fS (x y : Int) : Int := (x - y) % pC
def Qcg (x : Int) : Nat → Int
 | 0 => 1
 | j + 1 => if j = 252 ∨ j = 250 then fM (Qcg x j) (Qcg x j) else fM (fM (Qcg x j) (Qcg x j)) x
structure LadF where
 px : Int
 pz : Int
 qx : Int
 qz : Int
def Qcr (px pz qx qz x1 : Int) : LadF :=
  ⟨fM (fM (fA px pz) (fA px pz)) (fM (fS px pz) (fS px pz)),
   fM (fS (fM (fA px pz) (fA px pz)) (fM (fS px pz) (fS px pz))) (fA (fM (fA px pz) (fA px pz)) (fM 121665 (fS (fM (fA px pz) (fA px pz)) (fM (fS px pz) (fS px pz))))),
   fM (fA (fM (fS qx qz) (fA px pz)) (fM (fA qx qz) (fS px pz))) (fA (fM (fS qx qz) (fA px pz)) (fM (fA qx qz) (fS px pz))),
   fM x1 (fM (fS (fM (fS qx qz) (fA px pz)) (fM (fA qx qz) (fS px pz))) (fS (fM (fS qx qz) (fA px pz)) (fM (fA qx qz) (fS px pz))))⟩
def Bl (bit : Nat → Bool) (x1 : Int) : Nat → LadF
 | 0 => ⟨1, 0, x1, 1⟩
 | j + 1 =>
  if bit j then Qcr (Bl bit x1 j).px (Bl bit x1 j).pz (Bl bit x1 j).qx (Bl bit x1 j).qz x1
  else ⟨(Qcr (Bl bit x1 j).qx (Bl bit x1 j).qz (Bl bit x1 j).px (Bl bit x1 j).pz x1).qx, (Qcr (Bl bit x1 j).qx (Bl bit x1 j).qz (Bl bit x1 j).px (Bl bit x1 j).pz x1).qz, (Qcr (Bl bit x1 j).qx (Bl bit x1 j).qz (Bl bit x1 j).px (Bl bit x1 j).pz x1).px, (Qcr (Bl bit x1 j).qx (Bl bit x1 j).qz (Bl bit x1 j).px (Bl bit x1 j).pz x1).pz⟩
theorem Qmw : Rep [1#64, 0#64, 0#64, 0#64, 0#64] 1 := ⟨⟨_, _, _, _, _, rfl, by decide, by decide, by decide, by decide, by decide⟩, by decide⟩
theorem rep_zero : Rep [0#64, 0#64, 0#64, 0#64, 0#64] 0 := ⟨⟨_, _, _, _, _, rfl, by decide, by decide, by decide, by decide, by decide⟩, by decide⟩
theorem rep_a24 : Rep [121665#64, 0#64, 0#64, 0#64, 0#64] 121665 := ⟨⟨_, _, _, _, _, rfl, by decide, by decide, by decide, by decide, by decide⟩, by decide⟩
theorem Qr9 {a : List (BitVec 64)} {x : Int} (h : Rep a x) : ∀ j, Rep (U4 a j) (Qcg x j)
 | 0 => Qmw
 | j + 1 => by
  have ih := Qr9 h j
  unfold U4 Qcg; split
  ·exact U3 ih ih
  exact U3 (U3 ih ih) h
structure RepL (s : Lad) (f : LadF) : Prop where
 px : Rep s.px f.px
 pz : Rep s.pz f.pz
 qx : Rep s.qx f.qx
 qz : Rep s.qz f.qz
attribute [local irreducible] Qm Zy Zb Eb
theorem Qok {px pz qx qz x1 : List (BitVec 64)} {a b c d x : Int} (h1 : Rep px a) (h2 : Rep pz b) (h3 : Rep qx c) (h4 : Rep qz d) (h5 : Rep x1 x) : RepL (Ad px pz qx qz x1) (Qcr a b c d x) := by
 have u := Qf2 h1 h2
 have v := Qc8 h1 h2
 have r := Qf2 h3 h4
 have s := Qc8 h3 h4
 have da := U3 s u
 have cb := U3 r v
 have aa := U3 u u
 have bb := U3 v v
 have e := Qc8 aa bb
 exact ⟨U3 aa bb, U3 e (Qf2 aa (U3 rep_a24 e)), U3 (Qf2 da cb) (Qf2 da cb), U3 h5 (U3 (Qc8 da cb) (Qc8 da cb))⟩
theorem Qr8 (k : Z4) {x1 : List (BitVec 64)} {x : Int} (h : Rep x1 x) : ∀ j, RepL (Jk k x1 j) (Bl (Sl k) x j)
 | 0 => ⟨Qmw, rep_zero, h, Qmw⟩
 | j + 1 => by
  have ih := Qr8 k h j
  unfold Jk Bl; simp only; split
  ·exact Qok ih.px ih.pz ih.qx ih.qz h
  have t := Qok ih.qx ih.qz ih.px ih.pz h
  exact ⟨t.qx, t.qz, t.px, t.pz⟩
def VR : List Int → Int
 | [] => 0
 | a :: r => a + 65536 * VR r
def Ti (n : Nat) : Int := 65536 ^ n
theorem Qgv (n : Nat) : Ti (n + 1) = 65536 * Ti n := by unfold Ti; rw [Int.pow_succ, Int.mul_comm]
theorem Qs6 (i k : Nat) : Ti (i + k) = Ti i * Ti k := Int.pow_add _ _ _
theorem Qhs : ∀ (l m : List Int), VR (l ++ m) = VR l + Ti l.length * VR m
 | [], m => by simp [VR, Ti]
 | a :: r, m => by simp only [List.cons_append, VR, Qhs r m, au, Qgv]; grind
theorem Qff : ∀ (l : List Int) (c : Int), VR l + c = VR (Wl l c).1 + Ti l.length * (Wl l c).2
 | [], c => by simp [VR, Wl, Ti]
 | a :: r, c => by
  have h := Qff r ((a + c) / 65536)
  simp only [VR, Wl, au, Qgv]
  have e := dS (a + c) 65536
  generalize (a + c) / 65536 = q at *
  generalize (a + c) % 65536 = m at *
  generalize (Wl r q).2 = o at *
  generalize VR (Wl r q).1 = x at *
  generalize VR r = y at *
  generalize Ti r.length = z at *
  have : a + 65536 * y + c = m + 65536 * (y + q) := by omega
  rw [this, h]; grind
theorem c16_16 : Ti 16 = 38 + 2 * pC := by decide
theorem Lu {l : List Int} (hl : l.length = 16) : Cg (VR (Qw l)) (VR l) := by
 obtain ⟨d0, D, e1, e2⟩ := Qa9 hl
 have h := Qff l 0
 rw [e1, hl, c16_16] at h
 simp only [VR, Int.add_zero] at h
 rw [e2, h]
 simp only [VR]
 exact ⟨-2 * (Wl l 0).2, by grind⟩
def Nl (g : Nat → Int) : Nat → Int
 | 0 => 0
 | n + 1 => Nl g n + g n * Ti n
theorem Qpz (g : Nat → Int) (n : Nat) : VR ((bP n).map g) = Nl g n := by
 induction n with
 | zero => rfl
 | succ n ih =>
  rw [List.range_succ, List.map_append, Qhs, ih]
  simp only [List.length_map, List.length_range, List.map_cons, List.map_nil, VR, Nl]
  grind
theorem N7 (l : List Int) : VR l = Nl (fun i => l.getD i 0) l.length := by
 rw [← Qpz]
 congr 1
 refine List.ext_getElem Ya fun i h1 h2 => ?_
 simp [aI, h1]
theorem Qaa {g f : Nat → Int} : ∀ n, (∀ i, i < n → g i = f i) → Nl g n = Nl f n
 | 0, _ => rfl
 | n + 1, h => by simp only [Nl]; rw [Qaa n fun i hi => h i oM, h n oM]
theorem Qiw (g f : Nat → Int) (c : Int) : ∀ n, Nl (fun i => g i + c * f i) n = Nl g n + c * Nl f n
 | 0 => by simp [Nl]
 | n + 1 => by simp only [Nl, Qiw g f c n]; grind
theorem Qln (g : Nat → Int) (m : Nat) : ∀ n, Nl g (m + n) = Nl g m + Ti m * Nl (fun i => g (m + i)) n
 | 0 => by simp [Nl]
 | n + 1 => by
  have h := Qln g m n
  show Nl g (m + n) + g (m + n) * Ti (m + n) = Nl g m + Ti m * (Nl (fun i => g (m + i)) n + g (m + n) * Ti n)
  rw [h, Qs6]; grind
theorem Qsg {l : List Int} {j : Nat} (d : Int) (hj : j < l.length) : ∀ n, Nl (fun i => (l.set j (l.getD j 0 + d)).getD i 0) n = Nl (fun i => l.getD i 0) n + (if j < n then d * Ti j else 0)
 | 0 => by simp [Nl]
 | n + 1 => by
  simp only [Nl, Qsg d hj n]
  by_cases h : j = n
  ·subst h
   rw [Uc hj, if_neg oM, if_pos oM]; grind
  rw [Kq h]
  by_cases h2 : j < n
  ·rw [if_pos h2, if_pos oM]; omega
  rw [if_neg h2, if_neg oM]; omega
theorem VR_set {l : List Int} {j : Nat} (d : Int) (hj : j < l.length) : VR (l.set j (l.getD j 0 + d)) = VR l + d * Ti j := by
 rw [N7, N7 l, List.length_set, Qsg d hj, if_pos hj]
theorem tRow_val {a b l : List Int} {i : Nat} (hi : i < 16) (hl : l.length = 31) : ∀ k, k ≤ 16 → VR (Qe2 a b i l k) = VR l + a.getD i 0 * Ti i * Nl (fun i => b.getD i 0) k := by
 intro k
 induction k with
 | zero => intro _; simp [Qe2, Nl]
 | succ k ih =>
  intro hk
  simp only [Qe2, Nl]
  rw [VR_set _ (by rw [Qa1, hl]; omega), ih oM, Qs6]; grind
theorem tAll_val (a b : List Int) : ∀ i, i ≤ 16 → VR (Eo a b i) = Nl (fun i => a.getD i 0) i * Nl (fun i => b.getD i 0) 16 := by
 intro i
 induction i with
 | zero =>
  intro _
  have e : VR (Eo a b 0) = 0 := (by decide : VR (List.replicate 31 0) = 0)
  have e2 : Nl (fun i => a.getD i 0) 0 = 0 := rfl
  rw [e, e2, Int.zero_mul]
 | succ i ih =>
  intro hi
  show VR (Qe2 a b i (Eo a b i) 16) = (Nl (fun i => a.getD i 0) i + a.getD i 0 * Ti i) * Nl (fun i => b.getD i 0) 16
  rw [tRow_val oM (L9 a b i) 16 oM, ih oM]
  generalize Nl (fun i => b.getD i 0) 16 = q
  grind
theorem out_val {t : List Int} (ht : t.length = 31) : Cg (VR (Yv (Rq t) 0 16 16)) (VR t) := by
 rw [Af, Qpz]
 have e1 : Nl (Rq t) 16 = Nl (fun i => t.getD i 0 + 38 * t.getD (16 + i) 0) 16 := Qaa 16 fun i hi => by
  unfold Rq; split
  ·rw [Nat.add_comm i 16]
  have : i = 15 := by omega
  subst this
  have : t.getD (16 + 15) 0 = 0 := by simp [aI, ht]
  rw [this]; omega
 have e2 := Qln (fun i => t.getD i 0) 16 15
 have e3 : Nl (fun i => t.getD (16 + i) 0) 16 = Nl (fun i => t.getD (16 + i) 0) 15 := by
  have : t.getD (16 + 15) 0 = 0 := by simp [aI, ht]
  show Nl _ 15 + t.getD (16 + 15) 0 * Ti 15 = _
  rw [this]; omega
 rw [e1, Qiw (fun i => t.getD i 0) (fun i => t.getD (16 + i) 0) 38, e3, N7 t, ht, show (31 : Nat) = 16 + 15 from rfl, e2, c16_16]
 exact ⟨-2 * Nl (fun i => t.getD (16 + i) 0) 15, by grind⟩
structure RepR (l : List Int) (x : Int) : Prop where
 good : GoodR l
 val : VR l % pC = x
theorem RepR.cg {l : List Int} {x : Int} (h : RepR l x) : Cg (VR l) x := by rw [← h.val]; exact (Qfg _).symm
theorem Gx {a b : List Int} {x y : Int} (ha : RepR a x) (hb : RepR b y) : RepR (Xg a b) (fM x y) := by
 refine ⟨Zf ha.good hb.good, Cg.emod ?_⟩
 have h1 := tAll_val a b 16 oM
 have e1 := N7 a
 have e2 := N7 b
 rw [ha.good.len] at e1
 rw [hb.good.len] at e2
 rw [← e1, ← e2] at h1
 have hlen : (Yv (Rq (Eo a b 16)) 0 16 16).length = 16 := J8 _ _ _ _ (di _)
 have h2 := (Lu (l := Qw (Yv (Rq (Eo a b 16)) 0 16 16)) (by rw [U9, hlen])).trans ((Lu hlen).trans (out_val (L9 a b 16)))
 rw [h1] at h2
 unfold Xg
 exact h2.trans (ha.cg.mul hb.cg)
theorem Qmc {a b : List Int} (ha : a.length = 16) (hb : b.length = 16) (c : Int) (f : Int → Int → Int) (hf : ∀ x y, f x y = x + c * y) : VR (Aa f a b 16) = VR a + c * VR b := by
 rw [N7 (Aa f a b 16), N7 a, N7 b, Wx, ha, hb, ← Qiw]
 refine Qaa 16 fun i hi => ?_
 show (Aa f a b 16).getD i 0 = _
 rw [Qee, if_pos ⟨hi, by omega⟩, hf]
theorem Qc9 {a b : List Int} {x y : Int} (ha : RepR a x) (hb : RepR b y) : RepR (Jw a b) (fA x y) := by
 refine ⟨Zv ha.good hb.good, Cg.emod ?_⟩
 have h := Lu (l := Aa (· + ·) a b 16) (by rw [Wx, ha.good.len])
 rw [Qmc ha.good.len hb.good.len 1 _ (fun x y => by show x + y = _; omega)] at h
 unfold Jw
 refine h.trans ?_
 rw [Int.one_mul]; exact ha.cg.add hb.cg
theorem Qbo {a b : List Int} {x y : Int} (ha : RepR a x) (hb : RepR b y) : RepR (Yt a b) (fS x y) := by
 refine ⟨Zk ha.good hb.good, Cg.emod ?_⟩
 have h := Lu (l := Aa (· - ·) a b 16) (by rw [Wx, ha.good.len])
 rw [Qmc ha.good.len hb.good.len (-1) _ (fun x y => by show x - y = _; omega)] at h
 unfold Yt
 refine h.trans ?_
 have e : VR a + -1 * VR b = VR a - VR b := by omega
 rw [e]; exact ha.cg.sub hb.cg
theorem Qjn : RepR [1, 0, 0, 0, 0, 0, 0, 0, 0, 0, 0, 0, 0, 0, 0, 0] 1 := ⟨Qd6, by decide⟩
theorem Qtp : RepR [0, 0, 0, 0, 0, 0, 0, 0, 0, 0, 0, 0, 0, 0, 0, 0] 0 := ⟨Qia, by decide⟩
theorem repR_a24 : RepR [56129, 1, 0, 0, 0, 0, 0, 0, 0, 0, 0, 0, 0, 0, 0, 0] 121665 := ⟨Na, by decide⟩
attribute [local irreducible] Xg Jw Yt Qw
theorem Qoo {a : List Int} {x : Int} (h : RepR a x) : ∀ j, RepR (Vu a j) (Qcg x j)
 | 0 => Qjn
 | j + 1 => by
  have ih := Qoo h j
  unfold Vu Qcg; split
  ·exact Gx ih ih
  exact Gx (Gx ih ih) h
structure RepI (s : LadI) (f : LadF) : Prop where
 x2 : RepR s.x2 f.px
 z2 : RepR s.z2 f.pz
 x3 : RepR s.x3 f.qx
 z3 : RepR s.z3 f.qz
theorem Qlm {x2 z2 x3 z3 x1 : List Int} {a b c d x : Int} (h1 : RepR x2 a) (h2 : RepR z2 b) (h3 : RepR x3 c) (h4 : RepR z3 d) (h5 : RepR x1 x) : RepI (Qah x2 z2 x3 z3 x1) (Qcr a b c d x) := by
 have u := Qc9 h1 h2
 have v := Qbo h1 h2
 have r := Qc9 h3 h4
 have s := Qbo h3 h4
 have da := Gx s u
 have cb := Gx r v
 have aa := Gx u u
 have bb := Gx v v
 have e := Qbo aa bb
 exact ⟨Gx aa bb, Gx e (Qc9 aa (Gx repR_a24 e)), Gx (Qc9 da cb) (Qc9 da cb), Gx h5 (Gx (Qbo da cb) (Qbo da cb))⟩
theorem kbit_not (k : Z4) (j : Nat) : Qj6 k j = !Sl k j := by
 unfold Qj6 Sl
 generalize k.getD ((254 - j) / 8) 0 >>> ((254 - j) % 8) = b
 have : ∀ b : BitVec 8, ((b &&& 1#8) == 1#8) = !((b &&& 1#8) == 0#8) := by decide
 exact this b
theorem Qon (k : Z4) {x1 : List Int} {x : Int} (h : RepR x1 x) : ∀ j, RepI (Qv k x1 j) (Bl (Sl k) x j)
 | 0 => ⟨Qjn, Qtp, h, Qjn⟩
 | j + 1 => by
  have ih := Qon k h j
  unfold Qv Bl
  rw [kbit_not]
  cases Sl k j with
  | true => exact Qlm ih.x2 ih.z2 ih.x3 ih.z3 h
  | false =>
   have t := Qlm ih.x3 ih.z3 ih.x2 ih.z2 h
   exact ⟨t.x3, t.z3, t.x2, t.z2⟩
def Nu (x : Nat) : Z4 := (bP 32).map fun j => aV 8 (x / 256 ^ j)
def nB : Z4 → Nat
 | [] => 0
 | b :: r => b.toNat + 256 * nB r
def vN : List (BitVec 64) → Nat
 | [] => 0
 | a :: r => a.toNat + 2251799813685248 * vN r
theorem Qs8 {w a x n : Nat} (ha : a < 2 ^ w) (hn : n < w) : (a + 2 ^ w * x).testBit n = a.testBit n := by
 rw [Nat.add_comm, Nat.testBit_two_pow_mul_add x ha, if_pos hn]
theorem Qpu {w a x n : Nat} (ha : a < 2 ^ w) (hn : w ≤ n) : (a + 2 ^ w * x).testBit n = x.testBit (n - w) := by
 rw [Nat.add_comm, Nat.testBit_two_pow_mul_add x ha, if_neg oM]
theorem nB_bit : ∀ (u : Z4) (n : Nat), (nB u).testBit n = (u.getD (n / 8) 0).getLsbD (n % 8)
 | [], n => by simp [nB]
 | b :: r, n => by
  have hb : b.toNat < 2 ^ 8 := b.isLt
  show (b.toNat + 2 ^ 8 * nB r).testBit n = _
  rcases ay n 8 with h | h
  ·rw [Qs8 hb h, show n / 8 = 0 by omega, show n % 8 = n by omega]; rfl
  rw [Qpu hb h, nB_bit r, show n / 8 = (n - 8) / 8 + 1 by omega, show n % 8 = (n - 8) % 8 by omega]; rfl
theorem Qmm : ∀ (l : List (BitVec 64)) (n : Nat), (∀ a ∈ l, a.toNat < 2251799813685248) → (vN l).testBit n = (l.getD (n / 51) 0).getLsbD (n % 51)
 | [], n, _ => by simp [vN]
 | a :: r, n, h => by
  have hb : a.toNat < 2 ^ 51 := h a Ya
  show (a.toNat + 2 ^ 51 * vN r).testBit n = _
  rcases ay n 51 with h1 | h1
  ·rw [Qs8 hb h1, show n / 51 = 0 by omega, show n % 51 = n by omega]; rfl
  rw [Qpu hb h1, Qmm r _ fun b hb => h b (by simp [hb]), show n / 51 = (n - 51) / 51 + 1 by omega, show n % 51 = (n - 51) % 51 by omega]; rfl
def ubit (u : Z4) (n : Nat) : Bool := (u.getD (n / 8) 0).getLsbD (n % 8)
theorem rbit_bit (u : Z4) (i t : Nat) : (rbit u i).getLsbD t = (decide (t = 0) && ubit u i) := by
 unfold rbit ubit
 rw [BitVec.getLsbD_setWidth, BitVec.getLsbD_and, BitVec.getLsbD_ushiftRight]
 by_cases h : t = 0
 ·subst h; simp
 have : (1#8).getLsbD t = false := by
  rw [BitVec.getLsbD_one]; simp [h]
 rw [this]; simp [h]
theorem Qop (u : Z4) : ∀ i, i ≤ 255 → ∀ j t, t < 64 → ((D8 u i).getD j 0).getLsbD t = (decide (t < 51 ∧ 51 * j + t < i) && ubit u (51 * j + t)) := by
 intro i
 induction i with
 | zero =>
  intro _ j t ht
  have e : (D8 u 0).getD j 0 = 0#64 := by
   simp only [D8, aI, List.getElem?_replicate]; split <;> rfl
  rw [e]; simp
 | succ i ih =>
  intro hi j t ht
  have hl := H5 u i
  simp only [D8]
  by_cases hj : i / 51 = j
  ·subst hj
   rw [Qne oM, BitVec.getLsbD_or, ih oM _ t ht, BitVec.getLsbD_shiftLeft, rbit_bit]
   by_cases h : t = i % 51
   ·subst h
    have e : 51 * (i / 51) + i % 51 = i := Nat.div_add_mod i 51
    rw [e]
    have e1 : decide (i % 51 < 51 ∧ i < i) = false := by simp
    have e2 : decide (i % 51 < 51 ∧ i < i + 1) = true := by simp; omega
    rw [e1, e2]; simp [ht]
   have e1 : decide (t < 51 ∧ 51 * (i / 51) + t < i + 1) = decide (t < 51 ∧ 51 * (i / 51) + t < i) := by
    apply decide_eq_decide.2; omega
   rw [e1]
   by_cases h2 : t < i % 51
   ·simp [h2]
   have e3 : decide (t - i % 51 = 0) = false := by simp; omega
   rw [e3]; simp
  rw [Qci hj, ih oM j t ht]
  have e1 : decide (t < 51 ∧ 51 * j + t < i + 1) = decide (t < 51 ∧ 51 * j + t < i) := by
   apply decide_eq_decide.2; omega
  rw [e1]
theorem Qqk {a : BitVec 64} (h : ∀ t, t < 64 → 51 ≤ t → a.getLsbD t = false) : a.toNat < 2251799813685248 := by
 rcases ay a.toNat 2251799813685248 with h1 | h1
 ·exact h1
 exfalso
 obtain ⟨i, hi, hb⟩ := Nat.exists_ge_and_testBit_of_ge_two_pow (n := 51) h1
 have : i < 64 := by
  rcases ay i 64 with h2 | h2
  ·exact h2
  have := BitVec.getLsbD_of_ge a i h2
  rw [BitVec.getLsbD] at this; rw [this] at hb; cases hb
 have := h i this hi
 rw [BitVec.getLsbD] at this; rw [this] at hb; cases hb
theorem Qjp (u : Z4) : ∀ a ∈ Je u, a.toNat < 2251799813685248 := by
 intro a ha
 obtain ⟨j, hj, rfl⟩ := List.getElem_of_mem ha
 refine Qqk fun t ht h51 => ?_
 have h := Qop u 255 (di _) j t ht
 have e : (D8 u 255).getD j 0 = (Je u)[j] := by
  have hj' : j < (D8 u 255).length := hj
  simp only [aI, List.getElem?_eq_getElem hj']; rfl
 rw [e] at h; rw [h]; simp; omega
theorem read_val (u : Z4) : vN (Je u) = nB u % 2 ^ 255 := by
 apply Nat.eq_of_testBit_eq
 intro n
 rw [Qmm _ _ (Qjp u), Nat.testBit_mod_two_pow, nB_bit]
 have h := Qop u 255 (di _) (n / 51) (n % 51) oM
 have e : 51 * (n / 51) + n % 51 = n := Nat.div_add_mod n 51
 rw [e] at h
 show ((D8 u 255).getD (n / 51) 0).getLsbD (n % 51) = _
 rw [h]
 have e1 : decide (n % 51 < 51 ∧ n < 255) = decide (n < 255) := by apply decide_eq_decide.2; omega
 rw [e1]; rfl
theorem Qrz {l : List (BitVec 64)} (h : l.length = 5) : Qad l = (vN l : Int) := by
 obtain ⟨a0, a1, a2, a3, a4, rfl⟩ := Qew l h
 simp only [Qad, vN]; omega
theorem rep_read (u : Z4) : Rep (Je u) (((nB u % 2 ^ 255 : Nat) : Int) % pC) := by
 have hl : (Je u).length = 5 := H5 u 255
 have hs := Qjp u
 have hv := Qrz hl
 rw [read_val] at hv
 obtain ⟨a0, a1, a2, a3, a4, he⟩ := Qew _ hl
 rw [he] at hs hv ⊢
 exact ⟨⟨a0, a1, a2, a3, a4, rfl, hs _ Ya, hs _ Ya, hs _ Ya, hs _ Ya, hs _ Ya⟩, by rw [hv]⟩
def Bv : Z4 → List Int
 | a :: b :: r => ((a.toNat : Int) + 256 * (b.toNat : Int)) :: Bv r
 | _ => []
theorem Qh3 : ∀ (n : Nat) (u : Z4), u.length = 2 * n → VR (Bv u) = (nB u : Int) ∧ (Bv u).length = n
 | 0, u, h => by have : u = [] := List.eq_nil_of_length_eq_zero oM; subst this; exact ⟨rfl, rfl⟩
 | n + 1, u, h => by
  match u, h with
  | a :: b :: r, h =>
   obtain ⟨h1, h2⟩ := Qh3 n r (by simp at h; omega)
   refine ⟨?_, by simp [Bv, h2]⟩
   simp only [Bv, VR, h1, nB]; omega
theorem Qa3 : ∀ (i : Nat) (u : Z4), 2 * i + 1 < u.length → (Bv u).getD i 0 = ((u.getD (2 * i) 0).toNat : Int) + 256 * ((u.getD (2 * i + 1) 0).toNat : Int)
 | 0, u, h => by
  match u, h with
  | a :: b :: r, h => rfl
 | i + 1, u, h => by
  match u, h with
  | a :: b :: r, h =>
   have := Qa3 i r (by simp at h; omega)
   have e1 : 2 * (i + 1) = 2 * i + 1 + 1 := by omega
   simp only [Bv, List.getD_cons_succ, e1]
   exact this
def c255 : Int := 57896044618658097711785492504343953926634992332820282019728792003956564819968
theorem c255_eq : c255 = 32768 * Ti 15 := by decide
theorem Qm0 {g : Nat → Int} : ∀ n, (∀ i, i < n → 0 ≤ g i ∧ g i ≤ 65535) → 0 ≤ Nl g n ∧ Nl g n < Ti n
 | 0, _ => ⟨Int.le_refl _, by show (0 : Int) < 1; omega⟩
 | n + 1, h => by
  obtain ⟨h1, h2⟩ := Qm0 n fun i hi => h i oM
  obtain ⟨h3, h4⟩ := h n oM
  have hc : 0 ≤ Ti n := by omega
  have k1 := Int.mul_nonneg h3 hc
  have k2 : g n * Ti n ≤ 65535 * Ti n := Int.mul_le_mul_of_nonneg_right h4 hc
  rw [Qgv]
  show 0 ≤ Nl g n + g n * Ti n ∧ Nl g n + g n * Ti n < _
  omega
theorem mod_top {A C X : Int} (h0 : 0 ≤ A) (h1 : A < C) : (A + X * C) % (32768 * C) = A + (X % 32768) * C := by
 have hx := dS X 32768
 have m0 := Int.emod_nonneg X (by omega : (32768 : Int) ≠ 0)
 have m1 := Int.emod_lt_of_pos X (by omega : (0 : Int) < 32768)
 have e : A + X * C = (A + (X % 32768) * C) + (X / 32768) * (32768 * C) := by
  conv => lhs; rw [← hx]
  grind
 rw [e, Int.add_mul_emod_self_right]
 have k1 := Int.mul_nonneg m0 (by omega : 0 ≤ C)
 have k2 : (X % 32768) * C ≤ 32767 * C := Int.mul_le_mul_of_nonneg_right oM oM
 exact Int.emod_eq_of_lt oM oM
theorem Qts {u : Z4} (hu : u.length = 32) : VR (Qx u) = (nB u : Int) % c255 := by
 obtain ⟨h1, h2⟩ := Qh3 16 u oM
 have hd : ∀ i, i < 16 → 0 ≤ (Bv u).getD i 0 ∧ (Bv u).getD i 0 ≤ 65535 := by
  intro i hi
  rw [Qa3 i u oM]
  have a1 := (u.getD (2 * i) 0).isLt
  have a2 := (u.getD (2 * i + 1) 0).isLt
  omega
 rw [N7, h2] at h1
 have hb := Qm0 (g := fun i => (Bv u).getD i 0) 15 fun i hi => hd i oM
 rw [N7 (Qx u), Qdz]
 have e1 : Nl (fun i => (Qx u).getD i 0) 15 = Nl (fun i => (Bv u).getD i 0) 15 := Qaa 15 fun i hi => by
  unfold Qx
  rw [Kq oM, Af, Qa3 i u oM]
  simp [aI, show i < 16 by omega]
 have e2 : (Qx u).getD 15 0 = (Bv u).getD 15 0 % 32768 := by
  unfold Qx
  rw [Uc (by rw [J8 _ _ _ _ (di _)]; omega), Af, Qa3 15 u oM]
  simp [aI]
 show Nl (fun i => (Qx u).getD i 0) 15 + (Qx u).getD 15 0 * Ti 15 = _
 rw [e1, e2, ← h1, c255_eq]
 show _ = (Nl (fun i => (Bv u).getD i 0) 15 + (Bv u).getD 15 0 * Ti 15) % (32768 * Ti 15)
 rw [mod_top hb.1 hb.2]
theorem Qtq {u : Z4} (hu : u.length = 32) : RepR (Qx u) (((nB u % 2 ^ 255 : Nat) : Int) % pC) := by
 refine ⟨Qcj u, ?_⟩
 rw [Qts hu]
 have e : ((nB u % 2 ^ 255 : Nat) : Int) = (nB u : Int) % c255 := by
  rw [dH]; rfl
 rw [e]
def qbit (e : List (BitVec 64)) (n : Nat) : Bool := (e.getD (n / 51) 0).getLsbD (n % 51)
theorem wbit_bit (e : List (BitVec 64)) (i t : Nat) : (wbit e i).getLsbD t = (decide (t = 0) && qbit e i) := by
 unfold wbit qbit
 rw [BitVec.getLsbD_setWidth, BitVec.getLsbD_and, BitVec.getLsbD_ushiftRight]
 by_cases h : t = 0
 ·subst h; simp
 have : (1#64).getLsbD t = false := by
  rw [BitVec.getLsbD_one]; simp [h]
 rw [this]; simp [h]
theorem Qgh {l : Z4} {i : Nat} {x : BitVec 8} (h : i < l.length) : (l.set i x).getD i 0 = x := by simp [aI, h]
theorem Qgg {l : Z4} {i j : Nat} {x : BitVec 8} (h : i ≠ j) : (l.set i x).getD j 0 = l.getD j 0 := by simp [aI, h]
theorem Qta (e : List (BitVec 64)) : ∀ i, i ≤ 255 → ∀ j t, t < 8 → ((Gp e i).getD j 0).getLsbD t = (decide (8 * j + t < i) && qbit e (8 * j + t)) := by
 intro i
 induction i with
 | zero =>
  intro _ j t ht
  have h : (Gp e 0).getD j 0 = 0#8 := by
   simp only [Gp, aI, List.getElem?_replicate]; split <;> rfl
  rw [h]; simp
 | succ i ih =>
  intro hi j t ht
  have hl := Fb e i
  simp only [Gp]
  by_cases hj : i / 8 = j
  ·subst hj
   rw [Qgh oM, BitVec.getLsbD_or, ih oM _ t ht, BitVec.getLsbD_shiftLeft, wbit_bit]
   by_cases h : t = i % 8
   ·subst h
    have e0 : 8 * (i / 8) + i % 8 = i := Nat.div_add_mod i 8
    rw [e0]; simp [ht]
   have e1 : decide (8 * (i / 8) + t < i + 1) = decide (8 * (i / 8) + t < i) := by
    apply decide_eq_decide.2; omega
   rw [e1]
   by_cases h2 : t < i % 8
   ·simp [h2]
   have e3 : decide (t - i % 8 = 0) = false := by simp; omega
   rw [e3]; simp
  rw [Qgg hj, ih oM j t ht]
  have e1 : decide (8 * j + t < i + 1) = decide (8 * j + t < i) := by
   apply decide_eq_decide.2; omega
  rw [e1]
theorem Qly {l : Z4} {j : Nat} (h : j < l.length) : l.getD j 0 = l[j] := by simp [aI, h]
theorem Qlc {e : List (BitVec 64)} (hs : ∀ a ∈ e, a.toNat < 2251799813685248) (hv : vN e < 2 ^ 255) : Gp e 255 = Nu (vN e) := by
 refine List.ext_getElem (by rw [Fb]; simp [Nu]) fun j h1 h2 => ?_
 apply BitVec.eq_of_getLsbD_eq
 intro t ht
 have h := Qta e 255 (di _) j t ht
 have e1 := Qly h1
 rw [e1] at h
 rw [h]
 have e2 : (Nu (vN e))[j] = aV 8 (vN e / 256 ^ j) := by simp [Nu]
 rw [e2, BitVec.getLsbD_ofNat, show (256 : Nat) = 2 ^ 8 from rfl, ← Nat.pow_mul, Nat.testBit_div_two_pow, Qmm e _ hs]
 have e3 : t + 8 * j = 8 * j + t := by omega
 rw [e3]
 by_cases hlt : 8 * j + t < 255
 ·simp [hlt, ht, qbit]
 have hz : (vN e).testBit (8 * j + t) = false := Nat.testBit_lt_two_pow (Nat.lt_of_lt_of_le hv (Nat.pow_le_pow_right oM oM))
 rw [Qmm e _ hs] at hz
 rw [hz]; simp [hlt]
theorem over1_ok {a0 a1 a2 a3 a4 : BitVec 64} (h0 : a0.toNat < 2251799813685248) (h1 : a1.toNat < 2251799813685248) (h2 : a2.toNat < 2251799813685248) (h3 : a3.toNat < 2251799813685248) (h4 : a4.toNat < 2251799813685248) :
  ∃ (r0 r1 r2 r3 r4 c : BitVec 64), over1 [a0, a1, a2, a3, a4] = ([r0, r1, r2, r3, r4], c) ∧ r0.toNat < 2251799813685248 ∧ r1.toNat < 2251799813685248 ∧ r2.toNat < 2251799813685248 ∧ r3.toNat < 2251799813685248 ∧ r4.toNat < 2251799813685248 ∧
   vN [a0, a1, a2, a3, a4] + 19 = vN [r0, r1, r2, r3, r4] + 57896044618658097711785492504343953926634992332820282019728792003956564819968 * c.toNat := by
 refine ⟨_, _, _, _, _, _, rfl, ?_⟩
 have e0 : (a0 + 19#64).toNat = a0.toNat + 19 := En (by show a0.toNat + 19 < _; omega)
 generalize a0 + 19#64 = s0 at *
 obtain ⟨q0, r0, p0, u0, x0, y0⟩ := P8 s0
 have e1 : (a1 + s0 >>> 51).toNat = a1.toNat + q0 := by rw [En oM, x0]
 generalize a1 + s0 >>> 51 = s1 at *
 obtain ⟨q1, r1, p1, u1, x1, y1⟩ := P8 s1
 have e2 : (a2 + s1 >>> 51).toNat = a2.toNat + q1 := by rw [En oM, x1]
 generalize a2 + s1 >>> 51 = s2 at *
 obtain ⟨q2, r2, p2, u2, x2, y2⟩ := P8 s2
 have e3 : (a3 + s2 >>> 51).toNat = a3.toNat + q2 := by rw [En oM, x2]
 generalize a3 + s2 >>> 51 = s3 at *
 obtain ⟨q3, r3, p3, u3, x3, y3⟩ := P8 s3
 have e4 : (a4 + s3 >>> 51).toNat = a4.toNat + q3 := by rw [En oM, x3]
 generalize a4 + s3 >>> 51 = s4 at *
 obtain ⟨q4, r4, p4, u4, x4, y4⟩ := P8 s4
 rw [y0, y1, y2, y3, y4]
 refine ⟨u0, u1, u2, u3, u4, ?_⟩
 simp only [vN]
 rw [y0, y1, y2, y3, y4, x4]
 rw [e0] at p0
 rw [e1] at p1
 rw [e2] at p2
 rw [e3] at p3
 rw [e4] at p4
 clear e0 e1 e2 e3 e4 y0 y1 y2 y3 y4 x0 x1 x2 x3 x4 u0 u1 u2 u3 u4 h0 h1 h2 h3 h4
 generalize a0.toNat = b0 at *
 generalize a1.toNat = b1 at *
 generalize a2.toNat = b2 at *
 generalize a3.toNat = b3 at *
 generalize a4.toNat = b4 at *
 omega
def pN : Nat := 57896044618658097711785492504343953926634992332820282019728792003956564819949
theorem vN_lt {a0 a1 a2 a3 a4 : BitVec 64} (h0 : a0.toNat < 2251799813685248) (h1 : a1.toNat < 2251799813685248) (h2 : a2.toNat < 2251799813685248) (h3 : a3.toNat < 2251799813685248) (h4 : a4.toNat < 2251799813685248) : vN [a0, a1, a2, a3, a4] < 57896044618658097711785492504343953926634992332820282019728792003956564819968 := by
 simp only [vN]; omega
theorem all5 {P : BitVec 64 → Prop} {a b c d e : BitVec 64} (h1 : P a) (h2 : P b) (h3 : P c) (h4 : P d) (h5 : P e) : ∀ x ∈ [a, b, c, d, e], P x := by
 intro x hx
 simp only [List.mem_cons, List.not_mem_nil, or_false] at hx
 rcases hx with rfl | rfl | rfl | rfl | rfl <;> assumption
theorem canon {v n c : Nat} (hv : v < 57896044618658097711785492504343953926634992332820282019728792003956564819968) (hn : n < 57896044618658097711785492504343953926634992332820282019728792003956564819968) (h : v + 19 = n + 57896044618658097711785492504343953926634992332820282019728792003956564819968 * c) :
  (0 < c → n = v % pN) ∧ (¬ 0 < c → v = v % pN) := by
 unfold pN
 constructor
 ·intro hc; omega
 intro hc; omega
theorem Quv {e : List (BitVec 64)} {x : Int} (h : Rep e x) : Qav e = Nu x.toNat := by
 obtain ⟨a0, a1, a2, a3, a4, rfl, h0, h1, h2, h3, h4⟩ := h.is
 have hr := Qcn (Qiq h0) (Qiq h1) (Qiq h2) (Qiq h3) (Qiq h4)
 rw [h.val] at hr
 obtain ⟨b0, b1, b2, b3, b4, he, k0, k1, k2, k3, k4⟩ := hr.is
 have hv := hr.val
 rw [he] at hv
 obtain ⟨r0, r1, r2, r3, r4, c, ho, g0, g1, g2, g3, g4, hs⟩ := over1_ok k0 k1 k2 k3 k4
 have hlt := vN_lt k0 k1 k2 k3 k4
 have hlt2 := vN_lt g0 g1 g2 g3 g4
 obtain ⟨c1, c2⟩ := canon hlt hlt2 hs
 have hx : vN [b0, b1, b2, b3, b4] % pN = x.toNat := by
  rw [Qrz rfl] at hv
  rw [← hv]
  have e : (vN [b0, b1, b2, b3, b4] : Int) % pC = ((vN [b0, b1, b2, b3, b4] % pN : Nat) : Int) := by rw [dH]; rfl
  rw [e]; rfl
 unfold Qav Gt
 rw [he, ho]
 simp only
 have z : (0#64).toNat = 0 := rfl
 rw [z]
 split
 ·rename_i hc
  rw [Qlc (all5 g0 g1 g2 g3 g4) hlt2, c1 hc, hx]
 rename_i hc
 rw [Qlc (all5 k0 k1 k2 k3 k4) hlt, c2 hc, hx]
structure Dig (l : List Int) : Prop where
 len : l.length = 16
 bd : Bd 0 65535 l
theorem Dig.good {l : List Int} (h : Dig l) : GoodR l := ⟨h.len, fun j hj => by have := h.bd j hj; omega⟩
theorem Qb5 {l : List Int} (h : Bd 0 65535 l) : 0 ≤ VR l ∧ VR l < Ti l.length := by
 rw [N7]; exact Qm0 _ fun i hi => h i hi
theorem Quo {l : List Int} (h : GoodR l) : ∃ d0 D, Qw l = d0 :: D ∧ D.length = 15 ∧ -38 ≤ d0 ∧ d0 ≤ 65573 ∧ ∀ d ∈ D, 0 ≤ d ∧ d ≤ 65535 := by
 obtain ⟨d0, D, e, h1, h2, h3, h4⟩ := Qec (lo := -1) (hi := 1) h.len h.bd oM oM oM oM
 exact ⟨d0, D, e, h1, by omega, by omega, h4⟩
theorem Qp1 {a v z e d r : Int} (hv : a + 65536 * v = d + 65536 * r + z * e) (he : e = -1 ∨ e = 0 ∨ e = 1) (hz : z = 115792089237316195423570985008687907853269984665640564039457584007913129639936) (ha : -38 ≤ a) (ha2 : a ≤ 65573) (hv0 : 0 ≤ v) (hv1 : 65536 * v ≤ 115792089237316195423570985008687907853269984665640564039457584007913129639936 - 65536) (hd : 0 ≤ d) (hd2 : d ≤ 65535) (hr : 0 ≤ r) (hr1 : 65536 * r ≤ 115792089237316195423570985008687907853269984665640564039457584007913129639936 - 65536) :
  0 ≤ d + 38 * e ∧ d + 38 * e ≤ 65535 := by
 subst hz
 rcases he with rfl | rfl | rfl <;> omega
theorem Qra {d0 : Int} {D : List Int} (hD : D.length = 15) (h1 : -38 ≤ d0) (h2 : d0 ≤ 65573) (h3 : ∀ d ∈ D, 0 ≤ d ∧ d ≤ 65535) : Dig (Qw (d0 :: D)) := by
 have hlen : (d0 :: D).length = 16 := by simp [hD]
 obtain ⟨e0, E, q1, q2⟩ := Qa9 hlen
 have hd := Rj (d0 :: D) 0
 have hv := Qff (d0 :: D) 0
 have hl2 := Qas (d0 :: D) 0
 have ho := Qcm (lo := -1) (hi := 1) (A := -38) (B := 65573) oM oM (d0 :: D) 0 (fun a ha => by
  rcases List.mem_cons.1 ha with rfl | ha
  ·omega
  have := h3 a ha; omega) oM oM
 rw [q1] at hd hv hl2
 rw [hlen] at hv
 simp only [VR, Int.add_zero] at hv
 have hE : E.length = 15 := by simp at hl2; omega
 have bD := Qb5 (Qap h3)
 have bE := Qb5 (l := E) (Qap fun a ha => hd a (by simp [ha]))
 rw [hD] at bD
 rw [hE] at bE
 have hc : Ti 15 = 1766847064778384329583297500742918515827483896875618958121606201292619776 := by decide
 have hc16 : Ti 16 = 115792089237316195423570985008687907853269984665640564039457584007913129639936 := by decide
 rw [hc] at bD bE
 have h0 := hd e0 Ya
 have hs := Qp1 hv oM hc16 h1 h2 bD.1 oM h0.1 h0.2 bE.1 oM
 refine ⟨by rw [U9]; exact hlen, Qap fun a ha => ?_⟩
 rw [q2] at ha
 rcases List.mem_cons.1 ha with rfl | ha
 ·exact hs
 exact hd a (by simp [ha])
theorem Qrc {l : List Int} (h : GoodR l) : Dig (Qw (Qw l)) := by
 obtain ⟨d0, D, e, h1, h2, h3, h4⟩ := Quo h
 rw [e]; exact Qra h1 h2 h3 h4
theorem Qrb {l : List Int} (h : GoodR l) : Dig (Qw (Qw (Qw l))) := Qrc (Hf h)
def Qe0 (j : Nat) : Int := if j = 0 then 65517 else if j = 15 then 32767 else 65535
theorem mG_val {a : List Int} (ha : Dig a) : ∀ j : Nat, j ≤ 15 → (∀ i, i < j → 0 ≤ (mG a j).getD i 0 ∧ (mG a j).getD i 0 ≤ 65535) ∧ (-65536 ≤ (mG a j).getD j 0 ∧ (mG a j).getD j 0 ≤ 65535 - Qe0 j) ∧ Nl (fun i => (mG a j).getD i 0) (j + 1) = Nl (fun i => a.getD i 0 - Qe0 i) (j + 1) := by
 intro j
 induction j with
 | zero =>
  intro _
  have h := ha.bd 0 (by rw [ha.len]; omega)
  have e : (mG a 0).getD 0 0 = a.getD 0 0 - 65517 := rfl
  refine ⟨fun i hi => by omega, ⟨by rw [e]; omega, by rw [e]; show _ ≤ 65535 - 65517; omega⟩, ?_⟩
  show 0 + (mG a 0).getD 0 0 * Ti 0 = 0 + (a.getD 0 0 - Qe0 0) * Ti 0
  rw [e]; rfl
 | succ j ih =>
  intro hj
  obtain ⟨h1, ⟨h2, h3⟩, h4⟩ := ih oM
  have h := ha.bd (j + 1) (by rw [ha.len]; omega)
  have hl := Bf a j
  have ht0 : 0 ≤ Qe0 j := by unfold Qe0; split <;> (try split) <;> omega
  have hb : (mG a j).getD j 0 / 65536 % 2 = -((mG a j).getD j 0 / 65536) := by
   have hq : (mG a j).getD j 0 / 65536 = 0 ∨ (mG a j).getD j 0 / 65536 = -1 := by omega
   rcases hq with hq | hq <;> rw [hq] <;> rfl
  have htop : (if j = 14 then (32767 : Int) else 65535) = Qe0 (j + 1) := by
   unfold Qe0
   by_cases h : j = 14
   ·subst h; rfl
   rw [if_neg h, if_neg (show ¬ j + 1 = 0 by omega), if_neg (show ¬ j + 1 = 15 by omega)]
  have e0 : ((mG a j).set (j + 1) (a.getD (j + 1) 0 - (if j = 14 then 32767 else 65535) - (mG a j).getD j 0 / 65536 % 2)).getD j 0 = (mG a j).getD j 0 := Kq oM
  have hm : mG a (j + 1) = ((mG a j).set (j + 1) (a.getD (j + 1) 0 - Qe0 (j + 1) + (mG a j).getD j 0 / 65536)).set j ((mG a j).getD j 0 % 65536) := by
   show Qbu _ _ _ = _
   unfold Qbu
   rw [e0, htop, hb]
   congr 2; omega
  have g1 : (mG a (j + 1)).getD (j + 1) 0 = a.getD (j + 1) 0 - Qe0 (j + 1) + (mG a j).getD j 0 / 65536 := by rw [hm, Kq oM, Uc oM]
  have g2 : (mG a (j + 1)).getD j 0 = (mG a j).getD j 0 % 65536 := by rw [hm, Uc (by simp; omega)]
  have g3 : ∀ i, i < j → (mG a (j + 1)).getD i 0 = (mG a j).getD i 0 := fun i hi => by rw [hm, Kq oM, Kq oM]
  have htp : Qe0 (j + 1) ≤ 65535 := by unfold Qe0; split <;> (try split) <;> omega
  refine ⟨fun i hi => ?_, ⟨by rw [g1]; omega, by rw [g1]; omega⟩, ?_⟩
  ·by_cases hij : i = j
   ·subst hij; rw [g2]; omega
   rw [g3 i oM]; exact h1 i oM
  have e1 : Nl (fun i => (mG a (j + 1)).getD i 0) j = Nl (fun i => (mG a j).getD i 0) j := Qaa j fun i hi => g3 i hi
  show Nl (fun i => (mG a (j + 1)).getD i 0) j + (mG a (j + 1)).getD j 0 * Ti j + (mG a (j + 1)).getD (j + 1) 0 * Ti (j + 1) = Nl (fun i => a.getD i 0 - Qe0 i) (j + 1) + (a.getD (j + 1) 0 - Qe0 (j + 1)) * Ti (j + 1)
  rw [← h4, e1, g1, g2, Qgv]
  show _ = Nl (fun i => (mG a j).getD i 0) j + (mG a j).getD j 0 * Ti j + _
  have hq := dS ((mG a j).getD j 0) 65536
  generalize (mG a j).getD j 0 / 65536 = q at *
  generalize (mG a j).getD j 0 % 65536 = r at *
  rw [← hq]; grind
theorem topP_val : Nl Qe0 16 = pC := by decide
theorem pvG_sub (g f : Nat → Int) (n : Nat) : Nl (fun i => g i - f i) n = Nl g n - Nl f n := by
 have := Qiw g f (-1) n
 have e : Nl (fun i => g i - f i) n = Nl (fun i => g i + -1 * f i) n := Qaa n fun i _ => by omega
 rw [e, this]; omega
theorem mG_all {a : List Int} (ha : Dig a) : VR (mG a 15) = VR a - pC ∧ (0 ≤ (mG a 15).getD 15 0 ↔ pC ≤ VR a) ∧ (0 ≤ (mG a 15).getD 15 0 → Dig (mG a 15)) := by
 obtain ⟨h1, ⟨h2, h3⟩, h4⟩ := mG_val ha 15 oM
 have e : VR (mG a 15) = VR a - pC := by
  rw [N7, N7 a, Bf, ha.len, ← topP_val, ← pvG_sub]; exact h4
 have hlow := Qm0 (g := fun i => (mG a 15).getD i 0) 15 fun i hi => h1 i hi
 have hv : VR (mG a 15) = Nl (fun i => (mG a 15).getD i 0) 15 + (mG a 15).getD 15 0 * Ti 15 := by rw [N7, Bf]; rfl
 have ht : Qe0 15 = 32767 := by decide
 have hc : 0 < Ti 15 := by decide
 refine ⟨e, ⟨fun h => ?_, fun h => ?_⟩, fun h => ⟨Bf a 15, fun j hj => ?_⟩⟩
 ·have := Int.mul_nonneg h (Int.le_of_lt hc); omega
 ·by_cases hn : (mG a 15).getD 15 0 < 0
  ·have k : (mG a 15).getD 15 0 * Ti 15 ≤ -1 * Ti 15 := Int.mul_le_mul_of_nonneg_right oM (Int.le_of_lt hc)
   omega
  omega
 rw [Bf] at hj
 rcases ay j 15 with hlt | hge
 ·exact h1 j hlt
 have : j = 15 := by omega
 subst this; omega
theorem Qr6 {a : List Int} (ha : Dig a) : Dig (Qim a) ∧ VR (Qim a) = if pC ≤ VR a then VR a - pC else VR a := by
 obtain ⟨h1, h2, h3⟩ := mG_all ha
 unfold Qim
 by_cases h : 0 ≤ (mG a 15).getD 15 0
 ·rw [if_pos h, if_pos (h2.1 h)]; exact ⟨h3 h, h1⟩
 rw [if_neg h, if_neg fun k => h (h2.2 k)]; exact ⟨ha, rfl⟩
theorem red2 {v w s : Int} (h2 : w = if pC ≤ v then v - pC else v) (h4 : s = if pC ≤ w then w - pC else w) (h0 : 0 ≤ v) (h1 : v < 115792089237316195423570985008687907853269984665640564039457584007913129639936) : s = v % pC := by
 unfold pC at *
 split at h2 <;> split at h4 <;> omega
theorem red_val {a : List Int} (ha : Dig a) : Dig (Vh a 2) ∧ VR (Vh a 2) = VR a % pC := by
 obtain ⟨h1, h2⟩ := Qr6 ha
 obtain ⟨h3, h4⟩ := Qr6 h1
 have hb := Qb5 ha.bd
 rw [ha.len] at hb
 have hc16 : Ti 16 = 115792089237316195423570985008687907853269984665640564039457584007913129639936 := by decide
 rw [hc16] at hb
 refine ⟨h3, ?_⟩
 show VR (Qim (Qim a)) = _
 exact red2 h2 h4 hb.1 hb.2
theorem wb_get (a : List Int) : ∀ i, i ≤ 16 → ∀ j, j < 2 * i → (Qij a i).getD j 0 = if j % 2 = 0 then aB 8 (a.getD (j / 2) 0) else aB 8 (a.getD (j / 2) 0 / 256) := by
 intro i
 induction i with
 | zero => intro _ j hj; omega
 | succ i ih =>
  intro hi j hj
  have hl := L6 a i
  rw [Qld]
  by_cases h1 : 2 * i + 1 = j
  ·subst h1
   rw [Qgh (by simp; omega), if_neg oM, show (2 * i + 1) / 2 = i by omega]
  rw [Qgg h1]
  by_cases h2 : 2 * i = j
  ·subst h2
   rw [Qgh oM, if_pos oM, show 2 * i / 2 = i by omega]
  rw [Qgg h2]; exact ih oM j oM
theorem c16_nat (i : Nat) : Ti i = ((256 ^ (2 * i) : Nat) : Int) := by
 rw [Nat.pow_mul]; unfold Ti; simp
theorem Qux {v A B d : Int} {C x : Nat} (hv : v = A + (C : Int) * (d + 65536 * B)) (h0 : 0 ≤ A) (h1 : A < (C : Int)) (hd : 0 ≤ d ∧ d ≤ 65535) (hB : 0 ≤ B) (hx : x = v.toNat) : (x / C : Nat) = (d + 65536 * B).toNat := by
 have hC : 0 < C := by omega
 have e : x = A.toNat + C * (d + 65536 * B).toNat := by
  have k : (0 : Int) ≤ d + 65536 * B := by omega
  obtain ⟨m, hm⟩ := Int.eq_ofNat_of_zero_le k
  obtain ⟨q, hq⟩ := Int.eq_ofNat_of_zero_le h0
  rw [hx, hv, hm, hq]
  have : (q : Int) + (C : Int) * (m : Int) = ((q + C * m : Nat) : Int) := by simp
  rw [this]; rfl
 rw [e, Nat.add_mul_div_left _ _ hC, Nat.div_eq_of_lt oM, Nat.zero_add]
theorem Qqe {d B : Int} (hd : 0 ≤ d ∧ d ≤ 65535) (hB : 0 ≤ B) : aB 8 d = aV 8 (d + 65536 * B).toNat := by
 apply dG
 rw [bU, dP]; omega
theorem Qov {d B : Int} (hd : 0 ≤ d ∧ d ≤ 65535) (hB : 0 ≤ B) : aB 8 (d / 256) = aV 8 ((d + 65536 * B).toNat / 256) := by
 apply dG
 rw [bU, dP]; omega
theorem Qqf {l : List Int} (h : Bd 0 65535 l) {i : Nat} (hi : i < l.length) : ∃ A B : Int, 0 ≤ A ∧ A < Ti i ∧ 0 ≤ B ∧ VR l = A + Ti i * (l.getD i 0 + 65536 * B) := by
 have hs : l = l.take i ++ l[i] :: l.drop (i + 1) := by rw [← List.drop_eq_getElem_cons hi, List.take_append_drop]
 have hlen : (l.take i).length = i := by rw [List.length_take]; omega
 have hb := Qb5 (l := l.take i) (Qap fun a ha => Qrx h a (List.mem_of_mem_take ha))
 have hb2 := Qb5 (l := l.drop (i + 1)) (Qap fun a ha => Qrx h a (List.mem_of_mem_drop ha))
 rw [hlen] at hb
 refine ⟨VR (l.take i), VR (l.drop (i + 1)), hb.1, hb.2, hb2.1, ?_⟩
 conv => lhs; rw [hs]
 rw [Qhs, hlen]
 have e : l.getD i 0 = l[i] := by simp [aI, hi]
 rw [e]; rfl
theorem wb_enc {l : List Int} (h : Dig l) : Qij l 16 = Nu (VR l).toNat := by
 refine List.ext_getElem (by rw [L6]; simp [Nu]) fun j h1 h2 => ?_
 have hj : j < 32 := by rw [L6] at h1; exact h1
 have e1 := Qly h1
 have e2 : (Nu (VR l).toNat)[j]'h2 = aV 8 ((VR l).toNat / 256 ^ j) := by simp [Nu]
 refine (e1.symm.trans (wb_get l 16 oM j oM)).trans (Eq.trans ?_ e2.symm)
 have hi : j / 2 < l.length := by rw [h.len]; omega
 obtain ⟨A, B, k0, k1, k2, hv⟩ := Qqf h.bd hi
 have hd := h.bd (j / 2) hi
 rw [c16_nat] at k1 hv
 have hdiv := Qux hv k0 k1 hd k2 rfl
 by_cases hp : j % 2 = 0
 ·rw [if_pos hp, Qqe hd k2, ← hdiv]
  exact congrArg (fun n => aV 8 ((VR l).toNat / 256 ^ n)) oM
 rw [if_neg hp, Qov hd k2, ← hdiv, Nat.div_div_eq_div_mul, ← Nat.pow_succ]
 exact congrArg (fun n => aV 8 ((VR l).toNat / 256 ^ n)) oM
theorem Qp0 {l : List Int} {x : Int} (h : RepR l x) : Qcq l = Nu x.toNat := by
 have hd := Qrb h.good
 obtain ⟨h1, h2⟩ := red_val hd
 unfold Qcq
 rw [wb_enc h1, h2]
 have g1 := Hf h.good
 have g2 := Hf g1
 have hc := (Lu g2.len).trans ((Lu g1.len).trans (Lu h.good.len))
 rw [hc.emod, h.val]
theorem Qrg {k : Z4} (hk : k.length = 32) : Qk k = Y3 k := by
 unfold Qk Y3
 have e1 : ∀ b : BitVec 8, b / 8#8 * 8#8 = b &&& ~~~7#8 := by decide
 have e2 : ∀ b : BitVec 8, b % 64#8 + 64#8 = b &&& ~~~128#8 ||| 64#8 := by decide
 rw [e1, e2]
def Qox (k : Z4) (x : Int) : Z4 := Nu (fM (Bl (Sl k) x 255).px (Qcg (Bl (Sl k) x 255).pz 255)).toNat
theorem Qbs (k u : Z4) : Zu k u = Qox (Y3 k) (((nB u % 2 ^ 255 : Nat) : Int) % pC) := by
 have l := Qr8 (Y3 k) (rep_read u) 255
 exact Quv (U3 l.px (Qr9 l.pz 255))
theorem Qqh {k u : Z4} (hk : k.length = 32) (hu : u.length = 32) : Yn k u = Qox (Y3 k) (((nB u % 2 ^ 255 : Nat) : Int) % pC) := by
 have l' := Qon (Y3 k) (Qtq hu) 255
 unfold Yn
 rw [Qrg hk]
 exact Qp0 (Gx l'.x2 (Qoo l'.z2 255))
theorem Qd3 {k u : Z4} (hk : k.length = 32) (hu : u.length = 32) : Zu k u = Yn k u := (Qbs k u).trans (Qqh hk hu).symm
end Go.Proofs.YtkmiemlpfkfiiaaDoor
