/- The curve: both ladders reckon one product. Conditions: none beyond those that each theorem states. -/
import Derived.Test.YtkmiemlpfkfiiaaDoorTab
import Derived.Test.YtkmiemlpfkfiiaaDoorFwY
namespace Go.Proofs.YtkmiemlpfkfiiaaDoor
set_option linter.unusedVariables false
set_option linter.unusedSimpArgs false
def Cg (x y : Int) : Prop := ∃ k : Int, x = y + k * pC
theorem Cg.refl (x : Int) : Cg x x := ⟨0, by simp⟩
theorem Cg.trans {x y z : Int} (h : Cg x y) (g : Cg y z) : Cg x z := by
 obtain ⟨k, rfl⟩ := h; obtain ⟨m, rfl⟩ := g; exact ⟨m + k, by rw [Int.add_mul, Int.add_assoc]⟩
theorem Cg.symm {x y : Int} (h : Cg x y) : Cg y x := by
 obtain ⟨k, rfl⟩ := h; exact ⟨-k, by rw [Int.neg_mul]; omega⟩
theorem Cg.emod {x y : Int} (h : Cg x y) : x % pC = y % pC := by
 obtain ⟨k, rfl⟩ := h; exact Int.add_mul_emod_self_right _ _ _
theorem Qlv {x y : Int} (h : x % pC = y % pC) : Cg x y := ⟨x / pC - y / pC, by
 have h1 := Int.mul_ediv_add_emod x pC
 have h2 := Int.mul_ediv_add_emod y pC
 rw [Int.sub_mul, Int.mul_comm (x / pC), Int.mul_comm (y / pC)]; omega⟩
theorem Qdo (x : Int) : Cg (x % pC) x := Qlv (Int.emod_emod_of_dvd x (Int.dvd_refl pC))
theorem Cg.add {x y z w : Int} (h : Cg x y) (g : Cg z w) : Cg (x + z) (y + w) := by
 obtain ⟨k, rfl⟩ := h; obtain ⟨m, rfl⟩ := g; exact ⟨k + m, by rw [Int.add_mul]; omega⟩
theorem Cg.sub {x y z w : Int} (h : Cg x y) (g : Cg z w) : Cg (x - z) (y - w) := by
 obtain ⟨k, rfl⟩ := h; obtain ⟨m, rfl⟩ := g; exact ⟨k - m, by rw [Int.sub_mul]; omega⟩
theorem Cg.mul {x y z w : Int} (h : Cg x y) (g : Cg z w) : Cg (x * z) (y * w) := by
 obtain ⟨k, rfl⟩ := h; obtain ⟨m, rfl⟩ := g; exact ⟨y * m + k * w + k * m * pC, by grind⟩
def wv (l : List (BitVec 64)) (n : Nat) : Nat := (l.getD (n * 2 + 0) 0).toNat * 18446744073709551616 + (l.getD (n * 2 + 1) 0).toNat
theorem Qim {l : List (BitVec 64)} {i : Nat} {x : BitVec 64} (h : i < l.length) : (l.set i x).getD i 0 = x := by simp [List.getD_eq_getElem?_getD, h]
theorem Rh {l : List (BitVec 64)} {i j : Nat} {x : BitVec 64} (h : i ≠ j) : (l.set i x).getD j 0 = l.getD j 0 := by simp [List.getD_eq_getElem?_getD, h]
theorem wide_add {hi lo p m r c : Nat} (hm : m = p / 18446744073709551616) (hr : r = p % 18446744073709551616) (hc : c = (lo + r) / 18446744073709551616) (hlo : lo < 18446744073709551616) (h : hi * 18446744073709551616 + lo + p < 340282366920938463463374607431768211456) :
  hi + m < 18446744073709551616 ∧ hi + m + c < 18446744073709551616 ∧ (hi + m + c) * 18446744073709551616 + (lo + r) % 18446744073709551616 = hi * 18446744073709551616 + lo + p := by omega
theorem Qc4 {l : List (BitVec 64)} {n : Nat} {x y : BitVec 64} (hl : l.length = 10) (hn : n < 5) (h : wv l n + x.toNat * y.toNat < 340282366920938463463374607431768211456) : wv (G6 l (n * 2) x y) n = wv l n + x.toNat * y.toNat := by
 have e1 : (G6 l (n * 2) x y).getD (n * 2 + 0) 0 = l.getD (n * 2 + 0) 0 + Md x y + J7 (l.getD (n * 2 + 1) 0) (x * y) 0#64 := by
  unfold G6
  rw [Qim (by simp; omega), Rh oM]
 have e2 : (G6 l (n * 2) x y).getD (n * 2 + 1) 0 = l.getD (n * 2 + 1) 0 + x * y + 0#64 := by
  unfold G6
  rw [Rh oM, Qim oM]
 unfold wv at h ⊢
 rw [e1, e2]
 generalize l.getD (n * 2 + 0) 0 = hi at *
 generalize l.getD (n * 2 + 1) 0 = lo at *
 have hx := x.isLt
 have hy := y.isLt
 have hP : x.toNat * y.toNat ≤ 18446744073709551615 * 18446744073709551615 := Nat.mul_le_mul oM oM
 have hm : (Md x y).toNat = x.toNat * y.toNat / 18446744073709551616 := by
  unfold Md; rw [BitVec.toNat_ofNat]; exact Nat.mod_eq_of_lt oM
 have hr : (x * y).toNat = x.toNat * y.toNat % 18446744073709551616 := by rw [BitVec.toNat_mul]
 have hlo := lo.isLt
 have hc : (J7 lo (x * y) 0#64).toNat = (lo.toNat + (x * y).toNat) / 18446744073709551616 := by
  have := (x * y).isLt
  unfold J7; rw [BitVec.toNat_ofNat]
  have e0 : (0#64).toNat = 0 := rfl
  rw [e0, Nat.add_zero]; exact Nat.mod_eq_of_lt oM
 obtain ⟨k1, k2, k3⟩ := wide_add (hi := hi.toNat) (lo := lo.toNat) (p := x.toNat * y.toNat) hm hr hc hlo h
 have l1 : (hi + Md x y).toNat = hi.toNat + (Md x y).toNat := Gu k1
 have l2 : (hi + Md x y + J7 lo (x * y) 0#64).toNat = hi.toNat + (Md x y).toNat + (J7 lo (x * y) 0#64).toNat := by rw [Gu (by rw [l1]; exact k2), l1]
 have l3 : (lo + x * y + 0#64).toNat = (lo.toNat + (x * y).toNat) % 18446744073709551616 := by
  have e : lo + x * y + 0#64 = lo + x * y := by simp
  rw [e, BitVec.toNat_add]
 rw [l2, l3]; exact k3
theorem Qhv {l : List (BitVec 64)} {n m : Nat} {x y : BitVec 64} (h : n ≠ m) : wv (G6 l (n * 2) x y) m = wv l m := by
 unfold wv G6
 rw [Rh oM, Rh oM, Rh oM, Rh oM]
def w51 (n : Nat) : Int := 2251799813685248 ^ n
def VW (l : List (BitVec 64)) : Int := (wv l 0 : Int) + 2251799813685248 * (wv l 1 : Int) + 5070602400912917605986812821504 * (wv l 2 : Int) + 11417981541647679048466287755595961091061972992 * (wv l 3 : Int) + 25711008708143844408671393477458601640355247900524685364822016 * (wv l 4 : Int)
theorem Qm8 {l : List (BitVec 64)} {n : Nat} {x y : BitVec 64} (hl : l.length = 10) (hn : n < 5) (h : wv l n + x.toNat * y.toNat < 340282366920938463463374607431768211456) : VW (G6 l (n * 2) x y) = VW l + (x.toNat * y.toNat : Nat) * w51 n := by
 have e := Qc4 hl hn h
 have ne : ∀ m, n ≠ m → wv (G6 l (n * 2) x y) m = wv l m := fun m hm => Qhv hm
 have hc : n = 0 ∨ n = 1 ∨ n = 2 ∨ n = 3 ∨ n = 4 := by omega
 unfold VW
 rcases hc with rfl | rfl | rfl | rfl | rfl
 ·rw [e, ne 1 Yh, ne 2 Yh, ne 3 Yh, ne 4 Yh]; simp only [w51]; omega
 ·rw [e, ne 0 Yh, ne 2 Yh, ne 3 Yh, ne 4 Yh]; simp only [w51]; omega
 ·rw [e, ne 0 Yh, ne 1 Yh, ne 3 Yh, ne 4 Yh]; simp only [w51]; omega
 ·rw [e, ne 0 Yh, ne 1 Yh, ne 2 Yh, ne 4 Yh]; simp only [w51]; omega
 rw [e, ne 0 Yh, ne 1 Yh, ne 2 Yh, ne 3 Yh]; simp only [w51]; omega
def Sm (l : List (BitVec 64)) : Prop := ∀ i, (l.getD i 0).toNat < 2251799813685248
theorem Qhw (i k : Nat) : w51 (i + k) = w51 i * w51 k := Int.pow_add _ _ _
theorem w51_5 : 19 * 1 + pC = w51 5 := by decide
theorem cg_w51 {i k : Nat} (h : ¬ i + k < 5) : Cg (19 * w51 (i + k - 5)) (w51 (i + k)) := by
 have e : i + k = 5 + (i + k - 5) := by omega
 generalize i + k - 5 = m at *
 rw [e, Qhw, ← w51_5]
 exact ⟨-(w51 m), by grind⟩
theorem prod_lt {a b : Nat} (ha : a < 2251799813685248) (hb : b < 2251799813685248) : a * b ≤ 5070602400912913102387185451009 := Nat.le_trans (Nat.mul_le_mul (Nat.le_of_lt_succ ha) (Nat.le_of_lt_succ hb)) Yh
theorem step_val {a b l : List (BitVec 64)} (ha : Sm a) (hb : Sm b) {i k : Nat} (hi : i < 5) (hk : k < 5) {M : Nat} (hl : l.length = 10) (hM : ∀ n, wv l n ≤ M) (hMM : M ≤ 4000000000000000000000000000000000) :
  (∀ n, wv (Uw a b l i k) n ≤ M + 96341445617345348945356523569171) ∧ Cg (VW (Uw a b l i k)) (VW l + ((a.getD i 0).toNat : Int) * w51 i * (((b.getD k 0).toNat : Int) * w51 k)) := by
 have hp := prod_lt (ha i) (hb k)
 unfold Uw
 split
 ·rename_i h
  have hw := hM (i + k)
  refine ⟨fun n => ?_, ?_⟩
  ·by_cases hn : i + k = n
   ·subst hn; rw [Qc4 hl h oM]; omega
   rw [Qhv hn]; have := hM n; omega
  rw [Qm8 hl h oM, Qhw]
  refine ⟨0, ?_⟩
  simp only [Int.natCast_mul]; grind
 rename_i h
 have hw := hM (i + k - 5)
 have e19 : (19#64 * a.getD i 0).toNat = 19 * (a.getD i 0).toNat := Qb3 (by have := ha i; omega)
 have hp2 : (19#64 * a.getD i 0).toNat * (b.getD k 0).toNat = 19 * ((a.getD i 0).toNat * (b.getD k 0).toNat) := by rw [e19, Nat.mul_assoc]
 refine ⟨fun n => ?_, ?_⟩
 ·by_cases hn : i + k - 5 = n
  ·rw [← hn, Qc4 hl oM (by rw [hp2]; omega), hp2]; omega
  rw [Qhv hn]; have := hM n; omega
 rw [Qm8 hl oM (by rw [hp2]; omega), hp2]
 have h2 := (Cg.refl (VW l)).add ((Cg.refl (((a.getD i 0).toNat : Int) * ((b.getD k 0).toNat : Int))).mul (cg_w51 h))
 have e1 : ((19 * ((a.getD i 0).toNat * (b.getD k 0).toNat) : Nat) : Int) * w51 (i + k - 5) = ((a.getD i 0).toNat : Int) * ((b.getD k 0).toNat : Int) * (19 * w51 (i + k - 5)) := by
  simp only [Int.natCast_mul]; grind
 have e2 : ((a.getD i 0).toNat : Int) * ((b.getD k 0).toNat : Int) * w51 (i + k) = ((a.getD i 0).toNat : Int) * w51 i * (((b.getD k 0).toNat : Int) * w51 k) := by rw [Qhw]; grind
 rw [e1, ← e2]; exact h2
def pv (b : List (BitVec 64)) : Nat → Int
 | 0 => 0
 | k + 1 => pv b k + ((b.getD k 0).toNat : Int) * w51 k
theorem row_val {a b l : List (BitVec 64)} (ha : Sm a) (hb : Sm b) {i : Nat} (hi : i < 5) {M : Nat} (hl : l.length = 10) (hM : ∀ n, wv l n ≤ M) (hMM : M ≤ 3000000000000000000000000000000000) : ∀ k, k ≤ 5 →
  (∀ n, wv (Ac a b i l k) n ≤ M + k * 96341445617345348945356523569171) ∧ Cg (VW (Ac a b i l k)) (VW l + ((a.getD i 0).toNat : Int) * w51 i * pv b k) := by
 intro k
 induction k with
 | zero => intro _; exact ⟨fun n => by simpa [Ac] using hM n, by simp only [Ac, pv, Int.mul_zero, Int.add_zero]; exact Cg.refl _⟩
 | succ k ih =>
  intro hk
  obtain ⟨h1, h2⟩ := ih oM
  obtain ⟨h3, h4⟩ := step_val ha hb hi (show k < 5 by omega) (by rw [P6, hl]) h1 oM
  refine ⟨fun n => by have := h3 n; simp only [Ac]; omega, ?_⟩
  simp only [Ac, pv]
  refine h4.trans ?_
  rw [Int.mul_add, ← Int.add_assoc]
  exact h2.add (Cg.refl _)
theorem all_val {a b : List (BitVec 64)} (ha : Sm a) (hb : Sm b) : ∀ i, i ≤ 5 → (∀ n, wv (Wp a b i) n ≤ i * 481707228086726744726782617845855) ∧ Cg (VW (Wp a b i)) (pv a i * pv b 5) := by
 intro i
 induction i with
 | zero =>
  intro _
  have e : ∀ n, wv (Wp a b 0) n = 0 := by
   intro n
   have g : ∀ j, (Wp a b 0).getD j 0 = 0#64 := by
    intro j; simp only [Wp, List.getD_eq_getElem?_getD, List.getElem?_replicate]; split <;> rfl
   unfold wv; rw [g, g]; rfl
  refine ⟨fun n => by rw [e]; omega, ?_⟩
  unfold VW; rw [e, e, e, e, e]; simp only [pv, Int.zero_mul]; exact Cg.refl _
 | succ i ih =>
  intro hi
  obtain ⟨h1, h2⟩ := ih oM
  obtain ⟨h3, h4⟩ := row_val ha hb (show i < 5 by omega) (Qc0 a b i) h1 oM 5 oM
  refine ⟨fun n => by have := h3 n; simp only [Wp]; omega, ?_⟩
  simp only [Wp, pv]
  refine h4.trans ?_
  rw [Int.add_mul]
  exact h2.add (Cg.refl _)
theorem fin_nat {hi lo c h1 l1 : Nat} (hhi : hi < 1125899906842624) (hlo : lo < 18446744073709551616) (hc : c < 18446744073709551616) (hl1 : l1 = (lo + c) % 18446744073709551616) (hh1 : h1 = hi + (lo + c) / 18446744073709551616) :
  h1 * 8192 + l1 / 2251799813685248 < 18446744073709551616 ∧ (hi * 18446744073709551616 + lo + c) % 2251799813685248 = l1 % 2251799813685248 ∧ (hi * 18446744073709551616 + lo + c) / 2251799813685248 = h1 * 8192 + l1 / 2251799813685248 := by omega
theorem shl_or {h l : BitVec 64} (h1 : h.toNat * 8192 < 18446744073709551616) : (h <<< 13 ||| l >>> 51).toNat = h.toNat * 8192 + l.toNat / 2251799813685248 := by
 have e1 : (h <<< 13).toNat = h.toNat <<< 13 := by
  rw [BitVec.toNat_shiftLeft, Nat.shiftLeft_eq]; exact Nat.mod_eq_of_lt (by simpa using h1)
 have e2 : l.toNat / 2251799813685248 < 2 ^ 13 := by have := l.isLt; omega
 rw [BitVec.toNat_or, e1, Qh2, ← Nat.shiftLeft_add_eq_or_of_lt e2, Nat.shiftLeft_eq]
theorem Qaa {l : List (BitVec 64)} {i : Nat} (h : wv l i < 20769187434139310514121985316880384) :
  (G8 l i).toNat = (wv l i + (G9 l i).toNat) % 2251799813685248 ∧ (G9 l (i + 1)).toNat = (wv l i + (G9 l i).toNat) / 2251799813685248 := by
 have ew : wv l i = (l.getD (i * 2) 0).toNat * 18446744073709551616 + (l.getD (i * 2 + 1) 0).toNat := rfl
 rw [ew] at h ⊢
 show ((l.getD (i * 2 + 1) 0 + G9 l i + 0#64) &&& 2251799813685247#64).toNat = _ ∧ ((l.getD (i * 2) 0 + J7 (l.getD (i * 2 + 1) 0) (G9 l i) 0#64) <<< 13 ||| (l.getD (i * 2 + 1) 0 + G9 l i + 0#64) >>> 51).toNat = _
 generalize l.getD (i * 2) 0 = hi at *
 generalize l.getD (i * 2 + 1) 0 = lo at *
 generalize G9 l i = c at *
 have hlo := lo.isLt
 have hc := c.isLt
 have hh : hi.toNat < 1125899906842624 := by omega
 have e0 : lo + c + 0#64 = lo + c := by simp
 have l1 : (lo + c).toNat = (lo.toNat + c.toNat) % 18446744073709551616 := by rw [BitVec.toNat_add]
 have k1 : (J7 lo c 0#64).toNat = (lo.toNat + c.toNat) / 18446744073709551616 := by
  unfold J7; rw [BitVec.toNat_ofNat]
  have e0 : (0#64).toNat = 0 := rfl
  rw [e0, Nat.add_zero]; exact Nat.mod_eq_of_lt oM
 have h1 : (hi + J7 lo c 0#64).toNat = hi.toNat + (lo.toNat + c.toNat) / 18446744073709551616 := by rw [Gu (by rw [k1]; omega), k1]
 obtain ⟨q1, q2, q3⟩ := fin_nat hh hlo hc l1 h1
 have hsh := shl_or (h := hi + J7 lo c 0#64) (l := lo + c) (Nat.lt_of_le_of_lt (Nat.le_add_right _ _) q1)
 rw [e0, Qep, hsh, q2, q3]
 exact ⟨rfl, rfl⟩
theorem Qcq {w c d o : Nat} (h : o = (w + c) % 2251799813685248) (g : d = (w + c) / 2251799813685248) : (w : Int) = 2251799813685248 * (d : Int) + o - c := by omega
theorem Rep.sm {l : List (BitVec 64)} {x : Int} (h : Rep l x) : Sm l := by
 obtain ⟨a0, a1, a2, a3, a4, rfl, h0, h1, h2, h3, h4⟩ := h.is
 intro i
 match i with
 | 0 => exact h0
 | 1 => exact h1
 | 2 => exact h2
 | 3 => exact h3
 | 4 => exact h4
 | n + 5 => simp [List.getD_eq_getElem?_getD]
theorem Rep.len {l : List (BitVec 64)} {x : Int} (h : Rep l x) : l.length = 5 := by
 obtain ⟨a0, a1, a2, a3, a4, rfl, _⟩ := h.is; rfl
theorem pv5 {l : List (BitVec 64)} (h : l.length = 5) : pv l 5 = H7 l := by
 obtain ⟨a0, a1, a2, a3, a4, rfl⟩ := Qbi l h
 simp only [pv, w51, H7, List.getD_cons_zero, List.getD_cons_succ]
 omega
theorem fin_id {v0 v1 v2 v3 v4 : Nat} {d0 d1 d2 d3 d4 d5 p0 p1 p2 p3 p4 h l : Nat} (q0 : (v0 : Int) = 2251799813685248 * (d1 : Int) + p0 - d0) (q1 : (v1 : Int) = 2251799813685248 * (d2 : Int) + p1 - d1) (q2 : (v2 : Int) = 2251799813685248 * (d3 : Int) + p2 - d2) (q3 : (v3 : Int) = 2251799813685248 * (d4 : Int) + p3 - d3) (q4 : (v4 : Int) = 2251799813685248 * (d5 : Int) + p4 - d4)
  (z : (d0 : Int) = 0) (hd : (d5 : Int) = 2251799813685248 * (h : Int) + l) :
  ((p0 + 19 * l : Nat) : Int) + 2251799813685248 * ((p1 + 19 * h : Nat) : Int) + 5070602400912917605986812821504 * (p2 : Int) + 11417981541647679048466287755595961091061972992 * (p3 : Int) + 25711008708143844408671393477458601640355247900524685364822016 * (p4 : Int) =
  ((v0 : Int) + 2251799813685248 * (v1 : Int) + 5070602400912917605986812821504 * (v2 : Int) + 11417981541647679048466287755595961091061972992 * (v3 : Int) + 25711008708143844408671393477458601640355247900524685364822016 * (v4 : Int)) + -(d5 : Int) * pC := by
 rw [q0, q1, q2, q3, q4, z]
 unfold pC
 simp only [Int.natCast_add, Int.natCast_mul]
 have e : ((19 : Nat) : Int) = 19 := rfl
 rw [e]
 grind
theorem lim19 {a b : Nat} (ha : a < 2251799813685248) (hb : b < 2251799813685248) : a + 19 * b < 9223372036854775808 := by omega
theorem lim19' {a b : Nat} (ha : a < 2251799813685248) (hb : b < 18446744073709551616) : a + 19 * (b / 2251799813685248) < 9223372036854775808 := by omega
theorem Qj7 {o t : Nat} (h : o = t % 2251799813685248) : o < 2251799813685248 := by omega
theorem Vo {a b : List (BitVec 64)} {x y : Int} (ha : Rep a x) (hb : Rep b y) : Rep (Qe a b) (x * y % pC) := by
 obtain ⟨hw, hv⟩ := all_val ha.sm hb.sm 5 oM
 rw [pv5 ha.len, pv5 hb.len] at hv
 have hW : ∀ n, wv (Wp a b 5) n < 20769187434139310514121985316880384 := fun n => by have := hw n; omega
 obtain ⟨o0, c1⟩ := Qaa (hW 0)
 obtain ⟨o1, c2⟩ := Qaa (hW 1)
 obtain ⟨o2, c3⟩ := Qaa (hW 2)
 obtain ⟨o3, c4⟩ := Qaa (hW 3)
 obtain ⟨o4, c5⟩ := Qaa (hW 4)
 have q0 := Qcq o0 c1
 have q1 := Qcq o1 c2
 have q2 := Qcq o2 c3
 have q3 := Qcq o3 c4
 have q4 := Qcq o4 c5
 have z0 : (G9 (Wp a b 5) 0).toNat = 0 := rfl
 have b0 := Qj7 o0
 have b1 := Qj7 o1
 have b2 := Qj7 o2
 have b3 := Qj7 o3
 have b4 := Qj7 o4
 have hC := (G9 (Wp a b 5) 5).isLt
 unfold VW at hv
 show Rep (Gg [G8 (Wp a b 5) 0 + 19#64 * (G9 (Wp a b 5) 5 &&& 2251799813685247#64), G8 (Wp a b 5) 1 + 19#64 * (G9 (Wp a b 5) 5 >>> 51), G8 (Wp a b 5) 2, G8 (Wp a b 5) 3, G8 (Wp a b 5) 4]) _
 clear o0 o1 o2 o3 o4 c1 c2 c3 c4 c5 hw hW
 generalize G8 (Wp a b 5) 0 = p0 at *
 generalize G8 (Wp a b 5) 1 = p1 at *
 generalize G8 (Wp a b 5) 2 = p2 at *
 generalize G8 (Wp a b 5) 3 = p3 at *
 generalize G8 (Wp a b 5) 4 = p4 at *
 generalize G9 (Wp a b 5) 0 = d0 at *
 generalize G9 (Wp a b 5) 1 = d1 at *
 generalize G9 (Wp a b 5) 2 = d2 at *
 generalize G9 (Wp a b 5) 3 = d3 at *
 generalize G9 (Wp a b 5) 4 = d4 at *
 generalize G9 (Wp a b 5) 5 = d5 at *
 generalize wv (Wp a b 5) 0 = v0 at *
 generalize wv (Wp a b 5) 1 = v1 at *
 generalize wv (Wp a b 5) 2 = v2 at *
 generalize wv (Wp a b 5) 3 = v3 at *
 generalize wv (Wp a b 5) 4 = v4 at *
 have m1 : (19#64 * (d5 &&& 2251799813685247#64)).toNat = 19 * (d5.toNat % 2251799813685248) := by rw [Qb3 (by rw [Qep]; omega), Qep]
 have m2 : (19#64 * (d5 >>> 51)).toNat = 19 * (d5.toNat / 2251799813685248) := by rw [Qb3 (by rw [Qh2]; omega), Qh2]
 have s0 : (p0 + 19#64 * (d5 &&& 2251799813685247#64)).toNat = p0.toNat + 19 * (d5.toNat % 2251799813685248) := by rw [Gu (by rw [m1]; omega), m1]
 have s1 : (p1 + 19#64 * (d5 >>> 51)).toNat = p1.toNat + 19 * (d5.toNat / 2251799813685248) := by rw [Gu (by rw [m2]; omega), m2]
 have hr := Rq (a0 := p0 + 19#64 * (d5 &&& 2251799813685247#64)) (a1 := p1 + 19#64 * (d5 >>> 51)) (a2 := p2) (a3 := p3) (a4 := p4) (by rw [s0]; exact lim19 b0 (Nat.mod_lt _ Yh)) (by rw [s1]; exact lim19' b1 hC) (Qek b2) (Qek b3) (Qek b4)
 refine ⟨hr.is, hr.val.trans ?_⟩
 have hxy : Cg (H7 a * H7 b) (x * y) := by
  have h1 : Cg (H7 a) x := by rw [← ha.val]; exact (Qdo _).symm
  have h2 : Cg (H7 b) y := by rw [← hb.val]; exact (Qdo _).symm
  exact h1.mul h2
 refine Cg.emod ?_
 refine Cg.trans ?_ (hv.trans hxy)
 refine ⟨-(d5.toNat : Int), ?_⟩
 have hd : (d5.toNat : Int) = 2251799813685248 * ((d5.toNat / 2251799813685248 : Nat) : Int) + ((d5.toNat % 2251799813685248 : Nat) : Int) := by omega
 simp only [H7]
 rw [s0, s1]
 exact fin_id q0 q1 q2 q3 q4 (by rw [z0]; rfl) hd
theorem Qcd {a b : List (BitVec 64)} {x y : Int} (ha : Rep a x) (hb : Rep b y) : Rep (Qz a b) ((x + y) % pC) := by
 have hc : Cg (H7 a + H7 b) (x + y) := by
  have h1 : Cg (H7 a) x := by rw [← ha.val]; exact (Qdo _).symm
  have h2 : Cg (H7 b) y := by rw [← hb.val]; exact (Qdo _).symm
  exact h1.add h2
 obtain ⟨a0, a1, a2, a3, a4, rfl, k0, k1, k2, k3, k4⟩ := ha.is
 obtain ⟨b0, b1, b2, b3, b4, rfl, m0, m1, m2, m3, m4⟩ := hb.is
 have s : ∀ {p q : BitVec 64}, p.toNat < 2251799813685248 → q.toNat < 2251799813685248 → (p + q).toNat = p.toNat + q.toNat := fun hp hq => Gu oM
 have hr := Rq (a0 := a0 + b0) (a1 := a1 + b1) (a2 := a2 + b2) (a3 := a3 + b3) (a4 := a4 + b4) (by rw [s k0 m0]; omega) (by rw [s k1 m1]; omega) (by rw [s k2 m2]; omega) (by rw [s k3 m3]; omega) (by rw [s k4 m4]; omega)
 refine ⟨hr.is, hr.val.trans (Cg.emod (Cg.trans ⟨0, ?_⟩ hc))⟩
 simp only [H7]
 rw [s k0 m0, s k1 m1, s k2 m2, s k3 m3, s k4 m4]
 simp only [Int.natCast_add]
 grind
theorem Nq {p q : BitVec 64} (hp : p.toNat < 2251799813685248) (hq : q.toNat < 2251799813685248) : (p + 4503599627370494#64 - q).toNat = p.toNat + 4503599627370494 - q.toNat := by
 have e : (p + 4503599627370494#64).toNat = p.toNat + 4503599627370494 := Gu (by show p.toNat + 4503599627370494 < _; omega)
 rw [BitVec.toNat_sub, e]; omega
theorem sub36 {p : BitVec 64} (h : 36 ≤ p.toNat) : (p - 36#64).toNat = p.toNat - 36 := by
 have := p.isLt
 rw [BitVec.toNat_sub]
 have e : (36#64).toNat = 36 := rfl
 rw [e]; omega
theorem less_id {a0 a1 a2 a3 a4 b0 b1 b2 b3 b4 : Nat} (m0 : b0 < 2251799813685248) (m1 : b1 < 2251799813685248) (m2 : b2 < 2251799813685248) (m3 : b3 < 2251799813685248) (m4 : b4 < 2251799813685248) :
  ((a0 + 4503599627370494 - b0 - 36 : Nat) : Int) + 2251799813685248 * ((a1 + 4503599627370494 - b1 : Nat) : Int) + 5070602400912917605986812821504 * ((a2 + 4503599627370494 - b2 : Nat) : Int) + 11417981541647679048466287755595961091061972992 * ((a3 + 4503599627370494 - b3 : Nat) : Int) + 25711008708143844408671393477458601640355247900524685364822016 * ((a4 + 4503599627370494 - b4 : Nat) : Int) =
  ((a0 : Int) + 2251799813685248 * (a1 : Int) + 5070602400912917605986812821504 * (a2 : Int) + 11417981541647679048466287755595961091061972992 * (a3 : Int) + 25711008708143844408671393477458601640355247900524685364822016 * (a4 : Int) -
  ((b0 : Int) + 2251799813685248 * (b1 : Int) + 5070602400912917605986812821504 * (b2 : Int) + 11417981541647679048466287755595961091061972992 * (b3 : Int) + 25711008708143844408671393477458601640355247900524685364822016 * (b4 : Int))) + 2 * pC := by
 have e0 : ((a0 + 4503599627370494 - b0 - 36 : Nat) : Int) = a0 + 4503599627370458 - b0 := by omega
 have e1 : ((a1 + 4503599627370494 - b1 : Nat) : Int) = a1 + 4503599627370494 - b1 := by omega
 have e2 : ((a2 + 4503599627370494 - b2 : Nat) : Int) = a2 + 4503599627370494 - b2 := by omega
 have e3 : ((a3 + 4503599627370494 - b3 : Nat) : Int) = a3 + 4503599627370494 - b3 := by omega
 have e4 : ((a4 + 4503599627370494 - b4 : Nat) : Int) = a4 + 4503599627370494 - b4 := by omega
 rw [e0, e1, e2, e3, e4]
 unfold pC
 grind
theorem Tj {a b : List (BitVec 64)} {x y : Int} (ha : Rep a x) (hb : Rep b y) : Rep (Qk a b) ((x - y) % pC) := by
 have hc : Cg (H7 a - H7 b) (x - y) := by
  have h1 : Cg (H7 a) x := by rw [← ha.val]; exact (Qdo _).symm
  have h2 : Cg (H7 b) y := by rw [← hb.val]; exact (Qdo _).symm
  exact h1.sub h2
 obtain ⟨a0, a1, a2, a3, a4, rfl, k0, k1, k2, k3, k4⟩ := ha.is
 obtain ⟨b0, b1, b2, b3, b4, rfl, m0, m1, m2, m3, m4⟩ := hb.is
 have e0 : (a0 + 4503599627370494#64 - b0 - 36#64).toNat = a0.toNat + 4503599627370494 - b0.toNat - 36 := by rw [sub36 (by rw [Nq k0 m0]; omega), Nq k0 m0]
 have hr := Rq (a0 := a0 + 4503599627370494#64 - b0 - 36#64) (a1 := a1 + 4503599627370494#64 - b1) (a2 := a2 + 4503599627370494#64 - b2) (a3 := a3 + 4503599627370494#64 - b3) (a4 := a4 + 4503599627370494#64 - b4)
  (by rw [e0]; omega) (by rw [Nq k1 m1]; omega) (by rw [Nq k2 m2]; omega) (by rw [Nq k3 m3]; omega) (by rw [Nq k4 m4]; omega)
 refine ⟨hr.is, hr.val.trans (Cg.emod (Cg.trans ⟨2, ?_⟩ hc))⟩
 simp only [H7]
 rw [e0, Nq k1 m1, Nq k2 m2, Nq k3 m3, Nq k4 m4]
 exact less_id m0 m1 m2 m3 m4
def fM (x y : Int) : Int := x * y % pC
def fA (x y : Int) : Int := (x + y) % pC
def fS (x y : Int) : Int := (x - y) % pC
def Tv (x : Int) : Nat → Int
 | 0 => 1
 | j + 1 => if j = 252 ∨ j = 250 then fM (Tv x j) (Tv x j) else fM (fM (Tv x j) (Tv x j)) x
structure LadF where
 px : Int
 pz : Int
 qx : Int
 qz : Int
def Td (px pz qx qz x1 : Int) : LadF :=
  ⟨fM (fM (fA px pz) (fA px pz)) (fM (fS px pz) (fS px pz)),
   fM (fS (fM (fA px pz) (fA px pz)) (fM (fS px pz) (fS px pz))) (fA (fM (fA px pz) (fA px pz)) (fM 121665 (fS (fM (fA px pz) (fA px pz)) (fM (fS px pz) (fS px pz))))),
   fM (fA (fM (fS qx qz) (fA px pz)) (fM (fA qx qz) (fS px pz))) (fA (fM (fS qx qz) (fA px pz)) (fM (fA qx qz) (fS px pz))),
   fM x1 (fM (fS (fM (fS qx qz) (fA px pz)) (fM (fA qx qz) (fS px pz))) (fS (fM (fS qx qz) (fA px pz)) (fM (fA qx qz) (fS px pz))))⟩
def U7 (bit : Nat → Bool) (x1 : Int) : Nat → LadF
 | 0 => ⟨1, 0, x1, 1⟩
 | j + 1 =>
  if bit j then Td (U7 bit x1 j).px (U7 bit x1 j).pz (U7 bit x1 j).qx (U7 bit x1 j).qz x1
  else ⟨(Td (U7 bit x1 j).qx (U7 bit x1 j).qz (U7 bit x1 j).px (U7 bit x1 j).pz x1).qx, (Td (U7 bit x1 j).qx (U7 bit x1 j).qz (U7 bit x1 j).px (U7 bit x1 j).pz x1).qz, (Td (U7 bit x1 j).qx (U7 bit x1 j).qz (U7 bit x1 j).px (U7 bit x1 j).pz x1).px, (Td (U7 bit x1 j).qx (U7 bit x1 j).qz (U7 bit x1 j).px (U7 bit x1 j).pz x1).pz⟩
theorem Qh9 : Rep [1#64, 0#64, 0#64, 0#64, 0#64] 1 := ⟨⟨_, _, _, _, _, rfl, by decide, by decide, by decide, by decide, by decide⟩, by decide⟩
theorem rep_zero : Rep [0#64, 0#64, 0#64, 0#64, 0#64] 0 := ⟨⟨_, _, _, _, _, rfl, by decide, by decide, by decide, by decide, by decide⟩, by decide⟩
theorem rep_a24 : Rep [121665#64, 0#64, 0#64, 0#64, 0#64] 121665 := ⟨⟨_, _, _, _, _, rfl, by decide, by decide, by decide, by decide, by decide⟩, by decide⟩
theorem Qme {a : List (BitVec 64)} {x : Int} (h : Rep a x) : ∀ j, Rep (Vp a j) (Tv x j)
 | 0 => Qh9
 | j + 1 => by
  have ih := Qme h j
  unfold Vp Tv; split
  ·exact Vo ih ih
  exact Vo (Vo ih ih) h
structure RepL (s : Lad) (f : LadF) : Prop where
 px : Rep s.px f.px
 pz : Rep s.pz f.pz
 qx : Rep s.qx f.qx
 qz : Rep s.qz f.qz
attribute [local irreducible] Qe Qz Qk Gg
theorem Qjp {px pz qx qz x1 : List (BitVec 64)} {a b c d x : Int} (h1 : Rep px a) (h2 : Rep pz b) (h3 : Rep qx c) (h4 : Rep qz d) (h5 : Rep x1 x) : RepL (U5 px pz qx qz x1) (Td a b c d x) := by
 have u := Qcd h1 h2
 have v := Tj h1 h2
 have r := Qcd h3 h4
 have s := Tj h3 h4
 have da := Vo s u
 have cb := Vo r v
 have aa := Vo u u
 have bb := Vo v v
 have e := Tj aa bb
 exact ⟨Vo aa bb, Vo e (Qcd aa (Vo rep_a24 e)), Vo (Qcd da cb) (Qcd da cb), Vo h5 (Vo (Tj da cb) (Tj da cb))⟩
theorem Qmd (k : Zj) {x1 : List (BitVec 64)} {x : Int} (h : Rep x1 x) : ∀ j, RepL (Xx k x1 j) (U7 (Nw k) x j)
 | 0 => ⟨Qh9, rep_zero, h, Qh9⟩
 | j + 1 => by
  have ih := Qmd k h j
  unfold Xx U7; simp only; split
  ·exact Qjp ih.px ih.pz ih.qx ih.qz h
  have t := Qjp ih.qx ih.qz ih.px ih.pz h
  exact ⟨t.qx, t.qz, t.px, t.pz⟩
def Rl (x : Nat) : Zj := (List.range 32).map fun j => BitVec.ofNat 8 (x / 256 ^ j)
def nB : Zj → Nat
 | [] => 0
 | b :: r => b.toNat + 256 * nB r
def vN : List (BitVec 64) → Nat
 | [] => 0
 | a :: r => a.toNat + 2251799813685248 * vN r
theorem Qm7 {w a x n : Nat} (ha : a < 2 ^ w) (hn : n < w) : (a + 2 ^ w * x).testBit n = a.testBit n := by
 rw [Nat.add_comm, Nat.testBit_two_pow_mul_add x ha, if_pos hn]
theorem Qkz {w a x n : Nat} (ha : a < 2 ^ w) (hn : w ≤ n) : (a + 2 ^ w * x).testBit n = x.testBit (n - w) := by
 rw [Nat.add_comm, Nat.testBit_two_pow_mul_add x ha, if_neg oM]
theorem nB_bit : ∀ (u : Zj) (n : Nat), (nB u).testBit n = (u.getD (n / 8) 0).getLsbD (n % 8)
 | [], n => by simp [nB]
 | b :: r, n => by
  have hb : b.toNat < 2 ^ 8 := b.isLt
  show (b.toNat + 2 ^ 8 * nB r).testBit n = _
  rcases Nat.lt_or_ge n 8 with h | h
  ·rw [Qm7 hb h, show n / 8 = 0 by omega, show n % 8 = n by omega]; rfl
  rw [Qkz hb h, nB_bit r, show n / 8 = (n - 8) / 8 + 1 by omega, show n % 8 = (n - 8) % 8 by omega]; rfl
theorem Qhy : ∀ (l : List (BitVec 64)) (n : Nat), (∀ a ∈ l, a.toNat < 2251799813685248) → (vN l).testBit n = (l.getD (n / 51) 0).getLsbD (n % 51)
 | [], n, _ => by simp [vN]
 | a :: r, n, h => by
  have hb : a.toNat < 2 ^ 51 := h a Xk
  show (a.toNat + 2 ^ 51 * vN r).testBit n = _
  rcases Nat.lt_or_ge n 51 with h1 | h1
  ·rw [Qm7 hb h1, show n / 51 = 0 by omega, show n % 51 = n by omega]; rfl
  rw [Qkz hb h1, Qhy r _ fun b hb => h b (by simp [hb]), show n / 51 = (n - 51) / 51 + 1 by omega, show n % 51 = (n - 51) % 51 by omega]; rfl
def ubit (u : Zj) (n : Nat) : Bool := (u.getD (n / 8) 0).getLsbD (n % 8)
theorem rbit_bit (u : Zj) (i t : Nat) : (rbit u i).getLsbD t = (decide (t = 0) && ubit u i) := by
 unfold rbit ubit
 rw [BitVec.getLsbD_setWidth, BitVec.getLsbD_and, BitVec.getLsbD_ushiftRight]
 by_cases h : t = 0
 ·subst h; simp
 have : (1#8).getLsbD t = false := by
  rw [BitVec.getLsbD_one]; simp [h]
 rw [this]; simp [h]
theorem Qjs (u : Zj) : ∀ i, i ≤ 255 → ∀ j t, t < 64 → ((Uj u i).getD j 0).getLsbD t = (decide (t < 51 ∧ 51 * j + t < i) && ubit u (51 * j + t)) := by
 intro i
 induction i with
 | zero =>
  intro _ j t ht
  have e : (Uj u 0).getD j 0 = 0#64 := by
   simp only [Uj, List.getD_eq_getElem?_getD, List.getElem?_replicate]; split <;> rfl
  rw [e]; simp
 | succ i ih =>
  intro hi j t ht
  have hl := F9 u i
  simp only [Uj]
  by_cases hj : i / 51 = j
  ·subst hj
   rw [Qim oM, BitVec.getLsbD_or, ih oM _ t ht, BitVec.getLsbD_shiftLeft, rbit_bit]
   by_cases h : t = i % 51
   ·subst h
    have e : 51 * (i / 51) + i % 51 = i := Nat.div_add_mod i 51
    rw [e]
    have e1 : decide (i % 51 < 51 ∧ i < i) = false := by simp
    have e2 : decide (i % 51 < 51 ∧ i < i + 1) = true := by simp; omega
    rw [e1, e2]; simp [ht]
   have e1 : decide (t < 51 ∧ 51 * (i / 51) + t < i + 1) = decide (t < 51 ∧ 51 * (i / 51) + t < i) := by
    apply decide_eq_decide.2; omega
   rw [e1]
   by_cases h2 : t < i % 51
   ·simp [h2]
   have e3 : decide (t - i % 51 = 0) = false := by simp; omega
   rw [e3]; simp
  rw [Rh hj, ih oM j t ht]
  have e1 : decide (t < 51 ∧ 51 * j + t < i + 1) = decide (t < 51 ∧ 51 * j + t < i) := by
   apply decide_eq_decide.2; omega
  rw [e1]
theorem Qla {a : BitVec 64} (h : ∀ t, t < 64 → 51 ≤ t → a.getLsbD t = false) : a.toNat < 2251799813685248 := by
 rcases Nat.lt_or_ge a.toNat 2251799813685248 with h1 | h1
 ·exact h1
 exfalso
 obtain ⟨i, hi, hb⟩ := Nat.exists_ge_and_testBit_of_ge_two_pow (n := 51) h1
 have : i < 64 := by
  rcases Nat.lt_or_ge i 64 with h2 | h2
  ·exact h2
  have := BitVec.getLsbD_of_ge a i h2
  rw [BitVec.getLsbD] at this; rw [this] at hb; cases hb
 have := h i this hi
 rw [BitVec.getLsbD] at this; rw [this] at hb; cases hb
theorem Qfd (u : Zj) : ∀ a ∈ Xu u, a.toNat < 2251799813685248 := by
 intro a ha
 obtain ⟨j, hj, rfl⟩ := List.getElem_of_mem ha
 refine Qla fun t ht h51 => ?_
 have h := Qjs u 255 (Nat.le_refl _) j t ht
 have e : (Uj u 255).getD j 0 = (Xu u)[j] := by
  have hj' : j < (Uj u 255).length := hj
  simp only [List.getD_eq_getElem?_getD, List.getElem?_eq_getElem hj']; rfl
 rw [e] at h; rw [h]; simp; omega
theorem read_val (u : Zj) : vN (Xu u) = nB u % 2 ^ 255 := by
 apply Nat.eq_of_testBit_eq
 intro n
 rw [Qhy _ _ (Qfd u), Nat.testBit_mod_two_pow, nB_bit]
 have h := Qjs u 255 (Nat.le_refl _) (n / 51) (n % 51) oM
 have e : 51 * (n / 51) + n % 51 = n := Nat.div_add_mod n 51
 rw [e] at h
 show ((Uj u 255).getD (n / 51) 0).getLsbD (n % 51) = _
 rw [h]
 have e1 : decide (n % 51 < 51 ∧ n < 255) = decide (n < 255) := by apply decide_eq_decide.2; omega
 rw [e1]; rfl
theorem Ql7 {l : List (BitVec 64)} (h : l.length = 5) : H7 l = (vN l : Int) := by
 obtain ⟨a0, a1, a2, a3, a4, rfl⟩ := Qbi l h
 simp only [H7, vN]; omega
theorem rep_read (u : Zj) : Rep (Xu u) (((nB u % 2 ^ 255 : Nat) : Int) % pC) := by
 have hl : (Xu u).length = 5 := F9 u 255
 have hs := Qfd u
 have hv := Ql7 hl
 rw [read_val] at hv
 obtain ⟨a0, a1, a2, a3, a4, he⟩ := Qbi _ hl
 rw [he] at hs hv ⊢
 exact ⟨⟨a0, a1, a2, a3, a4, rfl, hs _ Xk, hs _ Xk, hs _ Xk, hs _ Xk, hs _ Xk⟩, by rw [hv]⟩
def qbit (e : List (BitVec 64)) (n : Nat) : Bool := (e.getD (n / 51) 0).getLsbD (n % 51)
theorem wbit_bit (e : List (BitVec 64)) (i t : Nat) : (wbit e i).getLsbD t = (decide (t = 0) && qbit e i) := by
 unfold wbit qbit
 rw [BitVec.getLsbD_setWidth, BitVec.getLsbD_and, BitVec.getLsbD_ushiftRight]
 by_cases h : t = 0
 ·subst h; simp
 have : (1#64).getLsbD t = false := by
  rw [BitVec.getLsbD_one]; simp [h]
 rw [this]; simp [h]
theorem Qki {l : Zj} {i : Nat} {x : BitVec 8} (h : i < l.length) : (l.set i x).getD i 0 = x := by simp [List.getD_eq_getElem?_getD, h]
theorem Qkh {l : Zj} {i j : Nat} {x : BitVec 8} (h : i ≠ j) : (l.set i x).getD j 0 = l.getD j 0 := by simp [List.getD_eq_getElem?_getD, h]
theorem Qm9 (e : List (BitVec 64)) : ∀ i, i ≤ 255 → ∀ j t, t < 8 → ((Kr e i).getD j 0).getLsbD t = (decide (8 * j + t < i) && qbit e (8 * j + t)) := by
 intro i
 induction i with
 | zero =>
  intro _ j t ht
  have h : (Kr e 0).getD j 0 = 0#8 := by
   simp only [Kr, List.getD_eq_getElem?_getD, List.getElem?_replicate]; split <;> rfl
  rw [h]; simp
 | succ i ih =>
  intro hi j t ht
  have hl := Vz e i
  simp only [Kr]
  by_cases hj : i / 8 = j
  ·subst hj
   rw [Qki oM, BitVec.getLsbD_or, ih oM _ t ht, BitVec.getLsbD_shiftLeft, wbit_bit]
   by_cases h : t = i % 8
   ·subst h
    have e0 : 8 * (i / 8) + i % 8 = i := Nat.div_add_mod i 8
    rw [e0]; simp [ht]
   have e1 : decide (8 * (i / 8) + t < i + 1) = decide (8 * (i / 8) + t < i) := by
    apply decide_eq_decide.2; omega
   rw [e1]
   by_cases h2 : t < i % 8
   ·simp [h2]
   have e3 : decide (t - i % 8 = 0) = false := by simp; omega
   rw [e3]; simp
  rw [Qkh hj, ih oM j t ht]
  have e1 : decide (8 * j + t < i + 1) = decide (8 * j + t < i) := by
   apply decide_eq_decide.2; omega
  rw [e1]
theorem Qnz {l : Zj} {j : Nat} (h : j < l.length) : l.getD j 0 = l[j] := by simp [List.getD_eq_getElem?_getD, h]
theorem Qgu {e : List (BitVec 64)} (hs : ∀ a ∈ e, a.toNat < 2251799813685248) (hv : vN e < 2 ^ 255) : Kr e 255 = Rl (vN e) := by
 refine List.ext_getElem (by rw [Vz]; simp [Rl]) fun j h1 h2 => ?_
 apply BitVec.eq_of_getLsbD_eq
 intro t ht
 have h := Qm9 e 255 (Nat.le_refl _) j t ht
 have e1 := Qnz h1
 rw [e1] at h
 rw [h]
 have e2 : (Rl (vN e))[j] = BitVec.ofNat 8 (vN e / 256 ^ j) := by simp [Rl]
 rw [e2, BitVec.getLsbD_ofNat, show (256 : Nat) = 2 ^ 8 from rfl, ← Nat.pow_mul, Nat.testBit_div_two_pow, Qhy e _ hs]
 have e3 : t + 8 * j = 8 * j + t := by omega
 rw [e3]
 by_cases hlt : 8 * j + t < 255
 ·simp [hlt, ht, qbit]
 have hz : (vN e).testBit (8 * j + t) = false := Nat.testBit_lt_two_pow (Nat.lt_of_lt_of_le hv (Nat.pow_le_pow_right oM oM))
 rw [Qhy e _ hs] at hz
 rw [hz]; simp [hlt]
theorem over1_ok {a0 a1 a2 a3 a4 : BitVec 64} (h0 : a0.toNat < 2251799813685248) (h1 : a1.toNat < 2251799813685248) (h2 : a2.toNat < 2251799813685248) (h3 : a3.toNat < 2251799813685248) (h4 : a4.toNat < 2251799813685248) :
  ∃ (r0 r1 r2 r3 r4 c : BitVec 64), over1 [a0, a1, a2, a3, a4] = ([r0, r1, r2, r3, r4], c) ∧ r0.toNat < 2251799813685248 ∧ r1.toNat < 2251799813685248 ∧ r2.toNat < 2251799813685248 ∧ r3.toNat < 2251799813685248 ∧ r4.toNat < 2251799813685248 ∧
   vN [a0, a1, a2, a3, a4] + 19 = vN [r0, r1, r2, r3, r4] + 57896044618658097711785492504343953926634992332820282019728792003956564819968 * c.toNat := by
 refine ⟨_, _, _, _, _, _, rfl, ?_⟩
 have e0 : (a0 + 19#64).toNat = a0.toNat + 19 := Gu (by show a0.toNat + 19 < _; omega)
 generalize a0 + 19#64 = s0 at *
 obtain ⟨q0, r0, p0, u0, x0, y0⟩ := Bh s0
 have e1 : (a1 + s0 >>> 51).toNat = a1.toNat + q0 := by rw [Gu oM, x0]
 generalize a1 + s0 >>> 51 = s1 at *
 obtain ⟨q1, r1, p1, u1, x1, y1⟩ := Bh s1
 have e2 : (a2 + s1 >>> 51).toNat = a2.toNat + q1 := by rw [Gu oM, x1]
 generalize a2 + s1 >>> 51 = s2 at *
 obtain ⟨q2, r2, p2, u2, x2, y2⟩ := Bh s2
 have e3 : (a3 + s2 >>> 51).toNat = a3.toNat + q2 := by rw [Gu oM, x2]
 generalize a3 + s2 >>> 51 = s3 at *
 obtain ⟨q3, r3, p3, u3, x3, y3⟩ := Bh s3
 have e4 : (a4 + s3 >>> 51).toNat = a4.toNat + q3 := by rw [Gu oM, x3]
 generalize a4 + s3 >>> 51 = s4 at *
 obtain ⟨q4, r4, p4, u4, x4, y4⟩ := Bh s4
 rw [y0, y1, y2, y3, y4]
 refine ⟨u0, u1, u2, u3, u4, ?_⟩
 simp only [vN]
 rw [y0, y1, y2, y3, y4, x4]
 rw [e0] at p0
 rw [e1] at p1
 rw [e2] at p2
 rw [e3] at p3
 rw [e4] at p4
 clear e0 e1 e2 e3 e4 y0 y1 y2 y3 y4 x0 x1 x2 x3 x4 u0 u1 u2 u3 u4 h0 h1 h2 h3 h4
 generalize a0.toNat = b0 at *
 generalize a1.toNat = b1 at *
 generalize a2.toNat = b2 at *
 generalize a3.toNat = b3 at *
 generalize a4.toNat = b4 at *
 omega
def pN : Nat := 57896044618658097711785492504343953926634992332820282019728792003956564819949
theorem vN_lt {a0 a1 a2 a3 a4 : BitVec 64} (h0 : a0.toNat < 2251799813685248) (h1 : a1.toNat < 2251799813685248) (h2 : a2.toNat < 2251799813685248) (h3 : a3.toNat < 2251799813685248) (h4 : a4.toNat < 2251799813685248) : vN [a0, a1, a2, a3, a4] < 57896044618658097711785492504343953926634992332820282019728792003956564819968 := by
 simp only [vN]; omega
theorem all5 {P : BitVec 64 → Prop} {a b c d e : BitVec 64} (h1 : P a) (h2 : P b) (h3 : P c) (h4 : P d) (h5 : P e) : ∀ x ∈ [a, b, c, d, e], P x := by
 intro x hx
 simp only [List.mem_cons, List.not_mem_nil, or_false] at hx
 rcases hx with rfl | rfl | rfl | rfl | rfl <;> assumption
theorem canon {v n c : Nat} (hv : v < 57896044618658097711785492504343953926634992332820282019728792003956564819968) (hn : n < 57896044618658097711785492504343953926634992332820282019728792003956564819968) (h : v + 19 = n + 57896044618658097711785492504343953926634992332820282019728792003956564819968 * c) :
  (0 < c → n = v % pN) ∧ (¬ 0 < c → v = v % pN) := by
 unfold pN
 constructor
 ·intro hc; omega
 intro hc; omega
theorem Qog {e : List (BitVec 64)} {x : Int} (h : Rep e x) : Lu e = Rl x.toNat := by
 obtain ⟨a0, a1, a2, a3, a4, rfl, h0, h1, h2, h3, h4⟩ := h.is
 have hr := Rq (Qek h0) (Qek h1) (Qek h2) (Qek h3) (Qek h4)
 rw [h.val] at hr
 obtain ⟨b0, b1, b2, b3, b4, he, k0, k1, k2, k3, k4⟩ := hr.is
 have hv := hr.val
 rw [he] at hv
 obtain ⟨r0, r1, r2, r3, r4, c, ho, g0, g1, g2, g3, g4, hs⟩ := over1_ok k0 k1 k2 k3 k4
 have hlt := vN_lt k0 k1 k2 k3 k4
 have hlt2 := vN_lt g0 g1 g2 g3 g4
 obtain ⟨c1, c2⟩ := canon hlt hlt2 hs
 have hx : vN [b0, b1, b2, b3, b4] % pN = x.toNat := by
  rw [Ql7 rfl] at hv
  rw [← hv]
  have e : (vN [b0, b1, b2, b3, b4] : Int) % pC = ((vN [b0, b1, b2, b3, b4] % pN : Nat) : Int) := by rw [Int.natCast_emod]; rfl
  rw [e]; rfl
 unfold Lu We
 rw [he, ho]
 simp only
 have z : (0#64).toNat = 0 := rfl
 rw [z]
 split
 ·rename_i hc
  rw [Qgu (all5 g0 g1 g2 g3 g4) hlt2, c1 hc, hx]
 rename_i hc
 rw [Qgu (all5 k0 k1 k2 k3 k4) hlt, c2 hc, hx]
def multF (k : Zj) (x : Int) : Zj := Rl (fM (U7 (Nw k) x 255).px (Tv (U7 (Nw k) x 255).pz 255)).toNat
theorem Qav (k u : Zj) : Qi k u = multF (Xo k) (((nB u % 2 ^ 255 : Nat) : Int) % pC) := by
 have l := Qmd (Xo k) (rep_read u) 255
 exact Qog (Vo l.px (Qme l.pz 255))
end Go.Proofs.YtkmiemlpfkfiiaaDoor
