/- The products of numbers commute. Conditions: none beyond those that each theorem states. -/
import Derived.Test.YtkmiemlpfkfiiaaDoorCuS
import Derived.Test.YtkmiemlpfkfiiaaDoorCuQ
namespace Go.Proofs.YtkmiemlpfkfiiaaDoor
set_option linter.unusedVariables false
set_option linter.unusedSimpArgs false
def mH : Nat := 28948022309329048855892746252171976963317496166410141009864396001978282409974
def mQ : Nat := 14474011154664524427946373126085988481658748083205070504932198000989141204987
def mE : Nat := 7237005577332262213973186563042994240829374041602535252466099000494570602494
def iR : Nat := 19681161376707505956807079304988542015446066515923890162744021073123829784752
theorem mH_eq : 2 * mH + 1 = pN := by decide +kernel
theorem mQ_eq : mQ + mQ = mH := by decide +kernel
theorem mE_eq : mE + mE = mQ + 1 := by decide +kernel
theorem iR_sq : iR * iR % pN = pN - 1 := by decide +kernel
theorem Qid : Pri pN := pri_p
theorem Qfl : 2 < pN := by decide +kernel
def dN1 : Nat := 20800338683988658368647408995589388737092878452977063003340006470870624536394
def dN2 : Nat := 28692721048178265397853269683490922171210976843790175684556505508326675974058
def nN : Nat := 236839902240
theorem euler_d1 : pwB pN dN1 (Gx 254 mH) 1 % pN = pN - 1 := by decide +kernel
theorem euler_d2 : pwB pN dN2 (Gx 254 mH) 1 % pN = pN - 1 := by decide +kernel
theorem euler_n : pwB pN nN (Gx 254 mH) 1 % pN = pN - 1 := by decide +kernel
theorem Qm6 : valB (Gx 254 mH) 0 = mH := by decide +kernel
theorem dN1_eq : dN1 * 121666 % pN = 121665 := by decide +kernel
theorem dN2_eq : dN2 * 121665 % pN = 121666 := by decide +kernel
section
variable {z t : Nat}
theorem sq_one {w : Nat} (hl : w < pN) (h : w * w % pN = 1) : w = 1 ∨ w = pN - 1 := by
 have h2 := Qfl
 by_cases hw : w = 0
 ·subst hw; simp at h
 have h4 : (w - 1) * (w + 1) = w * w - 1 := by
  obtain ⟨v, rfl⟩ : ∃ v, w = v + 1 := ⟨w - 1, by omega⟩
  rw [Nat.add_sub_cancel]
  have : (v + 1) * (v + 1) = v * (v + 1 + 1) + 1 := by grind
  omega
 have hd : pN ∣ (w - 1) * (w + 1) := by
  rw [h4]; exact Nat.dvd_of_mod_eq_zero (Nat.sub_mod_eq_zero_of_mod_eq (by rw [h]; exact (Nat.mod_eq_of_lt oM).symm))
 rcases Qid.dvd_mul hd with c | c
 ·left
  by_cases h1 : w - 1 = 0
  ·omega
  have := Nat.le_of_dvd oM c; omega
 right
 have := Nat.le_of_dvd oM c; omega
theorem Qij (x : Nat) : x % pN < pN := Nat.mod_lt _ (by have := Qfl; omega)
theorem pow_half (h : ¬ pN ∣ z) : z ^ mH % pN = 1 ∨ z ^ mH % pN = pN - 1 := by
 have hf := Qet Qid h
 have e : pN - 1 = mH + mH := by have := mH_eq; omega
 rw [e, Nat.pow_add, Nat.mul_mod] at hf
 exact sq_one (Qij _) hf
theorem sq_half (h : ¬ pN ∣ t) (hz : t * t % pN = z % pN) : z ^ mH % pN = 1 := by
 have hf := Qet Qid h
 have e : pN - 1 = 2 * mH := by have := mH_eq; omega
 rw [e, Nat.pow_mul, Nat.pow_mod, Nat.pow_two, hz, ← Nat.pow_mod] at hf
 exact hf
theorem neg_sq : (pN - 1) * (pN - 1) % pN = 1 := by
 have h2 := Qfl
 obtain ⟨q, hq⟩ : ∃ q, pN = q + 1 := ⟨pN - 1, by omega⟩
 rw [hq, Nat.add_sub_cancel]
 have : q * q = 1 + (q + 1) * (q - 1) := by
  obtain ⟨r, rfl⟩ : ∃ r, q = r + 1 := ⟨q - 1, by omega⟩
  rw [Nat.add_sub_cancel]; grind
 rw [this, Nat.add_mul_mod_self_left]
 exact Nat.mod_eq_of_lt oM
theorem mod_shuf {q v P : Nat} : q * v % P * q % P = v * (q * q % P) % P := by
 rw [Nat.mod_mul_mod, Nat.mul_mod_mod, show q * v * q = v * (q * q) by grind]
theorem fermat2 {P v e : Nat} (hp : Pri P) (h : ¬ P ∣ v) (he : e + 2 = P) : v * v ^ e % P = 1 % P := by
 have hf := Qet hp h
 have h2 := hp.1
 rw [show P - 1 = e + 1 by omega, Nat.pow_succ, Nat.mul_comm] at hf
 rw [hf, Nat.mod_eq_of_lt oM]
theorem root_of (h : ¬ pN ∣ z) (h1 : z ^ mH % pN = 1) : ∃ t, t * t % pN = z % pN := by
 have e := mQ_eq
 have hq : (z ^ mQ % pN) * (z ^ mQ % pN) % pN = 1 := by rw [← Nat.mul_mod, ← Nat.pow_add, e]; exact h1
 have hr : z ^ mE * z ^ mE = z ^ mQ * z := by rw [← Nat.pow_add, mE_eq, Nat.pow_succ]
 rcases sq_one (Qij _) hq with c | c
 ·exact ⟨z ^ mE, by rw [hr, Nat.mul_mod, c, Nat.one_mul, Nat.mod_mod]⟩
 refine ⟨z ^ mE * iR, ?_⟩
 have e1 : z ^ mE * iR * (z ^ mE * iR) = z ^ mQ * z * (iR * iR) := by rw [← hr]; grind
 rw [e1, Nat.mul_mod, iR_sq, Nat.mul_mod (z ^ mQ), c]
 rw [mod_shuf, neg_sq, Nat.mul_one, Nat.mod_mod]
theorem no_root {D : Nat} (h : pwB pN D (Gx 254 mH) 1 % pN = pN - 1) (hD : ¬ pN ∣ D) : t * t % pN ≠ D % pN := fun hz => by
 have h2 := Qfl
 have e := pw_eq Qm6 h
 have ht : ¬ pN ∣ t := fun ⟨c, hc⟩ => by
  rw [hc, Nat.mul_assoc, Nat.mul_mod_right] at hz
  exact hD (Nat.dvd_of_mod_eq_zero hz.symm)
 rw [sq_half ht hz] at e
 omega
end
instance neP : NeZero pN := ⟨by decide⟩
abbrev Fp : Type := Fin pN
def Sr (n : Nat) : Fp := (⟨n % pN, Qij n⟩ : Fin pN)
def Qa4 (z : Fp) : Nat := (show Fin pN from z).val
theorem valP_lt (z : Fp) : Qa4 z < pN := (show Fin pN from z).isLt
theorem Qat (z : Fp) : Sr (Qa4 z) = z := Fin.ext (Nat.mod_eq_of_lt (valP_lt z))
theorem Qhx (n : Nat) : Qa4 (Sr n) = n % pN := rfl
theorem Nv {m n : Nat} (h : m % pN = n % pN) : Sr m = Sr n := Fin.ext h
theorem Qii {m n : Nat} (h : Sr m = Sr n) : m % pN = n % pN := congrArg Qa4 h
theorem Em (m n : Nat) : Sr (m * n) = Sr m * Sr n := Fin.ext (Nat.mul_mod m n pN)
theorem Qes (m n : Nat) : Sr (m + n) = Sr m + Sr n := Fin.ext (Nat.add_mod m n pN)
theorem Qfq : Sr 0 = 0 := Fin.ext rfl
theorem Qj4 : Sr 1 = 1 := Fin.ext rfl
theorem ofN_succ (n : Nat) : Sr (n + 1) = Sr n + 1 := by rw [Qes, Qj4]
def Uo (x : Int) : Fp := Sr (x % pC).toNat
theorem Qg5 : pC = (pN : Int) := rfl
theorem Qaq (n : Nat) : Uo (n : Int) = Sr n := by
 unfold Uo; rw [Qg5]
 exact Nv (by rw [← Int.natCast_emod, Int.toNat_natCast, Nat.mod_mod])
theorem Qai (x : Int) : ∃ n : Nat, x % pC = (n : Int) ∧ (x % pC).toNat = n := ⟨(x % pC).toNat, (Int.toNat_of_nonneg (Int.emod_nonneg x Yh)).symm, rfl⟩
theorem Qh1 (x : Int) : Uo (x % pC) = Uo x := by unfold Uo; rw [Int.emod_emod_of_dvd x (Int.dvd_refl pC)]
theorem Qb2 {x y : Int} (h : x % pC = y % pC) : Uo x = Uo y := by unfold Uo; rw [h]
theorem toP_mul (x y : Int) : Uo (x * y) = Uo x * Uo y := by
 obtain ⟨m, h1, h2⟩ := Qai x
 obtain ⟨n, h3, h4⟩ := Qai y
 rw [Qb2 (y := ((m * n : Nat) : Int)) (by rw [Int.mul_emod, h1, h3, Int.natCast_mul]), Qaq, Em]
 unfold Uo; rw [h2, h4]
theorem Qmb (x y : Int) : Uo (x + y) = Uo x + Uo y := by
 obtain ⟨m, h1, h2⟩ := Qai x
 obtain ⟨n, h3, h4⟩ := Qai y
 rw [Qb2 (y := ((m + n : Nat) : Int)) (by rw [Int.add_emod, h1, h3, Int.natCast_add]), Qaq, Qes]
 unfold Uo; rw [h2, h4]
theorem toP_sub (x y : Int) : Uo (x - y) = Uo x - Uo y := by
 have h := Qmb (x - y) y
 rw [Int.sub_add_cancel] at h
 generalize Uo (x - y) = u at *
 generalize Uo x = v at *
 generalize Uo y = w at *
 grind
theorem toP_inj {x y : Int} (hx : 0 ≤ x ∧ x < pC) (hy : 0 ≤ y ∧ y < pC) (h : Uo x = Uo y) : x = y := by
 have h1 := Qii h
 rw [Int.emod_eq_of_lt hx.1 hx.2, Int.emod_eq_of_lt hy.1 hy.2] at h1
 have e := Qg5
 rw [Nat.mod_eq_of_lt oM, Nat.mod_eq_of_lt oM] at h1
 omega
theorem toP_M (x y : Int) : Uo (fM x y) = Uo x * Uo y := by unfold fM; rw [Qh1, toP_mul]
theorem toP_A (x y : Int) : Uo (fA x y) = Uo x + Uo y := by unfold fA; rw [Qh1, Qmb]
theorem toP_S (x y : Int) : Uo (fS x y) = Uo x - Uo y := by unfold fS; rw [Qh1, toP_sub]
theorem toP_0 : Uo 0 = 0 := by rw [show (0 : Int) = ((0 : Nat) : Int) from rfl, Qaq, Qfq]
theorem toP_1 : Uo 1 = 1 := by rw [show (1 : Int) = ((1 : Nat) : Int) from rfl, Qaq, Qj4]
def eI : Nat → Nat
 | 0 => 0
 | j + 1 => if j = 252 ∨ j = 250 then 2 * eI j else 2 * eI j + 1
theorem eI_255 : eI 255 + 2 = pN := by decide +kernel
theorem Qkf (n : Nat) : ∀ j, (Tv (n : Int) j) % pC = ((n ^ eI j % pN : Nat) : Int) % pC
 | 0 => rfl
 | j + 1 => by
  have ih := Qkf n j
  have hs : fM (Tv (n : Int) j) (Tv (n : Int) j) % pC = ((n ^ (2 * eI j) % pN : Nat) : Int) % pC := by
   unfold fM
   rw [Int.emod_emod_of_dvd _ (Int.dvd_refl pC), Int.mul_emod, ih, ← Int.mul_emod, ← Int.natCast_mul, Qg5, ← Int.natCast_emod, ← Int.natCast_emod, ← Nat.mul_mod, ← Nat.pow_add, Nat.two_mul, Nat.mod_mod]
  unfold Tv eI
  by_cases h : j = 252 ∨ j = 250
  ·rw [if_pos h, if_pos h]; exact hs
  rw [if_neg h, if_neg h]
  show fM (fM _ _) _ % pC = _
  have : ∀ y : Int, fM y (n : Int) % pC = (y % pC) * (n : Int) % pC := fun y => by
   unfold fM; rw [Int.emod_emod_of_dvd _ (Int.dvd_refl pC), Int.mul_emod y, Int.mul_emod (y % pC) (n : Int), Int.emod_emod_of_dvd y (Int.dvd_refl pC)]
  rw [this, hs, Qg5, ← Int.natCast_emod, ← Int.natCast_mul, ← Int.natCast_emod, ← Int.natCast_emod, Nat.mod_mod, Nat.mod_mod, Nat.mod_mul_mod, Nat.pow_succ]
noncomputable def invP (z : Fp) : Fp := Uo (Tv (Qa4 z : Int) 255)
theorem Qkd (z : Fp) : invP z = Sr (Qa4 z ^ eI 255) := by
 unfold invP
 rw [Qb2 (Qkf (Qa4 z) 255), Qaq]
 exact Nv (Nat.mod_mod _ _)
theorem Qk9 {z : Fp} (hz : z ≠ 0) : ¬ pN ∣ Qa4 z := fun h => hz (by rw [← Qat z, ← Qfq]; exact Nv (by rw [Nat.mod_eq_zero_of_dvd h, Nat.zero_mod]))
theorem mul_pw {v : Nat} (h : ¬ pN ∣ v) : Sr v * Sr (v ^ eI 255) = 1 := by
 rw [← Em, ← Qj4]
 exact Nv (fermat2 Qid h eI_255)
theorem mul_invP (z : Fp) (hz : z ≠ 0) : z * invP z = 1 := by
 have h := mul_pw (Qk9 hz)
 rw [← Qkd, Qat] at h
 exact h
theorem Qnu : invP 0 = 0 := by
 have h : Qa4 (0 : Fp) = 0 := rfl
 have e : eI 255 ≠ 0 := fun h0 => by have h1 := eI_255; have h2 := Qfl; rw [h0] at h1; omega
 rw [Qkd, h, Nat.zero_pow (Nat.pos_of_ne_zero e), Qfq]
theorem Qih {m n : Nat} (h : (m % pN == n % pN) = false) : Sr m ≠ Sr n := fun e => by
 have := Qii e
 rw [this] at h; simp at h
theorem fin_two {c : Nat} [NeZero c] : (1 : Fin c) + 1 = 2 := by grind
theorem two_P : (2 : Fp) = Sr 2 := by
 have h : (1 : Fp) + 1 = 2 := fin_two
 rw [← h, ← Qj4, ← Qes]
theorem nonsqP {D : Nat} (h : pwB pN D (Gx 254 mH) 1 % pN = pN - 1) (hD : ¬ pN ∣ D) (s : Fp) : s * s ≠ Sr D := fun e => by
 rw [← Qat s, ← Em] at e
 exact no_root h hD (Qii e)
noncomputable def edP (D : Nat) (h : pwB pN D (Gx 254 mH) 1 % pN = pN - 1) (hD : ¬ pN ∣ D) : Ed pN where
 inv := invP
 mul_inv := mul_invP
 inv_zero := Qnu
 one_ne := by rw [← Qj4, ← Qfq]; exact Qih (by decide +kernel)
 two_ne := by rw [two_P, ← Qfq]; exact Qih (by decide +kernel)
 d := Sr D
 nonsq := nonsqP h hD
theorem Qmj {D : Nat} (h : (D % pN == 0) = false) : ¬ pN ∣ D := fun e => by rw [Nat.mod_eq_zero_of_dvd e] at h; simp at h
noncomputable def ed1 : Ed pN := edP dN1 euler_d1 (Qmj (by decide +kernel))
noncomputable def ed2 : Ed pN := edP dN2 euler_d2 (Qmj (by decide +kernel))
noncomputable def aP : Fp := Sr 121665
theorem aP_0 : aP ≠ 0 := by unfold aP; rw [← Qfq]; exact Qih (by decide +kernel)
theorem aP_s : aP + 1 = Sr 121666 := by unfold aP; rw [← ofN_succ]
theorem aP_1 : aP + 1 ≠ 0 := by rw [aP_s, ← Qfq]; exact Qih (by decide +kernel)
theorem mo1 : Mo ed1 aP 1 := ⟨aP_0, aP_1, .inl ⟨rfl, by
 show Sr dN1 * (aP + 1) = aP
 rw [aP_s, ← Em]; unfold aP
 exact Nv (by rw [dN1_eq]; decide +kernel)⟩⟩
theorem mo2 : Mo ed2 aP (-1) := ⟨aP_0, aP_1, .inr ⟨rfl, by
 show Sr dN2 * aP = aP + 1
 rw [aP_s]; unfold aP; rw [← Em]
 exact Nv (by rw [dN2_eq]; decide +kernel)⟩⟩
section
variable {cP : Nat} [NeZero cP] {E : Ed cP} {a x s : (Fin cP)}
theorem Qce (E : Ed cP) {u w : (Fin cP)} (hu : u ≠ 0) (hw : w * w = E.d * (u * u)) : False := E.not_sq hu hw
theorem on_one {d a x u v s : (Fin cP)} (hd : d * (a + 1) = a) (hs : s * s = (4 * a + 4) * (x * (x * x + (4 * a + 2) * x + 1))) (i : s * u = 1) (j : (x + 1) * v = 1) :
  ((4 * a + 4) * x * u) * ((4 * a + 4) * x * u) + ((x - 1) * v) * ((x - 1) * v) = 1 + d * (((4 * a + 4) * x * u) * ((4 * a + 4) * x * u)) * (((x - 1) * v) * ((x - 1) * v)) := by grind
theorem on_two {d a x u v s : (Fin cP)} (hd : d * a = a + 1) (hs : s * s = (4 * a) * (x * (x * x + (4 * a + 2) * x + 1))) (i : s * u = 1) (j : (x - 1) * v = 1) :
  ((4 * a) * x * u) * ((4 * a) * x * u) + ((x + 1) * v) * ((x + 1) * v) = 1 + d * (((4 * a) * x * u) * ((4 * a) * x * u)) * (((x + 1) * v) * ((x + 1) * v)) := by grind
theorem four_P (E : Ed cP) : (4 : (Fin cP)) ≠ 0 := fun h => (E.mul_ne E.two_ne E.two_ne) (by grind)
theorem A_ne (E : Ed cP) (ha : a + 1 ≠ 0) : 4 * a + 4 ≠ 0 := fun h => (E.mul_ne (four_P E) ha) (by grind)
theorem q_ne (hd : E.d * (a + 1) = a) (hA : 4 * a + 4 ≠ 0) : x * x + (4 * a + 2) * x + 1 ≠ 0 := fun h => Qce E hA (w := 2 * x + (4 * a + 2)) (by grind)
theorem pt_one (hd : E.d * (a + 1) = a) (ha : a + 1 ≠ 0) (hx : x ≠ 0) (hs : s * s = (4 * a + 4) * (x * (x * x + (4 * a + 2) * x + 1))) : ∃ B : Pt E, uvK E 1 B.y = x := by
 have four : (4 : (Fin cP)) ≠ 0 := fun h => (E.mul_ne E.two_ne E.two_ne) (by grind)
 have hA : 4 * a + 4 ≠ 0 := fun h => (E.mul_ne four ha) (by grind)
 have hf : x * x + (4 * a + 2) * x + 1 ≠ 0 := fun h => Qce E hA (w := 2 * x + (4 * a + 2)) (by grind)
 have hs0 : s ≠ 0 := fun h => (E.mul_ne hA (E.mul_ne hx hf)) (by rw [← hs, h]; grind)
 have hx1 : x + 1 ≠ 0 := fun h => Qce E hA (w := s) (by
  have : x = -1 := by grind
  rw [hs, this]; grind)
 have i := E.mul_inv _ hs0
 have j := E.mul_inv _ hx1
 refine ⟨⟨(4 * a + 4) * x * E.inv s, (x - 1) * E.inv (x + 1), ?_⟩, ?_⟩
 ·exact on_one hd hs i j
 show (1 + (x - 1) * E.inv (x + 1)) * E.inv (1 * (1 - (x - 1) * E.inv (x + 1))) = x
 generalize E.inv (x + 1) = v at *
 have h1 : 1 * (1 - (x - 1) * v) ≠ 0 := fun h => E.two_ne (by grind)
 have k := E.mul_inv _ h1
 generalize E.inv (1 * (1 - (x - 1) * v)) = w at *
 refine E.cancel h1 ?_
 grind
theorem pt_two (hd : E.d * a = a + 1) (ha : a ≠ 0) (hx : x ≠ 0) (hs : s * s = (4 * a) * (x * (x * x + (4 * a + 2) * x + 1))) : ∃ B : Pt E, uvK E (-1) B.y = x := by
 have four : (4 : (Fin cP)) ≠ 0 := fun h => (E.mul_ne E.two_ne E.two_ne) (by grind)
 have hA : 4 * a ≠ 0 := E.mul_ne four ha
 have hf : x * x + (4 * a + 2) * x + 1 ≠ 0 := fun h => Qce E hA (w := 2 * x + (4 * a + 2)) (by grind)
 have hs0 : s ≠ 0 := fun h => (E.mul_ne hA (E.mul_ne hx hf)) (by rw [← hs, h]; grind)
 have hx1 : x - 1 ≠ 0 := fun h => Qce E hA (w := s) (by
  have : x = 1 := by grind
  rw [hs, this]; grind)
 have i := E.mul_inv _ hs0
 have j := E.mul_inv _ hx1
 refine ⟨⟨(4 * a) * x * E.inv s, (x + 1) * E.inv (x - 1), ?_⟩, ?_⟩
 ·exact on_two hd hs i j
 show (1 + (x + 1) * E.inv (x - 1)) * E.inv (-1 * (1 - (x + 1) * E.inv (x - 1))) = x
 generalize E.inv (x - 1) = v at *
 have h1 : -1 * (1 - (x + 1) * v) ≠ 0 := fun h => E.two_ne (by grind)
 have k := E.mul_inv _ h1
 generalize E.inv (-1 * (1 - (x + 1) * v)) = w at *
 refine E.cancel h1 ?_
 grind
theorem uv_zero (s : (Fin cP)) : uvK E s (Pt.zero : Pt E).y = 0 := by
 unfold uvK
 have e1 : (Pt.zero : Pt E).y = 1 := rfl
 rw [e1, show s * (1 - (1 : (Fin cP))) = 0 by grind, E.inv_zero]; grind
end
theorem root_P {z : Fp} (hz : z ≠ 0) (h : Qa4 z ^ mH % pN = 1) : ∃ t : Fp, t * t = z := by
 obtain ⟨t, ht⟩ := root_of (Qk9 hz) h
 refine ⟨Sr t, ?_⟩
 rw [← Em, ← Qat z]; exact Nv ht
theorem mul_half {u v P : Nat} (hu : u % P = P - 1) (hv : v % P = P - 1) (h : (P - 1) * (P - 1) % P = 1) : u * v % P = 1 := by rw [Nat.mul_mod, hu, hv, h]
theorem val_mul (y z : Fp) : Qa4 (y * z) = Qa4 y * Qa4 z % pN := by
 conv => lhs; rw [← Qat y, ← Qat z, ← Em, Qhx]
theorem Qkr {z n : Fp} (hz : z ≠ 0) (hzn : z * n ≠ 0) (hn : Qa4 n ^ mH % pN = pN - 1) : (∃ t : Fp, t * t = z) ∨ ∃ t : Fp, t * t = z * n := by
 rcases pow_half (Qk9 hz) with h | h
 ·exact .inl (root_P hz h)
 refine .inr (root_P hzn ?_)
 rw [val_mul, ← Nat.pow_mod, Nat.mul_pow]
 exact mul_half h hn neg_sq
theorem fin_four {c : Nat} [NeZero c] : (2 : Fin c) * 2 = 4 := by grind
theorem a_num : (4 * aP + 4) * (4 * aP) = Sr nN := by
 have h4 : (4 : Fp) = Sr 4 := by
  have h : (2 : Fp) * 2 = 4 := fin_four
  rw [← h, two_P, ← Em]
 unfold aP
 rw [h4, ← Em, ← Qes, ← Em]
 exact Nv (by decide +kernel)
theorem nN_half : Qa4 (Sr nN) ^ mH % pN = pN - 1 := by
 rw [Qhx, ← Nat.pow_mod]; exact pw_eq Qm6 euler_n
theorem root_two {cP : Nat} [NeZero cP] {a t w c q : (Fin cP)} (hc : c = 4 * a + 4) (hw : c * w = 1) (h : t * t = c * q * (c * (4 * a))) : (t * w) * (t * w) = (4 * a) * q := by
 have : (t * w) * (t * w) = (t * t) * (w * w) := by grind
 rw [this, h]; grind
theorem pt_any (x : Fp) : (∃ B : Pt ed1, uvK ed1 1 B.y = x) ∨ ∃ B : Pt ed2, uvK ed2 (-1) B.y = x := by
 by_cases hx : x = 0
 ·subst hx; exact .inl ⟨Pt.zero, uv_zero 1⟩
 obtain ⟨_, hd1⟩ : (1 : Fp) = 1 ∧ ed1.d * (aP + 1) = aP := ⟨rfl, by
  show Sr dN1 * (aP + 1) = aP
  rw [aP_s, ← Em]; unfold aP
  exact Nv (by rw [dN1_eq]; decide +kernel)⟩
 obtain ⟨_, hd2⟩ : (1 : Fp) = 1 ∧ ed2.d * aP = aP + 1 := ⟨rfl, by
  show Sr dN2 * aP = aP + 1
  rw [aP_s]; unfold aP; rw [← Em]
  exact Nv (by rw [dN2_eq]; decide +kernel)⟩
 have four := four_P ed1
 have hA := A_ne ed1 aP_1
 have hf := q_ne (x := x) hd1 hA
 have hz : (4 * aP + 4) * (x * (x * x + (4 * aP + 2) * x + 1)) ≠ 0 := ed1.mul_ne hA (ed1.mul_ne hx hf)
 have hzn : (4 * aP + 4) * (x * (x * x + (4 * aP + 2) * x + 1)) * Sr nN ≠ 0 := by
  rw [← a_num]; exact ed1.mul_ne hz (ed1.mul_ne hA (ed1.mul_ne four aP_0))
 rcases Qkr hz hzn nN_half with ⟨t, ht⟩ | ⟨t, ht⟩
 ·exact .inl (pt_one hd1 aP_1 hx ht)
 rw [← a_num] at ht
 exact .inr (pt_two hd2 aP_0 hx (root_two rfl (ed1.mul_inv _ hA) ht))
theorem step_P (a b c d x : Int) : Uo (Td a b c d x).px = (Le aP (Uo a) (Uo b) (Uo c) (Uo d) (Uo x)).px ∧ Uo (Td a b c d x).pz = (Le aP (Uo a) (Uo b) (Uo c) (Uo d) (Uo x)).pz ∧
  Uo (Td a b c d x).qx = (Le aP (Uo a) (Uo b) (Uo c) (Uo d) (Uo x)).qx ∧ Uo (Td a b c d x).qz = (Le aP (Uo a) (Uo b) (Uo c) (Uo d) (Uo x)).qz := by
 have e : Uo 121665 = aP := Qaq 121665
 refine ⟨?_, ?_, ?_, ?_⟩ <;> unfold Td Le <;> simp only [toP_M, toP_A, toP_S, e]
theorem lad_P (bit : Nat → Bool) (x : Int) : ∀ j, Uo (U7 bit x j).px = (G7 aP bit (Uo x) j).px ∧ Uo (U7 bit x j).pz = (G7 aP bit (Uo x) j).pz ∧ Uo (U7 bit x j).qx = (G7 aP bit (Uo x) j).qx ∧ Uo (U7 bit x j).qz = (G7 aP bit (Uo x) j).qz
 | 0 => ⟨toP_1, toP_0, rfl, toP_1⟩
 | j + 1 => by
  obtain ⟨h1, h2, h3, h4⟩ := lad_P bit x j
  unfold U7 G7
  cases bit j
  ·simp only [Bool.false_eq_true, if_false]
   rw [← h1, ← h2, ← h3, ← h4]
   obtain ⟨k1, k2, k3, k4⟩ := step_P (U7 bit x j).qx (U7 bit x j).qz (U7 bit x j).px (U7 bit x j).pz x
   exact ⟨k3, k4, k1, k2⟩
  simp only [if_true]
  rw [← h1, ← h2, ← h3, ← h4]
  exact step_P _ _ _ _ _
theorem inv_P (y : Int) : Uo (Tv y 255) = invP (Uo y) := by
 obtain ⟨n, h1, h2⟩ := Qai y
 have hv : Qa4 (Uo y) = n % pN := by unfold Uo; rw [h2, Qhx]
 have key : ∀ (u v : Int), u % pC = v % pC → ∀ j, Tv u j % pC = Tv v j % pC := by
  intro u v huv j
  have hm : ∀ a b c d : Int, a % pC = c % pC → b % pC = d % pC → fM a b % pC = fM c d % pC := fun a b c d h1 h2 => by
   unfold fM
   rw [Int.emod_emod_of_dvd _ (Int.dvd_refl pC), Int.emod_emod_of_dvd _ (Int.dvd_refl pC), Int.mul_emod, h1, h2, ← Int.mul_emod]
  induction j with
  | zero => rfl
  | succ j ih =>
   unfold Tv
   by_cases h : j = 252 ∨ j = 250
   ·rw [if_pos h, if_pos h]; exact hm _ _ _ _ ih ih
   rw [if_neg h, if_neg h]; exact hm _ _ _ _ (hm _ _ _ _ ih ih) huv
 unfold invP
 refine Qb2 (key _ _ ?_ 255)
 rw [hv, h1, Qg5, Int.natCast_emod, Int.emod_emod_of_dvd _ (Int.dvd_refl _)]
 have : (n : Int) < (pN : Int) := by rw [← h1, Qg5]; exact Int.emod_lt_of_pos _ Yh
 rw [Int.emod_eq_of_lt oM this]
def N9 (k : Zj) (x : Int) : Int := fM (U7 (Nw k) x 255).px (Tv (U7 (Nw k) x 255).pz 255)
theorem Qhu (k : Zj) (x : Int) : Uo (N9 k x) = (G7 aP (Nw k) (Uo x) 255).px * invP (G7 aP (Nw k) (Uo x) 255).pz := by
 obtain ⟨h1, h2, _, _⟩ := lad_P (Nw k) x 255
 unfold N9
 rw [toP_M, inv_P, h1, h2]
theorem Qht (k : Zj) (x : Int) : 0 ≤ N9 k x ∧ N9 k x < pC := by
 unfold N9 fM
 exact ⟨Int.emod_nonneg _ Yh, Int.emod_lt_of_pos _ Yh⟩
theorem Qeu {k : Zj} (h : Nw k 254 = true) : Uc (Nw k) 255 = 2 * Uc (Nw k) 254 := by
 show (if Nw k 254 then _ else _) = _
 rw [h]; rfl
theorem Qnb {k l : Zj} (hk : Nw k 254 = true) (hl : Nw l 254 = true) (x : Int) : N9 k (N9 l x) = N9 l (N9 k x) := by
 refine toP_inj (Qht _ _) (Qht _ _) ?_
 rw [Qhu, Qhu, Qhu, Qhu]
 rcases pt_any (Uo x) with ⟨B, hB⟩ | ⟨B, hB⟩
 ·rw [← hB]; exact Qg4 mo1 B (Qeu hk) (Qeu hl)
 rw [← hB]; exact Qg4 mo2 B (Qeu hk) (Qeu hl)
theorem nB_enc : ∀ (n x : Nat), nB ((List.range n).map fun j => BitVec.ofNat 8 (x / 256 ^ j)) = x % 256 ^ n
 | 0, x => by show 0 = x % 1; omega
 | n + 1, x => by
  have ih := nB_enc n (x / 256)
  rw [List.range_succ_eq_map, List.map_cons, List.map_map]
  have e : ((fun j => BitVec.ofNat 8 (x / 256 ^ j)) ∘ Nat.succ) = fun j => BitVec.ofNat 8 (x / 256 / 256 ^ j) := by
   funext j
   show BitVec.ofNat 8 (x / 256 ^ (j + 1)) = _
   rw [Nat.pow_succ, Nat.mul_comm, Nat.div_div_eq_div_mul]
  rw [e]
  show (BitVec.ofNat 8 (x / 256 ^ 0)).toNat + 256 * nB _ = _
  rw [ih, Nat.pow_succ, Nat.mul_comm (256 ^ n), Nat.mod_mul]
  simp
theorem Qmk {k : Zj} {x : Int} : ((nB (multF k x) % 2 ^ 255 : Nat) : Int) % pC = N9 k x := by
 obtain ⟨h1, h2⟩ := Qht k x
 have e : multF k x = Rl (N9 k x).toNat := rfl
 rw [e]
 generalize N9 k x = w at *
 unfold Rl
 rw [nB_enc]
 have hp : pC + 19 = ((2 ^ 255 : Nat) : Int) := by decide +kernel
 have hq : (2 : Nat) ^ 255 * 2 = 256 ^ 32 := by decide +kernel
 generalize (2 : Nat) ^ 255 = P at *
 generalize (256 : Nat) ^ 32 = Q at *
 rw [Nat.mod_eq_of_lt (show w.toNat < Q by omega), Nat.mod_eq_of_lt (show w.toNat < P by omega), Int.toNat_of_nonneg h1]
 exact Int.emod_eq_of_lt h1 h2
theorem Qfu {k : Zj} (hk : k.length = 32) : Nw (Xo k) 254 = true := by
 unfold Nw
 show (((Xo k).getD 0 0 >>> 0) &&& 1#8 == 0#8) = true
 rw [clamp_0 hk]
 generalize k.getD 0 0 = b
 revert b; decide +kernel
theorem Qnq {a b : Zj} (ha : a.length = 32) (hb : b.length = 32) (u : Zj) : Qi a (Qi b u) = Qi b (Qi a u) := by
 have e : ∀ (k : Zj) (x : Int), multF k x = Rl (N9 k x).toNat := fun _ _ => rfl
 rw [Qav a, Qav b (Qi a u), Qav b u, Qav a u, Qmk, Qmk, e, e, Qnb (Qfu ha) (Qfu hb)]
end Go.Proofs.YtkmiemlpfkfiiaaDoor
