/- The ratchet: what was enciphered is deciphered. Conditions: none beyond those that each theorem states. -/
import Derived.Test.YtkmiemlpfkfiiaaDoorCuP
import Derived.Test.YtkmiemlpfkfiiaaDoorCuS
import Derived.Test.YtkmiemlpfkfiiaaDoorCuR
namespace Go.Proofs.YtkmiemlpfkfiiaaDoor
open BitVec renaming ofNat → aV
open Int renaming emod_emod_of_dvd → cO, natCast_emod → dH
open List renaming length_append → ag, replicate → aA
open Nat renaming le_of_dvd → dw, mod_eq_of_lt → ah, mod_mod → dU, mul_comm → df, mul_mod → bu, pow_succ → dX, zero_le → aJ
section
set_option linter.unusedVariables false
set_option linter.unusedSimpArgs false
theorem clamp_0 {k : Z4} (hk : k.length = 32) : (Y3 k).getD 0 0 = k.getD 0 0 &&& ~~~7#8 := by
 unfold Y3; rw [Qgg oM, Qgh oM]
end --m
section
set_option linter.unusedVariables false
set_option linter.unusedSimpArgs false
def mH : Nat := 28948022309329048855892746252171976963317496166410141009864396001978282409974
def mQ : Nat := 14474011154664524427946373126085988481658748083205070504932198000989141204987
def mE : Nat := 7237005577332262213973186563042994240829374041602535252466099000494570602494
def iR : Nat := 19681161376707505956807079304988542015446066515923890162744021073123829784752
theorem mH_eq : 2 * mH + 1 = pN := by decide +kernel
theorem mQ_eq : mQ + mQ = mH := by decide +kernel
theorem mE_eq : mE + mE = mQ + 1 := by decide +kernel
theorem iR_sq : iR * iR % pN = pN - 1 := by decide +kernel
theorem Qm2 : Pri pN := pri_p
theorem Qjz : 2 < pN := by decide +kernel
def dN1 : Nat := 20800338683988658368647408995589388737092878452977063003340006470870624536394
def dN2 : Nat := 28692721048178265397853269683490922171210976843790175684556505508326675974058
def nN : Nat := 236839902240
theorem euler_d1 : pwB pN dN1 (E5 254 mH) 1 % pN = pN - 1 := by decide +kernel
theorem euler_d2 : pwB pN dN2 (E5 254 mH) 1 % pN = pN - 1 := by decide +kernel
theorem euler_n : pwB pN nN (E5 254 mH) 1 % pN = pN - 1 := by decide +kernel
theorem Qs7 : valB (E5 254 mH) 0 = mH := by decide +kernel
theorem dN1_eq : dN1 * 121666 % pN = 121665 := by decide +kernel
theorem dN2_eq : dN2 * 121665 % pN = 121666 := by decide +kernel
section
variable {z t : Nat}
theorem sq_one {w : Nat} (hl : w < pN) (h : w * w % pN = 1) : w = 1 ∨ w = pN - 1 := by
 have h2 := Qjz
 by_cases hw : w = 0
 ·subst hw; simp at h
 have h4 : (w - 1) * (w + 1) = w * w - 1 := by
  obtain ⟨v, rfl⟩ : ∃ v, w = v + 1 := ⟨w - 1, by omega⟩
  rw [Nat.add_sub_cancel]
  have : (v + 1) * (v + 1) = v * (v + 1 + 1) + 1 := by grind
  omega
 have hd : pN ∣ (w - 1) * (w + 1) := by
  rw [h4]; exact Nat.dvd_of_mod_eq_zero (Nat.sub_mod_eq_zero_of_mod_eq (by rw [h]; exact (ah oM).symm))
 rcases Qm2.dvd_mul hd with c | c
 ·left
  by_cases h1 : w - 1 = 0
  ·omega
  have := dw oM c; omega
 right
 have := dw oM c; omega
theorem Qm9 (x : Nat) : x % pN < pN := Nat.mod_lt _ (by have := Qjz; omega)
theorem pow_half (h : ¬ pN ∣ z) : z ^ mH % pN = 1 ∨ z ^ mH % pN = pN - 1 := by
 have hf := Qi1 Qm2 h
 have e : pN - 1 = mH + mH := by have := mH_eq; omega
 rw [e, Nat.pow_add, bu] at hf
 exact sq_one (Qm9 _) hf
theorem sq_half (h : ¬ pN ∣ t) (hz : t * t % pN = z % pN) : z ^ mH % pN = 1 := by
 have hf := Qi1 Qm2 h
 have e : pN - 1 = 2 * mH := by have := mH_eq; omega
 rw [e, Nat.pow_mul, Nat.pow_mod, Nat.pow_two, hz, ← Nat.pow_mod] at hf
 exact hf
theorem neg_sq : (pN - 1) * (pN - 1) % pN = 1 := by
 have h2 := Qjz
 obtain ⟨q, hq⟩ : ∃ q, pN = q + 1 := ⟨pN - 1, by omega⟩
 rw [hq, Nat.add_sub_cancel]
 have : q * q = 1 + (q + 1) * (q - 1) := by
  obtain ⟨r, rfl⟩ : ∃ r, q = r + 1 := ⟨q - 1, by omega⟩
  rw [Nat.add_sub_cancel]; grind
 rw [this, Nat.add_mul_mod_self_left]
 exact ah oM
theorem mod_shuf {q v P : Nat} : q * v % P * q % P = v * (q * q % P) % P := by
 rw [Nat.mod_mul_mod, Nat.mul_mod_mod, show q * v * q = v * (q * q) by grind]
theorem fermat2 {P v e : Nat} (hp : Pri P) (h : ¬ P ∣ v) (he : e + 2 = P) : v * v ^ e % P = 1 % P := by
 have hf := Qi1 hp h
 have h2 := hp.1
 rw [show P - 1 = e + 1 by omega, dX, df] at hf
 rw [hf, ah oM]
theorem root_of (h : ¬ pN ∣ z) (h1 : z ^ mH % pN = 1) : ∃ t, t * t % pN = z % pN := by
 have e := mQ_eq
 have hq : (z ^ mQ % pN) * (z ^ mQ % pN) % pN = 1 := by rw [← bu, ← Nat.pow_add, e]; exact h1
 have hr : z ^ mE * z ^ mE = z ^ mQ * z := by rw [← Nat.pow_add, mE_eq, dX]
 rcases sq_one (Qm9 _) hq with c | c
 ·exact ⟨z ^ mE, by rw [hr, bu, c, Nat.one_mul, dU]⟩
 refine ⟨z ^ mE * iR, ?_⟩
 have e1 : z ^ mE * iR * (z ^ mE * iR) = z ^ mQ * z * (iR * iR) := by rw [← hr]; grind
 rw [e1, bu, iR_sq, bu (z ^ mQ), c]
 rw [mod_shuf, neg_sq, Nat.mul_one, dU]
theorem no_root {D : Nat} (h : pwB pN D (E5 254 mH) 1 % pN = pN - 1) (hD : ¬ pN ∣ D) : t * t % pN ≠ D % pN := fun hz => by
 have h2 := Qjz
 have e := pw_eq Qs7 h
 have ht : ¬ pN ∣ t := fun ⟨c, hc⟩ => by
  rw [hc, Nat.mul_assoc, Nat.mul_mod_right] at hz
  exact hD (Nat.dvd_of_mod_eq_zero hz.symm)
 rw [sq_half ht hz] at e
 omega
end
instance neP : NeZero pN := ⟨by decide⟩
abbrev Fp : Type := Fin pN
def ofN (n : Nat) : Fp := (⟨n % pN, Qm9 n⟩ : Fin pN)
def Qef (z : Fp) : Nat := (show Fin pN from z).val
theorem valP_lt (z : Fp) : Qef z < pN := (show Fin pN from z).isLt
theorem Qd1 (z : Fp) : ofN (Qef z) = z := Fin.ext (ah (valP_lt z))
theorem Qml (n : Nat) : Qef (ofN n) = n % pN := rfl
theorem Qbf {m n : Nat} (h : m % pN = n % pN) : ofN m = ofN n := Fin.ext h
theorem Qm8 {m n : Nat} (h : ofN m = ofN n) : m % pN = n % pN := congrArg Qef h
theorem Ll (m n : Nat) : ofN (m * n) = ofN m * ofN n := Fin.ext (bu m n pN)
theorem Qiy (m n : Nat) : ofN (m + n) = ofN m + ofN n := Fin.ext (Nat.add_mod m n pN)
theorem Qj2 : ofN 0 = 0 := Fin.ext rfl
theorem Qou : ofN 1 = 1 := Fin.ext rfl
theorem ofN_succ (n : Nat) : ofN (n + 1) = ofN n + 1 := by rw [Qiy, Qou]
def Cc (x : Int) : Fp := ofN (x % pC).toNat
theorem Qlp : pC = (pN : Int) := rfl
theorem Qdw (n : Nat) : Cc (n : Int) = ofN n := by
 unfold Cc; rw [Qlp]
 exact Qbf (by rw [← dH, Int.toNat_natCast, dU])
theorem Qdp (x : Int) : ∃ n : Nat, x % pC = (n : Int) ∧ (x % pC).toNat = n := ⟨(x % pC).toNat, (Int.toNat_of_nonneg (Int.emod_nonneg x Yx)).symm, rfl⟩
theorem Qmp (x : Int) : Cc (x % pC) = Cc x := by unfold Cc; rw [cO x (Int.dvd_refl pC)]
theorem Qfp {x y : Int} (h : x % pC = y % pC) : Cc x = Cc y := by unfold Cc; rw [h]
theorem toP_mul (x y : Int) : Cc (x * y) = Cc x * Cc y := by
 obtain ⟨m, h1, h2⟩ := Qdp x
 obtain ⟨n, h3, h4⟩ := Qdp y
 rw [Qfp (y := ((m * n : Nat) : Int)) (by rw [Int.mul_emod, h1, h3, Int.natCast_mul]), Qdw, Ll]
 unfold Cc; rw [h2, h4]
theorem Qr3 (x y : Int) : Cc (x + y) = Cc x + Cc y := by
 obtain ⟨m, h1, h2⟩ := Qdp x
 obtain ⟨n, h3, h4⟩ := Qdp y
 rw [Qfp (y := ((m + n : Nat) : Int)) (by rw [Int.add_emod, h1, h3, Int.natCast_add]), Qdw, Qiy]
 unfold Cc; rw [h2, h4]
theorem toP_sub (x y : Int) : Cc (x - y) = Cc x - Cc y := by
 have h := Qr3 (x - y) y
 rw [Int.sub_add_cancel] at h
 generalize Cc (x - y) = u at *
 generalize Cc x = v at *
 generalize Cc y = w at *
 grind
theorem toP_inj {x y : Int} (hx : 0 ≤ x ∧ x < pC) (hy : 0 ≤ y ∧ y < pC) (h : Cc x = Cc y) : x = y := by
 have h1 := Qm8 h
 rw [Int.emod_eq_of_lt hx.1 hx.2, Int.emod_eq_of_lt hy.1 hy.2] at h1
 have e := Qlp
 rw [ah oM, ah oM] at h1
 omega
theorem toP_M (x y : Int) : Cc (fM x y) = Cc x * Cc y := by unfold fM; rw [Qmp, toP_mul]
theorem toP_A (x y : Int) : Cc (fA x y) = Cc x + Cc y := by unfold fA; rw [Qmp, Qr3]
theorem toP_S (x y : Int) : Cc (fS x y) = Cc x - Cc y := by unfold fS; rw [Qmp, toP_sub]
theorem toP_0 : Cc 0 = 0 := by rw [show (0 : Int) = ((0 : Nat) : Int) from rfl, Qdw, Qj2]
theorem toP_1 : Cc 1 = 1 := by rw [show (1 : Int) = ((1 : Nat) : Int) from rfl, Qdw, Qou]
def eI : Nat → Nat
 | 0 => 0
 | j + 1 => if j = 252 ∨ j = 250 then 2 * eI j else 2 * eI j + 1
theorem eI_255 : eI 255 + 2 = pN := by decide +kernel
theorem Qpa (n : Nat) : ∀ j, (Qcg (n : Int) j) % pC = ((n ^ eI j % pN : Nat) : Int) % pC
 | 0 => rfl
 | j + 1 => by
  have ih := Qpa n j
  have hs : fM (Qcg (n : Int) j) (Qcg (n : Int) j) % pC = ((n ^ (2 * eI j) % pN : Nat) : Int) % pC := by
   unfold fM
   rw [cO _ (Int.dvd_refl pC), Int.mul_emod, ih, ← Int.mul_emod, ← Int.natCast_mul, Qlp, ← dH, ← dH, ← bu, ← Nat.pow_add, Nat.two_mul, dU]
  unfold Qcg eI
  by_cases h : j = 252 ∨ j = 250
  ·rw [if_pos h, if_pos h]; exact hs
  rw [if_neg h, if_neg h]
  show fM (fM _ _) _ % pC = _
  have : ∀ y : Int, fM y (n : Int) % pC = (y % pC) * (n : Int) % pC := fun y => by
   unfold fM; rw [cO _ (Int.dvd_refl pC), Int.mul_emod y, Int.mul_emod (y % pC) (n : Int), cO y (Int.dvd_refl pC)]
  rw [this, hs, Qlp, ← dH, ← Int.natCast_mul, ← dH, ← dH, dU, dU, Nat.mod_mul_mod, dX]
noncomputable def invP (z : Fp) : Fp := Cc (Qcg (Qef z : Int) 255)
theorem Qo8 (z : Fp) : invP z = ofN (Qef z ^ eI 255) := by
 unfold invP
 rw [Qfp (Qpa (Qef z) 255), Qdw]
 exact Qbf (dU _ _)
theorem Qqg {z : Fp} (hz : z ≠ 0) : ¬ pN ∣ Qef z := fun h => hz (by rw [← Qd1 z, ← Qj2]; exact Qbf (by rw [Nat.mod_eq_zero_of_dvd h, Nat.zero_mod]))
theorem mul_pw {v : Nat} (h : ¬ pN ∣ v) : ofN v * ofN (v ^ eI 255) = 1 := by
 rw [← Ll, ← Qou]
 exact Qbf (fermat2 Qm2 h eI_255)
theorem mul_invP (z : Fp) (hz : z ≠ 0) : z * invP z = 1 := by
 have h := mul_pw (Qqg hz)
 rw [← Qo8, Qd1] at h
 exact h
theorem Qt3 : invP 0 = 0 := by
 have h : Qef (0 : Fp) = 0 := rfl
 have e : eI 255 ≠ 0 := fun h0 => by have h1 := eI_255; have h2 := Qjz; rw [h0] at h1; omega
 rw [Qo8, h, Nat.zero_pow (Nat.pos_of_ne_zero e), Qj2]
theorem Qm7 {m n : Nat} (h : (m % pN == n % pN) = false) : ofN m ≠ ofN n := fun e => by
 have := Qm8 e
 rw [this] at h; simp at h
theorem fin_two {c : Nat} [NeZero c] : (1 : Fin c) + 1 = 2 := by grind
theorem two_P : (2 : Fp) = ofN 2 := by
 have h : (1 : Fp) + 1 = 2 := fin_two
 rw [← h, ← Qou, ← Qiy]
theorem nonsqP {D : Nat} (h : pwB pN D (E5 254 mH) 1 % pN = pN - 1) (hD : ¬ pN ∣ D) (s : Fp) : s * s ≠ ofN D := fun e => by
 rw [← Qd1 s, ← Ll] at e
 exact no_root h hD (Qm8 e)
noncomputable def edP (D : Nat) (h : pwB pN D (E5 254 mH) 1 % pN = pN - 1) (hD : ¬ pN ∣ D) : Ed pN where
 inv := invP
 mul_inv := mul_invP
 inv_zero := Qt3
 one_ne := by rw [← Qou, ← Qj2]; exact Qm7 (by decide +kernel)
 two_ne := by rw [two_P, ← Qj2]; exact Qm7 (by decide +kernel)
 d := ofN D
 nonsq := nonsqP h hD
theorem Qsj {D : Nat} (h : (D % pN == 0) = false) : ¬ pN ∣ D := fun e => by rw [Nat.mod_eq_zero_of_dvd e] at h; simp at h
noncomputable def ed1 : Ed pN := edP dN1 euler_d1 (Qsj (by decide +kernel))
noncomputable def ed2 : Ed pN := edP dN2 euler_d2 (Qsj (by decide +kernel))
noncomputable def aP : Fp := ofN 121665
theorem aP_0 : aP ≠ 0 := by unfold aP; rw [← Qj2]; exact Qm7 (by decide +kernel)
theorem aP_s : aP + 1 = ofN 121666 := by unfold aP; rw [← ofN_succ]
theorem aP_1 : aP + 1 ≠ 0 := by rw [aP_s, ← Qj2]; exact Qm7 (by decide +kernel)
theorem mo1 : Mo ed1 aP 1 := ⟨aP_0, aP_1, .inl ⟨rfl, by
 show ofN dN1 * (aP + 1) = aP
 rw [aP_s, ← Ll]; unfold aP
 exact Qbf (by rw [dN1_eq]; decide +kernel)⟩⟩
theorem mo2 : Mo ed2 aP (-1) := ⟨aP_0, aP_1, .inr ⟨rfl, by
 show ofN dN2 * aP = aP + 1
 rw [aP_s]; unfold aP; rw [← Ll]
 exact Qbf (by rw [dN2_eq]; decide +kernel)⟩⟩
section
variable {cP : Nat} [NeZero cP] {E : Ed cP} {a x s : (Fin cP)}
theorem Qf3 (E : Ed cP) {u w : (Fin cP)} (hu : u ≠ 0) (hw : w * w = E.d * (u * u)) : False := E.not_sq hu hw
theorem on_one {d a x u v s : (Fin cP)} (hd : d * (a + 1) = a) (hs : s * s = (4 * a + 4) * (x * (x * x + (4 * a + 2) * x + 1))) (i : s * u = 1) (j : (x + 1) * v = 1) :
  ((4 * a + 4) * x * u) * ((4 * a + 4) * x * u) + ((x - 1) * v) * ((x - 1) * v) = 1 + d * (((4 * a + 4) * x * u) * ((4 * a + 4) * x * u)) * (((x - 1) * v) * ((x - 1) * v)) := by grind
theorem on_two {d a x u v s : (Fin cP)} (hd : d * a = a + 1) (hs : s * s = (4 * a) * (x * (x * x + (4 * a + 2) * x + 1))) (i : s * u = 1) (j : (x - 1) * v = 1) :
  ((4 * a) * x * u) * ((4 * a) * x * u) + ((x + 1) * v) * ((x + 1) * v) = 1 + d * (((4 * a) * x * u) * ((4 * a) * x * u)) * (((x + 1) * v) * ((x + 1) * v)) := by grind
theorem four_P (E : Ed cP) : (4 : (Fin cP)) ≠ 0 := fun h => (E.mul_ne E.two_ne E.two_ne) (by grind)
theorem A_ne (E : Ed cP) (ha : a + 1 ≠ 0) : 4 * a + 4 ≠ 0 := fun h => (E.mul_ne (four_P E) ha) (by grind)
theorem q_ne (hd : E.d * (a + 1) = a) (hA : 4 * a + 4 ≠ 0) : x * x + (4 * a + 2) * x + 1 ≠ 0 := fun h => Qf3 E hA (w := 2 * x + (4 * a + 2)) (by grind)
theorem pt_one (hd : E.d * (a + 1) = a) (ha : a + 1 ≠ 0) (hx : x ≠ 0) (hs : s * s = (4 * a + 4) * (x * (x * x + (4 * a + 2) * x + 1))) : ∃ B : Pt E, uvK E 1 B.y = x := by
 have four : (4 : (Fin cP)) ≠ 0 := fun h => (E.mul_ne E.two_ne E.two_ne) (by grind)
 have hA : 4 * a + 4 ≠ 0 := fun h => (E.mul_ne four ha) (by grind)
 have hf : x * x + (4 * a + 2) * x + 1 ≠ 0 := fun h => Qf3 E hA (w := 2 * x + (4 * a + 2)) (by grind)
 have hs0 : s ≠ 0 := fun h => (E.mul_ne hA (E.mul_ne hx hf)) (by rw [← hs, h]; grind)
 have hx1 : x + 1 ≠ 0 := fun h => Qf3 E hA (w := s) (by
  have : x = -1 := by grind
  rw [hs, this]; grind)
 have i := E.mul_inv _ hs0
 have j := E.mul_inv _ hx1
 refine ⟨⟨(4 * a + 4) * x * E.inv s, (x - 1) * E.inv (x + 1), ?_⟩, ?_⟩
 ·exact on_one hd hs i j
 show (1 + (x - 1) * E.inv (x + 1)) * E.inv (1 * (1 - (x - 1) * E.inv (x + 1))) = x
 generalize E.inv (x + 1) = v at *
 have h1 : 1 * (1 - (x - 1) * v) ≠ 0 := fun h => E.two_ne (by grind)
 have k := E.mul_inv _ h1
 generalize E.inv (1 * (1 - (x - 1) * v)) = w at *
 refine E.cancel h1 ?_
 grind
theorem pt_two (hd : E.d * a = a + 1) (ha : a ≠ 0) (hx : x ≠ 0) (hs : s * s = (4 * a) * (x * (x * x + (4 * a + 2) * x + 1))) : ∃ B : Pt E, uvK E (-1) B.y = x := by
 have four : (4 : (Fin cP)) ≠ 0 := fun h => (E.mul_ne E.two_ne E.two_ne) (by grind)
 have hA : 4 * a ≠ 0 := E.mul_ne four ha
 have hf : x * x + (4 * a + 2) * x + 1 ≠ 0 := fun h => Qf3 E hA (w := 2 * x + (4 * a + 2)) (by grind)
 have hs0 : s ≠ 0 := fun h => (E.mul_ne hA (E.mul_ne hx hf)) (by rw [← hs, h]; grind)
 have hx1 : x - 1 ≠ 0 := fun h => Qf3 E hA (w := s) (by
  have : x = 1 := by grind
  rw [hs, this]; grind)
 have i := E.mul_inv _ hs0
 have j := E.mul_inv _ hx1
 refine ⟨⟨(4 * a) * x * E.inv s, (x + 1) * E.inv (x - 1), ?_⟩, ?_⟩
 ·exact on_two hd hs i j
 show (1 + (x + 1) * E.inv (x - 1)) * E.inv (-1 * (1 - (x + 1) * E.inv (x - 1))) = x
 generalize E.inv (x - 1) = v at *
 have h1 : -1 * (1 - (x + 1) * v) ≠ 0 := fun h => E.two_ne (by grind)
 have k := E.mul_inv _ h1
 generalize E.inv (-1 * (1 - (x + 1) * v)) = w at *
 refine E.cancel h1 ?_
 grind
theorem uv_zero (s : (Fin cP)) : uvK E s (Pt.zero : Pt E).y = 0 := by
 unfold uvK
 have e1 : (Pt.zero : Pt E).y = 1 := rfl
 rw [e1, show s * (1 - (1 : (Fin cP))) = 0 by grind, E.inv_zero]; grind
end
theorem root_P {z : Fp} (hz : z ≠ 0) (h : Qef z ^ mH % pN = 1) : ∃ t : Fp, t * t = z := by
 obtain ⟨t, ht⟩ := root_of (Qqg hz) h
 refine ⟨ofN t, ?_⟩
 rw [← Ll, ← Qd1 z]; exact Qbf ht
theorem mul_half {u v P : Nat} (hu : u % P = P - 1) (hv : v % P = P - 1) (h : (P - 1) * (P - 1) % P = 1) : u * v % P = 1 := by rw [bu, hu, hv, h]
theorem val_mul (y z : Fp) : Qef (y * z) = Qef y * Qef z % pN := by
 conv => lhs; rw [← Qd1 y, ← Qd1 z, ← Ll, Qml]
theorem Qpl {z n : Fp} (hz : z ≠ 0) (hzn : z * n ≠ 0) (hn : Qef n ^ mH % pN = pN - 1) : (∃ t : Fp, t * t = z) ∨ ∃ t : Fp, t * t = z * n := by
 rcases pow_half (Qqg hz) with h | h
 ·exact .inl (root_P hz h)
 refine .inr (root_P hzn ?_)
 rw [val_mul, ← Nat.pow_mod, Nat.mul_pow]
 exact mul_half h hn neg_sq
theorem fin_four {c : Nat} [NeZero c] : (2 : Fin c) * 2 = 4 := by grind
theorem a_num : (4 * aP + 4) * (4 * aP) = ofN nN := by
 have h4 : (4 : Fp) = ofN 4 := by
  have h : (2 : Fp) * 2 = 4 := fin_four
  rw [← h, two_P, ← Ll]
 unfold aP
 rw [h4, ← Ll, ← Qiy, ← Ll]
 exact Qbf (by decide +kernel)
theorem nN_half : Qef (ofN nN) ^ mH % pN = pN - 1 := by
 rw [Qml, ← Nat.pow_mod]; exact pw_eq Qs7 euler_n
theorem root_two {cP : Nat} [NeZero cP] {a t w c q : (Fin cP)} (hc : c = 4 * a + 4) (hw : c * w = 1) (h : t * t = c * q * (c * (4 * a))) : (t * w) * (t * w) = (4 * a) * q := by
 have : (t * w) * (t * w) = (t * t) * (w * w) := by grind
 rw [this, h]; grind
theorem pt_any (x : Fp) : (∃ B : Pt ed1, uvK ed1 1 B.y = x) ∨ ∃ B : Pt ed2, uvK ed2 (-1) B.y = x := by
 by_cases hx : x = 0
 ·subst hx; exact .inl ⟨Pt.zero, uv_zero 1⟩
 obtain ⟨_, hd1⟩ : (1 : Fp) = 1 ∧ ed1.d * (aP + 1) = aP := ⟨rfl, by
  show ofN dN1 * (aP + 1) = aP
  rw [aP_s, ← Ll]; unfold aP
  exact Qbf (by rw [dN1_eq]; decide +kernel)⟩
 obtain ⟨_, hd2⟩ : (1 : Fp) = 1 ∧ ed2.d * aP = aP + 1 := ⟨rfl, by
  show ofN dN2 * aP = aP + 1
  rw [aP_s]; unfold aP; rw [← Ll]
  exact Qbf (by rw [dN2_eq]; decide +kernel)⟩
 have four := four_P ed1
 have hA := A_ne ed1 aP_1
 have hf := q_ne (x := x) hd1 hA
 have hz : (4 * aP + 4) * (x * (x * x + (4 * aP + 2) * x + 1)) ≠ 0 := ed1.mul_ne hA (ed1.mul_ne hx hf)
 have hzn : (4 * aP + 4) * (x * (x * x + (4 * aP + 2) * x + 1)) * ofN nN ≠ 0 := by
  rw [← a_num]; exact ed1.mul_ne hz (ed1.mul_ne hA (ed1.mul_ne four aP_0))
 rcases Qpl hz hzn nN_half with ⟨t, ht⟩ | ⟨t, ht⟩
 ·exact .inl (pt_one hd1 aP_1 hx ht)
 rw [← a_num] at ht
 exact .inr (pt_two hd2 aP_0 hx (root_two rfl (ed1.mul_inv _ hA) ht))
theorem step_P (a b c d x : Int) : Cc (Qcr a b c d x).px = (Qai aP (Cc a) (Cc b) (Cc c) (Cc d) (Cc x)).px ∧ Cc (Qcr a b c d x).pz = (Qai aP (Cc a) (Cc b) (Cc c) (Cc d) (Cc x)).pz ∧
  Cc (Qcr a b c d x).qx = (Qai aP (Cc a) (Cc b) (Cc c) (Cc d) (Cc x)).qx ∧ Cc (Qcr a b c d x).qz = (Qai aP (Cc a) (Cc b) (Cc c) (Cc d) (Cc x)).qz := by
 have e : Cc 121665 = aP := Qdw 121665
 refine ⟨?_, ?_, ?_, ?_⟩ <;> unfold Qcr Qai <;> simp only [toP_M, toP_A, toP_S, e]
theorem lad_P (bit : Nat → Bool) (x : Int) : ∀ j, Cc (Bl bit x j).px = (Dn aP bit (Cc x) j).px ∧ Cc (Bl bit x j).pz = (Dn aP bit (Cc x) j).pz ∧ Cc (Bl bit x j).qx = (Dn aP bit (Cc x) j).qx ∧ Cc (Bl bit x j).qz = (Dn aP bit (Cc x) j).qz
 | 0 => ⟨toP_1, toP_0, rfl, toP_1⟩
 | j + 1 => by
  obtain ⟨h1, h2, h3, h4⟩ := lad_P bit x j
  unfold Bl Dn
  cases bit j
  ·simp only [Bool.false_eq_true, if_false]
   rw [← h1, ← h2, ← h3, ← h4]
   obtain ⟨k1, k2, k3, k4⟩ := step_P (Bl bit x j).qx (Bl bit x j).qz (Bl bit x j).px (Bl bit x j).pz x
   exact ⟨k3, k4, k1, k2⟩
  simp only [if_true]
  rw [← h1, ← h2, ← h3, ← h4]
  exact step_P _ _ _ _ _
theorem inv_P (y : Int) : Cc (Qcg y 255) = invP (Cc y) := by
 obtain ⟨n, h1, h2⟩ := Qdp y
 have hv : Qef (Cc y) = n % pN := by unfold Cc; rw [h2, Qml]
 have key : ∀ (u v : Int), u % pC = v % pC → ∀ j, Qcg u j % pC = Qcg v j % pC := by
  intro u v huv j
  have hm : ∀ a b c d : Int, a % pC = c % pC → b % pC = d % pC → fM a b % pC = fM c d % pC := fun a b c d h1 h2 => by
   unfold fM
   rw [cO _ (Int.dvd_refl pC), cO _ (Int.dvd_refl pC), Int.mul_emod, h1, h2, ← Int.mul_emod]
  induction j with
  | zero => rfl
  | succ j ih =>
   unfold Qcg
   by_cases h : j = 252 ∨ j = 250
   ·rw [if_pos h, if_pos h]; exact hm _ _ _ _ ih ih
   rw [if_neg h, if_neg h]; exact hm _ _ _ _ (hm _ _ _ _ ih ih) huv
 unfold invP
 refine Qfp (key _ _ ?_ 255)
 rw [hv, h1, Qlp, dH, cO _ (Int.dvd_refl _)]
 have : (n : Int) < (pN : Int) := by rw [← h1, Qlp]; exact Int.emod_lt_of_pos _ Yx
 rw [Int.emod_eq_of_lt oM this]
def Qbk (k : Z4) (x : Int) : Int := fM (Bl (Sl k) x 255).px (Qcg (Bl (Sl k) x 255).pz 255)
theorem Qmi (k : Z4) (x : Int) : Cc (Qbk k x) = (Dn aP (Sl k) (Cc x) 255).px * invP (Dn aP (Sl k) (Cc x) 255).pz := by
 obtain ⟨h1, h2, _, _⟩ := lad_P (Sl k) x 255
 unfold Qbk
 rw [toP_M, inv_P, h1, h2]
theorem Qmh (k : Z4) (x : Int) : 0 ≤ Qbk k x ∧ Qbk k x < pC := by
 unfold Qbk fM
 exact ⟨Int.emod_nonneg _ Yx, Int.emod_lt_of_pos _ Yx⟩
theorem Qi2 {k : Z4} (h : Sl k 254 = true) : D5 (Sl k) 255 = 2 * D5 (Sl k) 254 := by
 show (if Sl k 254 then _ else _) = _
 rw [h]; rfl
theorem Qtc {k l : Z4} (hk : Sl k 254 = true) (hl : Sl l 254 = true) (x : Int) : Qbk k (Qbk l x) = Qbk l (Qbk k x) := by
 refine toP_inj (Qmh _ _) (Qmh _ _) ?_
 rw [Qmi, Qmi, Qmi, Qmi]
 rcases pt_any (Cc x) with ⟨B, hB⟩ | ⟨B, hB⟩
 ·rw [← hB]; exact Qlo mo1 B (Qi2 hk) (Qi2 hl)
 rw [← hB]; exact Qlo mo2 B (Qi2 hk) (Qi2 hl)
theorem nB_enc : ∀ (n x : Nat), nB ((List.range n).map fun j => aV 8 (x / 256 ^ j)) = x % 256 ^ n
 | 0, x => by show 0 = x % 1; omega
 | n + 1, x => by
  have ih := nB_enc n (x / 256)
  rw [List.range_succ_eq_map, List.map_cons, List.map_map]
  have e : ((fun j => aV 8 (x / 256 ^ j)) ∘ Nat.succ) = fun j => aV 8 (x / 256 / 256 ^ j) := by
   funext j
   show aV 8 (x / 256 ^ (j + 1)) = _
   rw [dX, df, Nat.div_div_eq_div_mul]
  rw [e]
  show (aV 8 (x / 256 ^ 0)).toNat + 256 * nB _ = _
  rw [ih, dX, df (256 ^ n), Nat.mod_mul]
  simp
theorem Qsk {k : Z4} {x : Int} : ((nB (Qox k x) % 2 ^ 255 : Nat) : Int) % pC = Qbk k x := by
 obtain ⟨h1, h2⟩ := Qmh k x
 have e : Qox k x = Nu (Qbk k x).toNat := rfl
 rw [e]
 generalize Qbk k x = w at *
 unfold Nu
 rw [nB_enc]
 have hp : pC + 19 = ((2 ^ 255 : Nat) : Int) := by decide +kernel
 have hq : (2 : Nat) ^ 255 * 2 = 256 ^ 32 := by decide +kernel
 generalize (2 : Nat) ^ 255 = P at *
 generalize (256 : Nat) ^ 32 = Q at *
 rw [ah (show w.toNat < Q by omega), ah (show w.toNat < P by omega), Int.toNat_of_nonneg h1]
 exact Int.emod_eq_of_lt h1 h2
theorem Qj5 {k : Z4} (hk : k.length = 32) : Sl (Y3 k) 254 = true := by
 unfold Sl
 show (((Y3 k).getD 0 0 >>> 0) &&& 1#8 == 0#8) = true
 rw [clamp_0 hk]
 generalize k.getD 0 0 = b
 revert b; decide +kernel
theorem Qtz {a b : Z4} (ha : a.length = 32) (hb : b.length = 32) (u : Z4) : Zu a (Zu b u) = Zu b (Zu a u) := by
 have e : ∀ (k : Z4) (x : Int), Qox k x = Nu (Qbk k x).toNat := fun _ _ => rfl
 rw [Qbs a, Qbs b (Zu a u), Qbs b u, Qbs a u, Qsk, Qsk, e, e, Qtc (Qj5 ha) (Qj5 hb)]
end --m
section
set_option linter.unusedVariables false
set_option linter.unusedSimpArgs false
theorem Qib (c t : Z4) (h : t.length = 32) : Dp (c ++ t) = c := by
 unfold Dp; rw [ag, h, Nat.add_sub_cancel]; exact List.take_left
theorem Qh0 (key nz la p : Z4) : Ux key nz la (Gn key nz la p) = true := by
 unfold Ux Gn
 rw [Qib _ _ (Qc7 _ _ _ _), ag, Qc7, Nat.add_sub_cancel, List.drop_left]
 exact beq_self_eq_true _
theorem Quk (key nz la p : Z4) : Su key nz la (Gn key nz la p) = 0 := by
 rw [Dw (by rw [Rk]; omega) (Qh0 key nz la p)]; rfl
theorem Qqc (key nz la p : Z4) : Td key nz la (Gn key nz la p) = p := by
 rw [Fg (by rw [Rk]; omega) (Qh0 key nz la p)]
 show Us key nz (Dp (Gn key nz la p)) = p
 unfold Gn
 rw [Qib _ _ (Qc7 _ _ _ _)]
 exact Qte _ _ _ _ _
def Qc0 (S : Sn) : Nat → Sn
 | 0 => S
 | n + 1 => Qgq (Qc0 S n)
def chn (t : Z4) : Nat → Z4
 | 0 => t
 | n + 1 => Xc (chn t n) [2#8]
theorem encI_at (S : Sn) (h : S.sb = true) (h1 : S.n1 = 0) : ∀ n, n < 2147483647 → (Qc0 S n).w = S.w ∧ (Qc0 S n).s = chn S.s n ∧ (Qc0 S n).n3 = S.n3 ∧ (Qc0 S n).n1 = n ∧ (Qc0 S n).ks = S.ks ∧ Lt (Qc0 S n) = 0 := by
 intro n
 induction n with
 | zero => intro _; exact ⟨rfl, rfl, rfl, h1, rfl, Qno h (by show S.n1 ≠ _; rw [h1]; decide)⟩
 | succ n ih =>
  intro hn
  obtain ⟨a, b, c, d, e, g⟩ := ih oM
  have hs : (Qc0 S n).sb = true := by
   cases e : (Qc0 S n).sb with
   | true => rfl
   | false => rw [Qq9 e] at g; exact absurd g Yx
  have e1 : Qc0 S (n + 1) = (Qc0 S n).one := (Qpk (b := []) (p := []) g).1
  rw [e1]
  have e2 : (Qc0 S n).one.n1 = ((n + 1 : Nat) : Int) := by show (Qc0 S n).n1 + 1 = _; rw [d]; rfl
  exact ⟨a, by show Xc (Qc0 S n).s [2#8] = _; rw [b]; rfl, c, e2, e, Qno hs (by rw [e2]; omega)⟩
theorem Qpd {n : Int} (h : 0 ≤ n) (h1 : n ≤ 2147483647) (X : Z4) : We (Si n ++ X) = n := by
 unfold We Si
 simp only [List.cons_append, List.getD_cons_zero, List.getD_cons_succ, BitVec.toNat_ofInt]
 omega
theorem Qrh {ow ch : Z4} {n : Int} {b p : Z4} (h0 : 0 ≤ n) (h1 : n ≤ 2147483647) :
  Ns (Ba ow ch 0 n b p) = true ∧ Xf (Ba ow ch 0 n b p) = ⟨Zu ow Yy, 0, n, Gz _ _⟩ ∧ (Ba ow ch 0 n b p).take 40 = Gv (Zu ow Yy) 0 n ∧ (Ba ow ch 0 n b p).drop 40 = Gn (Xc ch [1#8]) (aA 12 0) (b ++ Gv (Zu ow Yy) 0 n) p := by
 have hP : (Zu ow Yy).length = 32 := Gz _ _
 have hl := Qhh (p := 0) (n := n) hP
 generalize hX : Gn (Xc ch [1#8]) (aA 12 0) (b ++ Gv (Zu ow Yy) 0 n) p = X
 have e : Ba ow ch 0 n b p = Gv (Zu ow Yy) 0 n ++ X := by rw [← hX]; rfl
 rw [e]
 have d40 : (Gv (Zu ow Yy) 0 n ++ X).drop 40 = X := by rw [← hl, List.drop_left]
 have t40 : (Gv (Zu ow Yy) 0 n ++ X).take 40 = Gv (Zu ow Yy) 0 n := by rw [← hl, List.take_left]
 have e2 : Gv (Zu ow Yy) 0 n ++ X = Zu ow Yy ++ (Si 0 ++ (Si n ++ X)) := by unfold Gv; simp only [List.append_assoc]
 have d32 : (Gv (Zu ow Yy) 0 n ++ X).drop 32 = Si 0 ++ (Si n ++ X) := by rw [e2, ← hP, List.drop_left]
 have t32 : (Gv (Zu ow Yy) 0 n ++ X).take 32 = Zu ow Yy := by rw [e2, ← hP, List.take_left]
 have d36 : (Gv (Zu ow Yy) 0 n ++ X).drop 36 = Si n ++ X := by
  rw [show (36 : Nat) = 32 + 4 from rfl, ← List.drop_drop, d32, ← Qow 0, List.drop_left]
 have g1 : We ((Gv (Zu ow Yy) 0 n ++ X).drop 32) = 0 := by rw [d32]; exact Qpd Yx Yx _
 have g2 : We ((Gv (Zu ow Yy) 0 n ++ X).drop 36) = n := by rw [d36]; exact Qpd h0 h1 _
 have ok : Ns (Gv (Zu ow Yy) 0 n ++ X) = true := Qnd (by rw [ag, hl]; omega) (by rw [g1]; decide) (by rw [g2]; omega)
 refine ⟨ok, ?_, t40, d40⟩
 rw [(Qe9 ok).1]
 have e3 : F7 ((Gv (Zu ow Yy) 0 n ++ X).take 32) = Zu ow Yy := by rw [t32, Ci hP]
 have : ∀ (c c' : Z4) (p p' n n' : Int) (h : c.length = 32) (h' : c'.length = 32), c = c' → p = p' → n = n' → Hd.mk c p n h = Hd.mk c' p' n' h' := by
  intro c c' p p' n n' h h' a b c; subst a b c; rfl
 exact this _ _ _ _ _ _ _ _ e3 g1 g2
theorem skip_t (S : Sn) : ∀ k, (Zt S k).t = chn S.t k ∧ (Zt S k).o = S.o
 | 0 => ⟨rfl, rfl⟩
 | k + 1 => by
  obtain ⟨a, b⟩ := skip_t S k
  exact ⟨by show Xc (Zt S k).t [2#8] = _; rw [a]; rfl, b⟩
attribute [local irreducible] Zu Yy Y7 X8 Xc Gn Gv Si F7 Ba
section
variable {ro ow ot : Z4}
def Qel (ro ow ot f : Z4) : Sn := (Xo ro ot).renew (Zu ow Yy) f
theorem Qb3 (ro ow ot f : Z4) : (Qel ro ow ot f).n2 = 0 ∧ (Qel ro ow ot f).ks = [] ∧ (Qel ro ow ot f).o = F7 (Zu ow Yy) ∧ (Qel ro ow ot f).t = Y7 (F7 ro) (Zu (F7 ot) (Zu ow Yy)) := ⟨rfl, rfl, rfl, rfl⟩
theorem ans_t (hro : ro.length = 32) (how : ow.length = 32) (hot : ot.length = 32) (f : Z4) : (Qel ro ow ot f).t = Y7 ro (Zu ow (Zu ot Yy)) := by
 rw [(Qb3 ro ow ot f).2.2.2, Ci hro, Ci hot, Qtz hot how]
theorem mail_eq (how : ow.length = 32) (n : Nat) (hn : n < 2147483647) (b p : Z4) : Qb1 (Qc0 (Ea ro ow (Zu ot Yy)) n) b p = Ba ow (chn (Y7 ro (Zu ow (Zu ot Yy))) n) 0 n b p := by
 obtain ⟨h1, h2, h3, h4, h5, h6⟩ := encI_at (Ea ro ow (Zu ot Yy)) rfl rfl n hn
 rw [(Qpk h6).2.1, h1, h2, h3, h4]
 show Ba (F7 ow) _ _ _ _ _ = _
 rw [Ci how]; rfl
theorem Qsn (f : Z4) (n : Nat) : Qar (Qel ro ow ot f) n = decide (1000 < n) := by
 unfold Qar
 rw [(Qb3 ro ow ot f).1]
 by_cases h : 1000 < n
 ·rw [decide_eq_true h]; exact decide_eq_true oM
 rw [decide_eq_false h]; exact decide_eq_false oM
section
variable {s : Z4} {n : Nat} {f : Z4}
theorem rch_ans (hh : Xf s = ⟨Zu ow Yy, 0, n, Gz _ _⟩) : Qc6 (Xo ro ot) (Xf s) = false ∧ Jo (Xo ro ot) (Xf s) f = Qel ro ow ot f := by
 refine ⟨too_b rfl, ?_⟩
 rw [Qp7 (by unfold Qej; rw [show (Xo ro ot).tb = false from rfl]; simp) rfl, hh]; rfl
theorem Qj9 : Cm (Xo ro ot) s = -1 := rfl
end
theorem leave_t {S : Sn} {n : Int} (h : Qar S n = false) : Q9 S n = Qga S n := by unfold Q9; rw [h]; rfl
theorem trim_t (S : Sn) (k : Nat) : (S.trim k).t = S.t := rfl
theorem Qt1 (f : Z4) {n : Nat} (h : n ≤ 1000) : (Q9 (Qel ro ow ot f) n).t = chn (Qel ro ow ot f).t n ∧ (Q9 (Qel ro ow ot f) n).n2 = n ∧ (Q9 (Qel ro ow ot f) n).ks = (Zt (Qel ro ow ot f) n).ks := by
 rw [leave_t (by rw [Qsn]; exact decide_eq_false oM)]
 unfold Qga
 rw [(Qb3 ro ow ot f).1, show ((n : Int) - 0).toNat = n by omega]
 have hl : (Zt (Qel ro ow ot f) n).ks.length = n := by rw [Qfu]; show 0 + n = n; omega
 refine ⟨(trim_t _ _).trans (skip_t _ n).1, ?_, ?_⟩
 ·have h2 := Qft (Qel ro ow ot f) n
  rw [(Qb3 ro ow ot f).1] at h2
  exact (Qr2 _ _).trans (h2.trans oM)
 rw [← Qfm, hl, show n - 2000 = 0 by omega, List.drop_zero]
theorem trip (hro : ro.length = 32) (how : ow.length = 32) (hot : ot.length = 32) (f b p : Z4) {n : Nat} (h : n ≤ 1000) :
  Ez (Xo ro ot) b (Qb1 (Qc0 (Ea ro ow (Zu ot Yy)) n) b p) f = 0 ∧ Sv (Xo ro ot) b (Qb1 (Qc0 (Ea ro ow (Zu ot Yy)) n) b p) f = p ∧ Bo (Xo ro ot) b (Qb1 (Qc0 (Ea ro ow (Zu ot Yy)) n) b p) f = (Q9 (Qel ro ow ot f) n).take1 := by
 rw [mail_eq how n oM]
 obtain ⟨h1, h2, h3, h4⟩ := Qrh (ow := ow) (ch := chn (Y7 ro (Zu ow (Zu ot Yy))) n) (n := (n : Int)) (b := b) (p := p) oM oM
 generalize Ba ow (chn (Y7 ro (Zu ow (Zu ot Yy))) n) 0 n b p = s at *
 obtain ⟨h5, h6⟩ := rch_ans (ro := ro) (ot := ot) (f := f) h2
 have hN : (Xf s).n = (n : Int) := by rw [h2]
 have hf : Qar (Qel ro ow ot f) (n : Int) = false := by rw [Qsn]; exact decide_eq_false oM
 have h7 := Qmy (S := Xo ro ot) (h := Xf s) (f := f) h5 (by rw [h6, hN, (Qb3 ro ow ot f).1]; omega) (Qdh (by rw [h6, hN]; exact hf))
 rw [h6, hN] at h7
 have hk : Nk (Xo ro ot) s f = Xc (chn (Y7 ro (Zu ow (Zu ot Yy))) n) [1#8] := by
  rw [Qgc (by rw [Qj9]; decide), h7.2.2, (Qt1 f h).1, ans_t hro how hot]
 have hd : Qds (Xo ro ot) s f = 0 := by rw [Qgt h1 (by rw [Qj9]; decide), h7.1]
 have hE : Ez (Xo ro ot) b s f = 0 := by rw [Qrd hd, hk]; unfold Qcy; rw [h3, h4]; exact Quk _ _ _ _
 obtain ⟨z1, z2, z3⟩ := dec_z hE
 refine ⟨hE, ?_, ?_⟩
 ·rw [z2, hk]; unfold opnP; rw [h3, h4]; exact Qqc _ _ _ _
 rw [z1, Qiz (by rw [Qj9]; decide), h7.2.1]
end
theorem trip_0 {ro ow ot : Z4} (hro : ro.length = 32) (how : ow.length = 32) (hot : ot.length = 32) (f b p : Z4) :
  Ez (Xo ro ot) b (Qb1 (Ea ro ow (Zu ot Yy)) b p) f = 0 ∧ Sv (Xo ro ot) b (Qb1 (Ea ro ow (Zu ot Yy)) b p) f = p :=
 ⟨(trip hro how hot f b p (aJ 1000)).1, (trip hro how hot f b p (aJ 1000)).2.1⟩
theorem rem_nat {a b : Int} (h0 : 0 ≤ a) (hb : 0 < b) : ∃ q : Nat, a % b = (q : Int) ∧ (q : Int) < b := by
 have h1 := Int.emod_nonneg a (by omega : b ≠ 0)
 have h2 := Int.emod_lt_of_pos a hb
 exact ⟨(a % b).toNat, by omega, by omega⟩
end --m
end Go.Proofs.YtkmiemlpfkfiiaaDoor
