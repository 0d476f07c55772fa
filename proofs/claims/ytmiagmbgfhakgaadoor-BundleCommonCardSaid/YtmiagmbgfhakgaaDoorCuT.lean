/- The products of numbers commute. Conditions: none beyond those that each theorem states. -/
import Derived.Test.YtmiagmbgfhakgaaDoorCuS
import Derived.Test.YtmiagmbgfhakgaaDoorCuQ
namespace Go.Proofs.YtmiagmbgfhakgaaDoor
set_option linter.unusedVariables false
set_option linter.unusedSimpArgs false
/-! ### The numbers modulo 2 to the 255 less 19 -/
def mH : Nat := 28948022309329048855892746252171976963317496166410141009864396001978282409974
def mQ : Nat := 14474011154664524427946373126085988481658748083205070504932198000989141204987
def mE : Nat := 7237005577332262213973186563042994240829374041602535252466099000494570602494
def iR : Nat := 19681161376707505956807079304988542015446066515923890162744021073123829784752
theorem mH_eq : 2 * mH + 1 = pN := by decide +kernel
theorem mQ_eq : mQ + mQ = mH := by decide +kernel
theorem mE_eq : mE + mE = mQ + 1 := by decide +kernel
theorem iR_sq : iR * iR % pN = pN - 1 := by decide +kernel
theorem pN_pri : Pri pN := pri_p
theorem pN_two : 2 < pN := by decide +kernel
def dN1 : Nat := 20800338683988658368647408995589388737092878452977063003340006470870624536394
def dN2 : Nat := 28692721048178265397853269683490922171210976843790175684556505508326675974058
def nN : Nat := 236839902240
theorem euler_d1 : pwB pN dN1 (bitsOf 254 mH) 1 % pN = pN - 1 := by decide +kernel
theorem euler_d2 : pwB pN dN2 (bitsOf 254 mH) 1 % pN = pN - 1 := by decide +kernel
theorem euler_n : pwB pN nN (bitsOf 254 mH) 1 % pN = pN - 1 := by decide +kernel
theorem bits_mH : valB (bitsOf 254 mH) 0 = mH := by decide +kernel
theorem dN1_eq : dN1 * 121666 % pN = 121665 := by decide +kernel
theorem dN2_eq : dN2 * 121665 % pN = 121666 := by decide +kernel
section
variable {z t : Nat}
theorem sq_one {w : Nat} (hl : w < pN) (h : w * w % pN = 1) : w = 1 ∨ w = pN - 1 := by
  have h2 := pN_two
  by_cases hw : w = 0
  · subst hw; simp at h
  · have h4 : (w - 1) * (w + 1) = w * w - 1 := by
      obtain ⟨v, rfl⟩ : ∃ v, w = v + 1 := ⟨w - 1, by omega⟩
      rw [Nat.add_sub_cancel]
      have : (v + 1) * (v + 1) = v * (v + 1 + 1) + 1 := by grind
      omega
    have hd : pN ∣ (w - 1) * (w + 1) := by
      rw [h4]; exact Nat.dvd_of_mod_eq_zero (Nat.sub_mod_eq_zero_of_mod_eq (by rw [h]; exact (Nat.mod_eq_of_lt oM).symm))
    rcases pN_pri.dvd_mul hd with c | c
    · left
      by_cases h1 : w - 1 = 0
      · omega
      · have := Nat.le_of_dvd oM c; omega
    · right
      have := Nat.le_of_dvd oM c; omega
theorem mod_ltp (x : Nat) : x % pN < pN := Nat.mod_lt _ (by have := pN_two; omega)
theorem pow_half (h : ¬ pN ∣ z) : z ^ mH % pN = 1 ∨ z ^ mH % pN = pN - 1 := by
  have hf := fermat1 pN_pri h
  have e : pN - 1 = mH + mH := by have := mH_eq; omega
  rw [e, Nat.pow_add, Nat.mul_mod] at hf
  exact sq_one (mod_ltp _) hf
theorem sq_half (h : ¬ pN ∣ t) (hz : t * t % pN = z % pN) : z ^ mH % pN = 1 := by
  have hf := fermat1 pN_pri h
  have e : pN - 1 = 2 * mH := by have := mH_eq; omega
  rw [e, Nat.pow_mul, Nat.pow_mod, Nat.pow_two, hz, ← Nat.pow_mod] at hf
  exact hf
theorem neg_sq : (pN - 1) * (pN - 1) % pN = 1 := by
  have h2 := pN_two
  obtain ⟨q, hq⟩ : ∃ q, pN = q + 1 := ⟨pN - 1, by omega⟩
  rw [hq, Nat.add_sub_cancel]
  have : q * q = 1 + (q + 1) * (q - 1) := by
    obtain ⟨r, rfl⟩ : ∃ r, q = r + 1 := ⟨q - 1, by omega⟩
    rw [Nat.add_sub_cancel]; grind
  rw [this, Nat.add_mul_mod_self_left]
  exact Nat.mod_eq_of_lt oM
theorem mod_shuf {q v P : Nat} : q * v % P * q % P = v * (q * q % P) % P := by
  rw [Nat.mod_mul_mod, Nat.mul_mod_mod, show q * v * q = v * (q * q) by grind]
theorem fermat2 {P v e : Nat} (hp : Pri P) (h : ¬ P ∣ v) (he : e + 2 = P) : v * v ^ e % P = 1 % P := by
  have hf := fermat1 hp h
  have h2 := hp.1
  rw [show P - 1 = e + 1 by omega, Nat.pow_succ, Nat.mul_comm] at hf
  rw [hf, Nat.mod_eq_of_lt oM]
theorem root_of (h : ¬ pN ∣ z) (h1 : z ^ mH % pN = 1) : ∃ t, t * t % pN = z % pN := by
  have e := mQ_eq
  have hq : (z ^ mQ % pN) * (z ^ mQ % pN) % pN = 1 := by rw [← Nat.mul_mod, ← Nat.pow_add, e]; exact h1
  have hr : z ^ mE * z ^ mE = z ^ mQ * z := by rw [← Nat.pow_add, mE_eq, Nat.pow_succ]
  rcases sq_one (mod_ltp _) hq with c | c
  · exact ⟨z ^ mE, by rw [hr, Nat.mul_mod, c, Nat.one_mul, Nat.mod_mod]⟩
  · refine ⟨z ^ mE * iR, ?_⟩
    have e1 : z ^ mE * iR * (z ^ mE * iR) = z ^ mQ * z * (iR * iR) := by rw [← hr]; grind
    rw [e1, Nat.mul_mod, iR_sq, Nat.mul_mod (z ^ mQ), c]
    rw [mod_shuf, neg_sq, Nat.mul_one, Nat.mod_mod]
theorem no_root {D : Nat} (h : pwB pN D (bitsOf 254 mH) 1 % pN = pN - 1) (hD : ¬ pN ∣ D) : t * t % pN ≠ D % pN := fun hz => by
  have h2 := pN_two
  have e := pw_eq bits_mH h
  have ht : ¬ pN ∣ t := fun ⟨c, hc⟩ => by
    rw [hc, Nat.mul_assoc, Nat.mul_mod_right] at hz
    exact hD (Nat.dvd_of_mod_eq_zero hz.symm)
  rw [sq_half ht hz] at e
  omega
end
/-! The field. -/
instance neP : NeZero pN := ⟨by decide⟩
abbrev Fp : Type := Fin pN
def ofN (n : Nat) : Fp := (⟨n % pN, mod_ltp n⟩ : Fin pN)
def valP (z : Fp) : Nat := (show Fin pN from z).val
theorem valP_lt (z : Fp) : valP z < pN := (show Fin pN from z).isLt
theorem ofN_val (z : Fp) : ofN (valP z) = z := Fin.ext (Nat.mod_eq_of_lt (valP_lt z))
theorem val_ofN (n : Nat) : valP (ofN n) = n % pN := rfl
theorem ofN_eq {m n : Nat} (h : m % pN = n % pN) : ofN m = ofN n := Fin.ext h
theorem ofN_inj {m n : Nat} (h : ofN m = ofN n) : m % pN = n % pN := congrArg valP h
theorem ofN_mul (m n : Nat) : ofN (m * n) = ofN m * ofN n := Fin.ext (Nat.mul_mod m n pN)
theorem ofN_add (m n : Nat) : ofN (m + n) = ofN m + ofN n := Fin.ext (Nat.add_mod m n pN)
theorem ofN_0 : ofN 0 = 0 := Fin.ext rfl
theorem ofN_1 : ofN 1 = 1 := Fin.ext rfl
theorem ofN_succ (n : Nat) : ofN (n + 1) = ofN n + 1 := by rw [ofN_add, ofN_1]
def toP (x : Int) : Fp := ofN (x % pC).toNat
theorem pC_pN : pC = (pN : Int) := rfl
theorem toP_nat (n : Nat) : toP (n : Int) = ofN n := by
  unfold toP; rw [pC_pN]
  exact ofN_eq (by rw [← Int.natCast_emod, Int.toNat_natCast, Nat.mod_mod])
theorem emod_nat (x : Int) : ∃ n : Nat, x % pC = (n : Int) ∧ (x % pC).toNat = n := ⟨(x % pC).toNat, (Int.toNat_of_nonneg (Int.emod_nonneg x (by decide))).symm, rfl⟩
theorem toP_mod (x : Int) : toP (x % pC) = toP x := by unfold toP; rw [Int.emod_emod_of_dvd x (Int.dvd_refl pC)]
theorem toP_cong {x y : Int} (h : x % pC = y % pC) : toP x = toP y := by unfold toP; rw [h]
theorem toP_mul (x y : Int) : toP (x * y) = toP x * toP y := by
  obtain ⟨m, h1, h2⟩ := emod_nat x
  obtain ⟨n, h3, h4⟩ := emod_nat y
  rw [toP_cong (y := ((m * n : Nat) : Int)) (by rw [Int.mul_emod, h1, h3, Int.natCast_mul]), toP_nat, ofN_mul]
  unfold toP; rw [h2, h4]
theorem toP_add (x y : Int) : toP (x + y) = toP x + toP y := by
  obtain ⟨m, h1, h2⟩ := emod_nat x
  obtain ⟨n, h3, h4⟩ := emod_nat y
  rw [toP_cong (y := ((m + n : Nat) : Int)) (by rw [Int.add_emod, h1, h3, Int.natCast_add]), toP_nat, ofN_add]
  unfold toP; rw [h2, h4]
theorem toP_sub (x y : Int) : toP (x - y) = toP x - toP y := by
  have h := toP_add (x - y) y
  rw [Int.sub_add_cancel] at h
  generalize toP (x - y) = u at *
  generalize toP x = v at *
  generalize toP y = w at *
  grind
theorem toP_inj {x y : Int} (hx : 0 ≤ x ∧ x < pC) (hy : 0 ≤ y ∧ y < pC) (h : toP x = toP y) : x = y := by
  have h1 := ofN_inj h
  rw [Int.emod_eq_of_lt hx.1 hx.2, Int.emod_eq_of_lt hy.1 hy.2] at h1
  have e := pC_pN
  rw [Nat.mod_eq_of_lt oM, Nat.mod_eq_of_lt oM] at h1
  omega
theorem toP_M (x y : Int) : toP (fM x y) = toP x * toP y := by unfold fM; rw [toP_mod, toP_mul]
theorem toP_A (x y : Int) : toP (fA x y) = toP x + toP y := by unfold fA; rw [toP_mod, toP_add]
theorem toP_S (x y : Int) : toP (fS x y) = toP x - toP y := by unfold fS; rw [toP_mod, toP_sub]
theorem toP_0 : toP 0 = 0 := by rw [show (0 : Int) = ((0 : Nat) : Int) from rfl, toP_nat, ofN_0]
theorem toP_1 : toP 1 = 1 := by rw [show (1 : Int) = ((1 : Nat) : Int) from rfl, toP_nat, ofN_1]
/-! One by a number. -/
def eI : Nat → Nat
  | 0 => 0
  | j + 1 => if j = 252 ∨ j = 250 then 2 * eI j else 2 * eI j + 1
theorem eI_255 : eI 255 + 2 = pN := by decide +kernel
theorem invF_pow (n : Nat) : ∀ j, (invF (n : Int) j) % pC = ((n ^ eI j % pN : Nat) : Int) % pC
  | 0 => rfl
  | j + 1 => by
    have ih := invF_pow n j
    have hs : fM (invF (n : Int) j) (invF (n : Int) j) % pC = ((n ^ (2 * eI j) % pN : Nat) : Int) % pC := by
      unfold fM
      rw [Int.emod_emod_of_dvd _ (Int.dvd_refl pC), Int.mul_emod, ih, ← Int.mul_emod, ← Int.natCast_mul, pC_pN, ← Int.natCast_emod, ← Int.natCast_emod, ← Nat.mul_mod, ← Nat.pow_add, Nat.two_mul, Nat.mod_mod]
    unfold invF eI
    by_cases h : j = 252 ∨ j = 250
    · rw [if_pos h, if_pos h]; exact hs
    · rw [if_neg h, if_neg h]
      show fM (fM _ _) _ % pC = _
      have : ∀ y : Int, fM y (n : Int) % pC = (y % pC) * (n : Int) % pC := fun y => by
        unfold fM; rw [Int.emod_emod_of_dvd _ (Int.dvd_refl pC), Int.mul_emod y, Int.mul_emod (y % pC) (n : Int), Int.emod_emod_of_dvd y (Int.dvd_refl pC)]
      rw [this, hs, pC_pN, ← Int.natCast_emod, ← Int.natCast_mul, ← Int.natCast_emod, ← Int.natCast_emod, Nat.mod_mod, Nat.mod_mod, Nat.mod_mul_mod, Nat.pow_succ]
noncomputable def invP (z : Fp) : Fp := toP (invF (valP z : Int) 255)
theorem invP_val (z : Fp) : invP z = ofN (valP z ^ eI 255) := by
  unfold invP
  rw [toP_cong (invF_pow (valP z) 255), toP_nat]
  exact ofN_eq (Nat.mod_mod _ _)
theorem ne_dvd {z : Fp} (hz : z ≠ 0) : ¬ pN ∣ valP z := fun h => hz (by rw [← ofN_val z, ← ofN_0]; exact ofN_eq (by rw [Nat.mod_eq_zero_of_dvd h, Nat.zero_mod]))
theorem mul_pw {v : Nat} (h : ¬ pN ∣ v) : ofN v * ofN (v ^ eI 255) = 1 := by
  rw [← ofN_mul, ← ofN_1]
  exact ofN_eq (fermat2 pN_pri h eI_255)
theorem mul_invP (z : Fp) (hz : z ≠ 0) : z * invP z = 1 := by
  have h := mul_pw (ne_dvd hz)
  rw [← invP_val, ofN_val] at h
  exact h
theorem invP_zero : invP 0 = 0 := by
  have h : valP (0 : Fp) = 0 := rfl
  have e : eI 255 ≠ 0 := fun h0 => by have h1 := eI_255; have h2 := pN_two; rw [h0] at h1; omega
  rw [invP_val, h, Nat.zero_pow (Nat.pos_of_ne_zero e), ofN_0]
theorem ofN_ne {m n : Nat} (h : (m % pN == n % pN) = false) : ofN m ≠ ofN n := fun e => by
  have := ofN_inj e
  rw [this] at h; simp at h
theorem fin_two {c : Nat} [NeZero c] : (1 : Fin c) + 1 = 2 := by grind
theorem two_P : (2 : Fp) = ofN 2 := by
  have h : (1 : Fp) + 1 = 2 := fin_two
  rw [← h, ← ofN_1, ← ofN_add]
theorem nonsqP {D : Nat} (h : pwB pN D (bitsOf 254 mH) 1 % pN = pN - 1) (hD : ¬ pN ∣ D) (s : Fp) : s * s ≠ ofN D := fun e => by
  rw [← ofN_val s, ← ofN_mul] at e
  exact no_root h hD (ofN_inj e)
noncomputable def edP (D : Nat) (h : pwB pN D (bitsOf 254 mH) 1 % pN = pN - 1) (hD : ¬ pN ∣ D) : Ed pN where
  inv := invP
  mul_inv := mul_invP
  inv_zero := invP_zero
  one_ne := by rw [← ofN_1, ← ofN_0]; exact ofN_ne (by decide +kernel)
  two_ne := by rw [two_P, ← ofN_0]; exact ofN_ne (by decide +kernel)
  d := ofN D
  nonsq := nonsqP h hD
theorem not_dvd {D : Nat} (h : (D % pN == 0) = false) : ¬ pN ∣ D := fun e => by rw [Nat.mod_eq_zero_of_dvd e] at h; simp at h
noncomputable def ed1 : Ed pN := edP dN1 euler_d1 (not_dvd (by decide +kernel))
noncomputable def ed2 : Ed pN := edP dN2 euler_d2 (not_dvd (by decide +kernel))
noncomputable def aP : Fp := ofN 121665
theorem aP_0 : aP ≠ 0 := by unfold aP; rw [← ofN_0]; exact ofN_ne (by decide +kernel)
theorem aP_s : aP + 1 = ofN 121666 := by unfold aP; rw [← ofN_succ]
theorem aP_1 : aP + 1 ≠ 0 := by rw [aP_s, ← ofN_0]; exact ofN_ne (by decide +kernel)
theorem mo1 : Mo ed1 aP 1 := ⟨aP_0, aP_1, .inl ⟨rfl, by
  show ofN dN1 * (aP + 1) = aP
  rw [aP_s, ← ofN_mul]; unfold aP
  exact ofN_eq (by rw [dN1_eq]; decide +kernel)⟩⟩
theorem mo2 : Mo ed2 aP (-1) := ⟨aP_0, aP_1, .inr ⟨rfl, by
  show ofN dN2 * aP = aP + 1
  rw [aP_s]; unfold aP; rw [← ofN_mul]
  exact ofN_eq (by rw [dN2_eq]; decide +kernel)⟩⟩
/-! Each number is a point's, of one curve or of the other. -/
section
variable {cP : Nat} [NeZero cP] {E : Ed cP} {a x s : (Fin cP)}
theorem quad_ne (E : Ed cP) {u w : (Fin cP)} (hu : u ≠ 0) (hw : w * w = E.d * (u * u)) : False := E.not_sq hu hw
theorem on_one {d a x u v s : (Fin cP)} (hd : d * (a + 1) = a) (hs : s * s = (4 * a + 4) * (x * (x * x + (4 * a + 2) * x + 1))) (i : s * u = 1) (j : (x + 1) * v = 1) :
    ((4 * a + 4) * x * u) * ((4 * a + 4) * x * u) + ((x - 1) * v) * ((x - 1) * v) = 1 + d * (((4 * a + 4) * x * u) * ((4 * a + 4) * x * u)) * (((x - 1) * v) * ((x - 1) * v)) := by grind
theorem on_two {d a x u v s : (Fin cP)} (hd : d * a = a + 1) (hs : s * s = (4 * a) * (x * (x * x + (4 * a + 2) * x + 1))) (i : s * u = 1) (j : (x - 1) * v = 1) :
    ((4 * a) * x * u) * ((4 * a) * x * u) + ((x + 1) * v) * ((x + 1) * v) = 1 + d * (((4 * a) * x * u) * ((4 * a) * x * u)) * (((x + 1) * v) * ((x + 1) * v)) := by grind
theorem four_P (E : Ed cP) : (4 : (Fin cP)) ≠ 0 := fun h => (E.mul_ne E.two_ne E.two_ne) (by grind)
theorem A_ne (E : Ed cP) (ha : a + 1 ≠ 0) : 4 * a + 4 ≠ 0 := fun h => (E.mul_ne (four_P E) ha) (by grind)
theorem q_ne (hd : E.d * (a + 1) = a) (hA : 4 * a + 4 ≠ 0) : x * x + (4 * a + 2) * x + 1 ≠ 0 := fun h => quad_ne E hA (w := 2 * x + (4 * a + 2)) (by grind)
theorem pt_one (hd : E.d * (a + 1) = a) (ha : a + 1 ≠ 0) (hx : x ≠ 0) (hs : s * s = (4 * a + 4) * (x * (x * x + (4 * a + 2) * x + 1))) : ∃ B : Pt E, uvK E 1 B.y = x := by
  have four : (4 : (Fin cP)) ≠ 0 := fun h => (E.mul_ne E.two_ne E.two_ne) (by grind)
  have hA : 4 * a + 4 ≠ 0 := fun h => (E.mul_ne four ha) (by grind)
  have hf : x * x + (4 * a + 2) * x + 1 ≠ 0 := fun h => quad_ne E hA (w := 2 * x + (4 * a + 2)) (by grind)
  have hs0 : s ≠ 0 := fun h => (E.mul_ne hA (E.mul_ne hx hf)) (by rw [← hs, h]; grind)
  have hx1 : x + 1 ≠ 0 := fun h => quad_ne E hA (w := s) (by
    have : x = -1 := by grind
    rw [hs, this]; grind)
  have i := E.mul_inv _ hs0
  have j := E.mul_inv _ hx1
  refine ⟨⟨(4 * a + 4) * x * E.inv s, (x - 1) * E.inv (x + 1), ?_⟩, ?_⟩
  · exact on_one hd hs i j
  · show (1 + (x - 1) * E.inv (x + 1)) * E.inv (1 * (1 - (x - 1) * E.inv (x + 1))) = x
    generalize E.inv (x + 1) = v at *
    have h1 : 1 * (1 - (x - 1) * v) ≠ 0 := fun h => E.two_ne (by grind)
    have k := E.mul_inv _ h1
    generalize E.inv (1 * (1 - (x - 1) * v)) = w at *
    refine E.cancel h1 ?_
    grind
theorem pt_two (hd : E.d * a = a + 1) (ha : a ≠ 0) (hx : x ≠ 0) (hs : s * s = (4 * a) * (x * (x * x + (4 * a + 2) * x + 1))) : ∃ B : Pt E, uvK E (-1) B.y = x := by
  have four : (4 : (Fin cP)) ≠ 0 := fun h => (E.mul_ne E.two_ne E.two_ne) (by grind)
  have hA : 4 * a ≠ 0 := E.mul_ne four ha
  have hf : x * x + (4 * a + 2) * x + 1 ≠ 0 := fun h => quad_ne E hA (w := 2 * x + (4 * a + 2)) (by grind)
  have hs0 : s ≠ 0 := fun h => (E.mul_ne hA (E.mul_ne hx hf)) (by rw [← hs, h]; grind)
  have hx1 : x - 1 ≠ 0 := fun h => quad_ne E hA (w := s) (by
    have : x = 1 := by grind
    rw [hs, this]; grind)
  have i := E.mul_inv _ hs0
  have j := E.mul_inv _ hx1
  refine ⟨⟨(4 * a) * x * E.inv s, (x + 1) * E.inv (x - 1), ?_⟩, ?_⟩
  · exact on_two hd hs i j
  · show (1 + (x + 1) * E.inv (x - 1)) * E.inv (-1 * (1 - (x + 1) * E.inv (x - 1))) = x
    generalize E.inv (x - 1) = v at *
    have h1 : -1 * (1 - (x + 1) * v) ≠ 0 := fun h => E.two_ne (by grind)
    have k := E.mul_inv _ h1
    generalize E.inv (-1 * (1 - (x + 1) * v)) = w at *
    refine E.cancel h1 ?_
    grind
theorem uv_zero (s : (Fin cP)) : uvK E s (Pt.zero : Pt E).y = 0 := by
  unfold uvK
  have e1 : (Pt.zero : Pt E).y = 1 := rfl
  rw [e1, show s * (1 - (1 : (Fin cP))) = 0 by grind, E.inv_zero]; grind
end
theorem root_P {z : Fp} (hz : z ≠ 0) (h : valP z ^ mH % pN = 1) : ∃ t : Fp, t * t = z := by
  obtain ⟨t, ht⟩ := root_of (ne_dvd hz) h
  refine ⟨ofN t, ?_⟩
  rw [← ofN_mul, ← ofN_val z]; exact ofN_eq ht
theorem mul_half {u v P : Nat} (hu : u % P = P - 1) (hv : v % P = P - 1) (h : (P - 1) * (P - 1) % P = 1) : u * v % P = 1 := by rw [Nat.mul_mod, hu, hv, h]
theorem val_mul (y z : Fp) : valP (y * z) = valP y * valP z % pN := by
  conv => lhs; rw [← ofN_val y, ← ofN_val z, ← ofN_mul, val_ofN]
theorem either_root {z n : Fp} (hz : z ≠ 0) (hzn : z * n ≠ 0) (hn : valP n ^ mH % pN = pN - 1) : (∃ t : Fp, t * t = z) ∨ ∃ t : Fp, t * t = z * n := by
  rcases pow_half (ne_dvd hz) with h | h
  · exact .inl (root_P hz h)
  · refine .inr (root_P hzn ?_)
    rw [val_mul, ← Nat.pow_mod, Nat.mul_pow]
    exact mul_half h hn neg_sq
theorem fin_four {c : Nat} [NeZero c] : (2 : Fin c) * 2 = 4 := by grind
theorem a_num : (4 * aP + 4) * (4 * aP) = ofN nN := by
  have h4 : (4 : Fp) = ofN 4 := by
    have h : (2 : Fp) * 2 = 4 := fin_four
    rw [← h, two_P, ← ofN_mul]
  unfold aP
  rw [h4, ← ofN_mul, ← ofN_add, ← ofN_mul]
  exact ofN_eq (by decide +kernel)
theorem nN_half : valP (ofN nN) ^ mH % pN = pN - 1 := by
  rw [val_ofN, ← Nat.pow_mod]; exact pw_eq bits_mH euler_n
theorem root_two {cP : Nat} [NeZero cP] {a t w c q : (Fin cP)} (hc : c = 4 * a + 4) (hw : c * w = 1) (h : t * t = c * q * (c * (4 * a))) : (t * w) * (t * w) = (4 * a) * q := by
  have : (t * w) * (t * w) = (t * t) * (w * w) := by grind
  rw [this, h]; grind
/-- Each number is told by a point. -/
theorem pt_any (x : Fp) : (∃ B : Pt ed1, uvK ed1 1 B.y = x) ∨ ∃ B : Pt ed2, uvK ed2 (-1) B.y = x := by
  by_cases hx : x = 0
  · subst hx; exact .inl ⟨Pt.zero, uv_zero 1⟩
  · obtain ⟨_, hd1⟩ : (1 : Fp) = 1 ∧ ed1.d * (aP + 1) = aP := ⟨rfl, by
      show ofN dN1 * (aP + 1) = aP
      rw [aP_s, ← ofN_mul]; unfold aP
      exact ofN_eq (by rw [dN1_eq]; decide +kernel)⟩
    obtain ⟨_, hd2⟩ : (1 : Fp) = 1 ∧ ed2.d * aP = aP + 1 := ⟨rfl, by
      show ofN dN2 * aP = aP + 1
      rw [aP_s]; unfold aP; rw [← ofN_mul]
      exact ofN_eq (by rw [dN2_eq]; decide +kernel)⟩
    have four := four_P ed1
    have hA := A_ne ed1 aP_1
    have hf := q_ne (x := x) hd1 hA
    have hz : (4 * aP + 4) * (x * (x * x + (4 * aP + 2) * x + 1)) ≠ 0 := ed1.mul_ne hA (ed1.mul_ne hx hf)
    have hzn : (4 * aP + 4) * (x * (x * x + (4 * aP + 2) * x + 1)) * ofN nN ≠ 0 := by
      rw [← a_num]; exact ed1.mul_ne hz (ed1.mul_ne hA (ed1.mul_ne four aP_0))
    rcases either_root hz hzn nN_half with ⟨t, ht⟩ | ⟨t, ht⟩
    · exact .inl (pt_one hd1 aP_1 hx ht)
    · rw [← a_num] at ht
      exact .inr (pt_two hd2 aP_0 hx (root_two rfl (ed1.mul_inv _ hA) ht))
/-! The ladder over whole numbers is the one over the field. -/
def toL (s : LadF) : Fp × Fp × Fp × Fp := (toP s.px, toP s.pz, toP s.qx, toP s.qz)
theorem step_P (a b c d x : Int) : toP (stepF a b c d x).px = (stepK aP (toP a) (toP b) (toP c) (toP d) (toP x)).px ∧ toP (stepF a b c d x).pz = (stepK aP (toP a) (toP b) (toP c) (toP d) (toP x)).pz ∧
    toP (stepF a b c d x).qx = (stepK aP (toP a) (toP b) (toP c) (toP d) (toP x)).qx ∧ toP (stepF a b c d x).qz = (stepK aP (toP a) (toP b) (toP c) (toP d) (toP x)).qz := by
  have e : toP 121665 = aP := toP_nat 121665
  refine ⟨?_, ?_, ?_, ?_⟩ <;> unfold stepF stepK <;> simp only [toP_M, toP_A, toP_S, e]
theorem lad_P (bit : Nat → Bool) (x : Int) : ∀ j, toP (ladF bit x j).px = (ladK aP bit (toP x) j).px ∧ toP (ladF bit x j).pz = (ladK aP bit (toP x) j).pz ∧ toP (ladF bit x j).qx = (ladK aP bit (toP x) j).qx ∧ toP (ladF bit x j).qz = (ladK aP bit (toP x) j).qz
  | 0 => ⟨toP_1, toP_0, rfl, toP_1⟩
  | j + 1 => by
    obtain ⟨h1, h2, h3, h4⟩ := lad_P bit x j
    unfold ladF ladK
    cases bit j
    · simp only [Bool.false_eq_true, if_false]
      rw [← h1, ← h2, ← h3, ← h4]
      obtain ⟨k1, k2, k3, k4⟩ := step_P (ladF bit x j).qx (ladF bit x j).qz (ladF bit x j).px (ladF bit x j).pz x
      exact ⟨k3, k4, k1, k2⟩
    · simp only [if_true]
      rw [← h1, ← h2, ← h3, ← h4]
      exact step_P _ _ _ _ _
theorem inv_P (y : Int) : toP (invF y 255) = invP (toP y) := by
  obtain ⟨n, h1, h2⟩ := emod_nat y
  have hv : valP (toP y) = n % pN := by unfold toP; rw [h2, val_ofN]
  have key : ∀ (u v : Int), u % pC = v % pC → ∀ j, invF u j % pC = invF v j % pC := by
    intro u v huv j
    have hm : ∀ a b c d : Int, a % pC = c % pC → b % pC = d % pC → fM a b % pC = fM c d % pC := fun a b c d h1 h2 => by
      unfold fM
      rw [Int.emod_emod_of_dvd _ (Int.dvd_refl pC), Int.emod_emod_of_dvd _ (Int.dvd_refl pC), Int.mul_emod, h1, h2, ← Int.mul_emod]
    induction j with
    | zero => rfl
    | succ j ih =>
      unfold invF
      by_cases h : j = 252 ∨ j = 250
      · rw [if_pos h, if_pos h]; exact hm _ _ _ _ ih ih
      · rw [if_neg h, if_neg h]; exact hm _ _ _ _ (hm _ _ _ _ ih ih) huv
  unfold invP
  refine toP_cong (key _ _ ?_ 255)
  rw [hv, h1, pC_pN, Int.natCast_emod, Int.emod_emod_of_dvd _ (Int.dvd_refl _)] 
  have : (n : Int) < (pN : Int) := by rw [← h1, pC_pN]; exact Int.emod_lt_of_pos _ (by decide)
  rw [Int.emod_eq_of_lt oM this]
def wordF (k : List (BitVec 8)) (x : Int) : Int := fM (ladF (kbit k) x 255).px (invF (ladF (kbit k) x 255).pz 255)
theorem word_P (k : List (BitVec 8)) (x : Int) : toP (wordF k x) = (ladK aP (kbit k) (toP x) 255).px * invP (ladK aP (kbit k) (toP x) 255).pz := by
  obtain ⟨h1, h2, _, _⟩ := lad_P (kbit k) x 255
  unfold wordF
  rw [toP_M, inv_P, h1, h2]
theorem word_lt (k : List (BitVec 8)) (x : Int) : 0 ≤ wordF k x ∧ wordF k x < pC := by
  unfold wordF fM
  exact ⟨Int.emod_nonneg _ (by decide), Int.emod_lt_of_pos _ (by decide)⟩
theorem even_of {k : List (BitVec 8)} (h : kbit k 254 = true) : numK (kbit k) 255 = 2 * numK (kbit k) 254 := by
  show (if kbit k 254 then _ else _) = _
  rw [h]; rfl
theorem word_comm {k l : List (BitVec 8)} (hk : kbit k 254 = true) (hl : kbit l 254 = true) (x : Int) : wordF k (wordF l x) = wordF l (wordF k x) := by
  refine toP_inj (word_lt _ _) (word_lt _ _) ?_
  rw [word_P, word_P, word_P, word_P]
  rcases pt_any (toP x) with ⟨B, hB⟩ | ⟨B, hB⟩
  · rw [← hB]; exact prod_comm mo1 B (even_of hk) (even_of hl)
  · rw [← hB]; exact prod_comm mo2 B (even_of hk) (even_of hl)
/-! Products of bytes commute. -/
theorem nB_enc : ∀ (n x : Nat), nB ((List.range n).map fun j => BitVec.ofNat 8 (x / 256 ^ j)) = x % 256 ^ n
  | 0, x => by show 0 = x % 1; omega
  | n + 1, x => by
    have ih := nB_enc n (x / 256)
    rw [List.range_succ_eq_map, List.map_cons, List.map_map]
    have e : ((fun j => BitVec.ofNat 8 (x / 256 ^ j)) ∘ Nat.succ) = fun j => BitVec.ofNat 8 (x / 256 / 256 ^ j) := by
      funext j
      show BitVec.ofNat 8 (x / 256 ^ (j + 1)) = _
      rw [Nat.pow_succ, Nat.mul_comm, Nat.div_div_eq_div_mul]
    rw [e]
    show (BitVec.ofNat 8 (x / 256 ^ 0)).toNat + 256 * nB _ = _
    rw [ih, Nat.pow_succ, Nat.mul_comm (256 ^ n), Nat.mod_mul]
    simp
theorem nB_word {k : List (BitVec 8)} {x : Int} : ((nB (multF k x) % 2 ^ 255 : Nat) : Int) % pC = wordF k x := by
  obtain ⟨h1, h2⟩ := word_lt k x
  have e : multF k x = encode (wordF k x).toNat := rfl
  rw [e]
  generalize wordF k x = w at *
  unfold encode
  rw [nB_enc]
  have hp : pC + 19 = ((2 ^ 255 : Nat) : Int) := by decide +kernel
  have hq : (2 : Nat) ^ 255 * 2 = 256 ^ 32 := by decide +kernel
  generalize (2 : Nat) ^ 255 = P at *
  generalize (256 : Nat) ^ 32 = Q at *
  rw [Nat.mod_eq_of_lt (show w.toNat < Q by omega), Nat.mod_eq_of_lt (show w.toNat < P by omega), Int.toNat_of_nonneg h1]
  exact Int.emod_eq_of_lt h1 h2
theorem kbit_clamp {k : List (BitVec 8)} (hk : k.length = 32) : kbit (clampL k) 254 = true := by
  unfold kbit
  show (((clampL k).getD 0 0 >>> 0) &&& 1#8 == 0#8) = true
  rw [clamp_0 hk]
  generalize k.getD 0 0 = b
  revert b; decide +kernel
theorem mult_comm {a b : List (BitVec 8)} (ha : a.length = 32) (hb : b.length = 32) (u : List (BitVec 8)) : multL a (multL b u) = multL b (multL a u) := by
  have e : ∀ (k : List (BitVec 8)) (x : Int), multF k x = encode (wordF k x).toNat := fun _ _ => rfl
  rw [mult_told a, mult_told b (multL a u), mult_told b u, mult_told a u, nB_word, nB_word, e, e, word_comm (kbit_clamp ha) (kbit_clamp hb)]


end Go.Proofs.YtmiagmbgfhakgaaDoor
