/- 2 to the 255 less 19 is a prime. Conditions: none beyond those that each theorem states. -/
import Derived.Test.YtkmiemlpfkfiiaaDoorCuP
namespace Go.Proofs.YtkmiemlpfkfiiaaDoor
set_option linter.unusedVariables false
set_option linter.unusedSimpArgs false
def Pri (n : Nat) : Prop := 2 ≤ n ∧ ∀ d, d ∣ n → d = 1 ∨ d = n
theorem Pri.cop {p x : Nat} (hp : Pri p) (h : ¬ p ∣ x) : Nat.gcd p x = 1 := (hp.2 _ (Nat.gcd_dvd_left p x)).resolve_right fun e => h (e ▸ Nat.gcd_dvd_right p x)
theorem Pri.dvd_mul {p x y : Nat} (hp : Pri p) (h : p ∣ x * y) : p ∣ x ∨ p ∣ y := by
 by_cases hx : p ∣ x
 ·exact .inl hx
 exact .inr (Nat.Coprime.dvd_of_dvd_mul_left (hp.cop hx) h)
theorem Qfj : ∀ n, 2 ≤ n → ∃ r, Pri r ∧ r ∣ n := by
 intro n
 induction n using Nat.strongRecOn with
 | ind n ih =>
  intro h
  by_cases hp : Pri n
  ·exact ⟨n, hp, Nat.dvd_refl n⟩
  have : ∃ d, d ∣ n ∧ d ≠ 1 ∧ d ≠ n := by
   by_cases hc : ∃ d, d ∣ n ∧ d ≠ 1 ∧ d ≠ n
   ·exact hc
   exfalso; apply hp
   refine ⟨h, fun d hd => ?_⟩
   by_cases h1 : d = 1
   ·exact .inl h1
   by_cases h2 : d = n
   ·exact .inr h2
   exact absurd ⟨d, hd, h1, h2⟩ hc
  obtain ⟨d, hd, h1, h2⟩ := this
  have hle := Nat.le_of_dvd oM hd
  have h0 : d ≠ 0 := by rintro rfl; have := Nat.eq_zero_of_zero_dvd hd; omega
  obtain ⟨r, hr, hrd⟩ := ih d oM oM
  exact ⟨r, hr, Nat.dvd_trans hrd hd⟩
def ch : Nat → Nat → Nat
 | _, 0 => 1
 | 0, _ + 1 => 0
 | n + 1, k + 1 => ch n k + ch n (k + 1)
theorem ch_0 (n : Nat) : ch n 0 = 1 := by cases n <;> rfl
theorem Qga (n k : Nat) : ch (n + 1) (k + 1) = ch n k + ch n (k + 1) := rfl
theorem Qi2 : ∀ n k, (k + 1) * ch (n + 1) (k + 1) = (n + 1) * ch n k
 | 0, 0 => rfl
 | 0, k + 1 => by rw [Qga]; show (k + 1 + 1) * (0 + 0) = (0 + 1) * 0; omega
 | n + 1, 0 => by
  have := Qi2 n 0
  rw [ch_0] at this
  rw [Qga (n + 1) 0, ch_0]
  omega
 | n + 1, k + 1 => by
  have h1 := Qi2 n k
  have h2 := Qi2 n (k + 1)
  rw [Qga (n + 1) (k + 1)]
  rw [Qga n k] at h1 ⊢
  generalize ch n k = X at *
  generalize ch n (k + 1) = Y at *
  generalize ch (n + 1) (k + 1 + 1) = Z at *
  grind
theorem Qi3 : ∀ n k, n < k → ch n k = 0
 | _, 0, h => by omega
 | 0, _ + 1, _ => rfl
 | n + 1, k + 1, h => by rw [Qga, Qi3 n k oM, Qi3 n (k + 1) oM]
theorem Qmz : ∀ n, ch n n = 1
 | 0 => rfl
 | n + 1 => by rw [Qga, Qmz n, Qi3 n (n + 1) oM]
def chS (x n : Nat) : Nat → Nat
 | 0 => 0
 | m + 1 => chS x n m + ch n m * x ^ m
theorem chS_S (x n : Nat) : ∀ m, chS x (n + 1) (m + 1) = chS x n (m + 1) + x * chS x n m
 | 0 => by show 0 + ch (n + 1) 0 * x ^ 0 = 0 + ch n 0 * x ^ 0 + x * 0; rw [ch_0, ch_0]; omega
 | m + 1 => by
  have ih := chS_S x n m
  show chS x (n + 1) (m + 1) + ch (n + 1) (m + 1) * x ^ (m + 1) = chS x n (m + 1) + ch n (m + 1) * x ^ (m + 1) + x * (chS x n m + ch n m * x ^ m)
  rw [ih, Qga, Nat.add_mul, Nat.mul_add, Nat.pow_succ]
  have : x * (ch n m * x ^ m) = ch n m * (x ^ m * x) := by rw [Nat.mul_comm x, Nat.mul_assoc]
  omega
theorem binom (x : Nat) : ∀ n, (x + 1) ^ n = chS x n (n + 1)
 | 0 => by show 1 = 0 + ch 0 0 * x ^ 0; rw [ch_0]; rfl
 | n + 1 => by
  have e : chS x n (n + 1 + 1) = chS x n (n + 1) := by show chS x n (n + 1) + ch n (n + 1) * x ^ (n + 1) = _; rw [Qi3 n (n + 1) oM]; omega
  rw [Nat.pow_succ, binom x n, chS_S, e, Nat.mul_add, Nat.mul_one, Nat.mul_comm x]; omega
theorem Qm0 {r : Nat} (hr : Pri r) (x : Nat) : ∀ m, m + 1 ≤ r → chS x r (m + 1) % r = 1
 | 0, h => by show (0 + ch r 0 * x ^ 0) % r = 1; rw [ch_0]; have := hr.1; rw [Nat.pow_zero]; exact Nat.mod_eq_of_lt oM
 | m + 1, h => by
  have ih := Qm0 hr x m oM
  obtain ⟨n, rfl⟩ : ∃ n, r = n + 1 := ⟨r - 1, by omega⟩
  have hd : n + 1 ∣ ch (n + 1) (m + 1) := by
   have h1 : n + 1 ∣ (m + 1) * ch (n + 1) (m + 1) := ⟨ch n m, Qi2 n m⟩
   rcases hr.dvd_mul h1 with h2 | h2
   ·have := Nat.le_of_dvd oM h2; omega
   exact h2
  show (chS x (n + 1) (m + 1) + ch (n + 1) (m + 1) * x ^ (m + 1)) % (n + 1) = 1
  obtain ⟨c, hc⟩ := hd
  rw [hc, Nat.mul_assoc, Nat.add_mul_mod_self_left]; exact ih
theorem fermat {r : Nat} (hr : Pri r) : ∀ a, a ^ r % r = a % r
 | 0 => by have := hr.1; rw [Nat.zero_pow oM]
 | a + 1 => by
  have ih := fermat hr a
  obtain ⟨m, hm⟩ : ∃ m, r = m + 1 := ⟨r - 1, by have := hr.1; omega⟩
  have h1 := Qm0 hr a m oM
  rw [binom a r]
  show (chS a r r + ch r r * a ^ r) % r = _
  rw [Qmz, Nat.one_mul, Nat.add_mod, ih]
  have : chS a r r % r = 1 := by rw [← hm] at h1; exact h1
  rw [this, Nat.add_mod a 1, Nat.mod_eq_of_lt (show 1 < r from by have := hr.1; omega), Nat.add_comm]
theorem Qet {r a : Nat} (hr : Pri r) (ha : ¬ r ∣ a) : a ^ (r - 1) % r = 1 := by
 obtain ⟨m, hm⟩ : ∃ m, r = m + 1 := ⟨r - 1, by have := hr.1; omega⟩
 have h2 := hr.1
 have h := fermat hr a
 have e : r - 1 = m := by omega
 rw [e]
 rw [hm, Nat.pow_succ, ← hm] at h
 have hpos : 1 ≤ a ^ m := Nat.pow_pos (Nat.pos_of_ne_zero fun h0 => ha (h0 ▸ Nat.dvd_zero r))
 have hd : r ∣ (a ^ m - 1) * a := by
  have h3 : (a ^ m * a - a) % r = 0 := Nat.sub_mod_eq_zero_of_mod_eq h
  have : (a ^ m - 1) * a = a ^ m * a - a := by rw [Nat.sub_mul, Nat.one_mul]
  rw [this]; exact Nat.dvd_of_mod_eq_zero h3
 have h4 := (hr.dvd_mul hd).resolve_right ha
 obtain ⟨c, hc⟩ := h4
 have : a ^ m = 1 + r * c := by omega
 rw [this, Nat.add_mul_mod_self_left]
 exact Nat.mod_eq_of_lt oM
theorem Qmi {r a x : Nat} (hr : 1 < r) (h : a ^ x % r = 1) (k : Nat) : a ^ (x * k) % r = 1 := by
 rw [Nat.pow_mul, Nat.pow_mod, h, Nat.one_pow]; exact Nat.mod_eq_of_lt hr
theorem pow_gcd {r a : Nat} (hr : 1 < r) (x y : Nat) : a ^ x % r = 1 → a ^ y % r = 1 → a ^ Nat.gcd x y % r = 1 := by
 induction x, y using Nat.gcd.induction with
 | H0 y => intro _ h; rw [Nat.gcd_zero_left]; exact h
 | H1 x y hx ih =>
  intro h1 h2
  rw [Nat.gcd_rec]
  refine ih ?_ h1
  have e : a ^ y = a ^ (x * (y / x)) * a ^ (y % x) := by rw [← Nat.pow_add, Nat.div_add_mod]
  rw [e, Nat.mul_mod, Qmi hr h1, Nat.one_mul, Nat.mod_mod] at h2
  exact h2
theorem pock {N q m a b r : Nat} (hq : Pri q) (hN : N - 1 = q * m) (hN2 : 2 ≤ N) (h1 : a ^ (N - 1) % N = 1) (hb : a ^ m % N = b) (h2 : Nat.gcd (b - 1) N = 1) (hr : Pri r) (hrN : r ∣ N) : q ∣ r - 1 := by
 have hr2 := hr.1
 have g1 : a ^ (N - 1) % r = 1 := by rw [← Nat.mod_mod_of_dvd _ hrN, h1]; exact Nat.mod_eq_of_lt oM
 have ha : ¬ r ∣ a := by
  rintro ⟨c, rfl⟩
  rw [Nat.mul_pow] at g1
  obtain ⟨e, he⟩ : ∃ e, N - 1 = e + 1 := ⟨N - 2, by omega⟩
  rw [he, Nat.pow_succ, Nat.mul_assoc, Nat.mul_comm (r ^ e), Nat.mul_comm _ (r ^ e), Nat.mul_mod, Nat.mul_mod] at g1
  have : r * c ^ (e + 1) * r ^ e % r = 0 := by rw [Nat.mul_assoc]; exact Nat.mul_mod_right _ _
  simp at g1
 have g2 := Qet hr ha
 by_cases hd : q ∣ r - 1
 ·exact hd
 exfalso
 have hg := pow_gcd oM _ _ g2 g1
 rw [hN, Nat.Coprime.gcd_mul_left_cancel_right _ (hq.cop hd)] at hg
 obtain ⟨k, hk⟩ := Nat.gcd_dvd_right (r - 1) m
 have g3 : a ^ m % r = 1 := by rw [hk]; exact Qmi oM hg k
 have g4 : b % r = 1 := by rw [← hb, Nat.mod_mod_of_dvd _ hrN]; exact g3
 have g5 : r ∣ b - 1 := by
  refine Nat.dvd_of_mod_eq_zero (Nat.sub_mod_eq_zero_of_mod_eq ?_)
  rw [g4]; exact (Nat.mod_eq_of_lt oM).symm
 have := Nat.dvd_gcd g5 hrN
 rw [h2] at this
 have := Nat.le_of_dvd oM this
 omega
theorem Qic {N F : Nat} (hN : 2 ≤ N) (hF : N ≤ F * F) (h : ∀ r, Pri r → r ∣ N → F ≤ r - 1) : Pri N := by
 refine ⟨hN, fun d hd => ?_⟩
 by_cases h1 : d = 1
 ·exact .inl h1
 by_cases h2 : d = N
 ·exact .inr h2
 exfalso
 obtain ⟨e, he⟩ := hd
 have d0 : d ≠ 0 := by rintro rfl; omega
 have e0 : e ≠ 0 := by rintro rfl; omega
 have e1 : e ≠ 1 := by rintro rfl; omega
 obtain ⟨r, hr, hrd⟩ := Qfj d oM
 obtain ⟨s, hs, hse⟩ := Qfj e oM
 have a1 := h r hr (he ▸ Nat.dvd_trans hrd (Nat.dvd_mul_right d e))
 have a2 := h s hs (he ▸ Nat.dvd_trans hse (Nat.dvd_mul_left e d))
 have b1 := Nat.le_of_dvd oM hrd
 have b2 := Nat.le_of_dvd oM hse
 have c1 := hr.1; have c2 := hs.1
 have : (F + 1) * (F + 1) ≤ d * e := Nat.mul_le_mul oM oM
 rw [← he] at this
 have : (F + 1) * (F + 1) = F * F + 2 * F + 1 := by rw [Nat.add_mul, Nat.mul_add]; omega
 omega
theorem Qhz {a b n : Nat} (ha : Pri a) (hab : ¬ a ∣ b) (h1 : a ∣ n) (h2 : b ∣ n) (h0 : 0 < n) : a * b ≤ n := by
 obtain ⟨c, rfl⟩ := h2
 have h3 := (ha.dvd_mul h1).resolve_left hab
 obtain ⟨k, rfl⟩ := h3
 refine Nat.le_of_dvd h0 ⟨k, ?_⟩
 rw [Nat.mul_comm a b, Nat.mul_assoc]
theorem Qas {n k : Nat} (h2 : 2 ≤ n) (hk : n < k * k) (h : ((List.range k).all fun d => decide (d < 2) || decide (n % d ≠ 0)) = true) : Pri n := by
 have hs : ∀ d, 2 ≤ d → d < k → n % d ≠ 0 := fun d hd hk => by
  have := List.all_eq_true.1 h d (List.mem_range.2 hk)
  rw [Bool.or_eq_true] at this
  rcases this with h3 | h3
  ·have := of_decide_eq_true h3; omega
  exact of_decide_eq_true h3
 refine ⟨h2, fun d hd => ?_⟩
 by_cases h1 : d = 1
 ·exact .inl h1
 by_cases h3 : d = n
 ·exact .inr h3
 exfalso
 obtain ⟨e, he⟩ := hd
 have d0 : d ≠ 0 := by rintro rfl; omega
 have e0 : e ≠ 0 := by rintro rfl; omega
 have e1 : e ≠ 1 := by rintro rfl; omega
 by_cases hdk : d < k
 ·exact hs d oM hdk (by rw [he]; exact Nat.mul_mod_right d e)
 by_cases hek : e < k
 ·exact hs e oM hek (by rw [he]; exact Nat.mul_mod_left d e)
 have : k * k ≤ d * e := Nat.mul_le_mul oM oM
 omega
def forceN {α : Type} (n : Nat) (k : Nat → α) : α :=
 match n with
 | 0 => k 0
 | m + 1 => k (m + 1)
theorem Qn0 {α : Type} (n : Nat) (k : Nat → α) : forceN n k = k n := by cases n <;> rfl
def pwB (m a : Nat) : List Bool → Nat → Nat
 | [], s => s
 | b :: r, s => forceN (if b then s * s % m * a % m else s * s % m) (pwB m a r)
def valB : List Bool → Nat → Nat
 | [], n => n
 | b :: r, n => valB r (if b then 2 * n + 1 else 2 * n)
theorem pwB_eq {m a : Nat} : ∀ (l : List Bool) (s e : Nat), s % m = a ^ e % m → pwB m a l s % m = a ^ valB l e % m
 | [], s, e, h => h
 | b :: r, s, e, h => by
  unfold pwB valB
  rw [Qn0]
  apply pwB_eq
  have h2 : s * s % m = a ^ (2 * e) % m := by rw [Nat.mul_mod, h, ← Nat.mul_mod, ← Nat.pow_add, Nat.two_mul]
  cases b
  ·show s * s % m % m = _; rw [Nat.mod_mod, h2]; rfl
  show s * s % m * a % m % m = _; rw [Nat.mod_mod, Nat.mul_mod, Nat.mod_mod, h2, ← Nat.mul_mod, ← Nat.pow_succ]; rfl
theorem pw_eq {m a e b : Nat} {l : List Bool} (he : valB l 0 = e) (h : pwB m a l 1 % m = b) : a ^ e % m = b := by
 rw [← h, pwB_eq l 1 0 (by rw [Nat.pow_zero]), he]
def Gx (k n : Nat) : List Bool := (List.range k).reverse.map fun i => n / 2 ^ i % 2 == 1
theorem Qfk {N q m a b r : Nat} (l1 l2 : List Bool) (hq : Pri q) (hN : N - 1 = q * m) (hN2 : 2 ≤ N) (hl1 : valB l1 0 = N - 1) (h1 : pwB N a l1 1 % N = 1) (hl2 : valB l2 0 = m) (hb : pwB N a l2 1 % N = b) (h2 : Nat.gcd (b - 1) N = 1) (hr : Pri r) (hrN : r ∣ N) : q ∣ r - 1 :=
 pock hq hN hN2 (pw_eq hl1 h1) (pw_eq hl2 hb) h2 hr hrN
theorem pri_47 : Pri 47 := Qas (k := 7) Yh Yh (by decide +kernel)
theorem Qno : Pri 75707 := Qas (k := 276) Yh Yh (by decide +kernel)
theorem Qjy : Pri 1923133 := Qas (k := 1387) Yh Yh (by decide +kernel)
theorem Qdw : Pri 8574133 := Qas (k := 2929) Yh Yh (by decide +kernel)
theorem pri_q4 : Pri 1919519569386763 := Qic (F := 8574133 * 47) Yh Yh fun r hr hd => Qhz Qdw (by decide +kernel) (Qfk (N := 1919519569386763) (q := 8574133) (m := 223873314) (a := 2) (b := 1059928654987441) (Gx 51 1919519569386762) (Gx 28 223873314) Qdw (by decide +kernel) Yh (by decide +kernel) (by decide +kernel) (by decide +kernel) (by decide +kernel) (by decide +kernel) hr hd) (Qfk (N := 1919519569386763) (q := 47) (m := 40840841901846) (a := 2) (b := 621931926534591) (Gx 51 1919519569386762) (Gx 46 40840841901846) pri_47 (by decide +kernel) Yh (by decide +kernel) (by decide +kernel) (by decide +kernel) (by decide +kernel) (by decide +kernel) hr hd) (by have := hr.1; omega)
theorem pri_q2 : Pri 75445702479781427272750846543864801 := Qic (F := 1919519569386763 * 75707) Yh Yh fun r hr hd => Qhz pri_q4 (by decide +kernel) (Qfk (N := 75445702479781427272750846543864801) (q := 1919519569386763) (m := 39304471641247389600) (a := 2) (b := 56747016255153332959347766392083459) (Gx 116 75445702479781427272750846543864800) (Gx 66 39304471641247389600) pri_q4 (by decide +kernel) Yh (by decide +kernel) (by decide +kernel) (by decide +kernel) (by decide +kernel) (by decide +kernel) hr hd) (Qfk (N := 75445702479781427272750846543864801) (q := 75707) (m := 996548568557483816196003626400) (a := 2) (b := 58781699294900834553279248901967638) (Gx 116 75445702479781427272750846543864800) (Gx 100 996548568557483816196003626400) Qno (by decide +kernel) Yh (by decide +kernel) (by decide +kernel) (by decide +kernel) (by decide +kernel) (by decide +kernel) hr hd) (by have := hr.1; omega)
theorem pri_q1 : Pri 74058212732561358302231226437062788676166966415465897661863160754340907 := Qic (F := 75445702479781427272750846543864801 * 1923133) Yh Yh fun r hr hd => Qhz pri_q2 (by decide +kernel) (Qfk (N := 74058212732561358302231226437062788676166966415465897661863160754340907) (q := 75445702479781427272750846543864801) (m := 981609426360740691344999861639072106) (a := 2) (b := 69490809710348678725736597923071784769591275419387514694139338586948360) (Gx 236 74058212732561358302231226437062788676166966415465897661863160754340906) (Gx 120 981609426360740691344999861639072106) pri_q2 (by decide +kernel) Yh (by decide +kernel) (by decide +kernel) (by decide +kernel) (by decide +kernel) (by decide +kernel) hr hd) (Qfk (N := 74058212732561358302231226437062788676166966415465897661863160754340907) (q := 1923133) (m := 38509147694185143878364744631319200843710219946028640589009268082) (a := 2) (b := 52266576830164329332527201090776533817489900267135412990654516667243924) (Gx 236 74058212732561358302231226437062788676166966415465897661863160754340906) (Gx 215 38509147694185143878364744631319200843710219946028640589009268082) Qjy (by decide +kernel) Yh (by decide +kernel) (by decide +kernel) (by decide +kernel) (by decide +kernel) (by decide +kernel) hr hd) (by have := hr.1; omega)
theorem pri_p : Pri 57896044618658097711785492504343953926634992332820282019728792003956564819949 := Qic (F := 74058212732561358302231226437062788676166966415465897661863160754340907) Yh Yh fun r hr hd => Nat.le_of_dvd (by have := hr.1; omega) (Qfk (N := 57896044618658097711785492504343953926634992332820282019728792003956564819949) (q := 74058212732561358302231226437062788676166966415465897661863160754340907) (m := 781764) (a := 2) (b := 427094198651976259540344842774561673889945192655078505504941250475370961481) (Gx 255 57896044618658097711785492504343953926634992332820282019728792003956564819948) (Gx 20 781764) pri_q1 (by decide +kernel) Yh (by decide +kernel) (by decide +kernel) (by decide +kernel) (by decide +kernel) (by decide +kernel) hr hd)
end Go.Proofs.YtkmiemlpfkfiiaaDoor
