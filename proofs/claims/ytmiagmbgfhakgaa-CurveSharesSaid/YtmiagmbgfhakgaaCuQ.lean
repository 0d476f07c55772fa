/- The curve: plain laws of the product. Conditions: none beyond those that each theorem states. -/
import Derived.Test.YtmiagmbgfhakgaaCuP
namespace Go.Proofs.Ytmiagmbgfhakgaa
set_option linter.unusedVariables false
set_option linter.unusedSimpArgs false
/-! Two products, reckoned. -/
def forceI {α : Type} (n : Int) (k : Int → α) : α :=
  match n with
  | .ofNat m => (match m with | 0 => k 0 | m + 1 => k (.ofNat (m + 1)))
  | .negSucc m => k (.negSucc m)
theorem forceI_eq {α : Type} (n : Int) (k : Int → α) : forceI n k = k n := by
  unfold forceI
  cases n with
  | ofNat m => cases m <;> rfl
  | negSucc m => rfl
def keepL (s : LadF) (k : LadF → LadF) : LadF := forceI s.px fun a => forceI s.pz fun b => forceI s.qx fun c => forceI s.qz fun d => k ⟨a, b, c, d⟩
theorem keepL_eq (s : LadF) (k : LadF → LadF) : keepL s k = k s := by unfold keepL; simp only [forceI_eq]
def turnF (t : LadF) : LadF := ⟨t.qx, t.qz, t.px, t.pz⟩
def stepB (b : Bool) (x : Int) (s : LadF) : LadF := if b then stepF s.px s.pz s.qx s.qz x else turnF (stepF s.qx s.qz s.px s.pz x)
def runB : List Bool → Int → LadF → LadF
  | [], _, s => s
  | b :: r, x, s => keepL (stepB b x s) (runB r x)
theorem runB_eq (bit : Nat → Bool) (x : Int) : ∀ n j, runB ((List.range' j n).map bit) x (ladF bit x j) = ladF bit x (j + n) := by
  intro n
  induction n with
  | zero => intro j; rfl
  | succ n ih =>
    intro j
    rw [List.range'_succ, List.map_cons, runB, keepL_eq]
    have e : stepB (bit j) x (ladF bit x j) = ladF bit x (j + 1) := by
      show _ = (if bit j then _ else _)
      unfold stepB turnF; rfl
    rw [e, ih (j + 1), Nat.add_right_comm, Nat.add_assoc j n 1]
def bitsK (k : List (BitVec 8)) : List Bool := (List.range' 0 255).map (kbit k)
theorem runB_all (k : List (BitVec 8)) (x : Int) : runB (bitsK k) x ⟨1, 0, x, 1⟩ = ladF (kbit k) x 255 := runB_eq (kbit k) x 255 0
def keepI (n : Int) (k : Int → Int) : Int := forceI n k
def invB : List Bool → Int → Int → Int
  | [], _, s => s
  | b :: r, x, s => forceI (if b then fM s s else fM (fM s s) x) (invB r x)
theorem invB_eq (x : Int) : ∀ n j, invB ((List.range' j n).map fun j => decide (j = 252 ∨ j = 250)) x (invF x j) = invF x (j + n) := by
  intro n
  induction n with
  | zero => intro j; rfl
  | succ n ih =>
    intro j
    rw [List.range'_succ, List.map_cons, invB, forceI_eq]
    have e : (if decide (j = 252 ∨ j = 250) = true then fM (invF x j) (invF x j) else fM (fM (invF x j) (invF x j)) x) = invF x (j + 1) := by
      by_cases h : j = 252 ∨ j = 250
      · rw [if_pos (decide_eq_true h)]; conv => rhs; unfold invF
        rw [if_pos h]
      · rw [if_neg (by simpa using h)]; conv => rhs; unfold invF
        rw [if_neg h]
    rw [e, ih (j + 1), Nat.add_right_comm, Nat.add_assoc j n 1]
def k254 : List (BitVec 8) := List.replicate 31 0#8 ++ [64#8]
def bits1 : List Bool := false :: List.replicate 254 true
theorem bits_254 : bitsK k254 = bits1 := by decide +kernel
def inv1 : List Bool := List.replicate 250 false ++ [true, false, true, false, false]
theorem inv_bits : ((List.range' 0 255).map fun j => decide (j = 252 ∨ j = 250)) = inv1 := by decide +kernel
theorem inv1_eq (b : Int) : invB inv1 b 1 = invF b 255 := by rw [← inv_bits]; exact invB_eq b 255 0
def numB (x : Int) : Int := forceI (runB bits1 x ⟨1, 0, x, 1⟩).px fun a => forceI (runB bits1 x ⟨1, 0, x, 1⟩).pz fun b => forceI (invB inv1 b 1) fun c => fM a c
theorem numB_eq (x : Int) : multF k254 x = encode (numB x).toNat := by
  unfold multF numB
  rw [← runB_all, bits_254, forceI_eq, forceI_eq, forceI_eq, inv1_eq]
theorem numB_0 : numB 0 = 0 := by decide +kernel
theorem numB_9 : (encode (numB 9).toNat == List.replicate 32 0#8) = false := by decide +kernel
def key1 (b : BitVec 8) : List (BitVec 8) := b :: List.replicate 31 0#8
theorem mult_none : multL (key1 5#8) (List.replicate 32 0#8) = List.replicate 32 0#8 := by
  rw [mult_told, show clampL (key1 5#8) = k254 from by decide, show ((nB (List.replicate 32 0#8) % 2 ^ 255 : Nat) : Int) % pC = 0 from by decide +kernel, numB_eq, numB_0]
  decide +kernel
theorem nB_key {b : BitVec 8} : nB (key1 b) = b.toNat := by
  show b.toNat + 256 * nB (List.replicate 31 0#8) = _
  rw [show nB (List.replicate 31 0#8) = 0 from by decide +kernel]; omega
theorem mult_some : multL (key1 1#8) (key1 9#8) ≠ List.replicate 32 0#8 := by
  rw [mult_told, show clampL (key1 1#8) = k254 from by decide, nB_key, show (((9#8).toNat % 2 ^ 255 : Nat) : Int) % pC = 9 from by decide +kernel, numB_eq]
  intro h
  have := numB_9
  rw [h] at this
  exact absurd this (by decide +kernel)
/-! Fixed bits, and points that are one. -/
theorem clamp_0 {k : List (BitVec 8)} (hk : k.length = 32) : (clampL k).getD 0 0 = k.getD 0 0 &&& ~~~7#8 := by
  unfold clampL; rw [g8set_ne oM, g8set_eq oM]
theorem clamp_31 {k : List (BitVec 8)} (hk : k.length = 32) : (clampL k).getD 31 0 = k.getD 31 0 &&& ~~~128#8 ||| 64#8 := by
  unfold clampL; rw [g8set_eq (by rw [List.length_set]; omega), g8set_ne oM]
theorem clamp_i {k : List (BitVec 8)} {i : Nat} (h0 : 1 ≤ i) (h1 : i < 31) : (clampL k).getD i 0 = k.getD i 0 := by
  unfold clampL; rw [g8set_ne oM, g8set_ne oM]
theorem clamp_f1 {k : List (BitVec 8)} (hk : k.length = 32) : (clampL k).getD 0 0 % 8#8 = 0#8 := by
  rw [clamp_0 hk]; generalize k.getD 0 0 = b; revert b; decide +kernel
theorem clamp_f2 {k : List (BitVec 8)} (hk : k.length = 32) : (clampL k).getD 31 0 / 64#8 = 1#8 := by
  rw [clamp_31 hk]; generalize k.getD 31 0 = b; revert b; decide +kernel
theorem clamp_f3 {k : List (BitVec 8)} (hk : k.length = 32) : (clampL k).getD 0 0 / 8#8 = k.getD 0 0 / 8#8 := by
  rw [clamp_0 hk]; generalize k.getD 0 0 = b; revert b; decide +kernel
theorem clamp_f4 {k : List (BitVec 8)} (hk : k.length = 32) : (clampL k).getD 31 0 % 64#8 = k.getD 31 0 % 64#8 := by
  rw [clamp_31 hk]; generalize k.getD 31 0 = b; revert b; decide +kernel
theorem clamp_twice {k : List (BitVec 8)} (hk : k.length = 32) : clampL (clampL k) = clampL k := by
  have e0 := clamp_0 hk
  have e1 := clamp_31 hk
  have hl : (clampL k).length = 32 := by rw [clampL_length]; exact hk
  refine List.ext_getElem (by rw [clampL_length]) fun i h1 h2 => ?_
  rw [← getD_get8 h1, ← getD_get8 h2]
  by_cases h : i = 0
  · subst h; rw [clamp_0 hl, e0]; generalize k.getD 0 0 = b; revert b; decide +kernel
  · by_cases h' : i = 31
    · subst h'; rw [clamp_31 hl, e1]; generalize k.getD 31 0 = b; revert b; decide +kernel
    · exact clamp_i oM oM
theorem mult_clamp {k u : List (BitVec 8)} (hk : k.length = 32) : multL (clampL k) u = multL k u := by rw [mult_told, mult_told, clamp_twice hk]
theorem nB_set : ∀ (u : List (BitVec 8)) (i : Nat) (b : BitVec 8), i < u.length → nB (u.set i b) + 256 ^ i * (u.getD i 0).toNat = nB u + 256 ^ i * b.toNat
  | [], i, b, h => absurd h (Nat.not_lt_zero _)
  | a :: r, 0, b, _ => by
    show b.toNat + 256 * nB r + 256 ^ 0 * a.toNat = a.toNat + 256 * nB r + 256 ^ 0 * b.toNat
    omega
  | a :: r, i + 1, b, h => by
    have ih := nB_set r i b (Nat.lt_of_succ_lt_succ h)
    show a.toNat + 256 * nB (r.set i b) + 256 ^ (i + 1) * (r.getD i 0).toNat = a.toNat + 256 * nB r + 256 ^ (i + 1) * b.toNat
    rw [Nat.pow_succ, Nat.mul_comm (256 ^ i) 256, Nat.mul_assoc, Nat.mul_assoc]; omega
theorem xor128 : ∀ b : BitVec 8, (b ^^^ 128#8).toNat = b.toNat + 128 ∨ (b ^^^ 128#8).toNat + 128 = b.toNat := by decide +kernel
theorem top_mod {x y a b : Nat} (h : x + 256 ^ 31 * a = y + 256 ^ 31 * b) (hc : b = a + 128 ∨ b + 128 = a) : x % 2 ^ 255 = y % 2 ^ 255 := by
  have e : (256 : Nat) ^ 31 * 128 = 2 ^ 255 := by decide +kernel
  rcases hc with rfl | rfl
  · rw [Nat.mul_add, e] at h
    have : x = y + 2 ^ 255 := by omega
    rw [this, Nat.add_mod_right]
  · rw [Nat.mul_add, e] at h
    have : y = x + 2 ^ 255 := by omega
    rw [this, Nat.add_mod_right]
theorem mult_top {k u : List (BitVec 8)} (hu : u.length = 32) : multL k (u.set 31 (u.getD 31 0 ^^^ 128#8)) = multL k u := by
  rw [mult_told, mult_told, top_mod (nB_set u 31 (u.getD 31 0 ^^^ 128#8) oM) (xor128 _)]
def over19 (n : BitVec 8) : List (BitVec 8) := (237#8 + n) :: (List.replicate 30 255#8 ++ [127#8])
theorem small19 : ∀ s : BitVec 8, (237#8 + s % 19#8).toNat = 237 + (s % 19#8).toNat ∧ (s % 19#8).toNat < 19 := by decide +kernel
theorem over_mod (n : Nat) (h : n < 19) : (((237 + n + 256 * nB (List.replicate 30 255#8 ++ [127#8])) % 2 ^ 255 : Nat) : Int) % pC = ((n % 2 ^ 255 : Nat) : Int) % pC := by
  have e : 237 + n + 256 * nB (List.replicate 30 255#8 ++ [127#8]) = n + (2 ^ 255 - 19) := by
    rw [show nB (List.replicate 30 255#8 ++ [127#8]) = (2 ^ 255 - 256) / 256 from by decide +kernel]
    have : 256 * ((2 ^ 255 - 256) / 256) = 2 ^ 255 - 19 - 237 := by decide +kernel
    have h2 : 237 ≤ 2 ^ 255 - 19 := by decide +kernel
    omega
  have e3 : ((2 ^ 255 - 19 : Nat) : Int) = pC := by decide +kernel
  have h3 : (2 ^ 255 - 19 : Nat) + 19 = 2 ^ 255 := by decide +kernel
  rw [e, Nat.mod_eq_of_lt oM, Nat.mod_eq_of_lt oM, Int.natCast_add, e3, Int.add_emod_right]
theorem mult_over {k : List (BitVec 8)} (s : BitVec 8) : multL k (over19 (s % 19#8)) = multL k (key1 (s % 19#8)) := by
  rw [mult_told, mult_told, nB_key]
  show multF _ ((((237#8 + s % 19#8).toNat + 256 * nB (List.replicate 30 255#8 ++ [127#8])) % 2 ^ 255 : Nat) % pC) = _
  rw [(small19 s).1, over_mod _ (small19 s).2]


end Go.Proofs.Ytmiagmbgfhakgaa
