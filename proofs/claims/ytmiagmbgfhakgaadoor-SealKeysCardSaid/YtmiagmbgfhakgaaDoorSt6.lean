/- Plain laws of the stream, and the document's turner. Conditions: none beyond those that each theorem states. -/
import Derived.Test.YtmiagmbgfhakgaaDoorSt5
import Derived.Test.YtmiagmbgfhakgaaDoorSt3
namespace Go.Proofs.YtmiagmbgfhakgaaDoor
set_option linter.unusedVariables false
set_option linter.unusedSimpArgs false

theorem rot16 (x : BitVec 32) : rotl32 x 16 = left3 x 16 := rfl
theorem rot12 (x : BitVec 32) : rotl32 x 12 = left3 x 12 := rfl
theorem rot8 (x : BitVec 32) : rotl32 x 8 = left3 x 8 := rfl
theorem rot7 (x : BitVec 32) : rotl32 x 7 = left3 x 7 := rfl
theorem quarter_ext (r r' : BitVec 32 → Int → BitVec 32) (h16 : ∀ x, r x 16 = r' x 16) (h12 : ∀ x, r x 12 = r' x 12) (h8 : ∀ x, r x 8 = r' x 8) (h7 : ∀ x, r x 7 = r' x 7) (a b c d : BitVec 32) : quarterL r a b c d = quarterL r' a b c d := by
  simp only [quarterL, h16, h12, h8, h7]
theorem quarter_same (a b c d : BitVec 32) : quarterL rotl32 a b c d = quarterL left3 a b c d := quarter_ext _ _ rot16 rot12 rot8 rot7 a b c d
def qAtG (Q : BitVec 32 → BitVec 32 → BitVec 32 → BitVec 32 → List (BitVec 32)) (s : List (BitVec 32)) (i0 i1 i2 i3 : Nat) : List (BitVec 32) :=
  let q := Q (s.getD i0 0) (s.getD i1 0) (s.getD i2 0) (s.getD i3 0)
  (((s.set i0 (q.getD 0 0)).set i1 (q.getD 1 0)).set i2 (q.getD 2 0)).set i3 (q.getD 3 0)
theorem qA0 (Q : BitVec 32 → BitVec 32 → BitVec 32 → BitVec 32 → List (BitVec 32)) (a0 a1 a2 a3 a4 a5 a6 a7 a8 a9 a10 a11 a12 a13 a14 a15 : BitVec 32) : qAtG Q [a0, a1, a2, a3, a4, a5, a6, a7, a8, a9, a10, a11, a12, a13, a14, a15] 0 4 8 12 = [(Q a0 a4 a8 a12).getD 0 0, a1, a2, a3, (Q a0 a4 a8 a12).getD 1 0, a5, a6, a7, (Q a0 a4 a8 a12).getD 2 0, a9, a10, a11, (Q a0 a4 a8 a12).getD 3 0, a13, a14, a15] := rfl
theorem qA1 (Q : BitVec 32 → BitVec 32 → BitVec 32 → BitVec 32 → List (BitVec 32)) (a0 a1 a2 a3 a4 a5 a6 a7 a8 a9 a10 a11 a12 a13 a14 a15 : BitVec 32) : qAtG Q [a0, a1, a2, a3, a4, a5, a6, a7, a8, a9, a10, a11, a12, a13, a14, a15] 1 5 9 13 = [a0, (Q a1 a5 a9 a13).getD 0 0, a2, a3, a4, (Q a1 a5 a9 a13).getD 1 0, a6, a7, a8, (Q a1 a5 a9 a13).getD 2 0, a10, a11, a12, (Q a1 a5 a9 a13).getD 3 0, a14, a15] := rfl
theorem qA2 (Q : BitVec 32 → BitVec 32 → BitVec 32 → BitVec 32 → List (BitVec 32)) (a0 a1 a2 a3 a4 a5 a6 a7 a8 a9 a10 a11 a12 a13 a14 a15 : BitVec 32) : qAtG Q [a0, a1, a2, a3, a4, a5, a6, a7, a8, a9, a10, a11, a12, a13, a14, a15] 2 6 10 14 = [a0, a1, (Q a2 a6 a10 a14).getD 0 0, a3, a4, a5, (Q a2 a6 a10 a14).getD 1 0, a7, a8, a9, (Q a2 a6 a10 a14).getD 2 0, a11, a12, a13, (Q a2 a6 a10 a14).getD 3 0, a15] := rfl
theorem qA3 (Q : BitVec 32 → BitVec 32 → BitVec 32 → BitVec 32 → List (BitVec 32)) (a0 a1 a2 a3 a4 a5 a6 a7 a8 a9 a10 a11 a12 a13 a14 a15 : BitVec 32) : qAtG Q [a0, a1, a2, a3, a4, a5, a6, a7, a8, a9, a10, a11, a12, a13, a14, a15] 3 7 11 15 = [a0, a1, a2, (Q a3 a7 a11 a15).getD 0 0, a4, a5, a6, (Q a3 a7 a11 a15).getD 1 0, a8, a9, a10, (Q a3 a7 a11 a15).getD 2 0, a12, a13, a14, (Q a3 a7 a11 a15).getD 3 0] := rfl
theorem qA4 (Q : BitVec 32 → BitVec 32 → BitVec 32 → BitVec 32 → List (BitVec 32)) (a0 a1 a2 a3 a4 a5 a6 a7 a8 a9 a10 a11 a12 a13 a14 a15 : BitVec 32) : qAtG Q [a0, a1, a2, a3, a4, a5, a6, a7, a8, a9, a10, a11, a12, a13, a14, a15] 0 5 10 15 = [(Q a0 a5 a10 a15).getD 0 0, a1, a2, a3, a4, (Q a0 a5 a10 a15).getD 1 0, a6, a7, a8, a9, (Q a0 a5 a10 a15).getD 2 0, a11, a12, a13, a14, (Q a0 a5 a10 a15).getD 3 0] := rfl
theorem qA5 (Q : BitVec 32 → BitVec 32 → BitVec 32 → BitVec 32 → List (BitVec 32)) (a0 a1 a2 a3 a4 a5 a6 a7 a8 a9 a10 a11 a12 a13 a14 a15 : BitVec 32) : qAtG Q [a0, a1, a2, a3, a4, a5, a6, a7, a8, a9, a10, a11, a12, a13, a14, a15] 1 6 11 12 = [a0, (Q a1 a6 a11 a12).getD 0 0, a2, a3, a4, a5, (Q a1 a6 a11 a12).getD 1 0, a7, a8, a9, a10, (Q a1 a6 a11 a12).getD 2 0, (Q a1 a6 a11 a12).getD 3 0, a13, a14, a15] := rfl
theorem qA6 (Q : BitVec 32 → BitVec 32 → BitVec 32 → BitVec 32 → List (BitVec 32)) (a0 a1 a2 a3 a4 a5 a6 a7 a8 a9 a10 a11 a12 a13 a14 a15 : BitVec 32) : qAtG Q [a0, a1, a2, a3, a4, a5, a6, a7, a8, a9, a10, a11, a12, a13, a14, a15] 2 7 8 13 = [a0, a1, (Q a2 a7 a8 a13).getD 0 0, a3, a4, a5, a6, (Q a2 a7 a8 a13).getD 1 0, (Q a2 a7 a8 a13).getD 2 0, a9, a10, a11, a12, (Q a2 a7 a8 a13).getD 3 0, a14, a15] := rfl
theorem qA7 (Q : BitVec 32 → BitVec 32 → BitVec 32 → BitVec 32 → List (BitVec 32)) (a0 a1 a2 a3 a4 a5 a6 a7 a8 a9 a10 a11 a12 a13 a14 a15 : BitVec 32) : qAtG Q [a0, a1, a2, a3, a4, a5, a6, a7, a8, a9, a10, a11, a12, a13, a14, a15] 3 4 9 14 = [a0, a1, a2, (Q a3 a4 a9 a14).getD 0 0, (Q a3 a4 a9 a14).getD 1 0, a5, a6, a7, a8, (Q a3 a4 a9 a14).getD 2 0, a10, a11, a12, a13, (Q a3 a4 a9 a14).getD 3 0, a15] := rfl
theorem dbl_same (s : List (BitVec 32)) (h : s.length = 16) : dbl s = dblR s := by
  obtain ⟨x0, x1, x2, x3, x4, x5, x6, x7, x8, x9, x10, x11, x12, x13, x14, x15, rfl⟩ := list16 s h
  have hq : ∀ s i0 i1 i2 i3, qAt s i0 i1 i2 i3 = qAtG (quarterL left3) s i0 i1 i2 i3 := by
    intro s i0 i1 i2 i3
    unfold qAt qAtG
    simp only [quarter_same]
  unfold dbl
  rw [hq, hq, hq, hq, hq, hq, hq, hq, qA0, qA1, qA2, qA3, qA4, qA5, qA6, qA7]
  rfl
theorem rounds_same (k : Nat) (s : List (BitVec 32)) (h : s.length = 16) : rounds dbl k s = rounds dblR k s := by
  induction k with
  | zero => simp only [rounds]
  | succ k ih =>
    simp only [rounds]
    rw [ih, dbl_same _ (rounds_dblR_length k s h)]
theorem or_add (x y : BitVec 32) (n : Nat) (hx : x.toNat < 2 ^ n) (hy : y.toNat * 2 ^ n < 2 ^ 32) : x ||| y <<< n = x + y * BitVec.ofNat 32 (2 ^ n) := by
  apply BitVec.eq_of_toNat_eq
  have e : (y <<< n).toNat = y.toNat <<< n := by
    rw [BitVec.toNat_shiftLeft, Nat.shiftLeft_eq]; exact Nat.mod_eq_of_lt hy
  rw [BitVec.toNat_or, e, Nat.or_comm, ← Nat.shiftLeft_add_eq_or_of_lt hx, Nat.shiftLeft_eq, BitVec.toNat_add, BitVec.toNat_mul, BitVec.toNat_ofNat]
  have h1 : y.toNat * (2 ^ n % 2 ^ 32) % 2 ^ 32 = y.toNat * 2 ^ n := by
    rcases Nat.lt_or_ge n 32 with h | h
    · rw [Nat.mod_eq_of_lt (Nat.pow_lt_pow_right oM h)]; exact Nat.mod_eq_of_lt hy
    · have hy0 : y.toNat = 0 := by
        rcases Nat.eq_zero_or_pos y.toNat with h0 | h0
        · exact h0
        · have : 2 ^ 32 ≤ 2 ^ n := Nat.pow_le_pow_right oM h
          have : 1 * 2 ^ n ≤ y.toNat * 2 ^ n := Nat.mul_le_mul_right _ h0
          omega
      simp [hy0]
  rw [h1]
  have h2 : x.toNat + y.toNat * 2 ^ n < 2 ^ 32 := by
    rcases Nat.lt_or_ge n 32 with h | h
    · have hp : 2 ^ n * 2 ^ (32 - n) = 2 ^ 32 := by rw [← Nat.pow_add]; congr 1; omega
      have hlt : y.toNat < 2 ^ (32 - n) := by
        rcases Nat.lt_or_ge y.toNat (2 ^ (32 - n)) with h3 | h3
        · exact h3
        · have : 2 ^ (32 - n) * 2 ^ n ≤ y.toNat * 2 ^ n := Nat.mul_le_mul_right _ h3
          rw [Nat.mul_comm, hp] at this; omega
      have : (y.toNat + 1) * 2 ^ n ≤ 2 ^ (32 - n) * 2 ^ n := Nat.mul_le_mul_right _ hlt
      rw [Nat.mul_comm (2 ^ (32 - n)), hp, Nat.add_mul] at this
      omega
    · have hy0 : y.toNat = 0 := by
        rcases Nat.eq_zero_or_pos y.toNat with h0 | h0
        · exact h0
        · have : 2 ^ 32 ≤ 2 ^ n := Nat.pow_le_pow_right oM h
          have : 1 * 2 ^ n ≤ y.toNat * 2 ^ n := Nat.mul_le_mul_right _ h0
          omega
      have := x.isLt; simp only [hy0, Nat.zero_mul, Nat.add_zero]; exact this
  omega
theorem word_same (a b c d : BitVec 8) : wordP a b c d = wordR a b c d := by
  have ha := a.isLt; have hb := b.isLt; have hc := c.isLt; have hd := d.isLt
  have e8 : ∀ x : BitVec 8, (x.setWidth 32).toNat = x.toNat := fun x => by rw [BitVec.toNat_setWidth]; exact Nat.mod_eq_of_lt (by have := x.isLt; omega)
  unfold wordP wordR
  have h0 : 0#32 ||| a.setWidth 32 <<< 0 = a.setWidth 32 := by simp
  rw [h0, or_add _ _ 8 (by rw [e8]; omega) (by rw [e8]; omega)]
  have t1 : (a.setWidth 32 + b.setWidth 32 * BitVec.ofNat 32 (2 ^ 8)).toNat = a.toNat + b.toNat * 256 := by
    rw [BitVec.toNat_add, BitVec.toNat_mul, e8, e8]; simp; omega
  rw [or_add _ _ 16 (by rw [t1]; omega) (by rw [e8]; omega)]
  have t2 : (a.setWidth 32 + b.setWidth 32 * BitVec.ofNat 32 (2 ^ 8) + c.setWidth 32 * BitVec.ofNat 32 (2 ^ 16)).toNat = a.toNat + b.toNat * 256 + c.toNat * 65536 := by
    rw [BitVec.toNat_add, t1, BitVec.toNat_mul, e8]; simp; omega
  rw [or_add _ _ 24 (by rw [t2]; omega) (by rw [e8]; omega)]
  rfl
theorem wordPL_take (l : List (BitVec 8)) (i n : Nat) (hn : 4 ≤ n) : wordPL (kpart l i n) = wordRL (kpart l i 4) := by
  unfold wordPL wordRL kpart
  rw [word_same]
  have e : ∀ j, j < 4 → ((l.drop i).take n).getD j 0 = ((l.drop i).take 4).getD j 0 := by
    intro j hj
    simp only [List.getD_eq_getElem?_getD, List.getElem?_take]
    rw [if_pos oM, if_pos hj]
  rw [e 0 oM, e 1 oM, e 2 oM, e 3 oM]
theorem begin_same (key : List (BitVec 8)) (counter : BitVec 32) (nonce : List (BitVec 8)) : beginP wordPL key counter nonce = beginR wordRL key counter nonce := by
  have ek : wordPL key = wordRL (kpart key 0 4) := by
    have := wordPL_take key 0 (key.length + 4) oM
    have e : kpart key 0 (key.length + 4) = key := by unfold kpart; rw [List.drop_zero, List.take_of_length_le oM]
    rwa [e] at this
  have en : wordPL nonce = wordRL (kpart nonce 0 4) := by
    have := wordPL_take nonce 0 (nonce.length + 4) oM
    have e : kpart nonce 0 (nonce.length + 4) = nonce := by unfold kpart; rw [List.drop_zero, List.take_of_length_le oM]
    rwa [e] at this
  unfold beginP beginR
  rw [ek, en, wordPL_take key 4 28 oM, wordPL_take key 8 24 oM, wordPL_take key 12 20 oM, wordPL_take key 16 16 oM, wordPL_take key 20 12 oM, wordPL_take key 24 8 oM,
    wordPL_take nonce 4 8 oM, wordPL_take key 28 4 oM, wordPL_take nonce 8 4 oM]
theorem wordBytes_get (v s : List (BitVec 32)) : ∀ (k i : Nat), i < 4 * k → ((List.range k).flatMap (wordBytes v s)).getD i 0 = blockByte v s i := by
  intro k
  induction k with
  | zero => intro i h; omega
  | succ k ih =>
    intro i h
    rw [wordBytes_succ]
    have hl := wordBytes_length v s k
    simp only [List.getD_eq_getElem?_getD, List.getElem?_append, hl] at ih ⊢
    by_cases hi : i < 4 * k
    · rw [if_pos hi]; exact ih i hi
    · rw [if_neg hi]
      have hq : ((i : Int) / 4).toNat = k := by omega
      have hr : (8 * ((i : Int) % 4)).toNat = 8 * (i - 4 * k) := by omega
      unfold blockByte wordBytes
      rw [hq, hr]
      have : i - 4 * k = 0 ∨ i - 4 * k = 1 ∨ i - 4 * k = 2 ∨ i - 4 * k = 3 := by omega
      rcases this with h | h | h | h <;> simp [h]
theorem block_same (key : List (BitVec 8)) (counter : BitVec 32) (nonce : List (BitVec 8)) : blockP key counter nonce = blockR key counter nonce := by
  unfold blockP blockR
  rw [filled_all, begin_same, rounds_same _ _ (beginR_length _ _ _ _)]
  refine List.ext_getElem (by rw [wordBytes_length]; simp) fun i h1 h2 => ?_
  simp only [List.length_map, List.length_range] at h1
  have := wordBytes_get (rounds dblR 10 (beginR wordRL key counter nonce)) (beginR wordRL key counter nonce) 16 i oM
  rw [List.getD_eq_getElem?_getD, List.getElem?_eq_getElem h2, Option.getD_some] at this
  rw [this]; simp
theorem turn_same (key : List (BitVec 8)) (counter : BitVec 32) (nonce l : List (BitVec 8)) : turnP blockP key counter nonce l = turnP blockR key counter nonce l := by
  have : blockP = blockR := by funext a b c; exact block_same a b c
  rw [this]
theorem turnP_get (block : List (BitVec 8) → BitVec 32 → List (BitVec 8) → List (BitVec 8)) (key : List (BitVec 8)) (counter : BitVec 32) (nonce l : List (BitVec 8)) : turnP block key counter nonce l = (List.range l.length).map (turnByte block key counter nonce l) := by
  unfold turnP; rw [filled_all]
/-- Turned twice, bytes are what they were. -/
theorem turn_turn (block : List (BitVec 8) → BitVec 32 → List (BitVec 8) → List (BitVec 8)) (key : List (BitVec 8)) (counter : BitVec 32) (nonce l : List (BitVec 8)) : turnP block key counter nonce (turnP block key counter nonce l) = l := by
  rw [turnP_get block key counter nonce (turnP block key counter nonce l), turnP_length]
  refine List.ext_getElem (by simp) fun i h1 h2 => ?_
  have hl : (turnP block key counter nonce l).getD i 0 = turnByte block key counter nonce l i := by rw [turnP_get]; simp [List.getD_eq_getElem?_getD, h2]
  simp only [List.getElem_map, List.getElem_range]
  unfold turnByte at hl ⊢
  rw [hl, BitVec.xor_assoc, BitVec.xor_self, BitVec.xor_zero]
  simp [List.getD_eq_getElem?_getD, h2]
end Go.Proofs.YtmiagmbgfhakgaaDoor

