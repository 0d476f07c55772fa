/- Plain laws of the stream, and the document's turner. Conditions: none beyond those that each theorem states. -/
import Derived.Test.YtkmiemlpfkfiiaaDoorSt3
namespace Go.Proofs.YtkmiemlpfkfiiaaDoor
set_option linter.unusedVariables false
set_option linter.unusedSimpArgs false
theorem rot16 (x : BitVec 32) : Qn x 16 = Lm x 16 := rfl
theorem rot12 (x : BitVec 32) : Qn x 12 = Lm x 12 := rfl
theorem rot8 (x : BitVec 32) : Qn x 8 = Lm x 8 := rfl
theorem rot7 (x : BitVec 32) : Qn x 7 = Lm x 7 := rfl
theorem Qjx (r r' : BitVec 32 → Int → BitVec 32) (h16 : ∀ x, r x 16 = r' x 16) (h12 : ∀ x, r x 12 = r' x 12) (h8 : ∀ x, r x 8 = r' x 8) (h7 : ∀ x, r x 7 = r' x 7) (a b c d : BitVec 32) : Y3 r a b c d = Y3 r' a b c d := by
 simp only [Y3, h16, h12, h8, h7]
theorem Qib (a b c d : BitVec 32) : Y3 Qn a b c d = Y3 Lm a b c d := Qjx _ _ rot16 rot12 rot8 rot7 a b c d
theorem dblR_eq (s : List (BitVec 32)) : dblR s = Qfh (Y3 Lm) (Qfh (Y3 Lm) (Qfh (Y3 Lm) (Qfh (Y3 Lm) (Qfh (Y3 Lm) (Qfh (Y3 Lm) (Qfh (Y3 Lm) (Qfh (Y3 Lm) s 0 4 8 12) 1 5 9 13) 2 6 10 14) 3 7 11 15) 0 5 10 15) 1 6 11 12) 2 7 8 13) 3 4 9 14 := rfl
theorem dbl_same (s : List (BitVec 32)) : dbl s = dblR s := by
 have hq : ∀ s i0 i1 i2 i3, Fe s i0 i1 i2 i3 = Qfh (Y3 Lm) s i0 i1 i2 i3 := by
  intro s i0 i1 i2 i3
  unfold Fe Qfh
  simp only [Qib]
 rw [dblR_eq]; unfold dbl
 rw [hq, hq, hq, hq, hq, hq, hq, hq]
theorem Qjo (k : Nat) (s : List (BitVec 32)) (h : s.length = 16) : Jr dbl k s = Jr dblR k s := by
 induction k with
 | zero => simp only [Jr]
 | succ k ih =>
  simp only [Jr]
  rw [ih, dbl_same]
theorem Qk7 (x y : BitVec 32) (n : Nat) (hx : x.toNat < 2 ^ n) (hy : y.toNat * 2 ^ n < 2 ^ 32) : x ||| y <<< n = x + y * BitVec.ofNat 32 (2 ^ n) := by
 apply BitVec.eq_of_toNat_eq
 have e : (y <<< n).toNat = y.toNat <<< n := by
  rw [BitVec.toNat_shiftLeft, Nat.shiftLeft_eq]; exact Nat.mod_eq_of_lt hy
 rw [BitVec.toNat_or, e, Nat.or_comm, ← Nat.shiftLeft_add_eq_or_of_lt hx, Nat.shiftLeft_eq, BitVec.toNat_add, BitVec.toNat_mul, BitVec.toNat_ofNat]
 have h1 : y.toNat * (2 ^ n % 2 ^ 32) % 2 ^ 32 = y.toNat * 2 ^ n := by
  rcases Nat.lt_or_ge n 32 with h | h
  ·rw [Nat.mod_eq_of_lt (Nat.pow_lt_pow_right oM h)]; exact Nat.mod_eq_of_lt hy
  have hy0 : y.toNat = 0 := by
   rcases Nat.eq_zero_or_pos y.toNat with h0 | h0
   ·exact h0
   have : 2 ^ 32 ≤ 2 ^ n := Nat.pow_le_pow_right oM h
   have : 1 * 2 ^ n ≤ y.toNat * 2 ^ n := Nat.mul_le_mul_right _ h0
   omega
  simp [hy0]
 rw [h1]
 have h2 : x.toNat + y.toNat * 2 ^ n < 2 ^ 32 := by
  rcases Nat.lt_or_ge n 32 with h | h
  ·have hp : 2 ^ n * 2 ^ (32 - n) = 2 ^ 32 := by rw [← Nat.pow_add]; congr 1; omega
   have hlt : y.toNat < 2 ^ (32 - n) := by
    rcases Nat.lt_or_ge y.toNat (2 ^ (32 - n)) with h3 | h3
    ·exact h3
    have : 2 ^ (32 - n) * 2 ^ n ≤ y.toNat * 2 ^ n := Nat.mul_le_mul_right _ h3
    rw [Nat.mul_comm, hp] at this; omega
   have : (y.toNat + 1) * 2 ^ n ≤ 2 ^ (32 - n) * 2 ^ n := Nat.mul_le_mul_right _ hlt
   rw [Nat.mul_comm (2 ^ (32 - n)), hp, Nat.add_mul] at this
   omega
  have hy0 : y.toNat = 0 := by
   rcases Nat.eq_zero_or_pos y.toNat with h0 | h0
   ·exact h0
   have : 2 ^ 32 ≤ 2 ^ n := Nat.pow_le_pow_right oM h
   have : 1 * 2 ^ n ≤ y.toNat * 2 ^ n := Nat.mul_le_mul_right _ h0
   omega
  have := x.isLt; simp only [hy0, Nat.zero_mul, Nat.add_zero]; exact this
 omega
theorem Qna (a b c d : BitVec 8) : wordP a b c d = wordR a b c d := by
 have ha := a.isLt; have hb := b.isLt; have hc := c.isLt; have hd := d.isLt
 have e8 : ∀ x : BitVec 8, (x.setWidth 32).toNat = x.toNat := fun x => by rw [BitVec.toNat_setWidth]; exact Nat.mod_eq_of_lt (by have := x.isLt; omega)
 unfold wordP wordR
 have h0 : 0#32 ||| a.setWidth 32 <<< 0 = a.setWidth 32 := by simp
 rw [h0, Qk7 _ _ 8 (by rw [e8]; omega) (by rw [e8]; omega)]
 have t1 : (a.setWidth 32 + b.setWidth 32 * BitVec.ofNat 32 (2 ^ 8)).toNat = a.toNat + b.toNat * 256 := by
  rw [BitVec.toNat_add, BitVec.toNat_mul, e8, e8]; simp; omega
 rw [Qk7 _ _ 16 (by rw [t1]; omega) (by rw [e8]; omega)]
 have t2 : (a.setWidth 32 + b.setWidth 32 * BitVec.ofNat 32 (2 ^ 8) + c.setWidth 32 * BitVec.ofNat 32 (2 ^ 16)).toNat = a.toNat + b.toNat * 256 + c.toNat * 65536 := by
  rw [BitVec.toNat_add, t1, BitVec.toNat_mul, e8]; simp; omega
 rw [Qk7 _ _ 24 (by rw [t2]; omega) (by rw [e8]; omega)]
 rfl
theorem Vg (l : Zj) (i n : Nat) (hn : 4 ≤ n) : Za (Gm l i n) = Nl (Gm l i 4) := by
 unfold Za Nl Gm
 rw [Qna]
 have e : ∀ j, j < 4 → ((l.drop i).take n).getD j 0 = ((l.drop i).take 4).getD j 0 := by
  intro j hj
  simp only [List.getD_eq_getElem?_getD, List.getElem?_take]
  rw [if_pos oM, if_pos hj]
 rw [e 0 oM, e 1 oM, e 2 oM, e 3 oM]
theorem Ql4 (key : Zj) (cr : BitVec 32) (nz : Zj) : Y9 Za key cr nz = Qan Nl key cr nz := by
 have ek : Za key = Nl (Gm key 0 4) := by
  have := Vg key 0 (key.length + 4) oM
  have e : Gm key 0 (key.length + 4) = key := by unfold Gm; rw [List.drop_zero, List.take_of_length_le oM]
  rwa [e] at this
 have en : Za nz = Nl (Gm nz 0 4) := by
  have := Vg nz 0 (nz.length + 4) oM
  have e : Gm nz 0 (nz.length + 4) = nz := by unfold Gm; rw [List.drop_zero, List.take_of_length_le oM]
  rwa [e] at this
 unfold Y9 Qan
 rw [ek, en, Vg key 4 28 oM, Vg key 8 24 oM, Vg key 12 20 oM, Vg key 16 16 oM, Vg key 20 12 oM, Vg key 24 8 oM,
  Vg nz 4 8 oM, Vg key 28 4 oM, Vg nz 8 4 oM]
theorem Qgi (v s : List (BitVec 32)) : ∀ (k i : Nat), i < 4 * k → ((List.range k).flatMap (Ey v s)).getD i 0 = Bc v s i := by
 intro k
 induction k with
 | zero => intro i h; omega
 | succ k ih =>
  intro i h
  rw [Qe3]
  have hl := D8 v s k
  simp only [List.getD_eq_getElem?_getD, List.getElem?_append, hl] at ih ⊢
  by_cases hi : i < 4 * k
  ·rw [if_pos hi]; exact ih i hi
  rw [if_neg hi]
  have hq : ((i : Int) / 4).toNat = k := by omega
  have hr : (8 * ((i : Int) % 4)).toNat = 8 * (i - 4 * k) := by omega
  unfold Bc Ey
  rw [hq, hr]
  have : i - 4 * k = 0 ∨ i - 4 * k = 1 ∨ i - 4 * k = 2 ∨ i - 4 * k = 3 := by omega
  rcases this with h | h | h | h <;> simp [h]
theorem Ql3 (key : Zj) (cr : BitVec 32) (nz : Zj) : Z4 key cr nz = Ru key cr nz := by
 unfold Z4 Ru
 rw [Qfz, Ql4, Qjo _ _ (Qgs _ _ _ _)]
 refine List.ext_getElem (by rw [D8]; simp) fun i h1 h2 => ?_
 simp only [List.length_map, List.length_range] at h1
 have := Qgi (Jr dblR 10 (Qan Nl key cr nz)) (Qan Nl key cr nz) 16 i oM
 rw [List.getD_eq_getElem?_getD, List.getElem?_eq_getElem h2, Option.getD_some] at this
 rw [this]; simp
theorem Qnd (key : Zj) (cr : BitVec 32) (nz l : Zj) : X0 Z4 key cr nz l = X0 Ru key cr nz l := by
 have : Z4 = Ru := by funext a b c; exact Ql3 a b c
 rw [this]
theorem Qgv (block : Zj → BitVec 32 → Zj → Zj) (key : Zj) (cr : BitVec 32) (nz l : Zj) : X0 block key cr nz l = (List.range l.length).map (Aa block key cr nz l) := by
 unfold X0; rw [Qfz]
theorem Qnc (block : Zj → BitVec 32 → Zj → Zj) (key : Zj) (cr : BitVec 32) (nz l : Zj) : X0 block key cr nz (X0 block key cr nz l) = l := by
 rw [Qgv block key cr nz (X0 block key cr nz l), Fb]
 refine List.ext_getElem Xk fun i h1 h2 => ?_
 have hl : (X0 block key cr nz l).getD i 0 = Aa block key cr nz l i := by rw [Qgv]; simp [List.getD_eq_getElem?_getD, h2]
 simp only [List.getElem_map, List.getElem_range]
 unfold Aa at hl ⊢
 rw [hl, BitVec.xor_assoc, BitVec.xor_self, BitVec.xor_zero]
 simp [List.getD_eq_getElem?_getD, h2]
end Go.Proofs.YtkmiemlpfkfiiaaDoor
