/- Plain laws of the stream, and the document's turner. Conditions: none beyond those that each theorem states. -/
import Derived.Test.YtkmiemlpfkfiiaaDoorSt2
import Derived.Test.YtkmiemlpfkfiiaaDoorSt5
namespace Go.Proofs.YtkmiemlpfkfiiaaDoor
open BitVec renaming ofInt → aB, ofNat → aV, toNat_add → eP, toNat_mul → eQ
open List renaming getD_eq_getElem?_getD → aI, range → bP, replicate → aA
open Mem renaming drop → aF, of_world → aY, pick → aC, pick2 → aN, pick3 → ai
open Nat renaming lt_or_ge → ay, mod_eq_of_lt → ah, mul_comm → df, mul_le_mul_right → dC
open Rd renaming ofRest → aK
open Tryd
section
set_option linter.unusedVariables false
set_option linter.unusedSimpArgs false
def Cb (block : Z4 → BitVec 32 → Z4 → Z4) (key : Z4) (cr : BitVec 32) (nz l : Z4) (i : Nat) : BitVec 8 :=
 l.getD i 0 ^^^ (block key (cr + aV 32 (i / 64)) nz).getD (i % 64) 0
def Jh (block : Z4 → BitVec 32 → Z4 → Z4) (key : Z4) (cr : BitVec 32) (nz l : Z4) : Z4 :=
 Yv (Cb block key cr nz l) 0 l.length l.length
@[simp] theorem Ap (block : Z4 → BitVec 32 → Z4 → Z4) (key : Z4) (cr : BitVec 32) (nz l : Z4) : (Jh block key cr nz l).length = l.length := by simp [Jh]
def Px (key : Z4) (cr : BitVec 32) (nz : Z4) (k : Nat) : Z4 :=
 if k = 0 then aA 64 0 else Yp key (cr + aV 32 ((k - 1) / 64)) nz
@[simp] theorem Qt6 (key : Z4) (cr : BitVec 32) (nz : Z4) (k : Nat) : (Px key cr nz k).length = 64 := by unfold Px; split <;> simp
theorem held_mid {key : Z4} {cr : BitVec 32} {nz : Z4} {k : Nat} (h : ¬ ((k : Int) % 64 = 0)) : Px key cr nz k = Yp key (cr + aV 32 (k / 64)) nz := by
 have h1 : ¬ k = 0 := by rintro rfl; simp at h
 have h2 : (k - 1) / 64 = k / 64 := by omega
 rw [Px, if_neg h1, h2]
theorem Qt5 (key : Z4) (cr : BitVec 32) (nz : Z4) (k : Nat) : Px key cr nz (k + 1) = Yp key (cr + aV 32 (k / 64)) nz := by
 rw [Px, if_neg oM, Nat.add_sub_cancel]
theorem Qki {cr : BitVec 32} {k : Nat} (h : (k : Int) % 64 = 0) : cr + aV 32 ((k + 63) / 64) = cr + aV 32 (k / 64) := by
 have : (k + 63) / 64 = k / 64 := by omega
 rw [this]
theorem Qrf {cr : BitVec 32} {k : Nat} : cr + aV 32 (k / 64) + 1 = cr + aV 32 ((k + 1 + 63) / 64) := by
 have : (k + 1 + 63) / 64 = k / 64 + 1 := by omega
 rw [this, BitVec.add_assoc]; congr 1; simp [BitVec.ofNat_add]
theorem count_zs {cr : BitVec 32} {k : Nat} (h : (k : Int) % 64 = 0) : cr + aV 32 ((k + 63) / 64) + 1#32 = cr + aV 32 ((k + 1 + 63) / 64) := by
 rw [Qki h]; exact Qrf
theorem Qun {cr : BitVec 32} {k : Nat} (h : ¬ ((k : Int) % 64 = 0)) : cr + aV 32 ((k + 63) / 64) = cr + aV 32 ((k + 1 + 63) / 64) := by
 have : (k + 63) / 64 = (k + 1 + 63) / 64 := by omega
 rw [this]
theorem Qn5 {block : Z4 → BitVec 32 → Z4 → Z4} {key : Z4} {cr : BitVec 32} {nz l : Z4} {k : Nat} :
  l.getD k 0 ^^^ (block key (cr + aV 32 (k / 64)) nz).getD ((k : Int) % 64).toNat 0 = Cb block key cr nz l k := by
 have : ((k : Int) % 64).toNat = k % 64 := by omega
 rw [this]; rfl
theorem Qnu (key : Z4) (cr : BitVec 32) (nz : Z4) (v : Value) (l : Z4) (w0 : World)  (hk : key.length = 32) (hn : nz.length = 12) (hr : Rd (Jd w0) u8 v l) (hl : l.length ≤ 281474976710656) : Xz prog 61 #[(agg u8 key), (u32 cr), (agg u8 nz), v] w0 (fun r w1 => ∃ b, r = Wi b 0 (Jh Yp key cr nz l).length (Jh Yp key cr nz l).length ∧ Mem w1 (Qs w0) [(b, .cells (cl u8 (Jh Yp key cr nz l)) 5 (0, 0))]) := by
 refine Qz (args := [(agg u8 key), (u32 cr), (agg u8 nz), v]) func61 rfl ntmps61 results61 rfl ?_
 have m0 : Mem w0 (Qs w0) [] := aY w0
 refine sR <| Y5 (Z5 (f := u8) (l := key) m0 rfl) fun w1 b4 m1 => Y5 (Z5 (f := u8) (l := nz) m1 rfl) fun w2 b6 m2 => Zx J3 ?_
 refine rN (sR ?_)
 refine Zm v <| Qd (Yi (aK hr m2) Zn rfl) <| Y5 (Az m2 Zn Yr rfl rfl oM oM oM oM) fun w3 b15 m3 => ?_
 rw [Tz u8 0 rfl] at m3
 have m3 : Mem w3 (Qs w0) [(b15, .cells (cl u8 (aA l.length (0 : BitVec 8))) 5 (0, 0)), (b6, .cells (cl u8 nz) 77 (0, 0)), (b4, .cells (cl u8 key) 23 (0, 0))] := m3
 refine Zx (Wi b15 0 l.length l.length) ?_
 refine rN (sR ?_)
 refine Y5 (Q7 m3 Qlg) fun w4 b10 m4 => ?_
 refine rN (Qa (sR ?_))
 refine Zm v <| Qd (Yi (aK hr m4) Zn rfl) <| Zm (i64 0) ?_
 refine rN (Qh ?_)
 refine Y1 (fun g wv => ∃ (k : Nat), (k ≤ l.length) ∧ g 0 = (agg u8 key) ∧ g 1 = (u32 (cr + aV 32 ((k + 63) / 64))) ∧ g 2 = (agg u8 nz) ∧ g 3 = v ∧ g 4 = (ptr b4 0) ∧ g 6 = (ptr b6 0) ∧ g 8 = J3 ∧ g 9 = (Wi b15 0 l.length l.length) ∧ g 10 = (ptr b10 0) ∧ g 16 = v ∧ g 17 = (i64 (l.length : Int)) ∧ g 18 = (i64 (k : Int)) ∧ Mem wv (Qs w0) [(b10, .cells (cl u8 (Px key cr nz k)) 139 (0, 0)), (b15, .cells (cl u8 (Yv (Cb Yp key cr nz l) 0 l.length k)) 5 (0, 0)), (b6, .cells (cl u8 nz) 77 (0, 0)), (b4, .cells (cl u8 key) 23 (0, 0))]) (fun g wv => ((l.length : Int) - RowKit.intOf (g 18)).toNat) ?_ ?_
 ·exact ⟨0, oM, rfl, (Eq.trans (show _ = (u32 cr) from rfl) Ya), rfl, rfl, rfl, rfl, rfl, rfl, rfl, rfl, rfl, rfl, (by rw [Ei]; exact m4)⟩
 rintro fr5 w6 ⟨k, hk1, s0, s1, s2, s3, s4, s6, s8, s9, s10, s16, s17, s18, m6⟩
 have z18 := s18
 have z1 := s1
 refine sR <| Qd (Xd s18 s17) ?_
 refine rN (Qa ?_)
 refine Zz rfl (fun hc7 => ?_) (fun hc7 => ?_)
 ·
  have hc7p := of_decide_eq_true hc7
  refine Qo (Qc (Qa (Qh (sR ?_))))
  refine X9 s18 <| Qd (Zo (aK hr m6) Zn Yr s16 s18 oM sD) <| Qd (v := (u8 (l.getD k 0))) (Xy (l := l) (i := (k : Int)) (dflt := 0) (aK hr m6) V3 rfl oM sD rfl) <| Zx (i64 (k : Int)) <| Zx (u8 (l.getD k 0)) ?_
  refine rN (Qa (sR ?_))
  refine Zm (i64 (k : Int)) <| Qd (Wp (b := 64) rfl rfl oM oM oM) <| Qd (G8 (b := 0) rfl rfl) <| rN ?_
  refine Ri (J := fun g wv => g 0 = (agg u8 key) ∧ g 1 = (u32 (cr + aV 32 ((k + 1 + 63) / 64))) ∧ g 2 = (agg u8 nz) ∧ g 3 = v ∧ g 4 = (ptr b4 0) ∧ g 6 = (ptr b6 0) ∧ g 8 = J3 ∧ g 9 = (Wi b15 0 l.length l.length) ∧ g 10 = (ptr b10 0) ∧ g 11 = (i64 (k : Int)) ∧ g 12 = (u8 (l.getD k 0)) ∧ g 16 = v ∧ g 17 = (i64 (l.length : Int)) ∧ g 18 = (i64 (k : Int)) ∧ g 19 = (bl (decide ((k : Int) < (l.length : Int)))) ∧ g 25 = (bl (((k : Int) % 64) == 0)) ∧ Mem wv (Qs w0) [(b10, .cells (cl u8 (Yp key (cr + aV 32 (k / 64)) nz)) 139 (0, 0)), (b15, .cells (cl u8 (Yv (Cb Yp key cr nz l) 0 l.length k)) 5 (0, 0)), (b6, .cells (cl u8 nz) 77 (0, 0)), (b4, .cells (cl u8 key) 23 (0, 0))]) ?_ ?_
  ·skip
   refine Zz rfl (fun hc8 => ?_) (fun hc8 => ?_)
   ·
    have hc8p := eq_of_beq hc8
    refine sR <| Qd (Qn Xn rfl Zh s4 m6.h3 sZ) <| X9 s1 <| Qd (Qn Pm rfl Qba s6 m6.h2 sZ) <| U5 m6 (oc89 (Dy rfl rfl rfl) (c_block _ (cr + aV 32 ((k + 63) / 64)) _ _ sD sD)) fun w9 m9 => Ye m9 (Qg (f := u8) (l := Yp key (cr + aV 32 ((k + 63) / 64)) nz) Qr Qlg s10 rfl sD m9.h0 sZ rfl) fun w11 m11 => ?_
    refine rN (Qb ?_)
    refine X9 s1 <| Qd (Xx (b := 1#32) rfl rfl) <| Zx (u32 ((cr + aV 32 ((k + 63) / 64)) + 1#32)) <| rN ?_
    exact ⟨s0, Eq.trans rfl (congrArg u32 (count_zs hc8p)), s2, s3, s4, s6, s8, s9, s10, rfl, rfl, s16, s17, s18, rfl, rfl, (by rw [← Qki hc8p]; exact m11)⟩
   ·
    have hc8p := ne_of_beq_false hc8
    refine Qo (Qc ?_)
    exact ⟨s0, Eq.trans s1 (congrArg u32 (Qun hc8p)), s2, s3, s4, s6, s8, s9, s10, rfl, rfl, s16, s17, s18, rfl, rfl, (by rw [← held_mid hc8p]; exact m6)⟩
  rintro fr12 w13 ⟨s0, s1, s2, s3, s4, s6, s8, s9, s10, s11, s12, s16, s17, s18, s19, s25, m13⟩
  refine Qb <| X9 s9 <| X9 s11 <| X9 s12 <| X9 s11 <| Qd (Wp (b := 64) rfl rfl oM oM oM) <| Qd (Zj (r := ((k : Int) % 64 : Int).toNat) oM uT139 Yr s10 rfl oM sD) <| Qd (v := (u8 ((Yp key (cr + aV 32 (k / 64)) nz).getD (((k : Int) % 64 : Int).toNat) 0))) (Qi V3 rfl rfl m13.h0 (Qu _ _ 0 sD)) <| Qd (Nb rfl rfl) <| Qd (Qb0 (r := k) oM Zn Yr rfl rfl oM sD) <| Vs m13 (Xw (f := u8) (a := (l.getD k 0) ^^^ ((Yp key (cr + aV 32 (k / 64)) nz).getD (((k : Int) % 64 : Int).toNat) 0)) Qr Yr rfl rfl m13.h1 sD (.inl (Nat.zero_le _))) fun w14 m14 => ?_
  refine Zp (Qe (Qb ?_))
  refine Qd (Zg (b := 1) s18 rfl oM oM) <| Zm (i64 ((k : Int) + 1)) <| rN ?_
  exact ⟨⟨k + 1, oM, s0, s1, s2, s3, s4, s6, s8, s9, s10, s16, s17, rfl, (by rw [Qt5, ← Ep (Cb Yp key cr nz l) 0 (n := l.length) (k := k) oM _ Qn5]; exact m14)⟩, Uj rfl z18 oM oM⟩
 ·
  have hc7p := of_decide_eq_false hc7
  obtain rfl : k = l.length := by omega
  refine X3 ?_
  refine Qj (Qj (Xk ?_))
  refine sR <| X9 s9 <| Zx (Wi b15 0 l.length l.length) ?_
  refine rN (Z8 ?_)
  refine Qq [(Wi b15 0 l.length l.length)] ⟨rfl, trivial⟩ ?_
  exact ⟨b15, by rw [Ap]; rfl, Mem.weak (H' := [_, _, _]) (aC [_] [_] _ m6)⟩
end --m
section
set_option linter.unusedVariables false
set_option linter.unusedSimpArgs false
theorem rot16 (x : BitVec 32) : Q8 x 16 = Y0 x 16 := rfl
theorem rot12 (x : BitVec 32) : Q8 x 12 = Y0 x 12 := rfl
theorem rot8 (x : BitVec 32) : Q8 x 8 = Y0 x 8 := rfl
theorem rot7 (x : BitVec 32) : Q8 x 7 = Y0 x 7 := rfl
theorem Qoq (r r' : BitVec 32 → Int → BitVec 32) (h16 : ∀ x, r x 16 = r' x 16) (h12 : ∀ x, r x 12 = r' x 12) (h8 : ∀ x, r x 8 = r' x 8) (h7 : ∀ x, r x 7 = r' x 7) (a b c d : BitVec 32) : Kr r a b c d = Kr r' a b c d := by
 simp only [Kr, h16, h12, h8, h7]
theorem Qmz (a b c d : BitVec 32) : Kr Q8 a b c d = Kr Y0 a b c d := Qoq _ _ rot16 rot12 rot8 rot7 a b c d
theorem dblR_eq (s : List (BitVec 32)) : G9 s = Qg9 (Kr Y0) (Qg9 (Kr Y0) (Qg9 (Kr Y0) (Qg9 (Kr Y0) (Qg9 (Kr Y0) (Qg9 (Kr Y0) (Qg9 (Kr Y0) (Qg9 (Kr Y0) s 0 4 8 12) 1 5 9 13) 2 6 10 14) 3 7 11 15) 0 5 10 15) 1 6 11 12) 2 7 8 13) 3 4 9 14 := rfl
theorem dbl_same (s : List (BitVec 32)) : dbl s = G9 s := by
 have hq : ∀ s i0 i1 i2 i3, Aw s i0 i1 i2 i3 = Qg9 (Kr Y0) s i0 i1 i2 i3 := by
  intro s i0 i1 i2 i3
  unfold Aw Qg9
  simp only [Qmz]
 rw [dblR_eq]; unfold dbl
 rw [hq, hq, hq, hq, hq, hq, hq, hq]
theorem Qoh (k : Nat) (s : List (BitVec 32)) (h : s.length = 16) : Yo dbl k s = Yo G9 k s := by
 induction k with
 | zero => simp only [Yo]
 | succ k ih =>
  simp only [Yo]
  rw [ih, dbl_same]
theorem Qqb (x y : BitVec 32) (n : Nat) (hx : x.toNat < 2 ^ n) (hy : y.toNat * 2 ^ n < 2 ^ 32) : x ||| y <<< n = x + y * aV 32 (2 ^ n) := by
 apply BitVec.eq_of_toNat_eq
 have e : (y <<< n).toNat = y.toNat <<< n := by
  rw [BitVec.toNat_shiftLeft, Nat.shiftLeft_eq]; exact ah hy
 rw [BitVec.toNat_or, e, Nat.or_comm, ← Nat.shiftLeft_add_eq_or_of_lt hx, Nat.shiftLeft_eq, eP, eQ, BitVec.toNat_ofNat]
 have h1 : y.toNat * (2 ^ n % 2 ^ 32) % 2 ^ 32 = y.toNat * 2 ^ n := by
  rcases ay n 32 with h | h
  ·rw [ah (Nat.pow_lt_pow_right oM h)]; exact ah hy
  have hy0 : y.toNat = 0 := by
   rcases Nat.eq_zero_or_pos y.toNat with h0 | h0
   ·exact h0
   have : 2 ^ 32 ≤ 2 ^ n := Nat.pow_le_pow_right oM h
   have : 1 * 2 ^ n ≤ y.toNat * 2 ^ n := dC _ h0
   omega
  simp [hy0]
 rw [h1]
 have h2 : x.toNat + y.toNat * 2 ^ n < 2 ^ 32 := by
  rcases ay n 32 with h | h
  ·have hp : 2 ^ n * 2 ^ (32 - n) = 2 ^ 32 := by rw [← Nat.pow_add]; congr 1; omega
   have hlt : y.toNat < 2 ^ (32 - n) := by
    rcases ay y.toNat (2 ^ (32 - n)) with h3 | h3
    ·exact h3
    have : 2 ^ (32 - n) * 2 ^ n ≤ y.toNat * 2 ^ n := dC _ h3
    rw [df, hp] at this; omega
   have : (y.toNat + 1) * 2 ^ n ≤ 2 ^ (32 - n) * 2 ^ n := dC _ hlt
   rw [df (2 ^ (32 - n)), hp, Nat.add_mul] at this
   omega
  have hy0 : y.toNat = 0 := by
   rcases Nat.eq_zero_or_pos y.toNat with h0 | h0
   ·exact h0
   have : 2 ^ 32 ≤ 2 ^ n := Nat.pow_le_pow_right oM h
   have : 1 * 2 ^ n ≤ y.toNat * 2 ^ n := dC _ h0
   omega
  have := x.isLt; simp only [hy0, Nat.zero_mul, Nat.add_zero]; exact this
 omega
theorem Qtb (a b c d : BitVec 8) : wordP a b c d = wordR a b c d := by
 have ha := a.isLt; have hb := b.isLt; have hc := c.isLt; have hd := d.isLt
 have e8 : ∀ x : BitVec 8, (x.setWidth 32).toNat = x.toNat := fun x => by rw [BitVec.toNat_setWidth]; exact ah (by have := x.isLt; omega)
 unfold wordP wordR
 have h0 : 0#32 ||| a.setWidth 32 <<< 0 = a.setWidth 32 := by simp
 rw [h0, Qqb _ _ 8 (by rw [e8]; omega) (by rw [e8]; omega)]
 have t1 : (a.setWidth 32 + b.setWidth 32 * aV 32 (2 ^ 8)).toNat = a.toNat + b.toNat * 256 := by
  rw [eP, eQ, e8, e8]; simp; omega
 rw [Qqb _ _ 16 (by rw [t1]; omega) (by rw [e8]; omega)]
 have t2 : (a.setWidth 32 + b.setWidth 32 * aV 32 (2 ^ 8) + c.setWidth 32 * aV 32 (2 ^ 16)).toNat = a.toNat + b.toNat * 256 + c.toNat * 65536 := by
  rw [eP, t1, eQ, e8]; simp; omega
 rw [Qqb _ _ 24 (by rw [t2]; omega) (by rw [e8]; omega)]
 rfl
theorem Uu (l : Z4) (i n : Nat) (hn : 4 ≤ n) : Xa (Uz l i n) = Yl (Uz l i 4) := by
 unfold Xa Yl Uz
 rw [Qtb]
 have e : ∀ j, j < 4 → ((l.drop i).take n).getD j 0 = ((l.drop i).take 4).getD j 0 := by
  intro j hj
  simp only [aI, List.getElem?_take]
  rw [if_pos oM, if_pos hj]
 rw [e 0 oM, e 1 oM, e 2 oM, e 3 oM]
theorem Qrv (key : Z4) (cr : BitVec 32) (nz : Z4) : Vb Xa key cr nz = Yw Yl key cr nz := by
 have ek : Xa key = Yl (Uz key 0 4) := by
  have := Uu key 0 (key.length + 4) oM
  have e : Uz key 0 (key.length + 4) = key := by unfold Uz; rw [List.drop_zero, List.take_of_length_le oM]
  rwa [e] at this
 have en : Xa nz = Yl (Uz nz 0 4) := by
  have := Uu nz 0 (nz.length + 4) oM
  have e : Uz nz 0 (nz.length + 4) = nz := by unfold Uz; rw [List.drop_zero, List.take_of_length_le oM]
  rwa [e] at this
 unfold Vb Yw
 rw [ek, en, Uu key 4 28 oM, Uu key 8 24 oM, Uu key 12 20 oM, Uu key 16 16 oM, Uu key 20 12 oM, Uu key 24 8 oM,
  Uu nz 4 8 oM, Uu key 28 4 oM, Uu nz 8 4 oM]
theorem Qkw (v s : List (BitVec 32)) : ∀ (k i : Nat), i < 4 * k → ((bP k).flatMap (Bc v s)).getD i 0 = P6 v s i := by
 intro k
 induction k with
 | zero => intro i h; omega
 | succ k ih =>
  intro i h
  rw [Qc4]
  have hl := Am v s k
  simp only [aI, List.getElem?_append, hl] at ih ⊢
  by_cases hi : i < 4 * k
  ·rw [if_pos hi]; exact ih i hi
  rw [if_neg hi]
  have hq : ((i : Int) / 4).toNat = k := by omega
  have hr : (8 * ((i : Int) % 4)).toNat = 8 * (i - 4 * k) := by omega
  unfold P6 Bc
  rw [hq, hr]
  have : i - 4 * k = 0 ∨ i - 4 * k = 1 ∨ i - 4 * k = 2 ∨ i - 4 * k = 3 := by omega
  rcases this with h | h | h | h <;> simp [h]
theorem Qru (key : Z4) (cr : BitVec 32) (nz : Z4) : Yp key cr nz = Fv key cr nz := by
 unfold Yp Fv
 rw [Af, Qrv, Qoh _ _ (Qk9 _ _ _ _)]
 refine List.ext_getElem (by rw [Am]; simp) fun i h1 h2 => ?_
 simp only [List.length_map, List.length_range] at h1
 have := Qkw (Yo G9 10 (Yw Yl key cr nz)) (Yw Yl key cr nz) 16 i oM
 rw [aI, List.getElem?_eq_getElem h2, Option.getD_some] at this
 rw [this]; simp
theorem Qtf (key : Z4) (cr : BitVec 32) (nz l : Z4) : Jh Yp key cr nz l = Jh Fv key cr nz l := by
 have : Yp = Fv := by funext a b c; exact Qru a b c
 rw [this]
theorem Qg4 (block : Z4 → BitVec 32 → Z4 → Z4) (key : Z4) (cr : BitVec 32) (nz l : Z4) : Jh block key cr nz l = (bP l.length).map (Cb block key cr nz l) := by
 unfold Jh; rw [Af]
theorem Qte (block : Z4 → BitVec 32 → Z4 → Z4) (key : Z4) (cr : BitVec 32) (nz l : Z4) : Jh block key cr nz (Jh block key cr nz l) = l := by
 rw [Qg4 block key cr nz (Jh block key cr nz l), Ap]
 refine List.ext_getElem Ya fun i h1 h2 => ?_
 have hl : (Jh block key cr nz l).getD i 0 = Cb block key cr nz l i := by rw [Qg4]; simp [aI, h2]
 simp only [List.getElem_map, List.getElem_range]
 unfold Cb at hl ⊢
 rw [hl, BitVec.xor_assoc, BitVec.xor_self, BitVec.xor_zero]
 simp [aI, h2]
theorem turnR_at {key : Z4} {cr : BitVec 32} {nz l : Z4} {m i : Nat} (h0 : 64 * m ≤ i) (h1 : i < 64 * m + 64) :
  l.getD i 0 ^^^ (Fv key (cr + aB 32 (((64 * m : Nat) : Int) / 64)) nz).getD ((i : Int) - ((64 * m : Nat) : Int)).toNat 0 = Cb Fv key cr nz l i := by
 have e1 : ((64 * m : Nat) : Int) / 64 = ((m : Nat) : Int) := by omega
 have e2 : ((i : Int) - ((64 * m : Nat) : Int)).toNat = i % 64 := by omega
 have e3 : i / 64 = m := by omega
 rw [e1, e2]
 unfold Cb
 rw [e3]; congr 4
theorem Qe3 {α : Type} (g : Nat → α) (k : Nat) (x : α) (h : x = g k) : (bP k).map g ++ [x] = (bP (k + 1)).map g := by
 rw [List.range_succ, List.map_append, h]; rfl
set_option maxHeartbeats 1000000 in
theorem Qsv (key : Z4) (cr : BitVec 32) (nz : Z4) (v : Value) (l : Z4) (w0 : World)  (hk : key.length = 32) (hn : nz.length = 12) (hr : Rd (Jd w0) u8 v l) (hl : l.length ≤ 1000000) : Xz prog 71 #[(agg u8 key), (u32 cr), (agg u8 nz), v] w0 (fun r w1 => ∃ Hs, Z9 u8 5 r (Jh Fv key cr nz l) Hs ∧ Mem w1 (Qs w0) Hs) := by
 refine Qz (args := [(agg u8 key), (u32 cr), (agg u8 nz), v]) func71 rfl ntmps71 results71 rfl ?_
 have m0 : Mem w0 (Qs w0) [] := aY w0
 refine sR <| Y5 (Z5 (f := u8) (l := key) m0 rfl) fun w1 b4 m1 => Y5 (Z5 (f := u8) (l := nz) m1 rfl) fun w2 b6 m2 => Zx J3 ?_
 refine rN (sR ?_)
 refine Y5 (Qp u8 [] Qr m2 Zn Yr rfl (by simp [Bz]) rfl) fun w3 b13 m3 => Zx (Wi b13 0 0 0) ?_
 refine rN (Qa (sR ?_))
 refine Zx (i64 0) ?_
 refine rN (Qh ?_)
 refine Y1 (fun g wv => ∃ (m : Nat) (ol : Z4) (so : Value) (Ho : List (Nat × Obj)), (64 * m ≤ l.length + 63) ∧ (ol = (bP (min (64 * m) l.length)).map (Cb Fv key cr nz l)) ∧ (Z9 u8 5 so ol Ho) ∧ g 0 = (agg u8 key) ∧ g 1 = (u32 cr) ∧ g 2 = (agg u8 nz) ∧ g 3 = v ∧ g 4 = (ptr b4 0) ∧ g 6 = (ptr b6 0) ∧ g 8 = J3 ∧ g 9 = so ∧ g 10 = (i64 ((64 * m : Nat) : Int)) ∧ Mem wv (Qs w0) (Ho ++ ([(b6, .cells (cl u8 nz) 77 (0, 0)), (b4, .cells (cl u8 key) 23 (0, 0))]))) (fun g wv => ((l.length : Int) - RowKit.intOf (g 10)).toNat) ?_ ?_
 ·exact ⟨0, [], (Wi b13 0 0 0), [(b13, .cells (cl u8 ([])) 5 (0, 0))], oM, Ya, (Z9.of u8 5 b13 ([])), rfl, rfl, rfl, rfl, rfl, rfl, rfl, rfl, rfl, m3⟩
 rintro fr4 w5 ⟨m, ol, so, Ho, m1, hol, gro, s0, s1, s2, s3, s4, s6, s8, s9, s10, m5⟩
 have z10 := s10
 have z9 := s9
 refine Qa (sR ?_)
 refine X9 s10 <| X9 s3 <| Qd (Yi (aK hr m5) Zn rfl) <| Qd (Xd rfl rfl) <| rN ?_
 refine Zz rfl (fun hc6 => ?_) (fun hc6 => ?_)
 ·
  have hc6p := of_decide_eq_true hc6
  refine Qo (Qc (Qa (Qh (sR ?_))))
  refine Qd (Qn Xn rfl Zh s4 ((aN Ho [_] [_] _ m5)).h0 sZ) <| X9 s1 <| X9 s10 <| Qd (Um (b := 64) rfl rfl oM oM oM) <| Qd (Qis ⟨_, Fa⟩ Xt rfl) <| Qd (Xx rfl rfl) <| Qd (Qn Pm rfl Qba s6 ((aC Ho [_] _ m5)).h0 sZ) <| Vr (oc94 (Dy rfl rfl rfl) (c_block3 _ (cr + (aB 32 (((64 * m : Nat) : Int) / 64))) _ _ sD sD)) ?_
  rintro rq8 w7 ⟨Hsq8, grq8, k_w7⟩
  have m7 : Mem _ _ (Hsq8 ++ (Ho ++ ([_, _]))) := Mem.new (H := Ho ++ ([_, _])) (H' := Hsq8) m5 k_w7
  refine Zx rq8 ?_
  refine rN (sR ?_)
  refine X9 s10 <| Zx (i64 ((64 * m : Nat) : Int)) ?_
  refine rN (Gh ?_)
  refine Y1 (fun g wv => ∃ (i : Nat) (ol2 : Z4) (so2 : Value) (Ho2 : List (Nat × Obj)), (64 * m ≤ i ∧ i ≤ 64 * m + 64 ∧ i ≤ l.length) ∧ (ol2 = (bP i).map (Cb Fv key cr nz l)) ∧ (Z9 u8 5 so2 ol2 Ho2) ∧ g 0 = (agg u8 key) ∧ g 1 = (u32 cr) ∧ g 2 = (agg u8 nz) ∧ g 3 = v ∧ g 4 = (ptr b4 0) ∧ g 6 = (ptr b6 0) ∧ g 8 = J3 ∧ g 9 = so2 ∧ g 10 = (i64 ((64 * m : Nat) : Int)) ∧ g 11 = rq8 ∧ g 12 = (i64 (i : Int)) ∧ g 17 = (bl (decide (((64 * m : Nat) : Int) < (l.length : Int)))) ∧ Mem wv (Qs w0) (Ho2 ++ (Hsq8 ++ ([(b6, .cells (cl u8 nz) 77 (0, 0)), (b4, .cells (cl u8 key) 23 (0, 0))])))) (fun g wv => ((l.length : Int) - RowKit.intOf (g 12)).toNat) ?_ ?_
  have m9 := (ai Hsq8 Ho [_] [_] _ m7)
  have m10 := (ai [_] Hsq8 Ho [_] _ m9)
  have m11 := (aC [_, _] Hsq8 _ m10)
  have m12 := (aN Hsq8 [_, _] Ho _ m11)
  ·exact ⟨64 * m, ol, so, Ho, oM, (by rw [hol, Nat.min_eq_left oM]), gro, s0, s1, s2, s3, s4, s6, s8, s9, s10, rfl, rfl, rfl, m12⟩
  rintro fr13 w14 ⟨i, ol2, so2, Ho2, hi1, hol2, gro2, s0, s1, s2, s3, s4, s6, s8, s9, s10, s11, s12, s17, m14⟩
  have z12 := s12
  have z9 := s9
  have hol2l : ol2.length = i := by rw [hol2]; simp
  refine Qa (sR ?_)
  refine X9 s12 <| X9 s10 <| Qd (Zg (b := 64) rfl rfl oM oM) <| Qd (Xd rfl rfl) <| Zm (bl (decide ((i : Int) < (((64 * m : Nat) : Int) + 64)))) ?_
  rcases Bool.eq_false_or_eq_true (decide ((i : Int) < (((64 * m : Nat) : Int) + 64))) with hb15 | hb15
  ·
   have hb15p := of_decide_eq_true hb15
   refine Yf (s := 33) rfl rfl hb15 rfl (Jb s12) <| Yf (s := 33) rfl rfl hb15 rfl (Jb s3) <| Yf (s := 33) rfl rfl hb15 rfl (Yi (aK hr m14) Zn rfl) <| Yf (s := 33) rfl rfl hb15 rfl (Xd rfl rfl) <| Qd (G6 rfl hb15 rfl) <| rN ?_
   refine Zz rfl (fun hc16 => ?_) (fun hc16 => ?_)
   ·
    have hc16p := of_decide_eq_true hc16
    refine Qo (Qc (Qa (Qh ?_)))
    refine Xi [(0, false), (1, false), (2, false), (3, false), (4, false), (5, false), (6, false), (7, false), (8, false), (9, false), (10, false), (11, false), (12, true)] 13 Xv <| Uh rfl s9 <| Uh rfl s3 <| Uh rfl s12 <| Yj rfl (fun _ e' => Zo (aK hr (m14.ext e')) Zn Yr rfl rfl oM sD) <| Yj (v := (u8 (l.getD i 0))) rfl (fun _ e' => Xy (l := l) (i := (i : Int)) (dflt := 0) (aK hr (m14.ext e')) V3 rfl oM sD rfl) <| Uh rfl s11 <| Uh rfl s12 <| Uh rfl s10 <| X4 rfl (Yg rfl rfl oM oM) <| Yj rfl (fun _ e' => Zo (grq8.rd (aC Ho2 Hsq8 _ (m14.ext e'))) Zn Yr rfl rfl oM sD) <| Yj (v := (u8 ((Fv key (cr + (aB 32 (((64 * m : Nat) : Int) / 64))) nz).getD (((i : Int) - ((64 * m : Nat) : Int) : Int).toNat) 0))) rfl (fun _ e' => Xy (l := Fv key (cr + (aB 32 (((64 * m : Nat) : Int) / 64))) nz) (i := (i : Int) - ((64 * m : Nat) : Int)) (dflt := 0) (grq8.rd (aC Ho2 Hsq8 _ (m14.ext e'))) V3 rfl oM sD rfl) ?_
    refine X4 rfl (Nb rfl rfl) ?_
    refine C9 rfl rfl (fun w17 e17 => ?_)
    have m17 := m14.ext e17
    refine Vf.mono (Qp u8 [(l.getD i 0) ^^^ ((Fv key (cr + (aB 32 (((64 * m : Nat) : Int) / 64))) nz).getD (((i : Int) - ((64 * m : Nat) : Int) : Int).toNat) 0)] Qr m17 Zn Yr rfl rfl rfl) ?_
    rintro _ w18 ⟨b53, rfl, e18, m18⟩
    refine ⟨e18, ?_⟩
    refine Gf m18 fun w19 m19 => Vr (Xh (f := u8) (Hs := Ho2) (H := [_] ++ (Hsq8 ++ ([_, _]))) (aC [_] Ho2 _ m19) gro2 rfl rfl (Rd.mkA m19.h0) Zn Zn Yr rfl Qr sD sD) ?_
    rintro sv20 w20 ⟨Hs20, m20, g20⟩
    replace g20 : Z9 u8 5 sv20 (ol2 ++ ([(l.getD i 0) ^^^ ((Fv key (cr + (aB 32 (((64 * m : Nat) : Int) / 64))) nz).getD (((i : Int) - ((64 * m : Nat) : Int) : Int).toNat) 0)])) Hs20 := g20
    refine Zx sv20 ?_
    refine Zp (Qe ?_)
    have m21 := aF [_] _ (aC Hs20 [_] _ m20)
    refine Qb <| X9 s12 <| Qd (Zg (b := 1) rfl rfl oM oM) <| Zx (i64 ((i : Int) + 1)) <| rN ?_
    exact ⟨⟨i + 1, ol2 ++ ([(l.getD i 0) ^^^ ((Fv key (cr + (aB 32 (((64 * m : Nat) : Int) / 64))) nz).getD (((i : Int) - ((64 * m : Nat) : Int) : Int).toNat) 0)]), sv20, Hs20, oM, (by rw [hol2]; exact Qe3 _ _ _ (turnR_at oM oM)), g20, s0, s1, s2, s3, s4, s6, s8, rfl, s10, s11, rfl, s17, m21⟩, Uj rfl z12 oM oM⟩
   ·
    have hc16p := of_decide_eq_false hc16
    refine X3 ?_
    refine Qj (Qj (Xk ?_))
    refine Qe (Qb ?_)
    refine X9 s10 <| Qd (Zg (b := 64) rfl rfl oM oM) <| Zx (i64 (((64 * m : Nat) : Int) + 64)) <| rN ?_
    have hmin : i = min (64 * (m + 1)) l.length := by omega
    have hol3 := hol2
    rw [hmin] at hol3
    have m22 := aF Hsq8 _ (aC Ho2 Hsq8 _ m14)
    exact ⟨⟨m + 1, ol2, so2, Ho2, oM, hol3, gro2, s0, s1, s2, s3, s4, s6, s8, s9, (by show i64 _ = i64 _; congr 1), m22⟩, Uj (by show i64 _ = i64 _; congr 1) z10 (a' := ((64 * (m + 1) : Nat) : Int)) oM oM⟩
  ·
   have hb15p := of_decide_eq_false hb15
   refine Fe (s := 33) rfl rfl hb15 rfl <| Fe (s := 33) rfl rfl hb15 rfl <| Fe (s := 33) rfl rfl hb15 rfl <| Fe (s := 33) rfl rfl hb15 rfl <| Qd (Wn rfl hb15 rfl) <| rN <| Ja rfl Yx <| X3 ?_
   refine Qj (Qj (Xk ?_))
   refine Qe (Qb ?_)
   refine X9 s10 <| Qd (Zg (b := 64) rfl rfl oM oM) <| Zx (i64 (((64 * m : Nat) : Int) + 64)) <| rN ?_
   have hmin : i = min (64 * (m + 1)) l.length := by omega
   have hol3 := hol2
   rw [hmin] at hol3
   have m23 := aF Hsq8 _ (aC Ho2 Hsq8 _ m14)
   exact ⟨⟨m + 1, ol2, so2, Ho2, oM, hol3, gro2, s0, s1, s2, s3, s4, s6, s8, s9, (by show i64 _ = i64 _; congr 1), m23⟩, Uj (by show i64 _ = i64 _; congr 1) z10 (a' := ((64 * (m + 1) : Nat) : Int)) oM oM⟩
 ·
  have hc6p := of_decide_eq_false hc6
  refine X3 ?_
  refine Qj (Qj (Xk ?_))
  refine sR <| X9 s9 <| Zx so ?_
  refine rN (Z8 ?_)
  refine Qq [so] ⟨rfl, trivial⟩ ?_
  have hfin : ol = Jh Fv key cr nz l := by rw [hol, Qg4, Nat.min_eq_right oM]
  have m24 := aF [_] _ (aC Ho [_] _ m5)
  have m25 := aF [_] _ (aC Ho [_] _ m24)
  exact ⟨Ho, hfin ▸ gro, by simpa using m25⟩
end --m
end Go.Proofs.YtkmiemlpfkfiiaaDoor
