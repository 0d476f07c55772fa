/- Plain laws of the stream, and the document's turner. Conditions: none beyond those that each theorem states. -/
import Derived.Test.YtkmiemlpfkfiiaaDoorSt2
import Derived.Test.YtkmiemlpfkfiiaaDoorSt5
namespace Go.Proofs.YtkmiemlpfkfiiaaDoor
open Tryd
section
set_option linter.unusedVariables false
set_option linter.unusedSimpArgs false
def Lj (block : Z8 → BitVec 32 → Z8 → Z8) (key : Z8) (cr : BitVec 32) (nz l : Z8) (i : Nat) : BitVec 8 :=
 l.getD i 0 ^^^ (block key (cr + BitVec.ofNat 32 (i / 64)) nz).getD (i % 64) 0
def Jo (block : Z8 → BitVec 32 → Z8 → Z8) (key : Z8) (cr : BitVec 32) (nz l : Z8) : Z8 :=
 Y0 (Lj block key cr nz l) 0 l.length l.length
@[simp] theorem Nw (block : Z8 → BitVec 32 → Z8 → Z8) (key : Z8) (cr : BitVec 32) (nz l : Z8) : (Jo block key cr nz l).length = l.length := by simp [Jo]
def P6 (key : Z8) (cr : BitVec 32) (nz : Z8) (k : Nat) : Z8 :=
 if k = 0 then List.replicate 64 0 else Yr key (cr + BitVec.ofNat 32 ((k - 1) / 64)) nz
@[simp] theorem Qr2 (key : Z8) (cr : BitVec 32) (nz : Z8) (k : Nat) : (P6 key cr nz k).length = 64 := by unfold P6; split <;> simp
theorem held_mid {key : Z8} {cr : BitVec 32} {nz : Z8} {k : Nat} (h : ¬ ((k : Int) % 64 = 0)) : P6 key cr nz k = Yr key (cr + BitVec.ofNat 32 (k / 64)) nz := by
 have h1 : ¬ k = 0 := by rintro rfl; simp at h
 have h2 : (k - 1) / 64 = k / 64 := by omega
 rw [P6, if_neg h1, h2]
theorem Qr1 (key : Z8) (cr : BitVec 32) (nz : Z8) (k : Nat) : P6 key cr nz (k + 1) = Yr key (cr + BitVec.ofNat 32 (k / 64)) nz := by
 rw [P6, if_neg oM, Nat.add_sub_cancel]
theorem Qjx {cr : BitVec 32} {k : Nat} (h : (k : Int) % 64 = 0) : cr + BitVec.ofNat 32 ((k + 63) / 64) = cr + BitVec.ofNat 32 (k / 64) := by
 have : (k + 63) / 64 = k / 64 := by omega
 rw [this]
theorem Qps {cr : BitVec 32} {k : Nat} : cr + BitVec.ofNat 32 (k / 64) + 1 = cr + BitVec.ofNat 32 ((k + 1 + 63) / 64) := by
 have : (k + 1 + 63) / 64 = k / 64 + 1 := by omega
 rw [this, BitVec.add_assoc]; congr 1; simp [BitVec.ofNat_add]
theorem count_zs {cr : BitVec 32} {k : Nat} (h : (k : Int) % 64 = 0) : cr + BitVec.ofNat 32 ((k + 63) / 64) + 1#32 = cr + BitVec.ofNat 32 ((k + 1 + 63) / 64) := by
 rw [Qjx h]; exact Qps
theorem Qsh {cr : BitVec 32} {k : Nat} (h : ¬ ((k : Int) % 64 = 0)) : cr + BitVec.ofNat 32 ((k + 63) / 64) = cr + BitVec.ofNat 32 ((k + 1 + 63) / 64) := by
 have : (k + 63) / 64 = (k + 1 + 63) / 64 := by omega
 rw [this]
theorem Qm2 {block : Z8 → BitVec 32 → Z8 → Z8} {key : Z8} {cr : BitVec 32} {nz l : Z8} {k : Nat} :
  l.getD k 0 ^^^ (block key (cr + BitVec.ofNat 32 (k / 64)) nz).getD ((k : Int) % 64).toNat 0 = Lj block key cr nz l k := by
 have : ((k : Int) % 64).toNat = k % 64 := by omega
 rw [this]; rfl
theorem Qmr (key : Z8) (cr : BitVec 32) (nz : Z8) (v : Value) (l : Z8) (w0 : World)  (hk : key.length = 32) (hn : nz.length = 12) (hr : Rd (Y8 w0) u8 v l) (hl : l.length ≤ 281474976710656) : X0 prog 61 #[(agg u8 key), (u32 cr), (agg u8 nz), v] w0 (fun r w1 => ∃ b, r = Wp b 0 (Jo Yr key cr nz l).length (Jo Yr key cr nz l).length ∧ Mem w1 (Qr w0) [(b, .cells (cl u8 (Jo Yr key cr nz l)) 5 (0, 0))]) := by
 refine Qy (args := [(agg u8 key), (u32 cr), (agg u8 nz), v]) func61 rfl ntmps61 results61 rfl ?_
 have m0 : Mem w0 (Qr w0) [] := Mem.of_world w0
 refine sR <| Y9 (Xc (f := u8) (l := key) m0 rfl) fun w1 b4 m1 => Y9 (Xc (f := u8) (l := nz) m1 rfl) fun w2 b6 m2 => Zx Wl ?_
 refine rN (sR ?_)
 refine Zm v <| Qd (Yk (Rd.ofRest hr m2) Zo rfl) <| Y9 (Hm m2 Zo Yw rfl rfl oM oM oM oM) fun w3 b15 m3 => ?_
 rw [Qae u8 0 rfl] at m3
 have m3 : Mem w3 (Qr w0) [(b15, .cells (cl u8 (List.replicate l.length (0 : BitVec 8))) 5 (0, 0)), (b6, .cells (cl u8 nz) 77 (0, 0)), (b4, .cells (cl u8 key) 23 (0, 0))] := m3
 refine Zx (Wp b15 0 l.length l.length) ?_
 refine rN (sR ?_)
 refine Y9 (Q7 m3 Qkv) fun w4 b10 m4 => ?_
 refine rN (Qa (sR ?_))
 refine Zm v <| Qd (Yk (Rd.ofRest hr m4) Zo rfl) <| Zm (i64 0) ?_
 refine rN (Qh ?_)
 refine Y1 (fun g wv => ∃ (k : Nat), (k ≤ l.length) ∧ g 0 = (agg u8 key) ∧ g 1 = (u32 (cr + BitVec.ofNat 32 ((k + 63) / 64))) ∧ g 2 = (agg u8 nz) ∧ g 3 = v ∧ g 4 = (ptr b4 0) ∧ g 6 = (ptr b6 0) ∧ g 8 = Wl ∧ g 9 = (Wp b15 0 l.length l.length) ∧ g 10 = (ptr b10 0) ∧ g 16 = v ∧ g 17 = (i64 (l.length : Int)) ∧ g 18 = (i64 (k : Int)) ∧ Mem wv (Qr w0) [(b10, .cells (cl u8 (P6 key cr nz k)) 139 (0, 0)), (b15, .cells (cl u8 (Y0 (Lj Yr key cr nz l) 0 l.length k)) 5 (0, 0)), (b6, .cells (cl u8 nz) 77 (0, 0)), (b4, .cells (cl u8 key) 23 (0, 0))]) (fun g wv => ((l.length : Int) - RowKit.intOf (g 18)).toNat) ?_ ?_
 ·exact ⟨0, oM, rfl, (Eq.trans (show _ = (u32 cr) from rfl) Ya), rfl, rfl, rfl, rfl, rfl, rfl, rfl, rfl, rfl, rfl, (by rw [En]; exact m4)⟩
 rintro fr5 w6 ⟨k, hk1, s0, s1, s2, s3, s4, s6, s8, s9, s10, s16, s17, s18, m6⟩
 have z18 := s18
 have z1 := s1
 refine sR <| Qd (Xa s18 s17) ?_
 refine rN (Qa ?_)
 refine Zy rfl (fun hc7 => ?_) (fun hc7 => ?_)
 ·
  have hc7p := of_decide_eq_true hc7
  refine Qn (Qc (Qa (Qh (sR ?_))))
  refine Yb s18 <| Qd (Zt (Rd.ofRest hr m6) Zo Yw s16 s18 oM sD) <| Qd (v := (u8 (l.getD k 0))) (X5 (l := l) (i := (k : Int)) (dflt := 0) (Rd.ofRest hr m6) Vs rfl oM sD rfl) <| Zx (i64 (k : Int)) <| Zx (u8 (l.getD k 0)) ?_
  refine rN (Qa (sR ?_))
  refine Zm (i64 (k : Int)) <| Qd (W9 (b := 64) rfl rfl oM oM oM) <| Qd (Gq (b := 0) rfl rfl) <| rN ?_
  refine H5 (J := fun g wv => g 0 = (agg u8 key) ∧ g 1 = (u32 (cr + BitVec.ofNat 32 ((k + 1 + 63) / 64))) ∧ g 2 = (agg u8 nz) ∧ g 3 = v ∧ g 4 = (ptr b4 0) ∧ g 6 = (ptr b6 0) ∧ g 8 = Wl ∧ g 9 = (Wp b15 0 l.length l.length) ∧ g 10 = (ptr b10 0) ∧ g 11 = (i64 (k : Int)) ∧ g 12 = (u8 (l.getD k 0)) ∧ g 16 = v ∧ g 17 = (i64 (l.length : Int)) ∧ g 18 = (i64 (k : Int)) ∧ g 19 = (bl (decide ((k : Int) < (l.length : Int)))) ∧ g 25 = (bl (((k : Int) % 64) == 0)) ∧ Mem wv (Qr w0) [(b10, .cells (cl u8 (Yr key (cr + BitVec.ofNat 32 (k / 64)) nz)) 139 (0, 0)), (b15, .cells (cl u8 (Y0 (Lj Yr key cr nz l) 0 l.length k)) 5 (0, 0)), (b6, .cells (cl u8 nz) 77 (0, 0)), (b4, .cells (cl u8 key) 23 (0, 0))]) ?_ ?_
  ·skip
   refine Zy rfl (fun hc8 => ?_) (fun hc8 => ?_)
   ·
    have hc8p := eq_of_beq hc8
    refine sR <| Qd (Qo Xl rfl Zg s4 m6.h3 sZ) <| Yb s1 <| Qd (Qo Po rfl Qbl s6 m6.h2 sZ) <| U3 m6 (oc89 (Ci rfl rfl rfl) (c_block _ (cr + BitVec.ofNat 32 ((k + 63) / 64)) _ _ sD sD)) fun w9 m9 => Ye m9 (Qg (f := u8) (l := Yr key (cr + BitVec.ofNat 32 ((k + 63) / 64)) nz) Qs Qkv s10 rfl sD m9.h0 sZ rfl) fun w11 m11 => ?_
    refine rN (Qb ?_)
    refine Yb s1 <| Qd (Xz (b := 1#32) rfl rfl) <| Zx (u32 ((cr + BitVec.ofNat 32 ((k + 63) / 64)) + 1#32)) <| rN ?_
    exact ⟨s0, Eq.trans rfl (congrArg u32 (count_zs hc8p)), s2, s3, s4, s6, s8, s9, s10, rfl, rfl, s16, s17, s18, rfl, rfl, (by rw [← Qjx hc8p]; exact m11)⟩
   ·
    have hc8p := ne_of_beq_false hc8
    refine Qn (Qc ?_)
    exact ⟨s0, Eq.trans s1 (congrArg u32 (Qsh hc8p)), s2, s3, s4, s6, s8, s9, s10, rfl, rfl, s16, s17, s18, rfl, rfl, (by rw [← held_mid hc8p]; exact m6)⟩
  rintro fr12 w13 ⟨s0, s1, s2, s3, s4, s6, s8, s9, s10, s11, s12, s16, s17, s18, s19, s25, m13⟩
  refine Qb <| Yb s9 <| Yb s11 <| Yb s12 <| Yb s11 <| Qd (W9 (b := 64) rfl rfl oM oM oM) <| Qd (Zl (r := ((k : Int) % 64 : Int).toNat) oM uT139 Yw s10 rfl oM sD) <| Qd (v := (u8 ((Yr key (cr + BitVec.ofNat 32 (k / 64)) nz).getD (((k : Int) % 64 : Int).toNat) 0))) (Qi Vs rfl rfl m13.h0 (Qu _ _ 0 sD)) <| Qd (Rf rfl rfl) <| Qd (Qb5 (r := k) oM Zo Yw rfl rfl oM sD) <| Vu m13 (Xx (f := u8) (a := (l.getD k 0) ^^^ ((Yr key (cr + BitVec.ofNat 32 (k / 64)) nz).getD (((k : Int) % 64 : Int).toNat) 0)) Qs Yw rfl rfl m13.h1 sD (.inl (Nat.zero_le _))) fun w14 m14 => ?_
  refine Zp (Qe (Qb ?_))
  refine Qd (Zf (b := 1) s18 rfl oM oM) <| Zm (i64 ((k : Int) + 1)) <| rN ?_
  exact ⟨⟨k + 1, oM, s0, s1, s2, s3, s4, s6, s8, s9, s10, s16, s17, rfl, (by rw [Qr1, ← E5 (Lj Yr key cr nz l) 0 (n := l.length) (k := k) oM _ Qm2]; exact m14)⟩, Ue rfl z18 oM oM⟩
 ·
  have hc7p := of_decide_eq_false hc7
  obtain rfl : k = l.length := by omega
  refine X4 ?_
  refine Qj (Qj (Xi ?_))
  refine sR <| Yb s9 <| Zx (Wp b15 0 l.length l.length) ?_
  refine rN (Zz ?_)
  refine Qp [(Wp b15 0 l.length l.length)] ⟨rfl, trivial⟩ ?_
  exact ⟨b15, by rw [Nw]; rfl, Mem.weak (H' := [_, _, _]) (Mem.pick [_] [_] _ m6)⟩
end --m
section
set_option linter.unusedVariables false
set_option linter.unusedSimpArgs false
theorem rot16 (x : BitVec 32) : Q8 x 16 = Y4 x 16 := rfl
theorem rot12 (x : BitVec 32) : Q8 x 12 = Y4 x 12 := rfl
theorem rot8 (x : BitVec 32) : Q8 x 8 = Y4 x 8 := rfl
theorem rot7 (x : BitVec 32) : Q8 x 7 = Y4 x 7 := rfl
theorem Qnl (r r' : BitVec 32 → Int → BitVec 32) (h16 : ∀ x, r x 16 = r' x 16) (h12 : ∀ x, r x 12 = r' x 12) (h8 : ∀ x, r x 8 = r' x 8) (h7 : ∀ x, r x 7 = r' x 7) (a b c d : BitVec 32) : Kr r a b c d = Kr r' a b c d := by
 simp only [Kr, h16, h12, h8, h7]
theorem Ql1 (a b c d : BitVec 32) : Kr Q8 a b c d = Kr Y4 a b c d := Qnl _ _ rot16 rot12 rot8 rot7 a b c d
theorem dblR_eq (s : List (BitVec 32)) : G9 s = Qgo (Kr Y4) (Qgo (Kr Y4) (Qgo (Kr Y4) (Qgo (Kr Y4) (Qgo (Kr Y4) (Qgo (Kr Y4) (Qgo (Kr Y4) (Qgo (Kr Y4) s 0 4 8 12) 1 5 9 13) 2 6 10 14) 3 7 11 15) 0 5 10 15) 1 6 11 12) 2 7 8 13) 3 4 9 14 := rfl
theorem dbl_same (s : List (BitVec 32)) : dbl s = G9 s := by
 have hq : ∀ s i0 i1 i2 i3, Hg s i0 i1 i2 i3 = Qgo (Kr Y4) s i0 i1 i2 i3 := by
  intro s i0 i1 i2 i3
  unfold Hg Qgo
  simp only [Ql1]
 rw [dblR_eq]; unfold dbl
 rw [hq, hq, hq, hq, hq, hq, hq, hq]
theorem Qne (k : Nat) (s : List (BitVec 32)) (h : s.length = 16) : Yq dbl k s = Yq G9 k s := by
 induction k with
 | zero => simp only [Yq]
 | succ k ih =>
  simp only [Yq]
  rw [ih, dbl_same]
theorem Qow (x y : BitVec 32) (n : Nat) (hx : x.toNat < 2 ^ n) (hy : y.toNat * 2 ^ n < 2 ^ 32) : x ||| y <<< n = x + y * BitVec.ofNat 32 (2 ^ n) := by
 apply BitVec.eq_of_toNat_eq
 have e : (y <<< n).toNat = y.toNat <<< n := by
  rw [BitVec.toNat_shiftLeft, Nat.shiftLeft_eq]; exact Nat.mod_eq_of_lt hy
 rw [BitVec.toNat_or, e, Nat.or_comm, ← Nat.shiftLeft_add_eq_or_of_lt hx, Nat.shiftLeft_eq, BitVec.toNat_add, BitVec.toNat_mul, BitVec.toNat_ofNat]
 have h1 : y.toNat * (2 ^ n % 2 ^ 32) % 2 ^ 32 = y.toNat * 2 ^ n := by
  rcases Nat.lt_or_ge n 32 with h | h
  ·rw [Nat.mod_eq_of_lt (Nat.pow_lt_pow_right oM h)]; exact Nat.mod_eq_of_lt hy
  have hy0 : y.toNat = 0 := by
   rcases Nat.eq_zero_or_pos y.toNat with h0 | h0
   ·exact h0
   have : 2 ^ 32 ≤ 2 ^ n := Nat.pow_le_pow_right oM h
   have : 1 * 2 ^ n ≤ y.toNat * 2 ^ n := Nat.mul_le_mul_right _ h0
   omega
  simp [hy0]
 rw [h1]
 have h2 : x.toNat + y.toNat * 2 ^ n < 2 ^ 32 := by
  rcases Nat.lt_or_ge n 32 with h | h
  ·have hp : 2 ^ n * 2 ^ (32 - n) = 2 ^ 32 := by rw [← Nat.pow_add]; congr 1; omega
   have hlt : y.toNat < 2 ^ (32 - n) := by
    rcases Nat.lt_or_ge y.toNat (2 ^ (32 - n)) with h3 | h3
    ·exact h3
    have : 2 ^ (32 - n) * 2 ^ n ≤ y.toNat * 2 ^ n := Nat.mul_le_mul_right _ h3
    rw [Nat.mul_comm, hp] at this; omega
   have : (y.toNat + 1) * 2 ^ n ≤ 2 ^ (32 - n) * 2 ^ n := Nat.mul_le_mul_right _ hlt
   rw [Nat.mul_comm (2 ^ (32 - n)), hp, Nat.add_mul] at this
   omega
  have hy0 : y.toNat = 0 := by
   rcases Nat.eq_zero_or_pos y.toNat with h0 | h0
   ·exact h0
   have : 2 ^ 32 ≤ 2 ^ n := Nat.pow_le_pow_right oM h
   have : 1 * 2 ^ n ≤ y.toNat * 2 ^ n := Nat.mul_le_mul_right _ h0
   omega
  have := x.isLt; simp only [hy0, Nat.zero_mul, Nat.add_zero]; exact this
 omega
theorem Qre (a b c d : BitVec 8) : wordP a b c d = wordR a b c d := by
 have ha := a.isLt; have hb := b.isLt; have hc := c.isLt; have hd := d.isLt
 have e8 : ∀ x : BitVec 8, (x.setWidth 32).toNat = x.toNat := fun x => by rw [BitVec.toNat_setWidth]; exact Nat.mod_eq_of_lt (by have := x.isLt; omega)
 unfold wordP wordR
 have h0 : 0#32 ||| a.setWidth 32 <<< 0 = a.setWidth 32 := by simp
 rw [h0, Qow _ _ 8 (by rw [e8]; omega) (by rw [e8]; omega)]
 have t1 : (a.setWidth 32 + b.setWidth 32 * BitVec.ofNat 32 (2 ^ 8)).toNat = a.toNat + b.toNat * 256 := by
  rw [BitVec.toNat_add, BitVec.toNat_mul, e8, e8]; simp; omega
 rw [Qow _ _ 16 (by rw [t1]; omega) (by rw [e8]; omega)]
 have t2 : (a.setWidth 32 + b.setWidth 32 * BitVec.ofNat 32 (2 ^ 8) + c.setWidth 32 * BitVec.ofNat 32 (2 ^ 16)).toNat = a.toNat + b.toNat * 256 + c.toNat * 65536 := by
  rw [BitVec.toNat_add, t1, BitVec.toNat_mul, e8]; simp; omega
 rw [Qow _ _ 24 (by rw [t2]; omega) (by rw [e8]; omega)]
 rfl
theorem Ut (l : Z8) (i n : Nat) (hn : 4 ≤ n) : Z9 (Uz l i n) = Yp (Uz l i 4) := by
 unfold Z9 Yp Uz
 rw [Qre]
 have e : ∀ j, j < 4 → ((l.drop i).take n).getD j 0 = ((l.drop i).take 4).getD j 0 := by
  intro j hj
  simp only [List.getD_eq_getElem?_getD, List.getElem?_take]
  rw [if_pos oM, if_pos hj]
 rw [e 0 oM, e 1 oM, e 2 oM, e 3 oM]
theorem Qp5 (key : Z8) (cr : BitVec 32) (nz : Z8) : Ve Z9 key cr nz = Y2 Yp key cr nz := by
 have ek : Z9 key = Yp (Uz key 0 4) := by
  have := Ut key 0 (key.length + 4) oM
  have e : Uz key 0 (key.length + 4) = key := by unfold Uz; rw [List.drop_zero, List.take_of_length_le oM]
  rwa [e] at this
 have en : Z9 nz = Yp (Uz nz 0 4) := by
  have := Ut nz 0 (nz.length + 4) oM
  have e : Uz nz 0 (nz.length + 4) = nz := by unfold Uz; rw [List.drop_zero, List.take_of_length_le oM]
  rwa [e] at this
 unfold Ve Y2
 rw [ek, en, Ut key 4 28 oM, Ut key 8 24 oM, Ut key 12 20 oM, Ut key 16 16 oM, Ut key 20 12 oM, Ut key 24 8 oM,
  Ut nz 4 8 oM, Ut key 28 4 oM, Ut nz 8 4 oM]
theorem Qka (v s : List (BitVec 32)) : ∀ (k i : Nat), i < 4 * k → ((List.range k).flatMap (Bj v s)).getD i 0 = Rj v s i := by
 intro k
 induction k with
 | zero => intro i h; omega
 | succ k ih =>
  intro i h
  rw [Qc5]
  have hl := Ha v s k
  simp only [List.getD_eq_getElem?_getD, List.getElem?_append, hl] at ih ⊢
  by_cases hi : i < 4 * k
  ·rw [if_pos hi]; exact ih i hi
  rw [if_neg hi]
  have hq : ((i : Int) / 4).toNat = k := by omega
  have hr : (8 * ((i : Int) % 4)).toNat = 8 * (i - 4 * k) := by omega
  unfold Rj Bj
  rw [hq, hr]
  have : i - 4 * k = 0 ∨ i - 4 * k = 1 ∨ i - 4 * k = 2 ∨ i - 4 * k = 3 := by omega
  rcases this with h | h | h | h <;> simp [h]
theorem Qp4 (key : Z8) (cr : BitVec 32) (nz : Z8) : Yr key cr nz = F8 key cr nz := by
 unfold Yr F8
 rw [Ap, Qp5, Qne _ _ (Qko _ _ _ _)]
 refine List.ext_getElem (by rw [Ha]; simp) fun i h1 h2 => ?_
 simp only [List.length_map, List.length_range] at h1
 have := Qka (Yq G9 10 (Y2 Yp key cr nz)) (Y2 Yp key cr nz) 16 i oM
 rw [List.getD_eq_getElem?_getD, List.getElem?_eq_getElem h2, Option.getD_some] at this
 rw [this]; simp
theorem Qrg (key : Z8) (cr : BitVec 32) (nz l : Z8) : Jo Yr key cr nz l = Jo F8 key cr nz l := by
 have : Yr = F8 := by funext a b c; exact Qp4 a b c
 rw [this]
theorem Qrh (block : Z8 → BitVec 32 → Z8 → Z8) (key : Z8) (cr : BitVec 32) (nz l : Z8) : Jo block key cr nz l = (List.range l.length).map (Lj block key cr nz l) := by
 unfold Jo; rw [Ap]
theorem turnR_at {key : Z8} {cr : BitVec 32} {nz l : Z8} {m i : Nat} (h0 : 64 * m ≤ i) (h1 : i < 64 * m + 64) :
  l.getD i 0 ^^^ (F8 key (cr + BitVec.ofInt 32 (((64 * m : Nat) : Int) / 64)) nz).getD ((i : Int) - ((64 * m : Nat) : Int)).toNat 0 = Lj F8 key cr nz l i := by
 have e1 : ((64 * m : Nat) : Int) / 64 = ((m : Nat) : Int) := by omega
 have e2 : ((i : Int) - ((64 * m : Nat) : Int)).toNat = i % 64 := by omega
 have e3 : i / 64 = m := by omega
 rw [e1, e2]
 unfold Lj
 rw [e3]; congr 4
theorem Qex {α : Type} (g : Nat → α) (k : Nat) (x : α) (h : x = g k) : (List.range k).map g ++ [x] = (List.range (k + 1)).map g := by
 rw [List.range_succ, List.map_append, h]; rfl
set_option maxHeartbeats 1000000 in
theorem Qq0 (key : Z8) (cr : BitVec 32) (nz : Z8) (v : Value) (l : Z8) (w0 : World)  (hk : key.length = 32) (hn : nz.length = 12) (hr : Rd (Y8 w0) u8 v l) (hl : l.length ≤ 1000000) : X0 prog 71 #[(agg u8 key), (u32 cr), (agg u8 nz), v] w0 (fun r w1 => ∃ Hs, Z5 u8 5 r (Jo F8 key cr nz l) Hs ∧ Mem w1 (Qr w0) Hs) := by
 refine Qy (args := [(agg u8 key), (u32 cr), (agg u8 nz), v]) func71 rfl ntmps71 results71 rfl ?_
 have m0 : Mem w0 (Qr w0) [] := Mem.of_world w0
 refine sR <| Y9 (Xc (f := u8) (l := key) m0 rfl) fun w1 b4 m1 => Y9 (Xc (f := u8) (l := nz) m1 rfl) fun w2 b6 m2 => Zx Wl ?_
 refine rN (sR ?_)
 refine Y9 (Qq u8 [] Qs m2 Zo Yw rfl (by simp [Ce]) rfl) fun w3 b13 m3 => Zx (Wp b13 0 0 0) ?_
 refine rN (Qa (sR ?_))
 refine Zx (i64 0) ?_
 refine rN (Qh ?_)
 refine Y1 (fun g wv => ∃ (m : Nat) (ol : Z8) (so : Value) (Ho : List (Nat × Obj)), (64 * m ≤ l.length + 63) ∧ (ol = (List.range (min (64 * m) l.length)).map (Lj F8 key cr nz l)) ∧ (Z5 u8 5 so ol Ho) ∧ g 0 = (agg u8 key) ∧ g 1 = (u32 cr) ∧ g 2 = (agg u8 nz) ∧ g 3 = v ∧ g 4 = (ptr b4 0) ∧ g 6 = (ptr b6 0) ∧ g 8 = Wl ∧ g 9 = so ∧ g 10 = (i64 ((64 * m : Nat) : Int)) ∧ Mem wv (Qr w0) (Ho ++ ([(b6, .cells (cl u8 nz) 77 (0, 0)), (b4, .cells (cl u8 key) 23 (0, 0))]))) (fun g wv => ((l.length : Int) - RowKit.intOf (g 10)).toNat) ?_ ?_
 ·exact ⟨0, [], (Wp b13 0 0 0), [(b13, .cells (cl u8 ([])) 5 (0, 0))], oM, Ya, (Z5.of u8 5 b13 ([])), rfl, rfl, rfl, rfl, rfl, rfl, rfl, rfl, rfl, m3⟩
 rintro fr4 w5 ⟨m, ol, so, Ho, m1, hol, gro, s0, s1, s2, s3, s4, s6, s8, s9, s10, m5⟩
 have z10 := s10
 have z9 := s9
 refine Qa (sR ?_)
 refine Yb s10 <| Yb s3 <| Qd (Yk (Rd.ofRest hr m5) Zo rfl) <| Qd (Xa rfl rfl) <| rN ?_
 refine Zy rfl (fun hc6 => ?_) (fun hc6 => ?_)
 ·
  have hc6p := of_decide_eq_true hc6
  refine Qn (Qc (Qa (Qh (sR ?_))))
  refine Qd (Qo Xl rfl Zg s4 ((Mem.pick2 Ho [_] [_] _ m5)).h0 sZ) <| Yb s1 <| Yb s10 <| Qd (Uo (b := 64) rfl rfl oM oM oM) <| Qd (Qh7 ⟨_, Uu⟩ Xv rfl) <| Qd (Xz rfl rfl) <| Qd (Qo Po rfl Qbl s6 ((Mem.pick Ho [_] _ m5)).h0 sZ) <| Vw (oc94 (Ci rfl rfl rfl) (c_block3 _ (cr + (BitVec.ofInt 32 (((64 * m : Nat) : Int) / 64))) _ _ sD sD)) ?_
  rintro rq8 w7 ⟨Hsq8, grq8, k_w7⟩
  have m7 : Mem _ _ (Hsq8 ++ (Ho ++ ([_, _]))) := Mem.new (H := Ho ++ ([_, _])) (H' := Hsq8) m5 k_w7
  refine Zx rq8 ?_
  refine rN (sR ?_)
  refine Yb s10 <| Zx (i64 ((64 * m : Nat) : Int)) ?_
  refine rN (V8 ?_)
  refine Y1 (fun g wv => ∃ (i : Nat) (ol2 : Z8) (so2 : Value) (Ho2 : List (Nat × Obj)), (64 * m ≤ i ∧ i ≤ 64 * m + 64 ∧ i ≤ l.length) ∧ (ol2 = (List.range i).map (Lj F8 key cr nz l)) ∧ (Z5 u8 5 so2 ol2 Ho2) ∧ g 0 = (agg u8 key) ∧ g 1 = (u32 cr) ∧ g 2 = (agg u8 nz) ∧ g 3 = v ∧ g 4 = (ptr b4 0) ∧ g 6 = (ptr b6 0) ∧ g 8 = Wl ∧ g 9 = so2 ∧ g 10 = (i64 ((64 * m : Nat) : Int)) ∧ g 11 = rq8 ∧ g 12 = (i64 (i : Int)) ∧ g 17 = (bl (decide (((64 * m : Nat) : Int) < (l.length : Int)))) ∧ Mem wv (Qr w0) (Ho2 ++ (Hsq8 ++ ([(b6, .cells (cl u8 nz) 77 (0, 0)), (b4, .cells (cl u8 key) 23 (0, 0))])))) (fun g wv => ((l.length : Int) - RowKit.intOf (g 12)).toNat) ?_ ?_
  have m9 := (Mem.pick3 Hsq8 Ho [_] [_] _ m7)
  have m10 := (Mem.pick3 [_] Hsq8 Ho [_] _ m9)
  have m11 := (Mem.pick [_, _] Hsq8 _ m10)
  have m12 := (Mem.pick2 Hsq8 [_, _] Ho _ m11)
  ·exact ⟨64 * m, ol, so, Ho, oM, (by rw [hol, Nat.min_eq_left oM]), gro, s0, s1, s2, s3, s4, s6, s8, s9, s10, rfl, rfl, rfl, m12⟩
  rintro fr13 w14 ⟨i, ol2, so2, Ho2, hi1, hol2, gro2, s0, s1, s2, s3, s4, s6, s8, s9, s10, s11, s12, s17, m14⟩
  have z12 := s12
  have z9 := s9
  have hol2l : ol2.length = i := by rw [hol2]; simp
  refine Qa (sR ?_)
  refine Yb s12 <| Yb s10 <| Qd (Zf (b := 64) rfl rfl oM oM) <| Qd (Xa rfl rfl) <| Zm (bl (decide ((i : Int) < (((64 * m : Nat) : Int) + 64)))) ?_
  rcases Bool.eq_false_or_eq_true (decide ((i : Int) < (((64 * m : Nat) : Int) + 64))) with hb15 | hb15
  ·
   have hb15p := of_decide_eq_true hb15
   refine Zj (s := 33) rfl rfl hb15 rfl (Yh s12) <| Zj (s := 33) rfl rfl hb15 rfl (Yh s3) <| Zj (s := 33) rfl rfl hb15 rfl (Yk (Rd.ofRest hr m14) Zo rfl) <| Zj (s := 33) rfl rfl hb15 rfl (Xa rfl rfl) <| Qd (Jg rfl hb15 rfl) <| rN ?_
   refine Zy rfl (fun hc16 => ?_) (fun hc16 => ?_)
   ·
    have hc16p := of_decide_eq_true hc16
    refine Qn (Qc (Qa (Qh ?_)))
    refine Xg [(0, false), (1, false), (2, false), (3, false), (4, false), (5, false), (6, false), (7, false), (8, false), (9, false), (10, false), (11, false), (12, true)] 13 Xo <| Uh rfl s9 <| Uh rfl s3 <| Uh rfl s12 <| Ym rfl (fun _ e' => Zt (Rd.ofRest hr (m14.ext e')) Zo Yw rfl rfl oM sD) <| Ym (v := (u8 (l.getD i 0))) rfl (fun _ e' => X5 (l := l) (i := (i : Int)) (dflt := 0) (Rd.ofRest hr (m14.ext e')) Vs rfl oM sD rfl) <| Uh rfl s11 <| Uh rfl s12 <| Uh rfl s10 <| X6 rfl (Yf rfl rfl oM oM) <| Ym rfl (fun _ e' => Zt (grq8.rd (Mem.pick Ho2 Hsq8 _ (m14.ext e'))) Zo Yw rfl rfl oM sD) <| Ym (v := (u8 ((F8 key (cr + (BitVec.ofInt 32 (((64 * m : Nat) : Int) / 64))) nz).getD (((i : Int) - ((64 * m : Nat) : Int) : Int).toNat) 0))) rfl (fun _ e' => X5 (l := F8 key (cr + (BitVec.ofInt 32 (((64 * m : Nat) : Int) / 64))) nz) (i := (i : Int) - ((64 * m : Nat) : Int)) (dflt := 0) (grq8.rd (Mem.pick Ho2 Hsq8 _ (m14.ext e'))) Vs rfl oM sD rfl) ?_
    refine X6 rfl (Rf rfl rfl) ?_
    refine Bi rfl rfl (fun w17 e17 => ?_)
    have m17 := m14.ext e17
    refine Wu.mono (Qq u8 [(l.getD i 0) ^^^ ((F8 key (cr + (BitVec.ofInt 32 (((64 * m : Nat) : Int) / 64))) nz).getD (((i : Int) - ((64 * m : Nat) : Int) : Int).toNat) 0)] Qs m17 Zo Yw rfl rfl rfl) ?_
    rintro _ w18 ⟨b53, rfl, e18, m18⟩
    refine ⟨e18, ?_⟩
    refine Gf m18 fun w19 m19 => Vw (Xf (f := u8) (Hs := Ho2) (H := [_] ++ (Hsq8 ++ ([_, _]))) (Mem.pick [_] Ho2 _ m19) gro2 rfl rfl (Rd.mkA m19.h0) Zo Zo Yw rfl Qs sD sD) ?_
    rintro sv20 w20 ⟨Hs20, m20, g20⟩
    replace g20 : Z5 u8 5 sv20 (ol2 ++ ([(l.getD i 0) ^^^ ((F8 key (cr + (BitVec.ofInt 32 (((64 * m : Nat) : Int) / 64))) nz).getD (((i : Int) - ((64 * m : Nat) : Int) : Int).toNat) 0)])) Hs20 := g20
    refine Zx sv20 ?_
    refine Zp (Qe ?_)
    have m21 := Mem.drop [_] _ (Mem.pick Hs20 [_] _ m20)
    refine Qb <| Yb s12 <| Qd (Zf (b := 1) rfl rfl oM oM) <| Zx (i64 ((i : Int) + 1)) <| rN ?_
    exact ⟨⟨i + 1, ol2 ++ ([(l.getD i 0) ^^^ ((F8 key (cr + (BitVec.ofInt 32 (((64 * m : Nat) : Int) / 64))) nz).getD (((i : Int) - ((64 * m : Nat) : Int) : Int).toNat) 0)]), sv20, Hs20, oM, (by rw [hol2]; exact Qex _ _ _ (turnR_at oM oM)), g20, s0, s1, s2, s3, s4, s6, s8, rfl, s10, s11, rfl, s17, m21⟩, Ue rfl z12 oM oM⟩
   ·
    have hc16p := of_decide_eq_false hc16
    refine X4 ?_
    refine Qj (Qj (Xi ?_))
    refine Qe (Qb ?_)
    refine Yb s10 <| Qd (Zf (b := 64) rfl rfl oM oM) <| Zx (i64 (((64 * m : Nat) : Int) + 64)) <| rN ?_
    have hmin : i = min (64 * (m + 1)) l.length := by omega
    have hol3 := hol2
    rw [hmin] at hol3
    have m22 := Mem.drop Hsq8 _ (Mem.pick Ho2 Hsq8 _ m14)
    exact ⟨⟨m + 1, ol2, so2, Ho2, oM, hol3, gro2, s0, s1, s2, s3, s4, s6, s8, s9, (by show i64 _ = i64 _; congr 1), m22⟩, Ue (by show i64 _ = i64 _; congr 1) z10 (a' := ((64 * (m + 1) : Nat) : Int)) oM oM⟩
  ·
   have hb15p := of_decide_eq_false hb15
   refine Yg (s := 33) rfl rfl hb15 rfl <| Yg (s := 33) rfl rfl hb15 rfl <| Yg (s := 33) rfl rfl hb15 rfl <| Yg (s := 33) rfl rfl hb15 rfl <| Qd (Yz rfl hb15 rfl) <| rN <| Ja rfl Jb <| X4 ?_
   refine Qj (Qj (Xi ?_))
   refine Qe (Qb ?_)
   refine Yb s10 <| Qd (Zf (b := 64) rfl rfl oM oM) <| Zx (i64 (((64 * m : Nat) : Int) + 64)) <| rN ?_
   have hmin : i = min (64 * (m + 1)) l.length := by omega
   have hol3 := hol2
   rw [hmin] at hol3
   have m23 := Mem.drop Hsq8 _ (Mem.pick Ho2 Hsq8 _ m14)
   exact ⟨⟨m + 1, ol2, so2, Ho2, oM, hol3, gro2, s0, s1, s2, s3, s4, s6, s8, s9, (by show i64 _ = i64 _; congr 1), m23⟩, Ue (by show i64 _ = i64 _; congr 1) z10 (a' := ((64 * (m + 1) : Nat) : Int)) oM oM⟩
 ·
  have hc6p := of_decide_eq_false hc6
  refine X4 ?_
  refine Qj (Qj (Xi ?_))
  refine sR <| Yb s9 <| Zx so ?_
  refine rN (Zz ?_)
  refine Qp [so] ⟨rfl, trivial⟩ ?_
  have hfin : ol = Jo F8 key cr nz l := by rw [hol, Qrh, Nat.min_eq_right oM]
  have m24 := Mem.drop [_] _ (Mem.pick Ho [_] _ m5)
  have m25 := Mem.drop [_] _ (Mem.pick Ho [_] _ m24)
  exact ⟨Ho, hfin ▸ gro, by simpa using m25⟩
end --m
end Go.Proofs.YtkmiemlpfkfiiaaDoor
