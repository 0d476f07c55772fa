/- Plain laws of the stream, and the document's turner. Conditions: none beyond those that each theorem states. -/
import Derived.Test.YtkmiemlpfkfiiaaDoorSt2
import Derived.Test.YtkmiemlpfkfiiaaDoorSt5
namespace Go.Proofs.YtkmiemlpfkfiiaaDoor
open Tryd
section
set_option linter.unusedVariables false
set_option linter.unusedSimpArgs false
def H5 (block : Xg → BitVec 32 → Xg → Xg) (key : Xg) (cr : BitVec 32) (nz l : Xg) (i : Nat) : BitVec 8 :=
 l.getD i 0 ^^^ (block key (cr + BitVec.ofNat 32 (i / 64)) nz).getD (i % 64) 0
def Jy (block : Xg → BitVec 32 → Xg → Xg) (key : Xg) (cr : BitVec 32) (nz l : Xg) : Xg :=
 Y1 (H5 block key cr nz l) 0 l.length l.length
@[simp] theorem Nq (block : Xg → BitVec 32 → Xg → Xg) (key : Xg) (cr : BitVec 32) (nz l : Xg) : (Jy block key cr nz l).length = l.length := by simp [Jy]
def Pv (key : Xg) (cr : BitVec 32) (nz : Xg) (k : Nat) : Xg :=
 if k = 0 then List.replicate 64 0 else Yv key (cr + BitVec.ofNat 32 ((k - 1) / 64)) nz
@[simp] theorem Qrq (key : Xg) (cr : BitVec 32) (nz : Xg) (k : Nat) : (Pv key cr nz k).length = 64 := by unfold Pv; split <;> simp
theorem held_mid {key : Xg} {cr : BitVec 32} {nz : Xg} {k : Nat} (h : ¬ ((k : Int) % 64 = 0)) : Pv key cr nz k = Yv key (cr + BitVec.ofNat 32 (k / 64)) nz := by
 have h1 : ¬ k = 0 := by rintro rfl; simp at h
 have h2 : (k - 1) / 64 = k / 64 := by omega
 rw [Pv, if_neg h1, h2]
theorem Qrp (key : Xg) (cr : BitVec 32) (nz : Xg) (k : Nat) : Pv key cr nz (k + 1) = Yv key (cr + BitVec.ofNat 32 (k / 64)) nz := by
 rw [Pv, if_neg oM, Nat.add_sub_cancel]
theorem Qjn {cr : BitVec 32} {k : Nat} (h : (k : Int) % 64 = 0) : cr + BitVec.ofNat 32 ((k + 63) / 64) = cr + BitVec.ofNat 32 (k / 64) := by
 have : (k + 63) / 64 = k / 64 := by omega
 rw [this]
theorem Qpl {cr : BitVec 32} {k : Nat} : cr + BitVec.ofNat 32 (k / 64) + 1 = cr + BitVec.ofNat 32 ((k + 1 + 63) / 64) := by
 have : (k + 1 + 63) / 64 = k / 64 + 1 := by omega
 rw [this, BitVec.add_assoc]; congr 1; simp [BitVec.ofNat_add]
theorem count_zs {cr : BitVec 32} {k : Nat} (h : (k : Int) % 64 = 0) : cr + BitVec.ofNat 32 ((k + 63) / 64) + 1#32 = cr + BitVec.ofNat 32 ((k + 1 + 63) / 64) := by
 rw [Qjn h]; exact Qpl
theorem Qr4 {cr : BitVec 32} {k : Nat} (h : ¬ ((k : Int) % 64 = 0)) : cr + BitVec.ofNat 32 ((k + 63) / 64) = cr + BitVec.ofNat 32 ((k + 1 + 63) / 64) := by
 have : (k + 63) / 64 = (k + 1 + 63) / 64 := by omega
 rw [this]
theorem Qmu {block : Xg → BitVec 32 → Xg → Xg} {key : Xg} {cr : BitVec 32} {nz l : Xg} {k : Nat} :
  l.getD k 0 ^^^ (block key (cr + BitVec.ofNat 32 (k / 64)) nz).getD ((k : Int) % 64).toNat 0 = H5 block key cr nz l k := by
 have : ((k : Int) % 64).toNat = k % 64 := by omega
 rw [this]; rfl
theorem Qmk (key : Xg) (cr : BitVec 32) (nz : Xg) (v : Value) (l : Xg) (w0 : World)  (hk : key.length = 32) (hn : nz.length = 12) (hr : Rd (Jl w0) u8 v l) (hl : l.length ≤ 281474976710656) : X9 prog 61 #[(agg u8 key), (u32 cr), (agg u8 nz), v] w0 (fun r w1 => ∃ b, r = Wq b 0 (Jy Yv key cr nz l).length (Jy Yv key cr nz l).length ∧ Mem w1 (Qu w0) [(b, .cells (cl u8 (Jy Yv key cr nz l)) 5 (0, 0))]) := by
 refine Zb (args := [(agg u8 key), (u32 cr), (agg u8 nz), v]) func61 rfl ntmps61 results61 rfl ?_
 have m0 : Mem w0 (Qu w0) [] := Mem.of_world w0
 refine sR <| Y9 (Xa (f := u8) (l := key) m0 rfl) fun w1 b4 m1 => Y9 (Xa (f := u8) (l := nz) m1 rfl) fun w2 b6 m2 => Zz Yj ?_
 refine rN (sR ?_)
 refine Zp v <| Qd (Yl (Rd.ofRest hr m2) Zu rfl) <| Y9 (Aw m2 Zu Y0 rfl rfl oM oM oM oM) fun w3 b15 m3 => ?_
 rw [Tv u8 0 rfl] at m3
 have m3 : Mem w3 (Qu w0) [(b15, .cells (cl u8 (List.replicate l.length (0 : BitVec 8))) 5 (0, 0)), (b6, .cells (cl u8 nz) 77 (0, 0)), (b4, .cells (cl u8 key) 23 (0, 0))] := m3
 refine Zz (Wq b15 0 l.length l.length) ?_
 refine rN (sR ?_)
 refine Y9 (Zc m3 Qkl) fun w4 b10 m4 => ?_
 refine rN (Qa (sR ?_))
 refine Zp v <| Qd (Yl (Rd.ofRest hr m4) Zu rfl) <| Zp (i64 0) ?_
 refine rN (Qk ?_)
 refine Y7 (fun g wv => ∃ (k : Nat), (k ≤ l.length) ∧ g 0 = (agg u8 key) ∧ g 1 = (u32 (cr + BitVec.ofNat 32 ((k + 63) / 64))) ∧ g 2 = (agg u8 nz) ∧ g 3 = v ∧ g 4 = (ptr b4 0) ∧ g 6 = (ptr b6 0) ∧ g 8 = Yj ∧ g 9 = (Wq b15 0 l.length l.length) ∧ g 10 = (ptr b10 0) ∧ g 16 = v ∧ g 17 = (i64 (l.length : Int)) ∧ g 18 = (i64 (k : Int)) ∧ Mem wv (Qu w0) [(b10, .cells (cl u8 (Pv key cr nz k)) 139 (0, 0)), (b15, .cells (cl u8 (Y1 (H5 Yv key cr nz l) 0 l.length k)) 5 (0, 0)), (b6, .cells (cl u8 nz) 77 (0, 0)), (b4, .cells (cl u8 key) 23 (0, 0))]) (fun g wv => ((l.length : Int) - RowKit.intOf (g 18)).toNat) ?_ ?_
 ·exact ⟨0, oM, rfl, (Eq.trans (show _ = (u32 cr) from rfl) X7), rfl, rfl, rfl, rfl, rfl, rfl, rfl, rfl, rfl, rfl, (by rw [Em]; exact m4)⟩
 rintro fr5 w6 ⟨k, hk1, s0, s1, s2, s3, s4, s6, s8, s9, s10, s16, s17, s18, m6⟩
 have z18 := s18
 have z1 := s1
 refine sR <| Qd (Z9 s18 s17) ?_
 refine rN (Qa ?_)
 refine Z8 rfl (fun hc7 => ?_) (fun hc7 => ?_)
 ·
  have hc7p := of_decide_eq_true hc7
  refine Qs (Qc (Qa (Qk (sR ?_))))
  refine Ya s18 <| Qd (Zw (Rd.ofRest hr m6) Zu Y0 s16 s18 oM sD) <| Qd (v := (u8 (l.getD k 0))) (X8 (l := l) (i := (k : Int)) (dflt := 0) (Rd.ofRest hr m6) Gl rfl oM sD rfl) <| Zz (i64 (k : Int)) <| Zz (u8 (l.getD k 0)) ?_
  refine rN (Qa (sR ?_))
  refine Zp (i64 (k : Int)) <| Qd (Vf (b := 64) rfl rfl oM oM oM) <| Qd (Fb (b := 0) rfl rfl) <| rN ?_
  refine Bq (J := fun g wv => g 0 = (agg u8 key) ∧ g 1 = (u32 (cr + BitVec.ofNat 32 ((k + 1 + 63) / 64))) ∧ g 2 = (agg u8 nz) ∧ g 3 = v ∧ g 4 = (ptr b4 0) ∧ g 6 = (ptr b6 0) ∧ g 8 = Yj ∧ g 9 = (Wq b15 0 l.length l.length) ∧ g 10 = (ptr b10 0) ∧ g 11 = (i64 (k : Int)) ∧ g 12 = (u8 (l.getD k 0)) ∧ g 16 = v ∧ g 17 = (i64 (l.length : Int)) ∧ g 18 = (i64 (k : Int)) ∧ g 19 = (bl (decide ((k : Int) < (l.length : Int)))) ∧ g 25 = (bl (((k : Int) % 64) == 0)) ∧ Mem wv (Qu w0) [(b10, .cells (cl u8 (Yv key (cr + BitVec.ofNat 32 (k / 64)) nz)) 139 (0, 0)), (b15, .cells (cl u8 (Y1 (H5 Yv key cr nz l) 0 l.length k)) 5 (0, 0)), (b6, .cells (cl u8 nz) 77 (0, 0)), (b4, .cells (cl u8 key) 23 (0, 0))]) ?_ ?_
  ·skip
   refine Z8 rfl (fun hc8 => ?_) (fun hc8 => ?_)
   ·
    have hc8p := eq_of_beq hc8
    refine sR <| Qd (Qp Xq rfl Zl s4 m6.h3 sZ) <| Ya s1 <| Qd (Qp Pj rfl Qa9 s6 m6.h2 sZ) <| U9 m6 (oc89 (D6 rfl rfl rfl) (c_block _ (cr + BitVec.ofNat 32 ((k + 63) / 64)) _ _ sD sD)) fun w9 m9 => Ye m9 (Qj (f := u8) (l := Yv key (cr + BitVec.ofNat 32 ((k + 63) / 64)) nz) Qy Qkl s10 rfl sD m9.h0 sZ rfl) fun w11 m11 => ?_
    refine rN (Qb ?_)
    refine Ya s1 <| Qd (X5 (b := 1#32) rfl rfl) <| Zz (u32 ((cr + BitVec.ofNat 32 ((k + 63) / 64)) + 1#32)) <| rN ?_
    exact ⟨s0, Eq.trans rfl (congrArg u32 (count_zs hc8p)), s2, s3, s4, s6, s8, s9, s10, rfl, rfl, s16, s17, s18, rfl, rfl, (by rw [← Qjn hc8p]; exact m11)⟩
   ·
    have hc8p := ne_of_beq_false hc8
    refine Qs (Qc ?_)
    exact ⟨s0, Eq.trans s1 (congrArg u32 (Qr4 hc8p)), s2, s3, s4, s6, s8, s9, s10, rfl, rfl, s16, s17, s18, rfl, rfl, (by rw [← held_mid hc8p]; exact m6)⟩
  rintro fr12 w13 ⟨s0, s1, s2, s3, s4, s6, s8, s9, s10, s11, s12, s16, s17, s18, s19, s25, m13⟩
  refine Qb <| Ya s9 <| Ya s11 <| Ya s12 <| Ya s11 <| Qd (Vf (b := 64) rfl rfl oM oM oM) <| Qd (Zo (r := ((k : Int) % 64 : Int).toNat) oM uT139 Y0 s10 rfl oM sD) <| Qd (v := (u8 ((Yv key (cr + BitVec.ofNat 32 (k / 64)) nz).getD (((k : Int) % 64 : Int).toNat) 0))) (Ql Gl rfl rfl m13.h0 (Qx _ _ 0 sD)) <| Qd (Pz rfl rfl) <| Qd (Dv (r := k) oM Zu Y0 rfl rfl oM sD) <| Vz m13 (Xz (f := u8) (a := (l.getD k 0) ^^^ ((Yv key (cr + BitVec.ofNat 32 (k / 64)) nz).getD (((k : Int) % 64 : Int).toNat) 0)) Qy Y0 rfl rfl m13.h1 sD (.inl (Nat.zero_le _))) fun w14 m14 => ?_
  refine Zv (Qh (Qb ?_))
  refine Qd (Zg (b := 1) s18 rfl oM oM) <| Zp (i64 ((k : Int) + 1)) <| rN ?_
  exact ⟨⟨k + 1, oM, s0, s1, s2, s3, s4, s6, s8, s9, s10, s16, s17, rfl, (by rw [Qrp, ← Ew (H5 Yv key cr nz l) 0 (n := l.length) (k := k) oM _ Qmu]; exact m14)⟩, Uo rfl z18 oM oM⟩
 ·
  have hc7p := of_decide_eq_false hc7
  obtain rfl : k = l.length := by omega
  refine X6 ?_
  refine Qm (Qm (Xi ?_))
  refine sR <| Ya s9 <| Zz (Wq b15 0 l.length l.length) ?_
  refine rN (Xb ?_)
  refine Qv [(Wq b15 0 l.length l.length)] ⟨rfl, trivial⟩ ?_
  exact ⟨b15, by rw [Nq]; rfl, Mem.weak (H' := [_, _, _]) (Mem.pick [_] [_] _ m6)⟩
end --m
section
set_option linter.unusedVariables false
set_option linter.unusedSimpArgs false
theorem rot16 (x : BitVec 32) : Zd x 16 = Y6 x 16 := rfl
theorem rot12 (x : BitVec 32) : Zd x 12 = Y6 x 12 := rfl
theorem rot8 (x : BitVec 32) : Zd x 8 = Y6 x 8 := rfl
theorem rot7 (x : BitVec 32) : Zd x 7 = Y6 x 7 := rfl
theorem Qnd (r r' : BitVec 32 → Int → BitVec 32) (h16 : ∀ x, r x 16 = r' x 16) (h12 : ∀ x, r x 12 = r' x 12) (h8 : ∀ x, r x 8 = r' x 8) (h7 : ∀ x, r x 7 = r' x 7) (a b c d : BitVec 32) : Wi r a b c d = Wi r' a b c d := by
 simp only [Wi, h16, h12, h8, h7]
theorem Qlw (a b c d : BitVec 32) : Wi Zd a b c d = Wi Y6 a b c d := Qnd _ _ rot16 rot12 rot8 rot7 a b c d
theorem dblR_eq (s : List (BitVec 32)) : Ud s = Qgc (Wi Y6) (Qgc (Wi Y6) (Qgc (Wi Y6) (Qgc (Wi Y6) (Qgc (Wi Y6) (Qgc (Wi Y6) (Qgc (Wi Y6) (Qgc (Wi Y6) s 0 4 8 12) 1 5 9 13) 2 6 10 14) 3 7 11 15) 0 5 10 15) 1 6 11 12) 2 7 8 13) 3 4 9 14 := rfl
theorem dbl_same (s : List (BitVec 32)) : dbl s = Ud s := by
 have hq : ∀ s i0 i1 i2 i3, Au s i0 i1 i2 i3 = Qgc (Wi Y6) s i0 i1 i2 i3 := by
  intro s i0 i1 i2 i3
  unfold Au Qgc
  simp only [Qlw]
 rw [dblR_eq]; unfold dbl
 rw [hq, hq, hq, hq, hq, hq, hq, hq]
theorem Qm6 (k : Nat) (s : List (BitVec 32)) (h : s.length = 16) : Yu dbl k s = Yu Ud k s := by
 induction k with
 | zero => simp only [Yu]
 | succ k ih =>
  simp only [Yu]
  rw [ih, dbl_same]
theorem Qoo (x y : BitVec 32) (n : Nat) (hx : x.toNat < 2 ^ n) (hy : y.toNat * 2 ^ n < 2 ^ 32) : x ||| y <<< n = x + y * BitVec.ofNat 32 (2 ^ n) := by
 apply BitVec.eq_of_toNat_eq
 have e : (y <<< n).toNat = y.toNat <<< n := by
  rw [BitVec.toNat_shiftLeft, Nat.shiftLeft_eq]; exact Nat.mod_eq_of_lt hy
 rw [BitVec.toNat_or, e, Nat.or_comm, ← Nat.shiftLeft_add_eq_or_of_lt hx, Nat.shiftLeft_eq, BitVec.toNat_add, BitVec.toNat_mul, BitVec.toNat_ofNat]
 have h1 : y.toNat * (2 ^ n % 2 ^ 32) % 2 ^ 32 = y.toNat * 2 ^ n := by
  rcases Nat.lt_or_ge n 32 with h | h
  ·rw [Nat.mod_eq_of_lt (Nat.pow_lt_pow_right oM h)]; exact Nat.mod_eq_of_lt hy
  have hy0 : y.toNat = 0 := by
   rcases Nat.eq_zero_or_pos y.toNat with h0 | h0
   ·exact h0
   have : 2 ^ 32 ≤ 2 ^ n := Nat.pow_le_pow_right oM h
   have : 1 * 2 ^ n ≤ y.toNat * 2 ^ n := Nat.mul_le_mul_right _ h0
   omega
  simp [hy0]
 rw [h1]
 have h2 : x.toNat + y.toNat * 2 ^ n < 2 ^ 32 := by
  rcases Nat.lt_or_ge n 32 with h | h
  ·have hp : 2 ^ n * 2 ^ (32 - n) = 2 ^ 32 := by rw [← Nat.pow_add]; congr 1; omega
   have hlt : y.toNat < 2 ^ (32 - n) := by
    rcases Nat.lt_or_ge y.toNat (2 ^ (32 - n)) with h3 | h3
    ·exact h3
    have : 2 ^ (32 - n) * 2 ^ n ≤ y.toNat * 2 ^ n := Nat.mul_le_mul_right _ h3
    rw [Nat.mul_comm, hp] at this; omega
   have : (y.toNat + 1) * 2 ^ n ≤ 2 ^ (32 - n) * 2 ^ n := Nat.mul_le_mul_right _ hlt
   rw [Nat.mul_comm (2 ^ (32 - n)), hp, Nat.add_mul] at this
   omega
  have hy0 : y.toNat = 0 := by
   rcases Nat.eq_zero_or_pos y.toNat with h0 | h0
   ·exact h0
   have : 2 ^ 32 ≤ 2 ^ n := Nat.pow_le_pow_right oM h
   have : 1 * 2 ^ n ≤ y.toNat * 2 ^ n := Nat.mul_le_mul_right _ h0
   omega
  have := x.isLt; simp only [hy0, Nat.zero_mul, Nat.add_zero]; exact this
 omega
theorem Qq5 (a b c d : BitVec 8) : wordP a b c d = wordR a b c d := by
 have ha := a.isLt; have hb := b.isLt; have hc := c.isLt; have hd := d.isLt
 have e8 : ∀ x : BitVec 8, (x.setWidth 32).toNat = x.toNat := fun x => by rw [BitVec.toNat_setWidth]; exact Nat.mod_eq_of_lt (by have := x.isLt; omega)
 unfold wordP wordR
 have h0 : 0#32 ||| a.setWidth 32 <<< 0 = a.setWidth 32 := by simp
 rw [h0, Qoo _ _ 8 (by rw [e8]; omega) (by rw [e8]; omega)]
 have t1 : (a.setWidth 32 + b.setWidth 32 * BitVec.ofNat 32 (2 ^ 8)).toNat = a.toNat + b.toNat * 256 := by
  rw [BitVec.toNat_add, BitVec.toNat_mul, e8, e8]; simp; omega
 rw [Qoo _ _ 16 (by rw [t1]; omega) (by rw [e8]; omega)]
 have t2 : (a.setWidth 32 + b.setWidth 32 * BitVec.ofNat 32 (2 ^ 8) + c.setWidth 32 * BitVec.ofNat 32 (2 ^ 16)).toNat = a.toNat + b.toNat * 256 + c.toNat * 65536 := by
  rw [BitVec.toNat_add, t1, BitVec.toNat_mul, e8]; simp; omega
 rw [Qoo _ _ 24 (by rw [t2]; omega) (by rw [e8]; omega)]
 rfl
theorem Uz (l : Xg) (i n : Nat) (hn : 4 ≤ n) : Xd (U2 l i n) = Yq (U2 l i 4) := by
 unfold Xd Yq U2
 rw [Qq5]
 have e : ∀ j, j < 4 → ((l.drop i).take n).getD j 0 = ((l.drop i).take 4).getD j 0 := by
  intro j hj
  simp only [List.getD_eq_getElem?_getD, List.getElem?_take]
  rw [if_pos oM, if_pos hj]
 rw [e 0 oM, e 1 oM, e 2 oM, e 3 oM]
theorem Qp0 (key : Xg) (cr : BitVec 32) (nz : Xg) : Vj Xd key cr nz = Y5 Yq key cr nz := by
 have ek : Xd key = Yq (U2 key 0 4) := by
  have := Uz key 0 (key.length + 4) oM
  have e : U2 key 0 (key.length + 4) = key := by unfold U2; rw [List.drop_zero, List.take_of_length_le oM]
  rwa [e] at this
 have en : Xd nz = Yq (U2 nz 0 4) := by
  have := Uz nz 0 (nz.length + 4) oM
  have e : U2 nz 0 (nz.length + 4) = nz := by unfold U2; rw [List.drop_zero, List.take_of_length_le oM]
  rwa [e] at this
 unfold Vj Y5
 rw [ek, en, Uz key 4 28 oM, Uz key 8 24 oM, Uz key 12 20 oM, Uz key 16 16 oM, Uz key 20 12 oM, Uz key 24 8 oM,
  Uz nz 4 8 oM, Uz key 28 4 oM, Uz nz 8 4 oM]
theorem Qj0 (v s : List (BitVec 32)) : ∀ (k i : Nat), i < 4 * k → ((List.range k).flatMap (C9 v s)).getD i 0 = P8 v s i := by
 intro k
 induction k with
 | zero => intro i h; omega
 | succ k ih =>
  intro i h
  rw [Qcw]
  have hl := Am v s k
  simp only [List.getD_eq_getElem?_getD, List.getElem?_append, hl] at ih ⊢
  by_cases hi : i < 4 * k
  ·rw [if_pos hi]; exact ih i hi
  rw [if_neg hi]
  have hq : ((i : Int) / 4).toNat = k := by omega
  have hr : (8 * ((i : Int) % 4)).toNat = 8 * (i - 4 * k) := by omega
  unfold P8 C9
  rw [hq, hr]
  have : i - 4 * k = 0 ∨ i - 4 * k = 1 ∨ i - 4 * k = 2 ∨ i - 4 * k = 3 := by omega
  rcases this with h | h | h | h <;> simp [h]
theorem Qpz (key : Xg) (cr : BitVec 32) (nz : Xg) : Yv key cr nz = F7 key cr nz := by
 unfold Yv F7
 rw [Ag, Qp0, Qm6 _ _ (Qke _ _ _ _)]
 refine List.ext_getElem (by rw [Am]; simp) fun i h1 h2 => ?_
 simp only [List.length_map, List.length_range] at h1
 have := Qj0 (Yu Ud 10 (Y5 Yq key cr nz)) (Y5 Yq key cr nz) 16 i oM
 rw [List.getD_eq_getElem?_getD, List.getElem?_eq_getElem h2, Option.getD_some] at this
 rw [this]; simp
theorem Qq7 (key : Xg) (cr : BitVec 32) (nz l : Xg) : Jy Yv key cr nz l = Jy F7 key cr nz l := by
 have : Yv = F7 := by funext a b c; exact Qpz a b c
 rw [this]
theorem Qq8 (block : Xg → BitVec 32 → Xg → Xg) (key : Xg) (cr : BitVec 32) (nz l : Xg) : Jy block key cr nz l = (List.range l.length).map (H5 block key cr nz l) := by
 unfold Jy; rw [Ag]
theorem turnR_at {key : Xg} {cr : BitVec 32} {nz l : Xg} {m i : Nat} (h0 : 64 * m ≤ i) (h1 : i < 64 * m + 64) :
  l.getD i 0 ^^^ (F7 key (cr + BitVec.ofInt 32 (((64 * m : Nat) : Int) / 64)) nz).getD ((i : Int) - ((64 * m : Nat) : Int)).toNat 0 = H5 F7 key cr nz l i := by
 have e1 : ((64 * m : Nat) : Int) / 64 = ((m : Nat) : Int) := by omega
 have e2 : ((i : Int) - ((64 * m : Nat) : Int)).toNat = i % 64 := by omega
 have e3 : i / 64 = m := by omega
 rw [e1, e2]
 unfold H5
 rw [e3]; congr 4
theorem Qem {α : Type} (g : Nat → α) (k : Nat) (x : α) (h : x = g k) : (List.range k).map g ++ [x] = (List.range (k + 1)).map g := by
 rw [List.range_succ, List.map_append, h]; rfl
set_option maxHeartbeats 1000000 in
theorem Qqr (key : Xg) (cr : BitVec 32) (nz : Xg) (v : Value) (l : Xg) (w0 : World)  (hk : key.length = 32) (hn : nz.length = 12) (hr : Rd (Jl w0) u8 v l) (hl : l.length ≤ 1000000) : X9 prog 71 #[(agg u8 key), (u32 cr), (agg u8 nz), v] w0 (fun r w1 => ∃ Hs, Xe u8 5 r (Jy F7 key cr nz l) Hs ∧ Mem w1 (Qu w0) Hs) := by
 refine Zb (args := [(agg u8 key), (u32 cr), (agg u8 nz), v]) func71 rfl ntmps71 results71 rfl ?_
 have m0 : Mem w0 (Qu w0) [] := Mem.of_world w0
 refine sR <| Y9 (Xa (f := u8) (l := key) m0 rfl) fun w1 b4 m1 => Y9 (Xa (f := u8) (l := nz) m1 rfl) fun w2 b6 m2 => Zz Yj ?_
 refine rN (sR ?_)
 refine Y9 (Qw u8 [] Qy m2 Zu Y0 rfl (by simp [Ac]) rfl) fun w3 b13 m3 => Zz (Wq b13 0 0 0) ?_
 refine rN (Qa (sR ?_))
 refine Zz (i64 0) ?_
 refine rN (Qk ?_)
 refine Y7 (fun g wv => ∃ (m : Nat) (ol : Xg) (so : Value) (Ho : List (Nat × Obj)), (64 * m ≤ l.length + 63) ∧ (ol = (List.range (min (64 * m) l.length)).map (H5 F7 key cr nz l)) ∧ (Xe u8 5 so ol Ho) ∧ g 0 = (agg u8 key) ∧ g 1 = (u32 cr) ∧ g 2 = (agg u8 nz) ∧ g 3 = v ∧ g 4 = (ptr b4 0) ∧ g 6 = (ptr b6 0) ∧ g 8 = Yj ∧ g 9 = so ∧ g 10 = (i64 ((64 * m : Nat) : Int)) ∧ Mem wv (Qu w0) (Ho ++ ([(b6, .cells (cl u8 nz) 77 (0, 0)), (b4, .cells (cl u8 key) 23 (0, 0))]))) (fun g wv => ((l.length : Int) - RowKit.intOf (g 10)).toNat) ?_ ?_
 ·exact ⟨0, [], (Wq b13 0 0 0), [(b13, .cells (cl u8 ([])) 5 (0, 0))], oM, X7, (Xe.of u8 5 b13 ([])), rfl, rfl, rfl, rfl, rfl, rfl, rfl, rfl, rfl, m3⟩
 rintro fr4 w5 ⟨m, ol, so, Ho, m1, hol, gro, s0, s1, s2, s3, s4, s6, s8, s9, s10, m5⟩
 have z10 := s10
 have z9 := s9
 refine Qa (sR ?_)
 refine Ya s10 <| Ya s3 <| Qd (Yl (Rd.ofRest hr m5) Zu rfl) <| Qd (Z9 rfl rfl) <| rN ?_
 refine Z8 rfl (fun hc6 => ?_) (fun hc6 => ?_)
 ·
  have hc6p := of_decide_eq_true hc6
  refine Qs (Qc (Qa (Qk (sR ?_))))
  refine Qd (Qp Xq rfl Zl s4 ((Mem.pick2 Ho [_] [_] _ m5)).h0 sZ) <| Ya s1 <| Ya s10 <| Qd (Uu (b := 64) rfl rfl oM oM oM) <| Qd (Qhx ⟨_, Fj⟩ Xx rfl) <| Qd (X5 rfl rfl) <| Qd (Qp Pj rfl Qa9 s6 ((Mem.pick Ho [_] _ m5)).h0 sZ) <| Vy (oc94 (D6 rfl rfl rfl) (c_block3 _ (cr + (BitVec.ofInt 32 (((64 * m : Nat) : Int) / 64))) _ _ sD sD)) ?_
  rintro rq8 w7 ⟨Hsq8, grq8, k_w7⟩
  have m7 : Mem _ _ (Hsq8 ++ (Ho ++ ([_, _]))) := Mem.new (H := Ho ++ ([_, _])) (H' := Hsq8) m5 k_w7
  refine Zz rq8 ?_
  refine rN (sR ?_)
  refine Ya s10 <| Zz (i64 ((64 * m : Nat) : Int)) ?_
  refine rN (V5 ?_)
  refine Y7 (fun g wv => ∃ (i : Nat) (ol2 : Xg) (so2 : Value) (Ho2 : List (Nat × Obj)), (64 * m ≤ i ∧ i ≤ 64 * m + 64 ∧ i ≤ l.length) ∧ (ol2 = (List.range i).map (H5 F7 key cr nz l)) ∧ (Xe u8 5 so2 ol2 Ho2) ∧ g 0 = (agg u8 key) ∧ g 1 = (u32 cr) ∧ g 2 = (agg u8 nz) ∧ g 3 = v ∧ g 4 = (ptr b4 0) ∧ g 6 = (ptr b6 0) ∧ g 8 = Yj ∧ g 9 = so2 ∧ g 10 = (i64 ((64 * m : Nat) : Int)) ∧ g 11 = rq8 ∧ g 12 = (i64 (i : Int)) ∧ g 17 = (bl (decide (((64 * m : Nat) : Int) < (l.length : Int)))) ∧ Mem wv (Qu w0) (Ho2 ++ (Hsq8 ++ ([(b6, .cells (cl u8 nz) 77 (0, 0)), (b4, .cells (cl u8 key) 23 (0, 0))])))) (fun g wv => ((l.length : Int) - RowKit.intOf (g 12)).toNat) ?_ ?_
  have m9 := (Mem.pick3 Hsq8 Ho [_] [_] _ m7)
  have m10 := (Mem.pick3 [_] Hsq8 Ho [_] _ m9)
  have m11 := (Mem.pick [_, _] Hsq8 _ m10)
  have m12 := (Mem.pick2 Hsq8 [_, _] Ho _ m11)
  ·exact ⟨64 * m, ol, so, Ho, oM, (by rw [hol, Nat.min_eq_left oM]), gro, s0, s1, s2, s3, s4, s6, s8, s9, s10, rfl, rfl, rfl, m12⟩
  rintro fr13 w14 ⟨i, ol2, so2, Ho2, hi1, hol2, gro2, s0, s1, s2, s3, s4, s6, s8, s9, s10, s11, s12, s17, m14⟩
  have z12 := s12
  have z9 := s9
  have hol2l : ol2.length = i := by rw [hol2]; simp
  refine Qa (sR ?_)
  refine Ya s12 <| Ya s10 <| Qd (Zg (b := 64) rfl rfl oM oM) <| Qd (Z9 rfl rfl) <| Zp (bl (decide ((i : Int) < (((64 * m : Nat) : Int) + 64)))) ?_
  rcases Bool.eq_false_or_eq_true (decide ((i : Int) < (((64 * m : Nat) : Int) + 64))) with hb15 | hb15
  ·
   have hb15p := of_decide_eq_true hb15
   refine Z5 (s := 33) rfl rfl hb15 rfl (Yp s12) <| Z5 (s := 33) rfl rfl hb15 rfl (Yp s3) <| Z5 (s := 33) rfl rfl hb15 rfl (Yl (Rd.ofRest hr m14) Zu rfl) <| Z5 (s := 33) rfl rfl hb15 rfl (Z9 rfl rfl) <| Qd (Vm rfl hb15 rfl) <| rN ?_
   refine Z8 rfl (fun hc16 => ?_) (fun hc16 => ?_)
   ·
    have hc16p := of_decide_eq_true hc16
    refine Qs (Qc (Qa (Qk ?_)))
    refine Xl [(0, false), (1, false), (2, false), (3, false), (4, false), (5, false), (6, false), (7, false), (8, false), (9, false), (10, false), (11, false), (12, true)] 13 Xw <| Um rfl s9 <| Um rfl s3 <| Um rfl s12 <| Yn rfl (fun _ e' => Zw (Rd.ofRest hr (m14.ext e')) Zu Y0 rfl rfl oM sD) <| Yn (v := (u8 (l.getD i 0))) rfl (fun _ e' => X8 (l := l) (i := (i : Int)) (dflt := 0) (Rd.ofRest hr (m14.ext e')) Gl rfl oM sD rfl) <| Um rfl s11 <| Um rfl s12 <| Um rfl s10 <| Yb rfl (Yk rfl rfl oM oM) <| Yn rfl (fun _ e' => Zw (grq8.rd (Mem.pick Ho2 Hsq8 _ (m14.ext e'))) Zu Y0 rfl rfl oM sD) <| Yn (v := (u8 ((F7 key (cr + (BitVec.ofInt 32 (((64 * m : Nat) : Int) / 64))) nz).getD (((i : Int) - ((64 * m : Nat) : Int) : Int).toNat) 0))) rfl (fun _ e' => X8 (l := F7 key (cr + (BitVec.ofInt 32 (((64 * m : Nat) : Int) / 64))) nz) (i := (i : Int) - ((64 * m : Nat) : Int)) (dflt := 0) (grq8.rd (Mem.pick Ho2 Hsq8 _ (m14.ext e'))) Gl rfl oM sD rfl) ?_
    refine Yb rfl (Pz rfl rfl) ?_
    refine Cj rfl rfl (fun w17 e17 => ?_)
    have m17 := m14.ext e17
    refine Vp.mono (Qw u8 [(l.getD i 0) ^^^ ((F7 key (cr + (BitVec.ofInt 32 (((64 * m : Nat) : Int) / 64))) nz).getD (((i : Int) - ((64 * m : Nat) : Int) : Int).toNat) 0)] Qy m17 Zu Y0 rfl rfl rfl) ?_
    rintro _ w18 ⟨b53, rfl, e18, m18⟩
    refine ⟨e18, ?_⟩
    refine Gs m18 fun w19 m19 => Vy (Xp (f := u8) (Hs := Ho2) (H := [_] ++ (Hsq8 ++ ([_, _]))) (Mem.pick [_] Ho2 _ m19) gro2 rfl rfl (Rd.mkA m19.h0) Zu Zu Y0 rfl Qy sD sD) ?_
    rintro sv20 w20 ⟨Hs20, m20, g20⟩
    replace g20 : Xe u8 5 sv20 (ol2 ++ ([(l.getD i 0) ^^^ ((F7 key (cr + (BitVec.ofInt 32 (((64 * m : Nat) : Int) / 64))) nz).getD (((i : Int) - ((64 * m : Nat) : Int) : Int).toNat) 0)])) Hs20 := g20
    refine Zz sv20 ?_
    refine Zv (Qh ?_)
    have m21 := Mem.drop [_] _ (Mem.pick Hs20 [_] _ m20)
    refine Qb <| Ya s12 <| Qd (Zg (b := 1) rfl rfl oM oM) <| Zz (i64 ((i : Int) + 1)) <| rN ?_
    exact ⟨⟨i + 1, ol2 ++ ([(l.getD i 0) ^^^ ((F7 key (cr + (BitVec.ofInt 32 (((64 * m : Nat) : Int) / 64))) nz).getD (((i : Int) - ((64 * m : Nat) : Int) : Int).toNat) 0)]), sv20, Hs20, oM, (by rw [hol2]; exact Qem _ _ _ (turnR_at oM oM)), g20, s0, s1, s2, s3, s4, s6, s8, rfl, s10, s11, rfl, s17, m21⟩, Uo rfl z12 oM oM⟩
   ·
    have hc16p := of_decide_eq_false hc16
    refine X6 ?_
    refine Qm (Qm (Xi ?_))
    refine Qh (Qb ?_)
    refine Ya s10 <| Qd (Zg (b := 64) rfl rfl oM oM) <| Zz (i64 (((64 * m : Nat) : Int) + 64)) <| rN ?_
    have hmin : i = min (64 * (m + 1)) l.length := by omega
    have hol3 := hol2
    rw [hmin] at hol3
    have m22 := Mem.drop Hsq8 _ (Mem.pick Ho2 Hsq8 _ m14)
    exact ⟨⟨m + 1, ol2, so2, Ho2, oM, hol3, gro2, s0, s1, s2, s3, s4, s6, s8, s9, (by show i64 _ = i64 _; congr 1), m22⟩, Uo (by show i64 _ = i64 _; congr 1) z10 (a' := ((64 * (m + 1) : Nat) : Int)) oM oM⟩
  ·
   have hb15p := of_decide_eq_false hb15
   refine W9 (s := 33) rfl rfl hb15 rfl <| W9 (s := 33) rfl rfl hb15 rfl <| W9 (s := 33) rfl rfl hb15 rfl <| W9 (s := 33) rfl rfl hb15 rfl <| Qd (Y4 rfl hb15 rfl) <| rN <| Yy rfl Jg <| X6 ?_
   refine Qm (Qm (Xi ?_))
   refine Qh (Qb ?_)
   refine Ya s10 <| Qd (Zg (b := 64) rfl rfl oM oM) <| Zz (i64 (((64 * m : Nat) : Int) + 64)) <| rN ?_
   have hmin : i = min (64 * (m + 1)) l.length := by omega
   have hol3 := hol2
   rw [hmin] at hol3
   have m23 := Mem.drop Hsq8 _ (Mem.pick Ho2 Hsq8 _ m14)
   exact ⟨⟨m + 1, ol2, so2, Ho2, oM, hol3, gro2, s0, s1, s2, s3, s4, s6, s8, s9, (by show i64 _ = i64 _; congr 1), m23⟩, Uo (by show i64 _ = i64 _; congr 1) z10 (a' := ((64 * (m + 1) : Nat) : Int)) oM oM⟩
 ·
  have hc6p := of_decide_eq_false hc6
  refine X6 ?_
  refine Qm (Qm (Xi ?_))
  refine sR <| Ya s9 <| Zz so ?_
  refine rN (Xb ?_)
  refine Qv [so] ⟨rfl, trivial⟩ ?_
  have hfin : ol = Jy F7 key cr nz l := by rw [hol, Qq8, Nat.min_eq_right oM]
  have m24 := Mem.drop [_] _ (Mem.pick Ho [_] _ m5)
  have m25 := Mem.drop [_] _ (Mem.pick Ho [_] _ m24)
  exact ⟨Ho, hfin ▸ gro, by simpa using m25⟩
end --m
end Go.Proofs.YtkmiemlpfkfiiaaDoor
