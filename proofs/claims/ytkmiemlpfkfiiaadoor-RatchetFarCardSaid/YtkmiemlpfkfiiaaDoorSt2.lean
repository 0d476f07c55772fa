/- Contracts: stream, second part. Conditions: none beyond those that each theorem states. -/
import Derived.Test.YtkmiemlpfkfiiaaDoorSt1
namespace Go.Proofs.YtkmiemlpfkfiiaaDoor
open Tryd
set_option linter.unusedVariables false
set_option linter.unusedSimpArgs false
def Gm (key : Zj) (i n : Nat) : Zj := (key.drop i).take n
def Y9 (word : Zj → BitVec 32) (key : Zj) (cr : BitVec 32) (nz : Zj) : List (BitVec 32) :=
  [1634760805#32, 857760878#32, 2036477234#32, 1797285236#32, word key, word (Gm key 4 28), word (Gm key 8 24), word (Gm key 12 20),
   word (Gm key 16 16), word (Gm key 20 12), word (Gm key 24 8), word (Gm key 28 4), cr, word nz, word (Gm nz 4 8), word (Gm nz 8 4)]
@[simp] theorem beginP_length (word : Zj → BitVec 32) (key : Zj) (cr : BitVec 32) (nz : Zj) : (Y9 word key cr nz).length = 16 := rfl
attribute [simp] Qk4
def dbl (s : List (BitVec 32)) : List (BitVec 32) :=
 Fe (Fe (Fe (Fe (Fe (Fe (Fe (Fe s 0 4 8 12) 1 5 9 13) 2 6 10 14) 3 7 11 15) 0 5 10 15) 1 6 11 12) 2 7 8 13) 3 4 9 14
def Jr (f : List (BitVec 32) → List (BitVec 32)) : Nat → List (BitVec 32) → List (BitVec 32)
 | 0, s => s
 | k + 1, s => f (Jr f k s)
@[simp] theorem dbl_length (s : List (BitVec 32)) : (dbl s).length = s.length := by simp [dbl]
@[simp] theorem Qmc (k : Nat) (s : List (BitVec 32)) : (Jr dbl k s).length = s.length := by
 induction k with
 | zero => rfl
 | succ k ih => simp [Jr, ih]
def Bc (s f : List (BitVec 32)) (i : Nat) : BitVec 8 :=
 ((s.getD ((i : Int) / 4).toNat 0 + f.getD ((i : Int) / 4).toNat 0) >>> (8 * ((i : Int) % 4)).toNat).setWidth 8
def Z4 (key : Zj) (cr : BitVec 32) (nz : Zj) : Zj :=
 Wy (Bc (Jr dbl 10 (Y9 Za key cr nz)) (Y9 Za key cr nz)) 0 64 64
@[simp] theorem blockP_length (key : Zj) (cr : BitVec 32) (nz : Zj) : (Z4 key cr nz).length = 64 := by
 unfold Z4; rw [Bl _ _ _ _ oM]
@[simp] theorem filled_length' {α : Type} (g : Nat → α) (z : α) (n k : Nat) : (Wy g z n k).length = k + (n - k) := by simp [Wy]
theorem c_begin (key : Zj) (cr : BitVec 32) (nz : Zj) (w0 : World)  (hk : key.length = 32) (hn : nz.length = 12) : Xm prog 103 #[(agg u8 key), (u32 cr), (agg u8 nz)] w0 (fun r w1 => r = (agg u32 (Y9 Za key cr nz)) ∧ Ext w0 w1) := by
 refine Qy (args := [(agg u8 key), (u32 cr), (agg u8 nz)]) func103 rfl ntmps103 results103 rfl ?_
 have m0 : Mem w0 (Qu w0) [] := Mem.of_world w0
 refine sR <| Y5 (Zw (f := u8) (l := key) m0 rfl) fun w1 b3 m1 => Y5 (Zw (f := u8) (l := nz) m1 rfl) fun w2 b5 m2 => Y5 (Zf m2 Qb5) fun w3 b6 m3 => ?_
 refine rN (sR ?_)
 refine Qd (Z7 (i := 0) (j := 16) Ue Zn rfl (Zc _ _) (Zc _ _) oM sD sD) <| Y5 (Zr u32 [1634760805#32, 857760878#32, 2036477234#32, 1797285236#32] Xa m3 uT163 Zn rfl rfl rfl) fun w4 b10 m4 => G5 (Qbo (f := u32) (Eq.trans rfl (Qjk Yh)) rfl (Rd.mkA m4.h0) uT163 Zn Xa m4.h1 sD sD (Nat.le_refl _)) ?_
 rintro _ w5 ⟨rfl, uq5⟩
 have m5 : Mem w5 (Qu w0) [(b10, .cells (cl u32 ([1634760805#32, 857760878#32, 2036477234#32, 1797285236#32])) 106 (0, 0)), (b6, .cells (cl u32 ([1634760805#32, 857760878#32, 2036477234#32, 1797285236#32, 0, 0, 0, 0, 0, 0, 0, 0, 0, 0, 0, 0])) 156 (0, 0)), (b5, .cells (cl u8 nz) 77 (0, 0)), (b3, .cells (cl u8 key) 23 (0, 0))] := m4.upd1 uq5
 refine rN (Qc (sR ?_))
 refine Zb (i64 0) ?_
 refine rN (Qj ?_)
 refine Wu 9 ?_
 refine Zh (sR ?_)
 refine Qd (X5 0 8) ?_
 refine rN (Qc ?_)
 refine Qx rfl Yh ?_
 refine Qo (Qa (Qc (Qj (sR ?_))))
 refine Zb (i64 0) <| Zv (i64 0) ?_
 refine rN (Qb ?_)
 refine Zb (i64 0) <| Qd (v := (i64 4)) (Xd 4 0) <| Zb (i64 0) <| Qd (v := (i64 0)) (Vy 4 0) <| Qd (Z7 (i := 0) (j := 32) Xf Yw rfl (Xv (k := .i64) (i := 0) rfl) (Zc _ _) oM sD sD) <| Dx m5 (Tq (Jb rfl) (Lt (sla b3 0 1 0 32 32) key _ (Rd.slaAll m5.h3 sD) sD)) fun w6 m6 => Qd (Xe 4 4 Ue Zn rfl) <| Vq m6 (Q8 (f := u32) (l' := [1634760805#32, 857760878#32, 2036477234#32, 1797285236#32, Za key, 0, 0, 0, 0, 0, 0, 0, 0, 0, 0, 0]) rfl Xa Zn rfl rfl m6.h1 Xk (.inl (Nat.zero_le _))) fun w8 m8 => ?_
 refine Zo (Qh ?_)
 have m9 := Mem.drop [_] _ m8
 refine Qb <| Qd (v := (i64 1)) (Xd 0 1) <| Zb (i64 1) ?_
 refine rN (Zh (sR ?_))
 refine Qd (X5 1 8) ?_
 refine rN (Qc ?_)
 refine Qx rfl Yh ?_
 refine Qo (Qa (Qc (Qj (sR ?_))))
 refine Zb (i64 1) <| Zv (i64 1) ?_
 refine rN (Qb ?_)
 refine Zb (i64 1) <| Qd (v := (i64 5)) (Xd 4 1) <| Zb (i64 1) <| Qd (v := (i64 4)) (Vy 4 1) <| Qd (Z7 (i := 4) (j := 32) Xf Yw rfl (Xv (k := .i64) (i := 4) rfl) (Zc _ _) oM sD sD) <| Dx m9 (Tq (Jb rfl) (Lt (sla b3 0 1 4 32 32) ((key.drop 4).take 28) _ (Rd.cast (l' := (key.drop 4).take 28) (Rd.sla m9.h2 sD oM sD sD) rfl) sD)) fun w10 m10 => Qd (Xe 5 5 Ue Zn rfl) <| Yb m10 (Q8 (f := u32) (l' := [1634760805#32, 857760878#32, 2036477234#32, 1797285236#32, Za key, Za ((key.drop 4).take 28), 0, 0, 0, 0, 0, 0, 0, 0, 0, 0]) rfl Xa Zn rfl rfl m10.h0 Xk (.inl (Nat.zero_le _))) fun w12 m12 => ?_
 refine Zo (Qh (Qb ?_))
 refine Qd (v := (i64 2)) (Xd 1 1) <| Zb (i64 2) ?_
 refine rN (Zh (sR ?_))
 refine Qd (X5 2 8) ?_
 refine rN (Qc ?_)
 refine Qx rfl Yh ?_
 refine Qo (Qa (Qc (Qj (sR ?_))))
 refine Zb (i64 2) <| Zv (i64 2) ?_
 refine rN (Qb ?_)
 refine Zb (i64 2) <| Qd (v := (i64 6)) (Xd 4 2) <| Zb (i64 2) <| Qd (v := (i64 8)) (Vy 4 2) <| Qd (Z7 (i := 8) (j := 32) Xf Yw rfl (Xv (k := .i64) (i := 8) rfl) (Zc _ _) oM sD sD) <| Dx m12 (Tq (Jb rfl) (Lt (sla b3 0 1 8 32 32) ((key.drop 8).take 24) _ (Rd.cast (l' := (key.drop 8).take 24) (Rd.sla m12.h2 sD oM sD sD) rfl) sD)) fun w13 m13 => Qd (Xe 6 6 Ue Zn rfl) <| Yb m13 (Q8 (f := u32) (l' := [1634760805#32, 857760878#32, 2036477234#32, 1797285236#32, Za key, Za ((key.drop 4).take 28), Za ((key.drop 8).take 24), 0, 0, 0, 0, 0, 0, 0, 0, 0]) rfl Xa Zn rfl rfl m13.h0 Xk (.inl (Nat.zero_le _))) fun w15 m15 => ?_
 refine Zo (Qh (Qb ?_))
 refine Qd (v := (i64 3)) (Xd 2 1) <| Zb (i64 3) ?_
 refine rN (Zh (sR ?_))
 refine Qd (X5 3 8) ?_
 refine rN (Qc ?_)
 refine Qx rfl Yh ?_
 refine Qo (Qa (Qc (Qj (sR ?_))))
 refine Zb (i64 3) <| Zv (i64 3) ?_
 refine rN (Qb ?_)
 refine Zb (i64 3) <| Qd (v := (i64 7)) (Xd 4 3) <| Zb (i64 3) <| Qd (v := (i64 12)) (Vy 4 3) <| Qd (Z7 (i := 12) (j := 32) Xf Yw rfl (Xv (k := .i64) (i := 12) rfl) (Zc _ _) oM sD sD) <| Dx m15 (Tq (Jb rfl) (Lt (sla b3 0 1 12 32 32) ((key.drop 12).take 20) _ (Rd.cast (l' := (key.drop 12).take 20) (Rd.sla m15.h2 sD oM sD sD) rfl) sD)) fun w16 m16 => Qd (Xe 7 7 Ue Zn rfl) <| Yb m16 (Q8 (f := u32) (l' := [1634760805#32, 857760878#32, 2036477234#32, 1797285236#32, Za key, Za ((key.drop 4).take 28), Za ((key.drop 8).take 24), Za ((key.drop 12).take 20), 0, 0, 0, 0, 0, 0, 0, 0]) rfl Xa Zn rfl rfl m16.h0 Xk (.inl (Nat.zero_le _))) fun w18 m18 => ?_
 refine Zo (Qh (Qb ?_))
 refine Qd (v := (i64 4)) (Xd 3 1) <| Zb (i64 4) ?_
 refine rN (Zh (sR ?_))
 refine Qd (X5 4 8) ?_
 refine rN (Qc ?_)
 refine Qx rfl Yh ?_
 refine Qo (Qa (Qc (Qj (sR ?_))))
 refine Zb (i64 4) <| Zv (i64 4) ?_
 refine rN (Qb ?_)
 refine Zb (i64 4) <| Qd (v := (i64 8)) (Xd 4 4) <| Zb (i64 4) <| Qd (v := (i64 16)) (Vy 4 4) <| Qd (Z7 (i := 16) (j := 32) Xf Yw rfl (Xv (k := .i64) (i := 16) rfl) (Zc _ _) oM sD sD) <| Dx m18 (Tq (Jb rfl) (Lt (sla b3 0 1 16 32 32) ((key.drop 16).take 16) _ (Rd.cast (l' := (key.drop 16).take 16) (Rd.sla m18.h2 sD oM sD sD) rfl) sD)) fun w19 m19 => Qd (Xe 8 8 Ue Zn rfl) <| Yb m19 (Q8 (f := u32) (l' := [1634760805#32, 857760878#32, 2036477234#32, 1797285236#32, Za key, Za ((key.drop 4).take 28), Za ((key.drop 8).take 24), Za ((key.drop 12).take 20), Za ((key.drop 16).take 16), 0, 0, 0, 0, 0, 0, 0]) rfl Xa Zn rfl rfl m19.h0 Xk (.inl (Nat.zero_le _))) fun w21 m21 => ?_
 refine Zo (Qh (Qb ?_))
 refine Qd (v := (i64 5)) (Xd 4 1) <| Zb (i64 5) ?_
 refine rN (Zh (sR ?_))
 refine Qd (X5 5 8) ?_
 refine rN (Qc ?_)
 refine Qx rfl Yh ?_
 refine Qo (Qa (Qc (Qj (sR ?_))))
 refine Zb (i64 5) <| Zv (i64 5) ?_
 refine rN (Qb ?_)
 refine Zb (i64 5) <| Qd (v := (i64 9)) (Xd 4 5) <| Zb (i64 5) <| Qd (v := (i64 20)) (Vy 4 5) <| Qd (Z7 (i := 20) (j := 32) Xf Yw rfl (Xv (k := .i64) (i := 20) rfl) (Zc _ _) oM sD sD) <| Dx m21 (Tq (Jb rfl) (Lt (sla b3 0 1 20 32 32) ((key.drop 20).take 12) _ (Rd.cast (l' := (key.drop 20).take 12) (Rd.sla m21.h2 sD oM sD sD) rfl) sD)) fun w22 m22 => Qd (Xe 9 9 Ue Zn rfl) <| Yb m22 (Q8 (f := u32) (l' := [1634760805#32, 857760878#32, 2036477234#32, 1797285236#32, Za key, Za ((key.drop 4).take 28), Za ((key.drop 8).take 24), Za ((key.drop 12).take 20), Za ((key.drop 16).take 16), Za ((key.drop 20).take 12), 0, 0, 0, 0, 0, 0]) rfl Xa Zn rfl rfl m22.h0 Xk (.inl (Nat.zero_le _))) fun w24 m24 => ?_
 refine Zo (Qh (Qb ?_))
 refine Qd (v := (i64 6)) (Xd 5 1) <| Zb (i64 6) ?_
 refine rN (Zh (sR ?_))
 refine Qd (X5 6 8) ?_
 refine rN (Qc ?_)
 refine Qx rfl Yh ?_
 refine Qo (Qa (Qc (Qj (sR ?_))))
 refine Zb (i64 6) <| Zv (i64 6) <| rN ?_
 refine CW.abs (fun g => g 0 = (agg u8 key) ∧ g 1 = (u32 cr) ∧ g 2 = (agg u8 nz) ∧ g 3 = (ptr b3 0) ∧ g 5 = (ptr b5 0) ∧ g 6 = (ptr b6 0) ∧ g 7 = (i64 6) ∧ g 12 = (i64 6) ∧ g 13 = (bl true) ∧ True) ⟨rfl, rfl, rfl, rfl, rfl, rfl, rfl, rfl, rfl, trivial⟩ ?_
 rintro fr25 ⟨s0, s1, s2, s3, s5, s6, s7, s12, s13, _⟩
 refine Qb <| Yk s7 <| Qd (v := (i64 10)) (Xd 4 6) <| Yk s7 <| Qd (v := (i64 24)) (Vy 4 6) <| Qd (Z7 (i := 24) (j := 32) Xf Yw s3 (Xv (k := .i64) (i := 24) rfl) (Zc _ _) oM sD sD) <| Dx m24 (Tq (Jb rfl) (Lt (sla b3 0 1 24 32 32) ((key.drop 24).take 8) _ (Rd.cast (l' := (key.drop 24).take 8) (Rd.sla m24.h2 sD oM sD sD) rfl) sD)) fun w26 m26 => Qd (Xe 10 10 Ue Zn s6) <| Yb m26 (Q8 (f := u32) (l' := [1634760805#32, 857760878#32, 2036477234#32, 1797285236#32, Za key, Za ((key.drop 4).take 28), Za ((key.drop 8).take 24), Za ((key.drop 12).take 20), Za ((key.drop 16).take 16), Za ((key.drop 20).take 12), Za ((key.drop 24).take 8), 0, 0, 0, 0, 0]) rfl Xa Zn rfl rfl m26.h0 Xk (.inl (Nat.zero_le _))) fun w28 m28 => ?_
 refine Zo (Qh (Qb ?_))
 refine Qd (v := (i64 7)) (Z9 (a := 6) (b := 1) s12 rfl oM oM) <| Zb (i64 7) ?_
 refine rN (Zh (sR ?_))
 refine Qd (X5 7 8) ?_
 refine rN (Qc ?_)
 refine Qx rfl Yh ?_
 refine Qo (Qa (Qc (Qj (sR ?_))))
 refine Zb (i64 7) <| Zv (i64 7) ?_
 refine rN (Qb ?_)
 refine Zb (i64 7) <| Qd (v := (i64 11)) (Xd 4 7) <| Zb (i64 7) <| Qd (v := (i64 28)) (Vy 4 7) <| Qd (Z7 (i := 28) (j := 32) Xf Yw s3 (Xv (k := .i64) (i := 28) rfl) (Zc _ _) oM sD sD) <| Dx m28 (Tq (Jb rfl) (Lt (sla b3 0 1 28 32 32) ((key.drop 28).take 4) _ (Rd.cast (l' := (key.drop 28).take 4) (Rd.sla m28.h2 sD oM sD sD) rfl) sD)) fun w29 m29 => Qd (Xe 11 11 Ue Zn s6) <| Yb m29 (Q8 (f := u32) (l' := [1634760805#32, 857760878#32, 2036477234#32, 1797285236#32, Za key, Za ((key.drop 4).take 28), Za ((key.drop 8).take 24), Za ((key.drop 12).take 20), Za ((key.drop 16).take 16), Za ((key.drop 20).take 12), Za ((key.drop 24).take 8), Za ((key.drop 28).take 4), 0, 0, 0, 0]) rfl Xa Zn rfl rfl m29.h0 Xk (.inl (Nat.zero_le _))) fun w31 m31 => ?_
 refine Zo (Qh (Qb ?_))
 refine Qd (v := (i64 8)) (Xd 7 1) <| Zb (i64 8) ?_
 refine rN (Zh (sR ?_))
 refine Qd (X5 8 8) ?_
 refine rN (Qc ?_)
 refine Ym rfl Yh <| Yc ?_
 refine Qr (Qr (Xp ?_))
 refine sR <| Yk s1 <| Qd (Xe 12 12 Ue Zn s6) <| Yb m31 (Q8 (f := u32) (l' := [1634760805#32, 857760878#32, 2036477234#32, 1797285236#32, Za key, Za ((key.drop 4).take 28), Za ((key.drop 8).take 24), Za ((key.drop 12).take 20), Za ((key.drop 16).take 16), Za ((key.drop 20).take 12), Za ((key.drop 24).take 8), Za ((key.drop 28).take 4), cr, 0, 0, 0]) rfl Xa Zn rfl rfl m31.h0 Xk (.inl (Nat.zero_le _))) fun w32 m32 => ?_
 refine rN (Qc (sR ?_))
 refine Zb (i64 0) ?_
 refine rN (Qj ?_)
 refine Wu 4 ?_
 refine Zh (sR ?_)
 refine Qd (X5 0 3) ?_
 refine rN (Qc ?_)
 refine Qx rfl Yh ?_
 refine Qo (Qa (Qc (Qj (sR ?_))))
 refine Zb (i64 0) <| Zv (i64 0) ?_
 refine rN (Qb ?_)
 refine Zb (i64 0) <| Qd (v := (i64 13)) (Xd 13 0) <| Zb (i64 0) <| Qd (v := (i64 0)) (Vy 4 0) <| Qd (Z7 (i := 0) (j := 12) Sl Yw s5 (Xv (k := .i64) (i := 0) rfl) (Zc _ _) oM sD sD) <| Dx m32 (Tq (Jb rfl) (Lt (sla b5 0 1 0 12 12) nz _ (Rd.slaAll m32.h1 sD) sD)) fun w33 m33 => Qd (Xe 13 13 Ue Zn s6) <| Yb m33 (Q8 (f := u32) (l' := [1634760805#32, 857760878#32, 2036477234#32, 1797285236#32, Za key, Za ((key.drop 4).take 28), Za ((key.drop 8).take 24), Za ((key.drop 12).take 20), Za ((key.drop 16).take 16), Za ((key.drop 20).take 12), Za ((key.drop 24).take 8), Za ((key.drop 28).take 4), cr, Za nz, 0, 0]) rfl Xa Zn rfl rfl m33.h0 Xk (.inl (Nat.zero_le _))) fun w35 m35 => ?_
 refine Zo (Qh (Qb ?_))
 refine Qd (v := (i64 1)) (Xd 0 1) <| Zb (i64 1) ?_
 refine rN (Zh (sR ?_))
 refine Qd (X5 1 3) ?_
 refine rN (Qc ?_)
 refine Qx rfl Yh ?_
 refine Qo (Qa (Qc (Qj (sR ?_))))
 refine Zb (i64 1) <| Zv (i64 1) ?_
 refine rN (Qb ?_)
 refine Zb (i64 1) <| Qd (v := (i64 14)) (Xd 13 1) <| Zb (i64 1) <| Qd (v := (i64 4)) (Vy 4 1) <| Qd (Z7 (i := 4) (j := 12) Sl Yw s5 (Xv (k := .i64) (i := 4) rfl) (Zc _ _) oM sD sD) <| Dx m35 (Tq (Jb rfl) (Lt (sla b5 0 1 4 12 12) ((nz.drop 4).take 8) _ (Rd.cast (l' := (nz.drop 4).take 8) (Rd.sla m35.h1 sD oM sD sD) rfl) sD)) fun w36 m36 => Qd (Xe 14 14 Ue Zn s6) <| Yb m36 (Q8 (f := u32) (l' := [1634760805#32, 857760878#32, 2036477234#32, 1797285236#32, Za key, Za ((key.drop 4).take 28), Za ((key.drop 8).take 24), Za ((key.drop 12).take 20), Za ((key.drop 16).take 16), Za ((key.drop 20).take 12), Za ((key.drop 24).take 8), Za ((key.drop 28).take 4), cr, Za nz, Za ((nz.drop 4).take 8), 0]) rfl Xa Zn rfl rfl m36.h0 Xk (.inl (Nat.zero_le _))) fun w38 m38 => ?_
 refine Zo (Qh (Qb ?_))
 refine Qd (v := (i64 2)) (Xd 1 1) <| Zb (i64 2) ?_
 refine rN (Zh (sR ?_))
 refine Qd (X5 2 3) ?_
 refine rN (Qc ?_)
 refine Qx rfl Yh ?_
 refine Qo (Qa (Qc (Qj (sR ?_))))
 refine Zb (i64 2) <| Zv (i64 2) ?_
 refine rN (Qb ?_)
 refine Zb (i64 2) <| Qd (v := (i64 15)) (Xd 13 2) <| Zb (i64 2) <| Qd (v := (i64 8)) (Vy 4 2) <| Qd (Z7 (i := 8) (j := 12) Sl Yw s5 (Xv (k := .i64) (i := 8) rfl) (Zc _ _) oM sD sD) <| Dx m38 (Tq (Jb rfl) (Lt (sla b5 0 1 8 12 12) ((nz.drop 8).take 4) _ (Rd.cast (l' := (nz.drop 8).take 4) (Rd.sla m38.h1 sD oM sD sD) rfl) sD)) fun w39 m39 => Qd (Xe 15 15 Ue Zn s6) <| Yb m39 (Q8 (f := u32) (l' := [1634760805#32, 857760878#32, 2036477234#32, 1797285236#32, Za key, Za ((key.drop 4).take 28), Za ((key.drop 8).take 24), Za ((key.drop 12).take 20), Za ((key.drop 16).take 16), Za ((key.drop 20).take 12), Za ((key.drop 24).take 8), Za ((key.drop 28).take 4), cr, Za nz, Za ((nz.drop 4).take 8), Za ((nz.drop 8).take 4)]) rfl Xa Zn rfl rfl m39.h0 Xk (.inl (Nat.zero_le _))) fun w41 m41 => ?_
 refine Zo (Qh (Qb ?_))
 refine Qd (v := (i64 3)) (Xd 2 1) <| Zb (i64 3) ?_
 refine rN (Zh (sR ?_))
 refine Qd (X5 3 3) ?_
 refine rN (Qc ?_)
 refine Ym rfl Yh <| Yc ?_
 refine Qr (Qr (Xp ?_))
 refine sR <| Qd (Qw Ue rfl Qb5 s6 m41.h0 sZ) <| Yb m41 (Qq (f := u32) (l := [1634760805#32, 857760878#32, 2036477234#32, 1797285236#32, Za key, Za ((key.drop 4).take 28), Za ((key.drop 8).take 24), Za ((key.drop 12).take 20), Za ((key.drop 16).take 16), Za ((key.drop 20).take 12), Za ((key.drop 24).take 8), Za ((key.drop 28).take 4), cr, Za nz, Za ((nz.drop 4).take 8), Za ((nz.drop 8).take 4)]) Xa Qb5 s6 rfl sD m41.h0 sZ rfl) fun w42 m42 => ?_
 refine rN (Zy ?_)
 refine Qs [(agg u32 ([1634760805#32, 857760878#32, 2036477234#32, 1797285236#32, Za key, Za ((key.drop 4).take 28), Za ((key.drop 8).take 24), Za ((key.drop 12).take 20), Za ((key.drop 16).take 16), Za ((key.drop 20).take 12), Za ((key.drop 24).take 8), Za ((key.drop 28).take 4), cr, Za nz, Za ((nz.drop 4).take 8), Za ((nz.drop 8).take 4)]))] ⟨⟨_, s6, Xi Ue rfl Qb5 m42.h0 sZ⟩, trivial⟩ ?_
 exact ⟨rfl, m42.toExt⟩
theorem c_block (key : Zj) (cr : BitVec 32) (nz : Zj) (w0 : World)  (hk : key.length = 32) (hn : nz.length = 12) : Xm prog 89 #[(agg u8 key), (u32 cr), (agg u8 nz)] w0 (fun r w1 => r = (agg u8 (Z4 key cr nz)) ∧ Ext w0 w1) := by
 refine Qy (args := [(agg u8 key), (u32 cr), (agg u8 nz)]) func89 rfl ntmps89 results89 rfl ?_
 have m0 : Mem w0 (Qu w0) [] := Mem.of_world w0
 refine sR <| Y5 (Zw (f := u8) (l := key) m0 rfl) fun w1 b3 m1 => Y5 (Zw (f := u8) (l := nz) m1 rfl) fun w2 b5 m2 => Y5 (Zf m2 Qgx) fun w3 b6 m3 => ?_
 refine rN (sR ?_)
 refine Qd (Qw Xf rfl Zi rfl m3.h2 sZ) <| Zb (u32 cr) <| Qd (Qw Sl rfl Qb4 rfl m3.h1 sZ) <| Dx m3 (oc103 (U2 rfl rfl rfl) (c_begin _ cr _ _ sD sD)) fun w4 m4 => Y5 (Zf m4 Qb5) fun w6 b7 m6 => Yb m6 (Qq (f := u32) (l := Y9 Za key cr nz) Xa Qb5 rfl rfl sD m6.h0 sZ rfl) fun w7 m7 => ?_
 refine rN (sR ?_)
 refine Qd (Qw Ue rfl Qb5 rfl m7.h0 sZ) <| Y5 (Zf m7 Qb5) fun w8 b8 m8 => Yb m8 (Qq (f := u32) (l := Y9 Za key cr nz) Xa Qb5 rfl rfl sD m8.h0 sZ rfl) fun w9 m9 => ?_
 refine rN (Qc (sR ?_))
 refine Zb (i64 0) ?_
 refine rN (Qj ?_)
 refine Jq (fun g wv => ∃ (k : Nat), (k ≤ 10) ∧ g 0 = (agg u8 key) ∧ g 1 = (u32 cr) ∧ g 2 = (agg u8 nz) ∧ g 3 = (ptr b3 0) ∧ g 5 = (ptr b5 0) ∧ g 6 = (ptr b6 0) ∧ g 7 = (ptr b7 0) ∧ g 8 = (ptr b8 0) ∧ g 17 = (i64 (k : Int)) ∧ Mem wv (Qu w0) [(b8, .cells (cl u32 (Jr dbl k (Y9 Za key cr nz))) 156 (0, 0)), (b7, .cells (cl u32 (Y9 Za key cr nz)) 156 (0, 0)), (b6, .cells (cl u8 (List.replicate 64 0)) 139 (0, 0)), (b5, .cells (cl u8 nz) 77 (0, 0)), (b3, .cells (cl u8 key) 23 (0, 0))]) (fun g wv => (10 - RowKit.intOf (g 17)).toNat) ?_ ?_
 ·exact ⟨0, oM, rfl, rfl, rfl, rfl, rfl, rfl, rfl, rfl, rfl, m9⟩
 rintro fr10 w11 ⟨k, hk1, s0, s1, s2, s3, s5, s6, s7, s8, s17, m11⟩
 have z17 := s17
 refine sR <| Qd (Xy (b := 10) s17 rfl) ?_
 refine rN (Qc ?_)
 refine Xb rfl (fun hc12 => ?_) (fun hc12 => ?_)
 ·
  have hc12p := of_decide_eq_true hc12
  refine Qo (Qa (Qc (Qj (Qc (sR ?_)))))
  refine Zb (i64 0) ?_
  refine rN (Qj ?_)
  refine Wu 5 ?_
  refine Zh (sR ?_)
  refine Qd (X5 0 4) ?_
  refine rN (Qc ?_)
  refine Qx rfl Yh ?_
  refine Qo (Qa (Qc (Qj (sR ?_))))
  refine Zb (i64 0) <| Zv (i64 0) ?_
  refine rN (Qb ?_)
  refine Zb (i64 0) <| Zb (i64 0) <| Qd (v := (i64 4)) (Xd 4 0) <| Zb (i64 0) <| Qd (v := (i64 8)) (Xd 8 0) <| Zb (i64 0) <| Qd (v := (i64 12)) (Xd 12 0) <| Qd (Vu i64 [0, 4, 8, 12] Jn Qbd Fq Dj rfl rfl) ?_
  have hF14 : Mem _ _ ([(b8, .cells (cl u32 (Jr dbl k (Y9 Za key cr nz))) 156 (0, 0))] ++ ([_, _, _, _])) := m11
  refine G5 (Qdy (X3 s8 rfl) (U9 b8 (Jr dbl k (Y9 Za key cr nz)) (0 : Int) (4 : Int) (8 : Int) (12 : Int) _ _ (Mem.give hF14) sD sD sD sD sD)) ?_
  rintro _ w13 ⟨rfl, k_w13⟩
  have m13 : Mem _ _ [_, _, _, _, _] := Mem.back hF14 k_w13
  refine Zo (Qh (Qb ?_))
  refine Qd (v := (i64 1)) (Xd 0 1) <| Zb (i64 1) ?_
  refine rN (Zh (sR ?_))
  refine Qd (X5 1 4) ?_
  refine rN (Qc ?_)
  refine Qx rfl Yh ?_
  refine Qo (Qa (Qc (Qj (sR ?_))))
  refine Zb (i64 1) <| Zv (i64 1) ?_
  refine rN (Qb ?_)
  refine Zb (i64 1) <| Zb (i64 1) <| Qd (v := (i64 5)) (Xd 4 1) <| Zb (i64 1) <| Qd (v := (i64 9)) (Xd 8 1) <| Zb (i64 1) <| Qd (v := (i64 13)) (Xd 12 1) <| Qd (Vu i64 [1, 5, 9, 13] Jn Qbd Fq Dj rfl rfl) ?_
  have hF17 : Mem _ _ ([(b8, .cells (cl u32 (Fe (Jr dbl k (Y9 Za key cr nz)) (0 : Int).toNat (4 : Int).toNat (8 : Int).toNat (12 : Int).toNat)) 156 (0, 0))] ++ ([_, _, _, _])) := m13
  refine G5 (Qdy (X3 s8 rfl) (U9 b8 (Fe (Jr dbl k (Y9 Za key cr nz)) (0 : Int).toNat (4 : Int).toNat (8 : Int).toNat (12 : Int).toNat) (1 : Int) (5 : Int) (9 : Int) (13 : Int) _ _ (Mem.give hF17) sD sD sD sD sD)) ?_
  rintro _ w16 ⟨rfl, k_w16⟩
  have m16 : Mem _ _ [_, _, _, _, _] := Mem.back hF17 k_w16
  refine Zo (Qh (Qb ?_))
  refine Qd (v := (i64 2)) (Xd 1 1) <| Zb (i64 2) ?_
  refine rN (Zh (sR ?_))
  refine Qd (X5 2 4) ?_
  refine rN (Qc ?_)
  refine Qx rfl Yh ?_
  refine Qo (Qa (Qc (Qj (sR ?_))))
  refine Zb (i64 2) <| Zv (i64 2) ?_
  refine rN (Qb ?_)
  refine Zb (i64 2) <| Zb (i64 2) <| Qd (v := (i64 6)) (Xd 4 2) <| Zb (i64 2) <| Qd (v := (i64 10)) (Xd 8 2) <| Zb (i64 2) <| Qd (v := (i64 14)) (Xd 12 2) <| Qd (Vu i64 [2, 6, 10, 14] Jn Qbd Fq Dj rfl rfl) ?_
  have hF20 : Mem _ _ ([(b8, .cells (cl u32 (Fe (Fe (Jr dbl k (Y9 Za key cr nz)) (0 : Int).toNat (4 : Int).toNat (8 : Int).toNat (12 : Int).toNat) (1 : Int).toNat (5 : Int).toNat (9 : Int).toNat (13 : Int).toNat)) 156 (0, 0))] ++ ([_, _, _, _])) := m16
  refine G5 (Qdy (X3 s8 rfl) (U9 b8 (Fe (Fe (Jr dbl k (Y9 Za key cr nz)) (0 : Int).toNat (4 : Int).toNat (8 : Int).toNat (12 : Int).toNat) (1 : Int).toNat (5 : Int).toNat (9 : Int).toNat (13 : Int).toNat) (2 : Int) (6 : Int) (10 : Int) (14 : Int) _ _ (Mem.give hF20) sD sD sD sD sD)) ?_
  rintro _ w19 ⟨rfl, k_w19⟩
  have m19 : Mem _ _ [_, _, _, _, _] := Mem.back hF20 k_w19
  refine Zo (Qh (Qb ?_))
  refine Qd (v := (i64 3)) (Xd 2 1) <| Zb (i64 3) ?_
  refine rN (Zh (sR ?_))
  refine Qd (X5 3 4) ?_
  refine rN (Qc ?_)
  refine Qx rfl Yh ?_
  refine Qo (Qa (Qc (Qj (sR ?_))))
  refine Zb (i64 3) <| Zv (i64 3) ?_
  refine rN (Qb ?_)
  refine Zb (i64 3) <| Zb (i64 3) <| Qd (v := (i64 7)) (Xd 4 3) <| Zb (i64 3) <| Qd (v := (i64 11)) (Xd 8 3) <| Zb (i64 3) <| Qd (v := (i64 15)) (Xd 12 3) <| Qd (Vu i64 [3, 7, 11, 15] Jn Qbd Fq Dj rfl rfl) ?_
  have hF23 : Mem _ _ ([(b8, .cells (cl u32 (Fe (Fe (Fe (Jr dbl k (Y9 Za key cr nz)) (0 : Int).toNat (4 : Int).toNat (8 : Int).toNat (12 : Int).toNat) (1 : Int).toNat (5 : Int).toNat (9 : Int).toNat (13 : Int).toNat) (2 : Int).toNat (6 : Int).toNat (10 : Int).toNat (14 : Int).toNat)) 156 (0, 0))] ++ ([_, _, _, _])) := m19
  refine G5 (Qdy (X3 s8 rfl) (U9 b8 (Fe (Fe (Fe (Jr dbl k (Y9 Za key cr nz)) (0 : Int).toNat (4 : Int).toNat (8 : Int).toNat (12 : Int).toNat) (1 : Int).toNat (5 : Int).toNat (9 : Int).toNat (13 : Int).toNat) (2 : Int).toNat (6 : Int).toNat (10 : Int).toNat (14 : Int).toNat) (3 : Int) (7 : Int) (11 : Int) (15 : Int) _ _ (Mem.give hF23) sD sD sD sD sD)) ?_
  rintro _ w22 ⟨rfl, k_w22⟩
  have m22 : Mem _ _ [_, _, _, _, _] := Mem.back hF23 k_w22
  refine Zo (Qh (Qb ?_))
  refine Qd (v := (i64 4)) (Xd 3 1) <| Zb (i64 4) ?_
  refine rN (Zh (sR ?_))
  refine Qd (X5 4 4) ?_
  refine rN (Qc ?_)
  refine Ym rfl Yh <| Yc ?_
  refine Qr (Qr (Xp ?_))
  refine sR <| Zb (i64 0) ?_
  refine rN (Df ?_)
  refine Wu 5 ?_
  refine Zh (sR ?_)
  refine Qd (X5 0 4) ?_
  refine rN (Qc ?_)
  refine Qx rfl Yh ?_
  refine Qo (Qa (Qc (Qj (sR ?_))))
  refine Zb (i64 0) <| Zv (i64 0) ?_
  refine rN (Qb ?_)
  refine Zb (i64 0) <| Zb (i64 0) <| Qd (v := (i64 1)) (Xd 0 1) <| Qd (v := (i64 1)) (Vd (a := 1) (b := 3) rfl rfl oM oM) <| Qd (v := (i64 5)) (Xd 4 1) <| Zb (i64 0) <| Qd (v := (i64 2)) (Xd 0 2) <| Qd (v := (i64 2)) (Vd (a := 2) (b := 3) rfl rfl oM oM) <| Qd (v := (i64 10)) (Xd 8 2) <| Zb (i64 0) <| Qd (v := (i64 3)) (Xd 0 3) <| Qd (v := (i64 3)) (Vd (a := 3) (b := 3) rfl rfl oM oM) ?_
  refine Qd (v := (i64 15)) (Xd 12 3) <| Qd (Vu i64 [0, 5, 10, 15] Jn Qbd Fq Dj rfl rfl) ?_
  have hF26 : Mem _ _ ([(b8, .cells (cl u32 (Fe (Fe (Fe (Fe (Jr dbl k (Y9 Za key cr nz)) (0 : Int).toNat (4 : Int).toNat (8 : Int).toNat (12 : Int).toNat) (1 : Int).toNat (5 : Int).toNat (9 : Int).toNat (13 : Int).toNat) (2 : Int).toNat (6 : Int).toNat (10 : Int).toNat (14 : Int).toNat) (3 : Int).toNat (7 : Int).toNat (11 : Int).toNat (15 : Int).toNat)) 156 (0, 0))] ++ ([_, _, _, _])) := m22
  refine G5 (Qdy (X3 s8 rfl) (U9 b8 (Fe (Fe (Fe (Fe (Jr dbl k (Y9 Za key cr nz)) (0 : Int).toNat (4 : Int).toNat (8 : Int).toNat (12 : Int).toNat) (1 : Int).toNat (5 : Int).toNat (9 : Int).toNat (13 : Int).toNat) (2 : Int).toNat (6 : Int).toNat (10 : Int).toNat (14 : Int).toNat) (3 : Int).toNat (7 : Int).toNat (11 : Int).toNat (15 : Int).toNat) (0 : Int) (5 : Int) (10 : Int) (15 : Int) _ _ (Mem.give hF26) sD sD sD sD sD)) ?_
  rintro _ w25 ⟨rfl, k_w25⟩
  have m25 : Mem _ _ [_, _, _, _, _] := Mem.back hF26 k_w25
  refine Zo (Qh (Qb ?_))
  refine Qd (v := (i64 1)) (Xd 0 1) <| Zb (i64 1) ?_
  refine rN (Zh (sR ?_))
  refine Qd (X5 1 4) <| rN ?_
  refine CW.abs (fun g => g 0 = (agg u8 key) ∧ g 1 = (u32 cr) ∧ g 2 = (agg u8 nz) ∧ g 3 = (ptr b3 0) ∧ g 5 = (ptr b5 0) ∧ g 6 = (ptr b6 0) ∧ g 7 = (ptr b7 0) ∧ g 8 = (ptr b8 0) ∧ g 9 = (i64 3) ∧ g 10 = (i64 0) ∧ g 17 = (i64 (k : Int)) ∧ g 18 = (bl (decide ((k : Int) < 10))) ∧ g 19 = (i64 4) ∧ g 20 = (bl false) ∧ g 32 = (i64 1) ∧ g 33 = (bl true) ∧ True) ⟨s0, s1, s2, s3, s5, s6, s7, s8, rfl, rfl, s17, rfl, rfl, rfl, rfl, rfl, trivial⟩ ?_
  rintro fr28 ⟨s0, s1, s2, s3, s5, s6, s7, s8, s9, s10, s17, s18, s19, s20, s32, s33, _⟩
  refine Qc <| Qx s33 Yh ?_
  refine Qo (Qa (Qc (Qj (sR ?_))))
  refine Yk s32 <| Zv (i64 1) ?_
  refine rN (Qb ?_)
  refine Zb (i64 1) <| Zb (i64 1) <| Qd (v := (i64 2)) (Xd 1 1) <| Qd (v := (i64 2)) (Vd (a := 2) (b := 3) rfl rfl oM oM) <| Qd (v := (i64 6)) (Xd 4 2) <| Zb (i64 1) <| Qd (v := (i64 3)) (Xd 1 2) <| Qd (v := (i64 3)) (Vd (a := 3) (b := 3) rfl rfl oM oM) <| Qd (v := (i64 11)) (Xd 8 3) <| Zb (i64 1) <| Qd (v := (i64 4)) (Xd 1 3) <| Qd (v := (i64 0)) (Vd (a := 4) (b := 3) rfl rfl oM oM) ?_
  refine Qd (v := (i64 12)) (Xd 12 0) <| Qd (Vu i64 [1, 6, 11, 12] Jn Qbd Fq Dj rfl rfl) ?_
  have hF30 : Mem _ _ ([(b8, .cells (cl u32 (Fe (Fe (Fe (Fe (Fe (Jr dbl k (Y9 Za key cr nz)) (0 : Int).toNat (4 : Int).toNat (8 : Int).toNat (12 : Int).toNat) (1 : Int).toNat (5 : Int).toNat (9 : Int).toNat (13 : Int).toNat) (2 : Int).toNat (6 : Int).toNat (10 : Int).toNat (14 : Int).toNat) (3 : Int).toNat (7 : Int).toNat (11 : Int).toNat (15 : Int).toNat) (0 : Int).toNat (5 : Int).toNat (10 : Int).toNat (15 : Int).toNat)) 156 (0, 0))] ++ ([_, _, _, _])) := m25
  refine G5 (Qdy (X3 s8 rfl) (U9 b8 (Fe (Fe (Fe (Fe (Fe (Jr dbl k (Y9 Za key cr nz)) (0 : Int).toNat (4 : Int).toNat (8 : Int).toNat (12 : Int).toNat) (1 : Int).toNat (5 : Int).toNat (9 : Int).toNat (13 : Int).toNat) (2 : Int).toNat (6 : Int).toNat (10 : Int).toNat (14 : Int).toNat) (3 : Int).toNat (7 : Int).toNat (11 : Int).toNat (15 : Int).toNat) (0 : Int).toNat (5 : Int).toNat (10 : Int).toNat (15 : Int).toNat) (1 : Int) (6 : Int) (11 : Int) (12 : Int) _ _ (Mem.give hF30) sD sD sD sD sD)) ?_
  rintro _ w29 ⟨rfl, k_w29⟩
  have m29 : Mem _ _ [_, _, _, _, _] := Mem.back hF30 k_w29
  refine Zo (Qh (Qb ?_))
  refine Qd (v := (i64 2)) (Z9 (a := 1) (b := 1) s32 rfl oM oM) <| Zb (i64 2) ?_
  refine rN (Zh (sR ?_))
  refine Qd (X5 2 4) ?_
  refine rN (Qc ?_)
  refine Qx rfl Yh ?_
  refine Qo (Qa (Qc (Qj (sR ?_))))
  refine Zb (i64 2) <| Zv (i64 2) ?_
  refine rN (Qb ?_)
  refine Zb (i64 2) <| Zb (i64 2) <| Qd (v := (i64 3)) (Xd 2 1) <| Qd (v := (i64 3)) (Vd (a := 3) (b := 3) rfl rfl oM oM) <| Qd (v := (i64 7)) (Xd 4 3) <| Zb (i64 2) <| Qd (v := (i64 4)) (Xd 2 2) <| Qd (v := (i64 0)) (Vd (a := 4) (b := 3) rfl rfl oM oM) <| Qd (v := (i64 8)) (Xd 8 0) <| Zb (i64 2) <| Qd (v := (i64 5)) (Xd 2 3) <| Qd (v := (i64 1)) (Vd (a := 5) (b := 3) rfl rfl oM oM) ?_
  refine Qd (v := (i64 13)) (Xd 12 1) <| Qd (Vu i64 [2, 7, 8, 13] Jn Qbd Fq Dj rfl rfl) ?_
  have hF33 : Mem _ _ ([(b8, .cells (cl u32 (Fe (Fe (Fe (Fe (Fe (Fe (Jr dbl k (Y9 Za key cr nz)) (0 : Int).toNat (4 : Int).toNat (8 : Int).toNat (12 : Int).toNat) (1 : Int).toNat (5 : Int).toNat (9 : Int).toNat (13 : Int).toNat) (2 : Int).toNat (6 : Int).toNat (10 : Int).toNat (14 : Int).toNat) (3 : Int).toNat (7 : Int).toNat (11 : Int).toNat (15 : Int).toNat) (0 : Int).toNat (5 : Int).toNat (10 : Int).toNat (15 : Int).toNat) (1 : Int).toNat (6 : Int).toNat (11 : Int).toNat (12 : Int).toNat)) 156 (0, 0))] ++ ([_, _, _, _])) := m29
  refine G5 (Qdy (X3 s8 rfl) (U9 b8 (Fe (Fe (Fe (Fe (Fe (Fe (Jr dbl k (Y9 Za key cr nz)) (0 : Int).toNat (4 : Int).toNat (8 : Int).toNat (12 : Int).toNat) (1 : Int).toNat (5 : Int).toNat (9 : Int).toNat (13 : Int).toNat) (2 : Int).toNat (6 : Int).toNat (10 : Int).toNat (14 : Int).toNat) (3 : Int).toNat (7 : Int).toNat (11 : Int).toNat (15 : Int).toNat) (0 : Int).toNat (5 : Int).toNat (10 : Int).toNat (15 : Int).toNat) (1 : Int).toNat (6 : Int).toNat (11 : Int).toNat (12 : Int).toNat) (2 : Int) (7 : Int) (8 : Int) (13 : Int) _ _ (Mem.give hF33) sD sD sD sD sD)) ?_
  rintro _ w32 ⟨rfl, k_w32⟩
  have m32 : Mem _ _ [_, _, _, _, _] := Mem.back hF33 k_w32
  refine Zo (Qh (Qb ?_))
  refine Qd (v := (i64 3)) (Xd 2 1) <| Zb (i64 3) ?_
  refine rN (Zh (sR ?_))
  refine Qd (X5 3 4) ?_
  refine rN (Qc ?_)
  refine Qx rfl Yh ?_
  refine Qo (Qa (Qc (Qj (sR ?_))))
  refine Zb (i64 3) <| Zv (i64 3) ?_
  refine rN (Qb ?_)
  refine Zb (i64 3) <| Zb (i64 3) <| Qd (v := (i64 4)) (Xd 3 1) <| Qd (v := (i64 0)) (Vd (a := 4) (b := 3) rfl rfl oM oM) <| Qd (v := (i64 4)) (Xd 4 0) <| Zb (i64 3) <| Qd (v := (i64 5)) (Xd 3 2) <| Qd (v := (i64 1)) (Vd (a := 5) (b := 3) rfl rfl oM oM) <| Qd (v := (i64 9)) (Xd 8 1) <| Zb (i64 3) <| Qd (v := (i64 6)) (Xd 3 3) <| Qd (v := (i64 2)) (Vd (a := 6) (b := 3) rfl rfl oM oM) ?_
  refine Qd (v := (i64 14)) (Xd 12 2) <| Qd (Vu i64 [3, 4, 9, 14] Jn Qbd Fq Dj rfl rfl) ?_
  have hF36 : Mem _ _ ([(b8, .cells (cl u32 (Fe (Fe (Fe (Fe (Fe (Fe (Fe (Jr dbl k (Y9 Za key cr nz)) (0 : Int).toNat (4 : Int).toNat (8 : Int).toNat (12 : Int).toNat) (1 : Int).toNat (5 : Int).toNat (9 : Int).toNat (13 : Int).toNat) (2 : Int).toNat (6 : Int).toNat (10 : Int).toNat (14 : Int).toNat) (3 : Int).toNat (7 : Int).toNat (11 : Int).toNat (15 : Int).toNat) (0 : Int).toNat (5 : Int).toNat (10 : Int).toNat (15 : Int).toNat) (1 : Int).toNat (6 : Int).toNat (11 : Int).toNat (12 : Int).toNat) (2 : Int).toNat (7 : Int).toNat (8 : Int).toNat (13 : Int).toNat)) 156 (0, 0))] ++ ([_, _, _, _])) := m32
  refine G5 (Qdy (X3 s8 rfl) (U9 b8 (Fe (Fe (Fe (Fe (Fe (Fe (Fe (Jr dbl k (Y9 Za key cr nz)) (0 : Int).toNat (4 : Int).toNat (8 : Int).toNat (12 : Int).toNat) (1 : Int).toNat (5 : Int).toNat (9 : Int).toNat (13 : Int).toNat) (2 : Int).toNat (6 : Int).toNat (10 : Int).toNat (14 : Int).toNat) (3 : Int).toNat (7 : Int).toNat (11 : Int).toNat (15 : Int).toNat) (0 : Int).toNat (5 : Int).toNat (10 : Int).toNat (15 : Int).toNat) (1 : Int).toNat (6 : Int).toNat (11 : Int).toNat (12 : Int).toNat) (2 : Int).toNat (7 : Int).toNat (8 : Int).toNat (13 : Int).toNat) (3 : Int) (4 : Int) (9 : Int) (14 : Int) _ _ (Mem.give hF36) sD sD sD sD sD)) ?_
  rintro _ w35 ⟨rfl, k_w35⟩
  have m35 : Mem _ _ [_, _, _, _, _] := Mem.back hF36 k_w35
  refine Zo (Qh (Qb ?_))
  refine Qd (v := (i64 4)) (Xd 3 1) <| Zb (i64 4) ?_
  refine rN (Zh (sR ?_))
  refine Qd (X5 4 4) ?_
  refine rN (Qc ?_)
  refine Ym rfl Yh <| Yc ?_
  refine Qr (Qr (Xp ?_))
  refine Qh (Qb ?_)
  refine Qd (Z9 (b := 1) s17 rfl oM oM) <| Zb (i64 ((k : Int) + 1)) <| rN ?_
  exact ⟨⟨k + 1, oM, s0, s1, s2, s3, s5, s6, s7, s8, rfl, m35⟩, Am rfl z17 oM oM⟩
 ·
  have hc12p := of_decide_eq_false hc12
  obtain rfl : k = 10 := by omega
  refine Yc ?_
  refine Qr (Qr (Xp ?_))
  refine Qc (sR ?_)
  refine Zb (i64 0) ?_
  refine rN (Qj ?_)
  refine Jq (fun g wv => ∃ (k2 : Nat), (k2 ≤ 64) ∧ g 0 = (agg u8 key) ∧ g 1 = (u32 cr) ∧ g 2 = (agg u8 nz) ∧ g 3 = (ptr b3 0) ∧ g 5 = (ptr b5 0) ∧ g 6 = (ptr b6 0) ∧ g 7 = (ptr b7 0) ∧ g 8 = (ptr b8 0) ∧ g 17 = (i64 (10 : Int)) ∧ g 18 = (bl (decide ((10 : Int) < 10))) ∧ g 52 = (i64 (k2 : Int)) ∧ Mem wv (Qu w0) [(b8, .cells (cl u32 (Jr dbl 10 (Y9 Za key cr nz))) 156 (0, 0)), (b7, .cells (cl u32 (Y9 Za key cr nz)) 156 (0, 0)), (b6, .cells (cl u8 (Wy (Bc (Jr dbl 10 (Y9 Za key cr nz)) (Y9 Za key cr nz)) 0 64 k2)) 139 (0, 0)), (b5, .cells (cl u8 nz) 77 (0, 0)), (b3, .cells (cl u8 key) 23 (0, 0))]) (fun g wv => (64 - RowKit.intOf (g 52)).toNat) ?_ ?_
  ·exact ⟨0, oM, s0, s1, s2, s3, s5, s6, s7, s8, s17, rfl, rfl, (by rw [Nc]; exact m11)⟩
  rintro fr38 w39 ⟨k2, hk2, s0, s1, s2, s3, s5, s6, s7, s8, s17, s18, s52, m39⟩
  have z52 := s52
  refine sR <| Qd (Xy (b := 64) s52 rfl) ?_
  refine rN (Qc ?_)
  refine Xb rfl (fun hc40 => ?_) (fun hc40 => ?_)
  ·
   have hc40p := of_decide_eq_true hc40
   refine Qo (Qa (Qc (Qj (sR ?_))))
   refine Yk s52 <| Zv (i64 (k2 : Int)) <| rN <| Xj (dl 15) 15 Xh <| Jj rfl (i64 (k2 : Int)) <| Jj rfl (i64 (k2 : Int)) <| Xq rfl (Gw (b := 4) rfl rfl oM oM oM) <| Xq rfl (Xc (r := ((k2 : Int) / 4 : Int).toNat) oM Ue Zn s8 rfl oM sD) <| Y6 (v := (u32 ((Jr dbl 10 (Y9 Za key cr nz)).getD (((k2 : Int) / 4 : Int).toNat) 0))) rfl (fun _ e' => Ql Yi rfl rfl (m39.ext e').h0 (Qv _ _ 0 sD)) <| Jj rfl (i64 (k2 : Int)) <| Xq rfl (Gw (b := 4) rfl rfl oM oM oM) <| Xq rfl (Xc (r := ((k2 : Int) / 4 : Int).toNat) oM Ue Zn s7 rfl oM sD) ?_
   refine Y6 (v := (u32 ((Y9 Za key cr nz).getD (((k2 : Int) / 4 : Int).toNat) 0))) rfl (fun _ e' => Ql Yi rfl rfl (m39.ext e').h1 (Qv _ _ 0 sD)) <| Xq rfl (Yr rfl rfl) <| Jj rfl (i64 (k2 : Int)) <| Xq rfl (J4 (b := 4) rfl rfl oM oM oM) <| Xq rfl (Cj (a := 8) rfl rfl oM oM) <| Xq rfl (Lp rfl rfl oM) <| Xq rfl (Qag ⟨_, Yi⟩ Uu rfl) <| Ug m39 fun w41 m41 => Qd (Xc (r := k2) oM uT139 Yw s6 rfl oM sD) <| Qc3 m41 (X9 (f := u8) (a := ((((Jr dbl 10 (Y9 Za key cr nz)).getD (((k2 : Int) / 4 : Int).toNat) 0) + ((Y9 Za key cr nz).getD (((k2 : Int) / 4 : Int).toNat) 0)) >>> (8 * ((k2 : Int) % 4)).toNat).setWidth 8) Q9 Yw rfl rfl m41.h2 sD (.inl (Nat.zero_le _))) fun w42 m42 => ?_
   refine Zo (Qh (Qb ?_))
   refine Qd (Z9 (b := 1) s52 rfl oM oM) <| Zb (i64 ((k2 : Int) + 1)) <| rN ?_
   exact ⟨⟨k2 + 1, oM, s0, s1, s2, s3, s5, s6, s7, s8, s17, s18, rfl, (by rw [← Ri (Bc (Jr dbl 10 (Y9 Za key cr nz)) (Y9 Za key cr nz)) 0 (n := 64) (k := k2) oM _ rfl]; exact m42)⟩, Am rfl z52 oM oM⟩
  ·
   have hc40p := of_decide_eq_false hc40
   obtain rfl : k2 = 64 := by omega
   refine Yc ?_
   refine Qr (Qr (Xp ?_))
   refine sR <| Qd (Qw uT139 rfl Qgx s6 m39.h2 sZ) <| Qc3 m39 (Qq (f := u8) (l := Wy (Bc (Jr dbl 10 (Y9 Za key cr nz)) (Y9 Za key cr nz)) 0 64 64) Q9 Qgx s6 rfl sD m39.h2 sZ rfl) fun w43 m43 => ?_
   refine rN (Zy ?_)
   refine Qs [(agg u8 (Wy (Bc (Jr dbl 10 (Y9 Za key cr nz)) (Y9 Za key cr nz)) 0 64 64))] ⟨⟨_, s6, Xi uT139 rfl Qgx m43.h2 sZ⟩, trivial⟩ ?_
   exact ⟨rfl, m43.toExt⟩
end Go.Proofs.YtkmiemlpfkfiiaaDoor
