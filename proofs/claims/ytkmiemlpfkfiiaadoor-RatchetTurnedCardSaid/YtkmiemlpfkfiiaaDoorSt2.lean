/- Contracts: stream, second part. Conditions: none beyond those that each theorem states. -/
import Derived.Test.YtkmiemlpfkfiiaaDoorSt1
namespace Go.Proofs.YtkmiemlpfkfiiaaDoor
open Mem renaming back → dJ, give → dI, of_world → aY
open Nat renaming zero_le → aJ
open Rd renaming cast → bC
open Tryd
set_option linter.unusedVariables false
set_option linter.unusedSimpArgs false
def Uz (key : Z4) (i n : Nat) : Z4 := (key.drop i).take n
def Vb (word : Z4 → BitVec 32) (key : Z4) (cr : BitVec 32) (nz : Z4) : List (BitVec 32) :=
  [1634760805#32, 857760878#32, 2036477234#32, 1797285236#32, word key, word (Uz key 4 28), word (Uz key 8 24), word (Uz key 12 20),
   word (Uz key 16 16), word (Uz key 20 12), word (Uz key 24 8), word (Uz key 28 4), cr, word nz, word (Uz nz 4 8), word (Uz nz 8 4)]
@[simp] theorem beginP_length (word : Z4 → BitVec 32) (key : Z4) (cr : BitVec 32) (nz : Z4) : (Vb word key cr nz).length = 16 := rfl
attribute [simp] Qp9
def dbl (s : List (BitVec 32)) : List (BitVec 32) :=
 Aw (Aw (Aw (Aw (Aw (Aw (Aw (Aw s 0 4 8 12) 1 5 9 13) 2 6 10 14) 3 7 11 15) 0 5 10 15) 1 6 11 12) 2 7 8 13) 3 4 9 14
def Yo (f : List (BitVec 32) → List (BitVec 32)) : Nat → List (BitVec 32) → List (BitVec 32)
 | 0, s => s
 | k + 1, s => f (Yo f k s)
@[simp] theorem dbl_length (s : List (BitVec 32)) : (dbl s).length = s.length := by simp [dbl]
@[simp] theorem Qr7 (k : Nat) (s : List (BitVec 32)) : (Yo dbl k s).length = s.length := by
 induction k with
 | zero => rfl
 | succ k ih => simp [Yo, ih]
def P6 (s f : List (BitVec 32)) (i : Nat) : BitVec 8 :=
 ((s.getD ((i : Int) / 4).toNat 0 + f.getD ((i : Int) / 4).toNat 0) >>> (8 * ((i : Int) % 4)).toNat).setWidth 8
def Yp (key : Z4) (cr : BitVec 32) (nz : Z4) : Z4 :=
 Yv (P6 (Yo dbl 10 (Vb Xa key cr nz)) (Vb Xa key cr nz)) 0 64 64
@[simp] theorem blockP_length (key : Z4) (cr : BitVec 32) (nz : Z4) : (Yp key cr nz).length = 64 := by
 unfold Yp; rw [J8 _ _ _ _ oM]
@[simp] theorem filled_length' {α : Type} (g : Nat → α) (z : α) (n k : Nat) : (Yv g z n k).length = k + (n - k) := by simp [Yv]
theorem c_begin (key : Z4) (cr : BitVec 32) (nz : Z4) (w0 : World)  (hk : key.length = 32) (hn : nz.length = 12) : Xz prog 103 #[(agg u8 key), (u32 cr), (agg u8 nz)] w0 (fun r w1 => r = (agg u32 (Vb Xa key cr nz)) ∧ Ext w0 w1) := by
 refine Qz (args := [(agg u8 key), (u32 cr), (agg u8 nz)]) func103 rfl ntmps103 results103 rfl ?_
 have m0 : Mem w0 (Qs w0) [] := aY w0
 refine sR <| Y5 (Z5 (f := u8) (l := key) m0 rfl) fun w1 b3 m1 => Y5 (Z5 (f := u8) (l := nz) m1 rfl) fun w2 b5 m2 => Y5 (Q7 m2 Qfr) fun w3 b6 m3 => ?_
 refine rN (sR ?_)
 refine Qd (Xj (i := 0) (j := 16) D6 Ze rfl (Zd _ _) (Zd _ _) oM sD sD) <| Y5 (Qp u32 [1634760805#32, 857760878#32, 2036477234#32, 1797285236#32] Xb m3 Hg Ze rfl rfl rfl) fun w4 b10 m4 => Vr (Qe6 (f := u32) (Eq.trans rfl (Qn8 Yx)) rfl (Rd.mkA m4.h0) Hg Ze Xb m4.h1 sD sD (Nat.le_refl _)) ?_
 rintro _ w5 ⟨rfl, uq5⟩
 have m5 : Mem w5 (Qs w0) [(b10, .cells (cl u32 ([1634760805#32, 857760878#32, 2036477234#32, 1797285236#32])) 106 (0, 0)), (b6, .cells (cl u32 ([1634760805#32, 857760878#32, 2036477234#32, 1797285236#32, 0, 0, 0, 0, 0, 0, 0, 0, 0, 0, 0, 0])) 156 (0, 0)), (b5, .cells (cl u8 nz) 77 (0, 0)), (b3, .cells (cl u8 key) 23 (0, 0))] := m4.upd1 uq5
 refine rN (Qa (sR ?_))
 refine Zm (i64 0) ?_
 refine rN (Qh ?_)
 refine Vk 9 ?_
 refine Zq (sR ?_)
 refine Qd (Jc 0 8) ?_
 refine rN (Qa ?_)
 refine Za rfl Yx ?_
 refine Qo (Qc (Qa (Qh (sR ?_))))
 refine Zm (i64 0) <| Zx (i64 0) ?_
 refine rN (Qb ?_)
 refine Zm (i64 0) <| Qd (v := (i64 4)) (Yk 4 0) <| Zm (i64 0) <| Qd (v := (i64 0)) (Vw 4 0) <| Qd (Xj (i := 0) (j := 32) Xn Yr rfl (Yb (k := .i64) (i := 0) rfl) (Zd _ _) oM sD sD) <| U5 m5 (Qdd (Jz rfl) (Qat (sla b3 0 1 0 32 32) key _ (Rd.slaAll m5.h3 sD) sD)) fun w6 m6 => Qd (Xr 4 4 D6 Ze rfl) <| Vs m6 (Zi (f := u32) (l' := [1634760805#32, 857760878#32, 2036477234#32, 1797285236#32, Xa key, 0, 0, 0, 0, 0, 0, 0, 0, 0, 0, 0]) rfl Xb Ze rfl rfl m6.h1 Ya (.inl (aJ _))) fun w8 m8 => ?_
 refine Zp (Qe ?_)
 have m9 := Mem.drop [_] _ m8
 refine Qb <| Qd (v := (i64 1)) (Yk 0 1) <| Zm (i64 1) ?_
 refine rN (Zq (sR ?_))
 refine Qd (Jc 1 8) ?_
 refine rN (Qa ?_)
 refine Za rfl Yx ?_
 refine Qo (Qc (Qa (Qh (sR ?_))))
 refine Zm (i64 1) <| Zx (i64 1) ?_
 refine rN (Qb ?_)
 refine Zm (i64 1) <| Qd (v := (i64 5)) (Yk 4 1) <| Zm (i64 1) <| Qd (v := (i64 4)) (Vw 4 1) <| Qd (Xj (i := 4) (j := 32) Xn Yr rfl (Yb (k := .i64) (i := 4) rfl) (Zd _ _) oM sD sD) <| U5 m9 (Qdd (Jz rfl) (Qat (sla b3 0 1 4 32 32) ((key.drop 4).take 28) _ (bC (l' := (key.drop 4).take 28) (Rd.sla m9.h2 sD oM sD sD) rfl) sD)) fun w10 m10 => Qd (Xr 5 5 D6 Ze rfl) <| Ye m10 (Zi (f := u32) (l' := [1634760805#32, 857760878#32, 2036477234#32, 1797285236#32, Xa key, Xa ((key.drop 4).take 28), 0, 0, 0, 0, 0, 0, 0, 0, 0, 0]) rfl Xb Ze rfl rfl m10.h0 Ya (.inl (aJ _))) fun w12 m12 => ?_
 refine Zp (Qe (Qb ?_))
 refine Qd (v := (i64 2)) (Yk 1 1) <| Zm (i64 2) ?_
 refine rN (Zq (sR ?_))
 refine Qd (Jc 2 8) ?_
 refine rN (Qa ?_)
 refine Za rfl Yx ?_
 refine Qo (Qc (Qa (Qh (sR ?_))))
 refine Zm (i64 2) <| Zx (i64 2) ?_
 refine rN (Qb ?_)
 refine Zm (i64 2) <| Qd (v := (i64 6)) (Yk 4 2) <| Zm (i64 2) <| Qd (v := (i64 8)) (Vw 4 2) <| Qd (Xj (i := 8) (j := 32) Xn Yr rfl (Yb (k := .i64) (i := 8) rfl) (Zd _ _) oM sD sD) <| U5 m12 (Qdd (Jz rfl) (Qat (sla b3 0 1 8 32 32) ((key.drop 8).take 24) _ (bC (l' := (key.drop 8).take 24) (Rd.sla m12.h2 sD oM sD sD) rfl) sD)) fun w13 m13 => Qd (Xr 6 6 D6 Ze rfl) <| Ye m13 (Zi (f := u32) (l' := [1634760805#32, 857760878#32, 2036477234#32, 1797285236#32, Xa key, Xa ((key.drop 4).take 28), Xa ((key.drop 8).take 24), 0, 0, 0, 0, 0, 0, 0, 0, 0]) rfl Xb Ze rfl rfl m13.h0 Ya (.inl (aJ _))) fun w15 m15 => ?_
 refine Zp (Qe (Qb ?_))
 refine Qd (v := (i64 3)) (Yk 2 1) <| Zm (i64 3) ?_
 refine rN (Zq (sR ?_))
 refine Qd (Jc 3 8) ?_
 refine rN (Qa ?_)
 refine Za rfl Yx ?_
 refine Qo (Qc (Qa (Qh (sR ?_))))
 refine Zm (i64 3) <| Zx (i64 3) ?_
 refine rN (Qb ?_)
 refine Zm (i64 3) <| Qd (v := (i64 7)) (Yk 4 3) <| Zm (i64 3) <| Qd (v := (i64 12)) (Vw 4 3) <| Qd (Xj (i := 12) (j := 32) Xn Yr rfl (Yb (k := .i64) (i := 12) rfl) (Zd _ _) oM sD sD) <| U5 m15 (Qdd (Jz rfl) (Qat (sla b3 0 1 12 32 32) ((key.drop 12).take 20) _ (bC (l' := (key.drop 12).take 20) (Rd.sla m15.h2 sD oM sD sD) rfl) sD)) fun w16 m16 => Qd (Xr 7 7 D6 Ze rfl) <| Ye m16 (Zi (f := u32) (l' := [1634760805#32, 857760878#32, 2036477234#32, 1797285236#32, Xa key, Xa ((key.drop 4).take 28), Xa ((key.drop 8).take 24), Xa ((key.drop 12).take 20), 0, 0, 0, 0, 0, 0, 0, 0]) rfl Xb Ze rfl rfl m16.h0 Ya (.inl (aJ _))) fun w18 m18 => ?_
 refine Zp (Qe (Qb ?_))
 refine Qd (v := (i64 4)) (Yk 3 1) <| Zm (i64 4) ?_
 refine rN (Zq (sR ?_))
 refine Qd (Jc 4 8) ?_
 refine rN (Qa ?_)
 refine Za rfl Yx ?_
 refine Qo (Qc (Qa (Qh (sR ?_))))
 refine Zm (i64 4) <| Zx (i64 4) ?_
 refine rN (Qb ?_)
 refine Zm (i64 4) <| Qd (v := (i64 8)) (Yk 4 4) <| Zm (i64 4) <| Qd (v := (i64 16)) (Vw 4 4) <| Qd (Xj (i := 16) (j := 32) Xn Yr rfl (Yb (k := .i64) (i := 16) rfl) (Zd _ _) oM sD sD) <| U5 m18 (Qdd (Jz rfl) (Qat (sla b3 0 1 16 32 32) ((key.drop 16).take 16) _ (bC (l' := (key.drop 16).take 16) (Rd.sla m18.h2 sD oM sD sD) rfl) sD)) fun w19 m19 => Qd (Xr 8 8 D6 Ze rfl) <| Ye m19 (Zi (f := u32) (l' := [1634760805#32, 857760878#32, 2036477234#32, 1797285236#32, Xa key, Xa ((key.drop 4).take 28), Xa ((key.drop 8).take 24), Xa ((key.drop 12).take 20), Xa ((key.drop 16).take 16), 0, 0, 0, 0, 0, 0, 0]) rfl Xb Ze rfl rfl m19.h0 Ya (.inl (aJ _))) fun w21 m21 => ?_
 refine Zp (Qe (Qb ?_))
 refine Qd (v := (i64 5)) (Yk 4 1) <| Zm (i64 5) ?_
 refine rN (Zq (sR ?_))
 refine Qd (Jc 5 8) ?_
 refine rN (Qa ?_)
 refine Za rfl Yx ?_
 refine Qo (Qc (Qa (Qh (sR ?_))))
 refine Zm (i64 5) <| Zx (i64 5) ?_
 refine rN (Qb ?_)
 refine Zm (i64 5) <| Qd (v := (i64 9)) (Yk 4 5) <| Zm (i64 5) <| Qd (v := (i64 20)) (Vw 4 5) <| Qd (Xj (i := 20) (j := 32) Xn Yr rfl (Yb (k := .i64) (i := 20) rfl) (Zd _ _) oM sD sD) <| U5 m21 (Qdd (Jz rfl) (Qat (sla b3 0 1 20 32 32) ((key.drop 20).take 12) _ (bC (l' := (key.drop 20).take 12) (Rd.sla m21.h2 sD oM sD sD) rfl) sD)) fun w22 m22 => Qd (Xr 9 9 D6 Ze rfl) <| Ye m22 (Zi (f := u32) (l' := [1634760805#32, 857760878#32, 2036477234#32, 1797285236#32, Xa key, Xa ((key.drop 4).take 28), Xa ((key.drop 8).take 24), Xa ((key.drop 12).take 20), Xa ((key.drop 16).take 16), Xa ((key.drop 20).take 12), 0, 0, 0, 0, 0, 0]) rfl Xb Ze rfl rfl m22.h0 Ya (.inl (aJ _))) fun w24 m24 => ?_
 refine Zp (Qe (Qb ?_))
 refine Qd (v := (i64 6)) (Yk 5 1) <| Zm (i64 6) ?_
 refine rN (Zq (sR ?_))
 refine Qd (Jc 6 8) ?_
 refine rN (Qa ?_)
 refine Za rfl Yx ?_
 refine Qo (Qc (Qa (Qh (sR ?_))))
 refine Zm (i64 6) <| Zx (i64 6) <| rN ?_
 refine CW.abs (fun g => g 0 = (agg u8 key) ∧ g 1 = (u32 cr) ∧ g 2 = (agg u8 nz) ∧ g 3 = (ptr b3 0) ∧ g 5 = (ptr b5 0) ∧ g 6 = (ptr b6 0) ∧ g 7 = (i64 6) ∧ g 12 = (i64 6) ∧ g 13 = (bl true) ∧ True) ⟨rfl, rfl, rfl, rfl, rfl, rfl, rfl, rfl, rfl, trivial⟩ ?_
 rintro fr25 ⟨s0, s1, s2, s3, s5, s6, s7, s12, s13, _⟩
 refine Qb <| X9 s7 <| Qd (v := (i64 10)) (Yk 4 6) <| X9 s7 <| Qd (v := (i64 24)) (Vw 4 6) <| Qd (Xj (i := 24) (j := 32) Xn Yr s3 (Yb (k := .i64) (i := 24) rfl) (Zd _ _) oM sD sD) <| U5 m24 (Qdd (Jz rfl) (Qat (sla b3 0 1 24 32 32) ((key.drop 24).take 8) _ (bC (l' := (key.drop 24).take 8) (Rd.sla m24.h2 sD oM sD sD) rfl) sD)) fun w26 m26 => Qd (Xr 10 10 D6 Ze s6) <| Ye m26 (Zi (f := u32) (l' := [1634760805#32, 857760878#32, 2036477234#32, 1797285236#32, Xa key, Xa ((key.drop 4).take 28), Xa ((key.drop 8).take 24), Xa ((key.drop 12).take 20), Xa ((key.drop 16).take 16), Xa ((key.drop 20).take 12), Xa ((key.drop 24).take 8), 0, 0, 0, 0, 0]) rfl Xb Ze rfl rfl m26.h0 Ya (.inl (aJ _))) fun w28 m28 => ?_
 refine Zp (Qe (Qb ?_))
 refine Qd (v := (i64 7)) (Zg (a := 6) (b := 1) s12 rfl oM oM) <| Zm (i64 7) ?_
 refine rN (Zq (sR ?_))
 refine Qd (Jc 7 8) ?_
 refine rN (Qa ?_)
 refine Za rfl Yx ?_
 refine Qo (Qc (Qa (Qh (sR ?_))))
 refine Zm (i64 7) <| Zx (i64 7) ?_
 refine rN (Qb ?_)
 refine Zm (i64 7) <| Qd (v := (i64 11)) (Yk 4 7) <| Zm (i64 7) <| Qd (v := (i64 28)) (Vw 4 7) <| Qd (Xj (i := 28) (j := 32) Xn Yr s3 (Yb (k := .i64) (i := 28) rfl) (Zd _ _) oM sD sD) <| U5 m28 (Qdd (Jz rfl) (Qat (sla b3 0 1 28 32 32) ((key.drop 28).take 4) _ (bC (l' := (key.drop 28).take 4) (Rd.sla m28.h2 sD oM sD sD) rfl) sD)) fun w29 m29 => Qd (Xr 11 11 D6 Ze s6) <| Ye m29 (Zi (f := u32) (l' := [1634760805#32, 857760878#32, 2036477234#32, 1797285236#32, Xa key, Xa ((key.drop 4).take 28), Xa ((key.drop 8).take 24), Xa ((key.drop 12).take 20), Xa ((key.drop 16).take 16), Xa ((key.drop 20).take 12), Xa ((key.drop 24).take 8), Xa ((key.drop 28).take 4), 0, 0, 0, 0]) rfl Xb Ze rfl rfl m29.h0 Ya (.inl (aJ _))) fun w31 m31 => ?_
 refine Zp (Qe (Qb ?_))
 refine Qd (v := (i64 8)) (Yk 7 1) <| Zm (i64 8) ?_
 refine rN (Zq (sR ?_))
 refine Qd (Jc 8 8) ?_
 refine rN (Qa ?_)
 refine Ja rfl Yx <| X3 ?_
 refine Qj (Qj (Xk ?_))
 refine sR <| X9 s1 <| Qd (Xr 12 12 D6 Ze s6) <| Ye m31 (Zi (f := u32) (l' := [1634760805#32, 857760878#32, 2036477234#32, 1797285236#32, Xa key, Xa ((key.drop 4).take 28), Xa ((key.drop 8).take 24), Xa ((key.drop 12).take 20), Xa ((key.drop 16).take 16), Xa ((key.drop 20).take 12), Xa ((key.drop 24).take 8), Xa ((key.drop 28).take 4), cr, 0, 0, 0]) rfl Xb Ze rfl rfl m31.h0 Ya (.inl (aJ _))) fun w32 m32 => ?_
 refine rN (Qa (sR ?_))
 refine Zm (i64 0) ?_
 refine rN (Qh ?_)
 refine Vk 4 ?_
 refine Zq (sR ?_)
 refine Qd (Jc 0 3) ?_
 refine rN (Qa ?_)
 refine Za rfl Yx ?_
 refine Qo (Qc (Qa (Qh (sR ?_))))
 refine Zm (i64 0) <| Zx (i64 0) ?_
 refine rN (Qb ?_)
 refine Zm (i64 0) <| Qd (v := (i64 13)) (Yk 13 0) <| Zm (i64 0) <| Qd (v := (i64 0)) (Vw 4 0) <| Qd (Xj (i := 0) (j := 12) Pm Yr s5 (Yb (k := .i64) (i := 0) rfl) (Zd _ _) oM sD sD) <| U5 m32 (Qdd (Jz rfl) (Qat (sla b5 0 1 0 12 12) nz _ (Rd.slaAll m32.h1 sD) sD)) fun w33 m33 => Qd (Xr 13 13 D6 Ze s6) <| Ye m33 (Zi (f := u32) (l' := [1634760805#32, 857760878#32, 2036477234#32, 1797285236#32, Xa key, Xa ((key.drop 4).take 28), Xa ((key.drop 8).take 24), Xa ((key.drop 12).take 20), Xa ((key.drop 16).take 16), Xa ((key.drop 20).take 12), Xa ((key.drop 24).take 8), Xa ((key.drop 28).take 4), cr, Xa nz, 0, 0]) rfl Xb Ze rfl rfl m33.h0 Ya (.inl (aJ _))) fun w35 m35 => ?_
 refine Zp (Qe (Qb ?_))
 refine Qd (v := (i64 1)) (Yk 0 1) <| Zm (i64 1) ?_
 refine rN (Zq (sR ?_))
 refine Qd (Jc 1 3) ?_
 refine rN (Qa ?_)
 refine Za rfl Yx ?_
 refine Qo (Qc (Qa (Qh (sR ?_))))
 refine Zm (i64 1) <| Zx (i64 1) ?_
 refine rN (Qb ?_)
 refine Zm (i64 1) <| Qd (v := (i64 14)) (Yk 13 1) <| Zm (i64 1) <| Qd (v := (i64 4)) (Vw 4 1) <| Qd (Xj (i := 4) (j := 12) Pm Yr s5 (Yb (k := .i64) (i := 4) rfl) (Zd _ _) oM sD sD) <| U5 m35 (Qdd (Jz rfl) (Qat (sla b5 0 1 4 12 12) ((nz.drop 4).take 8) _ (bC (l' := (nz.drop 4).take 8) (Rd.sla m35.h1 sD oM sD sD) rfl) sD)) fun w36 m36 => Qd (Xr 14 14 D6 Ze s6) <| Ye m36 (Zi (f := u32) (l' := [1634760805#32, 857760878#32, 2036477234#32, 1797285236#32, Xa key, Xa ((key.drop 4).take 28), Xa ((key.drop 8).take 24), Xa ((key.drop 12).take 20), Xa ((key.drop 16).take 16), Xa ((key.drop 20).take 12), Xa ((key.drop 24).take 8), Xa ((key.drop 28).take 4), cr, Xa nz, Xa ((nz.drop 4).take 8), 0]) rfl Xb Ze rfl rfl m36.h0 Ya (.inl (aJ _))) fun w38 m38 => ?_
 refine Zp (Qe (Qb ?_))
 refine Qd (v := (i64 2)) (Yk 1 1) <| Zm (i64 2) ?_
 refine rN (Zq (sR ?_))
 refine Qd (Jc 2 3) ?_
 refine rN (Qa ?_)
 refine Za rfl Yx ?_
 refine Qo (Qc (Qa (Qh (sR ?_))))
 refine Zm (i64 2) <| Zx (i64 2) ?_
 refine rN (Qb ?_)
 refine Zm (i64 2) <| Qd (v := (i64 15)) (Yk 13 2) <| Zm (i64 2) <| Qd (v := (i64 8)) (Vw 4 2) <| Qd (Xj (i := 8) (j := 12) Pm Yr s5 (Yb (k := .i64) (i := 8) rfl) (Zd _ _) oM sD sD) <| U5 m38 (Qdd (Jz rfl) (Qat (sla b5 0 1 8 12 12) ((nz.drop 8).take 4) _ (bC (l' := (nz.drop 8).take 4) (Rd.sla m38.h1 sD oM sD sD) rfl) sD)) fun w39 m39 => Qd (Xr 15 15 D6 Ze s6) <| Ye m39 (Zi (f := u32) (l' := [1634760805#32, 857760878#32, 2036477234#32, 1797285236#32, Xa key, Xa ((key.drop 4).take 28), Xa ((key.drop 8).take 24), Xa ((key.drop 12).take 20), Xa ((key.drop 16).take 16), Xa ((key.drop 20).take 12), Xa ((key.drop 24).take 8), Xa ((key.drop 28).take 4), cr, Xa nz, Xa ((nz.drop 4).take 8), Xa ((nz.drop 8).take 4)]) rfl Xb Ze rfl rfl m39.h0 Ya (.inl (aJ _))) fun w41 m41 => ?_
 refine Zp (Qe (Qb ?_))
 refine Qd (v := (i64 3)) (Yk 2 1) <| Zm (i64 3) ?_
 refine rN (Zq (sR ?_))
 refine Qd (Jc 3 3) ?_
 refine rN (Qa ?_)
 refine Ja rfl Yx <| X3 ?_
 refine Qj (Qj (Xk ?_))
 refine sR <| Qd (Qn D6 rfl Qfr s6 m41.h0 sZ) <| Ye m41 (Qg (f := u32) (l := [1634760805#32, 857760878#32, 2036477234#32, 1797285236#32, Xa key, Xa ((key.drop 4).take 28), Xa ((key.drop 8).take 24), Xa ((key.drop 12).take 20), Xa ((key.drop 16).take 16), Xa ((key.drop 20).take 12), Xa ((key.drop 24).take 8), Xa ((key.drop 28).take 4), cr, Xa nz, Xa ((nz.drop 4).take 8), Xa ((nz.drop 8).take 4)]) Xb Qfr s6 rfl sD m41.h0 sZ rfl) fun w42 m42 => ?_
 refine rN (Z8 ?_)
 refine Qq [(agg u32 ([1634760805#32, 857760878#32, 2036477234#32, 1797285236#32, Xa key, Xa ((key.drop 4).take 28), Xa ((key.drop 8).take 24), Xa ((key.drop 12).take 20), Xa ((key.drop 16).take 16), Xa ((key.drop 20).take 12), Xa ((key.drop 24).take 8), Xa ((key.drop 28).take 4), cr, Xa nz, Xa ((nz.drop 4).take 8), Xa ((nz.drop 8).take 4)]))] ⟨⟨_, s6, Xm D6 rfl Qfr m42.h0 sZ⟩, trivial⟩ ?_
 exact ⟨rfl, m42.toExt⟩
theorem c_block (key : Z4) (cr : BitVec 32) (nz : Z4) (w0 : World)  (hk : key.length = 32) (hn : nz.length = 12) : Xz prog 89 #[(agg u8 key), (u32 cr), (agg u8 nz)] w0 (fun r w1 => r = (agg u8 (Yp key cr nz)) ∧ Ext w0 w1) := by
 refine Qz (args := [(agg u8 key), (u32 cr), (agg u8 nz)]) func89 rfl ntmps89 results89 rfl ?_
 have m0 : Mem w0 (Qs w0) [] := aY w0
 refine sR <| Y5 (Z5 (f := u8) (l := key) m0 rfl) fun w1 b3 m1 => Y5 (Z5 (f := u8) (l := nz) m1 rfl) fun w2 b5 m2 => Y5 (Q7 m2 Qlg) fun w3 b6 m3 => ?_
 refine rN (sR ?_)
 refine Qd (Qn Xn rfl Zh rfl m3.h2 sZ) <| Zm (u32 cr) <| Qd (Qn Pm rfl Qba rfl m3.h1 sZ) <| U5 m3 (oc103 (Dy rfl rfl rfl) (c_begin _ cr _ _ sD sD)) fun w4 m4 => Y5 (Q7 m4 Qfr) fun w6 b7 m6 => Ye m6 (Qg (f := u32) (l := Vb Xa key cr nz) Xb Qfr rfl rfl sD m6.h0 sZ rfl) fun w7 m7 => ?_
 refine rN (sR ?_)
 refine Qd (Qn D6 rfl Qfr rfl m7.h0 sZ) <| Y5 (Q7 m7 Qfr) fun w8 b8 m8 => Ye m8 (Qg (f := u32) (l := Vb Xa key cr nz) Xb Qfr rfl rfl sD m8.h0 sZ rfl) fun w9 m9 => ?_
 refine rN (Qa (sR ?_))
 refine Zm (i64 0) ?_
 refine rN (Qh ?_)
 refine Y1 (fun g wv => ∃ (k : Nat), (k ≤ 10) ∧ g 0 = (agg u8 key) ∧ g 1 = (u32 cr) ∧ g 2 = (agg u8 nz) ∧ g 3 = (ptr b3 0) ∧ g 5 = (ptr b5 0) ∧ g 6 = (ptr b6 0) ∧ g 7 = (ptr b7 0) ∧ g 8 = (ptr b8 0) ∧ g 17 = (i64 (k : Int)) ∧ Mem wv (Qs w0) [(b8, .cells (cl u32 (Yo dbl k (Vb Xa key cr nz))) 156 (0, 0)), (b7, .cells (cl u32 (Vb Xa key cr nz)) 156 (0, 0)), (b6, .cells (cl u8 (List.replicate 64 0)) 139 (0, 0)), (b5, .cells (cl u8 nz) 77 (0, 0)), (b3, .cells (cl u8 key) 23 (0, 0))]) (fun g wv => (10 - RowKit.intOf (g 17)).toNat) ?_ ?_
 ·exact ⟨0, oM, rfl, rfl, rfl, rfl, rfl, rfl, rfl, rfl, rfl, m9⟩
 rintro fr10 w11 ⟨k, hk1, s0, s1, s2, s3, s5, s6, s7, s8, s17, m11⟩
 have z17 := s17
 refine sR <| Qd (Xd (b := 10) s17 rfl) ?_
 refine rN (Qa ?_)
 refine Zz rfl (fun hc12 => ?_) (fun hc12 => ?_)
 ·
  have hc12p := of_decide_eq_true hc12
  refine Qo (Qc (Qa (Qh (Qa (sR ?_)))))
  refine Zm (i64 0) ?_
  refine rN (Qh ?_)
  refine Vk 5 ?_
  refine Zq (sR ?_)
  refine Qd (Jc 0 4) ?_
  refine rN (Qa ?_)
  refine Za rfl Yx ?_
  refine Qo (Qc (Qa (Qh (sR ?_))))
  refine Zm (i64 0) <| Zx (i64 0) ?_
  refine rN (Qb ?_)
  refine Zm (i64 0) <| Zm (i64 0) <| Qd (v := (i64 4)) (Yk 4 0) <| Zm (i64 0) <| Qd (v := (i64 8)) (Yk 8 0) <| Zm (i64 0) <| Qd (v := (i64 12)) (Yk 12 0) <| Qd (V9 i64 [0, 4, 8, 12] Zw Qen Hm Uw rfl rfl) ?_
  have hF14 : Mem _ _ ([(b8, .cells (cl u32 (Yo dbl k (Vb Xa key cr nz))) 156 (0, 0))] ++ ([_, _, _, _])) := m11
  refine Vr (Qh6 (Xl s8 rfl) (Aj b8 (Yo dbl k (Vb Xa key cr nz)) (0 : Int) (4 : Int) (8 : Int) (12 : Int) _ _ (dI hF14) sD sD sD sD sD)) ?_
  rintro _ w13 ⟨rfl, k_w13⟩
  have m13 : Mem _ _ [_, _, _, _, _] := dJ hF14 k_w13
  refine Zp (Qe (Qb ?_))
  refine Qd (v := (i64 1)) (Yk 0 1) <| Zm (i64 1) ?_
  refine rN (Zq (sR ?_))
  refine Qd (Jc 1 4) ?_
  refine rN (Qa ?_)
  refine Za rfl Yx ?_
  refine Qo (Qc (Qa (Qh (sR ?_))))
  refine Zm (i64 1) <| Zx (i64 1) ?_
  refine rN (Qb ?_)
  refine Zm (i64 1) <| Zm (i64 1) <| Qd (v := (i64 5)) (Yk 4 1) <| Zm (i64 1) <| Qd (v := (i64 9)) (Yk 8 1) <| Zm (i64 1) <| Qd (v := (i64 13)) (Yk 12 1) <| Qd (V9 i64 [1, 5, 9, 13] Zw Qen Hm Uw rfl rfl) ?_
  have hF17 : Mem _ _ ([(b8, .cells (cl u32 (Aw (Yo dbl k (Vb Xa key cr nz)) (0 : Int).toNat (4 : Int).toNat (8 : Int).toNat (12 : Int).toNat)) 156 (0, 0))] ++ ([_, _, _, _])) := m13
  refine Vr (Qh6 (Xl s8 rfl) (Aj b8 (Aw (Yo dbl k (Vb Xa key cr nz)) (0 : Int).toNat (4 : Int).toNat (8 : Int).toNat (12 : Int).toNat) (1 : Int) (5 : Int) (9 : Int) (13 : Int) _ _ (dI hF17) sD sD sD sD sD)) ?_
  rintro _ w16 ⟨rfl, k_w16⟩
  have m16 : Mem _ _ [_, _, _, _, _] := dJ hF17 k_w16
  refine Zp (Qe (Qb ?_))
  refine Qd (v := (i64 2)) (Yk 1 1) <| Zm (i64 2) ?_
  refine rN (Zq (sR ?_))
  refine Qd (Jc 2 4) ?_
  refine rN (Qa ?_)
  refine Za rfl Yx ?_
  refine Qo (Qc (Qa (Qh (sR ?_))))
  refine Zm (i64 2) <| Zx (i64 2) ?_
  refine rN (Qb ?_)
  refine Zm (i64 2) <| Zm (i64 2) <| Qd (v := (i64 6)) (Yk 4 2) <| Zm (i64 2) <| Qd (v := (i64 10)) (Yk 8 2) <| Zm (i64 2) <| Qd (v := (i64 14)) (Yk 12 2) <| Qd (V9 i64 [2, 6, 10, 14] Zw Qen Hm Uw rfl rfl) ?_
  have hF20 : Mem _ _ ([(b8, .cells (cl u32 (Aw (Aw (Yo dbl k (Vb Xa key cr nz)) (0 : Int).toNat (4 : Int).toNat (8 : Int).toNat (12 : Int).toNat) (1 : Int).toNat (5 : Int).toNat (9 : Int).toNat (13 : Int).toNat)) 156 (0, 0))] ++ ([_, _, _, _])) := m16
  refine Vr (Qh6 (Xl s8 rfl) (Aj b8 (Aw (Aw (Yo dbl k (Vb Xa key cr nz)) (0 : Int).toNat (4 : Int).toNat (8 : Int).toNat (12 : Int).toNat) (1 : Int).toNat (5 : Int).toNat (9 : Int).toNat (13 : Int).toNat) (2 : Int) (6 : Int) (10 : Int) (14 : Int) _ _ (dI hF20) sD sD sD sD sD)) ?_
  rintro _ w19 ⟨rfl, k_w19⟩
  have m19 : Mem _ _ [_, _, _, _, _] := dJ hF20 k_w19
  refine Zp (Qe (Qb ?_))
  refine Qd (v := (i64 3)) (Yk 2 1) <| Zm (i64 3) ?_
  refine rN (Zq (sR ?_))
  refine Qd (Jc 3 4) ?_
  refine rN (Qa ?_)
  refine Za rfl Yx ?_
  refine Qo (Qc (Qa (Qh (sR ?_))))
  refine Zm (i64 3) <| Zx (i64 3) ?_
  refine rN (Qb ?_)
  refine Zm (i64 3) <| Zm (i64 3) <| Qd (v := (i64 7)) (Yk 4 3) <| Zm (i64 3) <| Qd (v := (i64 11)) (Yk 8 3) <| Zm (i64 3) <| Qd (v := (i64 15)) (Yk 12 3) <| Qd (V9 i64 [3, 7, 11, 15] Zw Qen Hm Uw rfl rfl) ?_
  have hF23 : Mem _ _ ([(b8, .cells (cl u32 (Aw (Aw (Aw (Yo dbl k (Vb Xa key cr nz)) (0 : Int).toNat (4 : Int).toNat (8 : Int).toNat (12 : Int).toNat) (1 : Int).toNat (5 : Int).toNat (9 : Int).toNat (13 : Int).toNat) (2 : Int).toNat (6 : Int).toNat (10 : Int).toNat (14 : Int).toNat)) 156 (0, 0))] ++ ([_, _, _, _])) := m19
  refine Vr (Qh6 (Xl s8 rfl) (Aj b8 (Aw (Aw (Aw (Yo dbl k (Vb Xa key cr nz)) (0 : Int).toNat (4 : Int).toNat (8 : Int).toNat (12 : Int).toNat) (1 : Int).toNat (5 : Int).toNat (9 : Int).toNat (13 : Int).toNat) (2 : Int).toNat (6 : Int).toNat (10 : Int).toNat (14 : Int).toNat) (3 : Int) (7 : Int) (11 : Int) (15 : Int) _ _ (dI hF23) sD sD sD sD sD)) ?_
  rintro _ w22 ⟨rfl, k_w22⟩
  have m22 : Mem _ _ [_, _, _, _, _] := dJ hF23 k_w22
  refine Zp (Qe (Qb ?_))
  refine Qd (v := (i64 4)) (Yk 3 1) <| Zm (i64 4) ?_
  refine rN (Zq (sR ?_))
  refine Qd (Jc 4 4) ?_
  refine rN (Qa ?_)
  refine Ja rfl Yx <| X3 ?_
  refine Qj (Qj (Xk ?_))
  refine sR <| Zm (i64 0) ?_
  refine rN (Gh ?_)
  refine Vk 5 ?_
  refine Zq (sR ?_)
  refine Qd (Jc 0 4) ?_
  refine rN (Qa ?_)
  refine Za rfl Yx ?_
  refine Qo (Qc (Qa (Qh (sR ?_))))
  refine Zm (i64 0) <| Zx (i64 0) ?_
  refine rN (Qb ?_)
  refine Zm (i64 0) <| Zm (i64 0) <| Qd (v := (i64 1)) (Yk 0 1) <| Qd (v := (i64 1)) (Vy (a := 1) (b := 3) rfl rfl oM oM) <| Qd (v := (i64 5)) (Yk 4 1) <| Zm (i64 0) <| Qd (v := (i64 2)) (Yk 0 2) <| Qd (v := (i64 2)) (Vy (a := 2) (b := 3) rfl rfl oM oM) <| Qd (v := (i64 10)) (Yk 8 2) <| Zm (i64 0) <| Qd (v := (i64 3)) (Yk 0 3) <| Qd (v := (i64 3)) (Vy (a := 3) (b := 3) rfl rfl oM oM) ?_
  refine Qd (v := (i64 15)) (Yk 12 3) <| Qd (V9 i64 [0, 5, 10, 15] Zw Qen Hm Uw rfl rfl) ?_
  have hF26 : Mem _ _ ([(b8, .cells (cl u32 (Aw (Aw (Aw (Aw (Yo dbl k (Vb Xa key cr nz)) (0 : Int).toNat (4 : Int).toNat (8 : Int).toNat (12 : Int).toNat) (1 : Int).toNat (5 : Int).toNat (9 : Int).toNat (13 : Int).toNat) (2 : Int).toNat (6 : Int).toNat (10 : Int).toNat (14 : Int).toNat) (3 : Int).toNat (7 : Int).toNat (11 : Int).toNat (15 : Int).toNat)) 156 (0, 0))] ++ ([_, _, _, _])) := m22
  refine Vr (Qh6 (Xl s8 rfl) (Aj b8 (Aw (Aw (Aw (Aw (Yo dbl k (Vb Xa key cr nz)) (0 : Int).toNat (4 : Int).toNat (8 : Int).toNat (12 : Int).toNat) (1 : Int).toNat (5 : Int).toNat (9 : Int).toNat (13 : Int).toNat) (2 : Int).toNat (6 : Int).toNat (10 : Int).toNat (14 : Int).toNat) (3 : Int).toNat (7 : Int).toNat (11 : Int).toNat (15 : Int).toNat) (0 : Int) (5 : Int) (10 : Int) (15 : Int) _ _ (dI hF26) sD sD sD sD sD)) ?_
  rintro _ w25 ⟨rfl, k_w25⟩
  have m25 : Mem _ _ [_, _, _, _, _] := dJ hF26 k_w25
  refine Zp (Qe (Qb ?_))
  refine Qd (v := (i64 1)) (Yk 0 1) <| Zm (i64 1) ?_
  refine rN (Zq (sR ?_))
  refine Qd (Jc 1 4) <| rN ?_
  refine CW.abs (fun g => g 0 = (agg u8 key) ∧ g 1 = (u32 cr) ∧ g 2 = (agg u8 nz) ∧ g 3 = (ptr b3 0) ∧ g 5 = (ptr b5 0) ∧ g 6 = (ptr b6 0) ∧ g 7 = (ptr b7 0) ∧ g 8 = (ptr b8 0) ∧ g 9 = (i64 3) ∧ g 10 = (i64 0) ∧ g 17 = (i64 (k : Int)) ∧ g 18 = (bl (decide ((k : Int) < 10))) ∧ g 19 = (i64 4) ∧ g 20 = (bl false) ∧ g 32 = (i64 1) ∧ g 33 = (bl true) ∧ True) ⟨s0, s1, s2, s3, s5, s6, s7, s8, rfl, rfl, s17, rfl, rfl, rfl, rfl, rfl, trivial⟩ ?_
  rintro fr28 ⟨s0, s1, s2, s3, s5, s6, s7, s8, s9, s10, s17, s18, s19, s20, s32, s33, _⟩
  refine Qa <| Za s33 Yx ?_
  refine Qo (Qc (Qa (Qh (sR ?_))))
  refine X9 s32 <| Zx (i64 1) ?_
  refine rN (Qb ?_)
  refine Zm (i64 1) <| Zm (i64 1) <| Qd (v := (i64 2)) (Yk 1 1) <| Qd (v := (i64 2)) (Vy (a := 2) (b := 3) rfl rfl oM oM) <| Qd (v := (i64 6)) (Yk 4 2) <| Zm (i64 1) <| Qd (v := (i64 3)) (Yk 1 2) <| Qd (v := (i64 3)) (Vy (a := 3) (b := 3) rfl rfl oM oM) <| Qd (v := (i64 11)) (Yk 8 3) <| Zm (i64 1) <| Qd (v := (i64 4)) (Yk 1 3) <| Qd (v := (i64 0)) (Vy (a := 4) (b := 3) rfl rfl oM oM) ?_
  refine Qd (v := (i64 12)) (Yk 12 0) <| Qd (V9 i64 [1, 6, 11, 12] Zw Qen Hm Uw rfl rfl) ?_
  have hF30 : Mem _ _ ([(b8, .cells (cl u32 (Aw (Aw (Aw (Aw (Aw (Yo dbl k (Vb Xa key cr nz)) (0 : Int).toNat (4 : Int).toNat (8 : Int).toNat (12 : Int).toNat) (1 : Int).toNat (5 : Int).toNat (9 : Int).toNat (13 : Int).toNat) (2 : Int).toNat (6 : Int).toNat (10 : Int).toNat (14 : Int).toNat) (3 : Int).toNat (7 : Int).toNat (11 : Int).toNat (15 : Int).toNat) (0 : Int).toNat (5 : Int).toNat (10 : Int).toNat (15 : Int).toNat)) 156 (0, 0))] ++ ([_, _, _, _])) := m25
  refine Vr (Qh6 (Xl s8 rfl) (Aj b8 (Aw (Aw (Aw (Aw (Aw (Yo dbl k (Vb Xa key cr nz)) (0 : Int).toNat (4 : Int).toNat (8 : Int).toNat (12 : Int).toNat) (1 : Int).toNat (5 : Int).toNat (9 : Int).toNat (13 : Int).toNat) (2 : Int).toNat (6 : Int).toNat (10 : Int).toNat (14 : Int).toNat) (3 : Int).toNat (7 : Int).toNat (11 : Int).toNat (15 : Int).toNat) (0 : Int).toNat (5 : Int).toNat (10 : Int).toNat (15 : Int).toNat) (1 : Int) (6 : Int) (11 : Int) (12 : Int) _ _ (dI hF30) sD sD sD sD sD)) ?_
  rintro _ w29 ⟨rfl, k_w29⟩
  have m29 : Mem _ _ [_, _, _, _, _] := dJ hF30 k_w29
  refine Zp (Qe (Qb ?_))
  refine Qd (v := (i64 2)) (Zg (a := 1) (b := 1) s32 rfl oM oM) <| Zm (i64 2) ?_
  refine rN (Zq (sR ?_))
  refine Qd (Jc 2 4) ?_
  refine rN (Qa ?_)
  refine Za rfl Yx ?_
  refine Qo (Qc (Qa (Qh (sR ?_))))
  refine Zm (i64 2) <| Zx (i64 2) ?_
  refine rN (Qb ?_)
  refine Zm (i64 2) <| Zm (i64 2) <| Qd (v := (i64 3)) (Yk 2 1) <| Qd (v := (i64 3)) (Vy (a := 3) (b := 3) rfl rfl oM oM) <| Qd (v := (i64 7)) (Yk 4 3) <| Zm (i64 2) <| Qd (v := (i64 4)) (Yk 2 2) <| Qd (v := (i64 0)) (Vy (a := 4) (b := 3) rfl rfl oM oM) <| Qd (v := (i64 8)) (Yk 8 0) <| Zm (i64 2) <| Qd (v := (i64 5)) (Yk 2 3) <| Qd (v := (i64 1)) (Vy (a := 5) (b := 3) rfl rfl oM oM) ?_
  refine Qd (v := (i64 13)) (Yk 12 1) <| Qd (V9 i64 [2, 7, 8, 13] Zw Qen Hm Uw rfl rfl) ?_
  have hF33 : Mem _ _ ([(b8, .cells (cl u32 (Aw (Aw (Aw (Aw (Aw (Aw (Yo dbl k (Vb Xa key cr nz)) (0 : Int).toNat (4 : Int).toNat (8 : Int).toNat (12 : Int).toNat) (1 : Int).toNat (5 : Int).toNat (9 : Int).toNat (13 : Int).toNat) (2 : Int).toNat (6 : Int).toNat (10 : Int).toNat (14 : Int).toNat) (3 : Int).toNat (7 : Int).toNat (11 : Int).toNat (15 : Int).toNat) (0 : Int).toNat (5 : Int).toNat (10 : Int).toNat (15 : Int).toNat) (1 : Int).toNat (6 : Int).toNat (11 : Int).toNat (12 : Int).toNat)) 156 (0, 0))] ++ ([_, _, _, _])) := m29
  refine Vr (Qh6 (Xl s8 rfl) (Aj b8 (Aw (Aw (Aw (Aw (Aw (Aw (Yo dbl k (Vb Xa key cr nz)) (0 : Int).toNat (4 : Int).toNat (8 : Int).toNat (12 : Int).toNat) (1 : Int).toNat (5 : Int).toNat (9 : Int).toNat (13 : Int).toNat) (2 : Int).toNat (6 : Int).toNat (10 : Int).toNat (14 : Int).toNat) (3 : Int).toNat (7 : Int).toNat (11 : Int).toNat (15 : Int).toNat) (0 : Int).toNat (5 : Int).toNat (10 : Int).toNat (15 : Int).toNat) (1 : Int).toNat (6 : Int).toNat (11 : Int).toNat (12 : Int).toNat) (2 : Int) (7 : Int) (8 : Int) (13 : Int) _ _ (dI hF33) sD sD sD sD sD)) ?_
  rintro _ w32 ⟨rfl, k_w32⟩
  have m32 : Mem _ _ [_, _, _, _, _] := dJ hF33 k_w32
  refine Zp (Qe (Qb ?_))
  refine Qd (v := (i64 3)) (Yk 2 1) <| Zm (i64 3) ?_
  refine rN (Zq (sR ?_))
  refine Qd (Jc 3 4) ?_
  refine rN (Qa ?_)
  refine Za rfl Yx ?_
  refine Qo (Qc (Qa (Qh (sR ?_))))
  refine Zm (i64 3) <| Zx (i64 3) ?_
  refine rN (Qb ?_)
  refine Zm (i64 3) <| Zm (i64 3) <| Qd (v := (i64 4)) (Yk 3 1) <| Qd (v := (i64 0)) (Vy (a := 4) (b := 3) rfl rfl oM oM) <| Qd (v := (i64 4)) (Yk 4 0) <| Zm (i64 3) <| Qd (v := (i64 5)) (Yk 3 2) <| Qd (v := (i64 1)) (Vy (a := 5) (b := 3) rfl rfl oM oM) <| Qd (v := (i64 9)) (Yk 8 1) <| Zm (i64 3) <| Qd (v := (i64 6)) (Yk 3 3) <| Qd (v := (i64 2)) (Vy (a := 6) (b := 3) rfl rfl oM oM) ?_
  refine Qd (v := (i64 14)) (Yk 12 2) <| Qd (V9 i64 [3, 4, 9, 14] Zw Qen Hm Uw rfl rfl) ?_
  have hF36 : Mem _ _ ([(b8, .cells (cl u32 (Aw (Aw (Aw (Aw (Aw (Aw (Aw (Yo dbl k (Vb Xa key cr nz)) (0 : Int).toNat (4 : Int).toNat (8 : Int).toNat (12 : Int).toNat) (1 : Int).toNat (5 : Int).toNat (9 : Int).toNat (13 : Int).toNat) (2 : Int).toNat (6 : Int).toNat (10 : Int).toNat (14 : Int).toNat) (3 : Int).toNat (7 : Int).toNat (11 : Int).toNat (15 : Int).toNat) (0 : Int).toNat (5 : Int).toNat (10 : Int).toNat (15 : Int).toNat) (1 : Int).toNat (6 : Int).toNat (11 : Int).toNat (12 : Int).toNat) (2 : Int).toNat (7 : Int).toNat (8 : Int).toNat (13 : Int).toNat)) 156 (0, 0))] ++ ([_, _, _, _])) := m32
  refine Vr (Qh6 (Xl s8 rfl) (Aj b8 (Aw (Aw (Aw (Aw (Aw (Aw (Aw (Yo dbl k (Vb Xa key cr nz)) (0 : Int).toNat (4 : Int).toNat (8 : Int).toNat (12 : Int).toNat) (1 : Int).toNat (5 : Int).toNat (9 : Int).toNat (13 : Int).toNat) (2 : Int).toNat (6 : Int).toNat (10 : Int).toNat (14 : Int).toNat) (3 : Int).toNat (7 : Int).toNat (11 : Int).toNat (15 : Int).toNat) (0 : Int).toNat (5 : Int).toNat (10 : Int).toNat (15 : Int).toNat) (1 : Int).toNat (6 : Int).toNat (11 : Int).toNat (12 : Int).toNat) (2 : Int).toNat (7 : Int).toNat (8 : Int).toNat (13 : Int).toNat) (3 : Int) (4 : Int) (9 : Int) (14 : Int) _ _ (dI hF36) sD sD sD sD sD)) ?_
  rintro _ w35 ⟨rfl, k_w35⟩
  have m35 : Mem _ _ [_, _, _, _, _] := dJ hF36 k_w35
  refine Zp (Qe (Qb ?_))
  refine Qd (v := (i64 4)) (Yk 3 1) <| Zm (i64 4) ?_
  refine rN (Zq (sR ?_))
  refine Qd (Jc 4 4) ?_
  refine rN (Qa ?_)
  refine Ja rfl Yx <| X3 ?_
  refine Qj (Qj (Xk ?_))
  refine Qe (Qb ?_)
  refine Qd (Zg (b := 1) s17 rfl oM oM) <| Zm (i64 ((k : Int) + 1)) <| rN ?_
  exact ⟨⟨k + 1, oM, s0, s1, s2, s3, s5, s6, s7, s8, rfl, m35⟩, Uj rfl z17 oM oM⟩
 ·
  have hc12p := of_decide_eq_false hc12
  obtain rfl : k = 10 := by omega
  refine X3 ?_
  refine Qj (Qj (Xk ?_))
  refine Qa (sR ?_)
  refine Zm (i64 0) ?_
  refine rN (Qh ?_)
  refine Y1 (fun g wv => ∃ (k2 : Nat), (k2 ≤ 64) ∧ g 0 = (agg u8 key) ∧ g 1 = (u32 cr) ∧ g 2 = (agg u8 nz) ∧ g 3 = (ptr b3 0) ∧ g 5 = (ptr b5 0) ∧ g 6 = (ptr b6 0) ∧ g 7 = (ptr b7 0) ∧ g 8 = (ptr b8 0) ∧ g 17 = (i64 (10 : Int)) ∧ g 18 = (bl (decide ((10 : Int) < 10))) ∧ g 52 = (i64 (k2 : Int)) ∧ Mem wv (Qs w0) [(b8, .cells (cl u32 (Yo dbl 10 (Vb Xa key cr nz))) 156 (0, 0)), (b7, .cells (cl u32 (Vb Xa key cr nz)) 156 (0, 0)), (b6, .cells (cl u8 (Yv (P6 (Yo dbl 10 (Vb Xa key cr nz)) (Vb Xa key cr nz)) 0 64 k2)) 139 (0, 0)), (b5, .cells (cl u8 nz) 77 (0, 0)), (b3, .cells (cl u8 key) 23 (0, 0))]) (fun g wv => (64 - RowKit.intOf (g 52)).toNat) ?_ ?_
  ·exact ⟨0, oM, s0, s1, s2, s3, s5, s6, s7, s8, s17, rfl, rfl, (by rw [Ei]; exact m11)⟩
  rintro fr38 w39 ⟨k2, hk2, s0, s1, s2, s3, s5, s6, s7, s8, s17, s18, s52, m39⟩
  have z52 := s52
  refine sR <| Qd (Xd (b := 64) s52 rfl) ?_
  refine rN (Qa ?_)
  refine Zz rfl (fun hc40 => ?_) (fun hc40 => ?_)
  ·
   have hc40p := of_decide_eq_true hc40
   refine Qo (Qc (Qa (Qh (sR ?_))))
   refine X9 s52 <| Zx (i64 (k2 : Int)) <| rN <| Xi (dl 15) 15 Xv <| J7 rfl (i64 (k2 : Int)) <| J7 rfl (i64 (k2 : Int)) <| X4 rfl (Um (b := 4) rfl rfl oM oM oM) <| X4 rfl (Zj (r := ((k2 : Int) / 4 : Int).toNat) oM D6 Ze s8 rfl oM sD) <| Yj (v := (u32 ((Yo dbl 10 (Vb Xa key cr nz)).getD (((k2 : Int) / 4 : Int).toNat) 0))) rfl (fun _ e' => Qi Xt rfl rfl (m39.ext e').h0 (Qu _ _ 0 sD)) <| J7 rfl (i64 (k2 : Int)) <| X4 rfl (Um (b := 4) rfl rfl oM oM oM) <| X4 rfl (Zj (r := ((k2 : Int) / 4 : Int).toNat) oM D6 Ze s7 rfl oM sD) ?_
   refine Yj (v := (u32 ((Vb Xa key cr nz).getD (((k2 : Int) / 4 : Int).toNat) 0))) rfl (fun _ e' => Qi Xt rfl rfl (m39.ext e').h1 (Qu _ _ 0 sD)) <| X4 rfl (Xx rfl rfl) <| J7 rfl (i64 (k2 : Int)) <| X4 rfl (Wp (b := 4) rfl rfl oM oM oM) <| X4 rfl (Ku (a := 8) rfl rfl oM oM) <| X4 rfl (Ul rfl rfl oM) <| X4 rfl (Fj ⟨_, Xt⟩ V3 rfl) <| Gf m39 fun w41 m41 => Qd (Zj (r := k2) oM uT139 Yr s6 rfl oM sD) <| Bj m41 (Xw (f := u8) (a := ((((Yo dbl 10 (Vb Xa key cr nz)).getD (((k2 : Int) / 4 : Int).toNat) 0) + ((Vb Xa key cr nz).getD (((k2 : Int) / 4 : Int).toNat) 0)) >>> (8 * ((k2 : Int) % 4)).toNat).setWidth 8) Qr Yr rfl rfl m41.h2 sD (.inl (aJ _))) fun w42 m42 => ?_
   refine Zp (Qe (Qb ?_))
   refine Qd (Zg (b := 1) s52 rfl oM oM) <| Zm (i64 ((k2 : Int) + 1)) <| rN ?_
   exact ⟨⟨k2 + 1, oM, s0, s1, s2, s3, s5, s6, s7, s8, s17, s18, rfl, (by rw [← Ep (P6 (Yo dbl 10 (Vb Xa key cr nz)) (Vb Xa key cr nz)) 0 (n := 64) (k := k2) oM _ rfl]; exact m42)⟩, Uj rfl z52 oM oM⟩
  ·
   have hc40p := of_decide_eq_false hc40
   obtain rfl : k2 = 64 := by omega
   refine X3 ?_
   refine Qj (Qj (Xk ?_))
   refine sR <| Qd (Qn uT139 rfl Qlg s6 m39.h2 sZ) <| Bj m39 (Qg (f := u8) (l := Yv (P6 (Yo dbl 10 (Vb Xa key cr nz)) (Vb Xa key cr nz)) 0 64 64) Qr Qlg s6 rfl sD m39.h2 sZ rfl) fun w43 m43 => ?_
   refine rN (Z8 ?_)
   refine Qq [(agg u8 (Yv (P6 (Yo dbl 10 (Vb Xa key cr nz)) (Vb Xa key cr nz)) 0 64 64))] ⟨⟨_, s6, Xm uT139 rfl Qlg m43.h2 sZ⟩, trivial⟩ ?_
   exact ⟨rfl, m43.toExt⟩
end Go.Proofs.YtkmiemlpfkfiiaaDoor
