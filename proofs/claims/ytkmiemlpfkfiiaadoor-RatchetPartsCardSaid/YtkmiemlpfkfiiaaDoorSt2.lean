/- Contracts: stream, second part. Conditions: none beyond those that each theorem states. -/
import Derived.Test.YtkmiemlpfkfiiaaDoorSt1
namespace Go.Proofs.YtkmiemlpfkfiiaaDoor
open Tryd
set_option linter.unusedVariables false
set_option linter.unusedSimpArgs false
def U2 (key : Xg) (i n : Nat) : Xg := (key.drop i).take n
def Vj (word : Xg → BitVec 32) (key : Xg) (cr : BitVec 32) (nz : Xg) : List (BitVec 32) :=
  [1634760805#32, 857760878#32, 2036477234#32, 1797285236#32, word key, word (U2 key 4 28), word (U2 key 8 24), word (U2 key 12 20),
   word (U2 key 16 16), word (U2 key 20 12), word (U2 key 24 8), word (U2 key 28 4), cr, word nz, word (U2 nz 4 8), word (U2 nz 8 4)]
@[simp] theorem beginP_length (word : Xg → BitVec 32) (key : Xg) (cr : BitVec 32) (nz : Xg) : (Vj word key cr nz).length = 16 := rfl
attribute [simp] Qol
def dbl (s : List (BitVec 32)) : List (BitVec 32) :=
 Au (Au (Au (Au (Au (Au (Au (Au s 0 4 8 12) 1 5 9 13) 2 6 10 14) 3 7 11 15) 0 5 10 15) 1 6 11 12) 2 7 8 13) 3 4 9 14
def Yu (f : List (BitVec 32) → List (BitVec 32)) : Nat → List (BitVec 32) → List (BitVec 32)
 | 0, s => s
 | k + 1, s => f (Yu f k s)
@[simp] theorem dbl_length (s : List (BitVec 32)) : (dbl s).length = s.length := by simp [dbl]
@[simp] theorem Qqb (k : Nat) (s : List (BitVec 32)) : (Yu dbl k s).length = s.length := by
 induction k with
 | zero => rfl
 | succ k ih => simp [Yu, ih]
def P8 (s f : List (BitVec 32)) (i : Nat) : BitVec 8 :=
 ((s.getD ((i : Int) / 4).toNat 0 + f.getD ((i : Int) / 4).toNat 0) >>> (8 * ((i : Int) % 4)).toNat).setWidth 8
def Yv (key : Xg) (cr : BitVec 32) (nz : Xg) : Xg :=
 Y1 (P8 (Yu dbl 10 (Vj Xd key cr nz)) (Vj Xd key cr nz)) 0 64 64
@[simp] theorem blockP_length (key : Xg) (cr : BitVec 32) (nz : Xg) : (Yv key cr nz).length = 64 := by
 unfold Yv; rw [Kz _ _ _ _ oM]
@[simp] theorem filled_length' {α : Type} (g : Nat → α) (z : α) (n k : Nat) : (Y1 g z n k).length = k + (n - k) := by simp [Y1]
theorem c_begin (key : Xg) (cr : BitVec 32) (nz : Xg) (w0 : World)  (hk : key.length = 32) (hn : nz.length = 12) : X9 prog 103 #[(agg u8 key), (u32 cr), (agg u8 nz)] w0 (fun r w1 => r = (agg u32 (Vj Xd key cr nz)) ∧ Ext w0 w1) := by
 refine Zb (args := [(agg u8 key), (u32 cr), (agg u8 nz)]) func103 rfl ntmps103 results103 rfl ?_
 have m0 : Mem w0 (Qu w0) [] := Mem.of_world w0
 refine sR <| Y9 (Xa (f := u8) (l := key) m0 rfl) fun w1 b3 m1 => Y9 (Xa (f := u8) (l := nz) m1 rfl) fun w2 b5 m2 => Y9 (Zc m2 Qe2) fun w3 b6 m3 => ?_
 refine rN (sR ?_)
 refine Qd (Xo (i := 0) (j := 16) D8 Zj rfl (Zi _ _) (Zi _ _) oM sD sD) <| Y9 (Qw u32 [1634760805#32, 857760878#32, 2036477234#32, 1797285236#32] Xf m3 Hf Zj rfl rfl rfl) fun w4 b10 m4 => Vy (Qep (f := u32) (Eq.trans rfl (Qmx Jg)) rfl (Rd.mkA m4.h0) Hf Zj Xf m4.h1 sD sD (Nat.le_refl _)) ?_
 rintro _ w5 ⟨rfl, uq5⟩
 have m5 : Mem w5 (Qu w0) [(b10, .cells (cl u32 ([1634760805#32, 857760878#32, 2036477234#32, 1797285236#32])) 106 (0, 0)), (b6, .cells (cl u32 ([1634760805#32, 857760878#32, 2036477234#32, 1797285236#32, 0, 0, 0, 0, 0, 0, 0, 0, 0, 0, 0, 0])) 156 (0, 0)), (b5, .cells (cl u8 nz) 77 (0, 0)), (b3, .cells (cl u8 key) 23 (0, 0))] := m4.upd1 uq5
 refine rN (Qa (sR ?_))
 refine Zp (i64 0) ?_
 refine rN (Qk ?_)
 refine Wx 9 ?_
 refine Zt (sR ?_)
 refine Qd (Jf 0 8) ?_
 refine rN (Qa ?_)
 refine Za rfl Jg ?_
 refine Qs (Qc (Qa (Qk (sR ?_))))
 refine Zp (i64 0) <| Zz (i64 0) ?_
 refine rN (Qb ?_)
 refine Zp (i64 0) <| Qd (v := (i64 4)) (Yo 4 0) <| Zp (i64 0) <| Qd (v := (i64 0)) (V7 4 0) <| Qd (Xo (i := 0) (j := 32) Xq Y0 rfl (Yh (k := .i64) (i := 0) rfl) (Zi _ _) oM sD sD) <| U9 m5 (Qc4 (Kt rfl) (Qas (sla b3 0 1 0 32 32) key _ (Rd.slaAll m5.h3 sD) sD)) fun w6 m6 => Qd (Xv 4 4 D8 Zj rfl) <| Vz m6 (Zn (f := u32) (l' := [1634760805#32, 857760878#32, 2036477234#32, 1797285236#32, Xd key, 0, 0, 0, 0, 0, 0, 0, 0, 0, 0, 0]) rfl Xf Zj rfl rfl m6.h1 X7 (.inl (Nat.zero_le _))) fun w8 m8 => ?_
 refine Zv (Qh ?_)
 have m9 := Mem.drop [_] _ m8
 refine Qb <| Qd (v := (i64 1)) (Yo 0 1) <| Zp (i64 1) ?_
 refine rN (Zt (sR ?_))
 refine Qd (Jf 1 8) ?_
 refine rN (Qa ?_)
 refine Za rfl Jg ?_
 refine Qs (Qc (Qa (Qk (sR ?_))))
 refine Zp (i64 1) <| Zz (i64 1) ?_
 refine rN (Qb ?_)
 refine Zp (i64 1) <| Qd (v := (i64 5)) (Yo 4 1) <| Zp (i64 1) <| Qd (v := (i64 4)) (V7 4 1) <| Qd (Xo (i := 4) (j := 32) Xq Y0 rfl (Yh (k := .i64) (i := 4) rfl) (Zi _ _) oM sD sD) <| U9 m9 (Qc4 (Kt rfl) (Qas (sla b3 0 1 4 32 32) ((key.drop 4).take 28) _ (Rd.cast (l' := (key.drop 4).take 28) (Rd.sla m9.h2 sD oM sD sD) rfl) sD)) fun w10 m10 => Qd (Xv 5 5 D8 Zj rfl) <| Ye m10 (Zn (f := u32) (l' := [1634760805#32, 857760878#32, 2036477234#32, 1797285236#32, Xd key, Xd ((key.drop 4).take 28), 0, 0, 0, 0, 0, 0, 0, 0, 0, 0]) rfl Xf Zj rfl rfl m10.h0 X7 (.inl (Nat.zero_le _))) fun w12 m12 => ?_
 refine Zv (Qh (Qb ?_))
 refine Qd (v := (i64 2)) (Yo 1 1) <| Zp (i64 2) ?_
 refine rN (Zt (sR ?_))
 refine Qd (Jf 2 8) ?_
 refine rN (Qa ?_)
 refine Za rfl Jg ?_
 refine Qs (Qc (Qa (Qk (sR ?_))))
 refine Zp (i64 2) <| Zz (i64 2) ?_
 refine rN (Qb ?_)
 refine Zp (i64 2) <| Qd (v := (i64 6)) (Yo 4 2) <| Zp (i64 2) <| Qd (v := (i64 8)) (V7 4 2) <| Qd (Xo (i := 8) (j := 32) Xq Y0 rfl (Yh (k := .i64) (i := 8) rfl) (Zi _ _) oM sD sD) <| U9 m12 (Qc4 (Kt rfl) (Qas (sla b3 0 1 8 32 32) ((key.drop 8).take 24) _ (Rd.cast (l' := (key.drop 8).take 24) (Rd.sla m12.h2 sD oM sD sD) rfl) sD)) fun w13 m13 => Qd (Xv 6 6 D8 Zj rfl) <| Ye m13 (Zn (f := u32) (l' := [1634760805#32, 857760878#32, 2036477234#32, 1797285236#32, Xd key, Xd ((key.drop 4).take 28), Xd ((key.drop 8).take 24), 0, 0, 0, 0, 0, 0, 0, 0, 0]) rfl Xf Zj rfl rfl m13.h0 X7 (.inl (Nat.zero_le _))) fun w15 m15 => ?_
 refine Zv (Qh (Qb ?_))
 refine Qd (v := (i64 3)) (Yo 2 1) <| Zp (i64 3) ?_
 refine rN (Zt (sR ?_))
 refine Qd (Jf 3 8) ?_
 refine rN (Qa ?_)
 refine Za rfl Jg ?_
 refine Qs (Qc (Qa (Qk (sR ?_))))
 refine Zp (i64 3) <| Zz (i64 3) ?_
 refine rN (Qb ?_)
 refine Zp (i64 3) <| Qd (v := (i64 7)) (Yo 4 3) <| Zp (i64 3) <| Qd (v := (i64 12)) (V7 4 3) <| Qd (Xo (i := 12) (j := 32) Xq Y0 rfl (Yh (k := .i64) (i := 12) rfl) (Zi _ _) oM sD sD) <| U9 m15 (Qc4 (Kt rfl) (Qas (sla b3 0 1 12 32 32) ((key.drop 12).take 20) _ (Rd.cast (l' := (key.drop 12).take 20) (Rd.sla m15.h2 sD oM sD sD) rfl) sD)) fun w16 m16 => Qd (Xv 7 7 D8 Zj rfl) <| Ye m16 (Zn (f := u32) (l' := [1634760805#32, 857760878#32, 2036477234#32, 1797285236#32, Xd key, Xd ((key.drop 4).take 28), Xd ((key.drop 8).take 24), Xd ((key.drop 12).take 20), 0, 0, 0, 0, 0, 0, 0, 0]) rfl Xf Zj rfl rfl m16.h0 X7 (.inl (Nat.zero_le _))) fun w18 m18 => ?_
 refine Zv (Qh (Qb ?_))
 refine Qd (v := (i64 4)) (Yo 3 1) <| Zp (i64 4) ?_
 refine rN (Zt (sR ?_))
 refine Qd (Jf 4 8) ?_
 refine rN (Qa ?_)
 refine Za rfl Jg ?_
 refine Qs (Qc (Qa (Qk (sR ?_))))
 refine Zp (i64 4) <| Zz (i64 4) ?_
 refine rN (Qb ?_)
 refine Zp (i64 4) <| Qd (v := (i64 8)) (Yo 4 4) <| Zp (i64 4) <| Qd (v := (i64 16)) (V7 4 4) <| Qd (Xo (i := 16) (j := 32) Xq Y0 rfl (Yh (k := .i64) (i := 16) rfl) (Zi _ _) oM sD sD) <| U9 m18 (Qc4 (Kt rfl) (Qas (sla b3 0 1 16 32 32) ((key.drop 16).take 16) _ (Rd.cast (l' := (key.drop 16).take 16) (Rd.sla m18.h2 sD oM sD sD) rfl) sD)) fun w19 m19 => Qd (Xv 8 8 D8 Zj rfl) <| Ye m19 (Zn (f := u32) (l' := [1634760805#32, 857760878#32, 2036477234#32, 1797285236#32, Xd key, Xd ((key.drop 4).take 28), Xd ((key.drop 8).take 24), Xd ((key.drop 12).take 20), Xd ((key.drop 16).take 16), 0, 0, 0, 0, 0, 0, 0]) rfl Xf Zj rfl rfl m19.h0 X7 (.inl (Nat.zero_le _))) fun w21 m21 => ?_
 refine Zv (Qh (Qb ?_))
 refine Qd (v := (i64 5)) (Yo 4 1) <| Zp (i64 5) ?_
 refine rN (Zt (sR ?_))
 refine Qd (Jf 5 8) ?_
 refine rN (Qa ?_)
 refine Za rfl Jg ?_
 refine Qs (Qc (Qa (Qk (sR ?_))))
 refine Zp (i64 5) <| Zz (i64 5) ?_
 refine rN (Qb ?_)
 refine Zp (i64 5) <| Qd (v := (i64 9)) (Yo 4 5) <| Zp (i64 5) <| Qd (v := (i64 20)) (V7 4 5) <| Qd (Xo (i := 20) (j := 32) Xq Y0 rfl (Yh (k := .i64) (i := 20) rfl) (Zi _ _) oM sD sD) <| U9 m21 (Qc4 (Kt rfl) (Qas (sla b3 0 1 20 32 32) ((key.drop 20).take 12) _ (Rd.cast (l' := (key.drop 20).take 12) (Rd.sla m21.h2 sD oM sD sD) rfl) sD)) fun w22 m22 => Qd (Xv 9 9 D8 Zj rfl) <| Ye m22 (Zn (f := u32) (l' := [1634760805#32, 857760878#32, 2036477234#32, 1797285236#32, Xd key, Xd ((key.drop 4).take 28), Xd ((key.drop 8).take 24), Xd ((key.drop 12).take 20), Xd ((key.drop 16).take 16), Xd ((key.drop 20).take 12), 0, 0, 0, 0, 0, 0]) rfl Xf Zj rfl rfl m22.h0 X7 (.inl (Nat.zero_le _))) fun w24 m24 => ?_
 refine Zv (Qh (Qb ?_))
 refine Qd (v := (i64 6)) (Yo 5 1) <| Zp (i64 6) ?_
 refine rN (Zt (sR ?_))
 refine Qd (Jf 6 8) ?_
 refine rN (Qa ?_)
 refine Za rfl Jg ?_
 refine Qs (Qc (Qa (Qk (sR ?_))))
 refine Zp (i64 6) <| Zz (i64 6) <| rN ?_
 refine CW.abs (fun g => g 0 = (agg u8 key) ∧ g 1 = (u32 cr) ∧ g 2 = (agg u8 nz) ∧ g 3 = (ptr b3 0) ∧ g 5 = (ptr b5 0) ∧ g 6 = (ptr b6 0) ∧ g 7 = (i64 6) ∧ g 12 = (i64 6) ∧ g 13 = (bl true) ∧ True) ⟨rfl, rfl, rfl, rfl, rfl, rfl, rfl, rfl, rfl, trivial⟩ ?_
 rintro fr25 ⟨s0, s1, s2, s3, s5, s6, s7, s12, s13, _⟩
 refine Qb <| Ya s7 <| Qd (v := (i64 10)) (Yo 4 6) <| Ya s7 <| Qd (v := (i64 24)) (V7 4 6) <| Qd (Xo (i := 24) (j := 32) Xq Y0 s3 (Yh (k := .i64) (i := 24) rfl) (Zi _ _) oM sD sD) <| U9 m24 (Qc4 (Kt rfl) (Qas (sla b3 0 1 24 32 32) ((key.drop 24).take 8) _ (Rd.cast (l' := (key.drop 24).take 8) (Rd.sla m24.h2 sD oM sD sD) rfl) sD)) fun w26 m26 => Qd (Xv 10 10 D8 Zj s6) <| Ye m26 (Zn (f := u32) (l' := [1634760805#32, 857760878#32, 2036477234#32, 1797285236#32, Xd key, Xd ((key.drop 4).take 28), Xd ((key.drop 8).take 24), Xd ((key.drop 12).take 20), Xd ((key.drop 16).take 16), Xd ((key.drop 20).take 12), Xd ((key.drop 24).take 8), 0, 0, 0, 0, 0]) rfl Xf Zj rfl rfl m26.h0 X7 (.inl (Nat.zero_le _))) fun w28 m28 => ?_
 refine Zv (Qh (Qb ?_))
 refine Qd (v := (i64 7)) (Zg (a := 6) (b := 1) s12 rfl oM oM) <| Zp (i64 7) ?_
 refine rN (Zt (sR ?_))
 refine Qd (Jf 7 8) ?_
 refine rN (Qa ?_)
 refine Za rfl Jg ?_
 refine Qs (Qc (Qa (Qk (sR ?_))))
 refine Zp (i64 7) <| Zz (i64 7) ?_
 refine rN (Qb ?_)
 refine Zp (i64 7) <| Qd (v := (i64 11)) (Yo 4 7) <| Zp (i64 7) <| Qd (v := (i64 28)) (V7 4 7) <| Qd (Xo (i := 28) (j := 32) Xq Y0 s3 (Yh (k := .i64) (i := 28) rfl) (Zi _ _) oM sD sD) <| U9 m28 (Qc4 (Kt rfl) (Qas (sla b3 0 1 28 32 32) ((key.drop 28).take 4) _ (Rd.cast (l' := (key.drop 28).take 4) (Rd.sla m28.h2 sD oM sD sD) rfl) sD)) fun w29 m29 => Qd (Xv 11 11 D8 Zj s6) <| Ye m29 (Zn (f := u32) (l' := [1634760805#32, 857760878#32, 2036477234#32, 1797285236#32, Xd key, Xd ((key.drop 4).take 28), Xd ((key.drop 8).take 24), Xd ((key.drop 12).take 20), Xd ((key.drop 16).take 16), Xd ((key.drop 20).take 12), Xd ((key.drop 24).take 8), Xd ((key.drop 28).take 4), 0, 0, 0, 0]) rfl Xf Zj rfl rfl m29.h0 X7 (.inl (Nat.zero_le _))) fun w31 m31 => ?_
 refine Zv (Qh (Qb ?_))
 refine Qd (v := (i64 8)) (Yo 7 1) <| Zp (i64 8) ?_
 refine rN (Zt (sR ?_))
 refine Qd (Jf 8 8) ?_
 refine rN (Qa ?_)
 refine Yy rfl Jg <| X6 ?_
 refine Qm (Qm (Xi ?_))
 refine sR <| Ya s1 <| Qd (Xv 12 12 D8 Zj s6) <| Ye m31 (Zn (f := u32) (l' := [1634760805#32, 857760878#32, 2036477234#32, 1797285236#32, Xd key, Xd ((key.drop 4).take 28), Xd ((key.drop 8).take 24), Xd ((key.drop 12).take 20), Xd ((key.drop 16).take 16), Xd ((key.drop 20).take 12), Xd ((key.drop 24).take 8), Xd ((key.drop 28).take 4), cr, 0, 0, 0]) rfl Xf Zj rfl rfl m31.h0 X7 (.inl (Nat.zero_le _))) fun w32 m32 => ?_
 refine rN (Qa (sR ?_))
 refine Zp (i64 0) ?_
 refine rN (Qk ?_)
 refine Wx 4 ?_
 refine Zt (sR ?_)
 refine Qd (Jf 0 3) ?_
 refine rN (Qa ?_)
 refine Za rfl Jg ?_
 refine Qs (Qc (Qa (Qk (sR ?_))))
 refine Zp (i64 0) <| Zz (i64 0) ?_
 refine rN (Qb ?_)
 refine Zp (i64 0) <| Qd (v := (i64 13)) (Yo 13 0) <| Zp (i64 0) <| Qd (v := (i64 0)) (V7 4 0) <| Qd (Xo (i := 0) (j := 12) Pj Y0 s5 (Yh (k := .i64) (i := 0) rfl) (Zi _ _) oM sD sD) <| U9 m32 (Qc4 (Kt rfl) (Qas (sla b5 0 1 0 12 12) nz _ (Rd.slaAll m32.h1 sD) sD)) fun w33 m33 => Qd (Xv 13 13 D8 Zj s6) <| Ye m33 (Zn (f := u32) (l' := [1634760805#32, 857760878#32, 2036477234#32, 1797285236#32, Xd key, Xd ((key.drop 4).take 28), Xd ((key.drop 8).take 24), Xd ((key.drop 12).take 20), Xd ((key.drop 16).take 16), Xd ((key.drop 20).take 12), Xd ((key.drop 24).take 8), Xd ((key.drop 28).take 4), cr, Xd nz, 0, 0]) rfl Xf Zj rfl rfl m33.h0 X7 (.inl (Nat.zero_le _))) fun w35 m35 => ?_
 refine Zv (Qh (Qb ?_))
 refine Qd (v := (i64 1)) (Yo 0 1) <| Zp (i64 1) ?_
 refine rN (Zt (sR ?_))
 refine Qd (Jf 1 3) ?_
 refine rN (Qa ?_)
 refine Za rfl Jg ?_
 refine Qs (Qc (Qa (Qk (sR ?_))))
 refine Zp (i64 1) <| Zz (i64 1) ?_
 refine rN (Qb ?_)
 refine Zp (i64 1) <| Qd (v := (i64 14)) (Yo 13 1) <| Zp (i64 1) <| Qd (v := (i64 4)) (V7 4 1) <| Qd (Xo (i := 4) (j := 12) Pj Y0 s5 (Yh (k := .i64) (i := 4) rfl) (Zi _ _) oM sD sD) <| U9 m35 (Qc4 (Kt rfl) (Qas (sla b5 0 1 4 12 12) ((nz.drop 4).take 8) _ (Rd.cast (l' := (nz.drop 4).take 8) (Rd.sla m35.h1 sD oM sD sD) rfl) sD)) fun w36 m36 => Qd (Xv 14 14 D8 Zj s6) <| Ye m36 (Zn (f := u32) (l' := [1634760805#32, 857760878#32, 2036477234#32, 1797285236#32, Xd key, Xd ((key.drop 4).take 28), Xd ((key.drop 8).take 24), Xd ((key.drop 12).take 20), Xd ((key.drop 16).take 16), Xd ((key.drop 20).take 12), Xd ((key.drop 24).take 8), Xd ((key.drop 28).take 4), cr, Xd nz, Xd ((nz.drop 4).take 8), 0]) rfl Xf Zj rfl rfl m36.h0 X7 (.inl (Nat.zero_le _))) fun w38 m38 => ?_
 refine Zv (Qh (Qb ?_))
 refine Qd (v := (i64 2)) (Yo 1 1) <| Zp (i64 2) ?_
 refine rN (Zt (sR ?_))
 refine Qd (Jf 2 3) ?_
 refine rN (Qa ?_)
 refine Za rfl Jg ?_
 refine Qs (Qc (Qa (Qk (sR ?_))))
 refine Zp (i64 2) <| Zz (i64 2) ?_
 refine rN (Qb ?_)
 refine Zp (i64 2) <| Qd (v := (i64 15)) (Yo 13 2) <| Zp (i64 2) <| Qd (v := (i64 8)) (V7 4 2) <| Qd (Xo (i := 8) (j := 12) Pj Y0 s5 (Yh (k := .i64) (i := 8) rfl) (Zi _ _) oM sD sD) <| U9 m38 (Qc4 (Kt rfl) (Qas (sla b5 0 1 8 12 12) ((nz.drop 8).take 4) _ (Rd.cast (l' := (nz.drop 8).take 4) (Rd.sla m38.h1 sD oM sD sD) rfl) sD)) fun w39 m39 => Qd (Xv 15 15 D8 Zj s6) <| Ye m39 (Zn (f := u32) (l' := [1634760805#32, 857760878#32, 2036477234#32, 1797285236#32, Xd key, Xd ((key.drop 4).take 28), Xd ((key.drop 8).take 24), Xd ((key.drop 12).take 20), Xd ((key.drop 16).take 16), Xd ((key.drop 20).take 12), Xd ((key.drop 24).take 8), Xd ((key.drop 28).take 4), cr, Xd nz, Xd ((nz.drop 4).take 8), Xd ((nz.drop 8).take 4)]) rfl Xf Zj rfl rfl m39.h0 X7 (.inl (Nat.zero_le _))) fun w41 m41 => ?_
 refine Zv (Qh (Qb ?_))
 refine Qd (v := (i64 3)) (Yo 2 1) <| Zp (i64 3) ?_
 refine rN (Zt (sR ?_))
 refine Qd (Jf 3 3) ?_
 refine rN (Qa ?_)
 refine Yy rfl Jg <| X6 ?_
 refine Qm (Qm (Xi ?_))
 refine sR <| Qd (Qp D8 rfl Qe2 s6 m41.h0 sZ) <| Ye m41 (Qj (f := u32) (l := [1634760805#32, 857760878#32, 2036477234#32, 1797285236#32, Xd key, Xd ((key.drop 4).take 28), Xd ((key.drop 8).take 24), Xd ((key.drop 12).take 20), Xd ((key.drop 16).take 16), Xd ((key.drop 20).take 12), Xd ((key.drop 24).take 8), Xd ((key.drop 28).take 4), cr, Xd nz, Xd ((nz.drop 4).take 8), Xd ((nz.drop 8).take 4)]) Xf Qe2 s6 rfl sD m41.h0 sZ rfl) fun w42 m42 => ?_
 refine rN (Xb ?_)
 refine Qv [(agg u32 ([1634760805#32, 857760878#32, 2036477234#32, 1797285236#32, Xd key, Xd ((key.drop 4).take 28), Xd ((key.drop 8).take 24), Xd ((key.drop 12).take 20), Xd ((key.drop 16).take 16), Xd ((key.drop 20).take 12), Xd ((key.drop 24).take 8), Xd ((key.drop 28).take 4), cr, Xd nz, Xd ((nz.drop 4).take 8), Xd ((nz.drop 8).take 4)]))] ⟨⟨_, s6, Xr D8 rfl Qe2 m42.h0 sZ⟩, trivial⟩ ?_
 exact ⟨rfl, m42.toExt⟩
theorem c_block (key : Xg) (cr : BitVec 32) (nz : Xg) (w0 : World)  (hk : key.length = 32) (hn : nz.length = 12) : X9 prog 89 #[(agg u8 key), (u32 cr), (agg u8 nz)] w0 (fun r w1 => r = (agg u8 (Yv key cr nz)) ∧ Ext w0 w1) := by
 refine Zb (args := [(agg u8 key), (u32 cr), (agg u8 nz)]) func89 rfl ntmps89 results89 rfl ?_
 have m0 : Mem w0 (Qu w0) [] := Mem.of_world w0
 refine sR <| Y9 (Xa (f := u8) (l := key) m0 rfl) fun w1 b3 m1 => Y9 (Xa (f := u8) (l := nz) m1 rfl) fun w2 b5 m2 => Y9 (Zc m2 Qkl) fun w3 b6 m3 => ?_
 refine rN (sR ?_)
 refine Qd (Qp Xq rfl Zl rfl m3.h2 sZ) <| Zp (u32 cr) <| Qd (Qp Pj rfl Qa9 rfl m3.h1 sZ) <| U9 m3 (oc103 (D6 rfl rfl rfl) (c_begin _ cr _ _ sD sD)) fun w4 m4 => Y9 (Zc m4 Qe2) fun w6 b7 m6 => Ye m6 (Qj (f := u32) (l := Vj Xd key cr nz) Xf Qe2 rfl rfl sD m6.h0 sZ rfl) fun w7 m7 => ?_
 refine rN (sR ?_)
 refine Qd (Qp D8 rfl Qe2 rfl m7.h0 sZ) <| Y9 (Zc m7 Qe2) fun w8 b8 m8 => Ye m8 (Qj (f := u32) (l := Vj Xd key cr nz) Xf Qe2 rfl rfl sD m8.h0 sZ rfl) fun w9 m9 => ?_
 refine rN (Qa (sR ?_))
 refine Zp (i64 0) ?_
 refine rN (Qk ?_)
 refine Y7 (fun g wv => ∃ (k : Nat), (k ≤ 10) ∧ g 0 = (agg u8 key) ∧ g 1 = (u32 cr) ∧ g 2 = (agg u8 nz) ∧ g 3 = (ptr b3 0) ∧ g 5 = (ptr b5 0) ∧ g 6 = (ptr b6 0) ∧ g 7 = (ptr b7 0) ∧ g 8 = (ptr b8 0) ∧ g 17 = (i64 (k : Int)) ∧ Mem wv (Qu w0) [(b8, .cells (cl u32 (Yu dbl k (Vj Xd key cr nz))) 156 (0, 0)), (b7, .cells (cl u32 (Vj Xd key cr nz)) 156 (0, 0)), (b6, .cells (cl u8 (List.replicate 64 0)) 139 (0, 0)), (b5, .cells (cl u8 nz) 77 (0, 0)), (b3, .cells (cl u8 key) 23 (0, 0))]) (fun g wv => (10 - RowKit.intOf (g 17)).toNat) ?_ ?_
 ·exact ⟨0, oM, rfl, rfl, rfl, rfl, rfl, rfl, rfl, rfl, rfl, m9⟩
 rintro fr10 w11 ⟨k, hk1, s0, s1, s2, s3, s5, s6, s7, s8, s17, m11⟩
 have z17 := s17
 refine sR <| Qd (Z9 (b := 10) s17 rfl) ?_
 refine rN (Qa ?_)
 refine Z8 rfl (fun hc12 => ?_) (fun hc12 => ?_)
 ·
  have hc12p := of_decide_eq_true hc12
  refine Qs (Qc (Qa (Qk (Qa (sR ?_)))))
  refine Zp (i64 0) ?_
  refine rN (Qk ?_)
  refine Wx 5 ?_
  refine Zt (sR ?_)
  refine Qd (Jf 0 4) ?_
  refine rN (Qa ?_)
  refine Za rfl Jg ?_
  refine Qs (Qc (Qa (Qk (sR ?_))))
  refine Zp (i64 0) <| Zz (i64 0) ?_
  refine rN (Qb ?_)
  refine Zp (i64 0) <| Zp (i64 0) <| Qd (v := (i64 4)) (Yo 4 0) <| Zp (i64 0) <| Qd (v := (i64 8)) (Yo 8 0) <| Zp (i64 0) <| Qd (v := (i64 12)) (Yo 12 0) <| Qd (Gq i64 [0, 4, 8, 12] Z4 Qd6 Hg U0 rfl rfl) ?_
  have hF14 : Mem _ _ ([(b8, .cells (cl u32 (Yu dbl k (Vj Xd key cr nz))) 156 (0, 0))] ++ ([_, _, _, _])) := m11
  refine Vy (Qhc (Xm s8 rfl) (Aj b8 (Yu dbl k (Vj Xd key cr nz)) (0 : Int) (4 : Int) (8 : Int) (12 : Int) _ _ (Mem.give hF14) sD sD sD sD sD)) ?_
  rintro _ w13 ⟨rfl, k_w13⟩
  have m13 : Mem _ _ [_, _, _, _, _] := Mem.back hF14 k_w13
  refine Zv (Qh (Qb ?_))
  refine Qd (v := (i64 1)) (Yo 0 1) <| Zp (i64 1) ?_
  refine rN (Zt (sR ?_))
  refine Qd (Jf 1 4) ?_
  refine rN (Qa ?_)
  refine Za rfl Jg ?_
  refine Qs (Qc (Qa (Qk (sR ?_))))
  refine Zp (i64 1) <| Zz (i64 1) ?_
  refine rN (Qb ?_)
  refine Zp (i64 1) <| Zp (i64 1) <| Qd (v := (i64 5)) (Yo 4 1) <| Zp (i64 1) <| Qd (v := (i64 9)) (Yo 8 1) <| Zp (i64 1) <| Qd (v := (i64 13)) (Yo 12 1) <| Qd (Gq i64 [1, 5, 9, 13] Z4 Qd6 Hg U0 rfl rfl) ?_
  have hF17 : Mem _ _ ([(b8, .cells (cl u32 (Au (Yu dbl k (Vj Xd key cr nz)) (0 : Int).toNat (4 : Int).toNat (8 : Int).toNat (12 : Int).toNat)) 156 (0, 0))] ++ ([_, _, _, _])) := m13
  refine Vy (Qhc (Xm s8 rfl) (Aj b8 (Au (Yu dbl k (Vj Xd key cr nz)) (0 : Int).toNat (4 : Int).toNat (8 : Int).toNat (12 : Int).toNat) (1 : Int) (5 : Int) (9 : Int) (13 : Int) _ _ (Mem.give hF17) sD sD sD sD sD)) ?_
  rintro _ w16 ⟨rfl, k_w16⟩
  have m16 : Mem _ _ [_, _, _, _, _] := Mem.back hF17 k_w16
  refine Zv (Qh (Qb ?_))
  refine Qd (v := (i64 2)) (Yo 1 1) <| Zp (i64 2) ?_
  refine rN (Zt (sR ?_))
  refine Qd (Jf 2 4) ?_
  refine rN (Qa ?_)
  refine Za rfl Jg ?_
  refine Qs (Qc (Qa (Qk (sR ?_))))
  refine Zp (i64 2) <| Zz (i64 2) ?_
  refine rN (Qb ?_)
  refine Zp (i64 2) <| Zp (i64 2) <| Qd (v := (i64 6)) (Yo 4 2) <| Zp (i64 2) <| Qd (v := (i64 10)) (Yo 8 2) <| Zp (i64 2) <| Qd (v := (i64 14)) (Yo 12 2) <| Qd (Gq i64 [2, 6, 10, 14] Z4 Qd6 Hg U0 rfl rfl) ?_
  have hF20 : Mem _ _ ([(b8, .cells (cl u32 (Au (Au (Yu dbl k (Vj Xd key cr nz)) (0 : Int).toNat (4 : Int).toNat (8 : Int).toNat (12 : Int).toNat) (1 : Int).toNat (5 : Int).toNat (9 : Int).toNat (13 : Int).toNat)) 156 (0, 0))] ++ ([_, _, _, _])) := m16
  refine Vy (Qhc (Xm s8 rfl) (Aj b8 (Au (Au (Yu dbl k (Vj Xd key cr nz)) (0 : Int).toNat (4 : Int).toNat (8 : Int).toNat (12 : Int).toNat) (1 : Int).toNat (5 : Int).toNat (9 : Int).toNat (13 : Int).toNat) (2 : Int) (6 : Int) (10 : Int) (14 : Int) _ _ (Mem.give hF20) sD sD sD sD sD)) ?_
  rintro _ w19 ⟨rfl, k_w19⟩
  have m19 : Mem _ _ [_, _, _, _, _] := Mem.back hF20 k_w19
  refine Zv (Qh (Qb ?_))
  refine Qd (v := (i64 3)) (Yo 2 1) <| Zp (i64 3) ?_
  refine rN (Zt (sR ?_))
  refine Qd (Jf 3 4) ?_
  refine rN (Qa ?_)
  refine Za rfl Jg ?_
  refine Qs (Qc (Qa (Qk (sR ?_))))
  refine Zp (i64 3) <| Zz (i64 3) ?_
  refine rN (Qb ?_)
  refine Zp (i64 3) <| Zp (i64 3) <| Qd (v := (i64 7)) (Yo 4 3) <| Zp (i64 3) <| Qd (v := (i64 11)) (Yo 8 3) <| Zp (i64 3) <| Qd (v := (i64 15)) (Yo 12 3) <| Qd (Gq i64 [3, 7, 11, 15] Z4 Qd6 Hg U0 rfl rfl) ?_
  have hF23 : Mem _ _ ([(b8, .cells (cl u32 (Au (Au (Au (Yu dbl k (Vj Xd key cr nz)) (0 : Int).toNat (4 : Int).toNat (8 : Int).toNat (12 : Int).toNat) (1 : Int).toNat (5 : Int).toNat (9 : Int).toNat (13 : Int).toNat) (2 : Int).toNat (6 : Int).toNat (10 : Int).toNat (14 : Int).toNat)) 156 (0, 0))] ++ ([_, _, _, _])) := m19
  refine Vy (Qhc (Xm s8 rfl) (Aj b8 (Au (Au (Au (Yu dbl k (Vj Xd key cr nz)) (0 : Int).toNat (4 : Int).toNat (8 : Int).toNat (12 : Int).toNat) (1 : Int).toNat (5 : Int).toNat (9 : Int).toNat (13 : Int).toNat) (2 : Int).toNat (6 : Int).toNat (10 : Int).toNat (14 : Int).toNat) (3 : Int) (7 : Int) (11 : Int) (15 : Int) _ _ (Mem.give hF23) sD sD sD sD sD)) ?_
  rintro _ w22 ⟨rfl, k_w22⟩
  have m22 : Mem _ _ [_, _, _, _, _] := Mem.back hF23 k_w22
  refine Zv (Qh (Qb ?_))
  refine Qd (v := (i64 4)) (Yo 3 1) <| Zp (i64 4) ?_
  refine rN (Zt (sR ?_))
  refine Qd (Jf 4 4) ?_
  refine rN (Qa ?_)
  refine Yy rfl Jg <| X6 ?_
  refine Qm (Qm (Xi ?_))
  refine sR <| Zp (i64 0) ?_
  refine rN (V5 ?_)
  refine Wx 5 ?_
  refine Zt (sR ?_)
  refine Qd (Jf 0 4) ?_
  refine rN (Qa ?_)
  refine Za rfl Jg ?_
  refine Qs (Qc (Qa (Qk (sR ?_))))
  refine Zp (i64 0) <| Zz (i64 0) ?_
  refine rN (Qb ?_)
  refine Zp (i64 0) <| Zp (i64 0) <| Qd (v := (i64 1)) (Yo 0 1) <| Qd (v := (i64 1)) (Gn (a := 1) (b := 3) rfl rfl oM oM) <| Qd (v := (i64 5)) (Yo 4 1) <| Zp (i64 0) <| Qd (v := (i64 2)) (Yo 0 2) <| Qd (v := (i64 2)) (Gn (a := 2) (b := 3) rfl rfl oM oM) <| Qd (v := (i64 10)) (Yo 8 2) <| Zp (i64 0) <| Qd (v := (i64 3)) (Yo 0 3) <| Qd (v := (i64 3)) (Gn (a := 3) (b := 3) rfl rfl oM oM) ?_
  refine Qd (v := (i64 15)) (Yo 12 3) <| Qd (Gq i64 [0, 5, 10, 15] Z4 Qd6 Hg U0 rfl rfl) ?_
  have hF26 : Mem _ _ ([(b8, .cells (cl u32 (Au (Au (Au (Au (Yu dbl k (Vj Xd key cr nz)) (0 : Int).toNat (4 : Int).toNat (8 : Int).toNat (12 : Int).toNat) (1 : Int).toNat (5 : Int).toNat (9 : Int).toNat (13 : Int).toNat) (2 : Int).toNat (6 : Int).toNat (10 : Int).toNat (14 : Int).toNat) (3 : Int).toNat (7 : Int).toNat (11 : Int).toNat (15 : Int).toNat)) 156 (0, 0))] ++ ([_, _, _, _])) := m22
  refine Vy (Qhc (Xm s8 rfl) (Aj b8 (Au (Au (Au (Au (Yu dbl k (Vj Xd key cr nz)) (0 : Int).toNat (4 : Int).toNat (8 : Int).toNat (12 : Int).toNat) (1 : Int).toNat (5 : Int).toNat (9 : Int).toNat (13 : Int).toNat) (2 : Int).toNat (6 : Int).toNat (10 : Int).toNat (14 : Int).toNat) (3 : Int).toNat (7 : Int).toNat (11 : Int).toNat (15 : Int).toNat) (0 : Int) (5 : Int) (10 : Int) (15 : Int) _ _ (Mem.give hF26) sD sD sD sD sD)) ?_
  rintro _ w25 ⟨rfl, k_w25⟩
  have m25 : Mem _ _ [_, _, _, _, _] := Mem.back hF26 k_w25
  refine Zv (Qh (Qb ?_))
  refine Qd (v := (i64 1)) (Yo 0 1) <| Zp (i64 1) ?_
  refine rN (Zt (sR ?_))
  refine Qd (Jf 1 4) <| rN ?_
  refine CW.abs (fun g => g 0 = (agg u8 key) ∧ g 1 = (u32 cr) ∧ g 2 = (agg u8 nz) ∧ g 3 = (ptr b3 0) ∧ g 5 = (ptr b5 0) ∧ g 6 = (ptr b6 0) ∧ g 7 = (ptr b7 0) ∧ g 8 = (ptr b8 0) ∧ g 9 = (i64 3) ∧ g 10 = (i64 0) ∧ g 17 = (i64 (k : Int)) ∧ g 18 = (bl (decide ((k : Int) < 10))) ∧ g 19 = (i64 4) ∧ g 20 = (bl false) ∧ g 32 = (i64 1) ∧ g 33 = (bl true) ∧ True) ⟨s0, s1, s2, s3, s5, s6, s7, s8, rfl, rfl, s17, rfl, rfl, rfl, rfl, rfl, trivial⟩ ?_
  rintro fr28 ⟨s0, s1, s2, s3, s5, s6, s7, s8, s9, s10, s17, s18, s19, s20, s32, s33, _⟩
  refine Qa <| Za s33 Jg ?_
  refine Qs (Qc (Qa (Qk (sR ?_))))
  refine Ya s32 <| Zz (i64 1) ?_
  refine rN (Qb ?_)
  refine Zp (i64 1) <| Zp (i64 1) <| Qd (v := (i64 2)) (Yo 1 1) <| Qd (v := (i64 2)) (Gn (a := 2) (b := 3) rfl rfl oM oM) <| Qd (v := (i64 6)) (Yo 4 2) <| Zp (i64 1) <| Qd (v := (i64 3)) (Yo 1 2) <| Qd (v := (i64 3)) (Gn (a := 3) (b := 3) rfl rfl oM oM) <| Qd (v := (i64 11)) (Yo 8 3) <| Zp (i64 1) <| Qd (v := (i64 4)) (Yo 1 3) <| Qd (v := (i64 0)) (Gn (a := 4) (b := 3) rfl rfl oM oM) ?_
  refine Qd (v := (i64 12)) (Yo 12 0) <| Qd (Gq i64 [1, 6, 11, 12] Z4 Qd6 Hg U0 rfl rfl) ?_
  have hF30 : Mem _ _ ([(b8, .cells (cl u32 (Au (Au (Au (Au (Au (Yu dbl k (Vj Xd key cr nz)) (0 : Int).toNat (4 : Int).toNat (8 : Int).toNat (12 : Int).toNat) (1 : Int).toNat (5 : Int).toNat (9 : Int).toNat (13 : Int).toNat) (2 : Int).toNat (6 : Int).toNat (10 : Int).toNat (14 : Int).toNat) (3 : Int).toNat (7 : Int).toNat (11 : Int).toNat (15 : Int).toNat) (0 : Int).toNat (5 : Int).toNat (10 : Int).toNat (15 : Int).toNat)) 156 (0, 0))] ++ ([_, _, _, _])) := m25
  refine Vy (Qhc (Xm s8 rfl) (Aj b8 (Au (Au (Au (Au (Au (Yu dbl k (Vj Xd key cr nz)) (0 : Int).toNat (4 : Int).toNat (8 : Int).toNat (12 : Int).toNat) (1 : Int).toNat (5 : Int).toNat (9 : Int).toNat (13 : Int).toNat) (2 : Int).toNat (6 : Int).toNat (10 : Int).toNat (14 : Int).toNat) (3 : Int).toNat (7 : Int).toNat (11 : Int).toNat (15 : Int).toNat) (0 : Int).toNat (5 : Int).toNat (10 : Int).toNat (15 : Int).toNat) (1 : Int) (6 : Int) (11 : Int) (12 : Int) _ _ (Mem.give hF30) sD sD sD sD sD)) ?_
  rintro _ w29 ⟨rfl, k_w29⟩
  have m29 : Mem _ _ [_, _, _, _, _] := Mem.back hF30 k_w29
  refine Zv (Qh (Qb ?_))
  refine Qd (v := (i64 2)) (Zg (a := 1) (b := 1) s32 rfl oM oM) <| Zp (i64 2) ?_
  refine rN (Zt (sR ?_))
  refine Qd (Jf 2 4) ?_
  refine rN (Qa ?_)
  refine Za rfl Jg ?_
  refine Qs (Qc (Qa (Qk (sR ?_))))
  refine Zp (i64 2) <| Zz (i64 2) ?_
  refine rN (Qb ?_)
  refine Zp (i64 2) <| Zp (i64 2) <| Qd (v := (i64 3)) (Yo 2 1) <| Qd (v := (i64 3)) (Gn (a := 3) (b := 3) rfl rfl oM oM) <| Qd (v := (i64 7)) (Yo 4 3) <| Zp (i64 2) <| Qd (v := (i64 4)) (Yo 2 2) <| Qd (v := (i64 0)) (Gn (a := 4) (b := 3) rfl rfl oM oM) <| Qd (v := (i64 8)) (Yo 8 0) <| Zp (i64 2) <| Qd (v := (i64 5)) (Yo 2 3) <| Qd (v := (i64 1)) (Gn (a := 5) (b := 3) rfl rfl oM oM) ?_
  refine Qd (v := (i64 13)) (Yo 12 1) <| Qd (Gq i64 [2, 7, 8, 13] Z4 Qd6 Hg U0 rfl rfl) ?_
  have hF33 : Mem _ _ ([(b8, .cells (cl u32 (Au (Au (Au (Au (Au (Au (Yu dbl k (Vj Xd key cr nz)) (0 : Int).toNat (4 : Int).toNat (8 : Int).toNat (12 : Int).toNat) (1 : Int).toNat (5 : Int).toNat (9 : Int).toNat (13 : Int).toNat) (2 : Int).toNat (6 : Int).toNat (10 : Int).toNat (14 : Int).toNat) (3 : Int).toNat (7 : Int).toNat (11 : Int).toNat (15 : Int).toNat) (0 : Int).toNat (5 : Int).toNat (10 : Int).toNat (15 : Int).toNat) (1 : Int).toNat (6 : Int).toNat (11 : Int).toNat (12 : Int).toNat)) 156 (0, 0))] ++ ([_, _, _, _])) := m29
  refine Vy (Qhc (Xm s8 rfl) (Aj b8 (Au (Au (Au (Au (Au (Au (Yu dbl k (Vj Xd key cr nz)) (0 : Int).toNat (4 : Int).toNat (8 : Int).toNat (12 : Int).toNat) (1 : Int).toNat (5 : Int).toNat (9 : Int).toNat (13 : Int).toNat) (2 : Int).toNat (6 : Int).toNat (10 : Int).toNat (14 : Int).toNat) (3 : Int).toNat (7 : Int).toNat (11 : Int).toNat (15 : Int).toNat) (0 : Int).toNat (5 : Int).toNat (10 : Int).toNat (15 : Int).toNat) (1 : Int).toNat (6 : Int).toNat (11 : Int).toNat (12 : Int).toNat) (2 : Int) (7 : Int) (8 : Int) (13 : Int) _ _ (Mem.give hF33) sD sD sD sD sD)) ?_
  rintro _ w32 ⟨rfl, k_w32⟩
  have m32 : Mem _ _ [_, _, _, _, _] := Mem.back hF33 k_w32
  refine Zv (Qh (Qb ?_))
  refine Qd (v := (i64 3)) (Yo 2 1) <| Zp (i64 3) ?_
  refine rN (Zt (sR ?_))
  refine Qd (Jf 3 4) ?_
  refine rN (Qa ?_)
  refine Za rfl Jg ?_
  refine Qs (Qc (Qa (Qk (sR ?_))))
  refine Zp (i64 3) <| Zz (i64 3) ?_
  refine rN (Qb ?_)
  refine Zp (i64 3) <| Zp (i64 3) <| Qd (v := (i64 4)) (Yo 3 1) <| Qd (v := (i64 0)) (Gn (a := 4) (b := 3) rfl rfl oM oM) <| Qd (v := (i64 4)) (Yo 4 0) <| Zp (i64 3) <| Qd (v := (i64 5)) (Yo 3 2) <| Qd (v := (i64 1)) (Gn (a := 5) (b := 3) rfl rfl oM oM) <| Qd (v := (i64 9)) (Yo 8 1) <| Zp (i64 3) <| Qd (v := (i64 6)) (Yo 3 3) <| Qd (v := (i64 2)) (Gn (a := 6) (b := 3) rfl rfl oM oM) ?_
  refine Qd (v := (i64 14)) (Yo 12 2) <| Qd (Gq i64 [3, 4, 9, 14] Z4 Qd6 Hg U0 rfl rfl) ?_
  have hF36 : Mem _ _ ([(b8, .cells (cl u32 (Au (Au (Au (Au (Au (Au (Au (Yu dbl k (Vj Xd key cr nz)) (0 : Int).toNat (4 : Int).toNat (8 : Int).toNat (12 : Int).toNat) (1 : Int).toNat (5 : Int).toNat (9 : Int).toNat (13 : Int).toNat) (2 : Int).toNat (6 : Int).toNat (10 : Int).toNat (14 : Int).toNat) (3 : Int).toNat (7 : Int).toNat (11 : Int).toNat (15 : Int).toNat) (0 : Int).toNat (5 : Int).toNat (10 : Int).toNat (15 : Int).toNat) (1 : Int).toNat (6 : Int).toNat (11 : Int).toNat (12 : Int).toNat) (2 : Int).toNat (7 : Int).toNat (8 : Int).toNat (13 : Int).toNat)) 156 (0, 0))] ++ ([_, _, _, _])) := m32
  refine Vy (Qhc (Xm s8 rfl) (Aj b8 (Au (Au (Au (Au (Au (Au (Au (Yu dbl k (Vj Xd key cr nz)) (0 : Int).toNat (4 : Int).toNat (8 : Int).toNat (12 : Int).toNat) (1 : Int).toNat (5 : Int).toNat (9 : Int).toNat (13 : Int).toNat) (2 : Int).toNat (6 : Int).toNat (10 : Int).toNat (14 : Int).toNat) (3 : Int).toNat (7 : Int).toNat (11 : Int).toNat (15 : Int).toNat) (0 : Int).toNat (5 : Int).toNat (10 : Int).toNat (15 : Int).toNat) (1 : Int).toNat (6 : Int).toNat (11 : Int).toNat (12 : Int).toNat) (2 : Int).toNat (7 : Int).toNat (8 : Int).toNat (13 : Int).toNat) (3 : Int) (4 : Int) (9 : Int) (14 : Int) _ _ (Mem.give hF36) sD sD sD sD sD)) ?_
  rintro _ w35 ⟨rfl, k_w35⟩
  have m35 : Mem _ _ [_, _, _, _, _] := Mem.back hF36 k_w35
  refine Zv (Qh (Qb ?_))
  refine Qd (v := (i64 4)) (Yo 3 1) <| Zp (i64 4) ?_
  refine rN (Zt (sR ?_))
  refine Qd (Jf 4 4) ?_
  refine rN (Qa ?_)
  refine Yy rfl Jg <| X6 ?_
  refine Qm (Qm (Xi ?_))
  refine Qh (Qb ?_)
  refine Qd (Zg (b := 1) s17 rfl oM oM) <| Zp (i64 ((k : Int) + 1)) <| rN ?_
  exact ⟨⟨k + 1, oM, s0, s1, s2, s3, s5, s6, s7, s8, rfl, m35⟩, Uo rfl z17 oM oM⟩
 ·
  have hc12p := of_decide_eq_false hc12
  obtain rfl : k = 10 := by omega
  refine X6 ?_
  refine Qm (Qm (Xi ?_))
  refine Qa (sR ?_)
  refine Zp (i64 0) ?_
  refine rN (Qk ?_)
  refine Y7 (fun g wv => ∃ (k2 : Nat), (k2 ≤ 64) ∧ g 0 = (agg u8 key) ∧ g 1 = (u32 cr) ∧ g 2 = (agg u8 nz) ∧ g 3 = (ptr b3 0) ∧ g 5 = (ptr b5 0) ∧ g 6 = (ptr b6 0) ∧ g 7 = (ptr b7 0) ∧ g 8 = (ptr b8 0) ∧ g 17 = (i64 (10 : Int)) ∧ g 18 = (bl (decide ((10 : Int) < 10))) ∧ g 52 = (i64 (k2 : Int)) ∧ Mem wv (Qu w0) [(b8, .cells (cl u32 (Yu dbl 10 (Vj Xd key cr nz))) 156 (0, 0)), (b7, .cells (cl u32 (Vj Xd key cr nz)) 156 (0, 0)), (b6, .cells (cl u8 (Y1 (P8 (Yu dbl 10 (Vj Xd key cr nz)) (Vj Xd key cr nz)) 0 64 k2)) 139 (0, 0)), (b5, .cells (cl u8 nz) 77 (0, 0)), (b3, .cells (cl u8 key) 23 (0, 0))]) (fun g wv => (64 - RowKit.intOf (g 52)).toNat) ?_ ?_
  ·exact ⟨0, oM, s0, s1, s2, s3, s5, s6, s7, s8, s17, rfl, rfl, (by rw [Em]; exact m11)⟩
  rintro fr38 w39 ⟨k2, hk2, s0, s1, s2, s3, s5, s6, s7, s8, s17, s18, s52, m39⟩
  have z52 := s52
  refine sR <| Qd (Z9 (b := 64) s52 rfl) ?_
  refine rN (Qa ?_)
  refine Z8 rfl (fun hc40 => ?_) (fun hc40 => ?_)
  ·
   have hc40p := of_decide_eq_true hc40
   refine Qs (Qc (Qa (Qk (sR ?_))))
   refine Ya s52 <| Zz (i64 (k2 : Int)) <| rN <| Xl (dl 15) 15 Xw <| Ky rfl (i64 (k2 : Int)) <| Ky rfl (i64 (k2 : Int)) <| Yb rfl (Uu (b := 4) rfl rfl oM oM oM) <| Yb rfl (Zo (r := ((k2 : Int) / 4 : Int).toNat) oM D8 Zj s8 rfl oM sD) <| Yn (v := (u32 ((Yu dbl 10 (Vj Xd key cr nz)).getD (((k2 : Int) / 4 : Int).toNat) 0))) rfl (fun _ e' => Ql Xx rfl rfl (m39.ext e').h0 (Qx _ _ 0 sD)) <| Ky rfl (i64 (k2 : Int)) <| Yb rfl (Uu (b := 4) rfl rfl oM oM oM) <| Yb rfl (Zo (r := ((k2 : Int) / 4 : Int).toNat) oM D8 Zj s7 rfl oM sD) ?_
   refine Yn (v := (u32 ((Vj Xd key cr nz).getD (((k2 : Int) / 4 : Int).toNat) 0))) rfl (fun _ e' => Ql Xx rfl rfl (m39.ext e').h1 (Qx _ _ 0 sD)) <| Yb rfl (X5 rfl rfl) <| Ky rfl (i64 (k2 : Int)) <| Yb rfl (Vf (b := 4) rfl rfl oM oM oM) <| Yb rfl (Wl (a := 8) rfl rfl oM oM) <| Yb rfl (Us rfl rfl oM) <| Yb rfl (Fz ⟨_, Xx⟩ Gl rfl) <| Gs m39 fun w41 m41 => Qd (Zo (r := k2) oM uT139 Y0 s6 rfl oM sD) <| Bh m41 (Xz (f := u8) (a := ((((Yu dbl 10 (Vj Xd key cr nz)).getD (((k2 : Int) / 4 : Int).toNat) 0) + ((Vj Xd key cr nz).getD (((k2 : Int) / 4 : Int).toNat) 0)) >>> (8 * ((k2 : Int) % 4)).toNat).setWidth 8) Qy Y0 rfl rfl m41.h2 sD (.inl (Nat.zero_le _))) fun w42 m42 => ?_
   refine Zv (Qh (Qb ?_))
   refine Qd (Zg (b := 1) s52 rfl oM oM) <| Zp (i64 ((k2 : Int) + 1)) <| rN ?_
   exact ⟨⟨k2 + 1, oM, s0, s1, s2, s3, s5, s6, s7, s8, s17, s18, rfl, (by rw [← Ew (P8 (Yu dbl 10 (Vj Xd key cr nz)) (Vj Xd key cr nz)) 0 (n := 64) (k := k2) oM _ rfl]; exact m42)⟩, Uo rfl z52 oM oM⟩
  ·
   have hc40p := of_decide_eq_false hc40
   obtain rfl : k2 = 64 := by omega
   refine X6 ?_
   refine Qm (Qm (Xi ?_))
   refine sR <| Qd (Qp uT139 rfl Qkl s6 m39.h2 sZ) <| Bh m39 (Qj (f := u8) (l := Y1 (P8 (Yu dbl 10 (Vj Xd key cr nz)) (Vj Xd key cr nz)) 0 64 64) Qy Qkl s6 rfl sD m39.h2 sZ rfl) fun w43 m43 => ?_
   refine rN (Xb ?_)
   refine Qv [(agg u8 (Y1 (P8 (Yu dbl 10 (Vj Xd key cr nz)) (Vj Xd key cr nz)) 0 64 64))] ⟨⟨_, s6, Xr uT139 rfl Qkl m43.h2 sZ⟩, trivial⟩ ?_
   exact ⟨rfl, m43.toExt⟩
end Go.Proofs.YtkmiemlpfkfiiaaDoor
