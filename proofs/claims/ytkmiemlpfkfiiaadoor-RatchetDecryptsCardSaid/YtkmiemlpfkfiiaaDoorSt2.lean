/- Contracts: stream, second part. Conditions: none beyond those that each theorem states. -/
import Derived.Test.YtkmiemlpfkfiiaaDoorSt1
namespace Go.Proofs.YtkmiemlpfkfiiaaDoor
open Tryd
set_option linter.unusedVariables false
set_option linter.unusedSimpArgs false
def Uz (key : Z8) (i n : Nat) : Z8 := (key.drop i).take n
def Ve (word : Z8 → BitVec 32) (key : Z8) (cr : BitVec 32) (nz : Z8) : List (BitVec 32) :=
  [1634760805#32, 857760878#32, 2036477234#32, 1797285236#32, word key, word (Uz key 4 28), word (Uz key 8 24), word (Uz key 12 20),
   word (Uz key 16 16), word (Uz key 20 12), word (Uz key 24 8), word (Uz key 28 4), cr, word nz, word (Uz nz 4 8), word (Uz nz 8 4)]
@[simp] theorem beginP_length (word : Z8 → BitVec 32) (key : Z8) (cr : BitVec 32) (nz : Z8) : (Ve word key cr nz).length = 16 := rfl
attribute [simp] Qou
def dbl (s : List (BitVec 32)) : List (BitVec 32) :=
 Hg (Hg (Hg (Hg (Hg (Hg (Hg (Hg s 0 4 8 12) 1 5 9 13) 2 6 10 14) 3 7 11 15) 0 5 10 15) 1 6 11 12) 2 7 8 13) 3 4 9 14
def Yq (f : List (BitVec 32) → List (BitVec 32)) : Nat → List (BitVec 32) → List (BitVec 32)
 | 0, s => s
 | k + 1, s => f (Yq f k s)
@[simp] theorem dbl_length (s : List (BitVec 32)) : (dbl s).length = s.length := by simp [dbl]
@[simp] theorem Qqg (k : Nat) (s : List (BitVec 32)) : (Yq dbl k s).length = s.length := by
 induction k with
 | zero => rfl
 | succ k ih => simp [Yq, ih]
def Rj (s f : List (BitVec 32)) (i : Nat) : BitVec 8 :=
 ((s.getD ((i : Int) / 4).toNat 0 + f.getD ((i : Int) / 4).toNat 0) >>> (8 * ((i : Int) % 4)).toNat).setWidth 8
def Yr (key : Z8) (cr : BitVec 32) (nz : Z8) : Z8 :=
 Y0 (Rj (Yq dbl 10 (Ve Z9 key cr nz)) (Ve Z9 key cr nz)) 0 64 64
@[simp] theorem blockP_length (key : Z8) (cr : BitVec 32) (nz : Z8) : (Yr key cr nz).length = 64 := by
 unfold Yr; rw [J9 _ _ _ _ oM]
@[simp] theorem filled_length' {α : Type} (g : Nat → α) (z : α) (n k : Nat) : (Y0 g z n k).length = k + (n - k) := by simp [Y0]
theorem c_begin (key : Z8) (cr : BitVec 32) (nz : Z8) (w0 : World)  (hk : key.length = 32) (hn : nz.length = 12) : X0 prog 103 #[(agg u8 key), (u32 cr), (agg u8 nz)] w0 (fun r w1 => r = (agg u32 (Ve Z9 key cr nz)) ∧ Ext w0 w1) := by
 refine Qy (args := [(agg u8 key), (u32 cr), (agg u8 nz)]) func103 rfl ntmps103 results103 rfl ?_
 have m0 : Mem w0 (Qr w0) [] := Mem.of_world w0
 refine sR <| Y9 (Xc (f := u8) (l := key) m0 rfl) fun w1 b3 m1 => Y9 (Xc (f := u8) (l := nz) m1 rfl) fun w2 b5 m2 => Y9 (Q7 m2 Qff) fun w3 b6 m3 => ?_
 refine rN (sR ?_)
 refine Qd (Xk (i := 0) (j := 16) Cc Ze rfl (Zd _ _) (Zd _ _) oM sD sD) <| Y9 (Qq u32 [1634760805#32, 857760878#32, 2036477234#32, 1797285236#32] Xb m3 H9 Ze rfl rfl rfl) fun w4 b10 m4 => Vw (Qez (f := u32) (Eq.trans rfl (Qm5 Jb)) rfl (Rd.mkA m4.h0) H9 Ze Xb m4.h1 sD sD (Nat.le_refl _)) ?_
 rintro _ w5 ⟨rfl, uq5⟩
 have m5 : Mem w5 (Qr w0) [(b10, .cells (cl u32 ([1634760805#32, 857760878#32, 2036477234#32, 1797285236#32])) 106 (0, 0)), (b6, .cells (cl u32 ([1634760805#32, 857760878#32, 2036477234#32, 1797285236#32, 0, 0, 0, 0, 0, 0, 0, 0, 0, 0, 0, 0])) 156 (0, 0)), (b5, .cells (cl u8 nz) 77 (0, 0)), (b3, .cells (cl u8 key) 23 (0, 0))] := m4.upd1 uq5
 refine rN (Qa (sR ?_))
 refine Zm (i64 0) ?_
 refine rN (Qh ?_)
 refine Vo 9 ?_
 refine Zq (sR ?_)
 refine Qd (Jd 0 8) ?_
 refine rN (Qa ?_)
 refine Q9 rfl Jb ?_
 refine Qn (Qc (Qa (Qh (sR ?_))))
 refine Zm (i64 0) <| Zx (i64 0) ?_
 refine rN (Qb ?_)
 refine Zm (i64 0) <| Qd (v := (i64 4)) (Yo 4 0) <| Zm (i64 0) <| Qd (v := (i64 0)) (Vx 4 0) <| Qd (Xk (i := 0) (j := 32) Xl Yw rfl (Yd (k := .i64) (i := 0) rfl) (Zd _ _) oM sD sD) <| U3 m5 (Qdg (Jv rfl) (Qa0 (sla b3 0 1 0 32 32) key _ (Rd.slaAll m5.h3 sD) sD)) fun w6 m6 => Qd (Xu 4 4 Cc Ze rfl) <| Vu m6 (Zk (f := u32) (l' := [1634760805#32, 857760878#32, 2036477234#32, 1797285236#32, Z9 key, 0, 0, 0, 0, 0, 0, 0, 0, 0, 0, 0]) rfl Xb Ze rfl rfl m6.h1 Ya (.inl (Nat.zero_le _))) fun w8 m8 => ?_
 refine Zp (Qe ?_)
 have m9 := Mem.drop [_] _ m8
 refine Qb <| Qd (v := (i64 1)) (Yo 0 1) <| Zm (i64 1) ?_
 refine rN (Zq (sR ?_))
 refine Qd (Jd 1 8) ?_
 refine rN (Qa ?_)
 refine Q9 rfl Jb ?_
 refine Qn (Qc (Qa (Qh (sR ?_))))
 refine Zm (i64 1) <| Zx (i64 1) ?_
 refine rN (Qb ?_)
 refine Zm (i64 1) <| Qd (v := (i64 5)) (Yo 4 1) <| Zm (i64 1) <| Qd (v := (i64 4)) (Vx 4 1) <| Qd (Xk (i := 4) (j := 32) Xl Yw rfl (Yd (k := .i64) (i := 4) rfl) (Zd _ _) oM sD sD) <| U3 m9 (Qdg (Jv rfl) (Qa0 (sla b3 0 1 4 32 32) ((key.drop 4).take 28) _ (Rd.cast (l' := (key.drop 4).take 28) (Rd.sla m9.h2 sD oM sD sD) rfl) sD)) fun w10 m10 => Qd (Xu 5 5 Cc Ze rfl) <| Ye m10 (Zk (f := u32) (l' := [1634760805#32, 857760878#32, 2036477234#32, 1797285236#32, Z9 key, Z9 ((key.drop 4).take 28), 0, 0, 0, 0, 0, 0, 0, 0, 0, 0]) rfl Xb Ze rfl rfl m10.h0 Ya (.inl (Nat.zero_le _))) fun w12 m12 => ?_
 refine Zp (Qe (Qb ?_))
 refine Qd (v := (i64 2)) (Yo 1 1) <| Zm (i64 2) ?_
 refine rN (Zq (sR ?_))
 refine Qd (Jd 2 8) ?_
 refine rN (Qa ?_)
 refine Q9 rfl Jb ?_
 refine Qn (Qc (Qa (Qh (sR ?_))))
 refine Zm (i64 2) <| Zx (i64 2) ?_
 refine rN (Qb ?_)
 refine Zm (i64 2) <| Qd (v := (i64 6)) (Yo 4 2) <| Zm (i64 2) <| Qd (v := (i64 8)) (Vx 4 2) <| Qd (Xk (i := 8) (j := 32) Xl Yw rfl (Yd (k := .i64) (i := 8) rfl) (Zd _ _) oM sD sD) <| U3 m12 (Qdg (Jv rfl) (Qa0 (sla b3 0 1 8 32 32) ((key.drop 8).take 24) _ (Rd.cast (l' := (key.drop 8).take 24) (Rd.sla m12.h2 sD oM sD sD) rfl) sD)) fun w13 m13 => Qd (Xu 6 6 Cc Ze rfl) <| Ye m13 (Zk (f := u32) (l' := [1634760805#32, 857760878#32, 2036477234#32, 1797285236#32, Z9 key, Z9 ((key.drop 4).take 28), Z9 ((key.drop 8).take 24), 0, 0, 0, 0, 0, 0, 0, 0, 0]) rfl Xb Ze rfl rfl m13.h0 Ya (.inl (Nat.zero_le _))) fun w15 m15 => ?_
 refine Zp (Qe (Qb ?_))
 refine Qd (v := (i64 3)) (Yo 2 1) <| Zm (i64 3) ?_
 refine rN (Zq (sR ?_))
 refine Qd (Jd 3 8) ?_
 refine rN (Qa ?_)
 refine Q9 rfl Jb ?_
 refine Qn (Qc (Qa (Qh (sR ?_))))
 refine Zm (i64 3) <| Zx (i64 3) ?_
 refine rN (Qb ?_)
 refine Zm (i64 3) <| Qd (v := (i64 7)) (Yo 4 3) <| Zm (i64 3) <| Qd (v := (i64 12)) (Vx 4 3) <| Qd (Xk (i := 12) (j := 32) Xl Yw rfl (Yd (k := .i64) (i := 12) rfl) (Zd _ _) oM sD sD) <| U3 m15 (Qdg (Jv rfl) (Qa0 (sla b3 0 1 12 32 32) ((key.drop 12).take 20) _ (Rd.cast (l' := (key.drop 12).take 20) (Rd.sla m15.h2 sD oM sD sD) rfl) sD)) fun w16 m16 => Qd (Xu 7 7 Cc Ze rfl) <| Ye m16 (Zk (f := u32) (l' := [1634760805#32, 857760878#32, 2036477234#32, 1797285236#32, Z9 key, Z9 ((key.drop 4).take 28), Z9 ((key.drop 8).take 24), Z9 ((key.drop 12).take 20), 0, 0, 0, 0, 0, 0, 0, 0]) rfl Xb Ze rfl rfl m16.h0 Ya (.inl (Nat.zero_le _))) fun w18 m18 => ?_
 refine Zp (Qe (Qb ?_))
 refine Qd (v := (i64 4)) (Yo 3 1) <| Zm (i64 4) ?_
 refine rN (Zq (sR ?_))
 refine Qd (Jd 4 8) ?_
 refine rN (Qa ?_)
 refine Q9 rfl Jb ?_
 refine Qn (Qc (Qa (Qh (sR ?_))))
 refine Zm (i64 4) <| Zx (i64 4) ?_
 refine rN (Qb ?_)
 refine Zm (i64 4) <| Qd (v := (i64 8)) (Yo 4 4) <| Zm (i64 4) <| Qd (v := (i64 16)) (Vx 4 4) <| Qd (Xk (i := 16) (j := 32) Xl Yw rfl (Yd (k := .i64) (i := 16) rfl) (Zd _ _) oM sD sD) <| U3 m18 (Qdg (Jv rfl) (Qa0 (sla b3 0 1 16 32 32) ((key.drop 16).take 16) _ (Rd.cast (l' := (key.drop 16).take 16) (Rd.sla m18.h2 sD oM sD sD) rfl) sD)) fun w19 m19 => Qd (Xu 8 8 Cc Ze rfl) <| Ye m19 (Zk (f := u32) (l' := [1634760805#32, 857760878#32, 2036477234#32, 1797285236#32, Z9 key, Z9 ((key.drop 4).take 28), Z9 ((key.drop 8).take 24), Z9 ((key.drop 12).take 20), Z9 ((key.drop 16).take 16), 0, 0, 0, 0, 0, 0, 0]) rfl Xb Ze rfl rfl m19.h0 Ya (.inl (Nat.zero_le _))) fun w21 m21 => ?_
 refine Zp (Qe (Qb ?_))
 refine Qd (v := (i64 5)) (Yo 4 1) <| Zm (i64 5) ?_
 refine rN (Zq (sR ?_))
 refine Qd (Jd 5 8) ?_
 refine rN (Qa ?_)
 refine Q9 rfl Jb ?_
 refine Qn (Qc (Qa (Qh (sR ?_))))
 refine Zm (i64 5) <| Zx (i64 5) ?_
 refine rN (Qb ?_)
 refine Zm (i64 5) <| Qd (v := (i64 9)) (Yo 4 5) <| Zm (i64 5) <| Qd (v := (i64 20)) (Vx 4 5) <| Qd (Xk (i := 20) (j := 32) Xl Yw rfl (Yd (k := .i64) (i := 20) rfl) (Zd _ _) oM sD sD) <| U3 m21 (Qdg (Jv rfl) (Qa0 (sla b3 0 1 20 32 32) ((key.drop 20).take 12) _ (Rd.cast (l' := (key.drop 20).take 12) (Rd.sla m21.h2 sD oM sD sD) rfl) sD)) fun w22 m22 => Qd (Xu 9 9 Cc Ze rfl) <| Ye m22 (Zk (f := u32) (l' := [1634760805#32, 857760878#32, 2036477234#32, 1797285236#32, Z9 key, Z9 ((key.drop 4).take 28), Z9 ((key.drop 8).take 24), Z9 ((key.drop 12).take 20), Z9 ((key.drop 16).take 16), Z9 ((key.drop 20).take 12), 0, 0, 0, 0, 0, 0]) rfl Xb Ze rfl rfl m22.h0 Ya (.inl (Nat.zero_le _))) fun w24 m24 => ?_
 refine Zp (Qe (Qb ?_))
 refine Qd (v := (i64 6)) (Yo 5 1) <| Zm (i64 6) ?_
 refine rN (Zq (sR ?_))
 refine Qd (Jd 6 8) ?_
 refine rN (Qa ?_)
 refine Q9 rfl Jb ?_
 refine Qn (Qc (Qa (Qh (sR ?_))))
 refine Zm (i64 6) <| Zx (i64 6) <| rN ?_
 refine CW.abs (fun g => g 0 = (agg u8 key) ∧ g 1 = (u32 cr) ∧ g 2 = (agg u8 nz) ∧ g 3 = (ptr b3 0) ∧ g 5 = (ptr b5 0) ∧ g 6 = (ptr b6 0) ∧ g 7 = (i64 6) ∧ g 12 = (i64 6) ∧ g 13 = (bl true) ∧ True) ⟨rfl, rfl, rfl, rfl, rfl, rfl, rfl, rfl, rfl, trivial⟩ ?_
 rintro fr25 ⟨s0, s1, s2, s3, s5, s6, s7, s12, s13, _⟩
 refine Qb <| Yb s7 <| Qd (v := (i64 10)) (Yo 4 6) <| Yb s7 <| Qd (v := (i64 24)) (Vx 4 6) <| Qd (Xk (i := 24) (j := 32) Xl Yw s3 (Yd (k := .i64) (i := 24) rfl) (Zd _ _) oM sD sD) <| U3 m24 (Qdg (Jv rfl) (Qa0 (sla b3 0 1 24 32 32) ((key.drop 24).take 8) _ (Rd.cast (l' := (key.drop 24).take 8) (Rd.sla m24.h2 sD oM sD sD) rfl) sD)) fun w26 m26 => Qd (Xu 10 10 Cc Ze s6) <| Ye m26 (Zk (f := u32) (l' := [1634760805#32, 857760878#32, 2036477234#32, 1797285236#32, Z9 key, Z9 ((key.drop 4).take 28), Z9 ((key.drop 8).take 24), Z9 ((key.drop 12).take 20), Z9 ((key.drop 16).take 16), Z9 ((key.drop 20).take 12), Z9 ((key.drop 24).take 8), 0, 0, 0, 0, 0]) rfl Xb Ze rfl rfl m26.h0 Ya (.inl (Nat.zero_le _))) fun w28 m28 => ?_
 refine Zp (Qe (Qb ?_))
 refine Qd (v := (i64 7)) (Zf (a := 6) (b := 1) s12 rfl oM oM) <| Zm (i64 7) ?_
 refine rN (Zq (sR ?_))
 refine Qd (Jd 7 8) ?_
 refine rN (Qa ?_)
 refine Q9 rfl Jb ?_
 refine Qn (Qc (Qa (Qh (sR ?_))))
 refine Zm (i64 7) <| Zx (i64 7) ?_
 refine rN (Qb ?_)
 refine Zm (i64 7) <| Qd (v := (i64 11)) (Yo 4 7) <| Zm (i64 7) <| Qd (v := (i64 28)) (Vx 4 7) <| Qd (Xk (i := 28) (j := 32) Xl Yw s3 (Yd (k := .i64) (i := 28) rfl) (Zd _ _) oM sD sD) <| U3 m28 (Qdg (Jv rfl) (Qa0 (sla b3 0 1 28 32 32) ((key.drop 28).take 4) _ (Rd.cast (l' := (key.drop 28).take 4) (Rd.sla m28.h2 sD oM sD sD) rfl) sD)) fun w29 m29 => Qd (Xu 11 11 Cc Ze s6) <| Ye m29 (Zk (f := u32) (l' := [1634760805#32, 857760878#32, 2036477234#32, 1797285236#32, Z9 key, Z9 ((key.drop 4).take 28), Z9 ((key.drop 8).take 24), Z9 ((key.drop 12).take 20), Z9 ((key.drop 16).take 16), Z9 ((key.drop 20).take 12), Z9 ((key.drop 24).take 8), Z9 ((key.drop 28).take 4), 0, 0, 0, 0]) rfl Xb Ze rfl rfl m29.h0 Ya (.inl (Nat.zero_le _))) fun w31 m31 => ?_
 refine Zp (Qe (Qb ?_))
 refine Qd (v := (i64 8)) (Yo 7 1) <| Zm (i64 8) ?_
 refine rN (Zq (sR ?_))
 refine Qd (Jd 8 8) ?_
 refine rN (Qa ?_)
 refine Ja rfl Jb <| X4 ?_
 refine Qj (Qj (Xi ?_))
 refine sR <| Yb s1 <| Qd (Xu 12 12 Cc Ze s6) <| Ye m31 (Zk (f := u32) (l' := [1634760805#32, 857760878#32, 2036477234#32, 1797285236#32, Z9 key, Z9 ((key.drop 4).take 28), Z9 ((key.drop 8).take 24), Z9 ((key.drop 12).take 20), Z9 ((key.drop 16).take 16), Z9 ((key.drop 20).take 12), Z9 ((key.drop 24).take 8), Z9 ((key.drop 28).take 4), cr, 0, 0, 0]) rfl Xb Ze rfl rfl m31.h0 Ya (.inl (Nat.zero_le _))) fun w32 m32 => ?_
 refine rN (Qa (sR ?_))
 refine Zm (i64 0) ?_
 refine rN (Qh ?_)
 refine Vo 4 ?_
 refine Zq (sR ?_)
 refine Qd (Jd 0 3) ?_
 refine rN (Qa ?_)
 refine Q9 rfl Jb ?_
 refine Qn (Qc (Qa (Qh (sR ?_))))
 refine Zm (i64 0) <| Zx (i64 0) ?_
 refine rN (Qb ?_)
 refine Zm (i64 0) <| Qd (v := (i64 13)) (Yo 13 0) <| Zm (i64 0) <| Qd (v := (i64 0)) (Vx 4 0) <| Qd (Xk (i := 0) (j := 12) Po Yw s5 (Yd (k := .i64) (i := 0) rfl) (Zd _ _) oM sD sD) <| U3 m32 (Qdg (Jv rfl) (Qa0 (sla b5 0 1 0 12 12) nz _ (Rd.slaAll m32.h1 sD) sD)) fun w33 m33 => Qd (Xu 13 13 Cc Ze s6) <| Ye m33 (Zk (f := u32) (l' := [1634760805#32, 857760878#32, 2036477234#32, 1797285236#32, Z9 key, Z9 ((key.drop 4).take 28), Z9 ((key.drop 8).take 24), Z9 ((key.drop 12).take 20), Z9 ((key.drop 16).take 16), Z9 ((key.drop 20).take 12), Z9 ((key.drop 24).take 8), Z9 ((key.drop 28).take 4), cr, Z9 nz, 0, 0]) rfl Xb Ze rfl rfl m33.h0 Ya (.inl (Nat.zero_le _))) fun w35 m35 => ?_
 refine Zp (Qe (Qb ?_))
 refine Qd (v := (i64 1)) (Yo 0 1) <| Zm (i64 1) ?_
 refine rN (Zq (sR ?_))
 refine Qd (Jd 1 3) ?_
 refine rN (Qa ?_)
 refine Q9 rfl Jb ?_
 refine Qn (Qc (Qa (Qh (sR ?_))))
 refine Zm (i64 1) <| Zx (i64 1) ?_
 refine rN (Qb ?_)
 refine Zm (i64 1) <| Qd (v := (i64 14)) (Yo 13 1) <| Zm (i64 1) <| Qd (v := (i64 4)) (Vx 4 1) <| Qd (Xk (i := 4) (j := 12) Po Yw s5 (Yd (k := .i64) (i := 4) rfl) (Zd _ _) oM sD sD) <| U3 m35 (Qdg (Jv rfl) (Qa0 (sla b5 0 1 4 12 12) ((nz.drop 4).take 8) _ (Rd.cast (l' := (nz.drop 4).take 8) (Rd.sla m35.h1 sD oM sD sD) rfl) sD)) fun w36 m36 => Qd (Xu 14 14 Cc Ze s6) <| Ye m36 (Zk (f := u32) (l' := [1634760805#32, 857760878#32, 2036477234#32, 1797285236#32, Z9 key, Z9 ((key.drop 4).take 28), Z9 ((key.drop 8).take 24), Z9 ((key.drop 12).take 20), Z9 ((key.drop 16).take 16), Z9 ((key.drop 20).take 12), Z9 ((key.drop 24).take 8), Z9 ((key.drop 28).take 4), cr, Z9 nz, Z9 ((nz.drop 4).take 8), 0]) rfl Xb Ze rfl rfl m36.h0 Ya (.inl (Nat.zero_le _))) fun w38 m38 => ?_
 refine Zp (Qe (Qb ?_))
 refine Qd (v := (i64 2)) (Yo 1 1) <| Zm (i64 2) ?_
 refine rN (Zq (sR ?_))
 refine Qd (Jd 2 3) ?_
 refine rN (Qa ?_)
 refine Q9 rfl Jb ?_
 refine Qn (Qc (Qa (Qh (sR ?_))))
 refine Zm (i64 2) <| Zx (i64 2) ?_
 refine rN (Qb ?_)
 refine Zm (i64 2) <| Qd (v := (i64 15)) (Yo 13 2) <| Zm (i64 2) <| Qd (v := (i64 8)) (Vx 4 2) <| Qd (Xk (i := 8) (j := 12) Po Yw s5 (Yd (k := .i64) (i := 8) rfl) (Zd _ _) oM sD sD) <| U3 m38 (Qdg (Jv rfl) (Qa0 (sla b5 0 1 8 12 12) ((nz.drop 8).take 4) _ (Rd.cast (l' := (nz.drop 8).take 4) (Rd.sla m38.h1 sD oM sD sD) rfl) sD)) fun w39 m39 => Qd (Xu 15 15 Cc Ze s6) <| Ye m39 (Zk (f := u32) (l' := [1634760805#32, 857760878#32, 2036477234#32, 1797285236#32, Z9 key, Z9 ((key.drop 4).take 28), Z9 ((key.drop 8).take 24), Z9 ((key.drop 12).take 20), Z9 ((key.drop 16).take 16), Z9 ((key.drop 20).take 12), Z9 ((key.drop 24).take 8), Z9 ((key.drop 28).take 4), cr, Z9 nz, Z9 ((nz.drop 4).take 8), Z9 ((nz.drop 8).take 4)]) rfl Xb Ze rfl rfl m39.h0 Ya (.inl (Nat.zero_le _))) fun w41 m41 => ?_
 refine Zp (Qe (Qb ?_))
 refine Qd (v := (i64 3)) (Yo 2 1) <| Zm (i64 3) ?_
 refine rN (Zq (sR ?_))
 refine Qd (Jd 3 3) ?_
 refine rN (Qa ?_)
 refine Ja rfl Jb <| X4 ?_
 refine Qj (Qj (Xi ?_))
 refine sR <| Qd (Qo Cc rfl Qff s6 m41.h0 sZ) <| Ye m41 (Qg (f := u32) (l := [1634760805#32, 857760878#32, 2036477234#32, 1797285236#32, Z9 key, Z9 ((key.drop 4).take 28), Z9 ((key.drop 8).take 24), Z9 ((key.drop 12).take 20), Z9 ((key.drop 16).take 16), Z9 ((key.drop 20).take 12), Z9 ((key.drop 24).take 8), Z9 ((key.drop 28).take 4), cr, Z9 nz, Z9 ((nz.drop 4).take 8), Z9 ((nz.drop 8).take 4)]) Xb Qff s6 rfl sD m41.h0 sZ rfl) fun w42 m42 => ?_
 refine rN (Zz ?_)
 refine Qp [(agg u32 ([1634760805#32, 857760878#32, 2036477234#32, 1797285236#32, Z9 key, Z9 ((key.drop 4).take 28), Z9 ((key.drop 8).take 24), Z9 ((key.drop 12).take 20), Z9 ((key.drop 16).take 16), Z9 ((key.drop 20).take 12), Z9 ((key.drop 24).take 8), Z9 ((key.drop 28).take 4), cr, Z9 nz, Z9 ((nz.drop 4).take 8), Z9 ((nz.drop 8).take 4)]))] ⟨⟨_, s6, Xn Cc rfl Qff m42.h0 sZ⟩, trivial⟩ ?_
 exact ⟨rfl, m42.toExt⟩
theorem c_block (key : Z8) (cr : BitVec 32) (nz : Z8) (w0 : World)  (hk : key.length = 32) (hn : nz.length = 12) : X0 prog 89 #[(agg u8 key), (u32 cr), (agg u8 nz)] w0 (fun r w1 => r = (agg u8 (Yr key cr nz)) ∧ Ext w0 w1) := by
 refine Qy (args := [(agg u8 key), (u32 cr), (agg u8 nz)]) func89 rfl ntmps89 results89 rfl ?_
 have m0 : Mem w0 (Qr w0) [] := Mem.of_world w0
 refine sR <| Y9 (Xc (f := u8) (l := key) m0 rfl) fun w1 b3 m1 => Y9 (Xc (f := u8) (l := nz) m1 rfl) fun w2 b5 m2 => Y9 (Q7 m2 Qkv) fun w3 b6 m3 => ?_
 refine rN (sR ?_)
 refine Qd (Qo Xl rfl Zg rfl m3.h2 sZ) <| Zm (u32 cr) <| Qd (Qo Po rfl Qbl rfl m3.h1 sZ) <| U3 m3 (oc103 (Ci rfl rfl rfl) (c_begin _ cr _ _ sD sD)) fun w4 m4 => Y9 (Q7 m4 Qff) fun w6 b7 m6 => Ye m6 (Qg (f := u32) (l := Ve Z9 key cr nz) Xb Qff rfl rfl sD m6.h0 sZ rfl) fun w7 m7 => ?_
 refine rN (sR ?_)
 refine Qd (Qo Cc rfl Qff rfl m7.h0 sZ) <| Y9 (Q7 m7 Qff) fun w8 b8 m8 => Ye m8 (Qg (f := u32) (l := Ve Z9 key cr nz) Xb Qff rfl rfl sD m8.h0 sZ rfl) fun w9 m9 => ?_
 refine rN (Qa (sR ?_))
 refine Zm (i64 0) ?_
 refine rN (Qh ?_)
 refine Y1 (fun g wv => ∃ (k : Nat), (k ≤ 10) ∧ g 0 = (agg u8 key) ∧ g 1 = (u32 cr) ∧ g 2 = (agg u8 nz) ∧ g 3 = (ptr b3 0) ∧ g 5 = (ptr b5 0) ∧ g 6 = (ptr b6 0) ∧ g 7 = (ptr b7 0) ∧ g 8 = (ptr b8 0) ∧ g 17 = (i64 (k : Int)) ∧ Mem wv (Qr w0) [(b8, .cells (cl u32 (Yq dbl k (Ve Z9 key cr nz))) 156 (0, 0)), (b7, .cells (cl u32 (Ve Z9 key cr nz)) 156 (0, 0)), (b6, .cells (cl u8 (List.replicate 64 0)) 139 (0, 0)), (b5, .cells (cl u8 nz) 77 (0, 0)), (b3, .cells (cl u8 key) 23 (0, 0))]) (fun g wv => (10 - RowKit.intOf (g 17)).toNat) ?_ ?_
 ·exact ⟨0, oM, rfl, rfl, rfl, rfl, rfl, rfl, rfl, rfl, rfl, m9⟩
 rintro fr10 w11 ⟨k, hk1, s0, s1, s2, s3, s5, s6, s7, s8, s17, m11⟩
 have z17 := s17
 refine sR <| Qd (Xa (b := 10) s17 rfl) ?_
 refine rN (Qa ?_)
 refine Zy rfl (fun hc12 => ?_) (fun hc12 => ?_)
 ·
  have hc12p := of_decide_eq_true hc12
  refine Qn (Qc (Qa (Qh (Qa (sR ?_)))))
  refine Zm (i64 0) ?_
  refine rN (Qh ?_)
  refine Vo 5 ?_
  refine Zq (sR ?_)
  refine Qd (Jd 0 4) ?_
  refine rN (Qa ?_)
  refine Q9 rfl Jb ?_
  refine Qn (Qc (Qa (Qh (sR ?_))))
  refine Zm (i64 0) <| Zx (i64 0) ?_
  refine rN (Qb ?_)
  refine Zm (i64 0) <| Zm (i64 0) <| Qd (v := (i64 4)) (Yo 4 0) <| Zm (i64 0) <| Qd (v := (i64 8)) (Yo 8 0) <| Zm (i64 0) <| Qd (v := (i64 12)) (Yo 12 0) <| Qd (Gi i64 [0, 4, 8, 12] Zv Qek La Ui rfl rfl) ?_
  have hF14 : Mem _ _ ([(b8, .cells (cl u32 (Yq dbl k (Ve Z9 key cr nz))) 156 (0, 0))] ++ ([_, _, _, _])) := m11
  refine Vw (Qhl (Xm s8 rfl) (Au b8 (Yq dbl k (Ve Z9 key cr nz)) (0 : Int) (4 : Int) (8 : Int) (12 : Int) _ _ (Mem.give hF14) sD sD sD sD sD)) ?_
  rintro _ w13 ⟨rfl, k_w13⟩
  have m13 : Mem _ _ [_, _, _, _, _] := Mem.back hF14 k_w13
  refine Zp (Qe (Qb ?_))
  refine Qd (v := (i64 1)) (Yo 0 1) <| Zm (i64 1) ?_
  refine rN (Zq (sR ?_))
  refine Qd (Jd 1 4) ?_
  refine rN (Qa ?_)
  refine Q9 rfl Jb ?_
  refine Qn (Qc (Qa (Qh (sR ?_))))
  refine Zm (i64 1) <| Zx (i64 1) ?_
  refine rN (Qb ?_)
  refine Zm (i64 1) <| Zm (i64 1) <| Qd (v := (i64 5)) (Yo 4 1) <| Zm (i64 1) <| Qd (v := (i64 9)) (Yo 8 1) <| Zm (i64 1) <| Qd (v := (i64 13)) (Yo 12 1) <| Qd (Gi i64 [1, 5, 9, 13] Zv Qek La Ui rfl rfl) ?_
  have hF17 : Mem _ _ ([(b8, .cells (cl u32 (Hg (Yq dbl k (Ve Z9 key cr nz)) (0 : Int).toNat (4 : Int).toNat (8 : Int).toNat (12 : Int).toNat)) 156 (0, 0))] ++ ([_, _, _, _])) := m13
  refine Vw (Qhl (Xm s8 rfl) (Au b8 (Hg (Yq dbl k (Ve Z9 key cr nz)) (0 : Int).toNat (4 : Int).toNat (8 : Int).toNat (12 : Int).toNat) (1 : Int) (5 : Int) (9 : Int) (13 : Int) _ _ (Mem.give hF17) sD sD sD sD sD)) ?_
  rintro _ w16 ⟨rfl, k_w16⟩
  have m16 : Mem _ _ [_, _, _, _, _] := Mem.back hF17 k_w16
  refine Zp (Qe (Qb ?_))
  refine Qd (v := (i64 2)) (Yo 1 1) <| Zm (i64 2) ?_
  refine rN (Zq (sR ?_))
  refine Qd (Jd 2 4) ?_
  refine rN (Qa ?_)
  refine Q9 rfl Jb ?_
  refine Qn (Qc (Qa (Qh (sR ?_))))
  refine Zm (i64 2) <| Zx (i64 2) ?_
  refine rN (Qb ?_)
  refine Zm (i64 2) <| Zm (i64 2) <| Qd (v := (i64 6)) (Yo 4 2) <| Zm (i64 2) <| Qd (v := (i64 10)) (Yo 8 2) <| Zm (i64 2) <| Qd (v := (i64 14)) (Yo 12 2) <| Qd (Gi i64 [2, 6, 10, 14] Zv Qek La Ui rfl rfl) ?_
  have hF20 : Mem _ _ ([(b8, .cells (cl u32 (Hg (Hg (Yq dbl k (Ve Z9 key cr nz)) (0 : Int).toNat (4 : Int).toNat (8 : Int).toNat (12 : Int).toNat) (1 : Int).toNat (5 : Int).toNat (9 : Int).toNat (13 : Int).toNat)) 156 (0, 0))] ++ ([_, _, _, _])) := m16
  refine Vw (Qhl (Xm s8 rfl) (Au b8 (Hg (Hg (Yq dbl k (Ve Z9 key cr nz)) (0 : Int).toNat (4 : Int).toNat (8 : Int).toNat (12 : Int).toNat) (1 : Int).toNat (5 : Int).toNat (9 : Int).toNat (13 : Int).toNat) (2 : Int) (6 : Int) (10 : Int) (14 : Int) _ _ (Mem.give hF20) sD sD sD sD sD)) ?_
  rintro _ w19 ⟨rfl, k_w19⟩
  have m19 : Mem _ _ [_, _, _, _, _] := Mem.back hF20 k_w19
  refine Zp (Qe (Qb ?_))
  refine Qd (v := (i64 3)) (Yo 2 1) <| Zm (i64 3) ?_
  refine rN (Zq (sR ?_))
  refine Qd (Jd 3 4) ?_
  refine rN (Qa ?_)
  refine Q9 rfl Jb ?_
  refine Qn (Qc (Qa (Qh (sR ?_))))
  refine Zm (i64 3) <| Zx (i64 3) ?_
  refine rN (Qb ?_)
  refine Zm (i64 3) <| Zm (i64 3) <| Qd (v := (i64 7)) (Yo 4 3) <| Zm (i64 3) <| Qd (v := (i64 11)) (Yo 8 3) <| Zm (i64 3) <| Qd (v := (i64 15)) (Yo 12 3) <| Qd (Gi i64 [3, 7, 11, 15] Zv Qek La Ui rfl rfl) ?_
  have hF23 : Mem _ _ ([(b8, .cells (cl u32 (Hg (Hg (Hg (Yq dbl k (Ve Z9 key cr nz)) (0 : Int).toNat (4 : Int).toNat (8 : Int).toNat (12 : Int).toNat) (1 : Int).toNat (5 : Int).toNat (9 : Int).toNat (13 : Int).toNat) (2 : Int).toNat (6 : Int).toNat (10 : Int).toNat (14 : Int).toNat)) 156 (0, 0))] ++ ([_, _, _, _])) := m19
  refine Vw (Qhl (Xm s8 rfl) (Au b8 (Hg (Hg (Hg (Yq dbl k (Ve Z9 key cr nz)) (0 : Int).toNat (4 : Int).toNat (8 : Int).toNat (12 : Int).toNat) (1 : Int).toNat (5 : Int).toNat (9 : Int).toNat (13 : Int).toNat) (2 : Int).toNat (6 : Int).toNat (10 : Int).toNat (14 : Int).toNat) (3 : Int) (7 : Int) (11 : Int) (15 : Int) _ _ (Mem.give hF23) sD sD sD sD sD)) ?_
  rintro _ w22 ⟨rfl, k_w22⟩
  have m22 : Mem _ _ [_, _, _, _, _] := Mem.back hF23 k_w22
  refine Zp (Qe (Qb ?_))
  refine Qd (v := (i64 4)) (Yo 3 1) <| Zm (i64 4) ?_
  refine rN (Zq (sR ?_))
  refine Qd (Jd 4 4) ?_
  refine rN (Qa ?_)
  refine Ja rfl Jb <| X4 ?_
  refine Qj (Qj (Xi ?_))
  refine sR <| Zm (i64 0) ?_
  refine rN (V8 ?_)
  refine Vo 5 ?_
  refine Zq (sR ?_)
  refine Qd (Jd 0 4) ?_
  refine rN (Qa ?_)
  refine Q9 rfl Jb ?_
  refine Qn (Qc (Qa (Qh (sR ?_))))
  refine Zm (i64 0) <| Zx (i64 0) ?_
  refine rN (Qb ?_)
  refine Zm (i64 0) <| Zm (i64 0) <| Qd (v := (i64 1)) (Yo 0 1) <| Qd (v := (i64 1)) (Gg (a := 1) (b := 3) rfl rfl oM oM) <| Qd (v := (i64 5)) (Yo 4 1) <| Zm (i64 0) <| Qd (v := (i64 2)) (Yo 0 2) <| Qd (v := (i64 2)) (Gg (a := 2) (b := 3) rfl rfl oM oM) <| Qd (v := (i64 10)) (Yo 8 2) <| Zm (i64 0) <| Qd (v := (i64 3)) (Yo 0 3) <| Qd (v := (i64 3)) (Gg (a := 3) (b := 3) rfl rfl oM oM) ?_
  refine Qd (v := (i64 15)) (Yo 12 3) <| Qd (Gi i64 [0, 5, 10, 15] Zv Qek La Ui rfl rfl) ?_
  have hF26 : Mem _ _ ([(b8, .cells (cl u32 (Hg (Hg (Hg (Hg (Yq dbl k (Ve Z9 key cr nz)) (0 : Int).toNat (4 : Int).toNat (8 : Int).toNat (12 : Int).toNat) (1 : Int).toNat (5 : Int).toNat (9 : Int).toNat (13 : Int).toNat) (2 : Int).toNat (6 : Int).toNat (10 : Int).toNat (14 : Int).toNat) (3 : Int).toNat (7 : Int).toNat (11 : Int).toNat (15 : Int).toNat)) 156 (0, 0))] ++ ([_, _, _, _])) := m22
  refine Vw (Qhl (Xm s8 rfl) (Au b8 (Hg (Hg (Hg (Hg (Yq dbl k (Ve Z9 key cr nz)) (0 : Int).toNat (4 : Int).toNat (8 : Int).toNat (12 : Int).toNat) (1 : Int).toNat (5 : Int).toNat (9 : Int).toNat (13 : Int).toNat) (2 : Int).toNat (6 : Int).toNat (10 : Int).toNat (14 : Int).toNat) (3 : Int).toNat (7 : Int).toNat (11 : Int).toNat (15 : Int).toNat) (0 : Int) (5 : Int) (10 : Int) (15 : Int) _ _ (Mem.give hF26) sD sD sD sD sD)) ?_
  rintro _ w25 ⟨rfl, k_w25⟩
  have m25 : Mem _ _ [_, _, _, _, _] := Mem.back hF26 k_w25
  refine Zp (Qe (Qb ?_))
  refine Qd (v := (i64 1)) (Yo 0 1) <| Zm (i64 1) ?_
  refine rN (Zq (sR ?_))
  refine Qd (Jd 1 4) <| rN ?_
  refine CW.abs (fun g => g 0 = (agg u8 key) ∧ g 1 = (u32 cr) ∧ g 2 = (agg u8 nz) ∧ g 3 = (ptr b3 0) ∧ g 5 = (ptr b5 0) ∧ g 6 = (ptr b6 0) ∧ g 7 = (ptr b7 0) ∧ g 8 = (ptr b8 0) ∧ g 9 = (i64 3) ∧ g 10 = (i64 0) ∧ g 17 = (i64 (k : Int)) ∧ g 18 = (bl (decide ((k : Int) < 10))) ∧ g 19 = (i64 4) ∧ g 20 = (bl false) ∧ g 32 = (i64 1) ∧ g 33 = (bl true) ∧ True) ⟨s0, s1, s2, s3, s5, s6, s7, s8, rfl, rfl, s17, rfl, rfl, rfl, rfl, rfl, trivial⟩ ?_
  rintro fr28 ⟨s0, s1, s2, s3, s5, s6, s7, s8, s9, s10, s17, s18, s19, s20, s32, s33, _⟩
  refine Qa <| Q9 s33 Jb ?_
  refine Qn (Qc (Qa (Qh (sR ?_))))
  refine Yb s32 <| Zx (i64 1) ?_
  refine rN (Qb ?_)
  refine Zm (i64 1) <| Zm (i64 1) <| Qd (v := (i64 2)) (Yo 1 1) <| Qd (v := (i64 2)) (Gg (a := 2) (b := 3) rfl rfl oM oM) <| Qd (v := (i64 6)) (Yo 4 2) <| Zm (i64 1) <| Qd (v := (i64 3)) (Yo 1 2) <| Qd (v := (i64 3)) (Gg (a := 3) (b := 3) rfl rfl oM oM) <| Qd (v := (i64 11)) (Yo 8 3) <| Zm (i64 1) <| Qd (v := (i64 4)) (Yo 1 3) <| Qd (v := (i64 0)) (Gg (a := 4) (b := 3) rfl rfl oM oM) ?_
  refine Qd (v := (i64 12)) (Yo 12 0) <| Qd (Gi i64 [1, 6, 11, 12] Zv Qek La Ui rfl rfl) ?_
  have hF30 : Mem _ _ ([(b8, .cells (cl u32 (Hg (Hg (Hg (Hg (Hg (Yq dbl k (Ve Z9 key cr nz)) (0 : Int).toNat (4 : Int).toNat (8 : Int).toNat (12 : Int).toNat) (1 : Int).toNat (5 : Int).toNat (9 : Int).toNat (13 : Int).toNat) (2 : Int).toNat (6 : Int).toNat (10 : Int).toNat (14 : Int).toNat) (3 : Int).toNat (7 : Int).toNat (11 : Int).toNat (15 : Int).toNat) (0 : Int).toNat (5 : Int).toNat (10 : Int).toNat (15 : Int).toNat)) 156 (0, 0))] ++ ([_, _, _, _])) := m25
  refine Vw (Qhl (Xm s8 rfl) (Au b8 (Hg (Hg (Hg (Hg (Hg (Yq dbl k (Ve Z9 key cr nz)) (0 : Int).toNat (4 : Int).toNat (8 : Int).toNat (12 : Int).toNat) (1 : Int).toNat (5 : Int).toNat (9 : Int).toNat (13 : Int).toNat) (2 : Int).toNat (6 : Int).toNat (10 : Int).toNat (14 : Int).toNat) (3 : Int).toNat (7 : Int).toNat (11 : Int).toNat (15 : Int).toNat) (0 : Int).toNat (5 : Int).toNat (10 : Int).toNat (15 : Int).toNat) (1 : Int) (6 : Int) (11 : Int) (12 : Int) _ _ (Mem.give hF30) sD sD sD sD sD)) ?_
  rintro _ w29 ⟨rfl, k_w29⟩
  have m29 : Mem _ _ [_, _, _, _, _] := Mem.back hF30 k_w29
  refine Zp (Qe (Qb ?_))
  refine Qd (v := (i64 2)) (Zf (a := 1) (b := 1) s32 rfl oM oM) <| Zm (i64 2) ?_
  refine rN (Zq (sR ?_))
  refine Qd (Jd 2 4) ?_
  refine rN (Qa ?_)
  refine Q9 rfl Jb ?_
  refine Qn (Qc (Qa (Qh (sR ?_))))
  refine Zm (i64 2) <| Zx (i64 2) ?_
  refine rN (Qb ?_)
  refine Zm (i64 2) <| Zm (i64 2) <| Qd (v := (i64 3)) (Yo 2 1) <| Qd (v := (i64 3)) (Gg (a := 3) (b := 3) rfl rfl oM oM) <| Qd (v := (i64 7)) (Yo 4 3) <| Zm (i64 2) <| Qd (v := (i64 4)) (Yo 2 2) <| Qd (v := (i64 0)) (Gg (a := 4) (b := 3) rfl rfl oM oM) <| Qd (v := (i64 8)) (Yo 8 0) <| Zm (i64 2) <| Qd (v := (i64 5)) (Yo 2 3) <| Qd (v := (i64 1)) (Gg (a := 5) (b := 3) rfl rfl oM oM) ?_
  refine Qd (v := (i64 13)) (Yo 12 1) <| Qd (Gi i64 [2, 7, 8, 13] Zv Qek La Ui rfl rfl) ?_
  have hF33 : Mem _ _ ([(b8, .cells (cl u32 (Hg (Hg (Hg (Hg (Hg (Hg (Yq dbl k (Ve Z9 key cr nz)) (0 : Int).toNat (4 : Int).toNat (8 : Int).toNat (12 : Int).toNat) (1 : Int).toNat (5 : Int).toNat (9 : Int).toNat (13 : Int).toNat) (2 : Int).toNat (6 : Int).toNat (10 : Int).toNat (14 : Int).toNat) (3 : Int).toNat (7 : Int).toNat (11 : Int).toNat (15 : Int).toNat) (0 : Int).toNat (5 : Int).toNat (10 : Int).toNat (15 : Int).toNat) (1 : Int).toNat (6 : Int).toNat (11 : Int).toNat (12 : Int).toNat)) 156 (0, 0))] ++ ([_, _, _, _])) := m29
  refine Vw (Qhl (Xm s8 rfl) (Au b8 (Hg (Hg (Hg (Hg (Hg (Hg (Yq dbl k (Ve Z9 key cr nz)) (0 : Int).toNat (4 : Int).toNat (8 : Int).toNat (12 : Int).toNat) (1 : Int).toNat (5 : Int).toNat (9 : Int).toNat (13 : Int).toNat) (2 : Int).toNat (6 : Int).toNat (10 : Int).toNat (14 : Int).toNat) (3 : Int).toNat (7 : Int).toNat (11 : Int).toNat (15 : Int).toNat) (0 : Int).toNat (5 : Int).toNat (10 : Int).toNat (15 : Int).toNat) (1 : Int).toNat (6 : Int).toNat (11 : Int).toNat (12 : Int).toNat) (2 : Int) (7 : Int) (8 : Int) (13 : Int) _ _ (Mem.give hF33) sD sD sD sD sD)) ?_
  rintro _ w32 ⟨rfl, k_w32⟩
  have m32 : Mem _ _ [_, _, _, _, _] := Mem.back hF33 k_w32
  refine Zp (Qe (Qb ?_))
  refine Qd (v := (i64 3)) (Yo 2 1) <| Zm (i64 3) ?_
  refine rN (Zq (sR ?_))
  refine Qd (Jd 3 4) ?_
  refine rN (Qa ?_)
  refine Q9 rfl Jb ?_
  refine Qn (Qc (Qa (Qh (sR ?_))))
  refine Zm (i64 3) <| Zx (i64 3) ?_
  refine rN (Qb ?_)
  refine Zm (i64 3) <| Zm (i64 3) <| Qd (v := (i64 4)) (Yo 3 1) <| Qd (v := (i64 0)) (Gg (a := 4) (b := 3) rfl rfl oM oM) <| Qd (v := (i64 4)) (Yo 4 0) <| Zm (i64 3) <| Qd (v := (i64 5)) (Yo 3 2) <| Qd (v := (i64 1)) (Gg (a := 5) (b := 3) rfl rfl oM oM) <| Qd (v := (i64 9)) (Yo 8 1) <| Zm (i64 3) <| Qd (v := (i64 6)) (Yo 3 3) <| Qd (v := (i64 2)) (Gg (a := 6) (b := 3) rfl rfl oM oM) ?_
  refine Qd (v := (i64 14)) (Yo 12 2) <| Qd (Gi i64 [3, 4, 9, 14] Zv Qek La Ui rfl rfl) ?_
  have hF36 : Mem _ _ ([(b8, .cells (cl u32 (Hg (Hg (Hg (Hg (Hg (Hg (Hg (Yq dbl k (Ve Z9 key cr nz)) (0 : Int).toNat (4 : Int).toNat (8 : Int).toNat (12 : Int).toNat) (1 : Int).toNat (5 : Int).toNat (9 : Int).toNat (13 : Int).toNat) (2 : Int).toNat (6 : Int).toNat (10 : Int).toNat (14 : Int).toNat) (3 : Int).toNat (7 : Int).toNat (11 : Int).toNat (15 : Int).toNat) (0 : Int).toNat (5 : Int).toNat (10 : Int).toNat (15 : Int).toNat) (1 : Int).toNat (6 : Int).toNat (11 : Int).toNat (12 : Int).toNat) (2 : Int).toNat (7 : Int).toNat (8 : Int).toNat (13 : Int).toNat)) 156 (0, 0))] ++ ([_, _, _, _])) := m32
  refine Vw (Qhl (Xm s8 rfl) (Au b8 (Hg (Hg (Hg (Hg (Hg (Hg (Hg (Yq dbl k (Ve Z9 key cr nz)) (0 : Int).toNat (4 : Int).toNat (8 : Int).toNat (12 : Int).toNat) (1 : Int).toNat (5 : Int).toNat (9 : Int).toNat (13 : Int).toNat) (2 : Int).toNat (6 : Int).toNat (10 : Int).toNat (14 : Int).toNat) (3 : Int).toNat (7 : Int).toNat (11 : Int).toNat (15 : Int).toNat) (0 : Int).toNat (5 : Int).toNat (10 : Int).toNat (15 : Int).toNat) (1 : Int).toNat (6 : Int).toNat (11 : Int).toNat (12 : Int).toNat) (2 : Int).toNat (7 : Int).toNat (8 : Int).toNat (13 : Int).toNat) (3 : Int) (4 : Int) (9 : Int) (14 : Int) _ _ (Mem.give hF36) sD sD sD sD sD)) ?_
  rintro _ w35 ⟨rfl, k_w35⟩
  have m35 : Mem _ _ [_, _, _, _, _] := Mem.back hF36 k_w35
  refine Zp (Qe (Qb ?_))
  refine Qd (v := (i64 4)) (Yo 3 1) <| Zm (i64 4) ?_
  refine rN (Zq (sR ?_))
  refine Qd (Jd 4 4) ?_
  refine rN (Qa ?_)
  refine Ja rfl Jb <| X4 ?_
  refine Qj (Qj (Xi ?_))
  refine Qe (Qb ?_)
  refine Qd (Zf (b := 1) s17 rfl oM oM) <| Zm (i64 ((k : Int) + 1)) <| rN ?_
  exact ⟨⟨k + 1, oM, s0, s1, s2, s3, s5, s6, s7, s8, rfl, m35⟩, Ue rfl z17 oM oM⟩
 ·
  have hc12p := of_decide_eq_false hc12
  obtain rfl : k = 10 := by omega
  refine X4 ?_
  refine Qj (Qj (Xi ?_))
  refine Qa (sR ?_)
  refine Zm (i64 0) ?_
  refine rN (Qh ?_)
  refine Y1 (fun g wv => ∃ (k2 : Nat), (k2 ≤ 64) ∧ g 0 = (agg u8 key) ∧ g 1 = (u32 cr) ∧ g 2 = (agg u8 nz) ∧ g 3 = (ptr b3 0) ∧ g 5 = (ptr b5 0) ∧ g 6 = (ptr b6 0) ∧ g 7 = (ptr b7 0) ∧ g 8 = (ptr b8 0) ∧ g 17 = (i64 (10 : Int)) ∧ g 18 = (bl (decide ((10 : Int) < 10))) ∧ g 52 = (i64 (k2 : Int)) ∧ Mem wv (Qr w0) [(b8, .cells (cl u32 (Yq dbl 10 (Ve Z9 key cr nz))) 156 (0, 0)), (b7, .cells (cl u32 (Ve Z9 key cr nz)) 156 (0, 0)), (b6, .cells (cl u8 (Y0 (Rj (Yq dbl 10 (Ve Z9 key cr nz)) (Ve Z9 key cr nz)) 0 64 k2)) 139 (0, 0)), (b5, .cells (cl u8 nz) 77 (0, 0)), (b3, .cells (cl u8 key) 23 (0, 0))]) (fun g wv => (64 - RowKit.intOf (g 52)).toNat) ?_ ?_
  ·exact ⟨0, oM, s0, s1, s2, s3, s5, s6, s7, s8, s17, rfl, rfl, (by rw [En]; exact m11)⟩
  rintro fr38 w39 ⟨k2, hk2, s0, s1, s2, s3, s5, s6, s7, s8, s17, s18, s52, m39⟩
  have z52 := s52
  refine sR <| Qd (Xa (b := 64) s52 rfl) ?_
  refine rN (Qa ?_)
  refine Zy rfl (fun hc40 => ?_) (fun hc40 => ?_)
  ·
   have hc40p := of_decide_eq_true hc40
   refine Qn (Qc (Qa (Qh (sR ?_))))
   refine Yb s52 <| Zx (i64 (k2 : Int)) <| rN <| Xg (dl 15) 15 Xo <| J8 rfl (i64 (k2 : Int)) <| J8 rfl (i64 (k2 : Int)) <| X6 rfl (Uo (b := 4) rfl rfl oM oM oM) <| X6 rfl (Zl (r := ((k2 : Int) / 4 : Int).toNat) oM Cc Ze s8 rfl oM sD) <| Ym (v := (u32 ((Yq dbl 10 (Ve Z9 key cr nz)).getD (((k2 : Int) / 4 : Int).toNat) 0))) rfl (fun _ e' => Qi Xv rfl rfl (m39.ext e').h0 (Qu _ _ 0 sD)) <| J8 rfl (i64 (k2 : Int)) <| X6 rfl (Uo (b := 4) rfl rfl oM oM oM) <| X6 rfl (Zl (r := ((k2 : Int) / 4 : Int).toNat) oM Cc Ze s7 rfl oM sD) ?_
   refine Ym (v := (u32 ((Ve Z9 key cr nz).getD (((k2 : Int) / 4 : Int).toNat) 0))) rfl (fun _ e' => Qi Xv rfl rfl (m39.ext e').h1 (Qu _ _ 0 sD)) <| X6 rfl (Xz rfl rfl) <| J8 rfl (i64 (k2 : Int)) <| X6 rfl (W9 (b := 4) rfl rfl oM oM oM) <| X6 rfl (Kv (a := 8) rfl rfl oM oM) <| X6 rfl (Un rfl rfl oM) <| X6 rfl (F6 ⟨_, Xv⟩ Vs rfl) <| Gf m39 fun w41 m41 => Qd (Zl (r := k2) oM uT139 Yw s6 rfl oM sD) <| Aa m41 (Xx (f := u8) (a := ((((Yq dbl 10 (Ve Z9 key cr nz)).getD (((k2 : Int) / 4 : Int).toNat) 0) + ((Ve Z9 key cr nz).getD (((k2 : Int) / 4 : Int).toNat) 0)) >>> (8 * ((k2 : Int) % 4)).toNat).setWidth 8) Qs Yw rfl rfl m41.h2 sD (.inl (Nat.zero_le _))) fun w42 m42 => ?_
   refine Zp (Qe (Qb ?_))
   refine Qd (Zf (b := 1) s52 rfl oM oM) <| Zm (i64 ((k2 : Int) + 1)) <| rN ?_
   exact ⟨⟨k2 + 1, oM, s0, s1, s2, s3, s5, s6, s7, s8, s17, s18, rfl, (by rw [← E5 (Rj (Yq dbl 10 (Ve Z9 key cr nz)) (Ve Z9 key cr nz)) 0 (n := 64) (k := k2) oM _ rfl]; exact m42)⟩, Ue rfl z52 oM oM⟩
  ·
   have hc40p := of_decide_eq_false hc40
   obtain rfl : k2 = 64 := by omega
   refine X4 ?_
   refine Qj (Qj (Xi ?_))
   refine sR <| Qd (Qo uT139 rfl Qkv s6 m39.h2 sZ) <| Aa m39 (Qg (f := u8) (l := Y0 (Rj (Yq dbl 10 (Ve Z9 key cr nz)) (Ve Z9 key cr nz)) 0 64 64) Qs Qkv s6 rfl sD m39.h2 sZ rfl) fun w43 m43 => ?_
   refine rN (Zz ?_)
   refine Qp [(agg u8 (Y0 (Rj (Yq dbl 10 (Ve Z9 key cr nz)) (Ve Z9 key cr nz)) 0 64 64))] ⟨⟨_, s6, Xn uT139 rfl Qkv m43.h2 sZ⟩, trivial⟩ ?_
   exact ⟨rfl, m43.toExt⟩
end Go.Proofs.YtkmiemlpfkfiiaaDoor
