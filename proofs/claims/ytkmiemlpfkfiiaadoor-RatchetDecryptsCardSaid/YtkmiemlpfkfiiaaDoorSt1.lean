/- Contracts: stream, first part. Conditions: none beyond those that each theorem states. -/
import Derived.Test.YtkmiemlpfkfiiaaDoorTab
namespace Go.Proofs.YtkmiemlpfkfiiaaDoor
open Tryd
set_option linter.unusedVariables false
set_option linter.unusedSimpArgs false
def Q8 (x : BitVec 32) (k : Int) : BitVec 32 := (x <<< (BitVec.ofInt 64 k &&& 31#64).toNat) ||| (x >>> (32#64 - (BitVec.ofInt 64 k &&& 31#64)).toNat)
def Y4 (x : BitVec 32) (n : Int) : BitVec 32 := (x <<< n.toNat) ||| (x >>> (32 - n).toNat)
def Kr (rot : BitVec 32 → Int → BitVec 32) (a b c d : BitVec 32) : List (BitVec 32) :=
 let a1 := a + b
 let d1 := rot (d ^^^ a1) 16
 let c1 := c + d1
 let b1 := rot (b ^^^ c1) 12
 let a2 := a1 + b1
 let d2 := rot (d1 ^^^ a2) 8
 let c2 := c1 + d2
 let b2 := rot (b1 ^^^ c2) 7
 [a2, b2, c2, d2]
@[simp] theorem Qsw (rot : BitVec 32 → Int → BitVec 32) (a b c d : BitVec 32) : (Kr rot a b c d).length = 4 := rfl
def wordP (a b c d : BitVec 8) : BitVec 32 := (((0#32 ||| a.setWidth 32 <<< 0) ||| b.setWidth 32 <<< 8) ||| c.setWidth 32 <<< 16) ||| d.setWidth 32 <<< 24
def wordR (a b c d : BitVec 8) : BitVec 32 := ((a.setWidth 32 + b.setWidth 32 * 256) + c.setWidth 32 * 65536) + d.setWidth 32 * 16777216
def Z9 (l : Z8) : BitVec 32 := wordP (l.getD 0 0) (l.getD 1 0) (l.getD 2 0) (l.getD 3 0)
def Yp (l : Z8) : BitVec 32 := wordR (l.getD 0 0) (l.getD 1 0) (l.getD 2 0) (l.getD 3 0)
def Hg (s : List (BitVec 32)) (i0 i1 i2 i3 : Nat) : List (BitVec 32) :=
 let q := Kr Q8 (s.getD i0 0) (s.getD i1 0) (s.getD i2 0) (s.getD i3 0)
 (((s.set i0 (q.getD 0 0)).set i1 (q.getD 1 0)).set i2 (q.getD 2 0)).set i3 (q.getD 3 0)
theorem Qou (s : List (BitVec 32)) (i0 i1 i2 i3 : Nat) : (Hg s i0 i1 i2 i3).length = s.length := by simp [Hg]
theorem Eu (x : BitVec 32) (k : Int) (w0 : World)   : X0 prog 112 #[(u32 x), (i64 k)] w0 (fun r w1 => r = (u32 (Q8 x k)) ∧ w1 = w0) := by
 refine Qy (args := [(u32 x), (i64 k)]) func112 rfl ntmps112 results112 rfl ?_
 have m0 : Mem w0 (Qr w0) [] := Mem.of_world w0
 refine sR <| Zx (u32 0#32) ?_
 refine rN (sR ?_)
 refine Zm (i64 k) <| Qd (Jl ⟨_, Uu⟩ uT121 rfl) <| Qd (Vr (b := 31#64) rfl rfl) <| Zx (u64 ((BitVec.ofInt 64 k) &&& 31#64)) ?_
 refine rN (sR ?_)
 refine Zm (u32 x) <| Zm (u64 ((BitVec.ofInt 64 k) &&& 31#64)) <| Qd (Fz rfl rfl oM) <| Zm (u32 x) <| Zm (u64 ((BitVec.ofInt 64 k) &&& 31#64)) <| Qd (Md (a := 32#64) rfl rfl) <| Qd (Un rfl rfl oM) <| Qd (Dz rfl rfl) <| yqA rfl ?_
 refine rN (Zz ?_)
 refine Qp [(u32 ((x <<< ((BitVec.ofInt 64 k) &&& 31#64).toNat) ||| (x >>> (32#64 - ((BitVec.ofInt 64 k) &&& 31#64)).toNat)))] ⟨rfl, trivial⟩ ?_
 exact ⟨rfl, rfl⟩
theorem Qil (x : BitVec 32) (k : Int) (w0 : World)  (h0 : 0 ≤ k) (h1 : k ≤ 32) : X0 prog 115 #[(u32 x), (i64 k)] w0 (fun r w1 => r = (u32 (Y4 x k)) ∧ Ext w0 w1) := by
 refine Qy (args := [(u32 x), (i64 k)]) func115 rfl ntmps115 results115 rfl ?_
 have m0 : Mem w0 (Qr w0) [] := Mem.of_world w0
 refine sR <| Zx (u32 0#32) ?_
 refine rN (Qa ?_)
 refine Xg (dl 7) 7 Xo <| J8 rfl (u32 x) <| J8 rfl (i64 k) <| X6 rfl (Fz rfl rfl oM) <| J8 rfl (u32 x) <| J8 rfl (i64 k) <| X6 rfl (Yf (a := 32) rfl rfl oM oM) <| X6 rfl (Un rfl rfl oM) <| Gf m0 fun w1 m1 => Qd (Dz rfl rfl) <| Zx (u32 ((x <<< k.toNat) ||| (x >>> (32 - k).toNat))) ?_
 refine rN (Zz ?_)
 refine Qp [(u32 ((x <<< k.toNat) ||| (x >>> (32 - k).toNat)))] ⟨rfl, trivial⟩ ?_
 exact ⟨rfl, m1.toExt⟩
theorem Qsn (a b c d : BitVec 32) (w0 : World)   : X0 prog 114 #[(agg u32 ([a, b, c, d]))] w0 (fun r w1 => r = (agg u32 (Kr Q8 a b c d)) ∧ Ext w0 w1) := by
 refine Qy (args := [(agg u32 ([a, b, c, d]))]) func114 rfl ntmps114 results114 rfl ?_
 have m0 : Mem w0 (Qr w0) [] := Mem.of_world w0
 refine sR <| Y9 (Xc (f := u32) (l := [a, b, c, d]) m0 rfl) fun w1 b1 m1 => Y9 (Q7 m1 Qbv) fun w2 b2 m2 => ?_
 refine rN (Qa (sR ?_))
 refine Qd (Gi i64 [16, 12, 8, 7] Zv Qek La Ui rfl rfl) <| Zm (i64 0) ?_
 refine rN (Qh ?_)
 refine Vo 5 ?_
 refine Zq (sR ?_)
 refine Qd (Jd 0 4) ?_
 refine rN (Qa ?_)
 refine Q9 rfl Jb ?_
 refine Qn (Qc (Qa (Qh (sR ?_))))
 refine Zm (i64 0) <| Qd (v := (i64 16)) (Ju (i := 0) La Uu rfl Ui rfl rfl oM sD (Qu _ _ 0 Ya)) <| Zx (i64 0) <| Zx (i64 16) ?_
 refine rN (sR ?_)
 refine Zx (i64 0) <| Zx (i64 1) <| Zx (i64 3) ?_
 refine rN (Qa (sR ?_))
 refine Zm (i64 0) <| Qd (v := (i64 0)) (W9 (a := 0) (b := 2) rfl rfl oM oM oM) <| Qd (x_eql 0 1) <| rN <| Ja rfl Jb ?_
 refine Qn (Qc (Qa ?_))
 refine Xg (dl 6) 6 Xo <| J8 rfl (i64 0) <| X6 rfl (Xu 0 0 Gl Ze rfl) <| Ym (v := (u32 a)) rfl (fun _ e' => Qi Xv rfl rfl (m2.ext e').h1 (Qu _ _ 0 Ya)) <| J8 rfl (i64 1) <| X6 rfl (Xu 1 1 Gl Ze rfl) <| Ym (v := (u32 b)) rfl (fun _ e' => Qi Xv rfl rfl (m2.ext e').h1 (Qu _ _ 0 Ya)) <| Gf m2 fun w3 m3 => Qd (Xz rfl rfl) <| Qd (Xu 0 0 Gl Ze rfl) <| Vu m3 (Zk (f := u32) (l' := [a + b, b, c, d]) rfl Xb Ze rfl rfl m3.h1 Ya (.inl (Nat.zero_le _))) fun w4 m4 => rN <| Xg (dl 10) 10 Xo <| J8 rfl (i64 3) <| J8 rfl (i64 3) <| X6 rfl (Xu 3 3 Gl Ze rfl) <| Ym (v := (u32 d)) rfl (fun _ e' => Qi Xv rfl rfl (m4.ext e').h1 (Qu _ _ 0 Ya)) <| J8 rfl (i64 0) <| X6 rfl (Xu 0 0 Gl Ze rfl) <| Ym (v := (u32 (a + b))) rfl (fun _ e' => Qi Xv rfl rfl (m4.ext e').h1 (Qu _ _ 0 Ya)) <| X6 rfl (Jn rfl rfl) <| J8 rfl (i64 16) <| Vg (v := (u32 (Q8 (d ^^^ (a + b)) (16 : Int)))) rfl rfl (fun w5 e5 => Wu.mono (Qbe (Xm rfl rfl) (Eu (d ^^^ (a + b)) _ _)) (by rintro _ w6 ⟨rfl, rfl⟩; exact ⟨rfl, Ext.refl _⟩)) ?_
 refine Gf m4 fun w8 m8 => Qd (Xu 3 3 Gl Ze rfl) <| Vu m8 (Zk (f := u32) (l' := [a + b, b, c, Q8 (d ^^^ (a + b)) (16 : Int)]) rfl Xb Ze rfl rfl m8.h1 Ya (.inl (Nat.zero_le _))) fun w9 m9 => ?_
 refine Zp (Qe (Qb ?_))
 refine Qd (v := (i64 1)) (Yo 0 1) <| Zm (i64 1) ?_
 refine rN (Zq (sR ?_))
 refine Qd (Jd 1 4) ?_
 refine rN (Qa ?_)
 refine Q9 rfl Jb ?_
 refine Qn (Qc (Qa (Qh (sR ?_))))
 refine Zm (i64 1) <| Qd (v := (i64 12)) (Ju (i := 1) La Uu rfl Ui rfl rfl oM sD (Qu _ _ 0 Ya)) <| Zx (i64 1) <| Zx (i64 12) ?_
 refine rN (sR ?_)
 refine Zx (i64 0) <| Zx (i64 1) <| Zx (i64 3) ?_
 refine rN (Qa (sR ?_))
 refine Zm (i64 1) <| Qd (v := (i64 1)) (W9 (a := 1) (b := 2) rfl rfl oM oM oM) <| Qd (x_eql 1 1) <| rN <| Q9 rfl Jb <| Qb <| Zx (i64 2) <| Zx (i64 3) <| Zx (i64 1) ?_
 refine rN (Qa ?_)
 refine Xg (dl 6) 6 Xo <| J8 rfl (i64 2) <| X6 rfl (Xu 2 2 Gl Ze rfl) <| Ym (v := (u32 c)) rfl (fun _ e' => Qi Xv rfl rfl (m9.ext e').h1 (Qu _ _ 0 Ya)) <| J8 rfl (i64 3) <| X6 rfl (Xu 3 3 Gl Ze rfl) <| Ym (v := (u32 (Q8 (d ^^^ (a + b)) (16 : Int)))) rfl (fun _ e' => Qi Xv rfl rfl (m9.ext e').h1 (Qu _ _ 0 Ya)) <| Gf m9 fun w10 m10 => Qd (Xz rfl rfl) <| Qd (Xu 2 2 Gl Ze rfl) <| Vu m10 (Zk (f := u32) (l' := [a + b, b, c + (Q8 (d ^^^ (a + b)) (16 : Int)), Q8 (d ^^^ (a + b)) (16 : Int)]) rfl Xb Ze rfl rfl m10.h1 Ya (.inl (Nat.zero_le _))) fun w11 m11 => rN <| Xg (dl 10) 10 Xo <| J8 rfl (i64 1) <| J8 rfl (i64 1) <| X6 rfl (Xu 1 1 Gl Ze rfl) <| Ym (v := (u32 b)) rfl (fun _ e' => Qi Xv rfl rfl (m11.ext e').h1 (Qu _ _ 0 Ya)) <| J8 rfl (i64 2) <| X6 rfl (Xu 2 2 Gl Ze rfl) <| Ym (v := (u32 (c + (Q8 (d ^^^ (a + b)) (16 : Int))))) rfl (fun _ e' => Qi Xv rfl rfl (m11.ext e').h1 (Qu _ _ 0 Ya)) <| X6 rfl (Jn rfl rfl) <| J8 rfl (i64 12) <| Vg (v := (u32 (Q8 (b ^^^ (c + (Q8 (d ^^^ (a + b)) (16 : Int)))) (12 : Int)))) rfl rfl (fun w12 e12 => Wu.mono (Qbe (Xm rfl rfl) (Eu (b ^^^ (c + (Q8 (d ^^^ (a + b)) (16 : Int)))) _ _)) (by rintro _ w13 ⟨rfl, rfl⟩; exact ⟨rfl, Ext.refl _⟩)) ?_
 refine Gf m11 fun w15 m15 => Qd (Xu 1 1 Gl Ze rfl) <| Vu m15 (Zk (f := u32) (l' := [a + b, Q8 (b ^^^ (c + (Q8 (d ^^^ (a + b)) (16 : Int)))) (12 : Int), c + (Q8 (d ^^^ (a + b)) (16 : Int)), Q8 (d ^^^ (a + b)) (16 : Int)]) rfl Xb Ze rfl rfl m15.h1 Ya (.inl (Nat.zero_le _))) fun w16 m16 => ?_
 refine Zp (Qe (Qb ?_))
 refine Qd (v := (i64 2)) (Yo 1 1) <| Zm (i64 2) ?_
 refine rN (Zq (sR ?_))
 refine Qd (Jd 2 4) ?_
 refine rN (Qa ?_)
 refine Q9 rfl Jb ?_
 refine Qn (Qc (Qa (Qh (sR ?_))))
 refine Zm (i64 2) <| Qd (v := (i64 8)) (Ju (i := 2) La Uu rfl Ui rfl rfl oM sD (Qu _ _ 0 Ya)) <| Zx (i64 2) <| Zx (i64 8) ?_
 refine rN (sR ?_)
 refine Zx (i64 0) <| Zx (i64 1) <| Zx (i64 3) ?_
 refine rN (Qa (sR ?_))
 refine Zm (i64 2) <| Qd (v := (i64 0)) (W9 (a := 2) (b := 2) rfl rfl oM oM oM) <| Qd (x_eql 0 1) <| rN ?_
 refine CW.abs (fun g => g 0 = (agg u32 ([a, b, c, d])) ∧ g 1 = (ptr b1 0) ∧ g 2 = (ptr b2 0) ∧ g 3 = (i64 2) ∧ g 4 = (i64 8) ∧ g 5 = (i64 0) ∧ g 6 = (i64 1) ∧ g 7 = (i64 3) ∧ g 8 = (agg i64 ([16, 12, 8, 7])) ∧ g 9 = (i64 2) ∧ g 10 = (bl true) ∧ g 15 = (bl false) ∧ True) ⟨rfl, rfl, rfl, rfl, rfl, rfl, rfl, rfl, rfl, rfl, rfl, rfl, trivial⟩ ?_
 rintro fr17 ⟨s0, s1, s2, s3, s4, s5, s6, s7, s8, s9, s10, s15, _⟩
 refine Ja s15 Jb ?_
 refine Qn (Qc (Qa ?_))
 refine Xg (dl 6) 6 Xo <| Uh rfl s5 <| X6 rfl (Xu 0 0 Gl Ze s1) <| Ym (v := (u32 (a + b))) rfl (fun _ e' => Qi Xv rfl rfl (m16.ext e').h1 (Qu _ _ 0 Ya)) <| Uh rfl s6 <| X6 rfl (Xu 1 1 Gl Ze s1) <| Ym (v := (u32 (Q8 (b ^^^ (c + (Q8 (d ^^^ (a + b)) (16 : Int)))) (12 : Int)))) rfl (fun _ e' => Qi Xv rfl rfl (m16.ext e').h1 (Qu _ _ 0 Ya)) <| Gf m16 fun w18 m18 => Qd (Xz rfl rfl) <| Qd (Xu 0 0 Gl Ze s1) <| Vu m18 (Zk (f := u32) (l' := [(a + b) + (Q8 (b ^^^ (c + (Q8 (d ^^^ (a + b)) (16 : Int)))) (12 : Int)), Q8 (b ^^^ (c + (Q8 (d ^^^ (a + b)) (16 : Int)))) (12 : Int), c + (Q8 (d ^^^ (a + b)) (16 : Int)), Q8 (d ^^^ (a + b)) (16 : Int)]) rfl Xb Ze rfl rfl m18.h1 Ya (.inl (Nat.zero_le _))) fun w19 m19 => rN <| Xg (dl 10) 10 Xo <| Uh rfl s7 <| Uh rfl s7 <| X6 rfl (Xu 3 3 Gl Ze s1) <| Ym (v := (u32 (Q8 (d ^^^ (a + b)) (16 : Int)))) rfl (fun _ e' => Qi Xv rfl rfl (m19.ext e').h1 (Qu _ _ 0 Ya)) <| Uh rfl s5 <| X6 rfl (Xu 0 0 Gl Ze s1) <| Ym (v := (u32 ((a + b) + (Q8 (b ^^^ (c + (Q8 (d ^^^ (a + b)) (16 : Int)))) (12 : Int))))) rfl (fun _ e' => Qi Xv rfl rfl (m19.ext e').h1 (Qu _ _ 0 Ya)) <| X6 rfl (Jn rfl rfl) <| Uh rfl s4 <| Vg (v := (u32 (Q8 ((Q8 (d ^^^ (a + b)) (16 : Int)) ^^^ ((a + b) + (Q8 (b ^^^ (c + (Q8 (d ^^^ (a + b)) (16 : Int)))) (12 : Int)))) (8 : Int)))) rfl rfl (fun w20 e20 => Wu.mono (Qbe (Xm rfl rfl) (Eu ((Q8 (d ^^^ (a + b)) (16 : Int)) ^^^ ((a + b) + (Q8 (b ^^^ (c + (Q8 (d ^^^ (a + b)) (16 : Int)))) (12 : Int)))) _ _)) (by rintro _ w21 ⟨rfl, rfl⟩; exact ⟨rfl, Ext.refl _⟩)) ?_
 refine Gf m19 fun w23 m23 => Qd (Xu 3 3 Gl Ze s1) <| Vu m23 (Zk (f := u32) (l' := [(a + b) + (Q8 (b ^^^ (c + (Q8 (d ^^^ (a + b)) (16 : Int)))) (12 : Int)), Q8 (b ^^^ (c + (Q8 (d ^^^ (a + b)) (16 : Int)))) (12 : Int), c + (Q8 (d ^^^ (a + b)) (16 : Int)), Q8 ((Q8 (d ^^^ (a + b)) (16 : Int)) ^^^ ((a + b) + (Q8 (b ^^^ (c + (Q8 (d ^^^ (a + b)) (16 : Int)))) (12 : Int)))) (8 : Int)]) rfl Xb Ze rfl rfl m23.h1 Ya (.inl (Nat.zero_le _))) fun w24 m24 => ?_
 refine Zp (Qe (Qb ?_))
 refine Qd (v := (i64 3)) (Zf (a := 2) (b := 1) s9 rfl oM oM) <| Zm (i64 3) ?_
 refine rN (Zq (sR ?_))
 refine Qd (Jd 3 4) ?_
 refine rN (Qa ?_)
 refine Q9 rfl Jb ?_
 refine Qn (Qc (Qa (Qh (sR ?_))))
 refine Zm (i64 3) <| Qd (v := (i64 7)) (Ju (i := 3) La Uu rfl Ui s8 rfl oM sD (Qu _ _ 0 Ya)) <| Zx (i64 3) <| Zx (i64 7) ?_
 refine rN (sR ?_)
 refine Zx (i64 0) <| Zx (i64 1) <| Zx (i64 3) ?_
 refine rN (Qa (sR ?_))
 refine Zm (i64 3) <| Qd (v := (i64 1)) (W9 (a := 3) (b := 2) rfl rfl oM oM oM) <| Qd (x_eql 1 1) <| rN <| Q9 rfl Jb <| Qb <| Zx (i64 2) <| Zx (i64 3) <| Zx (i64 1) ?_
 refine rN (Qa ?_)
 refine Xg (dl 6) 6 Xo <| J8 rfl (i64 2) <| X6 rfl (Xu 2 2 Gl Ze s1) <| Ym (v := (u32 (c + (Q8 (d ^^^ (a + b)) (16 : Int))))) rfl (fun _ e' => Qi Xv rfl rfl (m24.ext e').h1 (Qu _ _ 0 Ya)) <| J8 rfl (i64 3) <| X6 rfl (Xu 3 3 Gl Ze s1) <| Ym (v := (u32 (Q8 ((Q8 (d ^^^ (a + b)) (16 : Int)) ^^^ ((a + b) + (Q8 (b ^^^ (c + (Q8 (d ^^^ (a + b)) (16 : Int)))) (12 : Int)))) (8 : Int)))) rfl (fun _ e' => Qi Xv rfl rfl (m24.ext e').h1 (Qu _ _ 0 Ya)) <| Gf m24 fun w25 m25 => Qd (Xz rfl rfl) <| Qd (Xu 2 2 Gl Ze s1) <| Vu m25 (Zk (f := u32) (l' := [(a + b) + (Q8 (b ^^^ (c + (Q8 (d ^^^ (a + b)) (16 : Int)))) (12 : Int)), Q8 (b ^^^ (c + (Q8 (d ^^^ (a + b)) (16 : Int)))) (12 : Int), (c + (Q8 (d ^^^ (a + b)) (16 : Int))) + (Q8 ((Q8 (d ^^^ (a + b)) (16 : Int)) ^^^ ((a + b) + (Q8 (b ^^^ (c + (Q8 (d ^^^ (a + b)) (16 : Int)))) (12 : Int)))) (8 : Int)), Q8 ((Q8 (d ^^^ (a + b)) (16 : Int)) ^^^ ((a + b) + (Q8 (b ^^^ (c + (Q8 (d ^^^ (a + b)) (16 : Int)))) (12 : Int)))) (8 : Int)]) rfl Xb Ze rfl rfl m25.h1 Ya (.inl (Nat.zero_le _))) fun w26 m26 => rN <| Xg (dl 10) 10 Xo <| J8 rfl (i64 1) <| J8 rfl (i64 1) <| X6 rfl (Xu 1 1 Gl Ze s1) <| Ym (v := (u32 (Q8 (b ^^^ (c + (Q8 (d ^^^ (a + b)) (16 : Int)))) (12 : Int)))) rfl (fun _ e' => Qi Xv rfl rfl (m26.ext e').h1 (Qu _ _ 0 Ya)) <| J8 rfl (i64 2) <| X6 rfl (Xu 2 2 Gl Ze s1) <| Ym (v := (u32 ((c + (Q8 (d ^^^ (a + b)) (16 : Int))) + (Q8 ((Q8 (d ^^^ (a + b)) (16 : Int)) ^^^ ((a + b) + (Q8 (b ^^^ (c + (Q8 (d ^^^ (a + b)) (16 : Int)))) (12 : Int)))) (8 : Int))))) rfl (fun _ e' => Qi Xv rfl rfl (m26.ext e').h1 (Qu _ _ 0 Ya)) <| X6 rfl (Jn rfl rfl) <| J8 rfl (i64 7) <| Vg (v := (u32 (Q8 ((Q8 (b ^^^ (c + (Q8 (d ^^^ (a + b)) (16 : Int)))) (12 : Int)) ^^^ ((c + (Q8 (d ^^^ (a + b)) (16 : Int))) + (Q8 ((Q8 (d ^^^ (a + b)) (16 : Int)) ^^^ ((a + b) + (Q8 (b ^^^ (c + (Q8 (d ^^^ (a + b)) (16 : Int)))) (12 : Int)))) (8 : Int)))) (7 : Int)))) rfl rfl (fun w27 e27 => Wu.mono (Qbe (Xm rfl rfl) (Eu ((Q8 (b ^^^ (c + (Q8 (d ^^^ (a + b)) (16 : Int)))) (12 : Int)) ^^^ ((c + (Q8 (d ^^^ (a + b)) (16 : Int))) + (Q8 ((Q8 (d ^^^ (a + b)) (16 : Int)) ^^^ ((a + b) + (Q8 (b ^^^ (c + (Q8 (d ^^^ (a + b)) (16 : Int)))) (12 : Int)))) (8 : Int)))) _ _)) (by rintro _ w28 ⟨rfl, rfl⟩; exact ⟨rfl, Ext.refl _⟩)) ?_
 refine Gf m26 fun w30 m30 => Qd (Xu 1 1 Gl Ze s1) <| Vu m30 (Zk (f := u32) (l' := [(a + b) + (Q8 (b ^^^ (c + (Q8 (d ^^^ (a + b)) (16 : Int)))) (12 : Int)), Q8 ((Q8 (b ^^^ (c + (Q8 (d ^^^ (a + b)) (16 : Int)))) (12 : Int)) ^^^ ((c + (Q8 (d ^^^ (a + b)) (16 : Int))) + (Q8 ((Q8 (d ^^^ (a + b)) (16 : Int)) ^^^ ((a + b) + (Q8 (b ^^^ (c + (Q8 (d ^^^ (a + b)) (16 : Int)))) (12 : Int)))) (8 : Int)))) (7 : Int), (c + (Q8 (d ^^^ (a + b)) (16 : Int))) + (Q8 ((Q8 (d ^^^ (a + b)) (16 : Int)) ^^^ ((a + b) + (Q8 (b ^^^ (c + (Q8 (d ^^^ (a + b)) (16 : Int)))) (12 : Int)))) (8 : Int)), Q8 ((Q8 (d ^^^ (a + b)) (16 : Int)) ^^^ ((a + b) + (Q8 (b ^^^ (c + (Q8 (d ^^^ (a + b)) (16 : Int)))) (12 : Int)))) (8 : Int)]) rfl Xb Ze rfl rfl m30.h1 Ya (.inl (Nat.zero_le _))) fun w31 m31 => ?_
 refine Zp (Qe (Qb ?_))
 refine Qd (v := (i64 4)) (Yo 3 1) <| Zm (i64 4) ?_
 refine rN (Zq (sR ?_))
 refine Qd (Jd 4 4) ?_
 refine rN (Qa ?_)
 refine Ja rfl Jb <| X4 ?_
 refine Qj (Qj (Xi ?_))
 refine sR <| Qd (Qo Gl rfl Qbv s1 m31.h1 sZ) <| Ye m31 (Qg (f := u32) (l := [(a + b) + (Q8 (b ^^^ (c + (Q8 (d ^^^ (a + b)) (16 : Int)))) (12 : Int)), Q8 ((Q8 (b ^^^ (c + (Q8 (d ^^^ (a + b)) (16 : Int)))) (12 : Int)) ^^^ ((c + (Q8 (d ^^^ (a + b)) (16 : Int))) + (Q8 ((Q8 (d ^^^ (a + b)) (16 : Int)) ^^^ ((a + b) + (Q8 (b ^^^ (c + (Q8 (d ^^^ (a + b)) (16 : Int)))) (12 : Int)))) (8 : Int)))) (7 : Int), (c + (Q8 (d ^^^ (a + b)) (16 : Int))) + (Q8 ((Q8 (d ^^^ (a + b)) (16 : Int)) ^^^ ((a + b) + (Q8 (b ^^^ (c + (Q8 (d ^^^ (a + b)) (16 : Int)))) (12 : Int)))) (8 : Int)), Q8 ((Q8 (d ^^^ (a + b)) (16 : Int)) ^^^ ((a + b) + (Q8 (b ^^^ (c + (Q8 (d ^^^ (a + b)) (16 : Int)))) (12 : Int)))) (8 : Int)]) Xb Qbv s2 rfl sD m31.h0 sZ rfl) fun w32 m32 => ?_
 refine rN (Zz ?_)
 refine Qp [(agg u32 ([(a + b) + (Q8 (b ^^^ (c + (Q8 (d ^^^ (a + b)) (16 : Int)))) (12 : Int)), Q8 ((Q8 (b ^^^ (c + (Q8 (d ^^^ (a + b)) (16 : Int)))) (12 : Int)) ^^^ ((c + (Q8 (d ^^^ (a + b)) (16 : Int))) + (Q8 ((Q8 (d ^^^ (a + b)) (16 : Int)) ^^^ ((a + b) + (Q8 (b ^^^ (c + (Q8 (d ^^^ (a + b)) (16 : Int)))) (12 : Int)))) (8 : Int)))) (7 : Int), (c + (Q8 (d ^^^ (a + b)) (16 : Int))) + (Q8 ((Q8 (d ^^^ (a + b)) (16 : Int)) ^^^ ((a + b) + (Q8 (b ^^^ (c + (Q8 (d ^^^ (a + b)) (16 : Int)))) (12 : Int)))) (8 : Int)), Q8 ((Q8 (d ^^^ (a + b)) (16 : Int)) ^^^ ((a + b) + (Q8 (b ^^^ (c + (Q8 (d ^^^ (a + b)) (16 : Int)))) (12 : Int)))) (8 : Int)]))] ⟨⟨_, s2, Xn Gl rfl Qbv m32.h0 sZ⟩, trivial⟩ ?_
 exact ⟨rfl, m32.toExt⟩
theorem Qp1 (a b c d : BitVec 32) (w0 : World)   : X0 prog 109 #[(agg u32 ([a, b, c, d]))] w0 (fun r w1 => r = (agg u32 (Kr Y4 a b c d)) ∧ Ext w0 w1) := by
 refine Qy (args := [(agg u32 ([a, b, c, d]))]) func109 rfl ntmps109 results109 rfl ?_
 have m0 : Mem w0 (Qr w0) [] := Mem.of_world w0
 refine sR <| Y9 (Xc (f := u32) (l := [a, b, c, d]) m0 rfl) fun w1 b1 m1 => Y9 (Q7 m1 Qbv) fun w2 b2 m2 => ?_
 refine rN (Qa ?_)
 refine Xg (dl 11) 11 Xo <| X6 rfl (Xu 0 0 Gl Ze rfl) <| Ym (v := (u32 a)) rfl (fun _ e' => Qi Xv rfl rfl (m2.ext e').h1 (Qu _ _ 0 Ya)) <| X6 rfl (Xu 1 1 Gl Ze rfl) <| Ym (v := (u32 b)) rfl (fun _ e' => Qi Xv rfl rfl (m2.ext e').h1 (Qu _ _ 0 Ya)) <| X6 rfl (Xu 2 2 Gl Ze rfl) <| Ym (v := (u32 c)) rfl (fun _ e' => Qi Xv rfl rfl (m2.ext e').h1 (Qu _ _ 0 Ya)) <| X6 rfl (Xu 3 3 Gl Ze rfl) <| Ym (v := (u32 d)) rfl (fun _ e' => Qi Xv rfl rfl (m2.ext e').h1 (Qu _ _ 0 Ya)) <| X6 rfl (Ud (v := (u32 a)) rfl) <| X6 rfl (Ud (v := (u32 b)) rfl) <| X6 rfl (Ud (v := (u32 c)) rfl) ?_
 refine Gf m2 fun w3 m3 => Zx (u32 d) ?_
 refine rN (sR ?_)
 refine Zm (u32 a) <| Zm (u32 b) <| Qd (Xz rfl rfl) <| Zx (u32 (a + b)) ?_
 refine rN (sR ?_)
 refine Zm (u32 d) <| Zm (u32 (a + b)) <| Qd (Jn rfl rfl) <| U3 m3 (oc115 (Xm rfl rfl) (Qil (d ^^^ (a + b)) _ _ sD sD)) fun w4 m4 => Zx (u32 (Y4 (d ^^^ (a + b)) (16 : Int))) ?_
 refine rN (sR ?_)
 refine Zm (u32 c) <| Zm (u32 (Y4 (d ^^^ (a + b)) (16 : Int))) <| Qd (Xz rfl rfl) <| Zx (u32 (c + (Y4 (d ^^^ (a + b)) (16 : Int)))) ?_
 refine rN (sR ?_)
 refine Zm (u32 b) <| Zm (u32 (c + (Y4 (d ^^^ (a + b)) (16 : Int)))) <| Qd (Jn rfl rfl) <| U3 m4 (oc115 (Xm rfl rfl) (Qil (b ^^^ (c + (Y4 (d ^^^ (a + b)) (16 : Int)))) _ _ sD sD)) fun w6 m6 => Zx (u32 (Y4 (b ^^^ (c + (Y4 (d ^^^ (a + b)) (16 : Int)))) (12 : Int))) ?_
 refine rN (sR ?_)
 refine Zm (u32 (a + b)) <| Zm (u32 (Y4 (b ^^^ (c + (Y4 (d ^^^ (a + b)) (16 : Int)))) (12 : Int))) <| Qd (Xz rfl rfl) <| yqA rfl ?_
 refine rN (sR ?_)
 refine Zm (u32 (Y4 (d ^^^ (a + b)) (16 : Int))) <| Yb rfl <| Qd (Jn rfl rfl) <| U3 m6 (oc115 (Xm rfl rfl) (Qil ((Y4 (d ^^^ (a + b)) (16 : Int)) ^^^ ((a + b) + (Y4 (b ^^^ (c + (Y4 (d ^^^ (a + b)) (16 : Int)))) (12 : Int)))) _ _ sD sD)) fun w8 m8 => yqA rfl ?_
 refine rN (sR ?_)
 refine Zm (u32 (c + (Y4 (d ^^^ (a + b)) (16 : Int)))) <| Yb rfl <| Qd (Xz rfl rfl) <| yqA rfl ?_
 refine rN (sR ?_)
 refine Zm (u32 (Y4 (b ^^^ (c + (Y4 (d ^^^ (a + b)) (16 : Int)))) (12 : Int))) <| Yb rfl <| Qd (Jn rfl rfl) <| U3 m8 (oc115 (Xm rfl rfl) (Qil ((Y4 (b ^^^ (c + (Y4 (d ^^^ (a + b)) (16 : Int)))) (12 : Int)) ^^^ ((c + (Y4 (d ^^^ (a + b)) (16 : Int))) + (Y4 ((Y4 (d ^^^ (a + b)) (16 : Int)) ^^^ ((a + b) + (Y4 (b ^^^ (c + (Y4 (d ^^^ (a + b)) (16 : Int)))) (12 : Int)))) (8 : Int)))) _ _ sD sD)) fun w10 m10 => yqA rfl ?_
 refine rN (sR ?_)
 refine Yb rfl <| Yb rfl <| Yb rfl <| Yb rfl <| Qd (Gi u32 [(a + b) + (Y4 (b ^^^ (c + (Y4 (d ^^^ (a + b)) (16 : Int)))) (12 : Int)), Y4 ((Y4 (b ^^^ (c + (Y4 (d ^^^ (a + b)) (16 : Int)))) (12 : Int)) ^^^ ((c + (Y4 (d ^^^ (a + b)) (16 : Int))) + (Y4 ((Y4 (d ^^^ (a + b)) (16 : Int)) ^^^ ((a + b) + (Y4 (b ^^^ (c + (Y4 (d ^^^ (a + b)) (16 : Int)))) (12 : Int)))) (8 : Int)))) (7 : Int), (c + (Y4 (d ^^^ (a + b)) (16 : Int))) + (Y4 ((Y4 (d ^^^ (a + b)) (16 : Int)) ^^^ ((a + b) + (Y4 (b ^^^ (c + (Y4 (d ^^^ (a + b)) (16 : Int)))) (12 : Int)))) (8 : Int)), Y4 ((Y4 (d ^^^ (a + b)) (16 : Int)) ^^^ ((a + b) + (Y4 (b ^^^ (c + (Y4 (d ^^^ (a + b)) (16 : Int)))) (12 : Int)))) (8 : Int)] Xb Qbv Gl Ze rfl rfl) <| Ye m10 (Qg (f := u32) (l := [(a + b) + (Y4 (b ^^^ (c + (Y4 (d ^^^ (a + b)) (16 : Int)))) (12 : Int)), Y4 ((Y4 (b ^^^ (c + (Y4 (d ^^^ (a + b)) (16 : Int)))) (12 : Int)) ^^^ ((c + (Y4 (d ^^^ (a + b)) (16 : Int))) + (Y4 ((Y4 (d ^^^ (a + b)) (16 : Int)) ^^^ ((a + b) + (Y4 (b ^^^ (c + (Y4 (d ^^^ (a + b)) (16 : Int)))) (12 : Int)))) (8 : Int)))) (7 : Int), (c + (Y4 (d ^^^ (a + b)) (16 : Int))) + (Y4 ((Y4 (d ^^^ (a + b)) (16 : Int)) ^^^ ((a + b) + (Y4 (b ^^^ (c + (Y4 (d ^^^ (a + b)) (16 : Int)))) (12 : Int)))) (8 : Int)), Y4 ((Y4 (d ^^^ (a + b)) (16 : Int)) ^^^ ((a + b) + (Y4 (b ^^^ (c + (Y4 (d ^^^ (a + b)) (16 : Int)))) (12 : Int)))) (8 : Int)]) Xb Qbv rfl rfl sD m10.h0 sZ rfl) fun w12 m12 => ?_
 refine rN (Zz ?_)
 refine Qp [(agg u32 ([(a + b) + (Y4 (b ^^^ (c + (Y4 (d ^^^ (a + b)) (16 : Int)))) (12 : Int)), Y4 ((Y4 (b ^^^ (c + (Y4 (d ^^^ (a + b)) (16 : Int)))) (12 : Int)) ^^^ ((c + (Y4 (d ^^^ (a + b)) (16 : Int))) + (Y4 ((Y4 (d ^^^ (a + b)) (16 : Int)) ^^^ ((a + b) + (Y4 (b ^^^ (c + (Y4 (d ^^^ (a + b)) (16 : Int)))) (12 : Int)))) (8 : Int)))) (7 : Int), (c + (Y4 (d ^^^ (a + b)) (16 : Int))) + (Y4 ((Y4 (d ^^^ (a + b)) (16 : Int)) ^^^ ((a + b) + (Y4 (b ^^^ (c + (Y4 (d ^^^ (a + b)) (16 : Int)))) (12 : Int)))) (8 : Int)), Y4 ((Y4 (d ^^^ (a + b)) (16 : Int)) ^^^ ((a + b) + (Y4 (b ^^^ (c + (Y4 (d ^^^ (a + b)) (16 : Int)))) (12 : Int)))) (8 : Int)]))] ⟨⟨_, rfl, Xn Gl rfl Qbv m12.h0 sZ⟩, trivial⟩ ?_
 exact ⟨rfl, m12.toExt⟩
theorem Qa0 (v : Value) (l : Z8) (w0 : World)  (hr : Rd (Y8 w0) u8 v l) (hl : 4 ≤ l.length) : X0 prog 113 #[v] w0 (fun r w1 => r = (u32 (Z9 l)) ∧ Ext w0 w1) := by
 refine Qy (args := [v]) func113 rfl ntmps113 results113 rfl ?_
 have m0 : Mem w0 (Qr w0) [] := Mem.of_world w0
 obtain ⟨a, b, c, d, r, rfl⟩ := list4r l hl
 refine sR <| Zx (u32 0#32) ?_
 refine rN (Qa (sR ?_))
 refine Zm v <| Qd (Y6 (i := 0) (j := 4) (hr.ext m0.toExt) Zo Yw rfl (Zd _ _) (Yd (k := .i64) (i := 4) rfl) oM oM (by simp only [List.length_cons]; omega)) <| Qd (Yk (l := [a, b, c, d]) (Rd.cast (l' := [a, b, c, d]) (Rd.sub (hr.ext m0.toExt) oM oM (by simp only [List.length_cons]; omega)) rfl) Zo rfl) <| Zm (i64 0) ?_
 refine rN (Qh ?_)
 refine Vo 5 ?_
 refine Zq (sR ?_)
 refine Qd (Jd 0 4) ?_
 refine rN (Qa ?_)
 refine Q9 rfl Jb ?_
 refine Qn (Qc (Qa (Qh (sR ?_))))
 refine Zm (i64 0) <| Qd (Zt (i := 0) (Rd.cast (l' := [a, b, c, d]) (Rd.sub (hr.ext m0.toExt) oM oM (by simp only [List.length_cons]; omega)) rfl) Zo Yw rfl rfl oM Ya) <| Qd (v := (u8 a)) (X5 (l := [a, b, c, d]) (i := 0) (dflt := 0) (Rd.cast (l' := [a, b, c, d]) (Rd.sub (hr.ext m0.toExt) oM oM (by simp only [List.length_cons]; omega)) rfl) Vs rfl oM Ya rfl) <| Zx (i64 0) <| Zx (u8 a) ?_
 refine rN (Qb ?_)
 refine Zm (u32 0#32) <| Zm (u8 a) <| Qd (Ku ⟨_, Vs⟩ Xv rfl) <| Zm (i64 0) <| Qd (v := (i64 0)) (Vx 8 0) <| Qd (Fz (b := 0) rfl rfl oM) <| Qd (Dz (a := 0#32) rfl rfl) <| Zx (u32 (0#32 ||| ((a.setWidth 32) <<< 0))) ?_
 refine Zp (Qe (Qb ?_))
 refine Qd (v := (i64 1)) (Yo 0 1) <| Zm (i64 1) ?_
 refine rN (Zq (sR ?_))
 refine Qd (Jd 1 4) ?_
 refine rN (Qa ?_)
 refine Q9 rfl Jb ?_
 refine Qn (Qc (Qa (Qh (sR ?_))))
 refine Zm (i64 1) <| Qd (Zt (i := 1) (Rd.cast (l' := [a, b, c, d]) (Rd.sub (hr.ext m0.toExt) oM oM (by simp only [List.length_cons]; omega)) rfl) Zo Yw rfl rfl oM Ya) <| Qd (v := (u8 b)) (X5 (l := [a, b, c, d]) (i := 1) (dflt := 0) (Rd.cast (l' := [a, b, c, d]) (Rd.sub (hr.ext m0.toExt) oM oM (by simp only [List.length_cons]; omega)) rfl) Vs rfl oM Ya rfl) <| Zx (i64 1) <| Zx (u8 b) ?_
 refine rN (Qb ?_)
 refine Zm (u32 (0#32 ||| ((a.setWidth 32) <<< 0))) <| Zm (u8 b) <| Qd (Ku ⟨_, Vs⟩ Xv rfl) <| Zm (i64 1) <| Qd (v := (i64 8)) (Vx 8 1) <| Qd (Fz (b := 8) rfl rfl oM) <| Qd (Dz rfl rfl) <| Zx (u32 ((0#32 ||| ((a.setWidth 32) <<< 0)) ||| ((b.setWidth 32) <<< 8))) ?_
 refine Zp (Qe (Qb ?_))
 refine Qd (v := (i64 2)) (Yo 1 1) <| Zm (i64 2) ?_
 refine rN (Zq (sR ?_))
 refine Qd (Jd 2 4) ?_
 refine rN (Qa ?_)
 refine Q9 rfl Jb ?_
 refine Qn (Qc (Qa (Qh (sR ?_))))
 refine Zm (i64 2) <| Qd (Zt (i := 2) (Rd.cast (l' := [a, b, c, d]) (Rd.sub (hr.ext m0.toExt) oM oM (by simp only [List.length_cons]; omega)) rfl) Zo Yw rfl rfl oM Ya) <| Qd (v := (u8 c)) (X5 (l := [a, b, c, d]) (i := 2) (dflt := 0) (Rd.cast (l' := [a, b, c, d]) (Rd.sub (hr.ext m0.toExt) oM oM (by simp only [List.length_cons]; omega)) rfl) Vs rfl oM Ya rfl) <| Zx (i64 2) <| Zx (u8 c) ?_
 refine rN (Qb ?_)
 refine Zm (u32 ((0#32 ||| ((a.setWidth 32) <<< 0)) ||| ((b.setWidth 32) <<< 8))) <| Zm (u8 c) <| Qd (Ku ⟨_, Vs⟩ Xv rfl) <| Zm (i64 2) <| Qd (v := (i64 16)) (Vx 8 2) <| Qd (Fz (b := 16) rfl rfl oM) <| Qd (Dz rfl rfl) <| yqA rfl ?_
 refine Zp (Qe (Qb ?_))
 refine Qd (v := (i64 3)) (Yo 2 1) <| Zm (i64 3) ?_
 refine rN (Zq (sR ?_))
 refine Qd (Jd 3 4) ?_
 refine rN (Qa ?_)
 refine Q9 rfl Jb ?_
 refine Qn (Qc (Qa (Qh (sR ?_))))
 refine Zm (i64 3) <| Qd (Zt (i := 3) (Rd.cast (l' := [a, b, c, d]) (Rd.sub (hr.ext m0.toExt) oM oM (by simp only [List.length_cons]; omega)) rfl) Zo Yw rfl rfl oM Ya) <| Qd (v := (u8 d)) (X5 (l := [a, b, c, d]) (i := 3) (dflt := 0) (Rd.cast (l' := [a, b, c, d]) (Rd.sub (hr.ext m0.toExt) oM oM (by simp only [List.length_cons]; omega)) rfl) Vs rfl oM Ya rfl) <| Zx (i64 3) <| Zx (u8 d) ?_
 refine rN (Qb ?_)
 refine Yb rfl <| Zm (u8 d) <| Qd (Ku ⟨_, Vs⟩ Xv rfl) <| Zm (i64 3) <| Qd (v := (i64 24)) (Vx 8 3) <| Qd (Fz (b := 24) rfl rfl oM) <| Qd (Dz rfl rfl) <| yqA rfl ?_
 refine Zp (Qe (Qb ?_))
 refine Qd (v := (i64 4)) (Yo 3 1) <| Zm (i64 4) ?_
 refine rN (Zq (sR ?_))
 refine Qd (Jd 4 4) ?_
 refine rN (Qa ?_)
 refine Ja rfl Jb <| X4 ?_
 refine Qj (Qj (Xi ?_))
 refine sR <| Yb rfl <| yqA rfl ?_
 refine rN (Zz ?_)
 refine Qp [(u32 ((((0#32 ||| ((a.setWidth 32) <<< 0)) ||| ((b.setWidth 32) <<< 8)) ||| ((c.setWidth 32) <<< 16)) ||| ((d.setWidth 32) <<< 24)))] ⟨rfl, trivial⟩ ?_
 exact ⟨rfl, m0.toExt⟩
theorem Qqz (v : Value) (l : Z8) (w0 : World)  (hr : Rd (Y8 w0) u8 v l) (hl : 4 ≤ l.length) : X0 prog 107 #[v] w0 (fun r w1 => r = (u32 (Yp l)) ∧ Ext w0 w1) := by
 refine Qy (args := [v]) func107 rfl ntmps107 results107 rfl ?_
 have m0 : Mem w0 (Qr w0) [] := Mem.of_world w0
 refine sR <| Zx (u32 0#32) ?_
 refine rN (Qa ?_)
 refine Xg (dl 21) 21 Xo <| J8 rfl v <| Ym rfl (fun _ e' => Zt (i := 0) (Rd.ofRest hr (m0.ext e')) Zo Yw rfl rfl oM sD) <| Ym (v := (u8 (l.getD 0 0))) rfl (fun _ e' => X5 (l := l) (i := 0) (dflt := 0) (Rd.ofRest hr (m0.ext e')) Vs rfl oM sD rfl) <| X6 rfl (Ku ⟨_, Vs⟩ Xv rfl) <| J8 rfl v <| Ym rfl (fun _ e' => Zt (i := 1) (Rd.ofRest hr (m0.ext e')) Zo Yw rfl rfl oM sD) <| Ym (v := (u8 (l.getD 1 0))) rfl (fun _ e' => X5 (l := l) (i := 1) (dflt := 0) (Rd.ofRest hr (m0.ext e')) Vs rfl oM sD rfl) <| X6 rfl (Ku ⟨_, Vs⟩ Xv rfl) <| X6 rfl (Me (b := 256#32) rfl rfl) <| X6 rfl (Xz rfl rfl) <| J8 rfl v ?_
 refine Ym rfl (fun _ e' => Zt (i := 2) (Rd.ofRest hr (m0.ext e')) Zo Yw rfl rfl oM sD) <| Ym (v := (u8 (l.getD 2 0))) rfl (fun _ e' => X5 (l := l) (i := 2) (dflt := 0) (Rd.ofRest hr (m0.ext e')) Vs rfl oM sD rfl) <| X6 rfl (Ku ⟨_, Vs⟩ Xv rfl) <| X6 rfl (Me (b := 65536#32) rfl rfl) <| X6 rfl (Xz rfl rfl) <| J8 rfl v <| Ym rfl (fun _ e' => Zt (i := 3) (Rd.ofRest hr (m0.ext e')) Zo Yw rfl rfl oM sD) <| Ym (v := (u8 (l.getD 3 0))) rfl (fun _ e' => X5 (l := l) (i := 3) (dflt := 0) (Rd.ofRest hr (m0.ext e')) Vs rfl oM sD rfl) <| X6 rfl (Ku ⟨_, Vs⟩ Xv rfl) <| X6 rfl (Me (b := 16777216#32) rfl rfl) <| Gf m0 fun w1 m1 => Qd (Xz rfl rfl) <| yqA rfl ?_
 refine rN (Zz ?_)
 refine Qp [(u32 (((((l.getD 0 0).setWidth 32) + (((l.getD 1 0).setWidth 32) * 256#32)) + (((l.getD 2 0).setWidth 32) * 65536#32)) + (((l.getD 3 0).setWidth 32) * 16777216#32)))] ⟨rfl, trivial⟩ ?_
 exact ⟨rfl, m1.toExt⟩
theorem Au (bs : Nat) (s : List (BitVec 32)) (i0 i1 i2 i3 : Int) (w0 : World) (R : Rest) (m0 : Mem w0 R [(bs, .cells (cl u32 s) 156 (0, 0))]) (hl : s.length = 16) (h0 : 0 ≤ i0 ∧ i0 < 16) (h1 : 0 ≤ i1 ∧ i1 < 16) (h2 : 0 ≤ i2 ∧ i2 < 16) (h3 : 0 ≤ i3 ∧ i3 < 16) : X0 prog 104 #[(ptr bs 0), (agg i64 ([i0, i1, i2, i3]))] w0 (fun r w1 => r = .tuple #[] ∧ Mem w1 R [(bs, .cells (cl u32 (Hg s i0.toNat i1.toNat i2.toNat i3.toNat)) 156 (0, 0))]) := by
 refine Qy (args := [(ptr bs 0), (agg i64 ([i0, i1, i2, i3]))]) func104 rfl ntmps104 results104 rfl <| sR <| Y9 (Xc (f := i64) (l := [i0, i1, i2, i3]) m0 rfl) fun w1 b3 m1 => ?_
 refine rN (sR ?_)
 refine Y9 (Q7 m1 Qbv) fun w2 b4 m2 => ?_
 refine rN (Qa (sR ?_))
 refine Qd (Qo La rfl Qek rfl m2.h1 sZ) <| Zm (i64 0) ?_
 refine rN (Qh ?_)
 refine Vo 5 ?_
 refine Zq (sR ?_)
 refine Qd (Jd 0 4) ?_
 refine rN (Qa ?_)
 refine Q9 rfl Jb ?_
 refine Qn (Qc (Qa (Qh (sR ?_))))
 refine Zm (i64 0) <| Qd (v := (i64 i0)) (Ju (i := 0) La Uu rfl Ui rfl rfl oM sD (Qu _ _ 0 Ya)) <| Zx (i64 0) <| Zx (i64 i0) ?_
 refine rN (Qb ?_)
 refine Zm (i64 0) <| Zm (ptr bs 0) <| Zm (i64 i0) <| Qd (Zc rfl) <| Qd (Zl (r := (i0 : Int).toNat) oM Cc Ze rfl rfl oM sD) <| Qd (v := (u32 (s.getD ((i0 : Int).toNat) 0))) (Qi Xv rfl rfl m2.h2 (Qu _ _ 0 sD)) <| Qd (Xu 0 0 Gl Ze rfl) <| Ye m2 (Zk (f := u32) (l' := [s.getD ((i0 : Int).toNat) 0, 0, 0, 0]) rfl Xb Ze rfl rfl m2.h0 Ya (.inl (Nat.zero_le _))) fun w3 m3 => ?_
 refine Zp (Qe (Qb ?_))
 refine Qd (v := (i64 1)) (Yo 0 1) <| Zm (i64 1) ?_
 refine rN (Zq (sR ?_))
 refine Qd (Jd 1 4) ?_
 refine rN (Qa ?_)
 refine Q9 rfl Jb ?_
 refine Qn (Qc (Qa (Qh (sR ?_))))
 refine Zm (i64 1) <| Qd (v := (i64 i1)) (Ju (i := 1) La Uu rfl Ui rfl rfl oM sD (Qu _ _ 0 Ya)) <| Zx (i64 1) <| Zx (i64 i1) ?_
 refine rN (Qb ?_)
 refine Zm (i64 1) <| Zm (ptr bs 0) <| Zm (i64 i1) <| Qd (Zc rfl) <| Qd (Zl (r := (i1 : Int).toNat) oM Cc Ze rfl rfl oM sD) <| Qd (v := (u32 (s.getD ((i1 : Int).toNat) 0))) (Qi Xv rfl rfl m3.h2 (Qu _ _ 0 sD)) <| Qd (Xu 1 1 Gl Ze rfl) <| Ye m3 (Zk (f := u32) (l' := [s.getD ((i0 : Int).toNat) 0, s.getD ((i1 : Int).toNat) 0, 0, 0]) rfl Xb Ze rfl rfl m3.h0 Ya (.inl (Nat.zero_le _))) fun w4 m4 => ?_
 refine Zp (Qe (Qb ?_))
 refine Qd (v := (i64 2)) (Yo 1 1) <| Zm (i64 2) ?_
 refine rN (Zq (sR ?_))
 refine Qd (Jd 2 4) ?_
 refine rN (Qa ?_)
 refine Q9 rfl Jb ?_
 refine Qn (Qc (Qa (Qh (sR ?_))))
 refine Zm (i64 2) <| Qd (v := (i64 i2)) (Ju (i := 2) La Uu rfl Ui rfl rfl oM sD (Qu _ _ 0 Ya)) <| Zx (i64 2) <| Zx (i64 i2) ?_
 refine rN (Qb ?_)
 refine Zm (i64 2) <| Zm (ptr bs 0) <| Zm (i64 i2) <| Qd (Zc rfl) <| Qd (Zl (r := (i2 : Int).toNat) oM Cc Ze rfl rfl oM sD) <| Qd (v := (u32 (s.getD ((i2 : Int).toNat) 0))) (Qi Xv rfl rfl m4.h2 (Qu _ _ 0 sD)) <| Qd (Xu 2 2 Gl Ze rfl) <| Ye m4 (Zk (f := u32) (l' := [s.getD ((i0 : Int).toNat) 0, s.getD ((i1 : Int).toNat) 0, s.getD ((i2 : Int).toNat) 0, 0]) rfl Xb Ze rfl rfl m4.h0 Ya (.inl (Nat.zero_le _))) fun w5 m5 => ?_
 refine Zp (Qe (Qb ?_))
 refine Qd (v := (i64 3)) (Yo 2 1) <| Zm (i64 3) ?_
 refine rN (Zq (sR ?_))
 refine Qd (Jd 3 4) ?_
 refine rN (Qa ?_)
 refine Q9 rfl Jb ?_
 refine Qn (Qc (Qa (Qh (sR ?_))))
 refine Zm (i64 3) <| Qd (v := (i64 i3)) (Ju (i := 3) La Uu rfl Ui rfl rfl oM sD (Qu _ _ 0 Ya)) <| Zx (i64 3) <| Zx (i64 i3) ?_
 refine rN (Qb ?_)
 refine Zm (i64 3) <| Zm (ptr bs 0) <| Zm (i64 i3) <| Qd (Zc rfl) <| Qd (Zl (r := (i3 : Int).toNat) oM Cc Ze rfl rfl oM sD) <| Qd (v := (u32 (s.getD ((i3 : Int).toNat) 0))) (Qi Xv rfl rfl m5.h2 (Qu _ _ 0 sD)) <| Qd (Xu 3 3 Gl Ze rfl) <| Ye m5 (Zk (f := u32) (l' := [s.getD ((i0 : Int).toNat) 0, s.getD ((i1 : Int).toNat) 0, s.getD ((i2 : Int).toNat) 0, s.getD ((i3 : Int).toNat) 0]) rfl Xb Ze rfl rfl m5.h0 Ya (.inl (Nat.zero_le _))) fun w6 m6 => ?_
 refine Zp (Qe (Qb ?_))
 refine Qd (v := (i64 4)) (Yo 3 1) <| Zm (i64 4) ?_
 refine rN (Zq (sR ?_))
 refine Qd (Jd 4 4) ?_
 refine rN (Qa ?_)
 refine Ja rfl Jb <| X4 ?_
 refine Qj (Qj (Xi ?_))
 refine sR <| Qd (Qo Gl rfl Qbv rfl m6.h0 sZ) <| U3 m6 (oc114 (Jv rfl) (Qsn (s.getD ((i0 : Int).toNat) 0) (s.getD ((i1 : Int).toNat) 0) (s.getD ((i2 : Int).toNat) 0) (s.getD ((i3 : Int).toNat) 0) _)) fun w7 m7 => Zm (i64 0) ?_
 refine rN (V8 ?_)
 refine Vo 5 ?_
 refine Zq (sR ?_)
 refine Qd (Jd 0 4) ?_
 refine rN (Qa ?_)
 refine Q9 rfl Jb ?_
 refine Qn (Qc (Qa (Qh (sR ?_))))
 refine Zm (i64 0) <| Qd (v := (u32 ((Kr Q8 (s.getD ((i0 : Int).toNat) 0) (s.getD ((i1 : Int).toNat) 0) (s.getD ((i2 : Int).toNat) 0) (s.getD ((i3 : Int).toNat) 0)).getD 0 0))) (Ju (i := 0) Gl Xv rfl Ze rfl rfl oM sD (Qu _ _ 0 sD)) <| Zx (i64 0) <| yqA rfl <| rN <| Xg (dl 6) 6 Xo <| J8 rfl (ptr bs 0) <| J8 rfl (i64 0) <| X6 rfl (Xu 0 0 La Ui rfl) <| Ym (v := (i64 i0)) rfl (fun _ e' => Qi Uu rfl rfl (m7.ext e').h1 (Qu _ _ 0 Ya)) <| Uh rfl rfl <| X6 rfl (Zc rfl) ?_
 refine Gf m7 fun w8 m8 => Qd (Zl (r := (i0 : Int).toNat) oM Cc Ze rfl rfl oM sD) <| Aa m8 (Xx (f := u32) (a := (Kr Q8 (s.getD ((i0 : Int).toNat) 0) (s.getD ((i1 : Int).toNat) 0) (s.getD ((i2 : Int).toNat) 0) (s.getD ((i3 : Int).toNat) 0)).getD 0 0) Xb Ze rfl rfl m8.h2 sD (.inl (Nat.zero_le _))) fun w9 m9 => ?_
 refine Zp (Qe (Qb ?_))
 refine Qd (v := (i64 1)) (Yo 0 1) <| Zm (i64 1) ?_
 refine rN (Zq (sR ?_))
 refine Qd (Jd 1 4) ?_
 refine rN (Qa ?_)
 refine Q9 rfl Jb ?_
 refine Qn (Qc (Qa (Qh (sR ?_))))
 refine Zm (i64 1) <| Qd (v := (u32 ((Kr Q8 (s.getD ((i0 : Int).toNat) 0) (s.getD ((i1 : Int).toNat) 0) (s.getD ((i2 : Int).toNat) 0) (s.getD ((i3 : Int).toNat) 0)).getD 1 0))) (Ju (i := 1) Gl Xv rfl Ze rfl rfl oM sD (Qu _ _ 0 sD)) <| Zx (i64 1) <| yqA rfl <| rN ?_
 refine CW.abs (fun g => g 0 = (ptr bs 0) ∧ g 1 = (agg i64 ([i0, i1, i2, i3])) ∧ g 3 = (ptr b3 0) ∧ g 4 = (ptr b4 0) ∧ g 5 = (i64 3) ∧ g 6 = (i64 i3) ∧ g 7 = (i64 1) ∧ g 8 = (u32 ((Kr Q8 (s.getD ((i0 : Int).toNat) 0) (s.getD ((i1 : Int).toNat) 0) (s.getD ((i2 : Int).toNat) 0) (s.getD ((i3 : Int).toNat) 0)).getD 1 0)) ∧ g 9 = (agg i64 ([i0, i1, i2, i3])) ∧ g 10 = (i64 4) ∧ g 11 = (bl false) ∧ g 23 = (agg u32 (Kr Q8 (s.getD ((i0 : Int).toNat) 0) (s.getD ((i1 : Int).toNat) 0) (s.getD ((i2 : Int).toNat) 0) (s.getD ((i3 : Int).toNat) 0))) ∧ g 24 = (i64 1) ∧ g 25 = (bl true) ∧ True) ⟨rfl, rfl, rfl, rfl, rfl, rfl, rfl, rfl, rfl, rfl, rfl, rfl, rfl, rfl, trivial⟩ ?_
 rintro fr10 ⟨s0, s1, s3, s4, s5, s6, s7, s8, s9, s10, s11, s23, s24, s25, _⟩
 refine Xg (dl 6) 6 Xo <| Uh rfl s0 <| Uh rfl s7 <| X6 rfl (Xu 1 1 La Ui s3) <| Ym (v := (i64 i1)) rfl (fun _ e' => Qi Uu rfl rfl (m9.ext e').h1 (Qu _ _ 0 Ya)) <| Uh rfl s8 <| X6 rfl (Zc rfl) <| Gf m9 fun w11 m11 => Qd (Zl (r := (i1 : Int).toNat) oM Cc Ze rfl rfl oM sD) <| Aa m11 (Xx (f := u32) (a := (Kr Q8 (s.getD ((i0 : Int).toNat) 0) (s.getD ((i1 : Int).toNat) 0) (s.getD ((i2 : Int).toNat) 0) (s.getD ((i3 : Int).toNat) 0)).getD 1 0) Xb Ze rfl rfl m11.h2 sD (.inl (Nat.zero_le _))) fun w12 m12 => ?_
 refine Zp (Qe (Qb ?_))
 refine Qd (v := (i64 2)) (Zf (a := 1) (b := 1) s24 rfl oM oM) <| Zm (i64 2) ?_
 refine rN (Zq (sR ?_))
 refine Qd (Jd 2 4) ?_
 refine rN (Qa ?_)
 refine Q9 rfl Jb ?_
 refine Qn (Qc (Qa (Qh (sR ?_))))
 refine Zm (i64 2) <| Qd (v := (u32 ((Kr Q8 (s.getD ((i0 : Int).toNat) 0) (s.getD ((i1 : Int).toNat) 0) (s.getD ((i2 : Int).toNat) 0) (s.getD ((i3 : Int).toNat) 0)).getD 2 0))) (Ju (i := 2) Gl Xv rfl Ze s23 rfl oM sD (Qu _ _ 0 sD)) <| Zx (i64 2) <| yqA rfl <| rN <| Xg (dl 6) 6 Xo <| Uh rfl s0 <| J8 rfl (i64 2) <| X6 rfl (Xu 2 2 La Ui s3) <| Ym (v := (i64 i2)) rfl (fun _ e' => Qi Uu rfl rfl (m12.ext e').h1 (Qu _ _ 0 Ya)) <| Uh rfl rfl <| X6 rfl (Zc rfl) ?_
 refine Gf m12 fun w13 m13 => Qd (Zl (r := (i2 : Int).toNat) oM Cc Ze rfl rfl oM sD) <| Aa m13 (Xx (f := u32) (a := (Kr Q8 (s.getD ((i0 : Int).toNat) 0) (s.getD ((i1 : Int).toNat) 0) (s.getD ((i2 : Int).toNat) 0) (s.getD ((i3 : Int).toNat) 0)).getD 2 0) Xb Ze rfl rfl m13.h2 sD (.inl (Nat.zero_le _))) fun w14 m14 => ?_
 refine Zp (Qe (Qb ?_))
 refine Qd (v := (i64 3)) (Yo 2 1) <| Zm (i64 3) ?_
 refine rN (Zq (sR ?_))
 refine Qd (Jd 3 4) ?_
 refine rN (Qa ?_)
 refine Q9 rfl Jb ?_
 refine Qn (Qc (Qa (Qh (sR ?_))))
 refine Zm (i64 3) <| Qd (v := (u32 ((Kr Q8 (s.getD ((i0 : Int).toNat) 0) (s.getD ((i1 : Int).toNat) 0) (s.getD ((i2 : Int).toNat) 0) (s.getD ((i3 : Int).toNat) 0)).getD 3 0))) (Ju (i := 3) Gl Xv rfl Ze s23 rfl oM sD (Qu _ _ 0 sD)) <| Zx (i64 3) <| yqA rfl <| rN <| Xg (dl 6) 6 Xo <| Uh rfl s0 <| J8 rfl (i64 3) <| X6 rfl (Xu 3 3 La Ui s3) <| Ym (v := (i64 i3)) rfl (fun _ e' => Qi Uu rfl rfl (m14.ext e').h1 (Qu _ _ 0 Ya)) <| Uh rfl rfl <| X6 rfl (Zc rfl) ?_
 refine Gf m14 fun w15 m15 => Qd (Zl (r := (i3 : Int).toNat) oM Cc Ze rfl rfl oM sD) <| Aa m15 (Xx (f := u32) (a := (Kr Q8 (s.getD ((i0 : Int).toNat) 0) (s.getD ((i1 : Int).toNat) 0) (s.getD ((i2 : Int).toNat) 0) (s.getD ((i3 : Int).toNat) 0)).getD 3 0) Xb Ze rfl rfl m15.h2 sD (.inl (Nat.zero_le _))) fun w16 m16 => ?_
 refine Zp (Qe (Qb ?_))
 refine Qd (v := (i64 4)) (Yo 3 1) <| Zm (i64 4) ?_
 refine rN (Zq (sR ?_))
 refine Qd (Jd 4 4) ?_
 refine rN (Qa ?_)
 refine Ja rfl Jb <| X4 ?_
 refine Qj (Qj (Xi ?_))
 refine Ls [] trivial ?_
 exact ⟨rfl, Mem.drop [_, _] _ m16⟩
end Go.Proofs.YtkmiemlpfkfiiaaDoor
