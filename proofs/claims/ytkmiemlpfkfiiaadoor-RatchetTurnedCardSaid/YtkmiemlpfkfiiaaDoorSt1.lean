/- Contracts: stream, first part. Conditions: none beyond those that each theorem states. -/
import Derived.Test.YtkmiemlpfkfiiaaDoorTab
namespace Go.Proofs.YtkmiemlpfkfiiaaDoor
open BitVec renaming ofInt → aB
open List renaming length_cons → au
open Mem renaming of_world → aY
open Nat renaming zero_le → aJ
open Rd renaming cast → bC, ofRest → aK, sub → bf
open Tryd
set_option linter.unusedVariables false
set_option linter.unusedSimpArgs false
def Q8 (x : BitVec 32) (k : Int) : BitVec 32 := (x <<< (aB 64 k &&& 31#64).toNat) ||| (x >>> (32#64 - (aB 64 k &&& 31#64)).toNat)
def Y0 (x : BitVec 32) (n : Int) : BitVec 32 := (x <<< n.toNat) ||| (x >>> (32 - n).toNat)
def Kr (rot : BitVec 32 → Int → BitVec 32) (a b c d : BitVec 32) : List (BitVec 32) :=
 let a1 := a + b
 let d1 := rot (d ^^^ a1) 16
 let c1 := c + d1
 let b1 := rot (b ^^^ c1) 12
 let a2 := a1 + b1
 let d2 := rot (d1 ^^^ a2) 8
 let c2 := c1 + d2
 let b2 := rot (b1 ^^^ c2) 7
 [a2, b2, c2, d2]
@[simp] theorem Qu0 (rot : BitVec 32 → Int → BitVec 32) (a b c d : BitVec 32) : (Kr rot a b c d).length = 4 := rfl
def wordP (a b c d : BitVec 8) : BitVec 32 := (((0#32 ||| a.setWidth 32 <<< 0) ||| b.setWidth 32 <<< 8) ||| c.setWidth 32 <<< 16) ||| d.setWidth 32 <<< 24
def wordR (a b c d : BitVec 8) : BitVec 32 := ((a.setWidth 32 + b.setWidth 32 * 256) + c.setWidth 32 * 65536) + d.setWidth 32 * 16777216
def Xa (l : Z4) : BitVec 32 := wordP (l.getD 0 0) (l.getD 1 0) (l.getD 2 0) (l.getD 3 0)
def Yl (l : Z4) : BitVec 32 := wordR (l.getD 0 0) (l.getD 1 0) (l.getD 2 0) (l.getD 3 0)
def Aw (s : List (BitVec 32)) (i0 i1 i2 i3 : Nat) : List (BitVec 32) :=
 let q := Kr Q8 (s.getD i0 0) (s.getD i1 0) (s.getD i2 0) (s.getD i3 0)
 (((s.set i0 (q.getD 0 0)).set i1 (q.getD 1 0)).set i2 (q.getD 2 0)).set i3 (q.getD 3 0)
theorem Qp9 (s : List (BitVec 32)) (i0 i1 i2 i3 : Nat) : (Aw s i0 i1 i2 i3).length = s.length := by simp [Aw]
theorem Em (x : BitVec 32) (k : Int) (w0 : World)   : Xz prog 112 #[(u32 x), (i64 k)] w0 (fun r w1 => r = (u32 (Q8 x k)) ∧ w1 = w0) := by
 refine Qz (args := [(u32 x), (i64 k)]) func112 rfl ntmps112 results112 rfl ?_
 have m0 : Mem w0 (Qs w0) [] := aY w0
 refine sR <| Zx (u32 0#32) ?_
 refine rN (sR ?_)
 refine Zm (i64 k) <| Qd (Jg ⟨_, Fa⟩ uT121 rfl) <| Qd (Vp (b := 31#64) rfl rfl) <| Zx (u64 ((aB 64 k) &&& 31#64)) ?_
 refine rN (sR ?_)
 refine Zm (u32 x) <| Zm (u64 ((aB 64 k) &&& 31#64)) <| Qd (Fh rfl rfl oM) <| Zm (u32 x) <| Zm (u64 ((aB 64 k) &&& 31#64)) <| Qd (Lr (a := 32#64) rfl rfl) <| Qd (Ul rfl rfl oM) <| Qd (Dv rfl rfl) <| Tc rfl ?_
 refine rN (Z8 ?_)
 refine Qq [(u32 ((x <<< ((aB 64 k) &&& 31#64).toNat) ||| (x >>> (32#64 - ((aB 64 k) &&& 31#64)).toNat)))] ⟨rfl, trivial⟩ ?_
 exact ⟨rfl, rfl⟩
theorem Qi8 (x : BitVec 32) (k : Int) (w0 : World)  (h0 : 0 ≤ k) (h1 : k ≤ 32) : Xz prog 115 #[(u32 x), (i64 k)] w0 (fun r w1 => r = (u32 (Y0 x k)) ∧ Ext w0 w1) := by
 refine Qz (args := [(u32 x), (i64 k)]) func115 rfl ntmps115 results115 rfl ?_
 have m0 : Mem w0 (Qs w0) [] := aY w0
 refine sR <| Zx (u32 0#32) ?_
 refine rN (Qa ?_)
 refine Xi (dl 7) 7 Xv <| J7 rfl (u32 x) <| J7 rfl (i64 k) <| X4 rfl (Fh rfl rfl oM) <| J7 rfl (u32 x) <| J7 rfl (i64 k) <| X4 rfl (Yg (a := 32) rfl rfl oM oM) <| X4 rfl (Ul rfl rfl oM) <| Gf m0 fun w1 m1 => Qd (Dv rfl rfl) <| Zx (u32 ((x <<< k.toNat) ||| (x >>> (32 - k).toNat))) ?_
 refine rN (Z8 ?_)
 refine Qq [(u32 ((x <<< k.toNat) ||| (x >>> (32 - k).toNat)))] ⟨rfl, trivial⟩ ?_
 exact ⟨rfl, m1.toExt⟩
theorem Qus (a b c d : BitVec 32) (w0 : World)   : Xz prog 114 #[(agg u32 ([a, b, c, d]))] w0 (fun r w1 => r = (agg u32 (Kr Q8 a b c d)) ∧ Ext w0 w1) := by
 refine Qz (args := [(agg u32 ([a, b, c, d]))]) func114 rfl ntmps114 results114 rfl ?_
 have m0 : Mem w0 (Qs w0) [] := aY w0
 refine sR <| Y5 (Z5 (f := u32) (l := [a, b, c, d]) m0 rfl) fun w1 b1 m1 => Y5 (Q7 m1 Qbm) fun w2 b2 m2 => ?_
 refine rN (Qa (sR ?_))
 refine Qd (V9 i64 [16, 12, 8, 7] Zw Qen Hm Uw rfl rfl) <| Zm (i64 0) ?_
 refine rN (Qh ?_)
 refine Vk 5 ?_
 refine Zq (sR ?_)
 refine Qd (Jc 0 4) ?_
 refine rN (Qa ?_)
 refine Za rfl Yx ?_
 refine Qo (Qc (Qa (Qh (sR ?_))))
 refine Zm (i64 0) <| Qd (v := (i64 16)) (Jt (i := 0) Hm Fa rfl Uw rfl rfl oM sD (Qu _ _ 0 Ya)) <| Zx (i64 0) <| Zx (i64 16) ?_
 refine rN (sR ?_)
 refine Zx (i64 0) <| Zx (i64 1) <| Zx (i64 3) ?_
 refine rN (Qa (sR ?_))
 refine Zm (i64 0) <| Qd (v := (i64 0)) (Wp (a := 0) (b := 2) rfl rfl oM oM oM) <| Qd (x_eql 0 1) <| rN <| Ja rfl Yx ?_
 refine Qo (Qc (Qa ?_))
 refine Xi (dl 6) 6 Xv <| J7 rfl (i64 0) <| X4 rfl (Xr 0 0 Gj Ze rfl) <| Yj (v := (u32 a)) rfl (fun _ e' => Qi Xt rfl rfl (m2.ext e').h1 (Qu _ _ 0 Ya)) <| J7 rfl (i64 1) <| X4 rfl (Xr 1 1 Gj Ze rfl) <| Yj (v := (u32 b)) rfl (fun _ e' => Qi Xt rfl rfl (m2.ext e').h1 (Qu _ _ 0 Ya)) <| Gf m2 fun w3 m3 => Qd (Xx rfl rfl) <| Qd (Xr 0 0 Gj Ze rfl) <| Vs m3 (Zi (f := u32) (l' := [a + b, b, c, d]) rfl Xb Ze rfl rfl m3.h1 Ya (.inl (aJ _))) fun w4 m4 => rN <| Xi (dl 10) 10 Xv <| J7 rfl (i64 3) <| J7 rfl (i64 3) <| X4 rfl (Xr 3 3 Gj Ze rfl) <| Yj (v := (u32 d)) rfl (fun _ e' => Qi Xt rfl rfl (m4.ext e').h1 (Qu _ _ 0 Ya)) <| J7 rfl (i64 0) <| X4 rfl (Xr 0 0 Gj Ze rfl) <| Yj (v := (u32 (a + b))) rfl (fun _ e' => Qi Xt rfl rfl (m4.ext e').h1 (Qu _ _ 0 Ya)) <| X4 rfl (Jm rfl rfl) <| J7 rfl (i64 16) <| Wy (v := (u32 (Q8 (d ^^^ (a + b)) (16 : Int)))) rfl rfl (fun w5 e5 => Vf.mono (Qa4 (Xl rfl rfl) (Em (d ^^^ (a + b)) _ _)) (by rintro _ w6 ⟨rfl, rfl⟩; exact ⟨rfl, Ext.refl _⟩)) ?_
 refine Gf m4 fun w8 m8 => Qd (Xr 3 3 Gj Ze rfl) <| Vs m8 (Zi (f := u32) (l' := [a + b, b, c, Q8 (d ^^^ (a + b)) (16 : Int)]) rfl Xb Ze rfl rfl m8.h1 Ya (.inl (aJ _))) fun w9 m9 => ?_
 refine Zp (Qe (Qb ?_))
 refine Qd (v := (i64 1)) (Yk 0 1) <| Zm (i64 1) ?_
 refine rN (Zq (sR ?_))
 refine Qd (Jc 1 4) ?_
 refine rN (Qa ?_)
 refine Za rfl Yx ?_
 refine Qo (Qc (Qa (Qh (sR ?_))))
 refine Zm (i64 1) <| Qd (v := (i64 12)) (Jt (i := 1) Hm Fa rfl Uw rfl rfl oM sD (Qu _ _ 0 Ya)) <| Zx (i64 1) <| Zx (i64 12) ?_
 refine rN (sR ?_)
 refine Zx (i64 0) <| Zx (i64 1) <| Zx (i64 3) ?_
 refine rN (Qa (sR ?_))
 refine Zm (i64 1) <| Qd (v := (i64 1)) (Wp (a := 1) (b := 2) rfl rfl oM oM oM) <| Qd (x_eql 1 1) <| rN <| Za rfl Yx <| Qb <| Zx (i64 2) <| Zx (i64 3) <| Zx (i64 1) ?_
 refine rN (Qa ?_)
 refine Xi (dl 6) 6 Xv <| J7 rfl (i64 2) <| X4 rfl (Xr 2 2 Gj Ze rfl) <| Yj (v := (u32 c)) rfl (fun _ e' => Qi Xt rfl rfl (m9.ext e').h1 (Qu _ _ 0 Ya)) <| J7 rfl (i64 3) <| X4 rfl (Xr 3 3 Gj Ze rfl) <| Yj (v := (u32 (Q8 (d ^^^ (a + b)) (16 : Int)))) rfl (fun _ e' => Qi Xt rfl rfl (m9.ext e').h1 (Qu _ _ 0 Ya)) <| Gf m9 fun w10 m10 => Qd (Xx rfl rfl) <| Qd (Xr 2 2 Gj Ze rfl) <| Vs m10 (Zi (f := u32) (l' := [a + b, b, c + (Q8 (d ^^^ (a + b)) (16 : Int)), Q8 (d ^^^ (a + b)) (16 : Int)]) rfl Xb Ze rfl rfl m10.h1 Ya (.inl (aJ _))) fun w11 m11 => rN <| Xi (dl 10) 10 Xv <| J7 rfl (i64 1) <| J7 rfl (i64 1) <| X4 rfl (Xr 1 1 Gj Ze rfl) <| Yj (v := (u32 b)) rfl (fun _ e' => Qi Xt rfl rfl (m11.ext e').h1 (Qu _ _ 0 Ya)) <| J7 rfl (i64 2) <| X4 rfl (Xr 2 2 Gj Ze rfl) <| Yj (v := (u32 (c + (Q8 (d ^^^ (a + b)) (16 : Int))))) rfl (fun _ e' => Qi Xt rfl rfl (m11.ext e').h1 (Qu _ _ 0 Ya)) <| X4 rfl (Jm rfl rfl) <| J7 rfl (i64 12) <| Wy (v := (u32 (Q8 (b ^^^ (c + (Q8 (d ^^^ (a + b)) (16 : Int)))) (12 : Int)))) rfl rfl (fun w12 e12 => Vf.mono (Qa4 (Xl rfl rfl) (Em (b ^^^ (c + (Q8 (d ^^^ (a + b)) (16 : Int)))) _ _)) (by rintro _ w13 ⟨rfl, rfl⟩; exact ⟨rfl, Ext.refl _⟩)) ?_
 refine Gf m11 fun w15 m15 => Qd (Xr 1 1 Gj Ze rfl) <| Vs m15 (Zi (f := u32) (l' := [a + b, Q8 (b ^^^ (c + (Q8 (d ^^^ (a + b)) (16 : Int)))) (12 : Int), c + (Q8 (d ^^^ (a + b)) (16 : Int)), Q8 (d ^^^ (a + b)) (16 : Int)]) rfl Xb Ze rfl rfl m15.h1 Ya (.inl (aJ _))) fun w16 m16 => ?_
 refine Zp (Qe (Qb ?_))
 refine Qd (v := (i64 2)) (Yk 1 1) <| Zm (i64 2) ?_
 refine rN (Zq (sR ?_))
 refine Qd (Jc 2 4) ?_
 refine rN (Qa ?_)
 refine Za rfl Yx ?_
 refine Qo (Qc (Qa (Qh (sR ?_))))
 refine Zm (i64 2) <| Qd (v := (i64 8)) (Jt (i := 2) Hm Fa rfl Uw rfl rfl oM sD (Qu _ _ 0 Ya)) <| Zx (i64 2) <| Zx (i64 8) ?_
 refine rN (sR ?_)
 refine Zx (i64 0) <| Zx (i64 1) <| Zx (i64 3) ?_
 refine rN (Qa (sR ?_))
 refine Zm (i64 2) <| Qd (v := (i64 0)) (Wp (a := 2) (b := 2) rfl rfl oM oM oM) <| Qd (x_eql 0 1) <| rN ?_
 refine CW.abs (fun g => g 0 = (agg u32 ([a, b, c, d])) ∧ g 1 = (ptr b1 0) ∧ g 2 = (ptr b2 0) ∧ g 3 = (i64 2) ∧ g 4 = (i64 8) ∧ g 5 = (i64 0) ∧ g 6 = (i64 1) ∧ g 7 = (i64 3) ∧ g 8 = (agg i64 ([16, 12, 8, 7])) ∧ g 9 = (i64 2) ∧ g 10 = (bl true) ∧ g 15 = (bl false) ∧ True) ⟨rfl, rfl, rfl, rfl, rfl, rfl, rfl, rfl, rfl, rfl, rfl, rfl, trivial⟩ ?_
 rintro fr17 ⟨s0, s1, s2, s3, s4, s5, s6, s7, s8, s9, s10, s15, _⟩
 refine Ja s15 Yx ?_
 refine Qo (Qc (Qa ?_))
 refine Xi (dl 6) 6 Xv <| Uh rfl s5 <| X4 rfl (Xr 0 0 Gj Ze s1) <| Yj (v := (u32 (a + b))) rfl (fun _ e' => Qi Xt rfl rfl (m16.ext e').h1 (Qu _ _ 0 Ya)) <| Uh rfl s6 <| X4 rfl (Xr 1 1 Gj Ze s1) <| Yj (v := (u32 (Q8 (b ^^^ (c + (Q8 (d ^^^ (a + b)) (16 : Int)))) (12 : Int)))) rfl (fun _ e' => Qi Xt rfl rfl (m16.ext e').h1 (Qu _ _ 0 Ya)) <| Gf m16 fun w18 m18 => Qd (Xx rfl rfl) <| Qd (Xr 0 0 Gj Ze s1) <| Vs m18 (Zi (f := u32) (l' := [(a + b) + (Q8 (b ^^^ (c + (Q8 (d ^^^ (a + b)) (16 : Int)))) (12 : Int)), Q8 (b ^^^ (c + (Q8 (d ^^^ (a + b)) (16 : Int)))) (12 : Int), c + (Q8 (d ^^^ (a + b)) (16 : Int)), Q8 (d ^^^ (a + b)) (16 : Int)]) rfl Xb Ze rfl rfl m18.h1 Ya (.inl (aJ _))) fun w19 m19 => rN <| Xi (dl 10) 10 Xv <| Uh rfl s7 <| Uh rfl s7 <| X4 rfl (Xr 3 3 Gj Ze s1) <| Yj (v := (u32 (Q8 (d ^^^ (a + b)) (16 : Int)))) rfl (fun _ e' => Qi Xt rfl rfl (m19.ext e').h1 (Qu _ _ 0 Ya)) <| Uh rfl s5 <| X4 rfl (Xr 0 0 Gj Ze s1) <| Yj (v := (u32 ((a + b) + (Q8 (b ^^^ (c + (Q8 (d ^^^ (a + b)) (16 : Int)))) (12 : Int))))) rfl (fun _ e' => Qi Xt rfl rfl (m19.ext e').h1 (Qu _ _ 0 Ya)) <| X4 rfl (Jm rfl rfl) <| Uh rfl s4 <| Wy (v := (u32 (Q8 ((Q8 (d ^^^ (a + b)) (16 : Int)) ^^^ ((a + b) + (Q8 (b ^^^ (c + (Q8 (d ^^^ (a + b)) (16 : Int)))) (12 : Int)))) (8 : Int)))) rfl rfl (fun w20 e20 => Vf.mono (Qa4 (Xl rfl rfl) (Em ((Q8 (d ^^^ (a + b)) (16 : Int)) ^^^ ((a + b) + (Q8 (b ^^^ (c + (Q8 (d ^^^ (a + b)) (16 : Int)))) (12 : Int)))) _ _)) (by rintro _ w21 ⟨rfl, rfl⟩; exact ⟨rfl, Ext.refl _⟩)) ?_
 refine Gf m19 fun w23 m23 => Qd (Xr 3 3 Gj Ze s1) <| Vs m23 (Zi (f := u32) (l' := [(a + b) + (Q8 (b ^^^ (c + (Q8 (d ^^^ (a + b)) (16 : Int)))) (12 : Int)), Q8 (b ^^^ (c + (Q8 (d ^^^ (a + b)) (16 : Int)))) (12 : Int), c + (Q8 (d ^^^ (a + b)) (16 : Int)), Q8 ((Q8 (d ^^^ (a + b)) (16 : Int)) ^^^ ((a + b) + (Q8 (b ^^^ (c + (Q8 (d ^^^ (a + b)) (16 : Int)))) (12 : Int)))) (8 : Int)]) rfl Xb Ze rfl rfl m23.h1 Ya (.inl (aJ _))) fun w24 m24 => ?_
 refine Zp (Qe (Qb ?_))
 refine Qd (v := (i64 3)) (Zg (a := 2) (b := 1) s9 rfl oM oM) <| Zm (i64 3) ?_
 refine rN (Zq (sR ?_))
 refine Qd (Jc 3 4) ?_
 refine rN (Qa ?_)
 refine Za rfl Yx ?_
 refine Qo (Qc (Qa (Qh (sR ?_))))
 refine Zm (i64 3) <| Qd (v := (i64 7)) (Jt (i := 3) Hm Fa rfl Uw s8 rfl oM sD (Qu _ _ 0 Ya)) <| Zx (i64 3) <| Zx (i64 7) ?_
 refine rN (sR ?_)
 refine Zx (i64 0) <| Zx (i64 1) <| Zx (i64 3) ?_
 refine rN (Qa (sR ?_))
 refine Zm (i64 3) <| Qd (v := (i64 1)) (Wp (a := 3) (b := 2) rfl rfl oM oM oM) <| Qd (x_eql 1 1) <| rN <| Za rfl Yx <| Qb <| Zx (i64 2) <| Zx (i64 3) <| Zx (i64 1) ?_
 refine rN (Qa ?_)
 refine Xi (dl 6) 6 Xv <| J7 rfl (i64 2) <| X4 rfl (Xr 2 2 Gj Ze s1) <| Yj (v := (u32 (c + (Q8 (d ^^^ (a + b)) (16 : Int))))) rfl (fun _ e' => Qi Xt rfl rfl (m24.ext e').h1 (Qu _ _ 0 Ya)) <| J7 rfl (i64 3) <| X4 rfl (Xr 3 3 Gj Ze s1) <| Yj (v := (u32 (Q8 ((Q8 (d ^^^ (a + b)) (16 : Int)) ^^^ ((a + b) + (Q8 (b ^^^ (c + (Q8 (d ^^^ (a + b)) (16 : Int)))) (12 : Int)))) (8 : Int)))) rfl (fun _ e' => Qi Xt rfl rfl (m24.ext e').h1 (Qu _ _ 0 Ya)) <| Gf m24 fun w25 m25 => Qd (Xx rfl rfl) <| Qd (Xr 2 2 Gj Ze s1) <| Vs m25 (Zi (f := u32) (l' := [(a + b) + (Q8 (b ^^^ (c + (Q8 (d ^^^ (a + b)) (16 : Int)))) (12 : Int)), Q8 (b ^^^ (c + (Q8 (d ^^^ (a + b)) (16 : Int)))) (12 : Int), (c + (Q8 (d ^^^ (a + b)) (16 : Int))) + (Q8 ((Q8 (d ^^^ (a + b)) (16 : Int)) ^^^ ((a + b) + (Q8 (b ^^^ (c + (Q8 (d ^^^ (a + b)) (16 : Int)))) (12 : Int)))) (8 : Int)), Q8 ((Q8 (d ^^^ (a + b)) (16 : Int)) ^^^ ((a + b) + (Q8 (b ^^^ (c + (Q8 (d ^^^ (a + b)) (16 : Int)))) (12 : Int)))) (8 : Int)]) rfl Xb Ze rfl rfl m25.h1 Ya (.inl (aJ _))) fun w26 m26 => rN <| Xi (dl 10) 10 Xv <| J7 rfl (i64 1) <| J7 rfl (i64 1) <| X4 rfl (Xr 1 1 Gj Ze s1) <| Yj (v := (u32 (Q8 (b ^^^ (c + (Q8 (d ^^^ (a + b)) (16 : Int)))) (12 : Int)))) rfl (fun _ e' => Qi Xt rfl rfl (m26.ext e').h1 (Qu _ _ 0 Ya)) <| J7 rfl (i64 2) <| X4 rfl (Xr 2 2 Gj Ze s1) <| Yj (v := (u32 ((c + (Q8 (d ^^^ (a + b)) (16 : Int))) + (Q8 ((Q8 (d ^^^ (a + b)) (16 : Int)) ^^^ ((a + b) + (Q8 (b ^^^ (c + (Q8 (d ^^^ (a + b)) (16 : Int)))) (12 : Int)))) (8 : Int))))) rfl (fun _ e' => Qi Xt rfl rfl (m26.ext e').h1 (Qu _ _ 0 Ya)) <| X4 rfl (Jm rfl rfl) <| J7 rfl (i64 7) <| Wy (v := (u32 (Q8 ((Q8 (b ^^^ (c + (Q8 (d ^^^ (a + b)) (16 : Int)))) (12 : Int)) ^^^ ((c + (Q8 (d ^^^ (a + b)) (16 : Int))) + (Q8 ((Q8 (d ^^^ (a + b)) (16 : Int)) ^^^ ((a + b) + (Q8 (b ^^^ (c + (Q8 (d ^^^ (a + b)) (16 : Int)))) (12 : Int)))) (8 : Int)))) (7 : Int)))) rfl rfl (fun w27 e27 => Vf.mono (Qa4 (Xl rfl rfl) (Em ((Q8 (b ^^^ (c + (Q8 (d ^^^ (a + b)) (16 : Int)))) (12 : Int)) ^^^ ((c + (Q8 (d ^^^ (a + b)) (16 : Int))) + (Q8 ((Q8 (d ^^^ (a + b)) (16 : Int)) ^^^ ((a + b) + (Q8 (b ^^^ (c + (Q8 (d ^^^ (a + b)) (16 : Int)))) (12 : Int)))) (8 : Int)))) _ _)) (by rintro _ w28 ⟨rfl, rfl⟩; exact ⟨rfl, Ext.refl _⟩)) ?_
 refine Gf m26 fun w30 m30 => Qd (Xr 1 1 Gj Ze s1) <| Vs m30 (Zi (f := u32) (l' := [(a + b) + (Q8 (b ^^^ (c + (Q8 (d ^^^ (a + b)) (16 : Int)))) (12 : Int)), Q8 ((Q8 (b ^^^ (c + (Q8 (d ^^^ (a + b)) (16 : Int)))) (12 : Int)) ^^^ ((c + (Q8 (d ^^^ (a + b)) (16 : Int))) + (Q8 ((Q8 (d ^^^ (a + b)) (16 : Int)) ^^^ ((a + b) + (Q8 (b ^^^ (c + (Q8 (d ^^^ (a + b)) (16 : Int)))) (12 : Int)))) (8 : Int)))) (7 : Int), (c + (Q8 (d ^^^ (a + b)) (16 : Int))) + (Q8 ((Q8 (d ^^^ (a + b)) (16 : Int)) ^^^ ((a + b) + (Q8 (b ^^^ (c + (Q8 (d ^^^ (a + b)) (16 : Int)))) (12 : Int)))) (8 : Int)), Q8 ((Q8 (d ^^^ (a + b)) (16 : Int)) ^^^ ((a + b) + (Q8 (b ^^^ (c + (Q8 (d ^^^ (a + b)) (16 : Int)))) (12 : Int)))) (8 : Int)]) rfl Xb Ze rfl rfl m30.h1 Ya (.inl (aJ _))) fun w31 m31 => ?_
 refine Zp (Qe (Qb ?_))
 refine Qd (v := (i64 4)) (Yk 3 1) <| Zm (i64 4) ?_
 refine rN (Zq (sR ?_))
 refine Qd (Jc 4 4) ?_
 refine rN (Qa ?_)
 refine Ja rfl Yx <| X3 ?_
 refine Qj (Qj (Xk ?_))
 refine sR <| Qd (Qn Gj rfl Qbm s1 m31.h1 sZ) <| Ye m31 (Qg (f := u32) (l := [(a + b) + (Q8 (b ^^^ (c + (Q8 (d ^^^ (a + b)) (16 : Int)))) (12 : Int)), Q8 ((Q8 (b ^^^ (c + (Q8 (d ^^^ (a + b)) (16 : Int)))) (12 : Int)) ^^^ ((c + (Q8 (d ^^^ (a + b)) (16 : Int))) + (Q8 ((Q8 (d ^^^ (a + b)) (16 : Int)) ^^^ ((a + b) + (Q8 (b ^^^ (c + (Q8 (d ^^^ (a + b)) (16 : Int)))) (12 : Int)))) (8 : Int)))) (7 : Int), (c + (Q8 (d ^^^ (a + b)) (16 : Int))) + (Q8 ((Q8 (d ^^^ (a + b)) (16 : Int)) ^^^ ((a + b) + (Q8 (b ^^^ (c + (Q8 (d ^^^ (a + b)) (16 : Int)))) (12 : Int)))) (8 : Int)), Q8 ((Q8 (d ^^^ (a + b)) (16 : Int)) ^^^ ((a + b) + (Q8 (b ^^^ (c + (Q8 (d ^^^ (a + b)) (16 : Int)))) (12 : Int)))) (8 : Int)]) Xb Qbm s2 rfl sD m31.h0 sZ rfl) fun w32 m32 => ?_
 refine rN (Z8 ?_)
 refine Qq [(agg u32 ([(a + b) + (Q8 (b ^^^ (c + (Q8 (d ^^^ (a + b)) (16 : Int)))) (12 : Int)), Q8 ((Q8 (b ^^^ (c + (Q8 (d ^^^ (a + b)) (16 : Int)))) (12 : Int)) ^^^ ((c + (Q8 (d ^^^ (a + b)) (16 : Int))) + (Q8 ((Q8 (d ^^^ (a + b)) (16 : Int)) ^^^ ((a + b) + (Q8 (b ^^^ (c + (Q8 (d ^^^ (a + b)) (16 : Int)))) (12 : Int)))) (8 : Int)))) (7 : Int), (c + (Q8 (d ^^^ (a + b)) (16 : Int))) + (Q8 ((Q8 (d ^^^ (a + b)) (16 : Int)) ^^^ ((a + b) + (Q8 (b ^^^ (c + (Q8 (d ^^^ (a + b)) (16 : Int)))) (12 : Int)))) (8 : Int)), Q8 ((Q8 (d ^^^ (a + b)) (16 : Int)) ^^^ ((a + b) + (Q8 (b ^^^ (c + (Q8 (d ^^^ (a + b)) (16 : Int)))) (12 : Int)))) (8 : Int)]))] ⟨⟨_, s2, Xm Gj rfl Qbm m32.h0 sZ⟩, trivial⟩ ?_
 exact ⟨rfl, m32.toExt⟩
theorem Qrp (a b c d : BitVec 32) (w0 : World)   : Xz prog 109 #[(agg u32 ([a, b, c, d]))] w0 (fun r w1 => r = (agg u32 (Kr Y0 a b c d)) ∧ Ext w0 w1) := by
 refine Qz (args := [(agg u32 ([a, b, c, d]))]) func109 rfl ntmps109 results109 rfl ?_
 have m0 : Mem w0 (Qs w0) [] := aY w0
 refine sR <| Y5 (Z5 (f := u32) (l := [a, b, c, d]) m0 rfl) fun w1 b1 m1 => Y5 (Q7 m1 Qbm) fun w2 b2 m2 => ?_
 refine rN (Qa ?_)
 refine Xi (dl 11) 11 Xv <| X4 rfl (Xr 0 0 Gj Ze rfl) <| Yj (v := (u32 a)) rfl (fun _ e' => Qi Xt rfl rfl (m2.ext e').h1 (Qu _ _ 0 Ya)) <| X4 rfl (Xr 1 1 Gj Ze rfl) <| Yj (v := (u32 b)) rfl (fun _ e' => Qi Xt rfl rfl (m2.ext e').h1 (Qu _ _ 0 Ya)) <| X4 rfl (Xr 2 2 Gj Ze rfl) <| Yj (v := (u32 c)) rfl (fun _ e' => Qi Xt rfl rfl (m2.ext e').h1 (Qu _ _ 0 Ya)) <| X4 rfl (Xr 3 3 Gj Ze rfl) <| Yj (v := (u32 d)) rfl (fun _ e' => Qi Xt rfl rfl (m2.ext e').h1 (Qu _ _ 0 Ya)) <| X4 rfl (Un (v := (u32 a)) rfl) <| X4 rfl (Un (v := (u32 b)) rfl) <| X4 rfl (Un (v := (u32 c)) rfl) ?_
 refine Gf m2 fun w3 m3 => Zx (u32 d) ?_
 refine rN (sR ?_)
 refine Zm (u32 a) <| Zm (u32 b) <| Qd (Xx rfl rfl) <| Zx (u32 (a + b)) ?_
 refine rN (sR ?_)
 refine Zm (u32 d) <| Zm (u32 (a + b)) <| Qd (Jm rfl rfl) <| U5 m3 (oc115 (Xl rfl rfl) (Qi8 (d ^^^ (a + b)) _ _ sD sD)) fun w4 m4 => Zx (u32 (Y0 (d ^^^ (a + b)) (16 : Int))) ?_
 refine rN (sR ?_)
 refine Zm (u32 c) <| Zm (u32 (Y0 (d ^^^ (a + b)) (16 : Int))) <| Qd (Xx rfl rfl) <| Zx (u32 (c + (Y0 (d ^^^ (a + b)) (16 : Int)))) ?_
 refine rN (sR ?_)
 refine Zm (u32 b) <| Zm (u32 (c + (Y0 (d ^^^ (a + b)) (16 : Int)))) <| Qd (Jm rfl rfl) <| U5 m4 (oc115 (Xl rfl rfl) (Qi8 (b ^^^ (c + (Y0 (d ^^^ (a + b)) (16 : Int)))) _ _ sD sD)) fun w6 m6 => Zx (u32 (Y0 (b ^^^ (c + (Y0 (d ^^^ (a + b)) (16 : Int)))) (12 : Int))) ?_
 refine rN (sR ?_)
 refine Zm (u32 (a + b)) <| Zm (u32 (Y0 (b ^^^ (c + (Y0 (d ^^^ (a + b)) (16 : Int)))) (12 : Int))) <| Qd (Xx rfl rfl) <| Tc rfl ?_
 refine rN (sR ?_)
 refine Zm (u32 (Y0 (d ^^^ (a + b)) (16 : Int))) <| X9 rfl <| Qd (Jm rfl rfl) <| U5 m6 (oc115 (Xl rfl rfl) (Qi8 ((Y0 (d ^^^ (a + b)) (16 : Int)) ^^^ ((a + b) + (Y0 (b ^^^ (c + (Y0 (d ^^^ (a + b)) (16 : Int)))) (12 : Int)))) _ _ sD sD)) fun w8 m8 => Tc rfl ?_
 refine rN (sR ?_)
 refine Zm (u32 (c + (Y0 (d ^^^ (a + b)) (16 : Int)))) <| X9 rfl <| Qd (Xx rfl rfl) <| Tc rfl ?_
 refine rN (sR ?_)
 refine Zm (u32 (Y0 (b ^^^ (c + (Y0 (d ^^^ (a + b)) (16 : Int)))) (12 : Int))) <| X9 rfl <| Qd (Jm rfl rfl) <| U5 m8 (oc115 (Xl rfl rfl) (Qi8 ((Y0 (b ^^^ (c + (Y0 (d ^^^ (a + b)) (16 : Int)))) (12 : Int)) ^^^ ((c + (Y0 (d ^^^ (a + b)) (16 : Int))) + (Y0 ((Y0 (d ^^^ (a + b)) (16 : Int)) ^^^ ((a + b) + (Y0 (b ^^^ (c + (Y0 (d ^^^ (a + b)) (16 : Int)))) (12 : Int)))) (8 : Int)))) _ _ sD sD)) fun w10 m10 => Tc rfl ?_
 refine rN (sR ?_)
 refine X9 rfl <| X9 rfl <| X9 rfl <| X9 rfl <| Qd (V9 u32 [(a + b) + (Y0 (b ^^^ (c + (Y0 (d ^^^ (a + b)) (16 : Int)))) (12 : Int)), Y0 ((Y0 (b ^^^ (c + (Y0 (d ^^^ (a + b)) (16 : Int)))) (12 : Int)) ^^^ ((c + (Y0 (d ^^^ (a + b)) (16 : Int))) + (Y0 ((Y0 (d ^^^ (a + b)) (16 : Int)) ^^^ ((a + b) + (Y0 (b ^^^ (c + (Y0 (d ^^^ (a + b)) (16 : Int)))) (12 : Int)))) (8 : Int)))) (7 : Int), (c + (Y0 (d ^^^ (a + b)) (16 : Int))) + (Y0 ((Y0 (d ^^^ (a + b)) (16 : Int)) ^^^ ((a + b) + (Y0 (b ^^^ (c + (Y0 (d ^^^ (a + b)) (16 : Int)))) (12 : Int)))) (8 : Int)), Y0 ((Y0 (d ^^^ (a + b)) (16 : Int)) ^^^ ((a + b) + (Y0 (b ^^^ (c + (Y0 (d ^^^ (a + b)) (16 : Int)))) (12 : Int)))) (8 : Int)] Xb Qbm Gj Ze rfl rfl) <| Ye m10 (Qg (f := u32) (l := [(a + b) + (Y0 (b ^^^ (c + (Y0 (d ^^^ (a + b)) (16 : Int)))) (12 : Int)), Y0 ((Y0 (b ^^^ (c + (Y0 (d ^^^ (a + b)) (16 : Int)))) (12 : Int)) ^^^ ((c + (Y0 (d ^^^ (a + b)) (16 : Int))) + (Y0 ((Y0 (d ^^^ (a + b)) (16 : Int)) ^^^ ((a + b) + (Y0 (b ^^^ (c + (Y0 (d ^^^ (a + b)) (16 : Int)))) (12 : Int)))) (8 : Int)))) (7 : Int), (c + (Y0 (d ^^^ (a + b)) (16 : Int))) + (Y0 ((Y0 (d ^^^ (a + b)) (16 : Int)) ^^^ ((a + b) + (Y0 (b ^^^ (c + (Y0 (d ^^^ (a + b)) (16 : Int)))) (12 : Int)))) (8 : Int)), Y0 ((Y0 (d ^^^ (a + b)) (16 : Int)) ^^^ ((a + b) + (Y0 (b ^^^ (c + (Y0 (d ^^^ (a + b)) (16 : Int)))) (12 : Int)))) (8 : Int)]) Xb Qbm rfl rfl sD m10.h0 sZ rfl) fun w12 m12 => ?_
 refine rN (Z8 ?_)
 refine Qq [(agg u32 ([(a + b) + (Y0 (b ^^^ (c + (Y0 (d ^^^ (a + b)) (16 : Int)))) (12 : Int)), Y0 ((Y0 (b ^^^ (c + (Y0 (d ^^^ (a + b)) (16 : Int)))) (12 : Int)) ^^^ ((c + (Y0 (d ^^^ (a + b)) (16 : Int))) + (Y0 ((Y0 (d ^^^ (a + b)) (16 : Int)) ^^^ ((a + b) + (Y0 (b ^^^ (c + (Y0 (d ^^^ (a + b)) (16 : Int)))) (12 : Int)))) (8 : Int)))) (7 : Int), (c + (Y0 (d ^^^ (a + b)) (16 : Int))) + (Y0 ((Y0 (d ^^^ (a + b)) (16 : Int)) ^^^ ((a + b) + (Y0 (b ^^^ (c + (Y0 (d ^^^ (a + b)) (16 : Int)))) (12 : Int)))) (8 : Int)), Y0 ((Y0 (d ^^^ (a + b)) (16 : Int)) ^^^ ((a + b) + (Y0 (b ^^^ (c + (Y0 (d ^^^ (a + b)) (16 : Int)))) (12 : Int)))) (8 : Int)]))] ⟨⟨_, rfl, Xm Gj rfl Qbm m12.h0 sZ⟩, trivial⟩ ?_
 exact ⟨rfl, m12.toExt⟩
theorem Qat (v : Value) (l : Z4) (w0 : World)  (hr : Rd (Jd w0) u8 v l) (hl : 4 ≤ l.length) : Xz prog 113 #[v] w0 (fun r w1 => r = (u32 (Xa l)) ∧ Ext w0 w1) := by
 refine Qz (args := [v]) func113 rfl ntmps113 results113 rfl ?_
 have m0 : Mem w0 (Qs w0) [] := aY w0
 obtain ⟨a, b, c, d, r, rfl⟩ := list4r l hl
 refine sR <| Zx (u32 0#32) ?_
 refine rN (Qa (sR ?_))
 refine Zm v <| Qd (Y8 (i := 0) (j := 4) (hr.ext m0.toExt) Zn Yr rfl (Zd _ _) (Yb (k := .i64) (i := 4) rfl) oM oM (by simp only [au]; omega)) <| Qd (Yi (l := [a, b, c, d]) (bC (l' := [a, b, c, d]) (bf (hr.ext m0.toExt) oM oM (by simp only [au]; omega)) rfl) Zn rfl) <| Zm (i64 0) ?_
 refine rN (Qh ?_)
 refine Vk 5 ?_
 refine Zq (sR ?_)
 refine Qd (Jc 0 4) ?_
 refine rN (Qa ?_)
 refine Za rfl Yx ?_
 refine Qo (Qc (Qa (Qh (sR ?_))))
 refine Zm (i64 0) <| Qd (Zo (i := 0) (bC (l' := [a, b, c, d]) (bf (hr.ext m0.toExt) oM oM (by simp only [au]; omega)) rfl) Zn Yr rfl rfl oM Ya) <| Qd (v := (u8 a)) (Xy (l := [a, b, c, d]) (i := 0) (dflt := 0) (bC (l' := [a, b, c, d]) (bf (hr.ext m0.toExt) oM oM (by simp only [au]; omega)) rfl) V3 rfl oM Ya rfl) <| Zx (i64 0) <| Zx (u8 a) ?_
 refine rN (Qb ?_)
 refine Zm (u32 0#32) <| Zm (u8 a) <| Qd (Kt ⟨_, V3⟩ Xt rfl) <| Zm (i64 0) <| Qd (v := (i64 0)) (Vw 8 0) <| Qd (Fh (b := 0) rfl rfl oM) <| Qd (Dv (a := 0#32) rfl rfl) <| Zx (u32 (0#32 ||| ((a.setWidth 32) <<< 0))) ?_
 refine Zp (Qe (Qb ?_))
 refine Qd (v := (i64 1)) (Yk 0 1) <| Zm (i64 1) ?_
 refine rN (Zq (sR ?_))
 refine Qd (Jc 1 4) ?_
 refine rN (Qa ?_)
 refine Za rfl Yx ?_
 refine Qo (Qc (Qa (Qh (sR ?_))))
 refine Zm (i64 1) <| Qd (Zo (i := 1) (bC (l' := [a, b, c, d]) (bf (hr.ext m0.toExt) oM oM (by simp only [au]; omega)) rfl) Zn Yr rfl rfl oM Ya) <| Qd (v := (u8 b)) (Xy (l := [a, b, c, d]) (i := 1) (dflt := 0) (bC (l' := [a, b, c, d]) (bf (hr.ext m0.toExt) oM oM (by simp only [au]; omega)) rfl) V3 rfl oM Ya rfl) <| Zx (i64 1) <| Zx (u8 b) ?_
 refine rN (Qb ?_)
 refine Zm (u32 (0#32 ||| ((a.setWidth 32) <<< 0))) <| Zm (u8 b) <| Qd (Kt ⟨_, V3⟩ Xt rfl) <| Zm (i64 1) <| Qd (v := (i64 8)) (Vw 8 1) <| Qd (Fh (b := 8) rfl rfl oM) <| Qd (Dv rfl rfl) <| Zx (u32 ((0#32 ||| ((a.setWidth 32) <<< 0)) ||| ((b.setWidth 32) <<< 8))) ?_
 refine Zp (Qe (Qb ?_))
 refine Qd (v := (i64 2)) (Yk 1 1) <| Zm (i64 2) ?_
 refine rN (Zq (sR ?_))
 refine Qd (Jc 2 4) ?_
 refine rN (Qa ?_)
 refine Za rfl Yx ?_
 refine Qo (Qc (Qa (Qh (sR ?_))))
 refine Zm (i64 2) <| Qd (Zo (i := 2) (bC (l' := [a, b, c, d]) (bf (hr.ext m0.toExt) oM oM (by simp only [au]; omega)) rfl) Zn Yr rfl rfl oM Ya) <| Qd (v := (u8 c)) (Xy (l := [a, b, c, d]) (i := 2) (dflt := 0) (bC (l' := [a, b, c, d]) (bf (hr.ext m0.toExt) oM oM (by simp only [au]; omega)) rfl) V3 rfl oM Ya rfl) <| Zx (i64 2) <| Zx (u8 c) ?_
 refine rN (Qb ?_)
 refine Zm (u32 ((0#32 ||| ((a.setWidth 32) <<< 0)) ||| ((b.setWidth 32) <<< 8))) <| Zm (u8 c) <| Qd (Kt ⟨_, V3⟩ Xt rfl) <| Zm (i64 2) <| Qd (v := (i64 16)) (Vw 8 2) <| Qd (Fh (b := 16) rfl rfl oM) <| Qd (Dv rfl rfl) <| Tc rfl ?_
 refine Zp (Qe (Qb ?_))
 refine Qd (v := (i64 3)) (Yk 2 1) <| Zm (i64 3) ?_
 refine rN (Zq (sR ?_))
 refine Qd (Jc 3 4) ?_
 refine rN (Qa ?_)
 refine Za rfl Yx ?_
 refine Qo (Qc (Qa (Qh (sR ?_))))
 refine Zm (i64 3) <| Qd (Zo (i := 3) (bC (l' := [a, b, c, d]) (bf (hr.ext m0.toExt) oM oM (by simp only [au]; omega)) rfl) Zn Yr rfl rfl oM Ya) <| Qd (v := (u8 d)) (Xy (l := [a, b, c, d]) (i := 3) (dflt := 0) (bC (l' := [a, b, c, d]) (bf (hr.ext m0.toExt) oM oM (by simp only [au]; omega)) rfl) V3 rfl oM Ya rfl) <| Zx (i64 3) <| Zx (u8 d) ?_
 refine rN (Qb ?_)
 refine X9 rfl <| Zm (u8 d) <| Qd (Kt ⟨_, V3⟩ Xt rfl) <| Zm (i64 3) <| Qd (v := (i64 24)) (Vw 8 3) <| Qd (Fh (b := 24) rfl rfl oM) <| Qd (Dv rfl rfl) <| Tc rfl ?_
 refine Zp (Qe (Qb ?_))
 refine Qd (v := (i64 4)) (Yk 3 1) <| Zm (i64 4) ?_
 refine rN (Zq (sR ?_))
 refine Qd (Jc 4 4) ?_
 refine rN (Qa ?_)
 refine Ja rfl Yx <| X3 ?_
 refine Qj (Qj (Xk ?_))
 refine sR <| X9 rfl <| Tc rfl ?_
 refine rN (Z8 ?_)
 refine Qq [(u32 ((((0#32 ||| ((a.setWidth 32) <<< 0)) ||| ((b.setWidth 32) <<< 8)) ||| ((c.setWidth 32) <<< 16)) ||| ((d.setWidth 32) <<< 24)))] ⟨rfl, trivial⟩ ?_
 exact ⟨rfl, m0.toExt⟩
theorem Qsu (v : Value) (l : Z4) (w0 : World)  (hr : Rd (Jd w0) u8 v l) (hl : 4 ≤ l.length) : Xz prog 107 #[v] w0 (fun r w1 => r = (u32 (Yl l)) ∧ Ext w0 w1) := by
 refine Qz (args := [v]) func107 rfl ntmps107 results107 rfl ?_
 have m0 : Mem w0 (Qs w0) [] := aY w0
 refine sR <| Zx (u32 0#32) ?_
 refine rN (Qa ?_)
 refine Xi (dl 21) 21 Xv <| J7 rfl v <| Yj rfl (fun _ e' => Zo (i := 0) (aK hr (m0.ext e')) Zn Yr rfl rfl oM sD) <| Yj (v := (u8 (l.getD 0 0))) rfl (fun _ e' => Xy (l := l) (i := 0) (dflt := 0) (aK hr (m0.ext e')) V3 rfl oM sD rfl) <| X4 rfl (Kt ⟨_, V3⟩ Xt rfl) <| J7 rfl v <| Yj rfl (fun _ e' => Zo (i := 1) (aK hr (m0.ext e')) Zn Yr rfl rfl oM sD) <| Yj (v := (u8 (l.getD 1 0))) rfl (fun _ e' => Xy (l := l) (i := 1) (dflt := 0) (aK hr (m0.ext e')) V3 rfl oM sD rfl) <| X4 rfl (Kt ⟨_, V3⟩ Xt rfl) <| X4 rfl (Ls (b := 256#32) rfl rfl) <| X4 rfl (Xx rfl rfl) <| J7 rfl v ?_
 refine Yj rfl (fun _ e' => Zo (i := 2) (aK hr (m0.ext e')) Zn Yr rfl rfl oM sD) <| Yj (v := (u8 (l.getD 2 0))) rfl (fun _ e' => Xy (l := l) (i := 2) (dflt := 0) (aK hr (m0.ext e')) V3 rfl oM sD rfl) <| X4 rfl (Kt ⟨_, V3⟩ Xt rfl) <| X4 rfl (Ls (b := 65536#32) rfl rfl) <| X4 rfl (Xx rfl rfl) <| J7 rfl v <| Yj rfl (fun _ e' => Zo (i := 3) (aK hr (m0.ext e')) Zn Yr rfl rfl oM sD) <| Yj (v := (u8 (l.getD 3 0))) rfl (fun _ e' => Xy (l := l) (i := 3) (dflt := 0) (aK hr (m0.ext e')) V3 rfl oM sD rfl) <| X4 rfl (Kt ⟨_, V3⟩ Xt rfl) <| X4 rfl (Ls (b := 16777216#32) rfl rfl) <| Gf m0 fun w1 m1 => Qd (Xx rfl rfl) <| Tc rfl ?_
 refine rN (Z8 ?_)
 refine Qq [(u32 (((((l.getD 0 0).setWidth 32) + (((l.getD 1 0).setWidth 32) * 256#32)) + (((l.getD 2 0).setWidth 32) * 65536#32)) + (((l.getD 3 0).setWidth 32) * 16777216#32)))] ⟨rfl, trivial⟩ ?_
 exact ⟨rfl, m1.toExt⟩
theorem Aj (bs : Nat) (s : List (BitVec 32)) (i0 i1 i2 i3 : Int) (w0 : World) (R : Rest) (m0 : Mem w0 R [(bs, .cells (cl u32 s) 156 (0, 0))]) (hl : s.length = 16) (h0 : 0 ≤ i0 ∧ i0 < 16) (h1 : 0 ≤ i1 ∧ i1 < 16) (h2 : 0 ≤ i2 ∧ i2 < 16) (h3 : 0 ≤ i3 ∧ i3 < 16) : Xz prog 104 #[(ptr bs 0), (agg i64 ([i0, i1, i2, i3]))] w0 (fun r w1 => r = .tuple #[] ∧ Mem w1 R [(bs, .cells (cl u32 (Aw s i0.toNat i1.toNat i2.toNat i3.toNat)) 156 (0, 0))]) := by
 refine Qz (args := [(ptr bs 0), (agg i64 ([i0, i1, i2, i3]))]) func104 rfl ntmps104 results104 rfl <| sR <| Y5 (Z5 (f := i64) (l := [i0, i1, i2, i3]) m0 rfl) fun w1 b3 m1 => ?_
 refine rN (sR ?_)
 refine Y5 (Q7 m1 Qbm) fun w2 b4 m2 => ?_
 refine rN (Qa (sR ?_))
 refine Qd (Qn Hm rfl Qen rfl m2.h1 sZ) <| Zm (i64 0) ?_
 refine rN (Qh ?_)
 refine Vk 5 ?_
 refine Zq (sR ?_)
 refine Qd (Jc 0 4) ?_
 refine rN (Qa ?_)
 refine Za rfl Yx ?_
 refine Qo (Qc (Qa (Qh (sR ?_))))
 refine Zm (i64 0) <| Qd (v := (i64 i0)) (Jt (i := 0) Hm Fa rfl Uw rfl rfl oM sD (Qu _ _ 0 Ya)) <| Zx (i64 0) <| Zx (i64 i0) ?_
 refine rN (Qb ?_)
 refine Zm (i64 0) <| Zm (ptr bs 0) <| Zm (i64 i0) <| Qd (Zc rfl) <| Qd (Zj (r := (i0 : Int).toNat) oM D6 Ze rfl rfl oM sD) <| Qd (v := (u32 (s.getD ((i0 : Int).toNat) 0))) (Qi Xt rfl rfl m2.h2 (Qu _ _ 0 sD)) <| Qd (Xr 0 0 Gj Ze rfl) <| Ye m2 (Zi (f := u32) (l' := [s.getD ((i0 : Int).toNat) 0, 0, 0, 0]) rfl Xb Ze rfl rfl m2.h0 Ya (.inl (aJ _))) fun w3 m3 => ?_
 refine Zp (Qe (Qb ?_))
 refine Qd (v := (i64 1)) (Yk 0 1) <| Zm (i64 1) ?_
 refine rN (Zq (sR ?_))
 refine Qd (Jc 1 4) ?_
 refine rN (Qa ?_)
 refine Za rfl Yx ?_
 refine Qo (Qc (Qa (Qh (sR ?_))))
 refine Zm (i64 1) <| Qd (v := (i64 i1)) (Jt (i := 1) Hm Fa rfl Uw rfl rfl oM sD (Qu _ _ 0 Ya)) <| Zx (i64 1) <| Zx (i64 i1) ?_
 refine rN (Qb ?_)
 refine Zm (i64 1) <| Zm (ptr bs 0) <| Zm (i64 i1) <| Qd (Zc rfl) <| Qd (Zj (r := (i1 : Int).toNat) oM D6 Ze rfl rfl oM sD) <| Qd (v := (u32 (s.getD ((i1 : Int).toNat) 0))) (Qi Xt rfl rfl m3.h2 (Qu _ _ 0 sD)) <| Qd (Xr 1 1 Gj Ze rfl) <| Ye m3 (Zi (f := u32) (l' := [s.getD ((i0 : Int).toNat) 0, s.getD ((i1 : Int).toNat) 0, 0, 0]) rfl Xb Ze rfl rfl m3.h0 Ya (.inl (aJ _))) fun w4 m4 => ?_
 refine Zp (Qe (Qb ?_))
 refine Qd (v := (i64 2)) (Yk 1 1) <| Zm (i64 2) ?_
 refine rN (Zq (sR ?_))
 refine Qd (Jc 2 4) ?_
 refine rN (Qa ?_)
 refine Za rfl Yx ?_
 refine Qo (Qc (Qa (Qh (sR ?_))))
 refine Zm (i64 2) <| Qd (v := (i64 i2)) (Jt (i := 2) Hm Fa rfl Uw rfl rfl oM sD (Qu _ _ 0 Ya)) <| Zx (i64 2) <| Zx (i64 i2) ?_
 refine rN (Qb ?_)
 refine Zm (i64 2) <| Zm (ptr bs 0) <| Zm (i64 i2) <| Qd (Zc rfl) <| Qd (Zj (r := (i2 : Int).toNat) oM D6 Ze rfl rfl oM sD) <| Qd (v := (u32 (s.getD ((i2 : Int).toNat) 0))) (Qi Xt rfl rfl m4.h2 (Qu _ _ 0 sD)) <| Qd (Xr 2 2 Gj Ze rfl) <| Ye m4 (Zi (f := u32) (l' := [s.getD ((i0 : Int).toNat) 0, s.getD ((i1 : Int).toNat) 0, s.getD ((i2 : Int).toNat) 0, 0]) rfl Xb Ze rfl rfl m4.h0 Ya (.inl (aJ _))) fun w5 m5 => ?_
 refine Zp (Qe (Qb ?_))
 refine Qd (v := (i64 3)) (Yk 2 1) <| Zm (i64 3) ?_
 refine rN (Zq (sR ?_))
 refine Qd (Jc 3 4) ?_
 refine rN (Qa ?_)
 refine Za rfl Yx ?_
 refine Qo (Qc (Qa (Qh (sR ?_))))
 refine Zm (i64 3) <| Qd (v := (i64 i3)) (Jt (i := 3) Hm Fa rfl Uw rfl rfl oM sD (Qu _ _ 0 Ya)) <| Zx (i64 3) <| Zx (i64 i3) ?_
 refine rN (Qb ?_)
 refine Zm (i64 3) <| Zm (ptr bs 0) <| Zm (i64 i3) <| Qd (Zc rfl) <| Qd (Zj (r := (i3 : Int).toNat) oM D6 Ze rfl rfl oM sD) <| Qd (v := (u32 (s.getD ((i3 : Int).toNat) 0))) (Qi Xt rfl rfl m5.h2 (Qu _ _ 0 sD)) <| Qd (Xr 3 3 Gj Ze rfl) <| Ye m5 (Zi (f := u32) (l' := [s.getD ((i0 : Int).toNat) 0, s.getD ((i1 : Int).toNat) 0, s.getD ((i2 : Int).toNat) 0, s.getD ((i3 : Int).toNat) 0]) rfl Xb Ze rfl rfl m5.h0 Ya (.inl (aJ _))) fun w6 m6 => ?_
 refine Zp (Qe (Qb ?_))
 refine Qd (v := (i64 4)) (Yk 3 1) <| Zm (i64 4) ?_
 refine rN (Zq (sR ?_))
 refine Qd (Jc 4 4) ?_
 refine rN (Qa ?_)
 refine Ja rfl Yx <| X3 ?_
 refine Qj (Qj (Xk ?_))
 refine sR <| Qd (Qn Gj rfl Qbm rfl m6.h0 sZ) <| U5 m6 (oc114 (Jz rfl) (Qus (s.getD ((i0 : Int).toNat) 0) (s.getD ((i1 : Int).toNat) 0) (s.getD ((i2 : Int).toNat) 0) (s.getD ((i3 : Int).toNat) 0) _)) fun w7 m7 => Zm (i64 0) ?_
 refine rN (Gh ?_)
 refine Vk 5 ?_
 refine Zq (sR ?_)
 refine Qd (Jc 0 4) ?_
 refine rN (Qa ?_)
 refine Za rfl Yx ?_
 refine Qo (Qc (Qa (Qh (sR ?_))))
 refine Zm (i64 0) <| Qd (v := (u32 ((Kr Q8 (s.getD ((i0 : Int).toNat) 0) (s.getD ((i1 : Int).toNat) 0) (s.getD ((i2 : Int).toNat) 0) (s.getD ((i3 : Int).toNat) 0)).getD 0 0))) (Jt (i := 0) Gj Xt rfl Ze rfl rfl oM sD (Qu _ _ 0 sD)) <| Zx (i64 0) <| Tc rfl <| rN <| Xi (dl 6) 6 Xv <| J7 rfl (ptr bs 0) <| J7 rfl (i64 0) <| X4 rfl (Xr 0 0 Hm Uw rfl) <| Yj (v := (i64 i0)) rfl (fun _ e' => Qi Fa rfl rfl (m7.ext e').h1 (Qu _ _ 0 Ya)) <| Uh rfl rfl <| X4 rfl (Zc rfl) ?_
 refine Gf m7 fun w8 m8 => Qd (Zj (r := (i0 : Int).toNat) oM D6 Ze rfl rfl oM sD) <| Bj m8 (Xw (f := u32) (a := (Kr Q8 (s.getD ((i0 : Int).toNat) 0) (s.getD ((i1 : Int).toNat) 0) (s.getD ((i2 : Int).toNat) 0) (s.getD ((i3 : Int).toNat) 0)).getD 0 0) Xb Ze rfl rfl m8.h2 sD (.inl (aJ _))) fun w9 m9 => ?_
 refine Zp (Qe (Qb ?_))
 refine Qd (v := (i64 1)) (Yk 0 1) <| Zm (i64 1) ?_
 refine rN (Zq (sR ?_))
 refine Qd (Jc 1 4) ?_
 refine rN (Qa ?_)
 refine Za rfl Yx ?_
 refine Qo (Qc (Qa (Qh (sR ?_))))
 refine Zm (i64 1) <| Qd (v := (u32 ((Kr Q8 (s.getD ((i0 : Int).toNat) 0) (s.getD ((i1 : Int).toNat) 0) (s.getD ((i2 : Int).toNat) 0) (s.getD ((i3 : Int).toNat) 0)).getD 1 0))) (Jt (i := 1) Gj Xt rfl Ze rfl rfl oM sD (Qu _ _ 0 sD)) <| Zx (i64 1) <| Tc rfl <| rN ?_
 refine CW.abs (fun g => g 0 = (ptr bs 0) ∧ g 1 = (agg i64 ([i0, i1, i2, i3])) ∧ g 3 = (ptr b3 0) ∧ g 4 = (ptr b4 0) ∧ g 5 = (i64 3) ∧ g 6 = (i64 i3) ∧ g 7 = (i64 1) ∧ g 8 = (u32 ((Kr Q8 (s.getD ((i0 : Int).toNat) 0) (s.getD ((i1 : Int).toNat) 0) (s.getD ((i2 : Int).toNat) 0) (s.getD ((i3 : Int).toNat) 0)).getD 1 0)) ∧ g 9 = (agg i64 ([i0, i1, i2, i3])) ∧ g 10 = (i64 4) ∧ g 11 = (bl false) ∧ g 23 = (agg u32 (Kr Q8 (s.getD ((i0 : Int).toNat) 0) (s.getD ((i1 : Int).toNat) 0) (s.getD ((i2 : Int).toNat) 0) (s.getD ((i3 : Int).toNat) 0))) ∧ g 24 = (i64 1) ∧ g 25 = (bl true) ∧ True) ⟨rfl, rfl, rfl, rfl, rfl, rfl, rfl, rfl, rfl, rfl, rfl, rfl, rfl, rfl, trivial⟩ ?_
 rintro fr10 ⟨s0, s1, s3, s4, s5, s6, s7, s8, s9, s10, s11, s23, s24, s25, _⟩
 refine Xi (dl 6) 6 Xv <| Uh rfl s0 <| Uh rfl s7 <| X4 rfl (Xr 1 1 Hm Uw s3) <| Yj (v := (i64 i1)) rfl (fun _ e' => Qi Fa rfl rfl (m9.ext e').h1 (Qu _ _ 0 Ya)) <| Uh rfl s8 <| X4 rfl (Zc rfl) <| Gf m9 fun w11 m11 => Qd (Zj (r := (i1 : Int).toNat) oM D6 Ze rfl rfl oM sD) <| Bj m11 (Xw (f := u32) (a := (Kr Q8 (s.getD ((i0 : Int).toNat) 0) (s.getD ((i1 : Int).toNat) 0) (s.getD ((i2 : Int).toNat) 0) (s.getD ((i3 : Int).toNat) 0)).getD 1 0) Xb Ze rfl rfl m11.h2 sD (.inl (aJ _))) fun w12 m12 => ?_
 refine Zp (Qe (Qb ?_))
 refine Qd (v := (i64 2)) (Zg (a := 1) (b := 1) s24 rfl oM oM) <| Zm (i64 2) ?_
 refine rN (Zq (sR ?_))
 refine Qd (Jc 2 4) ?_
 refine rN (Qa ?_)
 refine Za rfl Yx ?_
 refine Qo (Qc (Qa (Qh (sR ?_))))
 refine Zm (i64 2) <| Qd (v := (u32 ((Kr Q8 (s.getD ((i0 : Int).toNat) 0) (s.getD ((i1 : Int).toNat) 0) (s.getD ((i2 : Int).toNat) 0) (s.getD ((i3 : Int).toNat) 0)).getD 2 0))) (Jt (i := 2) Gj Xt rfl Ze s23 rfl oM sD (Qu _ _ 0 sD)) <| Zx (i64 2) <| Tc rfl <| rN <| Xi (dl 6) 6 Xv <| Uh rfl s0 <| J7 rfl (i64 2) <| X4 rfl (Xr 2 2 Hm Uw s3) <| Yj (v := (i64 i2)) rfl (fun _ e' => Qi Fa rfl rfl (m12.ext e').h1 (Qu _ _ 0 Ya)) <| Uh rfl rfl <| X4 rfl (Zc rfl) ?_
 refine Gf m12 fun w13 m13 => Qd (Zj (r := (i2 : Int).toNat) oM D6 Ze rfl rfl oM sD) <| Bj m13 (Xw (f := u32) (a := (Kr Q8 (s.getD ((i0 : Int).toNat) 0) (s.getD ((i1 : Int).toNat) 0) (s.getD ((i2 : Int).toNat) 0) (s.getD ((i3 : Int).toNat) 0)).getD 2 0) Xb Ze rfl rfl m13.h2 sD (.inl (aJ _))) fun w14 m14 => ?_
 refine Zp (Qe (Qb ?_))
 refine Qd (v := (i64 3)) (Yk 2 1) <| Zm (i64 3) ?_
 refine rN (Zq (sR ?_))
 refine Qd (Jc 3 4) ?_
 refine rN (Qa ?_)
 refine Za rfl Yx ?_
 refine Qo (Qc (Qa (Qh (sR ?_))))
 refine Zm (i64 3) <| Qd (v := (u32 ((Kr Q8 (s.getD ((i0 : Int).toNat) 0) (s.getD ((i1 : Int).toNat) 0) (s.getD ((i2 : Int).toNat) 0) (s.getD ((i3 : Int).toNat) 0)).getD 3 0))) (Jt (i := 3) Gj Xt rfl Ze s23 rfl oM sD (Qu _ _ 0 sD)) <| Zx (i64 3) <| Tc rfl <| rN <| Xi (dl 6) 6 Xv <| Uh rfl s0 <| J7 rfl (i64 3) <| X4 rfl (Xr 3 3 Hm Uw s3) <| Yj (v := (i64 i3)) rfl (fun _ e' => Qi Fa rfl rfl (m14.ext e').h1 (Qu _ _ 0 Ya)) <| Uh rfl rfl <| X4 rfl (Zc rfl) ?_
 refine Gf m14 fun w15 m15 => Qd (Zj (r := (i3 : Int).toNat) oM D6 Ze rfl rfl oM sD) <| Bj m15 (Xw (f := u32) (a := (Kr Q8 (s.getD ((i0 : Int).toNat) 0) (s.getD ((i1 : Int).toNat) 0) (s.getD ((i2 : Int).toNat) 0) (s.getD ((i3 : Int).toNat) 0)).getD 3 0) Xb Ze rfl rfl m15.h2 sD (.inl (aJ _))) fun w16 m16 => ?_
 refine Zp (Qe (Qb ?_))
 refine Qd (v := (i64 4)) (Yk 3 1) <| Zm (i64 4) ?_
 refine rN (Zq (sR ?_))
 refine Qd (Jc 4 4) ?_
 refine rN (Qa ?_)
 refine Ja rfl Yx <| X3 ?_
 refine Qj (Qj (Xk ?_))
 refine La [] trivial ?_
 exact ⟨rfl, Mem.drop [_, _] _ m16⟩
end Go.Proofs.YtkmiemlpfkfiiaaDoor
