/- Contracts: stream, first part. Conditions: none beyond those that each theorem states. -/
import Derived.Test.YtkmiemlpfkfiiaaDoorTab
namespace Go.Proofs.YtkmiemlpfkfiiaaDoor
open Tryd
set_option linter.unusedVariables false
set_option linter.unusedSimpArgs false
def Qn (x : BitVec 32) (k : Int) : BitVec 32 := (x <<< (BitVec.ofInt 64 k &&& 31#64).toNat) ||| (x >>> (32#64 - (BitVec.ofInt 64 k &&& 31#64)).toNat)
def Lm (x : BitVec 32) (n : Int) : BitVec 32 := (x <<< n.toNat) ||| (x >>> (32 - n).toNat)
def Y3 (rot : BitVec 32 → Int → BitVec 32) (a b c d : BitVec 32) : List (BitVec 32) :=
 let a1 := a + b
 let d1 := rot (d ^^^ a1) 16
 let c1 := c + d1
 let b1 := rot (b ^^^ c1) 12
 let a2 := a1 + b1
 let d2 := rot (d1 ^^^ a2) 8
 let c2 := c1 + d2
 let b2 := rot (b1 ^^^ c2) 7
 [a2, b2, c2, d2]
@[simp] theorem Qoj (rot : BitVec 32 → Int → BitVec 32) (a b c d : BitVec 32) : (Y3 rot a b c d).length = 4 := rfl
def wordP (a b c d : BitVec 8) : BitVec 32 := (((0#32 ||| a.setWidth 32 <<< 0) ||| b.setWidth 32 <<< 8) ||| c.setWidth 32 <<< 16) ||| d.setWidth 32 <<< 24
def wordR (a b c d : BitVec 8) : BitVec 32 := ((a.setWidth 32 + b.setWidth 32 * 256) + c.setWidth 32 * 65536) + d.setWidth 32 * 16777216
def Za (l : Zj) : BitVec 32 := wordP (l.getD 0 0) (l.getD 1 0) (l.getD 2 0) (l.getD 3 0)
def Nl (l : Zj) : BitVec 32 := wordR (l.getD 0 0) (l.getD 1 0) (l.getD 2 0) (l.getD 3 0)
def Fe (s : List (BitVec 32)) (i0 i1 i2 i3 : Nat) : List (BitVec 32) :=
 let q := Y3 Qn (s.getD i0 0) (s.getD i1 0) (s.getD i2 0) (s.getD i3 0)
 (((s.set i0 (q.getD 0 0)).set i1 (q.getD 1 0)).set i2 (q.getD 2 0)).set i3 (q.getD 3 0)
theorem Qk4 (s : List (BitVec 32)) (i0 i1 i2 i3 : Nat) : (Fe s i0 i1 i2 i3).length = s.length := by simp [Fe]
theorem Gs (x : BitVec 32) (k : Int) (w0 : World)   : Xm prog 112 #[(u32 x), (i64 k)] w0 (fun r w1 => r = (u32 (Qn x k)) ∧ w1 = w0) := by
 refine Qy (args := [(u32 x), (i64 k)]) func112 rfl ntmps112 results112 rfl ?_
 have m0 : Mem w0 (Qu w0) [] := Mem.of_world w0
 refine sR <| Zv (u32 0#32) ?_
 refine rN (sR ?_)
 refine Zb (i64 k) <| Qd (Jv ⟨_, Di⟩ uT121 rfl) <| Qd (Jk (b := 31#64) rfl rfl) <| Zv (u64 ((BitVec.ofInt 64 k) &&& 31#64)) ?_
 refine rN (sR ?_)
 refine Zb (u32 x) <| Zb (u64 ((BitVec.ofInt 64 k) &&& 31#64)) <| Qd (Um rfl rfl oM) <| Zb (u32 x) <| Zb (u64 ((BitVec.ofInt 64 k) &&& 31#64)) <| Qd (Et (a := 32#64) rfl rfl) <| Qd (Lp rfl rfl oM) <| Qd (Fh rfl rfl) <| Sv rfl ?_
 refine rN (Zy ?_)
 refine Qs [(u32 ((x <<< ((BitVec.ofInt 64 k) &&& 31#64).toNat) ||| (x >>> (32#64 - ((BitVec.ofInt 64 k) &&& 31#64)).toNat)))] ⟨rfl, trivial⟩ ?_
 exact ⟨rfl, rfl⟩
theorem Qod (a b c d : BitVec 32) (w0 : World)   : Xm prog 114 #[(agg u32 ([a, b, c, d]))] w0 (fun r w1 => r = (agg u32 (Y3 Qn a b c d)) ∧ Ext w0 w1) := by
 refine Qy (args := [(agg u32 ([a, b, c, d]))]) func114 rfl ntmps114 results114 rfl ?_
 have m0 : Mem w0 (Qu w0) [] := Mem.of_world w0
 refine sR <| Y5 (Zw (f := u32) (l := [a, b, c, d]) m0 rfl) fun w1 b1 m1 => Y5 (Zf m1 Qgw) fun w2 b2 m2 => ?_
 refine rN (Qc (sR ?_))
 refine Qd (Vu i64 [16, 12, 8, 7] Jn Qbd Fq Dj rfl rfl) <| Zb (i64 0) ?_
 refine rN (Qj ?_)
 refine Wu 5 ?_
 refine Zh (sR ?_)
 refine Qd (X5 0 4) ?_
 refine rN (Qc ?_)
 refine Qx rfl Yh ?_
 refine Qo (Qa (Qc (Qj (sR ?_))))
 refine Zb (i64 0) <| Qd (v := (i64 16)) (X8 (i := 0) Fq Di rfl Dj rfl rfl oM sD (Qv _ _ 0 Xk)) <| Zv (i64 0) <| Zv (i64 16) ?_
 refine rN (sR ?_)
 refine Zv (i64 0) <| Zv (i64 1) <| Zv (i64 3) ?_
 refine rN (Qc (sR ?_))
 refine Zb (i64 0) <| Qd (v := (i64 0)) (J4 (a := 0) (b := 2) rfl rfl oM oM oM) <| Qd (x_eql 0 1) <| rN <| Ym rfl Yh ?_
 refine Qo (Qa (Qc ?_))
 refine Xj (dl 6) 6 Xh <| Jj rfl (i64 0) <| Xq rfl (Xe 0 0 Vh Zn rfl) <| Y6 (v := (u32 a)) rfl (fun _ e' => Ql Yi rfl rfl (m2.ext e').h1 (Qv _ _ 0 Xk)) <| Jj rfl (i64 1) <| Xq rfl (Xe 1 1 Vh Zn rfl) <| Y6 (v := (u32 b)) rfl (fun _ e' => Ql Yi rfl rfl (m2.ext e').h1 (Qv _ _ 0 Xk)) <| Ug m2 fun w3 m3 => Qd (Yr rfl rfl) <| Qd (Xe 0 0 Vh Zn rfl) <| Vq m3 (Q8 (f := u32) (l' := [a + b, b, c, d]) rfl Xa Zn rfl rfl m3.h1 Xk (.inl (Nat.zero_le _))) fun w4 m4 => rN <| Xj (dl 10) 10 Xh <| Jj rfl (i64 3) <| Jj rfl (i64 3) <| Xq rfl (Xe 3 3 Vh Zn rfl) <| Y6 (v := (u32 d)) rfl (fun _ e' => Ql Yi rfl rfl (m4.ext e').h1 (Qv _ _ 0 Xk)) <| Jj rfl (i64 0) <| Xq rfl (Xe 0 0 Vh Zn rfl) <| Y6 (v := (u32 (a + b))) rfl (fun _ e' => Ql Yi rfl rfl (m4.ext e').h1 (Qv _ _ 0 Xk)) <| Xq rfl (Kv rfl rfl) <| Jj rfl (i64 16) <| U4 (v := (u32 (Qn (d ^^^ (a + b)) (16 : Int)))) rfl rfl (fun w5 e5 => J8.mono (Nb (X3 rfl rfl) (Gs (d ^^^ (a + b)) _ _)) (by rintro _ w6 ⟨rfl, rfl⟩; exact ⟨rfl, Ext.refl _⟩)) ?_
 refine Ug m4 fun w8 m8 => Qd (Xe 3 3 Vh Zn rfl) <| Vq m8 (Q8 (f := u32) (l' := [a + b, b, c, Qn (d ^^^ (a + b)) (16 : Int)]) rfl Xa Zn rfl rfl m8.h1 Xk (.inl (Nat.zero_le _))) fun w9 m9 => ?_
 refine Zo (Qh (Qb ?_))
 refine Qd (v := (i64 1)) (Xd 0 1) <| Zb (i64 1) ?_
 refine rN (Zh (sR ?_))
 refine Qd (X5 1 4) ?_
 refine rN (Qc ?_)
 refine Qx rfl Yh ?_
 refine Qo (Qa (Qc (Qj (sR ?_))))
 refine Zb (i64 1) <| Qd (v := (i64 12)) (X8 (i := 1) Fq Di rfl Dj rfl rfl oM sD (Qv _ _ 0 Xk)) <| Zv (i64 1) <| Zv (i64 12) ?_
 refine rN (sR ?_)
 refine Zv (i64 0) <| Zv (i64 1) <| Zv (i64 3) ?_
 refine rN (Qc (sR ?_))
 refine Zb (i64 1) <| Qd (v := (i64 1)) (J4 (a := 1) (b := 2) rfl rfl oM oM oM) <| Qd (x_eql 1 1) <| rN <| Qx rfl Yh <| Qb <| Zv (i64 2) <| Zv (i64 3) <| Zv (i64 1) ?_
 refine rN (Qc ?_)
 refine Xj (dl 6) 6 Xh <| Jj rfl (i64 2) <| Xq rfl (Xe 2 2 Vh Zn rfl) <| Y6 (v := (u32 c)) rfl (fun _ e' => Ql Yi rfl rfl (m9.ext e').h1 (Qv _ _ 0 Xk)) <| Jj rfl (i64 3) <| Xq rfl (Xe 3 3 Vh Zn rfl) <| Y6 (v := (u32 (Qn (d ^^^ (a + b)) (16 : Int)))) rfl (fun _ e' => Ql Yi rfl rfl (m9.ext e').h1 (Qv _ _ 0 Xk)) <| Ug m9 fun w10 m10 => Qd (Yr rfl rfl) <| Qd (Xe 2 2 Vh Zn rfl) <| Vq m10 (Q8 (f := u32) (l' := [a + b, b, c + (Qn (d ^^^ (a + b)) (16 : Int)), Qn (d ^^^ (a + b)) (16 : Int)]) rfl Xa Zn rfl rfl m10.h1 Xk (.inl (Nat.zero_le _))) fun w11 m11 => rN <| Xj (dl 10) 10 Xh <| Jj rfl (i64 1) <| Jj rfl (i64 1) <| Xq rfl (Xe 1 1 Vh Zn rfl) <| Y6 (v := (u32 b)) rfl (fun _ e' => Ql Yi rfl rfl (m11.ext e').h1 (Qv _ _ 0 Xk)) <| Jj rfl (i64 2) <| Xq rfl (Xe 2 2 Vh Zn rfl) <| Y6 (v := (u32 (c + (Qn (d ^^^ (a + b)) (16 : Int))))) rfl (fun _ e' => Ql Yi rfl rfl (m11.ext e').h1 (Qv _ _ 0 Xk)) <| Xq rfl (Kv rfl rfl) <| Jj rfl (i64 12) <| U4 (v := (u32 (Qn (b ^^^ (c + (Qn (d ^^^ (a + b)) (16 : Int)))) (12 : Int)))) rfl rfl (fun w12 e12 => J8.mono (Nb (X3 rfl rfl) (Gs (b ^^^ (c + (Qn (d ^^^ (a + b)) (16 : Int)))) _ _)) (by rintro _ w13 ⟨rfl, rfl⟩; exact ⟨rfl, Ext.refl _⟩)) ?_
 refine Ug m11 fun w15 m15 => Qd (Xe 1 1 Vh Zn rfl) <| Vq m15 (Q8 (f := u32) (l' := [a + b, Qn (b ^^^ (c + (Qn (d ^^^ (a + b)) (16 : Int)))) (12 : Int), c + (Qn (d ^^^ (a + b)) (16 : Int)), Qn (d ^^^ (a + b)) (16 : Int)]) rfl Xa Zn rfl rfl m15.h1 Xk (.inl (Nat.zero_le _))) fun w16 m16 => ?_
 refine Zo (Qh (Qb ?_))
 refine Qd (v := (i64 2)) (Xd 1 1) <| Zb (i64 2) ?_
 refine rN (Zh (sR ?_))
 refine Qd (X5 2 4) ?_
 refine rN (Qc ?_)
 refine Qx rfl Yh ?_
 refine Qo (Qa (Qc (Qj (sR ?_))))
 refine Zb (i64 2) <| Qd (v := (i64 8)) (X8 (i := 2) Fq Di rfl Dj rfl rfl oM sD (Qv _ _ 0 Xk)) <| Zv (i64 2) <| Zv (i64 8) ?_
 refine rN (sR ?_)
 refine Zv (i64 0) <| Zv (i64 1) <| Zv (i64 3) ?_
 refine rN (Qc (sR ?_))
 refine Zb (i64 2) <| Qd (v := (i64 0)) (J4 (a := 2) (b := 2) rfl rfl oM oM oM) <| Qd (x_eql 0 1) <| rN ?_
 refine CW.abs (fun g => g 0 = (agg u32 ([a, b, c, d])) ∧ g 1 = (ptr b1 0) ∧ g 2 = (ptr b2 0) ∧ g 3 = (i64 2) ∧ g 4 = (i64 8) ∧ g 5 = (i64 0) ∧ g 6 = (i64 1) ∧ g 7 = (i64 3) ∧ g 8 = (agg i64 ([16, 12, 8, 7])) ∧ g 9 = (i64 2) ∧ g 10 = (bl true) ∧ g 15 = (bl false) ∧ True) ⟨rfl, rfl, rfl, rfl, rfl, rfl, rfl, rfl, rfl, rfl, rfl, rfl, trivial⟩ ?_
 rintro fr17 ⟨s0, s1, s2, s3, s4, s5, s6, s7, s8, s9, s10, s15, _⟩
 refine Ym s15 Yh ?_
 refine Qo (Qa (Qc ?_))
 refine Xj (dl 6) 6 Xh <| yqE rfl s5 <| Xq rfl (Xe 0 0 Vh Zn s1) <| Y6 (v := (u32 (a + b))) rfl (fun _ e' => Ql Yi rfl rfl (m16.ext e').h1 (Qv _ _ 0 Xk)) <| yqE rfl s6 <| Xq rfl (Xe 1 1 Vh Zn s1) <| Y6 (v := (u32 (Qn (b ^^^ (c + (Qn (d ^^^ (a + b)) (16 : Int)))) (12 : Int)))) rfl (fun _ e' => Ql Yi rfl rfl (m16.ext e').h1 (Qv _ _ 0 Xk)) <| Ug m16 fun w18 m18 => Qd (Yr rfl rfl) <| Qd (Xe 0 0 Vh Zn s1) <| Vq m18 (Q8 (f := u32) (l' := [(a + b) + (Qn (b ^^^ (c + (Qn (d ^^^ (a + b)) (16 : Int)))) (12 : Int)), Qn (b ^^^ (c + (Qn (d ^^^ (a + b)) (16 : Int)))) (12 : Int), c + (Qn (d ^^^ (a + b)) (16 : Int)), Qn (d ^^^ (a + b)) (16 : Int)]) rfl Xa Zn rfl rfl m18.h1 Xk (.inl (Nat.zero_le _))) fun w19 m19 => rN <| Xj (dl 10) 10 Xh <| yqE rfl s7 <| yqE rfl s7 <| Xq rfl (Xe 3 3 Vh Zn s1) <| Y6 (v := (u32 (Qn (d ^^^ (a + b)) (16 : Int)))) rfl (fun _ e' => Ql Yi rfl rfl (m19.ext e').h1 (Qv _ _ 0 Xk)) <| yqE rfl s5 <| Xq rfl (Xe 0 0 Vh Zn s1) <| Y6 (v := (u32 ((a + b) + (Qn (b ^^^ (c + (Qn (d ^^^ (a + b)) (16 : Int)))) (12 : Int))))) rfl (fun _ e' => Ql Yi rfl rfl (m19.ext e').h1 (Qv _ _ 0 Xk)) <| Xq rfl (Kv rfl rfl) <| yqE rfl s4 <| U4 (v := (u32 (Qn ((Qn (d ^^^ (a + b)) (16 : Int)) ^^^ ((a + b) + (Qn (b ^^^ (c + (Qn (d ^^^ (a + b)) (16 : Int)))) (12 : Int)))) (8 : Int)))) rfl rfl (fun w20 e20 => J8.mono (Nb (X3 rfl rfl) (Gs ((Qn (d ^^^ (a + b)) (16 : Int)) ^^^ ((a + b) + (Qn (b ^^^ (c + (Qn (d ^^^ (a + b)) (16 : Int)))) (12 : Int)))) _ _)) (by rintro _ w21 ⟨rfl, rfl⟩; exact ⟨rfl, Ext.refl _⟩)) ?_
 refine Ug m19 fun w23 m23 => Qd (Xe 3 3 Vh Zn s1) <| Vq m23 (Q8 (f := u32) (l' := [(a + b) + (Qn (b ^^^ (c + (Qn (d ^^^ (a + b)) (16 : Int)))) (12 : Int)), Qn (b ^^^ (c + (Qn (d ^^^ (a + b)) (16 : Int)))) (12 : Int), c + (Qn (d ^^^ (a + b)) (16 : Int)), Qn ((Qn (d ^^^ (a + b)) (16 : Int)) ^^^ ((a + b) + (Qn (b ^^^ (c + (Qn (d ^^^ (a + b)) (16 : Int)))) (12 : Int)))) (8 : Int)]) rfl Xa Zn rfl rfl m23.h1 Xk (.inl (Nat.zero_le _))) fun w24 m24 => ?_
 refine Zo (Qh (Qb ?_))
 refine Qd (v := (i64 3)) (Z9 (a := 2) (b := 1) s9 rfl oM oM) <| Zb (i64 3) ?_
 refine rN (Zh (sR ?_))
 refine Qd (X5 3 4) ?_
 refine rN (Qc ?_)
 refine Qx rfl Yh ?_
 refine Qo (Qa (Qc (Qj (sR ?_))))
 refine Zb (i64 3) <| Qd (v := (i64 7)) (X8 (i := 3) Fq Di rfl Dj s8 rfl oM sD (Qv _ _ 0 Xk)) <| Zv (i64 3) <| Zv (i64 7) ?_
 refine rN (sR ?_)
 refine Zv (i64 0) <| Zv (i64 1) <| Zv (i64 3) ?_
 refine rN (Qc (sR ?_))
 refine Zb (i64 3) <| Qd (v := (i64 1)) (J4 (a := 3) (b := 2) rfl rfl oM oM oM) <| Qd (x_eql 1 1) <| rN <| Qx rfl Yh <| Qb <| Zv (i64 2) <| Zv (i64 3) <| Zv (i64 1) ?_
 refine rN (Qc ?_)
 refine Xj (dl 6) 6 Xh <| Jj rfl (i64 2) <| Xq rfl (Xe 2 2 Vh Zn s1) <| Y6 (v := (u32 (c + (Qn (d ^^^ (a + b)) (16 : Int))))) rfl (fun _ e' => Ql Yi rfl rfl (m24.ext e').h1 (Qv _ _ 0 Xk)) <| Jj rfl (i64 3) <| Xq rfl (Xe 3 3 Vh Zn s1) <| Y6 (v := (u32 (Qn ((Qn (d ^^^ (a + b)) (16 : Int)) ^^^ ((a + b) + (Qn (b ^^^ (c + (Qn (d ^^^ (a + b)) (16 : Int)))) (12 : Int)))) (8 : Int)))) rfl (fun _ e' => Ql Yi rfl rfl (m24.ext e').h1 (Qv _ _ 0 Xk)) <| Ug m24 fun w25 m25 => Qd (Yr rfl rfl) <| Qd (Xe 2 2 Vh Zn s1) <| Vq m25 (Q8 (f := u32) (l' := [(a + b) + (Qn (b ^^^ (c + (Qn (d ^^^ (a + b)) (16 : Int)))) (12 : Int)), Qn (b ^^^ (c + (Qn (d ^^^ (a + b)) (16 : Int)))) (12 : Int), (c + (Qn (d ^^^ (a + b)) (16 : Int))) + (Qn ((Qn (d ^^^ (a + b)) (16 : Int)) ^^^ ((a + b) + (Qn (b ^^^ (c + (Qn (d ^^^ (a + b)) (16 : Int)))) (12 : Int)))) (8 : Int)), Qn ((Qn (d ^^^ (a + b)) (16 : Int)) ^^^ ((a + b) + (Qn (b ^^^ (c + (Qn (d ^^^ (a + b)) (16 : Int)))) (12 : Int)))) (8 : Int)]) rfl Xa Zn rfl rfl m25.h1 Xk (.inl (Nat.zero_le _))) fun w26 m26 => rN <| Xj (dl 10) 10 Xh <| Jj rfl (i64 1) <| Jj rfl (i64 1) <| Xq rfl (Xe 1 1 Vh Zn s1) <| Y6 (v := (u32 (Qn (b ^^^ (c + (Qn (d ^^^ (a + b)) (16 : Int)))) (12 : Int)))) rfl (fun _ e' => Ql Yi rfl rfl (m26.ext e').h1 (Qv _ _ 0 Xk)) <| Jj rfl (i64 2) <| Xq rfl (Xe 2 2 Vh Zn s1) <| Y6 (v := (u32 ((c + (Qn (d ^^^ (a + b)) (16 : Int))) + (Qn ((Qn (d ^^^ (a + b)) (16 : Int)) ^^^ ((a + b) + (Qn (b ^^^ (c + (Qn (d ^^^ (a + b)) (16 : Int)))) (12 : Int)))) (8 : Int))))) rfl (fun _ e' => Ql Yi rfl rfl (m26.ext e').h1 (Qv _ _ 0 Xk)) <| Xq rfl (Kv rfl rfl) <| Jj rfl (i64 7) <| U4 (v := (u32 (Qn ((Qn (b ^^^ (c + (Qn (d ^^^ (a + b)) (16 : Int)))) (12 : Int)) ^^^ ((c + (Qn (d ^^^ (a + b)) (16 : Int))) + (Qn ((Qn (d ^^^ (a + b)) (16 : Int)) ^^^ ((a + b) + (Qn (b ^^^ (c + (Qn (d ^^^ (a + b)) (16 : Int)))) (12 : Int)))) (8 : Int)))) (7 : Int)))) rfl rfl (fun w27 e27 => J8.mono (Nb (X3 rfl rfl) (Gs ((Qn (b ^^^ (c + (Qn (d ^^^ (a + b)) (16 : Int)))) (12 : Int)) ^^^ ((c + (Qn (d ^^^ (a + b)) (16 : Int))) + (Qn ((Qn (d ^^^ (a + b)) (16 : Int)) ^^^ ((a + b) + (Qn (b ^^^ (c + (Qn (d ^^^ (a + b)) (16 : Int)))) (12 : Int)))) (8 : Int)))) _ _)) (by rintro _ w28 ⟨rfl, rfl⟩; exact ⟨rfl, Ext.refl _⟩)) ?_
 refine Ug m26 fun w30 m30 => Qd (Xe 1 1 Vh Zn s1) <| Vq m30 (Q8 (f := u32) (l' := [(a + b) + (Qn (b ^^^ (c + (Qn (d ^^^ (a + b)) (16 : Int)))) (12 : Int)), Qn ((Qn (b ^^^ (c + (Qn (d ^^^ (a + b)) (16 : Int)))) (12 : Int)) ^^^ ((c + (Qn (d ^^^ (a + b)) (16 : Int))) + (Qn ((Qn (d ^^^ (a + b)) (16 : Int)) ^^^ ((a + b) + (Qn (b ^^^ (c + (Qn (d ^^^ (a + b)) (16 : Int)))) (12 : Int)))) (8 : Int)))) (7 : Int), (c + (Qn (d ^^^ (a + b)) (16 : Int))) + (Qn ((Qn (d ^^^ (a + b)) (16 : Int)) ^^^ ((a + b) + (Qn (b ^^^ (c + (Qn (d ^^^ (a + b)) (16 : Int)))) (12 : Int)))) (8 : Int)), Qn ((Qn (d ^^^ (a + b)) (16 : Int)) ^^^ ((a + b) + (Qn (b ^^^ (c + (Qn (d ^^^ (a + b)) (16 : Int)))) (12 : Int)))) (8 : Int)]) rfl Xa Zn rfl rfl m30.h1 Xk (.inl (Nat.zero_le _))) fun w31 m31 => ?_
 refine Zo (Qh (Qb ?_))
 refine Qd (v := (i64 4)) (Xd 3 1) <| Zb (i64 4) ?_
 refine rN (Zh (sR ?_))
 refine Qd (X5 4 4) ?_
 refine rN (Qc ?_)
 refine Ym rfl Yh <| Yc ?_
 refine Qr (Qr (Xp ?_))
 refine sR <| Qd (Qw Vh rfl Qgw s1 m31.h1 sZ) <| Yb m31 (Qq (f := u32) (l := [(a + b) + (Qn (b ^^^ (c + (Qn (d ^^^ (a + b)) (16 : Int)))) (12 : Int)), Qn ((Qn (b ^^^ (c + (Qn (d ^^^ (a + b)) (16 : Int)))) (12 : Int)) ^^^ ((c + (Qn (d ^^^ (a + b)) (16 : Int))) + (Qn ((Qn (d ^^^ (a + b)) (16 : Int)) ^^^ ((a + b) + (Qn (b ^^^ (c + (Qn (d ^^^ (a + b)) (16 : Int)))) (12 : Int)))) (8 : Int)))) (7 : Int), (c + (Qn (d ^^^ (a + b)) (16 : Int))) + (Qn ((Qn (d ^^^ (a + b)) (16 : Int)) ^^^ ((a + b) + (Qn (b ^^^ (c + (Qn (d ^^^ (a + b)) (16 : Int)))) (12 : Int)))) (8 : Int)), Qn ((Qn (d ^^^ (a + b)) (16 : Int)) ^^^ ((a + b) + (Qn (b ^^^ (c + (Qn (d ^^^ (a + b)) (16 : Int)))) (12 : Int)))) (8 : Int)]) Xa Qgw s2 rfl sD m31.h0 sZ rfl) fun w32 m32 => ?_
 refine rN (Zy ?_)
 refine Qs [(agg u32 ([(a + b) + (Qn (b ^^^ (c + (Qn (d ^^^ (a + b)) (16 : Int)))) (12 : Int)), Qn ((Qn (b ^^^ (c + (Qn (d ^^^ (a + b)) (16 : Int)))) (12 : Int)) ^^^ ((c + (Qn (d ^^^ (a + b)) (16 : Int))) + (Qn ((Qn (d ^^^ (a + b)) (16 : Int)) ^^^ ((a + b) + (Qn (b ^^^ (c + (Qn (d ^^^ (a + b)) (16 : Int)))) (12 : Int)))) (8 : Int)))) (7 : Int), (c + (Qn (d ^^^ (a + b)) (16 : Int))) + (Qn ((Qn (d ^^^ (a + b)) (16 : Int)) ^^^ ((a + b) + (Qn (b ^^^ (c + (Qn (d ^^^ (a + b)) (16 : Int)))) (12 : Int)))) (8 : Int)), Qn ((Qn (d ^^^ (a + b)) (16 : Int)) ^^^ ((a + b) + (Qn (b ^^^ (c + (Qn (d ^^^ (a + b)) (16 : Int)))) (12 : Int)))) (8 : Int)]))] ⟨⟨_, s2, Xi Vh rfl Qgw m32.h0 sZ⟩, trivial⟩ ?_
 exact ⟨rfl, m32.toExt⟩
theorem Lt (v : Value) (l : Zj) (w0 : World)  (hr : Rd (Yn w0) u8 v l) (hl : 4 ≤ l.length) : Xm prog 113 #[v] w0 (fun r w1 => r = (u32 (Za l)) ∧ Ext w0 w1) := by
 refine Qy (args := [v]) func113 rfl ntmps113 results113 rfl ?_
 have m0 : Mem w0 (Qu w0) [] := Mem.of_world w0
 obtain ⟨a, b, c, d, r, rfl⟩ := list4r l hl
 refine sR <| Zv (u32 0#32) ?_
 refine rN (Qc (sR ?_))
 refine Zb v <| Qd (Yv (i := 0) (j := 4) (hr.ext m0.toExt) Zx Yw rfl (Zc _ _) (Xv (k := .i64) (i := 4) rfl) oM oM (by simp only [List.length_cons]; omega)) <| Qd (Yg (l := [a, b, c, d]) (Rd.cast (l' := [a, b, c, d]) (Rd.sub (hr.ext m0.toExt) oM oM (by simp only [List.length_cons]; omega)) rfl) Zx rfl) <| Zb (i64 0) ?_
 refine rN (Qj ?_)
 refine Wu 5 ?_
 refine Zh (sR ?_)
 refine Qd (X5 0 4) ?_
 refine rN (Qc ?_)
 refine Qx rfl Yh ?_
 refine Qo (Qa (Qc (Qj (sR ?_))))
 refine Zb (i64 0) <| Qd (Xr (i := 0) (Rd.cast (l' := [a, b, c, d]) (Rd.sub (hr.ext m0.toExt) oM oM (by simp only [List.length_cons]; omega)) rfl) Zx Yw rfl rfl oM Xk) <| Qd (v := (u8 a)) (Y4 (l := [a, b, c, d]) (i := 0) (dflt := 0) (Rd.cast (l' := [a, b, c, d]) (Rd.sub (hr.ext m0.toExt) oM oM (by simp only [List.length_cons]; omega)) rfl) Uu rfl oM Xk rfl) <| Zv (i64 0) <| Zv (u8 a) ?_
 refine rN (Qb ?_)
 refine Zb (u32 0#32) <| Zb (u8 a) <| Qd (Vk ⟨_, Uu⟩ Yi rfl) <| Zb (i64 0) <| Qd (v := (i64 0)) (Vy 8 0) <| Qd (Um (b := 0) rfl rfl oM) <| Qd (Fh (a := 0#32) rfl rfl) <| Zv (u32 (0#32 ||| ((a.setWidth 32) <<< 0))) ?_
 refine Zo (Qh (Qb ?_))
 refine Qd (v := (i64 1)) (Xd 0 1) <| Zb (i64 1) ?_
 refine rN (Zh (sR ?_))
 refine Qd (X5 1 4) ?_
 refine rN (Qc ?_)
 refine Qx rfl Yh ?_
 refine Qo (Qa (Qc (Qj (sR ?_))))
 refine Zb (i64 1) <| Qd (Xr (i := 1) (Rd.cast (l' := [a, b, c, d]) (Rd.sub (hr.ext m0.toExt) oM oM (by simp only [List.length_cons]; omega)) rfl) Zx Yw rfl rfl oM Xk) <| Qd (v := (u8 b)) (Y4 (l := [a, b, c, d]) (i := 1) (dflt := 0) (Rd.cast (l' := [a, b, c, d]) (Rd.sub (hr.ext m0.toExt) oM oM (by simp only [List.length_cons]; omega)) rfl) Uu rfl oM Xk rfl) <| Zv (i64 1) <| Zv (u8 b) ?_
 refine rN (Qb ?_)
 refine Zb (u32 (0#32 ||| ((a.setWidth 32) <<< 0))) <| Zb (u8 b) <| Qd (Vk ⟨_, Uu⟩ Yi rfl) <| Zb (i64 1) <| Qd (v := (i64 8)) (Vy 8 1) <| Qd (Um (b := 8) rfl rfl oM) <| Qd (Fh rfl rfl) <| Zv (u32 ((0#32 ||| ((a.setWidth 32) <<< 0)) ||| ((b.setWidth 32) <<< 8))) ?_
 refine Zo (Qh (Qb ?_))
 refine Qd (v := (i64 2)) (Xd 1 1) <| Zb (i64 2) ?_
 refine rN (Zh (sR ?_))
 refine Qd (X5 2 4) ?_
 refine rN (Qc ?_)
 refine Qx rfl Yh ?_
 refine Qo (Qa (Qc (Qj (sR ?_))))
 refine Zb (i64 2) <| Qd (Xr (i := 2) (Rd.cast (l' := [a, b, c, d]) (Rd.sub (hr.ext m0.toExt) oM oM (by simp only [List.length_cons]; omega)) rfl) Zx Yw rfl rfl oM Xk) <| Qd (v := (u8 c)) (Y4 (l := [a, b, c, d]) (i := 2) (dflt := 0) (Rd.cast (l' := [a, b, c, d]) (Rd.sub (hr.ext m0.toExt) oM oM (by simp only [List.length_cons]; omega)) rfl) Uu rfl oM Xk rfl) <| Zv (i64 2) <| Zv (u8 c) ?_
 refine rN (Qb ?_)
 refine Zb (u32 ((0#32 ||| ((a.setWidth 32) <<< 0)) ||| ((b.setWidth 32) <<< 8))) <| Zb (u8 c) <| Qd (Vk ⟨_, Uu⟩ Yi rfl) <| Zb (i64 2) <| Qd (v := (i64 16)) (Vy 8 2) <| Qd (Um (b := 16) rfl rfl oM) <| Qd (Fh rfl rfl) <| Sv rfl ?_
 refine Zo (Qh (Qb ?_))
 refine Qd (v := (i64 3)) (Xd 2 1) <| Zb (i64 3) ?_
 refine rN (Zh (sR ?_))
 refine Qd (X5 3 4) ?_
 refine rN (Qc ?_)
 refine Qx rfl Yh ?_
 refine Qo (Qa (Qc (Qj (sR ?_))))
 refine Zb (i64 3) <| Qd (Xr (i := 3) (Rd.cast (l' := [a, b, c, d]) (Rd.sub (hr.ext m0.toExt) oM oM (by simp only [List.length_cons]; omega)) rfl) Zx Yw rfl rfl oM Xk) <| Qd (v := (u8 d)) (Y4 (l := [a, b, c, d]) (i := 3) (dflt := 0) (Rd.cast (l' := [a, b, c, d]) (Rd.sub (hr.ext m0.toExt) oM oM (by simp only [List.length_cons]; omega)) rfl) Uu rfl oM Xk rfl) <| Zv (i64 3) <| Zv (u8 d) ?_
 refine rN (Qb ?_)
 refine Yk rfl <| Zb (u8 d) <| Qd (Vk ⟨_, Uu⟩ Yi rfl) <| Zb (i64 3) <| Qd (v := (i64 24)) (Vy 8 3) <| Qd (Um (b := 24) rfl rfl oM) <| Qd (Fh rfl rfl) <| Sv rfl ?_
 refine Zo (Qh (Qb ?_))
 refine Qd (v := (i64 4)) (Xd 3 1) <| Zb (i64 4) ?_
 refine rN (Zh (sR ?_))
 refine Qd (X5 4 4) ?_
 refine rN (Qc ?_)
 refine Ym rfl Yh <| Yc ?_
 refine Qr (Qr (Xp ?_))
 refine sR <| Yk rfl <| Sv rfl ?_
 refine rN (Zy ?_)
 refine Qs [(u32 ((((0#32 ||| ((a.setWidth 32) <<< 0)) ||| ((b.setWidth 32) <<< 8)) ||| ((c.setWidth 32) <<< 16)) ||| ((d.setWidth 32) <<< 24)))] ⟨rfl, trivial⟩ ?_
 exact ⟨rfl, m0.toExt⟩
theorem U9 (bs : Nat) (s : List (BitVec 32)) (i0 i1 i2 i3 : Int) (w0 : World) (R : Rest) (m0 : Mem w0 R [(bs, .cells (cl u32 s) 156 (0, 0))]) (hl : s.length = 16) (h0 : 0 ≤ i0 ∧ i0 < 16) (h1 : 0 ≤ i1 ∧ i1 < 16) (h2 : 0 ≤ i2 ∧ i2 < 16) (h3 : 0 ≤ i3 ∧ i3 < 16) : Xm prog 104 #[(ptr bs 0), (agg i64 ([i0, i1, i2, i3]))] w0 (fun r w1 => r = .tuple #[] ∧ Mem w1 R [(bs, .cells (cl u32 (Fe s i0.toNat i1.toNat i2.toNat i3.toNat)) 156 (0, 0))]) := by
 refine Qy (args := [(ptr bs 0), (agg i64 ([i0, i1, i2, i3]))]) func104 rfl ntmps104 results104 rfl <| sR <| Y5 (Zw (f := i64) (l := [i0, i1, i2, i3]) m0 rfl) fun w1 b3 m1 => ?_
 refine rN (sR ?_)
 refine Y5 (Zf m1 Qgw) fun w2 b4 m2 => ?_
 refine rN (Qc (sR ?_))
 refine Qd (Qw Fq rfl Qbd rfl m2.h1 sZ) <| Zb (i64 0) ?_
 refine rN (Qj ?_)
 refine Wu 5 ?_
 refine Zh (sR ?_)
 refine Qd (X5 0 4) ?_
 refine rN (Qc ?_)
 refine Qx rfl Yh ?_
 refine Qo (Qa (Qc (Qj (sR ?_))))
 refine Zb (i64 0) <| Qd (v := (i64 i0)) (X8 (i := 0) Fq Di rfl Dj rfl rfl oM sD (Qv _ _ 0 Xk)) <| Zv (i64 0) <| Zv (i64 i0) ?_
 refine rN (Qb ?_)
 refine Zb (i64 0) <| Zb (ptr bs 0) <| Zb (i64 i0) <| Qd (Qm rfl) <| Qd (Xc (r := (i0 : Int).toNat) oM Ue Zn rfl rfl oM sD) <| Qd (v := (u32 (s.getD ((i0 : Int).toNat) 0))) (Ql Yi rfl rfl m2.h2 (Qv _ _ 0 sD)) <| Qd (Xe 0 0 Vh Zn rfl) <| Yb m2 (Q8 (f := u32) (l' := [s.getD ((i0 : Int).toNat) 0, 0, 0, 0]) rfl Xa Zn rfl rfl m2.h0 Xk (.inl (Nat.zero_le _))) fun w3 m3 => ?_
 refine Zo (Qh (Qb ?_))
 refine Qd (v := (i64 1)) (Xd 0 1) <| Zb (i64 1) ?_
 refine rN (Zh (sR ?_))
 refine Qd (X5 1 4) ?_
 refine rN (Qc ?_)
 refine Qx rfl Yh ?_
 refine Qo (Qa (Qc (Qj (sR ?_))))
 refine Zb (i64 1) <| Qd (v := (i64 i1)) (X8 (i := 1) Fq Di rfl Dj rfl rfl oM sD (Qv _ _ 0 Xk)) <| Zv (i64 1) <| Zv (i64 i1) ?_
 refine rN (Qb ?_)
 refine Zb (i64 1) <| Zb (ptr bs 0) <| Zb (i64 i1) <| Qd (Qm rfl) <| Qd (Xc (r := (i1 : Int).toNat) oM Ue Zn rfl rfl oM sD) <| Qd (v := (u32 (s.getD ((i1 : Int).toNat) 0))) (Ql Yi rfl rfl m3.h2 (Qv _ _ 0 sD)) <| Qd (Xe 1 1 Vh Zn rfl) <| Yb m3 (Q8 (f := u32) (l' := [s.getD ((i0 : Int).toNat) 0, s.getD ((i1 : Int).toNat) 0, 0, 0]) rfl Xa Zn rfl rfl m3.h0 Xk (.inl (Nat.zero_le _))) fun w4 m4 => ?_
 refine Zo (Qh (Qb ?_))
 refine Qd (v := (i64 2)) (Xd 1 1) <| Zb (i64 2) ?_
 refine rN (Zh (sR ?_))
 refine Qd (X5 2 4) ?_
 refine rN (Qc ?_)
 refine Qx rfl Yh ?_
 refine Qo (Qa (Qc (Qj (sR ?_))))
 refine Zb (i64 2) <| Qd (v := (i64 i2)) (X8 (i := 2) Fq Di rfl Dj rfl rfl oM sD (Qv _ _ 0 Xk)) <| Zv (i64 2) <| Zv (i64 i2) ?_
 refine rN (Qb ?_)
 refine Zb (i64 2) <| Zb (ptr bs 0) <| Zb (i64 i2) <| Qd (Qm rfl) <| Qd (Xc (r := (i2 : Int).toNat) oM Ue Zn rfl rfl oM sD) <| Qd (v := (u32 (s.getD ((i2 : Int).toNat) 0))) (Ql Yi rfl rfl m4.h2 (Qv _ _ 0 sD)) <| Qd (Xe 2 2 Vh Zn rfl) <| Yb m4 (Q8 (f := u32) (l' := [s.getD ((i0 : Int).toNat) 0, s.getD ((i1 : Int).toNat) 0, s.getD ((i2 : Int).toNat) 0, 0]) rfl Xa Zn rfl rfl m4.h0 Xk (.inl (Nat.zero_le _))) fun w5 m5 => ?_
 refine Zo (Qh (Qb ?_))
 refine Qd (v := (i64 3)) (Xd 2 1) <| Zb (i64 3) ?_
 refine rN (Zh (sR ?_))
 refine Qd (X5 3 4) ?_
 refine rN (Qc ?_)
 refine Qx rfl Yh ?_
 refine Qo (Qa (Qc (Qj (sR ?_))))
 refine Zb (i64 3) <| Qd (v := (i64 i3)) (X8 (i := 3) Fq Di rfl Dj rfl rfl oM sD (Qv _ _ 0 Xk)) <| Zv (i64 3) <| Zv (i64 i3) ?_
 refine rN (Qb ?_)
 refine Zb (i64 3) <| Zb (ptr bs 0) <| Zb (i64 i3) <| Qd (Qm rfl) <| Qd (Xc (r := (i3 : Int).toNat) oM Ue Zn rfl rfl oM sD) <| Qd (v := (u32 (s.getD ((i3 : Int).toNat) 0))) (Ql Yi rfl rfl m5.h2 (Qv _ _ 0 sD)) <| Qd (Xe 3 3 Vh Zn rfl) <| Yb m5 (Q8 (f := u32) (l' := [s.getD ((i0 : Int).toNat) 0, s.getD ((i1 : Int).toNat) 0, s.getD ((i2 : Int).toNat) 0, s.getD ((i3 : Int).toNat) 0]) rfl Xa Zn rfl rfl m5.h0 Xk (.inl (Nat.zero_le _))) fun w6 m6 => ?_
 refine Zo (Qh (Qb ?_))
 refine Qd (v := (i64 4)) (Xd 3 1) <| Zb (i64 4) ?_
 refine rN (Zh (sR ?_))
 refine Qd (X5 4 4) ?_
 refine rN (Qc ?_)
 refine Ym rfl Yh <| Yc ?_
 refine Qr (Qr (Xp ?_))
 refine sR <| Qd (Qw Vh rfl Qgw rfl m6.h0 sZ) <| Dx m6 (oc114 (Jb rfl) (Qod (s.getD ((i0 : Int).toNat) 0) (s.getD ((i1 : Int).toNat) 0) (s.getD ((i2 : Int).toNat) 0) (s.getD ((i3 : Int).toNat) 0) _)) fun w7 m7 => Zb (i64 0) ?_
 refine rN (Df ?_)
 refine Wu 5 ?_
 refine Zh (sR ?_)
 refine Qd (X5 0 4) ?_
 refine rN (Qc ?_)
 refine Qx rfl Yh ?_
 refine Qo (Qa (Qc (Qj (sR ?_))))
 refine Zb (i64 0) <| Qd (v := (u32 ((Y3 Qn (s.getD ((i0 : Int).toNat) 0) (s.getD ((i1 : Int).toNat) 0) (s.getD ((i2 : Int).toNat) 0) (s.getD ((i3 : Int).toNat) 0)).getD 0 0))) (X8 (i := 0) Vh Yi rfl Zn rfl rfl oM sD (Qv _ _ 0 sD)) <| Zv (i64 0) <| Sv rfl <| rN <| Xj (dl 6) 6 Xh <| Jj rfl (ptr bs 0) <| Jj rfl (i64 0) <| Xq rfl (Xe 0 0 Fq Dj rfl) <| Y6 (v := (i64 i0)) rfl (fun _ e' => Ql Di rfl rfl (m7.ext e').h1 (Qv _ _ 0 Xk)) <| yqE rfl rfl <| Xq rfl (Qm rfl) ?_
 refine Ug m7 fun w8 m8 => Qd (Xc (r := (i0 : Int).toNat) oM Ue Zn rfl rfl oM sD) <| Qc3 m8 (X9 (f := u32) (a := (Y3 Qn (s.getD ((i0 : Int).toNat) 0) (s.getD ((i1 : Int).toNat) 0) (s.getD ((i2 : Int).toNat) 0) (s.getD ((i3 : Int).toNat) 0)).getD 0 0) Xa Zn rfl rfl m8.h2 sD (.inl (Nat.zero_le _))) fun w9 m9 => ?_
 refine Zo (Qh (Qb ?_))
 refine Qd (v := (i64 1)) (Xd 0 1) <| Zb (i64 1) ?_
 refine rN (Zh (sR ?_))
 refine Qd (X5 1 4) ?_
 refine rN (Qc ?_)
 refine Qx rfl Yh ?_
 refine Qo (Qa (Qc (Qj (sR ?_))))
 refine Zb (i64 1) <| Qd (v := (u32 ((Y3 Qn (s.getD ((i0 : Int).toNat) 0) (s.getD ((i1 : Int).toNat) 0) (s.getD ((i2 : Int).toNat) 0) (s.getD ((i3 : Int).toNat) 0)).getD 1 0))) (X8 (i := 1) Vh Yi rfl Zn rfl rfl oM sD (Qv _ _ 0 sD)) <| Zv (i64 1) <| Sv rfl <| rN ?_
 refine CW.abs (fun g => g 0 = (ptr bs 0) ∧ g 1 = (agg i64 ([i0, i1, i2, i3])) ∧ g 3 = (ptr b3 0) ∧ g 4 = (ptr b4 0) ∧ g 5 = (i64 3) ∧ g 6 = (i64 i3) ∧ g 7 = (i64 1) ∧ g 8 = (u32 ((Y3 Qn (s.getD ((i0 : Int).toNat) 0) (s.getD ((i1 : Int).toNat) 0) (s.getD ((i2 : Int).toNat) 0) (s.getD ((i3 : Int).toNat) 0)).getD 1 0)) ∧ g 9 = (agg i64 ([i0, i1, i2, i3])) ∧ g 10 = (i64 4) ∧ g 11 = (bl false) ∧ g 23 = (agg u32 (Y3 Qn (s.getD ((i0 : Int).toNat) 0) (s.getD ((i1 : Int).toNat) 0) (s.getD ((i2 : Int).toNat) 0) (s.getD ((i3 : Int).toNat) 0))) ∧ g 24 = (i64 1) ∧ g 25 = (bl true) ∧ True) ⟨rfl, rfl, rfl, rfl, rfl, rfl, rfl, rfl, rfl, rfl, rfl, rfl, rfl, rfl, trivial⟩ ?_
 rintro fr10 ⟨s0, s1, s3, s4, s5, s6, s7, s8, s9, s10, s11, s23, s24, s25, _⟩
 refine Xj (dl 6) 6 Xh <| yqE rfl s0 <| yqE rfl s7 <| Xq rfl (Xe 1 1 Fq Dj s3) <| Y6 (v := (i64 i1)) rfl (fun _ e' => Ql Di rfl rfl (m9.ext e').h1 (Qv _ _ 0 Xk)) <| yqE rfl s8 <| Xq rfl (Qm rfl) <| Ug m9 fun w11 m11 => Qd (Xc (r := (i1 : Int).toNat) oM Ue Zn rfl rfl oM sD) <| Qc3 m11 (X9 (f := u32) (a := (Y3 Qn (s.getD ((i0 : Int).toNat) 0) (s.getD ((i1 : Int).toNat) 0) (s.getD ((i2 : Int).toNat) 0) (s.getD ((i3 : Int).toNat) 0)).getD 1 0) Xa Zn rfl rfl m11.h2 sD (.inl (Nat.zero_le _))) fun w12 m12 => ?_
 refine Zo (Qh (Qb ?_))
 refine Qd (v := (i64 2)) (Z9 (a := 1) (b := 1) s24 rfl oM oM) <| Zb (i64 2) ?_
 refine rN (Zh (sR ?_))
 refine Qd (X5 2 4) ?_
 refine rN (Qc ?_)
 refine Qx rfl Yh ?_
 refine Qo (Qa (Qc (Qj (sR ?_))))
 refine Zb (i64 2) <| Qd (v := (u32 ((Y3 Qn (s.getD ((i0 : Int).toNat) 0) (s.getD ((i1 : Int).toNat) 0) (s.getD ((i2 : Int).toNat) 0) (s.getD ((i3 : Int).toNat) 0)).getD 2 0))) (X8 (i := 2) Vh Yi rfl Zn s23 rfl oM sD (Qv _ _ 0 sD)) <| Zv (i64 2) <| Sv rfl <| rN <| Xj (dl 6) 6 Xh <| yqE rfl s0 <| Jj rfl (i64 2) <| Xq rfl (Xe 2 2 Fq Dj s3) <| Y6 (v := (i64 i2)) rfl (fun _ e' => Ql Di rfl rfl (m12.ext e').h1 (Qv _ _ 0 Xk)) <| yqE rfl rfl <| Xq rfl (Qm rfl) ?_
 refine Ug m12 fun w13 m13 => Qd (Xc (r := (i2 : Int).toNat) oM Ue Zn rfl rfl oM sD) <| Qc3 m13 (X9 (f := u32) (a := (Y3 Qn (s.getD ((i0 : Int).toNat) 0) (s.getD ((i1 : Int).toNat) 0) (s.getD ((i2 : Int).toNat) 0) (s.getD ((i3 : Int).toNat) 0)).getD 2 0) Xa Zn rfl rfl m13.h2 sD (.inl (Nat.zero_le _))) fun w14 m14 => ?_
 refine Zo (Qh (Qb ?_))
 refine Qd (v := (i64 3)) (Xd 2 1) <| Zb (i64 3) ?_
 refine rN (Zh (sR ?_))
 refine Qd (X5 3 4) ?_
 refine rN (Qc ?_)
 refine Qx rfl Yh ?_
 refine Qo (Qa (Qc (Qj (sR ?_))))
 refine Zb (i64 3) <| Qd (v := (u32 ((Y3 Qn (s.getD ((i0 : Int).toNat) 0) (s.getD ((i1 : Int).toNat) 0) (s.getD ((i2 : Int).toNat) 0) (s.getD ((i3 : Int).toNat) 0)).getD 3 0))) (X8 (i := 3) Vh Yi rfl Zn s23 rfl oM sD (Qv _ _ 0 sD)) <| Zv (i64 3) <| Sv rfl <| rN <| Xj (dl 6) 6 Xh <| yqE rfl s0 <| Jj rfl (i64 3) <| Xq rfl (Xe 3 3 Fq Dj s3) <| Y6 (v := (i64 i3)) rfl (fun _ e' => Ql Di rfl rfl (m14.ext e').h1 (Qv _ _ 0 Xk)) <| yqE rfl rfl <| Xq rfl (Qm rfl) ?_
 refine Ug m14 fun w15 m15 => Qd (Xc (r := (i3 : Int).toNat) oM Ue Zn rfl rfl oM sD) <| Qc3 m15 (X9 (f := u32) (a := (Y3 Qn (s.getD ((i0 : Int).toNat) 0) (s.getD ((i1 : Int).toNat) 0) (s.getD ((i2 : Int).toNat) 0) (s.getD ((i3 : Int).toNat) 0)).getD 3 0) Xa Zn rfl rfl m15.h2 sD (.inl (Nat.zero_le _))) fun w16 m16 => ?_
 refine Zo (Qh (Qb ?_))
 refine Qd (v := (i64 4)) (Xd 3 1) <| Zb (i64 4) ?_
 refine rN (Zh (sR ?_))
 refine Qd (X5 4 4) ?_
 refine rN (Qc ?_)
 refine Ym rfl Yh <| Yc ?_
 refine Qr (Qr (Xp ?_))
 refine Ec [] trivial ?_
 exact ⟨rfl, Mem.drop [_, _] _ m16⟩
end Go.Proofs.YtkmiemlpfkfiiaaDoor
