/- Contracts: stream, first part. Conditions: none beyond those that each theorem states. -/
import Derived.Test.YtkmiemlpfkfiiaaDoorTab
namespace Go.Proofs.YtkmiemlpfkfiiaaDoor
open Tryd
set_option linter.unusedVariables false
set_option linter.unusedSimpArgs false
def Zd (x : BitVec 32) (k : Int) : BitVec 32 := (x <<< (BitVec.ofInt 64 k &&& 31#64).toNat) ||| (x >>> (32#64 - (BitVec.ofInt 64 k &&& 31#64)).toNat)
def Y6 (x : BitVec 32) (n : Int) : BitVec 32 := (x <<< n.toNat) ||| (x >>> (32 - n).toNat)
def Wi (rot : BitVec 32 → Int → BitVec 32) (a b c d : BitVec 32) : List (BitVec 32) :=
 let a1 := a + b
 let d1 := rot (d ^^^ a1) 16
 let c1 := c + d1
 let b1 := rot (b ^^^ c1) 12
 let a2 := a1 + b1
 let d2 := rot (d1 ^^^ a2) 8
 let c2 := c1 + d2
 let b2 := rot (b1 ^^^ c2) 7
 [a2, b2, c2, d2]
@[simp] theorem Qsh (rot : BitVec 32 → Int → BitVec 32) (a b c d : BitVec 32) : (Wi rot a b c d).length = 4 := rfl
def wordP (a b c d : BitVec 8) : BitVec 32 := (((0#32 ||| a.setWidth 32 <<< 0) ||| b.setWidth 32 <<< 8) ||| c.setWidth 32 <<< 16) ||| d.setWidth 32 <<< 24
def wordR (a b c d : BitVec 8) : BitVec 32 := ((a.setWidth 32 + b.setWidth 32 * 256) + c.setWidth 32 * 65536) + d.setWidth 32 * 16777216
def Xd (l : Xg) : BitVec 32 := wordP (l.getD 0 0) (l.getD 1 0) (l.getD 2 0) (l.getD 3 0)
def Yq (l : Xg) : BitVec 32 := wordR (l.getD 0 0) (l.getD 1 0) (l.getD 2 0) (l.getD 3 0)
def Au (s : List (BitVec 32)) (i0 i1 i2 i3 : Nat) : List (BitVec 32) :=
 let q := Wi Zd (s.getD i0 0) (s.getD i1 0) (s.getD i2 0) (s.getD i3 0)
 (((s.set i0 (q.getD 0 0)).set i1 (q.getD 1 0)).set i2 (q.getD 2 0)).set i3 (q.getD 3 0)
theorem Qol (s : List (BitVec 32)) (i0 i1 i2 i3 : Nat) : (Au s i0 i1 i2 i3).length = s.length := by simp [Au]
theorem Eo (x : BitVec 32) (k : Int) (w0 : World)   : X9 prog 112 #[(u32 x), (i64 k)] w0 (fun r w1 => r = (u32 (Zd x k)) ∧ w1 = w0) := by
 refine Zb (args := [(u32 x), (i64 k)]) func112 rfl ntmps112 results112 rfl ?_
 have m0 : Mem w0 (Qu w0) [] := Mem.of_world w0
 refine sR <| Zz (u32 0#32) ?_
 refine rN (sR ?_)
 refine Zp (i64 k) <| Qd (Jp ⟨_, Fj⟩ uT121 rfl) <| Qd (Vw (b := 31#64) rfl rfl) <| Zz (u64 ((BitVec.ofInt 64 k) &&& 31#64)) ?_
 refine rN (sR ?_)
 refine Zp (u32 x) <| Zp (u64 ((BitVec.ofInt 64 k) &&& 31#64)) <| Qd (Fv rfl rfl oM) <| Zp (u32 x) <| Zp (u64 ((BitVec.ofInt 64 k) &&& 31#64)) <| Qd (Lr (a := 32#64) rfl rfl) <| Qd (Us rfl rfl oM) <| Qd (Du rfl rfl) <| Sz rfl ?_
 refine rN (Xb ?_)
 refine Qv [(u32 ((x <<< ((BitVec.ofInt 64 k) &&& 31#64).toNat) ||| (x >>> (32#64 - ((BitVec.ofInt 64 k) &&& 31#64)).toNat)))] ⟨rfl, trivial⟩ ?_
 exact ⟨rfl, rfl⟩
theorem Qic (x : BitVec 32) (k : Int) (w0 : World)  (h0 : 0 ≤ k) (h1 : k ≤ 32) : X9 prog 115 #[(u32 x), (i64 k)] w0 (fun r w1 => r = (u32 (Y6 x k)) ∧ Ext w0 w1) := by
 refine Zb (args := [(u32 x), (i64 k)]) func115 rfl ntmps115 results115 rfl ?_
 have m0 : Mem w0 (Qu w0) [] := Mem.of_world w0
 refine sR <| Zz (u32 0#32) ?_
 refine rN (Qa ?_)
 refine Xl (dl 7) 7 Xw <| Ky rfl (u32 x) <| Ky rfl (i64 k) <| Yb rfl (Fv rfl rfl oM) <| Ky rfl (u32 x) <| Ky rfl (i64 k) <| Yb rfl (Yk (a := 32) rfl rfl oM oM) <| Yb rfl (Us rfl rfl oM) <| Gs m0 fun w1 m1 => Qd (Du rfl rfl) <| Zz (u32 ((x <<< k.toNat) ||| (x >>> (32 - k).toNat))) ?_
 refine rN (Xb ?_)
 refine Qv [(u32 ((x <<< k.toNat) ||| (x >>> (32 - k).toNat)))] ⟨rfl, trivial⟩ ?_
 exact ⟨rfl, m1.toExt⟩
theorem Qr9 (a b c d : BitVec 32) (w0 : World)   : X9 prog 114 #[(agg u32 ([a, b, c, d]))] w0 (fun r w1 => r = (agg u32 (Wi Zd a b c d)) ∧ Ext w0 w1) := by
 refine Zb (args := [(agg u32 ([a, b, c, d]))]) func114 rfl ntmps114 results114 rfl ?_
 have m0 : Mem w0 (Qu w0) [] := Mem.of_world w0
 refine sR <| Y9 (Xa (f := u32) (l := [a, b, c, d]) m0 rfl) fun w1 b1 m1 => Y9 (Zc m1 Qbk) fun w2 b2 m2 => ?_
 refine rN (Qa (sR ?_))
 refine Qd (Gq i64 [16, 12, 8, 7] Z4 Qd6 Hg U0 rfl rfl) <| Zp (i64 0) ?_
 refine rN (Qk ?_)
 refine Wx 5 ?_
 refine Zt (sR ?_)
 refine Qd (Jf 0 4) ?_
 refine rN (Qa ?_)
 refine Za rfl Jg ?_
 refine Qs (Qc (Qa (Qk (sR ?_))))
 refine Zp (i64 0) <| Qd (v := (i64 16)) (J7 (i := 0) Hg Fj rfl U0 rfl rfl oM sD (Qx _ _ 0 X7)) <| Zz (i64 0) <| Zz (i64 16) ?_
 refine rN (sR ?_)
 refine Zz (i64 0) <| Zz (i64 1) <| Zz (i64 3) ?_
 refine rN (Qa (sR ?_))
 refine Zp (i64 0) <| Qd (v := (i64 0)) (Vf (a := 0) (b := 2) rfl rfl oM oM oM) <| Qd (x_eql 0 1) <| rN <| Yy rfl Jg ?_
 refine Qs (Qc (Qa ?_))
 refine Xl (dl 6) 6 Xw <| Ky rfl (i64 0) <| Yb rfl (Xv 0 0 Gv Zj rfl) <| Yn (v := (u32 a)) rfl (fun _ e' => Ql Xx rfl rfl (m2.ext e').h1 (Qx _ _ 0 X7)) <| Ky rfl (i64 1) <| Yb rfl (Xv 1 1 Gv Zj rfl) <| Yn (v := (u32 b)) rfl (fun _ e' => Ql Xx rfl rfl (m2.ext e').h1 (Qx _ _ 0 X7)) <| Gs m2 fun w3 m3 => Qd (X5 rfl rfl) <| Qd (Xv 0 0 Gv Zj rfl) <| Vz m3 (Zn (f := u32) (l' := [a + b, b, c, d]) rfl Xf Zj rfl rfl m3.h1 X7 (.inl (Nat.zero_le _))) fun w4 m4 => rN <| Xl (dl 10) 10 Xw <| Ky rfl (i64 3) <| Ky rfl (i64 3) <| Yb rfl (Xv 3 3 Gv Zj rfl) <| Yn (v := (u32 d)) rfl (fun _ e' => Ql Xx rfl rfl (m4.ext e').h1 (Qx _ _ 0 X7)) <| Ky rfl (i64 0) <| Yb rfl (Xv 0 0 Gv Zj rfl) <| Yn (v := (u32 (a + b))) rfl (fun _ e' => Ql Xx rfl rfl (m4.ext e').h1 (Qx _ _ 0 X7)) <| Yb rfl (Ju rfl rfl) <| Ky rfl (i64 16) <| Vg (v := (u32 (Zd (d ^^^ (a + b)) (16 : Int)))) rfl rfl (fun w5 e5 => Vp.mono (Qa3 (Xm rfl rfl) (Eo (d ^^^ (a + b)) _ _)) (by rintro _ w6 ⟨rfl, rfl⟩; exact ⟨rfl, Ext.refl _⟩)) ?_
 refine Gs m4 fun w8 m8 => Qd (Xv 3 3 Gv Zj rfl) <| Vz m8 (Zn (f := u32) (l' := [a + b, b, c, Zd (d ^^^ (a + b)) (16 : Int)]) rfl Xf Zj rfl rfl m8.h1 X7 (.inl (Nat.zero_le _))) fun w9 m9 => ?_
 refine Zv (Qh (Qb ?_))
 refine Qd (v := (i64 1)) (Yo 0 1) <| Zp (i64 1) ?_
 refine rN (Zt (sR ?_))
 refine Qd (Jf 1 4) ?_
 refine rN (Qa ?_)
 refine Za rfl Jg ?_
 refine Qs (Qc (Qa (Qk (sR ?_))))
 refine Zp (i64 1) <| Qd (v := (i64 12)) (J7 (i := 1) Hg Fj rfl U0 rfl rfl oM sD (Qx _ _ 0 X7)) <| Zz (i64 1) <| Zz (i64 12) ?_
 refine rN (sR ?_)
 refine Zz (i64 0) <| Zz (i64 1) <| Zz (i64 3) ?_
 refine rN (Qa (sR ?_))
 refine Zp (i64 1) <| Qd (v := (i64 1)) (Vf (a := 1) (b := 2) rfl rfl oM oM oM) <| Qd (x_eql 1 1) <| rN <| Za rfl Jg <| Qb <| Zz (i64 2) <| Zz (i64 3) <| Zz (i64 1) ?_
 refine rN (Qa ?_)
 refine Xl (dl 6) 6 Xw <| Ky rfl (i64 2) <| Yb rfl (Xv 2 2 Gv Zj rfl) <| Yn (v := (u32 c)) rfl (fun _ e' => Ql Xx rfl rfl (m9.ext e').h1 (Qx _ _ 0 X7)) <| Ky rfl (i64 3) <| Yb rfl (Xv 3 3 Gv Zj rfl) <| Yn (v := (u32 (Zd (d ^^^ (a + b)) (16 : Int)))) rfl (fun _ e' => Ql Xx rfl rfl (m9.ext e').h1 (Qx _ _ 0 X7)) <| Gs m9 fun w10 m10 => Qd (X5 rfl rfl) <| Qd (Xv 2 2 Gv Zj rfl) <| Vz m10 (Zn (f := u32) (l' := [a + b, b, c + (Zd (d ^^^ (a + b)) (16 : Int)), Zd (d ^^^ (a + b)) (16 : Int)]) rfl Xf Zj rfl rfl m10.h1 X7 (.inl (Nat.zero_le _))) fun w11 m11 => rN <| Xl (dl 10) 10 Xw <| Ky rfl (i64 1) <| Ky rfl (i64 1) <| Yb rfl (Xv 1 1 Gv Zj rfl) <| Yn (v := (u32 b)) rfl (fun _ e' => Ql Xx rfl rfl (m11.ext e').h1 (Qx _ _ 0 X7)) <| Ky rfl (i64 2) <| Yb rfl (Xv 2 2 Gv Zj rfl) <| Yn (v := (u32 (c + (Zd (d ^^^ (a + b)) (16 : Int))))) rfl (fun _ e' => Ql Xx rfl rfl (m11.ext e').h1 (Qx _ _ 0 X7)) <| Yb rfl (Ju rfl rfl) <| Ky rfl (i64 12) <| Vg (v := (u32 (Zd (b ^^^ (c + (Zd (d ^^^ (a + b)) (16 : Int)))) (12 : Int)))) rfl rfl (fun w12 e12 => Vp.mono (Qa3 (Xm rfl rfl) (Eo (b ^^^ (c + (Zd (d ^^^ (a + b)) (16 : Int)))) _ _)) (by rintro _ w13 ⟨rfl, rfl⟩; exact ⟨rfl, Ext.refl _⟩)) ?_
 refine Gs m11 fun w15 m15 => Qd (Xv 1 1 Gv Zj rfl) <| Vz m15 (Zn (f := u32) (l' := [a + b, Zd (b ^^^ (c + (Zd (d ^^^ (a + b)) (16 : Int)))) (12 : Int), c + (Zd (d ^^^ (a + b)) (16 : Int)), Zd (d ^^^ (a + b)) (16 : Int)]) rfl Xf Zj rfl rfl m15.h1 X7 (.inl (Nat.zero_le _))) fun w16 m16 => ?_
 refine Zv (Qh (Qb ?_))
 refine Qd (v := (i64 2)) (Yo 1 1) <| Zp (i64 2) ?_
 refine rN (Zt (sR ?_))
 refine Qd (Jf 2 4) ?_
 refine rN (Qa ?_)
 refine Za rfl Jg ?_
 refine Qs (Qc (Qa (Qk (sR ?_))))
 refine Zp (i64 2) <| Qd (v := (i64 8)) (J7 (i := 2) Hg Fj rfl U0 rfl rfl oM sD (Qx _ _ 0 X7)) <| Zz (i64 2) <| Zz (i64 8) ?_
 refine rN (sR ?_)
 refine Zz (i64 0) <| Zz (i64 1) <| Zz (i64 3) ?_
 refine rN (Qa (sR ?_))
 refine Zp (i64 2) <| Qd (v := (i64 0)) (Vf (a := 2) (b := 2) rfl rfl oM oM oM) <| Qd (x_eql 0 1) <| rN ?_
 refine CW.abs (fun g => g 0 = (agg u32 ([a, b, c, d])) ∧ g 1 = (ptr b1 0) ∧ g 2 = (ptr b2 0) ∧ g 3 = (i64 2) ∧ g 4 = (i64 8) ∧ g 5 = (i64 0) ∧ g 6 = (i64 1) ∧ g 7 = (i64 3) ∧ g 8 = (agg i64 ([16, 12, 8, 7])) ∧ g 9 = (i64 2) ∧ g 10 = (bl true) ∧ g 15 = (bl false) ∧ True) ⟨rfl, rfl, rfl, rfl, rfl, rfl, rfl, rfl, rfl, rfl, rfl, rfl, trivial⟩ ?_
 rintro fr17 ⟨s0, s1, s2, s3, s4, s5, s6, s7, s8, s9, s10, s15, _⟩
 refine Yy s15 Jg ?_
 refine Qs (Qc (Qa ?_))
 refine Xl (dl 6) 6 Xw <| Um rfl s5 <| Yb rfl (Xv 0 0 Gv Zj s1) <| Yn (v := (u32 (a + b))) rfl (fun _ e' => Ql Xx rfl rfl (m16.ext e').h1 (Qx _ _ 0 X7)) <| Um rfl s6 <| Yb rfl (Xv 1 1 Gv Zj s1) <| Yn (v := (u32 (Zd (b ^^^ (c + (Zd (d ^^^ (a + b)) (16 : Int)))) (12 : Int)))) rfl (fun _ e' => Ql Xx rfl rfl (m16.ext e').h1 (Qx _ _ 0 X7)) <| Gs m16 fun w18 m18 => Qd (X5 rfl rfl) <| Qd (Xv 0 0 Gv Zj s1) <| Vz m18 (Zn (f := u32) (l' := [(a + b) + (Zd (b ^^^ (c + (Zd (d ^^^ (a + b)) (16 : Int)))) (12 : Int)), Zd (b ^^^ (c + (Zd (d ^^^ (a + b)) (16 : Int)))) (12 : Int), c + (Zd (d ^^^ (a + b)) (16 : Int)), Zd (d ^^^ (a + b)) (16 : Int)]) rfl Xf Zj rfl rfl m18.h1 X7 (.inl (Nat.zero_le _))) fun w19 m19 => rN <| Xl (dl 10) 10 Xw <| Um rfl s7 <| Um rfl s7 <| Yb rfl (Xv 3 3 Gv Zj s1) <| Yn (v := (u32 (Zd (d ^^^ (a + b)) (16 : Int)))) rfl (fun _ e' => Ql Xx rfl rfl (m19.ext e').h1 (Qx _ _ 0 X7)) <| Um rfl s5 <| Yb rfl (Xv 0 0 Gv Zj s1) <| Yn (v := (u32 ((a + b) + (Zd (b ^^^ (c + (Zd (d ^^^ (a + b)) (16 : Int)))) (12 : Int))))) rfl (fun _ e' => Ql Xx rfl rfl (m19.ext e').h1 (Qx _ _ 0 X7)) <| Yb rfl (Ju rfl rfl) <| Um rfl s4 <| Vg (v := (u32 (Zd ((Zd (d ^^^ (a + b)) (16 : Int)) ^^^ ((a + b) + (Zd (b ^^^ (c + (Zd (d ^^^ (a + b)) (16 : Int)))) (12 : Int)))) (8 : Int)))) rfl rfl (fun w20 e20 => Vp.mono (Qa3 (Xm rfl rfl) (Eo ((Zd (d ^^^ (a + b)) (16 : Int)) ^^^ ((a + b) + (Zd (b ^^^ (c + (Zd (d ^^^ (a + b)) (16 : Int)))) (12 : Int)))) _ _)) (by rintro _ w21 ⟨rfl, rfl⟩; exact ⟨rfl, Ext.refl _⟩)) ?_
 refine Gs m19 fun w23 m23 => Qd (Xv 3 3 Gv Zj s1) <| Vz m23 (Zn (f := u32) (l' := [(a + b) + (Zd (b ^^^ (c + (Zd (d ^^^ (a + b)) (16 : Int)))) (12 : Int)), Zd (b ^^^ (c + (Zd (d ^^^ (a + b)) (16 : Int)))) (12 : Int), c + (Zd (d ^^^ (a + b)) (16 : Int)), Zd ((Zd (d ^^^ (a + b)) (16 : Int)) ^^^ ((a + b) + (Zd (b ^^^ (c + (Zd (d ^^^ (a + b)) (16 : Int)))) (12 : Int)))) (8 : Int)]) rfl Xf Zj rfl rfl m23.h1 X7 (.inl (Nat.zero_le _))) fun w24 m24 => ?_
 refine Zv (Qh (Qb ?_))
 refine Qd (v := (i64 3)) (Zg (a := 2) (b := 1) s9 rfl oM oM) <| Zp (i64 3) ?_
 refine rN (Zt (sR ?_))
 refine Qd (Jf 3 4) ?_
 refine rN (Qa ?_)
 refine Za rfl Jg ?_
 refine Qs (Qc (Qa (Qk (sR ?_))))
 refine Zp (i64 3) <| Qd (v := (i64 7)) (J7 (i := 3) Hg Fj rfl U0 s8 rfl oM sD (Qx _ _ 0 X7)) <| Zz (i64 3) <| Zz (i64 7) ?_
 refine rN (sR ?_)
 refine Zz (i64 0) <| Zz (i64 1) <| Zz (i64 3) ?_
 refine rN (Qa (sR ?_))
 refine Zp (i64 3) <| Qd (v := (i64 1)) (Vf (a := 3) (b := 2) rfl rfl oM oM oM) <| Qd (x_eql 1 1) <| rN <| Za rfl Jg <| Qb <| Zz (i64 2) <| Zz (i64 3) <| Zz (i64 1) ?_
 refine rN (Qa ?_)
 refine Xl (dl 6) 6 Xw <| Ky rfl (i64 2) <| Yb rfl (Xv 2 2 Gv Zj s1) <| Yn (v := (u32 (c + (Zd (d ^^^ (a + b)) (16 : Int))))) rfl (fun _ e' => Ql Xx rfl rfl (m24.ext e').h1 (Qx _ _ 0 X7)) <| Ky rfl (i64 3) <| Yb rfl (Xv 3 3 Gv Zj s1) <| Yn (v := (u32 (Zd ((Zd (d ^^^ (a + b)) (16 : Int)) ^^^ ((a + b) + (Zd (b ^^^ (c + (Zd (d ^^^ (a + b)) (16 : Int)))) (12 : Int)))) (8 : Int)))) rfl (fun _ e' => Ql Xx rfl rfl (m24.ext e').h1 (Qx _ _ 0 X7)) <| Gs m24 fun w25 m25 => Qd (X5 rfl rfl) <| Qd (Xv 2 2 Gv Zj s1) <| Vz m25 (Zn (f := u32) (l' := [(a + b) + (Zd (b ^^^ (c + (Zd (d ^^^ (a + b)) (16 : Int)))) (12 : Int)), Zd (b ^^^ (c + (Zd (d ^^^ (a + b)) (16 : Int)))) (12 : Int), (c + (Zd (d ^^^ (a + b)) (16 : Int))) + (Zd ((Zd (d ^^^ (a + b)) (16 : Int)) ^^^ ((a + b) + (Zd (b ^^^ (c + (Zd (d ^^^ (a + b)) (16 : Int)))) (12 : Int)))) (8 : Int)), Zd ((Zd (d ^^^ (a + b)) (16 : Int)) ^^^ ((a + b) + (Zd (b ^^^ (c + (Zd (d ^^^ (a + b)) (16 : Int)))) (12 : Int)))) (8 : Int)]) rfl Xf Zj rfl rfl m25.h1 X7 (.inl (Nat.zero_le _))) fun w26 m26 => rN <| Xl (dl 10) 10 Xw <| Ky rfl (i64 1) <| Ky rfl (i64 1) <| Yb rfl (Xv 1 1 Gv Zj s1) <| Yn (v := (u32 (Zd (b ^^^ (c + (Zd (d ^^^ (a + b)) (16 : Int)))) (12 : Int)))) rfl (fun _ e' => Ql Xx rfl rfl (m26.ext e').h1 (Qx _ _ 0 X7)) <| Ky rfl (i64 2) <| Yb rfl (Xv 2 2 Gv Zj s1) <| Yn (v := (u32 ((c + (Zd (d ^^^ (a + b)) (16 : Int))) + (Zd ((Zd (d ^^^ (a + b)) (16 : Int)) ^^^ ((a + b) + (Zd (b ^^^ (c + (Zd (d ^^^ (a + b)) (16 : Int)))) (12 : Int)))) (8 : Int))))) rfl (fun _ e' => Ql Xx rfl rfl (m26.ext e').h1 (Qx _ _ 0 X7)) <| Yb rfl (Ju rfl rfl) <| Ky rfl (i64 7) <| Vg (v := (u32 (Zd ((Zd (b ^^^ (c + (Zd (d ^^^ (a + b)) (16 : Int)))) (12 : Int)) ^^^ ((c + (Zd (d ^^^ (a + b)) (16 : Int))) + (Zd ((Zd (d ^^^ (a + b)) (16 : Int)) ^^^ ((a + b) + (Zd (b ^^^ (c + (Zd (d ^^^ (a + b)) (16 : Int)))) (12 : Int)))) (8 : Int)))) (7 : Int)))) rfl rfl (fun w27 e27 => Vp.mono (Qa3 (Xm rfl rfl) (Eo ((Zd (b ^^^ (c + (Zd (d ^^^ (a + b)) (16 : Int)))) (12 : Int)) ^^^ ((c + (Zd (d ^^^ (a + b)) (16 : Int))) + (Zd ((Zd (d ^^^ (a + b)) (16 : Int)) ^^^ ((a + b) + (Zd (b ^^^ (c + (Zd (d ^^^ (a + b)) (16 : Int)))) (12 : Int)))) (8 : Int)))) _ _)) (by rintro _ w28 ⟨rfl, rfl⟩; exact ⟨rfl, Ext.refl _⟩)) ?_
 refine Gs m26 fun w30 m30 => Qd (Xv 1 1 Gv Zj s1) <| Vz m30 (Zn (f := u32) (l' := [(a + b) + (Zd (b ^^^ (c + (Zd (d ^^^ (a + b)) (16 : Int)))) (12 : Int)), Zd ((Zd (b ^^^ (c + (Zd (d ^^^ (a + b)) (16 : Int)))) (12 : Int)) ^^^ ((c + (Zd (d ^^^ (a + b)) (16 : Int))) + (Zd ((Zd (d ^^^ (a + b)) (16 : Int)) ^^^ ((a + b) + (Zd (b ^^^ (c + (Zd (d ^^^ (a + b)) (16 : Int)))) (12 : Int)))) (8 : Int)))) (7 : Int), (c + (Zd (d ^^^ (a + b)) (16 : Int))) + (Zd ((Zd (d ^^^ (a + b)) (16 : Int)) ^^^ ((a + b) + (Zd (b ^^^ (c + (Zd (d ^^^ (a + b)) (16 : Int)))) (12 : Int)))) (8 : Int)), Zd ((Zd (d ^^^ (a + b)) (16 : Int)) ^^^ ((a + b) + (Zd (b ^^^ (c + (Zd (d ^^^ (a + b)) (16 : Int)))) (12 : Int)))) (8 : Int)]) rfl Xf Zj rfl rfl m30.h1 X7 (.inl (Nat.zero_le _))) fun w31 m31 => ?_
 refine Zv (Qh (Qb ?_))
 refine Qd (v := (i64 4)) (Yo 3 1) <| Zp (i64 4) ?_
 refine rN (Zt (sR ?_))
 refine Qd (Jf 4 4) ?_
 refine rN (Qa ?_)
 refine Yy rfl Jg <| X6 ?_
 refine Qm (Qm (Xi ?_))
 refine sR <| Qd (Qp Gv rfl Qbk s1 m31.h1 sZ) <| Ye m31 (Qj (f := u32) (l := [(a + b) + (Zd (b ^^^ (c + (Zd (d ^^^ (a + b)) (16 : Int)))) (12 : Int)), Zd ((Zd (b ^^^ (c + (Zd (d ^^^ (a + b)) (16 : Int)))) (12 : Int)) ^^^ ((c + (Zd (d ^^^ (a + b)) (16 : Int))) + (Zd ((Zd (d ^^^ (a + b)) (16 : Int)) ^^^ ((a + b) + (Zd (b ^^^ (c + (Zd (d ^^^ (a + b)) (16 : Int)))) (12 : Int)))) (8 : Int)))) (7 : Int), (c + (Zd (d ^^^ (a + b)) (16 : Int))) + (Zd ((Zd (d ^^^ (a + b)) (16 : Int)) ^^^ ((a + b) + (Zd (b ^^^ (c + (Zd (d ^^^ (a + b)) (16 : Int)))) (12 : Int)))) (8 : Int)), Zd ((Zd (d ^^^ (a + b)) (16 : Int)) ^^^ ((a + b) + (Zd (b ^^^ (c + (Zd (d ^^^ (a + b)) (16 : Int)))) (12 : Int)))) (8 : Int)]) Xf Qbk s2 rfl sD m31.h0 sZ rfl) fun w32 m32 => ?_
 refine rN (Xb ?_)
 refine Qv [(agg u32 ([(a + b) + (Zd (b ^^^ (c + (Zd (d ^^^ (a + b)) (16 : Int)))) (12 : Int)), Zd ((Zd (b ^^^ (c + (Zd (d ^^^ (a + b)) (16 : Int)))) (12 : Int)) ^^^ ((c + (Zd (d ^^^ (a + b)) (16 : Int))) + (Zd ((Zd (d ^^^ (a + b)) (16 : Int)) ^^^ ((a + b) + (Zd (b ^^^ (c + (Zd (d ^^^ (a + b)) (16 : Int)))) (12 : Int)))) (8 : Int)))) (7 : Int), (c + (Zd (d ^^^ (a + b)) (16 : Int))) + (Zd ((Zd (d ^^^ (a + b)) (16 : Int)) ^^^ ((a + b) + (Zd (b ^^^ (c + (Zd (d ^^^ (a + b)) (16 : Int)))) (12 : Int)))) (8 : Int)), Zd ((Zd (d ^^^ (a + b)) (16 : Int)) ^^^ ((a + b) + (Zd (b ^^^ (c + (Zd (d ^^^ (a + b)) (16 : Int)))) (12 : Int)))) (8 : Int)]))] ⟨⟨_, s2, Xr Gv rfl Qbk m32.h0 sZ⟩, trivial⟩ ?_
 exact ⟨rfl, m32.toExt⟩
theorem Qpu (a b c d : BitVec 32) (w0 : World)   : X9 prog 109 #[(agg u32 ([a, b, c, d]))] w0 (fun r w1 => r = (agg u32 (Wi Y6 a b c d)) ∧ Ext w0 w1) := by
 refine Zb (args := [(agg u32 ([a, b, c, d]))]) func109 rfl ntmps109 results109 rfl ?_
 have m0 : Mem w0 (Qu w0) [] := Mem.of_world w0
 refine sR <| Y9 (Xa (f := u32) (l := [a, b, c, d]) m0 rfl) fun w1 b1 m1 => Y9 (Zc m1 Qbk) fun w2 b2 m2 => ?_
 refine rN (Qa ?_)
 refine Xl (dl 11) 11 Xw <| Yb rfl (Xv 0 0 Gv Zj rfl) <| Yn (v := (u32 a)) rfl (fun _ e' => Ql Xx rfl rfl (m2.ext e').h1 (Qx _ _ 0 X7)) <| Yb rfl (Xv 1 1 Gv Zj rfl) <| Yn (v := (u32 b)) rfl (fun _ e' => Ql Xx rfl rfl (m2.ext e').h1 (Qx _ _ 0 X7)) <| Yb rfl (Xv 2 2 Gv Zj rfl) <| Yn (v := (u32 c)) rfl (fun _ e' => Ql Xx rfl rfl (m2.ext e').h1 (Qx _ _ 0 X7)) <| Yb rfl (Xv 3 3 Gv Zj rfl) <| Yn (v := (u32 d)) rfl (fun _ e' => Ql Xx rfl rfl (m2.ext e').h1 (Qx _ _ 0 X7)) <| Yb rfl (Uw (v := (u32 a)) rfl) <| Yb rfl (Uw (v := (u32 b)) rfl) <| Yb rfl (Uw (v := (u32 c)) rfl) ?_
 refine Gs m2 fun w3 m3 => Zz (u32 d) ?_
 refine rN (sR ?_)
 refine Zp (u32 a) <| Zp (u32 b) <| Qd (X5 rfl rfl) <| Zz (u32 (a + b)) ?_
 refine rN (sR ?_)
 refine Zp (u32 d) <| Zp (u32 (a + b)) <| Qd (Ju rfl rfl) <| U9 m3 (oc115 (Xm rfl rfl) (Qic (d ^^^ (a + b)) _ _ sD sD)) fun w4 m4 => Zz (u32 (Y6 (d ^^^ (a + b)) (16 : Int))) ?_
 refine rN (sR ?_)
 refine Zp (u32 c) <| Zp (u32 (Y6 (d ^^^ (a + b)) (16 : Int))) <| Qd (X5 rfl rfl) <| Zz (u32 (c + (Y6 (d ^^^ (a + b)) (16 : Int)))) ?_
 refine rN (sR ?_)
 refine Zp (u32 b) <| Zp (u32 (c + (Y6 (d ^^^ (a + b)) (16 : Int)))) <| Qd (Ju rfl rfl) <| U9 m4 (oc115 (Xm rfl rfl) (Qic (b ^^^ (c + (Y6 (d ^^^ (a + b)) (16 : Int)))) _ _ sD sD)) fun w6 m6 => Zz (u32 (Y6 (b ^^^ (c + (Y6 (d ^^^ (a + b)) (16 : Int)))) (12 : Int))) ?_
 refine rN (sR ?_)
 refine Zp (u32 (a + b)) <| Zp (u32 (Y6 (b ^^^ (c + (Y6 (d ^^^ (a + b)) (16 : Int)))) (12 : Int))) <| Qd (X5 rfl rfl) <| Sz rfl ?_
 refine rN (sR ?_)
 refine Zp (u32 (Y6 (d ^^^ (a + b)) (16 : Int))) <| Ya rfl <| Qd (Ju rfl rfl) <| U9 m6 (oc115 (Xm rfl rfl) (Qic ((Y6 (d ^^^ (a + b)) (16 : Int)) ^^^ ((a + b) + (Y6 (b ^^^ (c + (Y6 (d ^^^ (a + b)) (16 : Int)))) (12 : Int)))) _ _ sD sD)) fun w8 m8 => Sz rfl ?_
 refine rN (sR ?_)
 refine Zp (u32 (c + (Y6 (d ^^^ (a + b)) (16 : Int)))) <| Ya rfl <| Qd (X5 rfl rfl) <| Sz rfl ?_
 refine rN (sR ?_)
 refine Zp (u32 (Y6 (b ^^^ (c + (Y6 (d ^^^ (a + b)) (16 : Int)))) (12 : Int))) <| Ya rfl <| Qd (Ju rfl rfl) <| U9 m8 (oc115 (Xm rfl rfl) (Qic ((Y6 (b ^^^ (c + (Y6 (d ^^^ (a + b)) (16 : Int)))) (12 : Int)) ^^^ ((c + (Y6 (d ^^^ (a + b)) (16 : Int))) + (Y6 ((Y6 (d ^^^ (a + b)) (16 : Int)) ^^^ ((a + b) + (Y6 (b ^^^ (c + (Y6 (d ^^^ (a + b)) (16 : Int)))) (12 : Int)))) (8 : Int)))) _ _ sD sD)) fun w10 m10 => Sz rfl ?_
 refine rN (sR ?_)
 refine Ya rfl <| Ya rfl <| Ya rfl <| Ya rfl <| Qd (Gq u32 [(a + b) + (Y6 (b ^^^ (c + (Y6 (d ^^^ (a + b)) (16 : Int)))) (12 : Int)), Y6 ((Y6 (b ^^^ (c + (Y6 (d ^^^ (a + b)) (16 : Int)))) (12 : Int)) ^^^ ((c + (Y6 (d ^^^ (a + b)) (16 : Int))) + (Y6 ((Y6 (d ^^^ (a + b)) (16 : Int)) ^^^ ((a + b) + (Y6 (b ^^^ (c + (Y6 (d ^^^ (a + b)) (16 : Int)))) (12 : Int)))) (8 : Int)))) (7 : Int), (c + (Y6 (d ^^^ (a + b)) (16 : Int))) + (Y6 ((Y6 (d ^^^ (a + b)) (16 : Int)) ^^^ ((a + b) + (Y6 (b ^^^ (c + (Y6 (d ^^^ (a + b)) (16 : Int)))) (12 : Int)))) (8 : Int)), Y6 ((Y6 (d ^^^ (a + b)) (16 : Int)) ^^^ ((a + b) + (Y6 (b ^^^ (c + (Y6 (d ^^^ (a + b)) (16 : Int)))) (12 : Int)))) (8 : Int)] Xf Qbk Gv Zj rfl rfl) <| Ye m10 (Qj (f := u32) (l := [(a + b) + (Y6 (b ^^^ (c + (Y6 (d ^^^ (a + b)) (16 : Int)))) (12 : Int)), Y6 ((Y6 (b ^^^ (c + (Y6 (d ^^^ (a + b)) (16 : Int)))) (12 : Int)) ^^^ ((c + (Y6 (d ^^^ (a + b)) (16 : Int))) + (Y6 ((Y6 (d ^^^ (a + b)) (16 : Int)) ^^^ ((a + b) + (Y6 (b ^^^ (c + (Y6 (d ^^^ (a + b)) (16 : Int)))) (12 : Int)))) (8 : Int)))) (7 : Int), (c + (Y6 (d ^^^ (a + b)) (16 : Int))) + (Y6 ((Y6 (d ^^^ (a + b)) (16 : Int)) ^^^ ((a + b) + (Y6 (b ^^^ (c + (Y6 (d ^^^ (a + b)) (16 : Int)))) (12 : Int)))) (8 : Int)), Y6 ((Y6 (d ^^^ (a + b)) (16 : Int)) ^^^ ((a + b) + (Y6 (b ^^^ (c + (Y6 (d ^^^ (a + b)) (16 : Int)))) (12 : Int)))) (8 : Int)]) Xf Qbk rfl rfl sD m10.h0 sZ rfl) fun w12 m12 => ?_
 refine rN (Xb ?_)
 refine Qv [(agg u32 ([(a + b) + (Y6 (b ^^^ (c + (Y6 (d ^^^ (a + b)) (16 : Int)))) (12 : Int)), Y6 ((Y6 (b ^^^ (c + (Y6 (d ^^^ (a + b)) (16 : Int)))) (12 : Int)) ^^^ ((c + (Y6 (d ^^^ (a + b)) (16 : Int))) + (Y6 ((Y6 (d ^^^ (a + b)) (16 : Int)) ^^^ ((a + b) + (Y6 (b ^^^ (c + (Y6 (d ^^^ (a + b)) (16 : Int)))) (12 : Int)))) (8 : Int)))) (7 : Int), (c + (Y6 (d ^^^ (a + b)) (16 : Int))) + (Y6 ((Y6 (d ^^^ (a + b)) (16 : Int)) ^^^ ((a + b) + (Y6 (b ^^^ (c + (Y6 (d ^^^ (a + b)) (16 : Int)))) (12 : Int)))) (8 : Int)), Y6 ((Y6 (d ^^^ (a + b)) (16 : Int)) ^^^ ((a + b) + (Y6 (b ^^^ (c + (Y6 (d ^^^ (a + b)) (16 : Int)))) (12 : Int)))) (8 : Int)]))] ⟨⟨_, rfl, Xr Gv rfl Qbk m12.h0 sZ⟩, trivial⟩ ?_
 exact ⟨rfl, m12.toExt⟩
theorem Qas (v : Value) (l : Xg) (w0 : World)  (hr : Rd (Jl w0) u8 v l) (hl : 4 ≤ l.length) : X9 prog 113 #[v] w0 (fun r w1 => r = (u32 (Xd l)) ∧ Ext w0 w1) := by
 refine Zb (args := [v]) func113 rfl ntmps113 results113 rfl ?_
 have m0 : Mem w0 (Qu w0) [] := Mem.of_world w0
 obtain ⟨a, b, c, d, r, rfl⟩ := list4r l hl
 refine sR <| Zz (u32 0#32) ?_
 refine rN (Qa (sR ?_))
 refine Zp v <| Qd (Jd (i := 0) (j := 4) (hr.ext m0.toExt) Zu Y0 rfl (Zi _ _) (Yh (k := .i64) (i := 4) rfl) oM oM (by simp only [List.length_cons]; omega)) <| Qd (Yl (l := [a, b, c, d]) (Rd.cast (l' := [a, b, c, d]) (Rd.sub (hr.ext m0.toExt) oM oM (by simp only [List.length_cons]; omega)) rfl) Zu rfl) <| Zp (i64 0) ?_
 refine rN (Qk ?_)
 refine Wx 5 ?_
 refine Zt (sR ?_)
 refine Qd (Jf 0 4) ?_
 refine rN (Qa ?_)
 refine Za rfl Jg ?_
 refine Qs (Qc (Qa (Qk (sR ?_))))
 refine Zp (i64 0) <| Qd (Zw (i := 0) (Rd.cast (l' := [a, b, c, d]) (Rd.sub (hr.ext m0.toExt) oM oM (by simp only [List.length_cons]; omega)) rfl) Zu Y0 rfl rfl oM X7) <| Qd (v := (u8 a)) (X8 (l := [a, b, c, d]) (i := 0) (dflt := 0) (Rd.cast (l' := [a, b, c, d]) (Rd.sub (hr.ext m0.toExt) oM oM (by simp only [List.length_cons]; omega)) rfl) Gl rfl oM X7 rfl) <| Zz (i64 0) <| Zz (u8 a) ?_
 refine rN (Qb ?_)
 refine Zp (u32 0#32) <| Zp (u8 a) <| Qd (Wj ⟨_, Gl⟩ Xx rfl) <| Zp (i64 0) <| Qd (v := (i64 0)) (V7 8 0) <| Qd (Fv (b := 0) rfl rfl oM) <| Qd (Du (a := 0#32) rfl rfl) <| Zz (u32 (0#32 ||| ((a.setWidth 32) <<< 0))) ?_
 refine Zv (Qh (Qb ?_))
 refine Qd (v := (i64 1)) (Yo 0 1) <| Zp (i64 1) ?_
 refine rN (Zt (sR ?_))
 refine Qd (Jf 1 4) ?_
 refine rN (Qa ?_)
 refine Za rfl Jg ?_
 refine Qs (Qc (Qa (Qk (sR ?_))))
 refine Zp (i64 1) <| Qd (Zw (i := 1) (Rd.cast (l' := [a, b, c, d]) (Rd.sub (hr.ext m0.toExt) oM oM (by simp only [List.length_cons]; omega)) rfl) Zu Y0 rfl rfl oM X7) <| Qd (v := (u8 b)) (X8 (l := [a, b, c, d]) (i := 1) (dflt := 0) (Rd.cast (l' := [a, b, c, d]) (Rd.sub (hr.ext m0.toExt) oM oM (by simp only [List.length_cons]; omega)) rfl) Gl rfl oM X7 rfl) <| Zz (i64 1) <| Zz (u8 b) ?_
 refine rN (Qb ?_)
 refine Zp (u32 (0#32 ||| ((a.setWidth 32) <<< 0))) <| Zp (u8 b) <| Qd (Wj ⟨_, Gl⟩ Xx rfl) <| Zp (i64 1) <| Qd (v := (i64 8)) (V7 8 1) <| Qd (Fv (b := 8) rfl rfl oM) <| Qd (Du rfl rfl) <| Zz (u32 ((0#32 ||| ((a.setWidth 32) <<< 0)) ||| ((b.setWidth 32) <<< 8))) ?_
 refine Zv (Qh (Qb ?_))
 refine Qd (v := (i64 2)) (Yo 1 1) <| Zp (i64 2) ?_
 refine rN (Zt (sR ?_))
 refine Qd (Jf 2 4) ?_
 refine rN (Qa ?_)
 refine Za rfl Jg ?_
 refine Qs (Qc (Qa (Qk (sR ?_))))
 refine Zp (i64 2) <| Qd (Zw (i := 2) (Rd.cast (l' := [a, b, c, d]) (Rd.sub (hr.ext m0.toExt) oM oM (by simp only [List.length_cons]; omega)) rfl) Zu Y0 rfl rfl oM X7) <| Qd (v := (u8 c)) (X8 (l := [a, b, c, d]) (i := 2) (dflt := 0) (Rd.cast (l' := [a, b, c, d]) (Rd.sub (hr.ext m0.toExt) oM oM (by simp only [List.length_cons]; omega)) rfl) Gl rfl oM X7 rfl) <| Zz (i64 2) <| Zz (u8 c) ?_
 refine rN (Qb ?_)
 refine Zp (u32 ((0#32 ||| ((a.setWidth 32) <<< 0)) ||| ((b.setWidth 32) <<< 8))) <| Zp (u8 c) <| Qd (Wj ⟨_, Gl⟩ Xx rfl) <| Zp (i64 2) <| Qd (v := (i64 16)) (V7 8 2) <| Qd (Fv (b := 16) rfl rfl oM) <| Qd (Du rfl rfl) <| Sz rfl ?_
 refine Zv (Qh (Qb ?_))
 refine Qd (v := (i64 3)) (Yo 2 1) <| Zp (i64 3) ?_
 refine rN (Zt (sR ?_))
 refine Qd (Jf 3 4) ?_
 refine rN (Qa ?_)
 refine Za rfl Jg ?_
 refine Qs (Qc (Qa (Qk (sR ?_))))
 refine Zp (i64 3) <| Qd (Zw (i := 3) (Rd.cast (l' := [a, b, c, d]) (Rd.sub (hr.ext m0.toExt) oM oM (by simp only [List.length_cons]; omega)) rfl) Zu Y0 rfl rfl oM X7) <| Qd (v := (u8 d)) (X8 (l := [a, b, c, d]) (i := 3) (dflt := 0) (Rd.cast (l' := [a, b, c, d]) (Rd.sub (hr.ext m0.toExt) oM oM (by simp only [List.length_cons]; omega)) rfl) Gl rfl oM X7 rfl) <| Zz (i64 3) <| Zz (u8 d) ?_
 refine rN (Qb ?_)
 refine Ya rfl <| Zp (u8 d) <| Qd (Wj ⟨_, Gl⟩ Xx rfl) <| Zp (i64 3) <| Qd (v := (i64 24)) (V7 8 3) <| Qd (Fv (b := 24) rfl rfl oM) <| Qd (Du rfl rfl) <| Sz rfl ?_
 refine Zv (Qh (Qb ?_))
 refine Qd (v := (i64 4)) (Yo 3 1) <| Zp (i64 4) ?_
 refine rN (Zt (sR ?_))
 refine Qd (Jf 4 4) ?_
 refine rN (Qa ?_)
 refine Yy rfl Jg <| X6 ?_
 refine Qm (Qm (Xi ?_))
 refine sR <| Ya rfl <| Sz rfl ?_
 refine rN (Xb ?_)
 refine Qv [(u32 ((((0#32 ||| ((a.setWidth 32) <<< 0)) ||| ((b.setWidth 32) <<< 8)) ||| ((c.setWidth 32) <<< 16)) ||| ((d.setWidth 32) <<< 24)))] ⟨rfl, trivial⟩ ?_
 exact ⟨rfl, m0.toExt⟩
theorem Qqq (v : Value) (l : Xg) (w0 : World)  (hr : Rd (Jl w0) u8 v l) (hl : 4 ≤ l.length) : X9 prog 107 #[v] w0 (fun r w1 => r = (u32 (Yq l)) ∧ Ext w0 w1) := by
 refine Zb (args := [v]) func107 rfl ntmps107 results107 rfl ?_
 have m0 : Mem w0 (Qu w0) [] := Mem.of_world w0
 refine sR <| Zz (u32 0#32) ?_
 refine rN (Qa ?_)
 refine Xl (dl 21) 21 Xw <| Ky rfl v <| Yn rfl (fun _ e' => Zw (i := 0) (Rd.ofRest hr (m0.ext e')) Zu Y0 rfl rfl oM sD) <| Yn (v := (u8 (l.getD 0 0))) rfl (fun _ e' => X8 (l := l) (i := 0) (dflt := 0) (Rd.ofRest hr (m0.ext e')) Gl rfl oM sD rfl) <| Yb rfl (Wj ⟨_, Gl⟩ Xx rfl) <| Ky rfl v <| Yn rfl (fun _ e' => Zw (i := 1) (Rd.ofRest hr (m0.ext e')) Zu Y0 rfl rfl oM sD) <| Yn (v := (u8 (l.getD 1 0))) rfl (fun _ e' => X8 (l := l) (i := 1) (dflt := 0) (Rd.ofRest hr (m0.ext e')) Gl rfl oM sD rfl) <| Yb rfl (Wj ⟨_, Gl⟩ Xx rfl) <| Yb rfl (Ls (b := 256#32) rfl rfl) <| Yb rfl (X5 rfl rfl) <| Ky rfl v ?_
 refine Yn rfl (fun _ e' => Zw (i := 2) (Rd.ofRest hr (m0.ext e')) Zu Y0 rfl rfl oM sD) <| Yn (v := (u8 (l.getD 2 0))) rfl (fun _ e' => X8 (l := l) (i := 2) (dflt := 0) (Rd.ofRest hr (m0.ext e')) Gl rfl oM sD rfl) <| Yb rfl (Wj ⟨_, Gl⟩ Xx rfl) <| Yb rfl (Ls (b := 65536#32) rfl rfl) <| Yb rfl (X5 rfl rfl) <| Ky rfl v <| Yn rfl (fun _ e' => Zw (i := 3) (Rd.ofRest hr (m0.ext e')) Zu Y0 rfl rfl oM sD) <| Yn (v := (u8 (l.getD 3 0))) rfl (fun _ e' => X8 (l := l) (i := 3) (dflt := 0) (Rd.ofRest hr (m0.ext e')) Gl rfl oM sD rfl) <| Yb rfl (Wj ⟨_, Gl⟩ Xx rfl) <| Yb rfl (Ls (b := 16777216#32) rfl rfl) <| Gs m0 fun w1 m1 => Qd (X5 rfl rfl) <| Sz rfl ?_
 refine rN (Xb ?_)
 refine Qv [(u32 (((((l.getD 0 0).setWidth 32) + (((l.getD 1 0).setWidth 32) * 256#32)) + (((l.getD 2 0).setWidth 32) * 65536#32)) + (((l.getD 3 0).setWidth 32) * 16777216#32)))] ⟨rfl, trivial⟩ ?_
 exact ⟨rfl, m1.toExt⟩
theorem Aj (bs : Nat) (s : List (BitVec 32)) (i0 i1 i2 i3 : Int) (w0 : World) (R : Rest) (m0 : Mem w0 R [(bs, .cells (cl u32 s) 156 (0, 0))]) (hl : s.length = 16) (h0 : 0 ≤ i0 ∧ i0 < 16) (h1 : 0 ≤ i1 ∧ i1 < 16) (h2 : 0 ≤ i2 ∧ i2 < 16) (h3 : 0 ≤ i3 ∧ i3 < 16) : X9 prog 104 #[(ptr bs 0), (agg i64 ([i0, i1, i2, i3]))] w0 (fun r w1 => r = .tuple #[] ∧ Mem w1 R [(bs, .cells (cl u32 (Au s i0.toNat i1.toNat i2.toNat i3.toNat)) 156 (0, 0))]) := by
 refine Zb (args := [(ptr bs 0), (agg i64 ([i0, i1, i2, i3]))]) func104 rfl ntmps104 results104 rfl <| sR <| Y9 (Xa (f := i64) (l := [i0, i1, i2, i3]) m0 rfl) fun w1 b3 m1 => ?_
 refine rN (sR ?_)
 refine Y9 (Zc m1 Qbk) fun w2 b4 m2 => ?_
 refine rN (Qa (sR ?_))
 refine Qd (Qp Hg rfl Qd6 rfl m2.h1 sZ) <| Zp (i64 0) ?_
 refine rN (Qk ?_)
 refine Wx 5 ?_
 refine Zt (sR ?_)
 refine Qd (Jf 0 4) ?_
 refine rN (Qa ?_)
 refine Za rfl Jg ?_
 refine Qs (Qc (Qa (Qk (sR ?_))))
 refine Zp (i64 0) <| Qd (v := (i64 i0)) (J7 (i := 0) Hg Fj rfl U0 rfl rfl oM sD (Qx _ _ 0 X7)) <| Zz (i64 0) <| Zz (i64 i0) ?_
 refine rN (Qb ?_)
 refine Zp (i64 0) <| Zp (ptr bs 0) <| Zp (i64 i0) <| Qd (Zh rfl) <| Qd (Zo (r := (i0 : Int).toNat) oM D8 Zj rfl rfl oM sD) <| Qd (v := (u32 (s.getD ((i0 : Int).toNat) 0))) (Ql Xx rfl rfl m2.h2 (Qx _ _ 0 sD)) <| Qd (Xv 0 0 Gv Zj rfl) <| Ye m2 (Zn (f := u32) (l' := [s.getD ((i0 : Int).toNat) 0, 0, 0, 0]) rfl Xf Zj rfl rfl m2.h0 X7 (.inl (Nat.zero_le _))) fun w3 m3 => ?_
 refine Zv (Qh (Qb ?_))
 refine Qd (v := (i64 1)) (Yo 0 1) <| Zp (i64 1) ?_
 refine rN (Zt (sR ?_))
 refine Qd (Jf 1 4) ?_
 refine rN (Qa ?_)
 refine Za rfl Jg ?_
 refine Qs (Qc (Qa (Qk (sR ?_))))
 refine Zp (i64 1) <| Qd (v := (i64 i1)) (J7 (i := 1) Hg Fj rfl U0 rfl rfl oM sD (Qx _ _ 0 X7)) <| Zz (i64 1) <| Zz (i64 i1) ?_
 refine rN (Qb ?_)
 refine Zp (i64 1) <| Zp (ptr bs 0) <| Zp (i64 i1) <| Qd (Zh rfl) <| Qd (Zo (r := (i1 : Int).toNat) oM D8 Zj rfl rfl oM sD) <| Qd (v := (u32 (s.getD ((i1 : Int).toNat) 0))) (Ql Xx rfl rfl m3.h2 (Qx _ _ 0 sD)) <| Qd (Xv 1 1 Gv Zj rfl) <| Ye m3 (Zn (f := u32) (l' := [s.getD ((i0 : Int).toNat) 0, s.getD ((i1 : Int).toNat) 0, 0, 0]) rfl Xf Zj rfl rfl m3.h0 X7 (.inl (Nat.zero_le _))) fun w4 m4 => ?_
 refine Zv (Qh (Qb ?_))
 refine Qd (v := (i64 2)) (Yo 1 1) <| Zp (i64 2) ?_
 refine rN (Zt (sR ?_))
 refine Qd (Jf 2 4) ?_
 refine rN (Qa ?_)
 refine Za rfl Jg ?_
 refine Qs (Qc (Qa (Qk (sR ?_))))
 refine Zp (i64 2) <| Qd (v := (i64 i2)) (J7 (i := 2) Hg Fj rfl U0 rfl rfl oM sD (Qx _ _ 0 X7)) <| Zz (i64 2) <| Zz (i64 i2) ?_
 refine rN (Qb ?_)
 refine Zp (i64 2) <| Zp (ptr bs 0) <| Zp (i64 i2) <| Qd (Zh rfl) <| Qd (Zo (r := (i2 : Int).toNat) oM D8 Zj rfl rfl oM sD) <| Qd (v := (u32 (s.getD ((i2 : Int).toNat) 0))) (Ql Xx rfl rfl m4.h2 (Qx _ _ 0 sD)) <| Qd (Xv 2 2 Gv Zj rfl) <| Ye m4 (Zn (f := u32) (l' := [s.getD ((i0 : Int).toNat) 0, s.getD ((i1 : Int).toNat) 0, s.getD ((i2 : Int).toNat) 0, 0]) rfl Xf Zj rfl rfl m4.h0 X7 (.inl (Nat.zero_le _))) fun w5 m5 => ?_
 refine Zv (Qh (Qb ?_))
 refine Qd (v := (i64 3)) (Yo 2 1) <| Zp (i64 3) ?_
 refine rN (Zt (sR ?_))
 refine Qd (Jf 3 4) ?_
 refine rN (Qa ?_)
 refine Za rfl Jg ?_
 refine Qs (Qc (Qa (Qk (sR ?_))))
 refine Zp (i64 3) <| Qd (v := (i64 i3)) (J7 (i := 3) Hg Fj rfl U0 rfl rfl oM sD (Qx _ _ 0 X7)) <| Zz (i64 3) <| Zz (i64 i3) ?_
 refine rN (Qb ?_)
 refine Zp (i64 3) <| Zp (ptr bs 0) <| Zp (i64 i3) <| Qd (Zh rfl) <| Qd (Zo (r := (i3 : Int).toNat) oM D8 Zj rfl rfl oM sD) <| Qd (v := (u32 (s.getD ((i3 : Int).toNat) 0))) (Ql Xx rfl rfl m5.h2 (Qx _ _ 0 sD)) <| Qd (Xv 3 3 Gv Zj rfl) <| Ye m5 (Zn (f := u32) (l' := [s.getD ((i0 : Int).toNat) 0, s.getD ((i1 : Int).toNat) 0, s.getD ((i2 : Int).toNat) 0, s.getD ((i3 : Int).toNat) 0]) rfl Xf Zj rfl rfl m5.h0 X7 (.inl (Nat.zero_le _))) fun w6 m6 => ?_
 refine Zv (Qh (Qb ?_))
 refine Qd (v := (i64 4)) (Yo 3 1) <| Zp (i64 4) ?_
 refine rN (Zt (sR ?_))
 refine Qd (Jf 4 4) ?_
 refine rN (Qa ?_)
 refine Yy rfl Jg <| X6 ?_
 refine Qm (Qm (Xi ?_))
 refine sR <| Qd (Qp Gv rfl Qbk rfl m6.h0 sZ) <| U9 m6 (oc114 (Kt rfl) (Qr9 (s.getD ((i0 : Int).toNat) 0) (s.getD ((i1 : Int).toNat) 0) (s.getD ((i2 : Int).toNat) 0) (s.getD ((i3 : Int).toNat) 0) _)) fun w7 m7 => Zp (i64 0) ?_
 refine rN (V5 ?_)
 refine Wx 5 ?_
 refine Zt (sR ?_)
 refine Qd (Jf 0 4) ?_
 refine rN (Qa ?_)
 refine Za rfl Jg ?_
 refine Qs (Qc (Qa (Qk (sR ?_))))
 refine Zp (i64 0) <| Qd (v := (u32 ((Wi Zd (s.getD ((i0 : Int).toNat) 0) (s.getD ((i1 : Int).toNat) 0) (s.getD ((i2 : Int).toNat) 0) (s.getD ((i3 : Int).toNat) 0)).getD 0 0))) (J7 (i := 0) Gv Xx rfl Zj rfl rfl oM sD (Qx _ _ 0 sD)) <| Zz (i64 0) <| Sz rfl <| rN <| Xl (dl 6) 6 Xw <| Ky rfl (ptr bs 0) <| Ky rfl (i64 0) <| Yb rfl (Xv 0 0 Hg U0 rfl) <| Yn (v := (i64 i0)) rfl (fun _ e' => Ql Fj rfl rfl (m7.ext e').h1 (Qx _ _ 0 X7)) <| Um rfl rfl <| Yb rfl (Zh rfl) ?_
 refine Gs m7 fun w8 m8 => Qd (Zo (r := (i0 : Int).toNat) oM D8 Zj rfl rfl oM sD) <| Bh m8 (Xz (f := u32) (a := (Wi Zd (s.getD ((i0 : Int).toNat) 0) (s.getD ((i1 : Int).toNat) 0) (s.getD ((i2 : Int).toNat) 0) (s.getD ((i3 : Int).toNat) 0)).getD 0 0) Xf Zj rfl rfl m8.h2 sD (.inl (Nat.zero_le _))) fun w9 m9 => ?_
 refine Zv (Qh (Qb ?_))
 refine Qd (v := (i64 1)) (Yo 0 1) <| Zp (i64 1) ?_
 refine rN (Zt (sR ?_))
 refine Qd (Jf 1 4) ?_
 refine rN (Qa ?_)
 refine Za rfl Jg ?_
 refine Qs (Qc (Qa (Qk (sR ?_))))
 refine Zp (i64 1) <| Qd (v := (u32 ((Wi Zd (s.getD ((i0 : Int).toNat) 0) (s.getD ((i1 : Int).toNat) 0) (s.getD ((i2 : Int).toNat) 0) (s.getD ((i3 : Int).toNat) 0)).getD 1 0))) (J7 (i := 1) Gv Xx rfl Zj rfl rfl oM sD (Qx _ _ 0 sD)) <| Zz (i64 1) <| Sz rfl <| rN ?_
 refine CW.abs (fun g => g 0 = (ptr bs 0) ∧ g 1 = (agg i64 ([i0, i1, i2, i3])) ∧ g 3 = (ptr b3 0) ∧ g 4 = (ptr b4 0) ∧ g 5 = (i64 3) ∧ g 6 = (i64 i3) ∧ g 7 = (i64 1) ∧ g 8 = (u32 ((Wi Zd (s.getD ((i0 : Int).toNat) 0) (s.getD ((i1 : Int).toNat) 0) (s.getD ((i2 : Int).toNat) 0) (s.getD ((i3 : Int).toNat) 0)).getD 1 0)) ∧ g 9 = (agg i64 ([i0, i1, i2, i3])) ∧ g 10 = (i64 4) ∧ g 11 = (bl false) ∧ g 23 = (agg u32 (Wi Zd (s.getD ((i0 : Int).toNat) 0) (s.getD ((i1 : Int).toNat) 0) (s.getD ((i2 : Int).toNat) 0) (s.getD ((i3 : Int).toNat) 0))) ∧ g 24 = (i64 1) ∧ g 25 = (bl true) ∧ True) ⟨rfl, rfl, rfl, rfl, rfl, rfl, rfl, rfl, rfl, rfl, rfl, rfl, rfl, rfl, trivial⟩ ?_
 rintro fr10 ⟨s0, s1, s3, s4, s5, s6, s7, s8, s9, s10, s11, s23, s24, s25, _⟩
 refine Xl (dl 6) 6 Xw <| Um rfl s0 <| Um rfl s7 <| Yb rfl (Xv 1 1 Hg U0 s3) <| Yn (v := (i64 i1)) rfl (fun _ e' => Ql Fj rfl rfl (m9.ext e').h1 (Qx _ _ 0 X7)) <| Um rfl s8 <| Yb rfl (Zh rfl) <| Gs m9 fun w11 m11 => Qd (Zo (r := (i1 : Int).toNat) oM D8 Zj rfl rfl oM sD) <| Bh m11 (Xz (f := u32) (a := (Wi Zd (s.getD ((i0 : Int).toNat) 0) (s.getD ((i1 : Int).toNat) 0) (s.getD ((i2 : Int).toNat) 0) (s.getD ((i3 : Int).toNat) 0)).getD 1 0) Xf Zj rfl rfl m11.h2 sD (.inl (Nat.zero_le _))) fun w12 m12 => ?_
 refine Zv (Qh (Qb ?_))
 refine Qd (v := (i64 2)) (Zg (a := 1) (b := 1) s24 rfl oM oM) <| Zp (i64 2) ?_
 refine rN (Zt (sR ?_))
 refine Qd (Jf 2 4) ?_
 refine rN (Qa ?_)
 refine Za rfl Jg ?_
 refine Qs (Qc (Qa (Qk (sR ?_))))
 refine Zp (i64 2) <| Qd (v := (u32 ((Wi Zd (s.getD ((i0 : Int).toNat) 0) (s.getD ((i1 : Int).toNat) 0) (s.getD ((i2 : Int).toNat) 0) (s.getD ((i3 : Int).toNat) 0)).getD 2 0))) (J7 (i := 2) Gv Xx rfl Zj s23 rfl oM sD (Qx _ _ 0 sD)) <| Zz (i64 2) <| Sz rfl <| rN <| Xl (dl 6) 6 Xw <| Um rfl s0 <| Ky rfl (i64 2) <| Yb rfl (Xv 2 2 Hg U0 s3) <| Yn (v := (i64 i2)) rfl (fun _ e' => Ql Fj rfl rfl (m12.ext e').h1 (Qx _ _ 0 X7)) <| Um rfl rfl <| Yb rfl (Zh rfl) ?_
 refine Gs m12 fun w13 m13 => Qd (Zo (r := (i2 : Int).toNat) oM D8 Zj rfl rfl oM sD) <| Bh m13 (Xz (f := u32) (a := (Wi Zd (s.getD ((i0 : Int).toNat) 0) (s.getD ((i1 : Int).toNat) 0) (s.getD ((i2 : Int).toNat) 0) (s.getD ((i3 : Int).toNat) 0)).getD 2 0) Xf Zj rfl rfl m13.h2 sD (.inl (Nat.zero_le _))) fun w14 m14 => ?_
 refine Zv (Qh (Qb ?_))
 refine Qd (v := (i64 3)) (Yo 2 1) <| Zp (i64 3) ?_
 refine rN (Zt (sR ?_))
 refine Qd (Jf 3 4) ?_
 refine rN (Qa ?_)
 refine Za rfl Jg ?_
 refine Qs (Qc (Qa (Qk (sR ?_))))
 refine Zp (i64 3) <| Qd (v := (u32 ((Wi Zd (s.getD ((i0 : Int).toNat) 0) (s.getD ((i1 : Int).toNat) 0) (s.getD ((i2 : Int).toNat) 0) (s.getD ((i3 : Int).toNat) 0)).getD 3 0))) (J7 (i := 3) Gv Xx rfl Zj s23 rfl oM sD (Qx _ _ 0 sD)) <| Zz (i64 3) <| Sz rfl <| rN <| Xl (dl 6) 6 Xw <| Um rfl s0 <| Ky rfl (i64 3) <| Yb rfl (Xv 3 3 Hg U0 s3) <| Yn (v := (i64 i3)) rfl (fun _ e' => Ql Fj rfl rfl (m14.ext e').h1 (Qx _ _ 0 X7)) <| Um rfl rfl <| Yb rfl (Zh rfl) ?_
 refine Gs m14 fun w15 m15 => Qd (Zo (r := (i3 : Int).toNat) oM D8 Zj rfl rfl oM sD) <| Bh m15 (Xz (f := u32) (a := (Wi Zd (s.getD ((i0 : Int).toNat) 0) (s.getD ((i1 : Int).toNat) 0) (s.getD ((i2 : Int).toNat) 0) (s.getD ((i3 : Int).toNat) 0)).getD 3 0) Xf Zj rfl rfl m15.h2 sD (.inl (Nat.zero_le _))) fun w16 m16 => ?_
 refine Zv (Qh (Qb ?_))
 refine Qd (v := (i64 4)) (Yo 3 1) <| Zp (i64 4) ?_
 refine rN (Zt (sR ?_))
 refine Qd (Jf 4 4) ?_
 refine rN (Qa ?_)
 refine Yy rfl Jg <| X6 ?_
 refine Qm (Qm (Xi ?_))
 refine Ld [] trivial ?_
 exact ⟨rfl, Mem.drop [_, _] _ m16⟩
end Go.Proofs.YtkmiemlpfkfiiaaDoor
