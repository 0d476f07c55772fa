/- Contracts: stream, first part. Conditions: none beyond those that each theorem states. -/
import Derived.Test.YtkmiemlpfkfiiaaDoorTab
namespace Go.Proofs.YtkmiemlpfkfiiaaDoor
set_option linter.unusedVariables false
set_option linter.unusedSimpArgs false
def Zb (x : BitVec 32) (k : Int) : BitVec 32 := (x <<< (BitVec.ofInt 64 k &&& 31#64).toNat) ||| (x >>> (32#64 - (BitVec.ofInt 64 k &&& 31#64)).toNat)
def Yg (x : BitVec 32) (n : Int) : BitVec 32 := (x <<< n.toNat) ||| (x >>> (32 - n).toNat)
def Jg (rot : BitVec 32 → Int → BitVec 32) (a b c d : BitVec 32) : List (BitVec 32) :=
 let a1 := a + b
 let d1 := rot (d ^^^ a1) 16
 let c1 := c + d1
 let b1 := rot (b ^^^ c1) 12
 let a2 := a1 + b1
 let d2 := rot (d1 ^^^ a2) 8
 let c2 := c1 + d2
 let b2 := rot (b1 ^^^ c2) 7
 [a2, b2, c2, d2]
@[simp] theorem Qow (rot : BitVec 32 → Int → BitVec 32) (a b c d : BitVec 32) : (Jg rot a b c d).length = 4 := rfl
def wordP (a b c d : BitVec 8) : BitVec 32 := (((0#32 ||| a.setWidth 32 <<< 0) ||| b.setWidth 32 <<< 8) ||| c.setWidth 32 <<< 16) ||| d.setWidth 32 <<< 24
def wordR (a b c d : BitVec 8) : BitVec 32 := ((a.setWidth 32 + b.setWidth 32 * 256) + c.setWidth 32 * 65536) + d.setWidth 32 * 16777216
def Z4 (l : List (BitVec 8)) : BitVec 32 := wordP (l.getD 0 0) (l.getD 1 0) (l.getD 2 0) (l.getD 3 0)
def X8 (l : List (BitVec 8)) : BitVec 32 := wordR (l.getD 0 0) (l.getD 1 0) (l.getD 2 0) (l.getD 3 0)
def Ew (s : List (BitVec 32)) (i0 i1 i2 i3 : Nat) : List (BitVec 32) :=
 let q := Jg Zb (s.getD i0 0) (s.getD i1 0) (s.getD i2 0) (s.getD i3 0)
 (((s.set i0 (q.getD 0 0)).set i1 (q.getD 1 0)).set i2 (q.getD 2 0)).set i3 (q.getD 3 0)
theorem Qk8 (s : List (BitVec 32)) (i0 i1 i2 i3 : Nat) : (Ew s i0 i1 i2 i3).length = s.length := by simp [Ew]
theorem Uh (x : BitVec 32) (k : Int) (w0 : World)   : Xz Tryd.prog 112 #[(u32 x), (i64 k)] w0 (fun r w1 => r = (u32 (Zb x k)) ∧ w1 = w0) := by
 refine Zd (args := [(u32 x), (i64 k)]) Tryd.func112 rfl Tryd.ntmps112 Tryd.results112 rfl ?_
 have m0 : Mem w0 (Qy w0) [] := Mem.of_world w0
 refine sR <| Qa rfl (Qc (v := (u32 0#32)) rfl) ?_
 refine rN (sR ?_)
 refine Qa rfl (Qb (v := (i64 k)) rfl) <| Qa rfl (Yv ⟨_, Fj⟩ uT121 rfl) <| Qa rfl (Kz (b := 31#64) rfl rfl) <| Qa rfl (Qc (v := (u64 ((BitVec.ofInt 64 k) &&& 31#64))) rfl) ?_
 refine rN (sR ?_)
 refine Qa rfl (Qb (v := (u32 x)) rfl) <| Qa rfl (Qb (v := (u64 ((BitVec.ofInt 64 k) &&& 31#64))) rfl) <| Qa rfl (G8 rfl rfl oM) <| Qa rfl (Qb (v := (u32 x)) rfl) <| Qa rfl (Qb (v := (u64 ((BitVec.ofInt 64 k) &&& 31#64))) rfl) <| Qa rfl (D5 (a := 32#64) rfl rfl) <| Qa rfl (V8 rfl rfl oM) <| Qa rfl (U5 rfl rfl) <| rA rfl rfl ?_
 refine rN (Xt ?_)
 refine Ze [(u32 ((x <<< ((BitVec.ofInt 64 k) &&& 31#64).toNat) ||| (x >>> (32#64 - ((BitVec.ofInt 64 k) &&& 31#64)).toNat)))] ⟨rfl, trivial⟩ ?_
 exact ⟨rfl, rfl⟩
theorem Qfh (x : BitVec 32) (k : Int) (w0 : World)  (h0 : 0 ≤ k) (h1 : k ≤ 32) : Xz Tryd.prog 115 #[(u32 x), (i64 k)] w0 (fun r w1 => r = (u32 (Yg x k)) ∧ Ext w0 w1) := by
 refine Zd (args := [(u32 x), (i64 k)]) Tryd.func115 rfl Tryd.ntmps115 Tryd.results115 rfl ?_
 have m0 : Mem w0 (Qy w0) [] := Mem.of_world w0
 refine sR <| Qa rfl (Qc (v := (u32 0#32)) rfl) ?_
 refine rN (Qg ?_)
 refine Xq (dl 7) 7 (by kernel_rfl) <| Qj rfl rfl (fun _ _hx => Qb (v := (u32 x)) rfl) <| Qj rfl rfl (fun _ _hx => Qb (v := (i64 k)) rfl) <| Qj rfl rfl (fun _ _hx => G8 rfl rfl oM) <| Qj rfl rfl (fun _ _hx => Qb (v := (u32 x)) rfl) <| Qj rfl rfl (fun _ _hx => Qb (v := (i64 k)) rfl) <| Qj rfl rfl (fun _ _hx => Zp (a := 32) rfl rfl oM oM) <| Qj rfl rfl (fun _ _hx => V8 rfl rfl oM) ?_
 refine Xd (fun w1 e1 => ?_)
 have m1 := m0.ext e1
 refine Qa rfl (U5 rfl rfl) <| Qa rfl (Qc (v := (u32 ((x <<< k.toNat) ||| (x >>> (32 - k).toNat)))) rfl) ?_
 refine rN (Xt ?_)
 refine Ze [(u32 ((x <<< k.toNat) ||| (x >>> (32 - k).toNat)))] ⟨rfl, trivial⟩ ?_
 exact ⟨rfl, m1.toExt⟩
theorem Qon (a b c d : BitVec 32) (w0 : World)   : Xz Tryd.prog 114 #[(agg u32 ([a, b, c, d]))] w0 (fun r w1 => r = (agg u32 (Jg Zb a b c d)) ∧ Ext w0 w1) := by
 refine Zd (args := [(agg u32 ([a, b, c, d]))]) Tryd.func114 rfl Tryd.ntmps114 Tryd.results114 rfl ?_
 have m0 : Mem w0 (Qy w0) [] := Mem.of_world w0
 refine sR <| Za rfl (Z8 (f := u32) (l := [a, b, c, d]) m0 rfl) ?_
 rintro _ w1 ⟨b1, rfl, e1, m1⟩
 refine Za rfl (Zg m1 Rq) ?_
 rintro _ w2 ⟨b2, rfl, e2, m2⟩
 refine rN (Qg (sR ?_))
 refine Qa rfl (Vf i64 [16, 12, 8, 7] Xm Qb0 Dh Dy rfl rfl) <| Qa rfl (Qb (v := (i64 0)) rfl) ?_
 refine rN (Qo ?_)
 refine Kw 5 ?_
 refine Zq (sR ?_)
 refine Qa rfl (Qs (a := 0) (b := 4) rfl rfl) ?_
 refine rN (Qg ?_)
 refine Zc rfl (by decide) ?_
 refine Q7 (Qh (Qg (Qo (sR ?_))))
 refine Qa rfl (Qb (v := (i64 0)) rfl) <| Qa (v := (i64 16)) rfl (Y4 (i := 0) Dh Fj rfl Dy rfl rfl oM sD (Qx _ _ 0 (by simp))) <| Qa rfl (Qc (v := (i64 0)) rfl) <| Qa rfl (Qc (v := (i64 16)) rfl) ?_
 refine rN (sR ?_)
 refine Qa rfl (Qc (v := (i64 0)) rfl) <| Qa rfl (Qc (v := (i64 1)) rfl) <| Qa rfl (Qc (v := (i64 3)) rfl) ?_
 refine rN (Qg (sR ?_))
 refine Qa rfl (Qb (v := (i64 0)) rfl) <| Qa (v := (i64 0)) rfl (Jy (a := 0) (b := 2) rfl rfl oM oM oM) <| Qa rfl (Vp (a := 0) (b := 1) rfl rfl) <| rN <| Yp rfl (by decide) ?_
 refine Q7 (Qh (Qg ?_))
 refine Xq (dl 6) 6 (by kernel_rfl) <| Qj rfl rfl (fun _ _hx => Qb (v := (i64 0)) rfl) <| Qj rfl rfl (fun _ _hx => Qd (r := 0) (i := 0) oM Vh Zh rfl rfl oM oM) <| Qj (v := (u32 a)) rfl rfl (fun _ _hx => Qn Xk rfl rfl (m2.ext _hx).h1 (Qx _ _ 0 (by simp))) <| Qj rfl rfl (fun _ _hx => Qb (v := (i64 1)) rfl) <| Qj rfl rfl (fun _ _hx => Qd (r := 1) (i := 1) oM Vh Zh rfl rfl oM oM) <| Qj (v := (u32 b)) rfl rfl (fun _ _hx => Qn Xk rfl rfl (m2.ext _hx).h1 (Qx _ _ 0 (by simp))) ?_
 refine Xd (fun w3 e3 => ?_)
 have m3 := m2.ext e3
 refine Qa rfl (Xp rfl rfl) <| Qa rfl (Qd (r := 0) (i := 0) oM Vh Zh rfl rfl oM oM) <| Zw (Zm (f := u32) (l' := [a + b, b, c, d]) rfl Z5 Zh rfl rfl m3.h1 (by simp) (.inl (Nat.zero_le _))) ?_
 rintro _ w4 uq4
 have m4 := m3.upd1 uq4
 refine rN <| Xq (dl 10) 10 (by kernel_rfl) <| Qj rfl rfl (fun _ _hx => Qb (v := (i64 3)) rfl) <| Qj rfl rfl (fun _ _hx => Qb (v := (i64 3)) rfl) <| Qj rfl rfl (fun _ _hx => Qd (r := 3) (i := 3) oM Vh Zh rfl rfl oM oM) <| Qj (v := (u32 d)) rfl rfl (fun _ _hx => Qn Xk rfl rfl (m4.ext _hx).h1 (Qx _ _ 0 (by simp))) <| Qj rfl rfl (fun _ _hx => Qb (v := (i64 0)) rfl) <| Qj rfl rfl (fun _ _hx => Qd (r := 0) (i := 0) oM Vh Zh rfl rfl oM oM) <| Qj (v := (u32 (a + b))) rfl rfl (fun _ _hx => Qn Xk rfl rfl (m4.ext _hx).h1 (Qx _ _ 0 (by simp))) <| Qj rfl rfl (fun _ _hx => Y0 rfl rfl) <| Qj rfl rfl (fun _ _hx => Qb (v := (i64 16)) rfl) <| Kv (v := (u32 (Zb (d ^^^ (a + b)) (16 : Int)))) rfl rfl (fun w5 e5 => Yz.mono (Pn (Xr rfl rfl) (Uh (d ^^^ (a + b)) _ _)) (by rintro _ w6 ⟨rfl, rfl⟩; exact ⟨rfl, Ext.refl _⟩)) ?_
 refine Xd (fun w8 e8 => ?_)
 have m8 := m4.ext e8
 refine Qa rfl (Qd (r := 3) (i := 3) oM Vh Zh rfl rfl oM oM) <| Zw (Zm (f := u32) (l' := [a + b, b, c, Zb (d ^^^ (a + b)) (16 : Int)]) rfl Z5 Zh rfl rfl m8.h1 (by simp) (.inl (Nat.zero_le _))) ?_
 rintro _ w9 uq9
 have m9 := m8.upd1 uq9
 refine Zr (Qi (Qe ?_))
 refine Qa (v := (i64 1)) rfl (Qk (a := 0) (b := 1) rfl rfl oM oM) <| Qa rfl (Qb (v := (i64 1)) rfl) ?_
 refine rN (Zq (sR ?_))
 refine Qa rfl (Qs (a := 1) (b := 4) rfl rfl) ?_
 refine rN (Qg ?_)
 refine Zc rfl (by decide) ?_
 refine Q7 (Qh (Qg (Qo (sR ?_))))
 refine Qa rfl (Qb (v := (i64 1)) rfl) <| Qa (v := (i64 12)) rfl (Y4 (i := 1) Dh Fj rfl Dy rfl rfl oM sD (Qx _ _ 0 (by simp))) <| Qa rfl (Qc (v := (i64 1)) rfl) <| Qa rfl (Qc (v := (i64 12)) rfl) ?_
 refine rN (sR ?_)
 refine Qa rfl (Qc (v := (i64 0)) rfl) <| Qa rfl (Qc (v := (i64 1)) rfl) <| Qa rfl (Qc (v := (i64 3)) rfl) ?_
 refine rN (Qg (sR ?_))
 refine Qa rfl (Qb (v := (i64 1)) rfl) <| Qa (v := (i64 1)) rfl (Jy (a := 1) (b := 2) rfl rfl oM oM oM) <| Qa rfl (Vp (a := 1) (b := 1) rfl rfl) <| rN <| Zc rfl (by decide) <| Qe <| Qa rfl (Qc (v := (i64 2)) rfl) <| Qa rfl (Qc (v := (i64 3)) rfl) <| Qa rfl (Qc (v := (i64 1)) rfl) ?_
 refine rN (Qg ?_)
 refine Xq (dl 6) 6 (by kernel_rfl) <| Qj rfl rfl (fun _ _hx => Qb (v := (i64 2)) rfl) <| Qj rfl rfl (fun _ _hx => Qd (r := 2) (i := 2) oM Vh Zh rfl rfl oM oM) <| Qj (v := (u32 c)) rfl rfl (fun _ _hx => Qn Xk rfl rfl (m9.ext _hx).h1 (Qx _ _ 0 (by simp))) <| Qj rfl rfl (fun _ _hx => Qb (v := (i64 3)) rfl) <| Qj rfl rfl (fun _ _hx => Qd (r := 3) (i := 3) oM Vh Zh rfl rfl oM oM) <| Qj (v := (u32 (Zb (d ^^^ (a + b)) (16 : Int)))) rfl rfl (fun _ _hx => Qn Xk rfl rfl (m9.ext _hx).h1 (Qx _ _ 0 (by simp))) ?_
 refine Xd (fun w10 e10 => ?_)
 have m10 := m9.ext e10
 refine Qa rfl (Xp rfl rfl) <| Qa rfl (Qd (r := 2) (i := 2) oM Vh Zh rfl rfl oM oM) <| Zw (Zm (f := u32) (l' := [a + b, b, c + (Zb (d ^^^ (a + b)) (16 : Int)), Zb (d ^^^ (a + b)) (16 : Int)]) rfl Z5 Zh rfl rfl m10.h1 (by simp) (.inl (Nat.zero_le _))) ?_
 rintro _ w11 uq11
 have m11 := m10.upd1 uq11
 refine rN <| Xq (dl 10) 10 (by kernel_rfl) <| Qj rfl rfl (fun _ _hx => Qb (v := (i64 1)) rfl) <| Qj rfl rfl (fun _ _hx => Qb (v := (i64 1)) rfl) <| Qj rfl rfl (fun _ _hx => Qd (r := 1) (i := 1) oM Vh Zh rfl rfl oM oM) <| Qj (v := (u32 b)) rfl rfl (fun _ _hx => Qn Xk rfl rfl (m11.ext _hx).h1 (Qx _ _ 0 (by simp))) <| Qj rfl rfl (fun _ _hx => Qb (v := (i64 2)) rfl) <| Qj rfl rfl (fun _ _hx => Qd (r := 2) (i := 2) oM Vh Zh rfl rfl oM oM) <| Qj (v := (u32 (c + (Zb (d ^^^ (a + b)) (16 : Int))))) rfl rfl (fun _ _hx => Qn Xk rfl rfl (m11.ext _hx).h1 (Qx _ _ 0 (by simp))) <| Qj rfl rfl (fun _ _hx => Y0 rfl rfl) <| Qj rfl rfl (fun _ _hx => Qb (v := (i64 12)) rfl) <| Kv (v := (u32 (Zb (b ^^^ (c + (Zb (d ^^^ (a + b)) (16 : Int)))) (12 : Int)))) rfl rfl (fun w12 e12 => Yz.mono (Pn (Xr rfl rfl) (Uh (b ^^^ (c + (Zb (d ^^^ (a + b)) (16 : Int)))) _ _)) (by rintro _ w13 ⟨rfl, rfl⟩; exact ⟨rfl, Ext.refl _⟩)) ?_
 refine Xd (fun w15 e15 => ?_)
 have m15 := m11.ext e15
 refine Qa rfl (Qd (r := 1) (i := 1) oM Vh Zh rfl rfl oM oM) <| Zw (Zm (f := u32) (l' := [a + b, Zb (b ^^^ (c + (Zb (d ^^^ (a + b)) (16 : Int)))) (12 : Int), c + (Zb (d ^^^ (a + b)) (16 : Int)), Zb (d ^^^ (a + b)) (16 : Int)]) rfl Z5 Zh rfl rfl m15.h1 (by simp) (.inl (Nat.zero_le _))) ?_
 rintro _ w16 uq16
 have m16 := m15.upd1 uq16
 refine Zr (Qi (Qe ?_))
 refine Qa (v := (i64 2)) rfl (Qk (a := 1) (b := 1) rfl rfl oM oM) <| Qa rfl (Qb (v := (i64 2)) rfl) ?_
 refine rN (Zq (sR ?_))
 refine Qa rfl (Qs (a := 2) (b := 4) rfl rfl) ?_
 refine rN (Qg ?_)
 refine Zc rfl (by decide) ?_
 refine Q7 (Qh (Qg (Qo (sR ?_))))
 refine Qa rfl (Qb (v := (i64 2)) rfl) <| Qa (v := (i64 8)) rfl (Y4 (i := 2) Dh Fj rfl Dy rfl rfl oM sD (Qx _ _ 0 (by simp))) <| Qa rfl (Qc (v := (i64 2)) rfl) <| Qa rfl (Qc (v := (i64 8)) rfl) ?_
 refine rN (sR ?_)
 refine Qa rfl (Qc (v := (i64 0)) rfl) <| Qa rfl (Qc (v := (i64 1)) rfl) <| Qa rfl (Qc (v := (i64 3)) rfl) ?_
 refine rN (Qg (sR ?_))
 refine Qa rfl (Qb (v := (i64 2)) rfl) <| Qa (v := (i64 0)) rfl (Jy (a := 2) (b := 2) rfl rfl oM oM oM) <| Qa rfl (Vp (a := 0) (b := 1) rfl rfl) <| rN ?_
 refine CW.abs (fun g => g 0 = (agg u32 ([a, b, c, d])) ∧ g 1 = (ptr b1 0) ∧ g 2 = (ptr b2 0) ∧ g 3 = (i64 2) ∧ g 4 = (i64 8) ∧ g 5 = (i64 0) ∧ g 6 = (i64 1) ∧ g 7 = (i64 3) ∧ g 8 = (agg i64 ([16, 12, 8, 7])) ∧ g 9 = (i64 2) ∧ g 10 = (bl true) ∧ g 15 = (bl false) ∧ True) ⟨rfl, rfl, rfl, rfl, rfl, rfl, rfl, rfl, rfl, rfl, rfl, rfl, trivial⟩ ?_
 rintro fr17 ⟨s0, s1, s2, s3, s4, s5, s6, s7, s8, s9, s10, s15, _⟩
 refine Yp s15 (by decide) ?_
 refine Q7 (Qh (Qg ?_))
 refine Xq (dl 6) 6 (by kernel_rfl) <| dM rfl rfl s5 <| Qj rfl rfl (fun _ _hx => Qd (r := 0) (i := 0) oM Vh Zh s1 rfl oM oM) <| Qj (v := (u32 (a + b))) rfl rfl (fun _ _hx => Qn Xk rfl rfl (m16.ext _hx).h1 (Qx _ _ 0 (by simp))) <| dM rfl rfl s6 <| Qj rfl rfl (fun _ _hx => Qd (r := 1) (i := 1) oM Vh Zh s1 rfl oM oM) <| Qj (v := (u32 (Zb (b ^^^ (c + (Zb (d ^^^ (a + b)) (16 : Int)))) (12 : Int)))) rfl rfl (fun _ _hx => Qn Xk rfl rfl (m16.ext _hx).h1 (Qx _ _ 0 (by simp))) ?_
 refine Xd (fun w18 e18 => ?_)
 have m18 := m16.ext e18
 refine Qa rfl (Xp rfl rfl) <| Qa rfl (Qd (r := 0) (i := 0) oM Vh Zh s1 rfl oM oM) <| Zw (Zm (f := u32) (l' := [(a + b) + (Zb (b ^^^ (c + (Zb (d ^^^ (a + b)) (16 : Int)))) (12 : Int)), Zb (b ^^^ (c + (Zb (d ^^^ (a + b)) (16 : Int)))) (12 : Int), c + (Zb (d ^^^ (a + b)) (16 : Int)), Zb (d ^^^ (a + b)) (16 : Int)]) rfl Z5 Zh rfl rfl m18.h1 (by simp) (.inl (Nat.zero_le _))) ?_
 rintro _ w19 uq19
 have m19 := m18.upd1 uq19
 refine rN <| Xq (dl 10) 10 (by kernel_rfl) <| dM rfl rfl s7 <| dM rfl rfl s7 <| Qj rfl rfl (fun _ _hx => Qd (r := 3) (i := 3) oM Vh Zh s1 rfl oM oM) <| Qj (v := (u32 (Zb (d ^^^ (a + b)) (16 : Int)))) rfl rfl (fun _ _hx => Qn Xk rfl rfl (m19.ext _hx).h1 (Qx _ _ 0 (by simp))) <| dM rfl rfl s5 <| Qj rfl rfl (fun _ _hx => Qd (r := 0) (i := 0) oM Vh Zh s1 rfl oM oM) <| Qj (v := (u32 ((a + b) + (Zb (b ^^^ (c + (Zb (d ^^^ (a + b)) (16 : Int)))) (12 : Int))))) rfl rfl (fun _ _hx => Qn Xk rfl rfl (m19.ext _hx).h1 (Qx _ _ 0 (by simp))) <| Qj rfl rfl (fun _ _hx => Y0 rfl rfl) <| dM rfl rfl s4 <| Kv (v := (u32 (Zb ((Zb (d ^^^ (a + b)) (16 : Int)) ^^^ ((a + b) + (Zb (b ^^^ (c + (Zb (d ^^^ (a + b)) (16 : Int)))) (12 : Int)))) (8 : Int)))) rfl rfl (fun w20 e20 => Yz.mono (Pn (Xr rfl rfl) (Uh ((Zb (d ^^^ (a + b)) (16 : Int)) ^^^ ((a + b) + (Zb (b ^^^ (c + (Zb (d ^^^ (a + b)) (16 : Int)))) (12 : Int)))) _ _)) (by rintro _ w21 ⟨rfl, rfl⟩; exact ⟨rfl, Ext.refl _⟩)) ?_
 refine Xd (fun w23 e23 => ?_)
 have m23 := m19.ext e23
 refine Qa rfl (Qd (r := 3) (i := 3) oM Vh Zh s1 rfl oM oM) <| Zw (Zm (f := u32) (l' := [(a + b) + (Zb (b ^^^ (c + (Zb (d ^^^ (a + b)) (16 : Int)))) (12 : Int)), Zb (b ^^^ (c + (Zb (d ^^^ (a + b)) (16 : Int)))) (12 : Int), c + (Zb (d ^^^ (a + b)) (16 : Int)), Zb ((Zb (d ^^^ (a + b)) (16 : Int)) ^^^ ((a + b) + (Zb (b ^^^ (c + (Zb (d ^^^ (a + b)) (16 : Int)))) (12 : Int)))) (8 : Int)]) rfl Z5 Zh rfl rfl m23.h1 (by simp) (.inl (Nat.zero_le _))) ?_
 rintro _ w24 uq24
 have m24 := m23.upd1 uq24
 refine Zr (Qi (Qe ?_))
 refine Qa (v := (i64 3)) rfl (Qk (a := 2) (b := 1) s9 rfl oM oM) <| Qa rfl (Qb (v := (i64 3)) rfl) ?_
 refine rN (Zq (sR ?_))
 refine Qa rfl (Qs (a := 3) (b := 4) rfl rfl) ?_
 refine rN (Qg ?_)
 refine Zc rfl (by decide) ?_
 refine Q7 (Qh (Qg (Qo (sR ?_))))
 refine Qa rfl (Qb (v := (i64 3)) rfl) <| Qa (v := (i64 7)) rfl (Y4 (i := 3) Dh Fj rfl Dy s8 rfl oM sD (Qx _ _ 0 (by simp))) <| Qa rfl (Qc (v := (i64 3)) rfl) <| Qa rfl (Qc (v := (i64 7)) rfl) ?_
 refine rN (sR ?_)
 refine Qa rfl (Qc (v := (i64 0)) rfl) <| Qa rfl (Qc (v := (i64 1)) rfl) <| Qa rfl (Qc (v := (i64 3)) rfl) ?_
 refine rN (Qg (sR ?_))
 refine Qa rfl (Qb (v := (i64 3)) rfl) <| Qa (v := (i64 1)) rfl (Jy (a := 3) (b := 2) rfl rfl oM oM oM) <| Qa rfl (Vp (a := 1) (b := 1) rfl rfl) <| rN <| Zc rfl (by decide) <| Qe <| Qa rfl (Qc (v := (i64 2)) rfl) <| Qa rfl (Qc (v := (i64 3)) rfl) <| Qa rfl (Qc (v := (i64 1)) rfl) ?_
 refine rN (Qg ?_)
 refine Xq (dl 6) 6 (by kernel_rfl) <| Qj rfl rfl (fun _ _hx => Qb (v := (i64 2)) rfl) <| Qj rfl rfl (fun _ _hx => Qd (r := 2) (i := 2) oM Vh Zh s1 rfl oM oM) <| Qj (v := (u32 (c + (Zb (d ^^^ (a + b)) (16 : Int))))) rfl rfl (fun _ _hx => Qn Xk rfl rfl (m24.ext _hx).h1 (Qx _ _ 0 (by simp))) <| Qj rfl rfl (fun _ _hx => Qb (v := (i64 3)) rfl) <| Qj rfl rfl (fun _ _hx => Qd (r := 3) (i := 3) oM Vh Zh s1 rfl oM oM) <| Qj (v := (u32 (Zb ((Zb (d ^^^ (a + b)) (16 : Int)) ^^^ ((a + b) + (Zb (b ^^^ (c + (Zb (d ^^^ (a + b)) (16 : Int)))) (12 : Int)))) (8 : Int)))) rfl rfl (fun _ _hx => Qn Xk rfl rfl (m24.ext _hx).h1 (Qx _ _ 0 (by simp))) ?_
 refine Xd (fun w25 e25 => ?_)
 have m25 := m24.ext e25
 refine Qa rfl (Xp rfl rfl) <| Qa rfl (Qd (r := 2) (i := 2) oM Vh Zh s1 rfl oM oM) <| Zw (Zm (f := u32) (l' := [(a + b) + (Zb (b ^^^ (c + (Zb (d ^^^ (a + b)) (16 : Int)))) (12 : Int)), Zb (b ^^^ (c + (Zb (d ^^^ (a + b)) (16 : Int)))) (12 : Int), (c + (Zb (d ^^^ (a + b)) (16 : Int))) + (Zb ((Zb (d ^^^ (a + b)) (16 : Int)) ^^^ ((a + b) + (Zb (b ^^^ (c + (Zb (d ^^^ (a + b)) (16 : Int)))) (12 : Int)))) (8 : Int)), Zb ((Zb (d ^^^ (a + b)) (16 : Int)) ^^^ ((a + b) + (Zb (b ^^^ (c + (Zb (d ^^^ (a + b)) (16 : Int)))) (12 : Int)))) (8 : Int)]) rfl Z5 Zh rfl rfl m25.h1 (by simp) (.inl (Nat.zero_le _))) ?_
 rintro _ w26 uq26
 have m26 := m25.upd1 uq26
 refine rN <| Xq (dl 10) 10 (by kernel_rfl) <| Qj rfl rfl (fun _ _hx => Qb (v := (i64 1)) rfl) <| Qj rfl rfl (fun _ _hx => Qb (v := (i64 1)) rfl) <| Qj rfl rfl (fun _ _hx => Qd (r := 1) (i := 1) oM Vh Zh s1 rfl oM oM) <| Qj (v := (u32 (Zb (b ^^^ (c + (Zb (d ^^^ (a + b)) (16 : Int)))) (12 : Int)))) rfl rfl (fun _ _hx => Qn Xk rfl rfl (m26.ext _hx).h1 (Qx _ _ 0 (by simp))) <| Qj rfl rfl (fun _ _hx => Qb (v := (i64 2)) rfl) <| Qj rfl rfl (fun _ _hx => Qd (r := 2) (i := 2) oM Vh Zh s1 rfl oM oM) <| Qj (v := (u32 ((c + (Zb (d ^^^ (a + b)) (16 : Int))) + (Zb ((Zb (d ^^^ (a + b)) (16 : Int)) ^^^ ((a + b) + (Zb (b ^^^ (c + (Zb (d ^^^ (a + b)) (16 : Int)))) (12 : Int)))) (8 : Int))))) rfl rfl (fun _ _hx => Qn Xk rfl rfl (m26.ext _hx).h1 (Qx _ _ 0 (by simp))) <| Qj rfl rfl (fun _ _hx => Y0 rfl rfl) <| Qj rfl rfl (fun _ _hx => Qb (v := (i64 7)) rfl) <| Kv (v := (u32 (Zb ((Zb (b ^^^ (c + (Zb (d ^^^ (a + b)) (16 : Int)))) (12 : Int)) ^^^ ((c + (Zb (d ^^^ (a + b)) (16 : Int))) + (Zb ((Zb (d ^^^ (a + b)) (16 : Int)) ^^^ ((a + b) + (Zb (b ^^^ (c + (Zb (d ^^^ (a + b)) (16 : Int)))) (12 : Int)))) (8 : Int)))) (7 : Int)))) rfl rfl (fun w27 e27 => Yz.mono (Pn (Xr rfl rfl) (Uh ((Zb (b ^^^ (c + (Zb (d ^^^ (a + b)) (16 : Int)))) (12 : Int)) ^^^ ((c + (Zb (d ^^^ (a + b)) (16 : Int))) + (Zb ((Zb (d ^^^ (a + b)) (16 : Int)) ^^^ ((a + b) + (Zb (b ^^^ (c + (Zb (d ^^^ (a + b)) (16 : Int)))) (12 : Int)))) (8 : Int)))) _ _)) (by rintro _ w28 ⟨rfl, rfl⟩; exact ⟨rfl, Ext.refl _⟩)) ?_
 refine Xd (fun w30 e30 => ?_)
 have m30 := m26.ext e30
 refine Qa rfl (Qd (r := 1) (i := 1) oM Vh Zh s1 rfl oM oM) <| Zw (Zm (f := u32) (l' := [(a + b) + (Zb (b ^^^ (c + (Zb (d ^^^ (a + b)) (16 : Int)))) (12 : Int)), Zb ((Zb (b ^^^ (c + (Zb (d ^^^ (a + b)) (16 : Int)))) (12 : Int)) ^^^ ((c + (Zb (d ^^^ (a + b)) (16 : Int))) + (Zb ((Zb (d ^^^ (a + b)) (16 : Int)) ^^^ ((a + b) + (Zb (b ^^^ (c + (Zb (d ^^^ (a + b)) (16 : Int)))) (12 : Int)))) (8 : Int)))) (7 : Int), (c + (Zb (d ^^^ (a + b)) (16 : Int))) + (Zb ((Zb (d ^^^ (a + b)) (16 : Int)) ^^^ ((a + b) + (Zb (b ^^^ (c + (Zb (d ^^^ (a + b)) (16 : Int)))) (12 : Int)))) (8 : Int)), Zb ((Zb (d ^^^ (a + b)) (16 : Int)) ^^^ ((a + b) + (Zb (b ^^^ (c + (Zb (d ^^^ (a + b)) (16 : Int)))) (12 : Int)))) (8 : Int)]) rfl Z5 Zh rfl rfl m30.h1 (by simp) (.inl (Nat.zero_le _))) ?_
 rintro _ w31 uq31
 have m31 := m30.upd1 uq31
 refine Zr (Qi (Qe ?_))
 refine Qa (v := (i64 4)) rfl (Qk (a := 3) (b := 1) rfl rfl oM oM) <| Qa rfl (Qb (v := (i64 4)) rfl) ?_
 refine rN (Zq (sR ?_))
 refine Qa rfl (Qs (a := 4) (b := 4) rfl rfl) ?_
 refine rN (Qg ?_)
 refine Yp rfl (by decide) <| X0 ?_
 refine Qr (Qr (Xf ?_))
 refine sR <| Qa rfl (Qw Vh rfl Rq s1 m31.h1 sZ) <| Zw (Qm (f := u32) (l := [(a + b) + (Zb (b ^^^ (c + (Zb (d ^^^ (a + b)) (16 : Int)))) (12 : Int)), Zb ((Zb (b ^^^ (c + (Zb (d ^^^ (a + b)) (16 : Int)))) (12 : Int)) ^^^ ((c + (Zb (d ^^^ (a + b)) (16 : Int))) + (Zb ((Zb (d ^^^ (a + b)) (16 : Int)) ^^^ ((a + b) + (Zb (b ^^^ (c + (Zb (d ^^^ (a + b)) (16 : Int)))) (12 : Int)))) (8 : Int)))) (7 : Int), (c + (Zb (d ^^^ (a + b)) (16 : Int))) + (Zb ((Zb (d ^^^ (a + b)) (16 : Int)) ^^^ ((a + b) + (Zb (b ^^^ (c + (Zb (d ^^^ (a + b)) (16 : Int)))) (12 : Int)))) (8 : Int)), Zb ((Zb (d ^^^ (a + b)) (16 : Int)) ^^^ ((a + b) + (Zb (b ^^^ (c + (Zb (d ^^^ (a + b)) (16 : Int)))) (12 : Int)))) (8 : Int)]) Z5 Rq s2 rfl sD m31.h0 sZ rfl) ?_
 rintro _ w32 uq32
 have m32 := m31.upd0 uq32
 refine rN (Xt ?_)
 refine Ze [(agg u32 ([(a + b) + (Zb (b ^^^ (c + (Zb (d ^^^ (a + b)) (16 : Int)))) (12 : Int)), Zb ((Zb (b ^^^ (c + (Zb (d ^^^ (a + b)) (16 : Int)))) (12 : Int)) ^^^ ((c + (Zb (d ^^^ (a + b)) (16 : Int))) + (Zb ((Zb (d ^^^ (a + b)) (16 : Int)) ^^^ ((a + b) + (Zb (b ^^^ (c + (Zb (d ^^^ (a + b)) (16 : Int)))) (12 : Int)))) (8 : Int)))) (7 : Int), (c + (Zb (d ^^^ (a + b)) (16 : Int))) + (Zb ((Zb (d ^^^ (a + b)) (16 : Int)) ^^^ ((a + b) + (Zb (b ^^^ (c + (Zb (d ^^^ (a + b)) (16 : Int)))) (12 : Int)))) (8 : Int)), Zb ((Zb (d ^^^ (a + b)) (16 : Int)) ^^^ ((a + b) + (Zb (b ^^^ (c + (Zb (d ^^^ (a + b)) (16 : Int)))) (12 : Int)))) (8 : Int)]))] ⟨⟨_, s2, Xo Vh rfl Rq m32.h0 sZ⟩, trivial⟩ ?_
 exact ⟨rfl, m32.toExt⟩
theorem Qmb (a b c d : BitVec 32) (w0 : World)   : Xz Tryd.prog 109 #[(agg u32 ([a, b, c, d]))] w0 (fun r w1 => r = (agg u32 (Jg Yg a b c d)) ∧ Ext w0 w1) := by
 refine Zd (args := [(agg u32 ([a, b, c, d]))]) Tryd.func109 rfl Tryd.ntmps109 Tryd.results109 rfl ?_
 have m0 : Mem w0 (Qy w0) [] := Mem.of_world w0
 refine sR <| Za rfl (Z8 (f := u32) (l := [a, b, c, d]) m0 rfl) ?_
 rintro _ w1 ⟨b1, rfl, e1, m1⟩
 refine Za rfl (Zg m1 Rq) ?_
 rintro _ w2 ⟨b2, rfl, e2, m2⟩
 refine rN (Qg ?_)
 refine Xq (dl 11) 11 (by kernel_rfl) <| Qj rfl rfl (fun _ _hx => Qd (r := 0) (i := 0) oM Vh Zh rfl rfl oM oM) <| Qj (v := (u32 a)) rfl rfl (fun _ _hx => Qn Xk rfl rfl (m2.ext _hx).h1 (Qx _ _ 0 (by simp))) <| Qj rfl rfl (fun _ _hx => Qd (r := 1) (i := 1) oM Vh Zh rfl rfl oM oM) <| Qj (v := (u32 b)) rfl rfl (fun _ _hx => Qn Xk rfl rfl (m2.ext _hx).h1 (Qx _ _ 0 (by simp))) <| Qj rfl rfl (fun _ _hx => Qd (r := 2) (i := 2) oM Vh Zh rfl rfl oM oM) <| Qj (v := (u32 c)) rfl rfl (fun _ _hx => Qn Xk rfl rfl (m2.ext _hx).h1 (Qx _ _ 0 (by simp))) <| Qj rfl rfl (fun _ _hx => Qd (r := 3) (i := 3) oM Vh Zh rfl rfl oM oM) <| Qj (v := (u32 d)) rfl rfl (fun _ _hx => Qn Xk rfl rfl (m2.ext _hx).h1 (Qx _ _ 0 (by simp))) <| Qj rfl rfl (fun _ _hx => Qc (v := (u32 a)) rfl) <| Qj rfl rfl (fun _ _hx => Qc (v := (u32 b)) rfl) <| Qj rfl rfl (fun _ _hx => Qc (v := (u32 c)) rfl) ?_
 refine Xd (fun w3 e3 => ?_)
 have m3 := m2.ext e3
 refine Qa rfl (Qc (v := (u32 d)) rfl) ?_
 refine rN (sR ?_)
 refine Qa rfl (Qb (v := (u32 a)) rfl) <| Qa rfl (Qb (v := (u32 b)) rfl) <| Qa rfl (Xp rfl rfl) <| Qa rfl (Qc (v := (u32 (a + b))) rfl) ?_
 refine rN (sR ?_)
 refine Qa rfl (Qb (v := (u32 d)) rfl) <| Qa rfl (Qb (v := (u32 (a + b))) rfl) <| Qa rfl (Y0 rfl rfl) <| Za rfl (oc115 (Xr rfl rfl) (Qfh (d ^^^ (a + b)) _ _ sD sD)) ?_
 rintro _ w4 ⟨rfl, e4⟩
 have m4 := m3.ext e4
 refine Qa rfl (Qc (v := (u32 (Yg (d ^^^ (a + b)) (16 : Int)))) rfl) ?_
 refine rN (sR ?_)
 refine Qa rfl (Qb (v := (u32 c)) rfl) <| Qa rfl (Qb (v := (u32 (Yg (d ^^^ (a + b)) (16 : Int)))) rfl) <| Qa rfl (Xp rfl rfl) <| Qa rfl (Qc (v := (u32 (c + (Yg (d ^^^ (a + b)) (16 : Int))))) rfl) ?_
 refine rN (sR ?_)
 refine Qa rfl (Qb (v := (u32 b)) rfl) <| Qa rfl (Qb (v := (u32 (c + (Yg (d ^^^ (a + b)) (16 : Int))))) rfl) <| Qa rfl (Y0 rfl rfl) <| Za rfl (oc115 (Xr rfl rfl) (Qfh (b ^^^ (c + (Yg (d ^^^ (a + b)) (16 : Int)))) _ _ sD sD)) ?_
 rintro _ w6 ⟨rfl, e6⟩
 have m6 := m4.ext e6
 refine Qa rfl (Qc (v := (u32 (Yg (b ^^^ (c + (Yg (d ^^^ (a + b)) (16 : Int)))) (12 : Int)))) rfl) ?_
 refine rN (sR ?_)
 refine Qa rfl (Qb (v := (u32 (a + b))) rfl) <| Qa rfl (Qb (v := (u32 (Yg (b ^^^ (c + (Yg (d ^^^ (a + b)) (16 : Int)))) (12 : Int)))) rfl) <| Qa rfl (Xp rfl rfl) <| rA rfl rfl ?_
 refine rN (sR ?_)
 refine Qa rfl (Qb (v := (u32 (Yg (d ^^^ (a + b)) (16 : Int)))) rfl) <| rM rfl rfl <| Qa rfl (Y0 rfl rfl) <| Za rfl (oc115 (Xr rfl rfl) (Qfh ((Yg (d ^^^ (a + b)) (16 : Int)) ^^^ ((a + b) + (Yg (b ^^^ (c + (Yg (d ^^^ (a + b)) (16 : Int)))) (12 : Int)))) _ _ sD sD)) ?_
 rintro _ w8 ⟨rfl, e8⟩
 have m8 := m6.ext e8
 refine rA rfl rfl ?_
 refine rN (sR ?_)
 refine Qa rfl (Qb (v := (u32 (c + (Yg (d ^^^ (a + b)) (16 : Int))))) rfl) <| rM rfl rfl <| Qa rfl (Xp rfl rfl) <| rA rfl rfl ?_
 refine rN (sR ?_)
 refine Qa rfl (Qb (v := (u32 (Yg (b ^^^ (c + (Yg (d ^^^ (a + b)) (16 : Int)))) (12 : Int)))) rfl) <| rM rfl rfl <| Qa rfl (Y0 rfl rfl) <| Za rfl (oc115 (Xr rfl rfl) (Qfh ((Yg (b ^^^ (c + (Yg (d ^^^ (a + b)) (16 : Int)))) (12 : Int)) ^^^ ((c + (Yg (d ^^^ (a + b)) (16 : Int))) + (Yg ((Yg (d ^^^ (a + b)) (16 : Int)) ^^^ ((a + b) + (Yg (b ^^^ (c + (Yg (d ^^^ (a + b)) (16 : Int)))) (12 : Int)))) (8 : Int)))) _ _ sD sD)) ?_
 rintro _ w10 ⟨rfl, e10⟩
 have m10 := m8.ext e10
 refine rA rfl rfl ?_
 refine rN (sR ?_)
 refine rM rfl rfl <| rM rfl rfl <| rM rfl rfl <| rM rfl rfl <| Qa rfl (Vf u32 [(a + b) + (Yg (b ^^^ (c + (Yg (d ^^^ (a + b)) (16 : Int)))) (12 : Int)), Yg ((Yg (b ^^^ (c + (Yg (d ^^^ (a + b)) (16 : Int)))) (12 : Int)) ^^^ ((c + (Yg (d ^^^ (a + b)) (16 : Int))) + (Yg ((Yg (d ^^^ (a + b)) (16 : Int)) ^^^ ((a + b) + (Yg (b ^^^ (c + (Yg (d ^^^ (a + b)) (16 : Int)))) (12 : Int)))) (8 : Int)))) (7 : Int), (c + (Yg (d ^^^ (a + b)) (16 : Int))) + (Yg ((Yg (d ^^^ (a + b)) (16 : Int)) ^^^ ((a + b) + (Yg (b ^^^ (c + (Yg (d ^^^ (a + b)) (16 : Int)))) (12 : Int)))) (8 : Int)), Yg ((Yg (d ^^^ (a + b)) (16 : Int)) ^^^ ((a + b) + (Yg (b ^^^ (c + (Yg (d ^^^ (a + b)) (16 : Int)))) (12 : Int)))) (8 : Int)] Z5 Rq Vh Zh rfl rfl) <| Zw (Qm (f := u32) (l := [(a + b) + (Yg (b ^^^ (c + (Yg (d ^^^ (a + b)) (16 : Int)))) (12 : Int)), Yg ((Yg (b ^^^ (c + (Yg (d ^^^ (a + b)) (16 : Int)))) (12 : Int)) ^^^ ((c + (Yg (d ^^^ (a + b)) (16 : Int))) + (Yg ((Yg (d ^^^ (a + b)) (16 : Int)) ^^^ ((a + b) + (Yg (b ^^^ (c + (Yg (d ^^^ (a + b)) (16 : Int)))) (12 : Int)))) (8 : Int)))) (7 : Int), (c + (Yg (d ^^^ (a + b)) (16 : Int))) + (Yg ((Yg (d ^^^ (a + b)) (16 : Int)) ^^^ ((a + b) + (Yg (b ^^^ (c + (Yg (d ^^^ (a + b)) (16 : Int)))) (12 : Int)))) (8 : Int)), Yg ((Yg (d ^^^ (a + b)) (16 : Int)) ^^^ ((a + b) + (Yg (b ^^^ (c + (Yg (d ^^^ (a + b)) (16 : Int)))) (12 : Int)))) (8 : Int)]) Z5 Rq rfl rfl sD m10.h0 sZ rfl) ?_
 rintro _ w12 uq12
 have m12 := m10.upd0 uq12
 refine rN (Xt ?_)
 refine Ze [(agg u32 ([(a + b) + (Yg (b ^^^ (c + (Yg (d ^^^ (a + b)) (16 : Int)))) (12 : Int)), Yg ((Yg (b ^^^ (c + (Yg (d ^^^ (a + b)) (16 : Int)))) (12 : Int)) ^^^ ((c + (Yg (d ^^^ (a + b)) (16 : Int))) + (Yg ((Yg (d ^^^ (a + b)) (16 : Int)) ^^^ ((a + b) + (Yg (b ^^^ (c + (Yg (d ^^^ (a + b)) (16 : Int)))) (12 : Int)))) (8 : Int)))) (7 : Int), (c + (Yg (d ^^^ (a + b)) (16 : Int))) + (Yg ((Yg (d ^^^ (a + b)) (16 : Int)) ^^^ ((a + b) + (Yg (b ^^^ (c + (Yg (d ^^^ (a + b)) (16 : Int)))) (12 : Int)))) (8 : Int)), Yg ((Yg (d ^^^ (a + b)) (16 : Int)) ^^^ ((a + b) + (Yg (b ^^^ (c + (Yg (d ^^^ (a + b)) (16 : Int)))) (12 : Int)))) (8 : Int)]))] ⟨⟨_, rfl, Xo Vh rfl Rq m12.h0 sZ⟩, trivial⟩ ?_
 exact ⟨rfl, m12.toExt⟩
theorem Nw (v : Value) (l : List (BitVec 8)) (w0 : World)  (hr : Rd (Yq w0) u8 v l) (hl : 4 ≤ l.length) : Xz Tryd.prog 113 #[v] w0 (fun r w1 => r = (u32 (Z4 l)) ∧ Ext w0 w1) := by
 refine Zd (args := [v]) Tryd.func113 rfl Tryd.ntmps113 Tryd.results113 rfl ?_
 have m0 : Mem w0 (Qy w0) [] := Mem.of_world w0
 obtain ⟨a, b, c, d, r, rfl⟩ := list4r l hl
 refine sR <| Qa rfl (Qc (v := (u32 0#32)) rfl) ?_
 refine rN (Qg (sR ?_))
 refine rM rfl (v := v) rfl <| Qa rfl (Fb (i := 0) (j := 4) (hr.ext m0.toExt) Zi X6 rfl (Zy _ _) (Jt (k := .i64) (i := 4) rfl) oM oM (by simp only [List.length_cons]; omega)) <| Qa rfl (Ye (l := [a, b, c, d]) (Rd.cast (l' := [a, b, c, d]) (Rd.sub (hr.ext m0.toExt) oM oM (by simp only [List.length_cons]; omega)) rfl) Zi rfl) <| Qa rfl (Qb (v := (i64 0)) rfl) ?_
 refine rN (Qo ?_)
 refine Kw 5 ?_
 refine Zq (sR ?_)
 refine Qa rfl (Qs (a := 0) (b := 4) rfl rfl) ?_
 refine rN (Qg ?_)
 refine Zc rfl (by decide) ?_
 refine Q7 (Qh (Qg (Qo (sR ?_))))
 refine Qa rfl (Qb (v := (i64 0)) rfl) <| Qa rfl (Xa (i := 0) (Rd.cast (l' := [a, b, c, d]) (Rd.sub (hr.ext m0.toExt) oM oM (by simp only [List.length_cons]; omega)) rfl) Zi X6 rfl rfl oM (by simp)) <| Qa (v := (u8 a)) rfl (Yc (l := [a, b, c, d]) (i := 0) (dflt := 0) (Rd.cast (l' := [a, b, c, d]) (Rd.sub (hr.ext m0.toExt) oM oM (by simp only [List.length_cons]; omega)) rfl) Vm rfl oM (by simp) rfl) <| Qa rfl (Qc (v := (i64 0)) rfl) <| Qa rfl (Qc (v := (u8 a)) rfl) ?_
 refine rN (Qe ?_)
 refine Qa rfl (Qb (v := (u32 0#32)) rfl) <| Qa rfl (Qb (v := (u8 a)) rfl) <| Qa rfl (Jh ⟨_, Vm⟩ Xk rfl) <| Qa rfl (Qb (v := (i64 0)) rfl) <| Qa (v := (i64 0)) rfl (Z7 (a := 8) (b := 0) rfl rfl oM oM) <| Qa rfl (G8 (b := 0) rfl rfl oM) <| Qa rfl (U5 (a := 0#32) rfl rfl) <| Qa rfl (Qc (v := (u32 (0#32 ||| ((a.setWidth 32) <<< 0)))) rfl) ?_
 refine Zr (Qi (Qe ?_))
 refine Qa (v := (i64 1)) rfl (Qk (a := 0) (b := 1) rfl rfl oM oM) <| Qa rfl (Qb (v := (i64 1)) rfl) ?_
 refine rN (Zq (sR ?_))
 refine Qa rfl (Qs (a := 1) (b := 4) rfl rfl) ?_
 refine rN (Qg ?_)
 refine Zc rfl (by decide) ?_
 refine Q7 (Qh (Qg (Qo (sR ?_))))
 refine Qa rfl (Qb (v := (i64 1)) rfl) <| Qa rfl (Xa (i := 1) (Rd.cast (l' := [a, b, c, d]) (Rd.sub (hr.ext m0.toExt) oM oM (by simp only [List.length_cons]; omega)) rfl) Zi X6 rfl rfl oM (by simp)) <| Qa (v := (u8 b)) rfl (Yc (l := [a, b, c, d]) (i := 1) (dflt := 0) (Rd.cast (l' := [a, b, c, d]) (Rd.sub (hr.ext m0.toExt) oM oM (by simp only [List.length_cons]; omega)) rfl) Vm rfl oM (by simp) rfl) <| Qa rfl (Qc (v := (i64 1)) rfl) <| Qa rfl (Qc (v := (u8 b)) rfl) ?_
 refine rN (Qe ?_)
 refine Qa rfl (Qb (v := (u32 (0#32 ||| ((a.setWidth 32) <<< 0)))) rfl) <| Qa rfl (Qb (v := (u8 b)) rfl) <| Qa rfl (Jh ⟨_, Vm⟩ Xk rfl) <| Qa rfl (Qb (v := (i64 1)) rfl) <| Qa (v := (i64 8)) rfl (Z7 (a := 8) (b := 1) rfl rfl oM oM) <| Qa rfl (G8 (b := 8) rfl rfl oM) <| Qa rfl (U5 rfl rfl) <| Qa rfl (Qc (v := (u32 ((0#32 ||| ((a.setWidth 32) <<< 0)) ||| ((b.setWidth 32) <<< 8)))) rfl) ?_
 refine Zr (Qi (Qe ?_))
 refine Qa (v := (i64 2)) rfl (Qk (a := 1) (b := 1) rfl rfl oM oM) <| Qa rfl (Qb (v := (i64 2)) rfl) ?_
 refine rN (Zq (sR ?_))
 refine Qa rfl (Qs (a := 2) (b := 4) rfl rfl) ?_
 refine rN (Qg ?_)
 refine Zc rfl (by decide) ?_
 refine Q7 (Qh (Qg (Qo (sR ?_))))
 refine Qa rfl (Qb (v := (i64 2)) rfl) <| Qa rfl (Xa (i := 2) (Rd.cast (l' := [a, b, c, d]) (Rd.sub (hr.ext m0.toExt) oM oM (by simp only [List.length_cons]; omega)) rfl) Zi X6 rfl rfl oM (by simp)) <| Qa (v := (u8 c)) rfl (Yc (l := [a, b, c, d]) (i := 2) (dflt := 0) (Rd.cast (l' := [a, b, c, d]) (Rd.sub (hr.ext m0.toExt) oM oM (by simp only [List.length_cons]; omega)) rfl) Vm rfl oM (by simp) rfl) <| Qa rfl (Qc (v := (i64 2)) rfl) <| Qa rfl (Qc (v := (u8 c)) rfl) ?_
 refine rN (Qe ?_)
 refine Qa rfl (Qb (v := (u32 ((0#32 ||| ((a.setWidth 32) <<< 0)) ||| ((b.setWidth 32) <<< 8)))) rfl) <| Qa rfl (Qb (v := (u8 c)) rfl) <| Qa rfl (Jh ⟨_, Vm⟩ Xk rfl) <| Qa rfl (Qb (v := (i64 2)) rfl) <| Qa (v := (i64 16)) rfl (Z7 (a := 8) (b := 2) rfl rfl oM oM) <| Qa rfl (G8 (b := 16) rfl rfl oM) <| Qa rfl (U5 rfl rfl) <| rA rfl rfl ?_
 refine Zr (Qi (Qe ?_))
 refine Qa (v := (i64 3)) rfl (Qk (a := 2) (b := 1) rfl rfl oM oM) <| Qa rfl (Qb (v := (i64 3)) rfl) ?_
 refine rN (Zq (sR ?_))
 refine Qa rfl (Qs (a := 3) (b := 4) rfl rfl) ?_
 refine rN (Qg ?_)
 refine Zc rfl (by decide) ?_
 refine Q7 (Qh (Qg (Qo (sR ?_))))
 refine Qa rfl (Qb (v := (i64 3)) rfl) <| Qa rfl (Xa (i := 3) (Rd.cast (l' := [a, b, c, d]) (Rd.sub (hr.ext m0.toExt) oM oM (by simp only [List.length_cons]; omega)) rfl) Zi X6 rfl rfl oM (by simp)) <| Qa (v := (u8 d)) rfl (Yc (l := [a, b, c, d]) (i := 3) (dflt := 0) (Rd.cast (l' := [a, b, c, d]) (Rd.sub (hr.ext m0.toExt) oM oM (by simp only [List.length_cons]; omega)) rfl) Vm rfl oM (by simp) rfl) <| Qa rfl (Qc (v := (i64 3)) rfl) <| Qa rfl (Qc (v := (u8 d)) rfl) ?_
 refine rN (Qe ?_)
 refine rM rfl rfl <| Qa rfl (Qb (v := (u8 d)) rfl) <| Qa rfl (Jh ⟨_, Vm⟩ Xk rfl) <| Qa rfl (Qb (v := (i64 3)) rfl) <| Qa (v := (i64 24)) rfl (Z7 (a := 8) (b := 3) rfl rfl oM oM) <| Qa rfl (G8 (b := 24) rfl rfl oM) <| Qa rfl (U5 rfl rfl) <| rA rfl rfl ?_
 refine Zr (Qi (Qe ?_))
 refine Qa (v := (i64 4)) rfl (Qk (a := 3) (b := 1) rfl rfl oM oM) <| Qa rfl (Qb (v := (i64 4)) rfl) ?_
 refine rN (Zq (sR ?_))
 refine Qa rfl (Qs (a := 4) (b := 4) rfl rfl) ?_
 refine rN (Qg ?_)
 refine Yp rfl (by decide) <| X0 ?_
 refine Qr (Qr (Xf ?_))
 refine sR <| rM rfl rfl <| rA rfl rfl ?_
 refine rN (Xt ?_)
 refine Ze [(u32 ((((0#32 ||| ((a.setWidth 32) <<< 0)) ||| ((b.setWidth 32) <<< 8)) ||| ((c.setWidth 32) <<< 16)) ||| ((d.setWidth 32) <<< 24)))] ⟨rfl, trivial⟩ ?_
 exact ⟨rfl, m0.toExt⟩
theorem Qm0 (v : Value) (l : List (BitVec 8)) (w0 : World)  (hr : Rd (Yq w0) u8 v l) (hl : 4 ≤ l.length) : Xz Tryd.prog 107 #[v] w0 (fun r w1 => r = (u32 (X8 l)) ∧ Ext w0 w1) := by
 refine Zd (args := [v]) Tryd.func107 rfl Tryd.ntmps107 Tryd.results107 rfl ?_
 have m0 : Mem w0 (Qy w0) [] := Mem.of_world w0
 refine sR <| Qa rfl (Qc (v := (u32 0#32)) rfl) ?_
 refine rN (Qg ?_)
 refine Xq (dl 21) 21 (by kernel_rfl) <| dM rfl rfl (v := v) rfl <| Qj rfl rfl (fun _ _hx => Xa (i := 0) (Rd.ofRest hr (m0.ext _hx)) Zi X6 rfl rfl oM sD) <| Qj (v := (u8 (l.getD 0 0))) rfl rfl (fun _ _hx => Yc (l := l) (i := 0) (dflt := 0) (Rd.ofRest hr (m0.ext _hx)) Vm rfl oM sD rfl) <| Qj rfl rfl (fun _ _hx => Jh ⟨_, Vm⟩ Xk rfl) <| dM rfl rfl (v := v) rfl <| Qj rfl rfl (fun _ _hx => Xa (i := 1) (Rd.ofRest hr (m0.ext _hx)) Zi X6 rfl rfl oM sD) <| Qj (v := (u8 (l.getD 1 0))) rfl rfl (fun _ _hx => Yc (l := l) (i := 1) (dflt := 0) (Rd.ofRest hr (m0.ext _hx)) Vm rfl oM sD rfl) <| Qj rfl rfl (fun _ _hx => Jh ⟨_, Vm⟩ Xk rfl) <| Qj rfl rfl (fun _ _hx => D6 (b := 256#32) rfl rfl) <| Qj rfl rfl (fun _ _hx => Xp rfl rfl) <| dM rfl rfl (v := v) rfl ?_
 refine Qj rfl rfl (fun _ _hx => Xa (i := 2) (Rd.ofRest hr (m0.ext _hx)) Zi X6 rfl rfl oM sD) <| Qj (v := (u8 (l.getD 2 0))) rfl rfl (fun _ _hx => Yc (l := l) (i := 2) (dflt := 0) (Rd.ofRest hr (m0.ext _hx)) Vm rfl oM sD rfl) <| Qj rfl rfl (fun _ _hx => Jh ⟨_, Vm⟩ Xk rfl) <| Qj rfl rfl (fun _ _hx => D6 (b := 65536#32) rfl rfl) <| Qj rfl rfl (fun _ _hx => Xp rfl rfl) <| dM rfl rfl (v := v) rfl <| Qj rfl rfl (fun _ _hx => Xa (i := 3) (Rd.ofRest hr (m0.ext _hx)) Zi X6 rfl rfl oM sD) <| Qj (v := (u8 (l.getD 3 0))) rfl rfl (fun _ _hx => Yc (l := l) (i := 3) (dflt := 0) (Rd.ofRest hr (m0.ext _hx)) Vm rfl oM sD rfl) <| Qj rfl rfl (fun _ _hx => Jh ⟨_, Vm⟩ Xk rfl) <| Qj rfl rfl (fun _ _hx => D6 (b := 16777216#32) rfl rfl) ?_
 refine Xd (fun w1 e1 => ?_)
 have m1 := m0.ext e1
 refine Qa rfl (Xp rfl rfl) <| rA rfl rfl ?_
 refine rN (Xt ?_)
 refine Ze [(u32 (((((l.getD 0 0).setWidth 32) + (((l.getD 1 0).setWidth 32) * 256#32)) + (((l.getD 2 0).setWidth 32) * 65536#32)) + (((l.getD 3 0).setWidth 32) * 16777216#32)))] ⟨rfl, trivial⟩ ?_
 exact ⟨rfl, m1.toExt⟩
theorem Ep (bs : Nat) (s : List (BitVec 32)) (i0 i1 i2 i3 : Int) (w0 : World) (R : Rest) (m0 : Mem w0 R [(bs, .cells (cl u32 s) 156 (0, 0))]) (hl : s.length = 16) (h0 : 0 ≤ i0 ∧ i0 < 16) (h1 : 0 ≤ i1 ∧ i1 < 16) (h2 : 0 ≤ i2 ∧ i2 < 16) (h3 : 0 ≤ i3 ∧ i3 < 16) : Xz Tryd.prog 104 #[(ptr bs 0), (agg i64 ([i0, i1, i2, i3]))] w0 (fun r w1 => r = .tuple #[] ∧ Mem w1 R [(bs, .cells (cl u32 (Ew s i0.toNat i1.toNat i2.toNat i3.toNat)) 156 (0, 0))]) := by
 refine Zd (args := [(ptr bs 0), (agg i64 ([i0, i1, i2, i3]))]) Tryd.func104 rfl Tryd.ntmps104 Tryd.results104 rfl <| sR <| Za rfl (Z8 (f := i64) (l := [i0, i1, i2, i3]) m0 rfl) ?_
 rintro _ w1 ⟨b3, rfl, e1, m1⟩
 refine rN (sR ?_)
 refine Za rfl (Zg m1 Rq) ?_
 rintro _ w2 ⟨b4, rfl, e2, m2⟩
 refine rN (Qg (sR ?_))
 refine Qa rfl (Qw Dh rfl Qb0 rfl m2.h1 sZ) <| Qa rfl (Qb (v := (i64 0)) rfl) ?_
 refine rN (Qo ?_)
 refine Kw 5 ?_
 refine Zq (sR ?_)
 refine Qa rfl (Qs (a := 0) (b := 4) rfl rfl) ?_
 refine rN (Qg ?_)
 refine Zc rfl (by decide) ?_
 refine Q7 (Qh (Qg (Qo (sR ?_))))
 refine Qa rfl (Qb (v := (i64 0)) rfl) <| Qa (v := (i64 i0)) rfl (Y4 (i := 0) Dh Fj rfl Dy rfl rfl oM sD (Qx _ _ 0 (by simp))) <| Qa rfl (Qc (v := (i64 0)) rfl) <| Qa rfl (Qc (v := (i64 i0)) rfl) ?_
 refine rN (Qe ?_)
 refine Qa rfl (Qb (v := (i64 0)) rfl) <| Qa rfl (Qb (v := (ptr bs 0)) rfl) <| Qa rfl (Qb (v := (i64 i0)) rfl) <| Qa rfl (Xb rfl) <| Qa rfl (Qd (r := (i0 : Int).toNat) oM U9 Zh rfl rfl oM sD) <| Qa (v := (u32 (s.getD ((i0 : Int).toNat) 0))) rfl (Qn Xk rfl rfl m2.h2 (Qx _ _ 0 sD)) <| Qa rfl (Qd (r := 0) (i := 0) oM Vh Zh rfl rfl oM oM) <| Zw (Zm (f := u32) (l' := [s.getD ((i0 : Int).toNat) 0, 0, 0, 0]) rfl Z5 Zh rfl rfl m2.h0 (by simp) (.inl (Nat.zero_le _))) ?_
 rintro _ w3 uq3
 have m3 := m2.upd0 uq3
 refine Zr (Qi (Qe ?_))
 refine Qa (v := (i64 1)) rfl (Qk (a := 0) (b := 1) rfl rfl oM oM) <| Qa rfl (Qb (v := (i64 1)) rfl) ?_
 refine rN (Zq (sR ?_))
 refine Qa rfl (Qs (a := 1) (b := 4) rfl rfl) ?_
 refine rN (Qg ?_)
 refine Zc rfl (by decide) ?_
 refine Q7 (Qh (Qg (Qo (sR ?_))))
 refine Qa rfl (Qb (v := (i64 1)) rfl) <| Qa (v := (i64 i1)) rfl (Y4 (i := 1) Dh Fj rfl Dy rfl rfl oM sD (Qx _ _ 0 (by simp))) <| Qa rfl (Qc (v := (i64 1)) rfl) <| Qa rfl (Qc (v := (i64 i1)) rfl) ?_
 refine rN (Qe ?_)
 refine Qa rfl (Qb (v := (i64 1)) rfl) <| Qa rfl (Qb (v := (ptr bs 0)) rfl) <| Qa rfl (Qb (v := (i64 i1)) rfl) <| Qa rfl (Xb rfl) <| Qa rfl (Qd (r := (i1 : Int).toNat) oM U9 Zh rfl rfl oM sD) <| Qa (v := (u32 (s.getD ((i1 : Int).toNat) 0))) rfl (Qn Xk rfl rfl m3.h2 (Qx _ _ 0 sD)) <| Qa rfl (Qd (r := 1) (i := 1) oM Vh Zh rfl rfl oM oM) <| Zw (Zm (f := u32) (l' := [s.getD ((i0 : Int).toNat) 0, s.getD ((i1 : Int).toNat) 0, 0, 0]) rfl Z5 Zh rfl rfl m3.h0 (by simp) (.inl (Nat.zero_le _))) ?_
 rintro _ w4 uq4
 have m4 := m3.upd0 uq4
 refine Zr (Qi (Qe ?_))
 refine Qa (v := (i64 2)) rfl (Qk (a := 1) (b := 1) rfl rfl oM oM) <| Qa rfl (Qb (v := (i64 2)) rfl) ?_
 refine rN (Zq (sR ?_))
 refine Qa rfl (Qs (a := 2) (b := 4) rfl rfl) ?_
 refine rN (Qg ?_)
 refine Zc rfl (by decide) ?_
 refine Q7 (Qh (Qg (Qo (sR ?_))))
 refine Qa rfl (Qb (v := (i64 2)) rfl) <| Qa (v := (i64 i2)) rfl (Y4 (i := 2) Dh Fj rfl Dy rfl rfl oM sD (Qx _ _ 0 (by simp))) <| Qa rfl (Qc (v := (i64 2)) rfl) <| Qa rfl (Qc (v := (i64 i2)) rfl) ?_
 refine rN (Qe ?_)
 refine Qa rfl (Qb (v := (i64 2)) rfl) <| Qa rfl (Qb (v := (ptr bs 0)) rfl) <| Qa rfl (Qb (v := (i64 i2)) rfl) <| Qa rfl (Xb rfl) <| Qa rfl (Qd (r := (i2 : Int).toNat) oM U9 Zh rfl rfl oM sD) <| Qa (v := (u32 (s.getD ((i2 : Int).toNat) 0))) rfl (Qn Xk rfl rfl m4.h2 (Qx _ _ 0 sD)) <| Qa rfl (Qd (r := 2) (i := 2) oM Vh Zh rfl rfl oM oM) <| Zw (Zm (f := u32) (l' := [s.getD ((i0 : Int).toNat) 0, s.getD ((i1 : Int).toNat) 0, s.getD ((i2 : Int).toNat) 0, 0]) rfl Z5 Zh rfl rfl m4.h0 (by simp) (.inl (Nat.zero_le _))) ?_
 rintro _ w5 uq5
 have m5 := m4.upd0 uq5
 refine Zr (Qi (Qe ?_))
 refine Qa (v := (i64 3)) rfl (Qk (a := 2) (b := 1) rfl rfl oM oM) <| Qa rfl (Qb (v := (i64 3)) rfl) ?_
 refine rN (Zq (sR ?_))
 refine Qa rfl (Qs (a := 3) (b := 4) rfl rfl) ?_
 refine rN (Qg ?_)
 refine Zc rfl (by decide) ?_
 refine Q7 (Qh (Qg (Qo (sR ?_))))
 refine Qa rfl (Qb (v := (i64 3)) rfl) <| Qa (v := (i64 i3)) rfl (Y4 (i := 3) Dh Fj rfl Dy rfl rfl oM sD (Qx _ _ 0 (by simp))) <| Qa rfl (Qc (v := (i64 3)) rfl) <| Qa rfl (Qc (v := (i64 i3)) rfl) ?_
 refine rN (Qe ?_)
 refine Qa rfl (Qb (v := (i64 3)) rfl) <| Qa rfl (Qb (v := (ptr bs 0)) rfl) <| Qa rfl (Qb (v := (i64 i3)) rfl) <| Qa rfl (Xb rfl) <| Qa rfl (Qd (r := (i3 : Int).toNat) oM U9 Zh rfl rfl oM sD) <| Qa (v := (u32 (s.getD ((i3 : Int).toNat) 0))) rfl (Qn Xk rfl rfl m5.h2 (Qx _ _ 0 sD)) <| Qa rfl (Qd (r := 3) (i := 3) oM Vh Zh rfl rfl oM oM) <| Zw (Zm (f := u32) (l' := [s.getD ((i0 : Int).toNat) 0, s.getD ((i1 : Int).toNat) 0, s.getD ((i2 : Int).toNat) 0, s.getD ((i3 : Int).toNat) 0]) rfl Z5 Zh rfl rfl m5.h0 (by simp) (.inl (Nat.zero_le _))) ?_
 rintro _ w6 uq6
 have m6 := m5.upd0 uq6
 refine Zr (Qi (Qe ?_))
 refine Qa (v := (i64 4)) rfl (Qk (a := 3) (b := 1) rfl rfl oM oM) <| Qa rfl (Qb (v := (i64 4)) rfl) ?_
 refine rN (Zq (sR ?_))
 refine Qa rfl (Qs (a := 4) (b := 4) rfl rfl) ?_
 refine rN (Qg ?_)
 refine Yp rfl (by decide) <| X0 ?_
 refine Qr (Qr (Xf ?_))
 refine sR <| Qa rfl (Qw Vh rfl Rq rfl m6.h0 sZ) <| Za rfl (oc114 (Jj rfl) (Qon (s.getD ((i0 : Int).toNat) 0) (s.getD ((i1 : Int).toNat) 0) (s.getD ((i2 : Int).toNat) 0) (s.getD ((i3 : Int).toNat) 0) _)) ?_
 rintro _ w7 ⟨rfl, e7⟩
 have m7 := m6.ext e7
 refine Qa rfl (Qb (v := (i64 0)) rfl) ?_
 refine rN (Vq ?_)
 refine Kw 5 ?_
 refine Zq (sR ?_)
 refine Qa rfl (Qs (a := 0) (b := 4) rfl rfl) ?_
 refine rN (Qg ?_)
 refine Zc rfl (by decide) ?_
 refine Q7 (Qh (Qg (Qo (sR ?_))))
 refine Qa rfl (Qb (v := (i64 0)) rfl) <| Qa (v := (u32 ((Jg Zb (s.getD ((i0 : Int).toNat) 0) (s.getD ((i1 : Int).toNat) 0) (s.getD ((i2 : Int).toNat) 0) (s.getD ((i3 : Int).toNat) 0)).getD 0 0))) rfl (Y4 (i := 0) Vh Xk rfl Zh rfl rfl oM sD (Qx _ _ 0 sD)) <| Qa rfl (Qc (v := (i64 0)) rfl) <| rA rfl rfl <| rN <| Xq (dl 6) 6 (by kernel_rfl) <| Qj rfl rfl (fun _ _hx => Qb (v := (ptr bs 0)) rfl) <| Qj rfl rfl (fun _ _hx => Qb (v := (i64 0)) rfl) <| Qj rfl rfl (fun _ _hx => Qd (r := 0) (i := 0) oM Dh Dy rfl rfl oM oM) <| Qj (v := (i64 i0)) rfl rfl (fun _ _hx => Qn Fj rfl rfl (m7.ext _hx).h1 (Qx _ _ 0 (by simp))) <| dM rfl rfl rfl <| Qj rfl rfl (fun _ _hx => Xb rfl) ?_
 refine Xd (fun w8 e8 => ?_)
 have m8 := m7.ext e8
 refine Qa rfl (Qd (r := (i0 : Int).toNat) oM U9 Zh rfl rfl oM sD) <| Zw (Xn (f := u32) (a := (Jg Zb (s.getD ((i0 : Int).toNat) 0) (s.getD ((i1 : Int).toNat) 0) (s.getD ((i2 : Int).toNat) 0) (s.getD ((i3 : Int).toNat) 0)).getD 0 0) Z5 Zh rfl rfl m8.h2 sD (.inl (Nat.zero_le _))) ?_
 rintro _ w9 uq9
 have m9 := m8.upd2 uq9
 refine Zr (Qi (Qe ?_))
 refine Qa (v := (i64 1)) rfl (Qk (a := 0) (b := 1) rfl rfl oM oM) <| Qa rfl (Qb (v := (i64 1)) rfl) ?_
 refine rN (Zq (sR ?_))
 refine Qa rfl (Qs (a := 1) (b := 4) rfl rfl) ?_
 refine rN (Qg ?_)
 refine Zc rfl (by decide) ?_
 refine Q7 (Qh (Qg (Qo (sR ?_))))
 refine Qa rfl (Qb (v := (i64 1)) rfl) <| Qa (v := (u32 ((Jg Zb (s.getD ((i0 : Int).toNat) 0) (s.getD ((i1 : Int).toNat) 0) (s.getD ((i2 : Int).toNat) 0) (s.getD ((i3 : Int).toNat) 0)).getD 1 0))) rfl (Y4 (i := 1) Vh Xk rfl Zh rfl rfl oM sD (Qx _ _ 0 sD)) <| Qa rfl (Qc (v := (i64 1)) rfl) <| rA rfl rfl <| rN ?_
 refine CW.abs (fun g => g 0 = (ptr bs 0) ∧ g 1 = (agg i64 ([i0, i1, i2, i3])) ∧ g 3 = (ptr b3 0) ∧ g 4 = (ptr b4 0) ∧ g 5 = (i64 3) ∧ g 6 = (i64 i3) ∧ g 7 = (i64 1) ∧ g 8 = (u32 ((Jg Zb (s.getD ((i0 : Int).toNat) 0) (s.getD ((i1 : Int).toNat) 0) (s.getD ((i2 : Int).toNat) 0) (s.getD ((i3 : Int).toNat) 0)).getD 1 0)) ∧ g 9 = (agg i64 ([i0, i1, i2, i3])) ∧ g 10 = (i64 4) ∧ g 11 = (bl false) ∧ g 23 = (agg u32 (Jg Zb (s.getD ((i0 : Int).toNat) 0) (s.getD ((i1 : Int).toNat) 0) (s.getD ((i2 : Int).toNat) 0) (s.getD ((i3 : Int).toNat) 0))) ∧ g 24 = (i64 1) ∧ g 25 = (bl true) ∧ True) ⟨rfl, rfl, rfl, rfl, rfl, rfl, rfl, rfl, rfl, rfl, rfl, rfl, rfl, rfl, trivial⟩ ?_
 rintro fr10 ⟨s0, s1, s3, s4, s5, s6, s7, s8, s9, s10, s11, s23, s24, s25, _⟩
 refine Xq (dl 6) 6 (by kernel_rfl) <| dM rfl rfl s0 <| dM rfl rfl s7 <| Qj rfl rfl (fun _ _hx => Qd (r := 1) (i := 1) oM Dh Dy s3 rfl oM oM) <| Qj (v := (i64 i1)) rfl rfl (fun _ _hx => Qn Fj rfl rfl (m9.ext _hx).h1 (Qx _ _ 0 (by simp))) <| dM rfl rfl s8 <| Qj rfl rfl (fun _ _hx => Xb rfl) ?_
 refine Xd (fun w11 e11 => ?_)
 have m11 := m9.ext e11
 refine Qa rfl (Qd (r := (i1 : Int).toNat) oM U9 Zh rfl rfl oM sD) <| Zw (Xn (f := u32) (a := (Jg Zb (s.getD ((i0 : Int).toNat) 0) (s.getD ((i1 : Int).toNat) 0) (s.getD ((i2 : Int).toNat) 0) (s.getD ((i3 : Int).toNat) 0)).getD 1 0) Z5 Zh rfl rfl m11.h2 sD (.inl (Nat.zero_le _))) ?_
 rintro _ w12 uq12
 have m12 := m11.upd2 uq12
 refine Zr (Qi (Qe ?_))
 refine Qa (v := (i64 2)) rfl (Qk (a := 1) (b := 1) s24 rfl oM oM) <| Qa rfl (Qb (v := (i64 2)) rfl) ?_
 refine rN (Zq (sR ?_))
 refine Qa rfl (Qs (a := 2) (b := 4) rfl rfl) ?_
 refine rN (Qg ?_)
 refine Zc rfl (by decide) ?_
 refine Q7 (Qh (Qg (Qo (sR ?_))))
 refine Qa rfl (Qb (v := (i64 2)) rfl) <| Qa (v := (u32 ((Jg Zb (s.getD ((i0 : Int).toNat) 0) (s.getD ((i1 : Int).toNat) 0) (s.getD ((i2 : Int).toNat) 0) (s.getD ((i3 : Int).toNat) 0)).getD 2 0))) rfl (Y4 (i := 2) Vh Xk rfl Zh s23 rfl oM sD (Qx _ _ 0 sD)) <| Qa rfl (Qc (v := (i64 2)) rfl) <| rA rfl rfl <| rN <| Xq (dl 6) 6 (by kernel_rfl) <| dM rfl rfl s0 <| Qj rfl rfl (fun _ _hx => Qb (v := (i64 2)) rfl) <| Qj rfl rfl (fun _ _hx => Qd (r := 2) (i := 2) oM Dh Dy s3 rfl oM oM) <| Qj (v := (i64 i2)) rfl rfl (fun _ _hx => Qn Fj rfl rfl (m12.ext _hx).h1 (Qx _ _ 0 (by simp))) <| dM rfl rfl rfl <| Qj rfl rfl (fun _ _hx => Xb rfl) ?_
 refine Xd (fun w13 e13 => ?_)
 have m13 := m12.ext e13
 refine Qa rfl (Qd (r := (i2 : Int).toNat) oM U9 Zh rfl rfl oM sD) <| Zw (Xn (f := u32) (a := (Jg Zb (s.getD ((i0 : Int).toNat) 0) (s.getD ((i1 : Int).toNat) 0) (s.getD ((i2 : Int).toNat) 0) (s.getD ((i3 : Int).toNat) 0)).getD 2 0) Z5 Zh rfl rfl m13.h2 sD (.inl (Nat.zero_le _))) ?_
 rintro _ w14 uq14
 have m14 := m13.upd2 uq14
 refine Zr (Qi (Qe ?_))
 refine Qa (v := (i64 3)) rfl (Qk (a := 2) (b := 1) rfl rfl oM oM) <| Qa rfl (Qb (v := (i64 3)) rfl) ?_
 refine rN (Zq (sR ?_))
 refine Qa rfl (Qs (a := 3) (b := 4) rfl rfl) ?_
 refine rN (Qg ?_)
 refine Zc rfl (by decide) ?_
 refine Q7 (Qh (Qg (Qo (sR ?_))))
 refine Qa rfl (Qb (v := (i64 3)) rfl) <| Qa (v := (u32 ((Jg Zb (s.getD ((i0 : Int).toNat) 0) (s.getD ((i1 : Int).toNat) 0) (s.getD ((i2 : Int).toNat) 0) (s.getD ((i3 : Int).toNat) 0)).getD 3 0))) rfl (Y4 (i := 3) Vh Xk rfl Zh s23 rfl oM sD (Qx _ _ 0 sD)) <| Qa rfl (Qc (v := (i64 3)) rfl) <| rA rfl rfl <| rN <| Xq (dl 6) 6 (by kernel_rfl) <| dM rfl rfl s0 <| Qj rfl rfl (fun _ _hx => Qb (v := (i64 3)) rfl) <| Qj rfl rfl (fun _ _hx => Qd (r := 3) (i := 3) oM Dh Dy s3 rfl oM oM) <| Qj (v := (i64 i3)) rfl rfl (fun _ _hx => Qn Fj rfl rfl (m14.ext _hx).h1 (Qx _ _ 0 (by simp))) <| dM rfl rfl rfl <| Qj rfl rfl (fun _ _hx => Xb rfl) ?_
 refine Xd (fun w15 e15 => ?_)
 have m15 := m14.ext e15
 refine Qa rfl (Qd (r := (i3 : Int).toNat) oM U9 Zh rfl rfl oM sD) <| Zw (Xn (f := u32) (a := (Jg Zb (s.getD ((i0 : Int).toNat) 0) (s.getD ((i1 : Int).toNat) 0) (s.getD ((i2 : Int).toNat) 0) (s.getD ((i3 : Int).toNat) 0)).getD 3 0) Z5 Zh rfl rfl m15.h2 sD (.inl (Nat.zero_le _))) ?_
 rintro _ w16 uq16
 have m16 := m15.upd2 uq16
 refine Zr (Qi (Qe ?_))
 refine Qa (v := (i64 4)) rfl (Qk (a := 3) (b := 1) rfl rfl oM oM) <| Qa rfl (Qb (v := (i64 4)) rfl) ?_
 refine rN (Zq (sR ?_))
 refine Qa rfl (Qs (a := 4) (b := 4) rfl rfl) ?_
 refine rN (Qg ?_)
 refine Yp rfl (by decide) <| X0 ?_
 refine Qr (Qr (Xf ?_))
 refine Au [] trivial ?_
 exact ⟨rfl, Mem.drop [_, _] _ m16⟩
end Go.Proofs.YtkmiemlpfkfiiaaDoor
