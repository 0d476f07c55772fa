/- Contracts: the curve, first part. Conditions: none beyond those that each theorem states. -/
import Derived.Test.YtkmiemlpfkfiiaaDoorTab
import Derived.Test.YtkmiemlpfkfiiaaDoorCuM
namespace Go.Proofs.YtkmiemlpfkfiiaaDoor
open List renaming replicate → aA
open Mem renaming of_world → aY
open Nat renaming zero_le → aJ
open RowKit renaming intOf → aT
open Value renaming tuple → ak
open Tryd
set_option linter.unusedVariables false
set_option linter.unusedSimpArgs false
theorem c_mul64 (x y : BitVec 64) (w0 : World)   : Xz prog 110 #[(u64 x), (u64 y)] w0 (fun r w1 => r = (ak #[(u64 (Qaz x y)), (u64 (x * y))]) ∧ Ext w0 w1) := by
 refine Qz (args := [(u64 x), (u64 y)]) func110 rfl ntmps110 results110 rfl ?_
 have m0 : Mem w0 (Qs w0) [] := aY w0
 refine sR <| Zx (u64 0#64) <| Zx (u64 0#64) ?_
 refine rN (sR ?_)
 refine Zm (u64 x) <| Qd (Vp (b := 4294967295#64) rfl rfl) <| Zx (u64 (x &&& 4294967295#64)) ?_
 refine rN (sR ?_)
 refine Zm (u64 x) <| Qd (X7 (b := 32) rfl rfl oM) <| Zx (u64 (x >>> 32)) ?_
 refine rN (sR ?_)
 refine Zm (u64 y) <| Qd (Vp (b := 4294967295#64) rfl rfl) <| Zx (u64 (y &&& 4294967295#64)) ?_
 refine rN (sR ?_)
 refine Zm (u64 y) <| Qd (X7 (b := 32) rfl rfl oM) <| Zx (u64 (y >>> 32)) ?_
 refine rN (sR ?_)
 refine Zm (u64 (x &&& 4294967295#64)) <| Zm (u64 (y &&& 4294967295#64)) <| Qd (Eu rfl rfl) <| Zx (u64 ((x &&& 4294967295#64) * (y &&& 4294967295#64))) ?_
 refine rN (sR ?_)
 refine Zm (u64 (x >>> 32)) <| Zm (u64 (y &&& 4294967295#64)) <| Qd (Eu rfl rfl) <| Zm (u64 ((x &&& 4294967295#64) * (y &&& 4294967295#64))) <| Qd (X7 (b := 32) rfl rfl oM) <| Qd (Js rfl rfl) <| Tc rfl ?_
 refine rN (sR ?_)
 refine X9 rfl <| Qd (Vp (b := 4294967295#64) rfl rfl) <| Tc rfl ?_
 refine rN (sR ?_)
 refine X9 rfl <| Qd (X7 (b := 32) rfl rfl oM) <| Tc rfl ?_
 refine rN (sR ?_)
 refine X9 rfl <| Zm (u64 (x &&& 4294967295#64)) <| Zm (u64 (y >>> 32)) <| Qd (Eu rfl rfl) <| Qd (Js rfl rfl) <| Tc rfl ?_
 refine rN (sR ?_)
 refine Zm (u64 (x >>> 32)) <| Zm (u64 (y >>> 32)) <| Qd (Eu rfl rfl) <| X9 rfl <| Qd (Js rfl rfl) <| X9 rfl <| Qd (X7 (b := 32) rfl rfl oM) <| Qd (Js rfl rfl) <| Tc rfl ?_
 refine rN (sR ?_)
 refine Zm (u64 x) <| Zm (u64 y) <| Qd (Eu rfl rfl) <| Zx (u64 (x * y)) ?_
 refine rN (Z8 ?_)
 refine Qq [(u64 ((((x >>> 32) * (y >>> 32)) + ((((x >>> 32) * (y &&& 4294967295#64)) + (((x &&& 4294967295#64) * (y &&& 4294967295#64)) >>> 32)) >>> 32)) + ((((((x >>> 32) * (y &&& 4294967295#64)) + (((x &&& 4294967295#64) * (y &&& 4294967295#64)) >>> 32)) &&& 4294967295#64) + ((x &&& 4294967295#64) * (y >>> 32))) >>> 32))), (u64 (x * y))] ⟨rfl, rfl, trivial⟩ ?_
 exact ⟨congrArg (fun q => ak #[u64 q, u64 (x * y)]) (mulHG_eq x y), m0.toExt⟩
theorem c_wadd (bw off : Nat) (l : List (BitVec 64)) (x y : BitVec 64) (w0 : World) (R : Rest) (m0 : Mem w0 R [(bw, .cells (cl u64 l) 147 (0, 0))]) (hl : off + 2 ≤ l.length) : Xz prog 99 #[(ptr bw off), (u64 x), (u64 y)] w0 (fun r w1 => r = .tuple #[] ∧ Mem w1 R [(bw, .cells (cl u64 (Dh l off x y)) 147 (0, 0))]) := by
 refine Qz (args := [(ptr bw off), (u64 x), (u64 y)]) func99 rfl ntmps99 results99 rfl <| sR <| Zm (u64 x) <| Zm (u64 y) <| U5 m0 (oc110 (Xl rfl rfl) (c_mul64 x y _)) fun w1 m1 => Zm (ak #[(u64 (Qaz x y)), (u64 (x * y))]) <| Qd (v := (u64 (Qaz x y))) (Zr rfl rfl) <| Qd (v := (u64 (x * y))) (Zr rfl rfl) <| Zx (u64 (Qaz x y)) <| Zx (u64 (x * y)) ?_
 refine rN (sR ?_)
 refine Zx (u64 0#64) ?_
 refine rN (sR ?_)
 refine Zm (ptr bw off) <| Zm (ptr bw off) <| Qd (Zc rfl) <| Qd (Zl (r := off + 1) Qjd rfl Jj Xq rfl rfl) <| Qd (v := (u64 (l.getD (off + 1) 0))) (Qi Yh rfl rfl m1.h0 (Qu _ _ 0 sD)) <| Zm (u64 (x * y)) <| Qd (v := (ak #[(u64 ((l.getD (off + 1) 0) + (x * y) + 0#64)), (u64 (V8 (l.getD (off + 1) 0) (x * y) 0#64))])) (Qke (a := (l.getD (off + 1) 0)) (b := (x * y)) (c := 0#64) func100 Xv Xv Xv Xv rfl rfl rfl (by first | decide | exact Qhr _ _ Yx)) <| X9 rfl <| Qd (v := (u64 ((l.getD (off + 1) 0) + (x * y) + 0#64))) (Zr rfl rfl) <| Qd (v := (u64 (V8 (l.getD (off + 1) 0) (x * y) 0#64))) (Zr rfl rfl) <| Qd (Zc rfl) <| Qd (Zl (r := off + 1) Qjd rfl Jj Xq rfl rfl) ?_
 refine Ye m1 (Xw (f := u64) (a := (l.getD (off + 1) 0) + (x * y) + 0#64) Xu Xq rfl rfl m1.h0 sD (.inl (aJ _))) fun w3 m3 => Zx (u64 (V8 (l.getD (off + 1) 0) (x * y) 0#64)) ?_
 refine rN (Qb ?_)
 refine Zm (ptr bw off) <| Zm (ptr bw off) <| Qd (Zc rfl) <| Qd (Zl (r := off + 0) Qjd rfl Jj Xq rfl rfl) <| Qd (v := (u64 ((l.set (off + 1) ((l.getD (off + 1) 0) + (x * y) + 0#64)).getD (off + 0) 0))) (Qi Yh rfl rfl m3.h0 (Qu _ _ 0 sD)) <| Zm (u64 (Qaz x y)) <| Zm (u64 (V8 (l.getD (off + 1) 0) (x * y) 0#64)) <| Qd (v := (ak #[(u64 (((l.set (off + 1) ((l.getD (off + 1) 0) + (x * y) + 0#64)).getD (off + 0) 0) + (Qaz x y) + (V8 (l.getD (off + 1) 0) (x * y) 0#64))), (u64 (V8 ((l.set (off + 1) ((l.getD (off + 1) 0) + (x * y) + 0#64)).getD (off + 0) 0) (Qaz x y) (V8 (l.getD (off + 1) 0) (x * y) 0#64)))])) (Qke (a := ((l.set (off + 1) ((l.getD (off + 1) 0) + (x * y) + 0#64)).getD (off + 0) 0)) (b := (Qaz x y)) (c := (V8 (l.getD (off + 1) 0) (x * y) 0#64)) func100 Xv Xv Xv Xv rfl rfl rfl (by first | decide | exact Qhr _ _ Yx)) <| X9 rfl <| Qd (v := (u64 (((l.set (off + 1) ((l.getD (off + 1) 0) + (x * y) + 0#64)).getD (off + 0) 0) + (Qaz x y) + (V8 (l.getD (off + 1) 0) (x * y) 0#64)))) (Zr rfl rfl) <| Qd (v := (u64 (V8 ((l.set (off + 1) ((l.getD (off + 1) 0) + (x * y) + 0#64)).getD (off + 0) 0) (Qaz x y) (V8 (l.getD (off + 1) 0) (x * y) 0#64)))) (Zr rfl rfl) <| Qd (Zc rfl) ?_
 refine Qd (Zl (r := off + 0) Qjd rfl Jj Xq rfl rfl) <| Ye m3 (Xw (f := u64) (a := ((l.set (off + 1) ((l.getD (off + 1) 0) + (x * y) + 0#64)).getD (off + 0) 0) + (Qaz x y) + (V8 (l.getD (off + 1) 0) (x * y) 0#64)) Xu Xq rfl rfl m3.h0 sD (.inl (aJ _))) fun w4 m4 => Zp <| La [] trivial ?_
 exact ⟨rfl, m4⟩
theorem Qi9 (l : List (BitVec 64)) (w0 : World)  (hl : l.length = 5) : Xz prog 101 #[(agg u64 l)] w0 (fun r w1 => r = (agg u64 (Eb l)) ∧ Ext w0 w1) := by
 refine Qz (args := [(agg u64 l)]) func101 rfl ntmps101 results101 rfl ?_
 have m0 : Mem w0 (Qs w0) [] := aY w0
 refine sR <| Y5 (Z5 (f := u64) (l := l) m0 rfl) fun w1 b1 m1 => Y5 (Q7 m1 Yq) fun w2 b2 m2 => ?_
 refine rN (Qa (sR ?_))
 refine Zm (i64 0) ?_
 refine rN (Qh ?_)
 refine Y1 (fun g wv => ∃ (k : Nat) (wl : List (BitVec 64)), (k ≤ 2) ∧ (wl = carN l k) ∧ g 0 = (agg u64 l) ∧ g 1 = (ptr b1 0) ∧ g 2 = (ptr b2 0) ∧ g 5 = (i64 (k : Int)) ∧ Mem wv (Qs w0) [(b2, .cells (cl u64 (aA 5 0)) 126 (0, 0)), (b1, .cells (cl u64 wl) 126 (0, 0))]) (fun g wv => (2 - aT (g 5)).toNat) ?_ ?_
 ·exact ⟨0, l, oM, rfl, rfl, rfl, rfl, rfl, m2⟩
 rintro fr3 w4 ⟨k, wl, hk, hw, s0, s1, s2, s5, m4⟩
 have z5 := s5
 have hwl : wl.length = 5 := by rw [hw, Qpp, hl]
 obtain ⟨e0, e1, e2, e3, e4, rfl⟩ := Qew wl hwl
 refine sR <| Qd (Xd (b := 2) s5 rfl) ?_
 refine rN (Qa ?_)
 refine Zz rfl (fun hc5 => ?_) (fun hc5 => ?_)
 ·
  have hc5p := of_decide_eq_true hc5
  refine Qo (Qc (Qa (Qh (sR ?_))))
  refine Zx (u64 0#64) ?_
  refine rN (Qa (sR ?_))
  refine Zm (i64 0) ?_
  refine rN (Qh ?_)
  refine Vk 6 ?_
  refine Zq (sR ?_)
  refine Qd (Jc 0 5) ?_
  refine rN (Qa ?_)
  refine Za rfl Yx ?_
  refine Qo (Qc (Qa (Qh (sR ?_))))
  refine Zm (i64 0) <| Zx (i64 0) ?_
  refine rN (sR ?_)
  refine Zm (i64 0) <| Qd (Xr 0 0 Xp Xq s1) <| Qd (v := (u64 e0)) (Qi Yh rfl rfl m4.h1 (Qu _ _ 0 Ya)) <| Zm (u64 0#64) <| Qd (Js (b := 0#64) rfl rfl) <| Qd (Xr 0 0 Xp Xq s1) <| Vs m4 (Zi (f := u64) (l' := [e0 + 0#64, e1, e2, e3, e4]) rfl Xu Xq rfl rfl m4.h1 Ya (.inl (aJ _))) fun w6 m6 => ?_
  refine rN (sR ?_)
  refine Zm (i64 0) <| Qd (Xr 0 0 Xp Xq s1) <| Qd (v := (u64 (e0 + 0#64))) (Qi Yh rfl rfl m6.h1 (Qu _ _ 0 Ya)) <| Qd (X7 (b := 51) rfl rfl oM) <| Zx (u64 ((e0 + 0#64) >>> 51)) ?_
  refine rN (Qb ?_)
  refine Zm (i64 0) <| Qd (Xr 0 0 Xp Xq s1) <| Qd (v := (u64 (e0 + 0#64))) (Qi Yh rfl rfl m6.h1 (Qu _ _ 0 Ya)) <| Qd (Vp (b := 2251799813685247#64) rfl rfl) <| Qd (Xr 0 0 Xp Xq s1) <| Vs m6 (Zi (f := u64) (l' := [(e0 + 0#64) &&& 2251799813685247#64, e1, e2, e3, e4]) rfl Xu Xq rfl rfl m6.h1 Ya (.inl (aJ _))) fun w7 m7 => ?_
  refine Zp (Qe (Qb ?_))
  refine Qd (v := (i64 1)) (Yk 0 1) <| Zm (i64 1) ?_
  refine rN (Zq (sR ?_))
  refine Qd (Jc 1 5) ?_
  refine rN (Qa ?_)
  refine Za rfl Yx ?_
  refine Qo (Qc (Qa (Qh (sR ?_))))
  refine Zm (i64 1) <| Zx (i64 1) ?_
  refine rN (sR ?_)
  refine Zm (i64 1) <| Qd (Xr 1 1 Xp Xq s1) <| Qd (v := (u64 e1)) (Qi Yh rfl rfl m7.h1 (Qu _ _ 0 Ya)) <| Zm (u64 ((e0 + 0#64) >>> 51)) <| Qd (Js rfl rfl) <| Qd (Xr 1 1 Xp Xq s1) <| Vs m7 (Zi (f := u64) (l' := [(e0 + 0#64) &&& 2251799813685247#64, e1 + ((e0 + 0#64) >>> 51), e2, e3, e4]) rfl Xu Xq rfl rfl m7.h1 Ya (.inl (aJ _))) fun w8 m8 => ?_
  refine rN (sR ?_)
  refine Zm (i64 1) <| Qd (Xr 1 1 Xp Xq s1) <| Qd (v := (u64 (e1 + ((e0 + 0#64) >>> 51)))) (Qi Yh rfl rfl m8.h1 (Qu _ _ 0 Ya)) <| Qd (X7 (b := 51) rfl rfl oM) <| Zx (u64 ((e1 + ((e0 + 0#64) >>> 51)) >>> 51)) ?_
  refine rN (Qb ?_)
  refine Zm (i64 1) <| Qd (Xr 1 1 Xp Xq s1) <| Qd (v := (u64 (e1 + ((e0 + 0#64) >>> 51)))) (Qi Yh rfl rfl m8.h1 (Qu _ _ 0 Ya)) <| Qd (Vp (b := 2251799813685247#64) rfl rfl) <| Qd (Xr 1 1 Xp Xq s1) <| Vs m8 (Zi (f := u64) (l' := [(e0 + 0#64) &&& 2251799813685247#64, (e1 + ((e0 + 0#64) >>> 51)) &&& 2251799813685247#64, e2, e3, e4]) rfl Xu Xq rfl rfl m8.h1 Ya (.inl (aJ _))) fun w9 m9 => ?_
  refine Zp (Qe (Qb ?_))
  refine Qd (v := (i64 2)) (Yk 1 1) <| Zm (i64 2) ?_
  refine rN (Zq (sR ?_))
  refine Qd (Jc 2 5) ?_
  refine rN (Qa ?_)
  refine Za rfl Yx ?_
  refine Qo (Qc (Qa (Qh (sR ?_))))
  refine Zm (i64 2) <| Zx (i64 2) ?_
  refine rN (sR ?_)
  refine Zm (i64 2) <| Qd (Xr 2 2 Xp Xq s1) <| Qd (v := (u64 e2)) (Qi Yh rfl rfl m9.h1 (Qu _ _ 0 Ya)) <| Zm (u64 ((e1 + ((e0 + 0#64) >>> 51)) >>> 51)) <| Qd (Js rfl rfl) <| Qd (Xr 2 2 Xp Xq s1) <| Vs m9 (Zi (f := u64) (l' := [(e0 + 0#64) &&& 2251799813685247#64, (e1 + ((e0 + 0#64) >>> 51)) &&& 2251799813685247#64, e2 + ((e1 + ((e0 + 0#64) >>> 51)) >>> 51), e3, e4]) rfl Xu Xq rfl rfl m9.h1 Ya (.inl (aJ _))) fun w10 m10 => ?_
  refine rN (sR ?_)
  refine Zm (i64 2) <| Qd (Xr 2 2 Xp Xq s1) <| Qd (v := (u64 (e2 + ((e1 + ((e0 + 0#64) >>> 51)) >>> 51)))) (Qi Yh rfl rfl m10.h1 (Qu _ _ 0 Ya)) <| Qd (X7 (b := 51) rfl rfl oM) <| Zx (u64 ((e2 + ((e1 + ((e0 + 0#64) >>> 51)) >>> 51)) >>> 51)) ?_
  refine rN (Qb ?_)
  refine Zm (i64 2) <| Qd (Xr 2 2 Xp Xq s1) <| Qd (v := (u64 (e2 + ((e1 + ((e0 + 0#64) >>> 51)) >>> 51)))) (Qi Yh rfl rfl m10.h1 (Qu _ _ 0 Ya)) <| Qd (Vp (b := 2251799813685247#64) rfl rfl) <| Qd (Xr 2 2 Xp Xq s1) <| Vs m10 (Zi (f := u64) (l' := [(e0 + 0#64) &&& 2251799813685247#64, (e1 + ((e0 + 0#64) >>> 51)) &&& 2251799813685247#64, (e2 + ((e1 + ((e0 + 0#64) >>> 51)) >>> 51)) &&& 2251799813685247#64, e3, e4]) rfl Xu Xq rfl rfl m10.h1 Ya (.inl (aJ _))) fun w11 m11 => ?_
  refine Zp (Qe (Qb ?_))
  refine Qd (v := (i64 3)) (Yk 2 1) <| Zm (i64 3) ?_
  refine rN (Zq (sR ?_))
  refine Qd (Jc 3 5) ?_
  refine rN (Qa ?_)
  refine Za rfl Yx ?_
  refine Qo (Qc (Qa (Qh (sR ?_))))
  refine Zm (i64 3) <| Zx (i64 3) ?_
  refine rN (sR ?_)
  refine Zm (i64 3) <| Qd (Xr 3 3 Xp Xq s1) <| Qd (v := (u64 e3)) (Qi Yh rfl rfl m11.h1 (Qu _ _ 0 Ya)) <| Zm (u64 ((e2 + ((e1 + ((e0 + 0#64) >>> 51)) >>> 51)) >>> 51)) <| Qd (Js rfl rfl) <| Qd (Xr 3 3 Xp Xq s1) <| Vs m11 (Zi (f := u64) (l' := [(e0 + 0#64) &&& 2251799813685247#64, (e1 + ((e0 + 0#64) >>> 51)) &&& 2251799813685247#64, (e2 + ((e1 + ((e0 + 0#64) >>> 51)) >>> 51)) &&& 2251799813685247#64, e3 + ((e2 + ((e1 + ((e0 + 0#64) >>> 51)) >>> 51)) >>> 51), e4]) rfl Xu Xq rfl rfl m11.h1 Ya (.inl (aJ _))) fun w12 m12 => ?_
  refine rN (sR ?_)
  refine Zm (i64 3) <| Qd (Xr 3 3 Xp Xq s1) <| Qd (v := (u64 (e3 + ((e2 + ((e1 + ((e0 + 0#64) >>> 51)) >>> 51)) >>> 51)))) (Qi Yh rfl rfl m12.h1 (Qu _ _ 0 Ya)) <| Qd (X7 (b := 51) rfl rfl oM) <| Zx (u64 ((e3 + ((e2 + ((e1 + ((e0 + 0#64) >>> 51)) >>> 51)) >>> 51)) >>> 51)) ?_
  refine rN (Qb ?_)
  refine Zm (i64 3) <| Qd (Xr 3 3 Xp Xq s1) <| Qd (v := (u64 (e3 + ((e2 + ((e1 + ((e0 + 0#64) >>> 51)) >>> 51)) >>> 51)))) (Qi Yh rfl rfl m12.h1 (Qu _ _ 0 Ya)) <| Qd (Vp (b := 2251799813685247#64) rfl rfl) <| Qd (Xr 3 3 Xp Xq s1) <| Vs m12 (Zi (f := u64) (l' := [(e0 + 0#64) &&& 2251799813685247#64, (e1 + ((e0 + 0#64) >>> 51)) &&& 2251799813685247#64, (e2 + ((e1 + ((e0 + 0#64) >>> 51)) >>> 51)) &&& 2251799813685247#64, (e3 + ((e2 + ((e1 + ((e0 + 0#64) >>> 51)) >>> 51)) >>> 51)) &&& 2251799813685247#64, e4]) rfl Xu Xq rfl rfl m12.h1 Ya (.inl (aJ _))) fun w13 m13 => ?_
  refine Zp (Qe ?_)
  refine CW.abs (fun g => g 0 = (agg u64 l) ∧ g 1 = (ptr b1 0) ∧ g 2 = (ptr b2 0) ∧ g 3 = (u64 ((e3 + ((e2 + ((e1 + ((e0 + 0#64) >>> 51)) >>> 51)) >>> 51)) >>> 51)) ∧ g 4 = (i64 3) ∧ g 5 = (i64 (k : Int)) ∧ g 6 = (bl (decide ((k : Int) < 2))) ∧ g 7 = (i64 3) ∧ g 8 = (bl true) ∧ True) ⟨s0, s1, s2, rfl, rfl, s5, rfl, rfl, rfl, trivial⟩ ?_
  rintro fr14 ⟨s0, s1, s2, s3, s4, s5, s6, s7, s8, _⟩
  refine Qb <| Qd (v := (i64 4)) (Zg (a := 3) (b := 1) s7 rfl oM oM) <| Zm (i64 4) ?_
  refine rN (Zq (sR ?_))
  refine Qd (Jc 4 5) ?_
  refine rN (Qa ?_)
  refine Za rfl Yx ?_
  refine Qo (Qc (Qa (Qh (sR ?_))))
  refine Zm (i64 4) <| Zx (i64 4) ?_
  refine rN (sR ?_)
  refine Zm (i64 4) <| Qd (Xr 4 4 Xp Xq s1) <| Qd (v := (u64 e4)) (Qi Yh rfl rfl m13.h1 (Qu _ _ 0 Ya)) <| X9 s3 <| Qd (Js rfl rfl) <| Qd (Xr 4 4 Xp Xq s1) <| Vs m13 (Zi (f := u64) (l' := [(e0 + 0#64) &&& 2251799813685247#64, (e1 + ((e0 + 0#64) >>> 51)) &&& 2251799813685247#64, (e2 + ((e1 + ((e0 + 0#64) >>> 51)) >>> 51)) &&& 2251799813685247#64, (e3 + ((e2 + ((e1 + ((e0 + 0#64) >>> 51)) >>> 51)) >>> 51)) &&& 2251799813685247#64, e4 + ((e3 + ((e2 + ((e1 + ((e0 + 0#64) >>> 51)) >>> 51)) >>> 51)) >>> 51)]) rfl Xu Xq rfl rfl m13.h1 Ya (.inl (aJ _))) fun w15 m15 => ?_
  refine rN (sR ?_)
  refine Zm (i64 4) <| Qd (Xr 4 4 Xp Xq s1) <| Qd (v := (u64 (e4 + ((e3 + ((e2 + ((e1 + ((e0 + 0#64) >>> 51)) >>> 51)) >>> 51)) >>> 51)))) (Qi Yh rfl rfl m15.h1 (Qu _ _ 0 Ya)) <| Qd (X7 (b := 51) rfl rfl oM) <| Tc rfl ?_
  refine rN (Qb ?_)
  refine Zm (i64 4) <| Qd (Xr 4 4 Xp Xq s1) <| Qd (v := (u64 (e4 + ((e3 + ((e2 + ((e1 + ((e0 + 0#64) >>> 51)) >>> 51)) >>> 51)) >>> 51)))) (Qi Yh rfl rfl m15.h1 (Qu _ _ 0 Ya)) <| Qd (Vp (b := 2251799813685247#64) rfl rfl) <| Qd (Xr 4 4 Xp Xq s1) <| Vs m15 (Zi (f := u64) (l' := [(e0 + 0#64) &&& 2251799813685247#64, (e1 + ((e0 + 0#64) >>> 51)) &&& 2251799813685247#64, (e2 + ((e1 + ((e0 + 0#64) >>> 51)) >>> 51)) &&& 2251799813685247#64, (e3 + ((e2 + ((e1 + ((e0 + 0#64) >>> 51)) >>> 51)) >>> 51)) &&& 2251799813685247#64, (e4 + ((e3 + ((e2 + ((e1 + ((e0 + 0#64) >>> 51)) >>> 51)) >>> 51)) >>> 51)) &&& 2251799813685247#64]) rfl Xu Xq rfl rfl m15.h1 Ya (.inl (aJ _))) fun w16 m16 => ?_
  refine Zp (Qe (Qb ?_))
  refine Qd (v := (i64 5)) (Yk 4 1) <| Zm (i64 5) ?_
  refine rN (Zq (sR ?_))
  refine Qd (Jc 5 5) ?_
  refine rN (Qa ?_)
  refine Ja rfl Yx <| X3 ?_
  refine Qj (Qj (Xk ?_))
  refine Qb <| Qd (Xr 0 0 Xp Xq s1) <| Qd (v := (u64 ((e0 + 0#64) &&& 2251799813685247#64))) (Qi Yh rfl rfl m16.h1 (Qu _ _ 0 Ya)) <| X9 rfl <| Qd (Eu (a := 19#64) rfl rfl) <| Qd (Js rfl rfl) <| Qd (Xr 0 0 Xp Xq s1) <| Vs m16 (Zi (f := u64) (l' := [((e0 + 0#64) &&& 2251799813685247#64) + (19#64 * ((e4 + ((e3 + ((e2 + ((e1 + ((e0 + 0#64) >>> 51)) >>> 51)) >>> 51)) >>> 51)) >>> 51)), (e1 + ((e0 + 0#64) >>> 51)) &&& 2251799813685247#64, (e2 + ((e1 + ((e0 + 0#64) >>> 51)) >>> 51)) &&& 2251799813685247#64, (e3 + ((e2 + ((e1 + ((e0 + 0#64) >>> 51)) >>> 51)) >>> 51)) &&& 2251799813685247#64, (e4 + ((e3 + ((e2 + ((e1 + ((e0 + 0#64) >>> 51)) >>> 51)) >>> 51)) >>> 51)) &&& 2251799813685247#64]) rfl Xu Xq rfl rfl m16.h1 Ya (.inl (aJ _))) fun w17 m17 => ?_
  refine Zp (Qe (Qb ?_))
  refine Qd (Zg (b := 1) s5 rfl oM oM) <| Zm (i64 ((k : Int) + 1)) <| rN ?_
  have hwn : [((e0 + 0#64) &&& 2251799813685247#64) + (19#64 * ((e4 + ((e3 + ((e2 + ((e1 + ((e0 + 0#64) >>> 51)) >>> 51)) >>> 51)) >>> 51)) >>> 51)), (e1 + ((e0 + 0#64) >>> 51)) &&& 2251799813685247#64, (e2 + ((e1 + ((e0 + 0#64) >>> 51)) >>> 51)) &&& 2251799813685247#64, (e3 + ((e2 + ((e1 + ((e0 + 0#64) >>> 51)) >>> 51)) >>> 51)) &&& 2251799813685247#64, (e4 + ((e3 + ((e2 + ((e1 + ((e0 + 0#64) >>> 51)) >>> 51)) >>> 51)) >>> 51)) &&& 2251799813685247#64] = carN l (k + 1) := by show _ = Qfh (carN l k); rw [← hw]; rfl
  exact ⟨⟨k + 1, ([((e0 + 0#64) &&& 2251799813685247#64) + (19#64 * ((e4 + ((e3 + ((e2 + ((e1 + ((e0 + 0#64) >>> 51)) >>> 51)) >>> 51)) >>> 51)) >>> 51)), (e1 + ((e0 + 0#64) >>> 51)) &&& 2251799813685247#64, (e2 + ((e1 + ((e0 + 0#64) >>> 51)) >>> 51)) &&& 2251799813685247#64, (e3 + ((e2 + ((e1 + ((e0 + 0#64) >>> 51)) >>> 51)) >>> 51)) &&& 2251799813685247#64, (e4 + ((e3 + ((e2 + ((e1 + ((e0 + 0#64) >>> 51)) >>> 51)) >>> 51)) >>> 51)) &&& 2251799813685247#64]), oM, hwn, s0, s1, s2, rfl, m17⟩, Uj rfl z5 oM oM⟩
 ·
  have hc5p := of_decide_eq_false hc5
  obtain rfl : k = 2 := by omega
  refine X3 ?_
  refine Qj (Qj (Xk ?_))
  refine sR <| Qd (Qn Xp rfl Yq s1 m4.h1 sZ) <| Ye m4 (Qg (f := u64) (l := [e0, e1, e2, e3, e4]) Xu Yq s2 rfl sD m4.h0 sZ rfl) fun w18 m18 => ?_
  refine rN (Z8 ?_)
  refine Qq [(agg u64 ([e0, e1, e2, e3, e4]))] ⟨⟨_, s2, Xm Xp rfl Yq m18.h0 sZ⟩, trivial⟩ ?_
  exact ⟨congrArg (agg u64) hw, m18.toExt⟩
theorem Qnv (a b : List (BitVec 64)) (w0 : World)  (ha : a.length = 5) (hb : b.length = 5) : Xz prog 97 #[(agg u64 a), (agg u64 b)] w0 (fun r w1 => r = (agg u64 (Zy a b)) ∧ Ext w0 w1) := by
 refine Qz (args := [(agg u64 a), (agg u64 b)]) func97 rfl ntmps97 results97 rfl ?_
 have m0 : Mem w0 (Qs w0) [] := aY w0
 obtain ⟨x0, x1, x2, x3, x4, rfl⟩ := Qew a ha
 obtain ⟨y0, y1, y2, y3, y4, rfl⟩ := Qew b hb
 refine sR <| Y5 (Z5 (f := u64) (l := [x0, x1, x2, x3, x4]) m0 rfl) fun w1 b2 m1 => Y5 (Z5 (f := u64) (l := [y0, y1, y2, y3, y4]) m1 rfl) fun w2 b3 m2 => Y5 (Q7 m2 Yq) fun w3 b4 m3 => ?_
 refine rN (Qa (sR ?_))
 refine Zm (i64 0) ?_
 refine rN (Qh ?_)
 refine Vk 6 ?_
 refine Zq (sR ?_)
 refine Qd (Jc 0 5) ?_
 refine rN (Qa ?_)
 refine Za rfl Yx ?_
 refine Qo (Qc (Qa (Qh (sR ?_))))
 refine Zm (i64 0) <| Zx (i64 0) <| rN <| Xi (dl 8) 8 Xv <| J7 rfl (i64 0) <| J7 rfl (i64 0) <| X4 rfl (Xr 0 0 Xp Xq rfl) <| Yj (v := (u64 x0)) rfl (fun _ e' => Qi Yh rfl rfl (m3.ext e').h2 (Qu _ _ 0 Ya)) <| J7 rfl (i64 0) <| X4 rfl (Xr 0 0 Xp Xq rfl) <| Yj (v := (u64 y0)) rfl (fun _ e' => Qi Yh rfl rfl (m3.ext e').h1 (Qu _ _ 0 Ya)) <| X4 rfl (Js rfl rfl) ?_
 refine Gf m3 fun w4 m4 => Qd (Xr 0 0 Xp Xq rfl) <| Ye m4 (Zi (f := u64) (l' := [x0 + y0, 0, 0, 0, 0]) rfl Xu Xq rfl rfl m4.h0 Ya (.inl (aJ _))) fun w5 m5 => ?_
 refine Zp (Qe (Qb ?_))
 refine Qd (v := (i64 1)) (Yk 0 1) <| Zm (i64 1) ?_
 refine rN (Zq (sR ?_))
 refine Qd (Jc 1 5) ?_
 refine rN (Qa ?_)
 refine Za rfl Yx ?_
 refine Qo (Qc (Qa (Qh (sR ?_))))
 refine Zm (i64 1) <| Zx (i64 1) <| rN <| Xi (dl 8) 8 Xv <| J7 rfl (i64 1) <| J7 rfl (i64 1) <| X4 rfl (Xr 1 1 Xp Xq rfl) <| Yj (v := (u64 x1)) rfl (fun _ e' => Qi Yh rfl rfl (m5.ext e').h2 (Qu _ _ 0 Ya)) <| J7 rfl (i64 1) <| X4 rfl (Xr 1 1 Xp Xq rfl) <| Yj (v := (u64 y1)) rfl (fun _ e' => Qi Yh rfl rfl (m5.ext e').h1 (Qu _ _ 0 Ya)) <| X4 rfl (Js rfl rfl) ?_
 refine Gf m5 fun w6 m6 => Qd (Xr 1 1 Xp Xq rfl) <| Ye m6 (Zi (f := u64) (l' := [x0 + y0, x1 + y1, 0, 0, 0]) rfl Xu Xq rfl rfl m6.h0 Ya (.inl (aJ _))) fun w7 m7 => ?_
 refine Zp (Qe (Qb ?_))
 refine Qd (v := (i64 2)) (Yk 1 1) <| Zm (i64 2) ?_
 refine rN (Zq (sR ?_))
 refine Qd (Jc 2 5) ?_
 refine rN (Qa ?_)
 refine Za rfl Yx ?_
 refine Qo (Qc (Qa (Qh (sR ?_))))
 refine Zm (i64 2) <| Zx (i64 2) <| rN <| Xi (dl 8) 8 Xv <| J7 rfl (i64 2) <| J7 rfl (i64 2) <| X4 rfl (Xr 2 2 Xp Xq rfl) <| Yj (v := (u64 x2)) rfl (fun _ e' => Qi Yh rfl rfl (m7.ext e').h2 (Qu _ _ 0 Ya)) <| J7 rfl (i64 2) <| X4 rfl (Xr 2 2 Xp Xq rfl) <| Yj (v := (u64 y2)) rfl (fun _ e' => Qi Yh rfl rfl (m7.ext e').h1 (Qu _ _ 0 Ya)) <| X4 rfl (Js rfl rfl) ?_
 refine Gf m7 fun w8 m8 => Qd (Xr 2 2 Xp Xq rfl) <| Ye m8 (Zi (f := u64) (l' := [x0 + y0, x1 + y1, x2 + y2, 0, 0]) rfl Xu Xq rfl rfl m8.h0 Ya (.inl (aJ _))) fun w9 m9 => ?_
 refine Zp (Qe (Qb ?_))
 refine Qd (v := (i64 3)) (Yk 2 1) <| Zm (i64 3) ?_
 refine rN (Zq (sR ?_))
 refine Qd (Jc 3 5) ?_
 refine rN (Qa ?_)
 refine Za rfl Yx ?_
 refine Qo (Qc (Qa (Qh (sR ?_))))
 refine Zm (i64 3) <| Zx (i64 3) <| rN <| Xi (dl 8) 8 Xv <| J7 rfl (i64 3) <| J7 rfl (i64 3) <| X4 rfl (Xr 3 3 Xp Xq rfl) <| Yj (v := (u64 x3)) rfl (fun _ e' => Qi Yh rfl rfl (m9.ext e').h2 (Qu _ _ 0 Ya)) <| J7 rfl (i64 3) <| X4 rfl (Xr 3 3 Xp Xq rfl) <| Yj (v := (u64 y3)) rfl (fun _ e' => Qi Yh rfl rfl (m9.ext e').h1 (Qu _ _ 0 Ya)) <| X4 rfl (Js rfl rfl) ?_
 refine Gf m9 fun w10 m10 => Qd (Xr 3 3 Xp Xq rfl) <| Ye m10 (Zi (f := u64) (l' := [x0 + y0, x1 + y1, x2 + y2, x3 + y3, 0]) rfl Xu Xq rfl rfl m10.h0 Ya (.inl (aJ _))) fun w11 m11 => ?_
 refine Zp (Qe (Qb ?_))
 refine Qd (v := (i64 4)) (Yk 3 1) <| Zm (i64 4) ?_
 refine rN (Zq (sR ?_))
 refine Qd (Jc 4 5) ?_
 refine rN (Qa ?_)
 refine Za rfl Yx ?_
 refine Qo (Qc (Qa (Qh (sR ?_))))
 refine Zm (i64 4) <| Zx (i64 4) <| rN <| Xi (dl 8) 8 Xv <| J7 rfl (i64 4) <| J7 rfl (i64 4) <| X4 rfl (Xr 4 4 Xp Xq rfl) <| Yj (v := (u64 x4)) rfl (fun _ e' => Qi Yh rfl rfl (m11.ext e').h2 (Qu _ _ 0 Ya)) <| J7 rfl (i64 4) <| X4 rfl (Xr 4 4 Xp Xq rfl) <| Yj (v := (u64 y4)) rfl (fun _ e' => Qi Yh rfl rfl (m11.ext e').h1 (Qu _ _ 0 Ya)) <| X4 rfl (Js rfl rfl) ?_
 refine Gf m11 fun w12 m12 => Qd (Xr 4 4 Xp Xq rfl) <| Ye m12 (Zi (f := u64) (l' := [x0 + y0, x1 + y1, x2 + y2, x3 + y3, x4 + y4]) rfl Xu Xq rfl rfl m12.h0 Ya (.inl (aJ _))) fun w13 m13 => ?_
 refine Zp (Qe (Qb ?_))
 refine Qd (v := (i64 5)) (Yk 4 1) <| Zm (i64 5) ?_
 refine rN (Zq (sR ?_))
 refine Qd (Jc 5 5) ?_
 refine rN (Qa ?_)
 refine Ja rfl Yx <| X3 ?_
 refine Qj (Qj (Xk ?_))
 refine sR <| Qd (Qn Xp rfl Yq rfl m13.h0 sZ) <| U5 m13 (oc101 (Jz rfl) (Qi9 _ _ sD)) fun w14 m14 => Ye m14 (Qg (f := u64) (l := Eb ([x0 + y0, x1 + y1, x2 + y2, x3 + y3, x4 + y4])) Xu Yq rfl rfl sD m14.h0 sZ rfl) fun w16 m16 => ?_
 refine rN (Z8 ?_)
 refine Qq [(agg u64 (Eb ([x0 + y0, x1 + y1, x2 + y2, x3 + y3, x4 + y4])))] ⟨⟨_, rfl, Xm Xp rfl Yq m16.h0 sZ⟩, trivial⟩ ?_
 exact ⟨rfl, m16.toExt⟩
theorem Qi7 (a b : List (BitVec 64)) (w0 : World)  (ha : a.length = 5) (hb : b.length = 5) : Xz prog 98 #[(agg u64 a), (agg u64 b)] w0 (fun r w1 => r = (agg u64 (Zb a b)) ∧ Ext w0 w1) := by
 refine Qz (args := [(agg u64 a), (agg u64 b)]) func98 rfl ntmps98 results98 rfl ?_
 have m0 : Mem w0 (Qs w0) [] := aY w0
 obtain ⟨x0, x1, x2, x3, x4, rfl⟩ := Qew a ha
 obtain ⟨y0, y1, y2, y3, y4, rfl⟩ := Qew b hb
 refine sR <| Y5 (Z5 (f := u64) (l := [x0, x1, x2, x3, x4]) m0 rfl) fun w1 b2 m1 => Y5 (Z5 (f := u64) (l := [y0, y1, y2, y3, y4]) m1 rfl) fun w2 b3 m2 => Y5 (Q7 m2 Yq) fun w3 b4 m3 => ?_
 refine rN (Qa (sR ?_))
 refine Zm (i64 0) ?_
 refine rN (Qh ?_)
 refine Vk 6 ?_
 refine Zq (sR ?_)
 refine Qd (Jc 0 5) ?_
 refine rN (Qa ?_)
 refine Za rfl Yx ?_
 refine Qo (Qc (Qa (Qh (sR ?_))))
 refine Zm (i64 0) <| Zx (i64 0) <| rN <| Xi (dl 9) 9 Xv <| J7 rfl (i64 0) <| J7 rfl (i64 0) <| X4 rfl (Xr 0 0 Xp Xq rfl) <| Yj (v := (u64 x0)) rfl (fun _ e' => Qi Yh rfl rfl (m3.ext e').h2 (Qu _ _ 0 Ya)) <| X4 rfl (Js (b := 4503599627370494#64) rfl rfl) <| J7 rfl (i64 0) <| X4 rfl (Xr 0 0 Xp Xq rfl) <| Yj (v := (u64 y0)) rfl (fun _ e' => Qi Yh rfl rfl (m3.ext e').h1 (Qu _ _ 0 Ya)) ?_
 refine X4 rfl (Lr rfl rfl) <| Gf m3 fun w4 m4 => Qd (Xr 0 0 Xp Xq rfl) <| Ye m4 (Zi (f := u64) (l' := [(x0 + 4503599627370494#64) - y0, 0, 0, 0, 0]) rfl Xu Xq rfl rfl m4.h0 Ya (.inl (aJ _))) fun w5 m5 => ?_
 refine Zp (Qe (Qb ?_))
 refine Qd (v := (i64 1)) (Yk 0 1) <| Zm (i64 1) ?_
 refine rN (Zq (sR ?_))
 refine Qd (Jc 1 5) ?_
 refine rN (Qa ?_)
 refine Za rfl Yx ?_
 refine Qo (Qc (Qa (Qh (sR ?_))))
 refine Zm (i64 1) <| Zx (i64 1) <| rN <| Xi (dl 9) 9 Xv <| J7 rfl (i64 1) <| J7 rfl (i64 1) <| X4 rfl (Xr 1 1 Xp Xq rfl) <| Yj (v := (u64 x1)) rfl (fun _ e' => Qi Yh rfl rfl (m5.ext e').h2 (Qu _ _ 0 Ya)) <| X4 rfl (Js (b := 4503599627370494#64) rfl rfl) <| J7 rfl (i64 1) <| X4 rfl (Xr 1 1 Xp Xq rfl) <| Yj (v := (u64 y1)) rfl (fun _ e' => Qi Yh rfl rfl (m5.ext e').h1 (Qu _ _ 0 Ya)) ?_
 refine X4 rfl (Lr rfl rfl) <| Gf m5 fun w6 m6 => Qd (Xr 1 1 Xp Xq rfl) <| Ye m6 (Zi (f := u64) (l' := [(x0 + 4503599627370494#64) - y0, (x1 + 4503599627370494#64) - y1, 0, 0, 0]) rfl Xu Xq rfl rfl m6.h0 Ya (.inl (aJ _))) fun w7 m7 => ?_
 refine Zp (Qe (Qb ?_))
 refine Qd (v := (i64 2)) (Yk 1 1) <| Zm (i64 2) ?_
 refine rN (Zq (sR ?_))
 refine Qd (Jc 2 5) ?_
 refine rN (Qa ?_)
 refine Za rfl Yx ?_
 refine Qo (Qc (Qa (Qh (sR ?_))))
 refine Zm (i64 2) <| Zx (i64 2) <| rN <| Xi (dl 9) 9 Xv <| J7 rfl (i64 2) <| J7 rfl (i64 2) <| X4 rfl (Xr 2 2 Xp Xq rfl) <| Yj (v := (u64 x2)) rfl (fun _ e' => Qi Yh rfl rfl (m7.ext e').h2 (Qu _ _ 0 Ya)) <| X4 rfl (Js (b := 4503599627370494#64) rfl rfl) <| J7 rfl (i64 2) <| X4 rfl (Xr 2 2 Xp Xq rfl) <| Yj (v := (u64 y2)) rfl (fun _ e' => Qi Yh rfl rfl (m7.ext e').h1 (Qu _ _ 0 Ya)) ?_
 refine X4 rfl (Lr rfl rfl) <| Gf m7 fun w8 m8 => Qd (Xr 2 2 Xp Xq rfl) <| Ye m8 (Zi (f := u64) (l' := [(x0 + 4503599627370494#64) - y0, (x1 + 4503599627370494#64) - y1, (x2 + 4503599627370494#64) - y2, 0, 0]) rfl Xu Xq rfl rfl m8.h0 Ya (.inl (aJ _))) fun w9 m9 => ?_
 refine Zp (Qe (Qb ?_))
 refine Qd (v := (i64 3)) (Yk 2 1) <| Zm (i64 3) ?_
 refine rN (Zq (sR ?_))
 refine Qd (Jc 3 5) ?_
 refine rN (Qa ?_)
 refine Za rfl Yx ?_
 refine Qo (Qc (Qa (Qh (sR ?_))))
 refine Zm (i64 3) <| Zx (i64 3) <| rN <| Xi (dl 9) 9 Xv <| J7 rfl (i64 3) <| J7 rfl (i64 3) <| X4 rfl (Xr 3 3 Xp Xq rfl) <| Yj (v := (u64 x3)) rfl (fun _ e' => Qi Yh rfl rfl (m9.ext e').h2 (Qu _ _ 0 Ya)) <| X4 rfl (Js (b := 4503599627370494#64) rfl rfl) <| J7 rfl (i64 3) <| X4 rfl (Xr 3 3 Xp Xq rfl) <| Yj (v := (u64 y3)) rfl (fun _ e' => Qi Yh rfl rfl (m9.ext e').h1 (Qu _ _ 0 Ya)) ?_
 refine X4 rfl (Lr rfl rfl) <| Gf m9 fun w10 m10 => Qd (Xr 3 3 Xp Xq rfl) <| Ye m10 (Zi (f := u64) (l' := [(x0 + 4503599627370494#64) - y0, (x1 + 4503599627370494#64) - y1, (x2 + 4503599627370494#64) - y2, (x3 + 4503599627370494#64) - y3, 0]) rfl Xu Xq rfl rfl m10.h0 Ya (.inl (aJ _))) fun w11 m11 => ?_
 refine Zp (Qe (Qb ?_))
 refine Qd (v := (i64 4)) (Yk 3 1) <| Zm (i64 4) ?_
 refine rN (Zq (sR ?_))
 refine Qd (Jc 4 5) ?_
 refine rN (Qa ?_)
 refine Za rfl Yx ?_
 refine Qo (Qc (Qa (Qh (sR ?_))))
 refine Zm (i64 4) <| Zx (i64 4) <| rN <| Xi (dl 9) 9 Xv <| J7 rfl (i64 4) <| J7 rfl (i64 4) <| X4 rfl (Xr 4 4 Xp Xq rfl) <| Yj (v := (u64 x4)) rfl (fun _ e' => Qi Yh rfl rfl (m11.ext e').h2 (Qu _ _ 0 Ya)) <| X4 rfl (Js (b := 4503599627370494#64) rfl rfl) <| J7 rfl (i64 4) <| X4 rfl (Xr 4 4 Xp Xq rfl) <| Yj (v := (u64 y4)) rfl (fun _ e' => Qi Yh rfl rfl (m11.ext e').h1 (Qu _ _ 0 Ya)) ?_
 refine X4 rfl (Lr rfl rfl) <| Gf m11 fun w12 m12 => Qd (Xr 4 4 Xp Xq rfl) <| Ye m12 (Zi (f := u64) (l' := [(x0 + 4503599627370494#64) - y0, (x1 + 4503599627370494#64) - y1, (x2 + 4503599627370494#64) - y2, (x3 + 4503599627370494#64) - y3, (x4 + 4503599627370494#64) - y4]) rfl Xu Xq rfl rfl m12.h0 Ya (.inl (aJ _))) fun w13 m13 => ?_
 refine Zp (Qe (Qb ?_))
 refine Qd (v := (i64 5)) (Yk 4 1) <| Zm (i64 5) ?_
 refine rN (Zq (sR ?_))
 refine Qd (Jc 5 5) ?_
 refine rN (Qa ?_)
 refine Ja rfl Yx <| X3 ?_
 refine Qj (Qj (Xk ?_))
 refine sR <| Qd (Xr 0 0 Xp Xq rfl) <| Qd (v := (u64 ((x0 + 4503599627370494#64) - y0))) (Qi Yh rfl rfl m13.h0 (Qu _ _ 0 Ya)) <| Qd (Lr (b := 36#64) rfl rfl) <| Qd (Xr 0 0 Xp Xq rfl) <| Ye m13 (Zi (f := u64) (l' := [((x0 + 4503599627370494#64) - y0) - 36#64, (x1 + 4503599627370494#64) - y1, (x2 + 4503599627370494#64) - y2, (x3 + 4503599627370494#64) - y3, (x4 + 4503599627370494#64) - y4]) rfl Xu Xq rfl rfl m13.h0 Ya (.inl (aJ _))) fun w14 m14 => rN ?_
 refine CW.abs (fun g => g 0 = (agg u64 ([x0, x1, x2, x3, x4])) ∧ g 1 = (agg u64 ([y0, y1, y2, y3, y4])) ∧ g 2 = (ptr b2 0) ∧ g 3 = (ptr b3 0) ∧ g 4 = (ptr b4 0) ∧ g 5 = (i64 4) ∧ g 6 = (i64 5) ∧ g 7 = (bl false) ∧ True) ⟨rfl, rfl, rfl, rfl, rfl, rfl, rfl, rfl, trivial⟩ ?_
 rintro fr15 ⟨s0, s1, s2, s3, s4, s5, s6, s7, _⟩
 refine sR <| Qd (Qn Xp rfl Yq s4 m14.h0 sZ) <| U5 m14 (oc101 (Jz rfl) (Qi9 _ _ sD)) fun w16 m16 => Ye m16 (Qg (f := u64) (l := Eb ([((x0 + 4503599627370494#64) - y0) - 36#64, (x1 + 4503599627370494#64) - y1, (x2 + 4503599627370494#64) - y2, (x3 + 4503599627370494#64) - y3, (x4 + 4503599627370494#64) - y4])) Xu Yq s4 rfl sD m16.h0 sZ rfl) fun w18 m18 => ?_
 refine rN (Z8 ?_)
 refine Qq [(agg u64 (Eb ([((x0 + 4503599627370494#64) - y0) - 36#64, (x1 + 4503599627370494#64) - y1, (x2 + 4503599627370494#64) - y2, (x3 + 4503599627370494#64) - y3, (x4 + 4503599627370494#64) - y4])))] ⟨⟨_, s4, Xm Xp rfl Yq m18.h0 sZ⟩, trivial⟩ ?_
 exact ⟨rfl, m18.toExt⟩
set_option maxHeartbeats 1000000 in
theorem Dx (a b : List (BitVec 64)) (w0 : World)  (ha : a.length = 5) (hb : b.length = 5) : Xz prog 81 #[(agg u64 a), (agg u64 b)] w0 (fun r w1 => r = (agg u64 (Qm a b)) ∧ Ext w0 w1) := by
 refine Qz (args := [(agg u64 a), (agg u64 b)]) func81 rfl ntmps81 results81 rfl ?_
 have m0 : Mem w0 (Qs w0) [] := aY w0
 refine sR <| Y5 (Z5 (f := u64) (l := a) m0 rfl) fun w1 b2 m1 => Y5 (Z5 (f := u64) (l := b) m1 rfl) fun w2 b3 m2 => Y5 (Q7 m2 Yq) fun w3 b4 m3 => ?_
 refine rN (sR ?_)
 refine Y5 (Q7 m3 ti147) fun w4 b5 m4 => ?_
 refine rN (Qa (sR ?_))
 refine Qd (Qn Xp rfl Yq rfl m4.h3 sZ) <| Zm (i64 0) ?_
 refine rN (Qh ?_)
 refine Y1 (fun g wv => ∃ (i : Nat) (wl : List (BitVec 64)), (i ≤ 5) ∧ (wl = Ub a b i) ∧ g 0 = (agg u64 a) ∧ g 1 = (agg u64 b) ∧ g 2 = (ptr b2 0) ∧ g 3 = (ptr b3 0) ∧ g 4 = (ptr b4 0) ∧ g 5 = (ptr b5 0) ∧ g 17 = (agg u64 a) ∧ g 18 = (i64 (i : Int)) ∧ Mem wv (Qs w0) [(b5, .cells (cl u64 wl) 147 (0, 0)), (b4, .cells (cl u64 (aA 5 0)) 126 (0, 0)), (b3, .cells (cl u64 b) 126 (0, 0)), (b2, .cells (cl u64 a) 126 (0, 0))]) (fun g wv => (5 - aT (g 18)).toNat) ?_ ?_
 ·exact ⟨0, (aA 10 0), oM, rfl, rfl, rfl, rfl, rfl, rfl, rfl, rfl, rfl, m4⟩
 rintro fr5 w6 ⟨i, wl, hi, hw, s0, s1, s2, s3, s4, s5, s17, s18, m6⟩
 have z18 := s18
 have hwl : wl.length = 10 := by rw [hw, Qg0]
 refine sR <| Qd (Xd (b := 5) s18 rfl) ?_
 refine rN (Qa ?_)
 refine Zz rfl (fun hc7 => ?_) (fun hc7 => ?_)
 ·
  have hc7p := of_decide_eq_true hc7
  refine Qo (Qc (Qa (Qh (sR ?_))))
  refine X9 s18 <| Qd (v := (u64 (a.getD i 0))) (Jt Xp Yh rfl Xq s17 s18 oM sD (Qu _ _ 0 sD)) <| Zx (i64 (i : Int)) <| Zx (u64 (a.getD i 0)) ?_
  refine rN (sR ?_)
  refine Qd (Qn Xp rfl Yq s3 m6.h2 sZ) <| Zm (i64 0) ?_
  refine rN (Gh ?_)
  refine Y1 (fun g wv => ∃ (k : Nat) (wk : List (BitVec 64)), (k ≤ 5) ∧ (wk = Ro a b i wl k) ∧ g 0 = (agg u64 a) ∧ g 1 = (agg u64 b) ∧ g 2 = (ptr b2 0) ∧ g 3 = (ptr b3 0) ∧ g 4 = (ptr b4 0) ∧ g 5 = (ptr b5 0) ∧ g 6 = (i64 (i : Int)) ∧ g 7 = (u64 (a.getD i 0)) ∧ g 17 = (agg u64 a) ∧ g 18 = (i64 (i : Int)) ∧ g 19 = (bl (decide ((i : Int) < 5))) ∧ g 22 = (agg u64 b) ∧ g 23 = (i64 (k : Int)) ∧ Mem wv (Qs w0) [(b5, .cells (cl u64 wk) 147 (0, 0)), (b4, .cells (cl u64 (aA 5 0)) 126 (0, 0)), (b3, .cells (cl u64 b) 126 (0, 0)), (b2, .cells (cl u64 a) 126 (0, 0))]) (fun g wv => (5 - aT (g 23)).toNat) ?_ ?_
  ·exact ⟨0, wl, oM, rfl, s0, s1, s2, s3, s4, s5, rfl, rfl, s17, s18, rfl, rfl, rfl, m6⟩
  rintro fr8 w9 ⟨k, wk, hk, hwk, s0, s1, s2, s3, s4, s5, s6, s7, s17, s18, s19, s22, s23, m9⟩
  have z23 := s23
  have hwkl : wk.length = 10 := by rw [hwk, Qca, hwl]
  refine sR <| Qd (Xd (b := 5) s23 rfl) ?_
  refine rN (Qa ?_)
  refine Zz rfl (fun hc10 => ?_) (fun hc10 => ?_)
  ·
   have hc10p := of_decide_eq_true hc10
   refine Qo (Qc (Qa (Qh (sR ?_))))
   refine X9 s23 <| Qd (v := (u64 (b.getD k 0))) (Jt Xp Yh rfl Xq s22 s23 oM sD (Qu _ _ 0 sD)) <| Zx (i64 (k : Int)) <| Zx (u64 (b.getD k 0)) ?_
   refine rN (sR ?_)
   refine X9 s6 <| Zm (i64 (k : Int)) <| Qd (Jv.cast (congrArg i64 (show (i : Int) + (k : Int) = ((i + k : Nat) : Int) by omega)) (Zg rfl rfl oM oM)) <| Zx (i64 ((i + k : Nat) : Int)) ?_
   refine rN (sR ?_)
   refine Zm (i64 ((i + k : Nat) : Int)) <| Qd (Xd (b := 5) rfl rfl) <| rN ?_
   refine Zz rfl (fun hc11 => ?_) (fun hc11 => ?_)
   ·
    have hc11p := of_decide_eq_true hc11
    refine Qb <| Zm (i64 ((i + k : Nat) : Int)) <| Qd (Zj (r := (i + k) * 2) oM uT147 Qn6 s5 rfl oM sD) <| X9 s7 <| Zm (u64 (b.getD k 0)) ?_
    have hF13 : Mem _ _ ([(b5, .cells (cl u64 wk) 147 (0, 0))] ++ ([_, _, _])) := m9
    refine Vr (oc99 (Dy rfl rfl rfl) (c_wadd b5 ((i + k) * 2) wk (a.getD i 0) (b.getD k 0) _ _ (Mem.give hF13) sD)) ?_
    rintro _ w12 ⟨rfl, k_w12⟩
    have m12 : Mem _ _ [_, _, _, _] := Mem.back hF13 k_w12
    refine Zp (Qe (Qb ?_))
    refine Qd (Zg (b := 1) s23 rfl oM oM) <| Zm (i64 ((k : Int) + 1)) <| rN ?_
    have hwn : Dh wk ((i + k) * 2) (a.getD i 0) (b.getD k 0) = Ro a b i wl (k + 1) := by rw [hwk]; exact Qtl oM
    exact ⟨⟨k + 1, (Dh wk ((i + k) * 2) (a.getD i 0) (b.getD k 0)), oM, hwn, s0, s1, s2, s3, s4, s5, s6, s7, s17, s18, s19, s22, rfl, m12⟩, Uj rfl z23 oM oM⟩
   ·
    have hc11p := of_decide_eq_false hc11
    refine Qb <| Zm (i64 ((i + k : Nat) : Int)) <| Qd (Jv.cast (congrArg i64 (show ((i + k : Nat) : Int) - 5 = ((i + k - 5 : Nat) : Int) by omega)) (Yg (b := 5) rfl rfl oM oM)) <| Qd (Zj (r := (i + k - 5) * 2) oM uT147 Qn6 s5 rfl oM sD) <| X9 s7 <| Qd (Eu (a := 19#64) rfl rfl) <| Zm (u64 (b.getD k 0)) ?_
    have hF16 : Mem _ _ ([(b5, .cells (cl u64 wk) 147 (0, 0))] ++ ([_, _, _])) := m9
    refine Vr (oc99 (Dy rfl rfl rfl) (c_wadd b5 ((i + k - 5) * 2) wk (19#64 * (a.getD i 0)) (b.getD k 0) _ _ (Mem.give hF16) sD)) ?_
    rintro _ w15 ⟨rfl, k_w15⟩
    have m15 : Mem _ _ [_, _, _, _] := Mem.back hF16 k_w15
    refine Zp (Qe (Qb ?_))
    refine Qd (Zg (b := 1) s23 rfl oM oM) <| Zm (i64 ((k : Int) + 1)) <| rN ?_
    have hwn : Dh wk ((i + k - 5) * 2) (19#64 * (a.getD i 0)) (b.getD k 0) = Ro a b i wl (k + 1) := by rw [hwk]; exact Qtm oM
    exact ⟨⟨k + 1, (Dh wk ((i + k - 5) * 2) (19#64 * (a.getD i 0)) (b.getD k 0)), oM, hwn, s0, s1, s2, s3, s4, s5, s6, s7, s17, s18, s19, s22, rfl, m15⟩, Uj rfl z23 oM oM⟩
  ·
   have hc10p := of_decide_eq_false hc10
   obtain rfl : k = 5 := by omega
   refine X3 ?_
   refine Qj (Qj (Xk ?_))
   refine Qe (Qb ?_)
   refine Qd (Zg (b := 1) s18 rfl oM oM) <| Zm (i64 ((i : Int) + 1)) <| rN ?_
   have hwo : wk = Ub a b (i + 1) := by rw [hwk, hw]; rfl
   exact ⟨⟨i + 1, wk, oM, hwo, s0, s1, s2, s3, s4, s5, s17, rfl, m9⟩, Uj rfl z18 oM oM⟩
 ·
  have hc7p := of_decide_eq_false hc7
  obtain rfl : i = 5 := by omega
  refine X3 ?_
  refine Qj (Qj (Xk ?_))
  refine sR <| Zx (u64 0#64) ?_
  refine rN (Qa (sR ?_))
  refine Qd (Qn uT147 rfl ti147 s5 m6.h0 sZ) <| Zm (i64 0) ?_
  refine rN (Qh ?_)
  refine Y1 (fun g wv => ∃ (i : Nat), (i ≤ 5) ∧ g 0 = (agg u64 a) ∧ g 1 = (agg u64 b) ∧ g 2 = (ptr b2 0) ∧ g 3 = (ptr b3 0) ∧ g 4 = (ptr b4 0) ∧ g 5 = (ptr b5 0) ∧ g 11 = (u64 (Dt wl i)) ∧ g 17 = (agg u64 a) ∧ g 18 = (i64 (5 : Int)) ∧ g 19 = (bl (decide ((5 : Int) < 5))) ∧ g 46 = (agg u64 wl) ∧ g 47 = (i64 (i : Int)) ∧ Mem wv (Qs w0) [(b5, .cells (cl u64 wl) 147 (0, 0)), (b4, .cells (cl u64 (Yv (Dq wl) 0 5 i)) 126 (0, 0)), (b3, .cells (cl u64 b) 126 (0, 0)), (b2, .cells (cl u64 a) 126 (0, 0))]) (fun g wv => (5 - aT (g 47)).toNat) ?_ ?_
  ·exact ⟨0, oM, s0, s1, s2, s3, s4, s5, rfl, s17, s18, rfl, rfl, rfl, (by rw [Ei]; exact m6)⟩
  rintro fr18 w19 ⟨i, hi, s0, s1, s2, s3, s4, s5, s11, s17, s18, s19, s46, s47, m19⟩
  have z47 := s47
  have z11 := s11
  have hfl : (Yv (Dq wl) (0 : BitVec 64) 5 i).length = 5 := J8 _ _ _ _ hi
  refine sR <| Qd (Xd (b := 5) s47 rfl) ?_
  refine rN (Qa ?_)
  refine Zz rfl (fun hc20 => ?_) (fun hc20 => ?_)
  ·
   have hc20p := of_decide_eq_true hc20
   refine Qo (Qc (Qa (Qh (sR ?_))))
   refine X9 s47 <| Qd (v := (agg u64 ([wl.getD (i * 2) 0, wl.getD ((i * 2) + 1) 0]))) (Qnn (l := wl) (i := ((i : Int) : Int)) 0 uT147 Qjd rfl Qn6 s46 s47 oM sD oM) <| Y5 (Ju m19 Qn6) fun w21 b13 m21 => Zx (i64 (i : Int)) <| Ye m21 (Qg (f := u64) (l := [wl.getD (i * 2) 0, wl.getD ((i * 2) + 1) 0]) Xu Qn6 rfl rfl sD m21.h0 rfl rfl) fun w22 m22 => ?_
   refine rN (sR ?_)
   refine Qd (Zl (r := 1) Qjd rfl Jj Xq rfl rfl) <| Qd (v := (u64 (wl.getD ((i * 2) + 1) 0))) (Qi Yh rfl rfl m22.h0 (Qu _ _ 0 Ya)) <| X9 s11 <| Qd (v := (ak #[(u64 ((wl.getD ((i * 2) + 1) 0) + (Dt wl i) + 0#64)), (u64 (V8 (wl.getD ((i * 2) + 1) 0) (Dt wl i) 0#64))])) (Qke (a := (wl.getD ((i * 2) + 1) 0)) (b := (Dt wl i)) (c := 0#64) func100 Xv Xv Xv Xv rfl rfl rfl (by first | decide | exact Qhr _ _ Yx)) <| X9 rfl <| Qd (v := (u64 ((wl.getD ((i * 2) + 1) 0) + (Dt wl i) + 0#64))) (Zr rfl rfl) <| Qd (v := (u64 (V8 (wl.getD ((i * 2) + 1) 0) (Dt wl i) 0#64))) (Zr rfl rfl) <| Zx (u64 ((wl.getD ((i * 2) + 1) 0) + (Dt wl i) + 0#64)) <| Zx (u64 (V8 (wl.getD ((i * 2) + 1) 0) (Dt wl i) 0#64)) ?_
   refine rN (sR ?_)
   refine Qd (Zl (r := 0) Qjd rfl Jj Xq rfl rfl) <| Qd (v := (u64 (wl.getD (i * 2) 0))) (Qi Yh rfl rfl m22.h0 (Qu _ _ 0 Ya)) <| Zm (u64 (V8 (wl.getD ((i * 2) + 1) 0) (Dt wl i) 0#64)) <| Qd (Js rfl rfl) <| Tc rfl ?_
   refine rN (sR ?_)
   refine Zm (i64 (i : Int)) <| Zm (u64 ((wl.getD ((i * 2) + 1) 0) + (Dt wl i) + 0#64)) <| Qd (Vp (b := 2251799813685247#64) rfl rfl) <| Qd (Zj (r := i) oM Xp Xq s4 rfl oM sD) <| Bj m22 (Xw (f := u64) (a := ((wl.getD ((i * 2) + 1) 0) + (Dt wl i) + 0#64) &&& 2251799813685247#64) Xu Xq rfl rfl m22.h2 sD (.inl (aJ _))) fun w23 m23 => ?_
   refine rN (Qb ?_)
   refine X9 rfl <| Qd (Et (b := 13) rfl rfl oM) <| Zm (u64 ((wl.getD ((i * 2) + 1) 0) + (Dt wl i) + 0#64)) <| Qd (X7 (b := 51) rfl rfl oM) <| Qd (Ql5 rfl rfl) <| Tc rfl ?_
   refine Zp (Qe (Qb ?_))
   refine Qd (Zg (b := 1) s47 rfl oM oM) <| Zm (i64 ((i : Int) + 1)) <| rN ?_
   have m24 := Mem.drop [_] _ m23
   exact ⟨⟨i + 1, oM, s0, s1, s2, s3, s4, s5, rfl, s17, s18, s19, s46, rfl, (by rw [← Ep (Dq wl) (0 : BitVec 64) (n := 5) (k := i) oM _ rfl]; exact m24)⟩, Uj rfl z47 oM oM⟩
  ·
   have hc20p := of_decide_eq_false hc20
   obtain rfl : i = 5 := by omega
   have hmF25 := m19
   rw [filled5] at hmF25
   refine X3 ?_
   refine Qj (Qj (Xk ?_))
   refine sR <| Qd (Xr 0 0 Xp Xq s4) <| Qd (v := (u64 (Dq wl 0))) (Qi Yh rfl rfl hmF25.h1 (Qu _ _ 0 Ya)) <| X9 s11 <| Qd (Vp (b := 2251799813685247#64) rfl rfl) <| Qd (Eu (a := 19#64) rfl rfl) <| Qd (Js rfl rfl) <| Qd (Xr 0 0 Xp Xq s4) <| Vs hmF25 (Zi (f := u64) (l' := [(Dq wl 0) + (19#64 * ((Dt wl 5) &&& 2251799813685247#64)), Dq wl 1, Dq wl 2, Dq wl 3, Dq wl 4]) rfl Xu Xq rfl rfl hmF25.h1 Ya (.inl (aJ _))) fun w26 m26 => ?_
   refine rN (sR ?_)
   refine Qd (Xr 1 1 Xp Xq s4) <| Qd (v := (u64 (Dq wl 1))) (Qi Yh rfl rfl m26.h1 (Qu _ _ 0 Ya)) <| X9 s11 <| Qd (X7 (b := 51) rfl rfl oM) <| Qd (Eu (a := 19#64) rfl rfl) <| Qd (Js rfl rfl) <| Qd (Xr 1 1 Xp Xq s4) <| Vs m26 (Zi (f := u64) (l' := [(Dq wl 0) + (19#64 * ((Dt wl 5) &&& 2251799813685247#64)), (Dq wl 1) + (19#64 * ((Dt wl 5) >>> 51)), Dq wl 2, Dq wl 3, Dq wl 4]) rfl Xu Xq rfl rfl m26.h1 Ya (.inl (aJ _))) fun w27 m27 => ?_
   refine rN (sR ?_)
   refine Qd (Qn Xp rfl Yq s4 m27.h1 sZ) <| U5 m27 (oc101 (Jz rfl) (Qi9 _ _ sD)) fun w28 m28 => Vs m28 (Qg (f := u64) (l := Eb ([(Dq wl 0) + (19#64 * ((Dt wl 5) &&& 2251799813685247#64)), (Dq wl 1) + (19#64 * ((Dt wl 5) >>> 51)), Dq wl 2, Dq wl 3, Dq wl 4])) Xu Yq s4 rfl sD m28.h1 sZ rfl) fun w30 m30 => ?_
   refine rN (Z8 ?_)
   refine Qq [(agg u64 (Eb ([(Dq wl 0) + (19#64 * ((Dt wl 5) &&& 2251799813685247#64)), (Dq wl 1) + (19#64 * ((Dt wl 5) >>> 51)), Dq wl 2, Dq wl 3, Dq wl 4])))] ⟨⟨_, s4, Xm Xp rfl Yq m30.h1 sZ⟩, trivial⟩ ?_
   exact ⟨congrArg (agg u64) (by rw [hw]; rfl), m30.toExt⟩
theorem c_cread (u : Z4) (w0 : World)  (hu : u.length = 32) : Xz prog 79 #[(agg u8 u)] w0 (fun r w1 => r = (agg u64 (Je u)) ∧ Ext w0 w1) := by
 refine Qz (args := [(agg u8 u)]) func79 rfl ntmps79 results79 rfl ?_
 have m0 : Mem w0 (Qs w0) [] := aY w0
 refine sR <| Y5 (Z5 (f := u8) (l := u) m0 rfl) fun w1 b1 m1 => Y5 (Q7 m1 Yq) fun w2 b2 m2 => ?_
 refine rN (Qa (sR ?_))
 refine Zm (i64 0) ?_
 refine rN (Qh ?_)
 refine Y1 (fun g wv => ∃ (i : Nat), (i ≤ 255) ∧ g 0 = (agg u8 u) ∧ g 1 = (ptr b1 0) ∧ g 2 = (ptr b2 0) ∧ g 4 = (i64 (i : Int)) ∧ Mem wv (Qs w0) [(b2, .cells (cl u64 (D8 u i)) 126 (0, 0)), (b1, .cells (cl u8 u) 23 (0, 0))]) (fun g wv => (255 - aT (g 4)).toNat) ?_ ?_
 ·exact ⟨0, oM, rfl, rfl, rfl, rfl, m2⟩
 rintro fr3 w4 ⟨i, hi, s0, s1, s2, s4, m4⟩
 have z4 := s4
 have hrl := H5 u i
 refine sR <| Qd (Xd (b := 255) s4 rfl) ?_
 refine rN (Qa ?_)
 refine Zz rfl (fun hc5 => ?_) (fun hc5 => ?_)
 ·
  have hc5p := of_decide_eq_true hc5
  refine Qo (Qc (Qa (Qh (sR ?_))))
  refine X9 s4 <| Zx (i64 (i : Int)) <| rN <| Xi (dl 16) 16 Xv <| J7 rfl (i64 (i : Int)) <| X4 rfl (Jv.cast (congrArg i64 (show (i : Int) / 51 = ((i / 51 : Nat) : Int) by omega)) (Um (b := 51) rfl rfl oM oM oM)) <| X4 rfl (Zj (r := (i / 51)) oM Xp Xq s2 rfl oM sD) <| Yj (v := (u64 ((D8 u i).getD (i / 51) 0))) rfl (fun _ e' => Qi Yh rfl rfl (m4.ext e').h0 (Qu _ _ 0 sD)) <| J7 rfl (i64 (i : Int)) <| X4 rfl (Jv.cast (congrArg i64 (show (i : Int) / 8 = ((i / 8 : Nat) : Int) by omega)) (Um (b := 8) rfl rfl oM oM oM)) <| X4 rfl (Zj (r := (i / 8)) oM Xn Yr s1 rfl oM sD) <| Yj (v := (u8 (u.getD (i / 8) 0))) rfl (fun _ e' => Qi V3 rfl rfl (m4.ext e').h1 (Qu _ _ 0 sD)) ?_
  refine J7 rfl (i64 (i : Int)) <| X4 rfl (Jv.cast (congrArg i64 (show (i : Int) % 8 = ((i % 8 : Nat) : Int) by omega)) (Wp (b := 8) rfl rfl oM oM oM)) <| X4 rfl (Qhi rfl rfl oM) <| X4 rfl (Qhj (b := 1#8) rfl rfl) <| X4 rfl (Qkd ⟨_, V3⟩ Yh rfl) <| J7 rfl (i64 (i : Int)) <| X4 rfl (Jv.cast (congrArg i64 (show (i : Int) % 51 = ((i % 51 : Nat) : Int) by omega)) (Wp (b := 51) rfl rfl oM oM oM)) <| X4 rfl (Et rfl rfl oM) <| Gf m4 fun w6 m6 => Qd (Ql5 rfl rfl) <| Qd (Zj (r := (i / 51)) oM Xp Xq s2 rfl oM sD) <| Ye m6 (Xw (f := u64) (a := ((D8 u i).getD (i / 51) 0) ||| (((((u.getD (i / 8) 0) >>> ((i % 8 : Nat) : Int).toNat) &&& 1#8).setWidth 64) <<< ((i % 51 : Nat) : Int).toNat)) Xu Xq rfl rfl m6.h0 sD (.inl (aJ _))) fun w7 m7 => ?_
  refine Zp (Qe (Qb ?_))
  refine Qd (Zg (b := 1) s4 rfl oM oM) <| Zm (i64 ((i : Int) + 1)) <| rN ?_
  exact ⟨⟨i + 1, oM, s0, s1, s2, rfl, m7⟩, Uj rfl z4 oM oM⟩
 ·
  have hc5p := of_decide_eq_false hc5
  obtain rfl : i = 255 := by omega
  have hrl := H5 u 255
  refine X3 ?_
  refine Qj (Qj (Xk ?_))
  refine sR <| Qd (Qn Xp rfl Yq s2 m4.h0 sZ) <| Ye m4 (Qg (f := u64) (l := D8 u 255) Xu Yq s2 rfl sD m4.h0 sZ rfl) fun w8 m8 => ?_
  refine rN (Z8 ?_)
  refine Qq [(agg u64 (D8 u 255))] ⟨⟨_, s2, Xm Xp rfl Yq m8.h0 sZ⟩, trivial⟩ ?_
  exact ⟨rfl, m8.toExt⟩
end Go.Proofs.YtkmiemlpfkfiiaaDoor
