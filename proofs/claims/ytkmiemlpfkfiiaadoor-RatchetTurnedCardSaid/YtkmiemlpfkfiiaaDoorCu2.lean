/- Contracts: the curve, second part. Conditions: none beyond those that each theorem states. -/
import Derived.Test.YtkmiemlpfkfiiaaDoorCu1
import Derived.Test.YtkmiemlpfkfiiaaDoorFwR
namespace Go.Proofs.YtkmiemlpfkfiiaaDoor
open List renaming length_map → bH, replicate → aA
open List.Mem renaming head → aU, tail → aH
open Mem renaming addOwn → ae, of_world → aY, pick → aC
open Nat renaming zero_le → aJ
open RowKit renaming intOf → aT
open Value renaming agg → aO
open Tryd
set_option linter.unusedVariables false
set_option linter.unusedSimpArgs false
def Yy : Z4 := (Ej 9#8)
@[simp] theorem base9_length : Yy.length = 32 := rfl
attribute [local irreducible] Qm Zy Zb U4 D8 Je Gp Qav Gt Zu Jk Eb Qaz Ad Y3
theorem c_inv5 (x : List (BitVec 64)) (w0 : World)  (hx : x.length = 5) : Xz prog 82 #[(agg u64 x)] w0 (fun r w1 => r = (agg u64 (invL x)) ∧ Ext w0 w1) := by
 refine Qz (args := [(agg u64 x)]) func82 rfl ntmps82 results82 rfl ?_
 have m0 : Mem w0 (Qs w0) [] := aY w0
 refine sR <| Y5 (Z5 (f := u64) (l := x) m0 rfl) fun w1 b1 m1 => Y5 (Q7 m1 Yq) fun w2 b2 m2 => ?_
 refine rN (sR ?_)
 refine Qd (Gq (c := (cl u64 ([1#64, 0#64, 0#64, 0#64, 0#64]))) Yq Xp Xq (Jp (i := 0) (v := (u64 1#64)) (cs := #[(u64 1#64)]) rfl rfl Vt) Xv) <| Y5 (Q7 m2 Yq) fun w3 b3 m3 => Ye m3 (Qg (f := u64) (l := [1#64, 0#64, 0#64, 0#64, 0#64]) Xu Yq rfl rfl sD m3.h0 sZ rfl) fun w4 m4 => ?_
 refine rN (Qa (sR ?_))
 refine Zx (i64 254) ?_
 refine rN (Qh ?_)
 refine Y1 (fun g wv => ∃ (j : Nat), (j ≤ 255) ∧ g 0 = (agg u64 x) ∧ g 1 = (ptr b1 0) ∧ g 2 = (ptr b2 0) ∧ g 3 = (ptr b3 0) ∧ g 4 = (i64 (254 - (j : Int))) ∧ Mem wv (Qs w0) [(b3, .cells (cl u64 (U4 x j)) 126 (0, 0)), (b2, .cells (cl u64 (aA 5 0)) 126 (0, 0)), (b1, .cells (cl u64 x) 126 (0, 0))]) (fun g wv => (aT (g 4) + 1).toNat) ?_ ?_
 ·exact ⟨0, oM, rfl, rfl, rfl, rfl, rfl, (by rw [Qqp]; exact m4)⟩
 rintro fr5 w6 ⟨j, hj, s0, s1, s2, s3, s4, m6⟩
 have z4 := s4
 have hil := Qcf x j
 refine Qa (sR ?_)
 refine X9 s4 <| Qd (Ey (b := 0) rfl rfl) <| rN ?_
 refine Zz rfl (fun hc7 => ?_) (fun hc7 => ?_)
 ·
  have hc7p := of_decide_eq_true hc7
  refine Qo (Qc (Qa (Qh (sR ?_))))
  refine Qd (Qn Xp rfl Yq s3 m6.h0 sZ) <| Qd (Qn Xp rfl Yq s3 m6.h0 sZ) <| U5 m6 (Qhf (Xl rfl rfl) (Dx _ _ _ sD sD)) fun w8 m8 => Ye m8 (Qg (f := u64) (l := Qm (U4 x j) (U4 x j)) Xu Yq s3 rfl sD m8.h0 sZ rfl) fun w10 m10 => ?_
  refine rN (sR ?_)
  refine X9 s4 <| Qd (Kz (b := 2) rfl rfl) <| Zm (bl ((254 - (j : Int)) != 2)) ?_
  rcases Bool.eq_false_or_eq_true ((254 - (j : Int)) != 2) with hb11 | hb11
  ·
   have hb11p := bne_iff_ne.1 hb11
   refine Yf (s := 15) rfl rfl hb11 rfl (Jb s4) <| Yf (s := 15) rfl rfl hb11 rfl (Kz (b := 4) rfl rfl) <| Qd (G6 rfl hb11 rfl) <| rN ?_
   refine Zz rfl (fun hc12 => ?_) (fun hc12 => ?_)
   ·
    have hc12p := bne_iff_ne.1 hc12
    refine Qb <| Qd (Qn Xp rfl Yq s3 m10.h0 sZ) <| Qd (Qn Xp rfl Yq s1 m10.h2 sZ) <| U5 m10 (Qhf (Xl rfl rfl) (Dx _ _ _ sD sD)) fun w13 m13 => Ye m13 (Qg (f := u64) (l := Qm (Qm (U4 x j) (U4 x j)) x) Xu Yq s3 rfl sD m13.h0 sZ rfl) fun w15 m15 => ?_
    refine Zp (Qe (Qb ?_))
    refine X9 s4 <| Qd (Yg (b := 1) rfl rfl oM oM) <| Zx (i64 ((254 - (j : Int)) - 1)) <| rN ?_
    have hin : Qm (Qm (U4 x j) (U4 x j)) x = U4 x (j + 1) := Qt4 (by clear hil hx; omega)
    exact ⟨⟨j + 1, oM, s0, s1, s2, s3, (show i64 (254 - (j : Int) - 1) = i64 (254 - ((j + 1 : Nat) : Int)) from congrArg i64 oM), (by rw [← hin]; exact m15)⟩, (by show (aT (i64 (254 - (j : Int) - 1)) + 1).toNat < (aT _ + 1).toNat; rw [z4]; simp only [aT, i64]; omega)⟩
   ·
    have hc12p := Yd hc12
    refine Qo (Qe (Qb ?_))
    refine X9 s4 <| Qd (Yg (b := 1) rfl rfl oM oM) <| Zx (i64 ((254 - (j : Int)) - 1)) <| rN ?_
    have hin : Qm (U4 x j) (U4 x j) = U4 x (j + 1) := Qo9 (by clear hil hx; omega)
    exact ⟨⟨j + 1, oM, s0, s1, s2, s3, (show i64 (254 - (j : Int) - 1) = i64 (254 - ((j + 1 : Nat) : Int)) from congrArg i64 oM), (by rw [← hin]; exact m10)⟩, (by show (aT (i64 (254 - (j : Int) - 1)) + 1).toNat < (aT _ + 1).toNat; rw [z4]; simp only [aT, i64]; omega)⟩
  ·
   have hb11p := Yd hb11
   refine Fe (s := 15) rfl rfl hb11 rfl <| Fe (s := 15) rfl rfl hb11 rfl <| Qd (Wn rfl hb11 rfl) <| rN <| Ja rfl Yx ?_
   refine Qo (Qe (Qb ?_))
   refine X9 s4 <| Qd (Yg (b := 1) rfl rfl oM oM) <| Zx (i64 ((254 - (j : Int)) - 1)) <| rN ?_
   have hin : Qm (U4 x j) (U4 x j) = U4 x (j + 1) := Qo9 (by clear hil hx; omega)
   exact ⟨⟨j + 1, oM, s0, s1, s2, s3, (show i64 (254 - (j : Int) - 1) = i64 (254 - ((j + 1 : Nat) : Int)) from congrArg i64 oM), (by rw [← hin]; exact m10)⟩, (by show (aT (i64 (254 - (j : Int) - 1)) + 1).toNat < (aT _ + 1).toNat; rw [z4]; simp only [aT, i64]; omega)⟩
 ·
  have hc7p := of_decide_eq_false hc7
  obtain rfl : j = 255 := by omega
  have hil := Qcf x 255
  refine X3 ?_
  refine Qj (Qj (Xk ?_))
  refine sR <| Qd (Qn Xp rfl Yq s3 m6.h0 sZ) <| Vs m6 (Qg (f := u64) (l := U4 x 255) Xu Yq s2 rfl sD m6.h1 sZ rfl) fun w16 m16 => ?_
  refine rN (Z8 ?_)
  refine Qq [(agg u64 (U4 x 255))] ⟨⟨_, s2, Xm Xp rfl Yq m16.h1 sZ⟩, trivial⟩ ?_
  exact ⟨by unfold invL; rfl, m16.toExt⟩
set_option maxHeartbeats 1000000 in
theorem c_ebytes (e : List (BitVec 64)) (w0 : World)  (he : e.length = 5) : Xz prog 83 #[(agg u64 e)] w0 (fun r w1 => r = (agg u8 (Qav e)) ∧ Ext w0 w1) := by
 refine Qz (args := [(agg u64 e)]) func83 rfl ntmps83 results83 rfl ?_
 have m0 : Mem w0 (Qs w0) [] := aY w0
 refine sR <| Y5 (Z5 (f := u64) (l := e) m0 rfl) fun w1 b1 m1 => Y5 (Q7 m1 Zh) fun w2 b2 m2 => ?_
 refine rN (sR ?_)
 refine Qd (Qn Xp rfl Yq rfl m2.h1 sZ) <| U5 m2 (oc101 (Jz rfl) (Qi9 _ _ sD)) fun w3 m3 => Vs m3 (Qg (f := u64) (l := Eb e) Xu Yq rfl rfl sD m3.h1 sZ rfl) fun w5 m5 => ?_
 refine rN (Qa ?_)
 obtain ⟨e0, e1, e2, e3, e4, hce⟩ := Qew (Eb e) (by rw [Bi, he])
 have hmC6 := m5
 rw [hce] at hmC6
 refine Qb <| Qd (Qn Xp rfl Yq rfl hmC6.h1 sZ) <| Y5 (Q7 hmC6 Yq) fun w7 b3 m7 => Ye m7 (Qg (f := u64) (l := [e0, e1, e2, e3, e4]) Xu Yq rfl rfl sD m7.h0 sZ rfl) fun w8 m8 => Zx (u64 19#64) ?_
 refine rN (Qa (sR ?_))
 refine Zm (i64 0) ?_
 refine rN (Qh ?_)
 refine Vk 6 ?_
 refine Zq (sR ?_)
 refine Qd (Jc 0 5) ?_
 refine rN (Qa ?_)
 refine Za rfl Yx ?_
 refine Qo (Qc (Qa (Qh (sR ?_))))
 refine Zm (i64 0) <| Zx (i64 0) ?_
 refine rN (sR ?_)
 refine Zm (i64 0) <| Qd (Xr 0 0 Xp Xq rfl) <| Qd (v := (u64 e0)) (Qi Yh rfl rfl m8.h0 (Qu _ _ 0 Ya)) <| Zm (u64 19#64) <| Qd (Js (b := 19#64) rfl rfl) <| Qd (Xr 0 0 Xp Xq rfl) <| Ye m8 (Zi (f := u64) (l' := [e0 + 19#64, e1, e2, e3, e4]) rfl Xu Xq rfl rfl m8.h0 Ya (.inl (aJ _))) fun w9 m9 => ?_
 refine rN (sR ?_)
 refine Zm (i64 0) <| Qd (Xr 0 0 Xp Xq rfl) <| Qd (v := (u64 (e0 + 19#64))) (Qi Yh rfl rfl m9.h0 (Qu _ _ 0 Ya)) <| Qd (X7 (b := 51) rfl rfl oM) <| Zx (u64 ((e0 + 19#64) >>> 51)) ?_
 refine rN (Qb ?_)
 refine Zm (i64 0) <| Qd (Xr 0 0 Xp Xq rfl) <| Qd (v := (u64 (e0 + 19#64))) (Qi Yh rfl rfl m9.h0 (Qu _ _ 0 Ya)) <| Qd (Vp (b := 2251799813685247#64) rfl rfl) <| Qd (Xr 0 0 Xp Xq rfl) <| Ye m9 (Zi (f := u64) (l' := [(e0 + 19#64) &&& 2251799813685247#64, e1, e2, e3, e4]) rfl Xu Xq rfl rfl m9.h0 Ya (.inl (aJ _))) fun w10 m10 => ?_
 refine Zp (Qe (Qb ?_))
 refine Qd (v := (i64 1)) (Yk 0 1) <| Zm (i64 1) ?_
 refine rN (Zq (sR ?_))
 refine Qd (Jc 1 5) ?_
 refine rN (Qa ?_)
 refine Za rfl Yx ?_
 refine Qo (Qc (Qa (Qh (sR ?_))))
 refine Zm (i64 1) <| Zx (i64 1) ?_
 refine rN (sR ?_)
 refine Zm (i64 1) <| Qd (Xr 1 1 Xp Xq rfl) <| Qd (v := (u64 e1)) (Qi Yh rfl rfl m10.h0 (Qu _ _ 0 Ya)) <| Zm (u64 ((e0 + 19#64) >>> 51)) <| Qd (Js rfl rfl) <| Qd (Xr 1 1 Xp Xq rfl) <| Ye m10 (Zi (f := u64) (l' := [(e0 + 19#64) &&& 2251799813685247#64, e1 + ((e0 + 19#64) >>> 51), e2, e3, e4]) rfl Xu Xq rfl rfl m10.h0 Ya (.inl (aJ _))) fun w11 m11 => ?_
 refine rN (sR ?_)
 refine Zm (i64 1) <| Qd (Xr 1 1 Xp Xq rfl) <| Qd (v := (u64 (e1 + ((e0 + 19#64) >>> 51)))) (Qi Yh rfl rfl m11.h0 (Qu _ _ 0 Ya)) <| Qd (X7 (b := 51) rfl rfl oM) <| Zx (u64 ((e1 + ((e0 + 19#64) >>> 51)) >>> 51)) ?_
 refine rN (Qb ?_)
 refine Zm (i64 1) <| Qd (Xr 1 1 Xp Xq rfl) <| Qd (v := (u64 (e1 + ((e0 + 19#64) >>> 51)))) (Qi Yh rfl rfl m11.h0 (Qu _ _ 0 Ya)) <| Qd (Vp (b := 2251799813685247#64) rfl rfl) <| Qd (Xr 1 1 Xp Xq rfl) <| Ye m11 (Zi (f := u64) (l' := [(e0 + 19#64) &&& 2251799813685247#64, (e1 + ((e0 + 19#64) >>> 51)) &&& 2251799813685247#64, e2, e3, e4]) rfl Xu Xq rfl rfl m11.h0 Ya (.inl (aJ _))) fun w12 m12 => ?_
 refine Zp (Qe (Qb ?_))
 refine Qd (v := (i64 2)) (Yk 1 1) <| Zm (i64 2) ?_
 refine rN (Zq (sR ?_))
 refine Qd (Jc 2 5) ?_
 refine rN (Qa ?_)
 refine Za rfl Yx ?_
 refine Qo (Qc (Qa (Qh (sR ?_))))
 refine Zm (i64 2) <| Zx (i64 2) ?_
 refine rN (sR ?_)
 refine Zm (i64 2) <| Qd (Xr 2 2 Xp Xq rfl) <| Qd (v := (u64 e2)) (Qi Yh rfl rfl m12.h0 (Qu _ _ 0 Ya)) <| Zm (u64 ((e1 + ((e0 + 19#64) >>> 51)) >>> 51)) <| Qd (Js rfl rfl) <| Qd (Xr 2 2 Xp Xq rfl) <| Ye m12 (Zi (f := u64) (l' := [(e0 + 19#64) &&& 2251799813685247#64, (e1 + ((e0 + 19#64) >>> 51)) &&& 2251799813685247#64, e2 + ((e1 + ((e0 + 19#64) >>> 51)) >>> 51), e3, e4]) rfl Xu Xq rfl rfl m12.h0 Ya (.inl (aJ _))) fun w13 m13 => ?_
 refine rN (sR ?_)
 refine Zm (i64 2) <| Qd (Xr 2 2 Xp Xq rfl) <| Qd (v := (u64 (e2 + ((e1 + ((e0 + 19#64) >>> 51)) >>> 51)))) (Qi Yh rfl rfl m13.h0 (Qu _ _ 0 Ya)) <| Qd (X7 (b := 51) rfl rfl oM) <| Zx (u64 ((e2 + ((e1 + ((e0 + 19#64) >>> 51)) >>> 51)) >>> 51)) ?_
 refine rN (Qb ?_)
 refine Zm (i64 2) <| Qd (Xr 2 2 Xp Xq rfl) <| Qd (v := (u64 (e2 + ((e1 + ((e0 + 19#64) >>> 51)) >>> 51)))) (Qi Yh rfl rfl m13.h0 (Qu _ _ 0 Ya)) <| Qd (Vp (b := 2251799813685247#64) rfl rfl) <| Qd (Xr 2 2 Xp Xq rfl) <| Ye m13 (Zi (f := u64) (l' := [(e0 + 19#64) &&& 2251799813685247#64, (e1 + ((e0 + 19#64) >>> 51)) &&& 2251799813685247#64, (e2 + ((e1 + ((e0 + 19#64) >>> 51)) >>> 51)) &&& 2251799813685247#64, e3, e4]) rfl Xu Xq rfl rfl m13.h0 Ya (.inl (aJ _))) fun w14 m14 => ?_
 refine Zp (Qe (Qb ?_))
 refine Qd (v := (i64 3)) (Yk 2 1) <| Zm (i64 3) ?_
 refine rN (Zq (sR ?_))
 refine Qd (Jc 3 5) ?_
 refine rN (Qa ?_)
 refine Za rfl Yx ?_
 refine Qo (Qc (Qa (Qh (sR ?_))))
 refine Zm (i64 3) <| Zx (i64 3) ?_
 refine rN (sR ?_)
 refine Zm (i64 3) <| Qd (Xr 3 3 Xp Xq rfl) <| Qd (v := (u64 e3)) (Qi Yh rfl rfl m14.h0 (Qu _ _ 0 Ya)) <| Zm (u64 ((e2 + ((e1 + ((e0 + 19#64) >>> 51)) >>> 51)) >>> 51)) <| Qd (Js rfl rfl) <| Qd (Xr 3 3 Xp Xq rfl) <| Ye m14 (Zi (f := u64) (l' := [(e0 + 19#64) &&& 2251799813685247#64, (e1 + ((e0 + 19#64) >>> 51)) &&& 2251799813685247#64, (e2 + ((e1 + ((e0 + 19#64) >>> 51)) >>> 51)) &&& 2251799813685247#64, e3 + ((e2 + ((e1 + ((e0 + 19#64) >>> 51)) >>> 51)) >>> 51), e4]) rfl Xu Xq rfl rfl m14.h0 Ya (.inl (aJ _))) fun w15 m15 => ?_
 refine rN (sR ?_)
 refine Zm (i64 3) <| Qd (Xr 3 3 Xp Xq rfl) <| Qd (v := (u64 (e3 + ((e2 + ((e1 + ((e0 + 19#64) >>> 51)) >>> 51)) >>> 51)))) (Qi Yh rfl rfl m15.h0 (Qu _ _ 0 Ya)) <| Qd (X7 (b := 51) rfl rfl oM) <| Zx (u64 ((e3 + ((e2 + ((e1 + ((e0 + 19#64) >>> 51)) >>> 51)) >>> 51)) >>> 51)) <| rN ?_
 refine CW.abs (fun g => g 0 = (agg u64 e) ∧ g 1 = (ptr b1 0) ∧ g 2 = (ptr b2 0) ∧ g 3 = (ptr b3 0) ∧ g 4 = (u64 ((e3 + ((e2 + ((e1 + ((e0 + 19#64) >>> 51)) >>> 51)) >>> 51)) >>> 51)) ∧ g 5 = (i64 3) ∧ g 10 = (i64 3) ∧ g 11 = (bl true) ∧ True) ⟨rfl, rfl, rfl, rfl, rfl, rfl, rfl, rfl, trivial⟩ ?_
 rintro fr16 ⟨s0, s1, s2, s3, s4, s5, s10, s11, _⟩
 refine Qb <| X9 s5 <| Qd (Xr 3 3 Xp Xq s3) <| Qd (v := (u64 (e3 + ((e2 + ((e1 + ((e0 + 19#64) >>> 51)) >>> 51)) >>> 51)))) (Qi Yh rfl rfl m15.h0 (Qu _ _ 0 Ya)) <| Qd (Vp (b := 2251799813685247#64) rfl rfl) <| Qd (Xr 3 3 Xp Xq s3) <| Ye m15 (Zi (f := u64) (l' := [(e0 + 19#64) &&& 2251799813685247#64, (e1 + ((e0 + 19#64) >>> 51)) &&& 2251799813685247#64, (e2 + ((e1 + ((e0 + 19#64) >>> 51)) >>> 51)) &&& 2251799813685247#64, (e3 + ((e2 + ((e1 + ((e0 + 19#64) >>> 51)) >>> 51)) >>> 51)) &&& 2251799813685247#64, e4]) rfl Xu Xq rfl rfl m15.h0 Ya (.inl (aJ _))) fun w17 m17 => ?_
 refine Zp (Qe (Qb ?_))
 refine Qd (v := (i64 4)) (Zg (a := 3) (b := 1) s10 rfl oM oM) <| Zm (i64 4) ?_
 refine rN (Zq (sR ?_))
 refine Qd (Jc 4 5) ?_
 refine rN (Qa ?_)
 refine Za rfl Yx ?_
 refine Qo (Qc (Qa (Qh (sR ?_))))
 refine Zm (i64 4) <| Zx (i64 4) ?_
 refine rN (sR ?_)
 refine Zm (i64 4) <| Qd (Xr 4 4 Xp Xq s3) <| Qd (v := (u64 e4)) (Qi Yh rfl rfl m17.h0 (Qu _ _ 0 Ya)) <| X9 s4 <| Qd (Js rfl rfl) <| Qd (Xr 4 4 Xp Xq s3) <| Ye m17 (Zi (f := u64) (l' := [(e0 + 19#64) &&& 2251799813685247#64, (e1 + ((e0 + 19#64) >>> 51)) &&& 2251799813685247#64, (e2 + ((e1 + ((e0 + 19#64) >>> 51)) >>> 51)) &&& 2251799813685247#64, (e3 + ((e2 + ((e1 + ((e0 + 19#64) >>> 51)) >>> 51)) >>> 51)) &&& 2251799813685247#64, e4 + ((e3 + ((e2 + ((e1 + ((e0 + 19#64) >>> 51)) >>> 51)) >>> 51)) >>> 51)]) rfl Xu Xq rfl rfl m17.h0 Ya (.inl (aJ _))) fun w18 m18 => ?_
 refine rN (sR ?_)
 refine Zm (i64 4) <| Qd (Xr 4 4 Xp Xq s3) <| Qd (v := (u64 (e4 + ((e3 + ((e2 + ((e1 + ((e0 + 19#64) >>> 51)) >>> 51)) >>> 51)) >>> 51)))) (Qi Yh rfl rfl m18.h0 (Qu _ _ 0 Ya)) <| Qd (X7 (b := 51) rfl rfl oM) <| Tc rfl ?_
 refine rN (Qb ?_)
 refine Zm (i64 4) <| Qd (Xr 4 4 Xp Xq s3) <| Qd (v := (u64 (e4 + ((e3 + ((e2 + ((e1 + ((e0 + 19#64) >>> 51)) >>> 51)) >>> 51)) >>> 51)))) (Qi Yh rfl rfl m18.h0 (Qu _ _ 0 Ya)) <| Qd (Vp (b := 2251799813685247#64) rfl rfl) <| Qd (Xr 4 4 Xp Xq s3) <| Ye m18 (Zi (f := u64) (l' := [(e0 + 19#64) &&& 2251799813685247#64, (e1 + ((e0 + 19#64) >>> 51)) &&& 2251799813685247#64, (e2 + ((e1 + ((e0 + 19#64) >>> 51)) >>> 51)) &&& 2251799813685247#64, (e3 + ((e2 + ((e1 + ((e0 + 19#64) >>> 51)) >>> 51)) >>> 51)) &&& 2251799813685247#64, (e4 + ((e3 + ((e2 + ((e1 + ((e0 + 19#64) >>> 51)) >>> 51)) >>> 51)) >>> 51)) &&& 2251799813685247#64]) rfl Xu Xq rfl rfl m18.h0 Ya (.inl (aJ _))) fun w19 m19 => ?_
 refine Zp (Qe (Qb ?_))
 refine Qd (v := (i64 5)) (Yk 4 1) <| Zm (i64 5) ?_
 refine rN (Zq (sR ?_))
 refine Qd (Jc 5 5) ?_
 refine rN (Qa ?_)
 refine Ja rfl Yx <| X3 ?_
 refine Qj (Qj (Xk ?_))
 refine Qa (sR ?_)
 refine X9 rfl <| Qd (Qqz (b := 0#64) rfl rfl) <| rN ?_
 refine Zz rfl (fun hc20 => ?_) (fun hc20 => ?_)
 ·
  have hc20p := of_decide_eq_true hc20
  refine Qb <| Qd (Qn Xp rfl Yq s3 m19.h0 sZ) <| Bj m19 (Qg (f := u64) (l := [(e0 + 19#64) &&& 2251799813685247#64, (e1 + ((e0 + 19#64) >>> 51)) &&& 2251799813685247#64, (e2 + ((e1 + ((e0 + 19#64) >>> 51)) >>> 51)) &&& 2251799813685247#64, (e3 + ((e2 + ((e1 + ((e0 + 19#64) >>> 51)) >>> 51)) >>> 51)) &&& 2251799813685247#64, (e4 + ((e3 + ((e2 + ((e1 + ((e0 + 19#64) >>> 51)) >>> 51)) >>> 51)) >>> 51)) &&& 2251799813685247#64]) Xu Yq s1 rfl sD m19.h2 sZ rfl) fun w21 m21 => ?_
  refine rN (Qa (Qa ?_))
  have hwq : [(e0 + 19#64) &&& 2251799813685247#64, (e1 + ((e0 + 19#64) >>> 51)) &&& 2251799813685247#64, (e2 + ((e1 + ((e0 + 19#64) >>> 51)) >>> 51)) &&& 2251799813685247#64, (e3 + ((e2 + ((e1 + ((e0 + 19#64) >>> 51)) >>> 51)) >>> 51)) &&& 2251799813685247#64, (e4 + ((e3 + ((e2 + ((e1 + ((e0 + 19#64) >>> 51)) >>> 51)) >>> 51)) >>> 51)) &&& 2251799813685247#64] = Gt e := by unfold Gt; rw [hce]; exact (if_pos (of_decide_eq_true hc20)).symm
  have hmW22 := m21
  rw [hwq] at hmW22
  have hwl := Qem he
  refine Qb <| Zm (i64 0) ?_
  refine rN (Qh ?_)
  refine Y1 (fun g wv => ∃ (i : Nat), (i ≤ 255) ∧ g 0 = (agg u64 e) ∧ g 1 = (ptr b1 0) ∧ g 2 = (ptr b2 0) ∧ g 3 = (ptr b3 0) ∧ g 4 = (u64 ((e4 + ((e3 + ((e2 + ((e1 + ((e0 + 19#64) >>> 51)) >>> 51)) >>> 51)) >>> 51)) >>> 51)) ∧ g 5 = (i64 4) ∧ g 10 = (i64 5) ∧ g 11 = (bl false) ∧ g 30 = (bl (decide ((0#64).toNat < ((e4 + ((e3 + ((e2 + ((e1 + ((e0 + 19#64) >>> 51)) >>> 51)) >>> 51)) >>> 51)) >>> 51).toNat))) ∧ g 32 = (i64 (i : Int)) ∧ Mem wv (Qs w0) [(b3, .cells (cl u64 (Gt e)) 126 (0, 0)), (b2, .cells (cl u8 (Gp (Gt e) i)) 23 (0, 0)), (b1, .cells (cl u64 (Gt e)) 126 (0, 0))]) (fun g wv => (255 - aT (g 32)).toNat) ?_ ?_
  ·exact ⟨0, oM, s0, s1, s2, s3, rfl, rfl, rfl, rfl, rfl, rfl, (by rw [Qfk]; exact hmW22)⟩
  rintro fr23 w24 ⟨i, hi, s0, s1, s2, s3, s4, s5, s10, s11, s30, s32, m24⟩
  have z32 := s32
  have hgl := Fb (Gt e) i
  refine sR <| Qd (Xd (b := 255) s32 rfl) ?_
  refine rN (Qa ?_)
  refine Zz rfl (fun hc25 => ?_) (fun hc25 => ?_)
  ·
   have hc25p := of_decide_eq_true hc25
   refine Qo (Qc (Qa (Qh (sR ?_))))
   refine X9 s32 <| Zx (i64 (i : Int)) <| rN <| Xi (dl 16) 16 Xv <| J7 rfl (i64 (i : Int)) <| X4 rfl (Jv.cast (congrArg i64 (show (i : Int) / 8 = ((i / 8 : Nat) : Int) by omega)) (Um (b := 8) rfl rfl oM oM oM)) <| X4 rfl (Zj (r := (i / 8)) oM Xn Yr s2 rfl oM sD) <| Yj (v := (u8 ((Gp (Gt e) i).getD (i / 8) 0))) rfl (fun _ e' => Qi V3 rfl rfl (m24.ext e').h1 (Qu _ _ 0 sD)) <| J7 rfl (i64 (i : Int)) <| X4 rfl (Jv.cast (congrArg i64 (show (i : Int) / 51 = ((i / 51 : Nat) : Int) by omega)) (Um (b := 51) rfl rfl oM oM oM)) <| X4 rfl (Zj (r := (i / 51)) oM Xp Xq s1 rfl oM sD) <| Yj (v := (u64 ((Gt e).getD (i / 51) 0))) rfl (fun _ e' => Qi Yh rfl rfl (m24.ext e').h2 (Qu _ _ 0 sD)) ?_
   refine J7 rfl (i64 (i : Int)) <| X4 rfl (Jv.cast (congrArg i64 (show (i : Int) % 51 = ((i % 51 : Nat) : Int) by omega)) (Wp (b := 51) rfl rfl oM oM oM)) <| X4 rfl (X7 rfl rfl oM) <| X4 rfl (Vp (b := 1#64) rfl rfl) <| X4 rfl (X5 ⟨_, Yh⟩ V3 rfl) <| J7 rfl (i64 (i : Int)) <| X4 rfl (Jv.cast (congrArg i64 (show (i : Int) % 8 = ((i % 8 : Nat) : Int) by omega)) (Wp (b := 8) rfl rfl oM oM oM)) <| X4 rfl (Ql3 rfl rfl oM) <| Gf m24 fun w26 m26 => Qd (Qgj rfl rfl) <| Qd (Zj (r := (i / 8)) oM Xn Yr s2 rfl oM sD) <| Vs m26 (Xw (f := u8) (a := ((Gp (Gt e) i).getD (i / 8) 0) ||| ((((((Gt e).getD (i / 51) 0) >>> ((i % 51 : Nat) : Int).toNat) &&& 1#64).setWidth 8) <<< ((i % 8 : Nat) : Int).toNat)) Qr Yr rfl rfl m26.h1 sD (.inl (aJ _))) fun w27 m27 => ?_
   refine Zp (Qe (Qb ?_))
   refine Qd (Zg (b := 1) s32 rfl oM oM) <| Zm (i64 ((i : Int) + 1)) <| rN ?_
   exact ⟨⟨i + 1, oM, s0, s1, s2, s3, s4, s5, s10, s11, s30, rfl, (by rw [Qfl]; exact m27)⟩, Uj rfl z32 oM oM⟩
  ·
   have hc25p := of_decide_eq_false hc25
   obtain rfl : i = 255 := by omega
   have hgl := Fb (Gt e) 255
   refine X3 ?_
   refine Qj (Qj (Xk ?_))
   refine sR <| Qd (Qn Xn rfl Zh s2 m24.h1 sZ) <| Vs m24 (Qg (f := u8) (l := Gp (Gt e) 255) Qr Zh s2 rfl sD m24.h1 sZ rfl) fun w28 m28 => ?_
   refine rN (Z8 ?_)
   refine Qq [(agg u8 (Gp (Gt e) 255))] ⟨⟨_, s2, Xm Xn rfl Zh m28.h1 sZ⟩, trivial⟩ ?_
   exact ⟨by unfold Qav; rfl, m28.toExt⟩
 ·
  have hc20p := of_decide_eq_false hc20
  refine Qo (Qc (Qa (Qa ?_)))
  have hwq : [e0, e1, e2, e3, e4] = Gt e := by unfold Gt; rw [hce]; exact (if_neg (of_decide_eq_false hc20)).symm
  have hmW29 := m19
  rw [hwq] at hmW29
  have hwl := Qem he
  refine Qb <| Zm (i64 0) ?_
  refine rN (Qh ?_)
  refine Y1 (fun g wv => ∃ (i : Nat), (i ≤ 255) ∧ g 0 = (agg u64 e) ∧ g 1 = (ptr b1 0) ∧ g 2 = (ptr b2 0) ∧ g 3 = (ptr b3 0) ∧ g 4 = (u64 ((e4 + ((e3 + ((e2 + ((e1 + ((e0 + 19#64) >>> 51)) >>> 51)) >>> 51)) >>> 51)) >>> 51)) ∧ g 5 = (i64 4) ∧ g 10 = (i64 5) ∧ g 11 = (bl false) ∧ g 30 = (bl (decide ((0#64).toNat < ((e4 + ((e3 + ((e2 + ((e1 + ((e0 + 19#64) >>> 51)) >>> 51)) >>> 51)) >>> 51)) >>> 51).toNat))) ∧ g 32 = (i64 (i : Int)) ∧ Mem wv (Qs w0) [(b3, .cells (cl u64 ([(e0 + 19#64) &&& 2251799813685247#64, (e1 + ((e0 + 19#64) >>> 51)) &&& 2251799813685247#64, (e2 + ((e1 + ((e0 + 19#64) >>> 51)) >>> 51)) &&& 2251799813685247#64, (e3 + ((e2 + ((e1 + ((e0 + 19#64) >>> 51)) >>> 51)) >>> 51)) &&& 2251799813685247#64, (e4 + ((e3 + ((e2 + ((e1 + ((e0 + 19#64) >>> 51)) >>> 51)) >>> 51)) >>> 51)) &&& 2251799813685247#64])) 126 (0, 0)), (b2, .cells (cl u8 (Gp (Gt e) i)) 23 (0, 0)), (b1, .cells (cl u64 (Gt e)) 126 (0, 0))]) (fun g wv => (255 - aT (g 32)).toNat) ?_ ?_
  ·exact ⟨0, oM, s0, s1, s2, s3, rfl, rfl, rfl, rfl, rfl, rfl, (by rw [Qfk]; exact hmW29)⟩
  rintro fr30 w31 ⟨i, hi, s0, s1, s2, s3, s4, s5, s10, s11, s30, s32, m31⟩
  have z32 := s32
  have hgl := Fb (Gt e) i
  refine sR <| Qd (Xd (b := 255) s32 rfl) ?_
  refine rN (Qa ?_)
  refine Zz rfl (fun hc32 => ?_) (fun hc32 => ?_)
  ·
   have hc32p := of_decide_eq_true hc32
   refine Qo (Qc (Qa (Qh (sR ?_))))
   refine X9 s32 <| Zx (i64 (i : Int)) <| rN <| Xi (dl 16) 16 Xv <| J7 rfl (i64 (i : Int)) <| X4 rfl (Jv.cast (congrArg i64 (show (i : Int) / 8 = ((i / 8 : Nat) : Int) by omega)) (Um (b := 8) rfl rfl oM oM oM)) <| X4 rfl (Zj (r := (i / 8)) oM Xn Yr s2 rfl oM sD) <| Yj (v := (u8 ((Gp (Gt e) i).getD (i / 8) 0))) rfl (fun _ e' => Qi V3 rfl rfl (m31.ext e').h1 (Qu _ _ 0 sD)) <| J7 rfl (i64 (i : Int)) <| X4 rfl (Jv.cast (congrArg i64 (show (i : Int) / 51 = ((i / 51 : Nat) : Int) by omega)) (Um (b := 51) rfl rfl oM oM oM)) <| X4 rfl (Zj (r := (i / 51)) oM Xp Xq s1 rfl oM sD) <| Yj (v := (u64 ((Gt e).getD (i / 51) 0))) rfl (fun _ e' => Qi Yh rfl rfl (m31.ext e').h2 (Qu _ _ 0 sD)) ?_
   refine J7 rfl (i64 (i : Int)) <| X4 rfl (Jv.cast (congrArg i64 (show (i : Int) % 51 = ((i % 51 : Nat) : Int) by omega)) (Wp (b := 51) rfl rfl oM oM oM)) <| X4 rfl (X7 rfl rfl oM) <| X4 rfl (Vp (b := 1#64) rfl rfl) <| X4 rfl (X5 ⟨_, Yh⟩ V3 rfl) <| J7 rfl (i64 (i : Int)) <| X4 rfl (Jv.cast (congrArg i64 (show (i : Int) % 8 = ((i % 8 : Nat) : Int) by omega)) (Wp (b := 8) rfl rfl oM oM oM)) <| X4 rfl (Ql3 rfl rfl oM) <| Gf m31 fun w33 m33 => Qd (Qgj rfl rfl) <| Qd (Zj (r := (i / 8)) oM Xn Yr s2 rfl oM sD) <| Vs m33 (Xw (f := u8) (a := ((Gp (Gt e) i).getD (i / 8) 0) ||| ((((((Gt e).getD (i / 51) 0) >>> ((i % 51 : Nat) : Int).toNat) &&& 1#64).setWidth 8) <<< ((i % 8 : Nat) : Int).toNat)) Qr Yr rfl rfl m33.h1 sD (.inl (aJ _))) fun w34 m34 => ?_
   refine Zp (Qe (Qb ?_))
   refine Qd (Zg (b := 1) s32 rfl oM oM) <| Zm (i64 ((i : Int) + 1)) <| rN ?_
   exact ⟨⟨i + 1, oM, s0, s1, s2, s3, s4, s5, s10, s11, s30, rfl, (by rw [Qfl]; exact m34)⟩, Uj rfl z32 oM oM⟩
  ·
   have hc32p := of_decide_eq_false hc32
   obtain rfl : i = 255 := by omega
   have hgl := Fb (Gt e) 255
   refine X3 ?_
   refine Qj (Qj (Xk ?_))
   refine sR <| Qd (Qn Xn rfl Zh s2 m31.h1 sZ) <| Vs m31 (Qg (f := u8) (l := Gp (Gt e) 255) Qr Zh s2 rfl sD m31.h1 sZ rfl) fun w35 m35 => ?_
   refine rN (Z8 ?_)
   refine Qq [(agg u8 (Gp (Gt e) 255))] ⟨⟨_, s2, Xm Xn rfl Zh m35.h1 sZ⟩, trivial⟩ ?_
   exact ⟨by unfold Qav; rfl, m35.toExt⟩
set_option maxHeartbeats 1000000 in
theorem Qsw (px pz qx qz x1 : List (BitVec 64)) (w0 : World)  (hpx : px.length = 5) (hpz : pz.length = 5) (hqx : qx.length = 5) (hqz : qz.length = 5) (hx1 : x1.length = 5) : Xz prog 80 #[(aO (Qy [px.map u64, pz.map u64])), (aO (Qy [qx.map u64, qz.map u64])), (agg u64 x1)] w0 (fun r w1 => r = (Value.tuple #[(aO (Qy [((Ad px pz qx qz x1).px).map u64, ((Ad px pz qx qz x1).pz).map u64])), (aO (Qy [((Ad px pz qx qz x1).qx).map u64, ((Ad px pz qx qz x1).qz).map u64]))]) ∧ Ext w0 w1) := by
 refine Qz (args := [(aO (Qy [px.map u64, pz.map u64])), (aO (Qy [qx.map u64, qz.map u64])), (agg u64 x1)]) func80 rfl ntmps80 results80 rfl ?_
 have m0 : Mem w0 (Qs w0) [] := aY w0
 have hl0 := Qa2 hpx hpz
 have hl1 := Tn hpx hpz
 have hl2 := Qa2 hqx hqz
 have hl3 := Tn hqx hqz
 have hl4 := Tn (Vj (Zy px pz) (Zy px pz)) (Vj (Zb px pz) (Zb px pz))
 have hl5 := Qa2 (Vj (Zb qx qz) (Zy px pz)) (Vj (Zy qx qz) (Zb px pz))
 have hl6 := Tn (Vj (Zb qx qz) (Zy px pz)) (Vj (Zy qx qz) (Zb px pz))
 have hl7 := Qa2 (Vj (Zy px pz) (Zy px pz)) (Vj [121665#64, 0#64, 0#64, 0#64, 0#64] (Zb (Qm (Zy px pz) (Zy px pz)) (Qm (Zb px pz) (Zb px pz))))
 refine sR <| Y5 (Fz (cs := (Qy [px.map u64, pz.map u64])) m0 rfl) fun w1 b3 m1 => Y5 (Fz (cs := (Qy [qx.map u64, qz.map u64])) m1 rfl) fun w2 b4 m2 => Y5 (Z5 (f := u64) (l := x1) m2 rfl) fun w3 b5 m3 => Y5 (Ju m3 Ce) fun w4 b6 m4 => Y5 (Ju m4 Ce) fun w5 b7 m5 => ?_
 refine rN (Qa ?_)
 refine Jy Xv ?_
 refine Qeq [10, 11] (dl 10) 12 (luN [(10, 8), (11, 9)]) (luN [(10, 126), (11, 126)]) (luV [(10, (agg u64 (aA 5 0))), (11, (agg u64 (aA 5 0)))]) (fun g => g 0 = (aO (Qy [px.map u64, pz.map u64])) ∧ g 1 = (aO (Qy [qx.map u64, qz.map u64])) ∧ g 2 = (agg u64 x1) ∧ g 3 = (ptr b3 0) ∧ g 4 = (ptr b4 0) ∧ g 5 = (ptr b5 0) ∧ g 6 = (ptr b6 0) ∧ g 7 = (ptr b7 0) ∧ g 24 = (agg u64 (Zy px pz)) ∧ g 29 = (agg u64 (Zb px pz)) ∧ True) m5 (Wq ⟨⟨_, _, _, rfl⟩, rfl, _, _, Yq⟩ (Wq ⟨⟨_, _, _, rfl⟩, rfl, _, _, Yq⟩ Sz)) (fun sx6 hS6 => ?_) ?_
 ·skip
  refine X4 rfl (Zl (r := 0) Hy rfl Jj Yq rfl rfl) <| Yj rfl (fun _ e' => Jn 0 Xp Yq rfl (m5.ext e').h4 rfl) <| X4 rfl (Zl (r := 5) Hy rfl Jj Yq rfl rfl) <| Yj rfl (fun _ e' => Jn 1 Xp Yq rfl (m5.ext e').h4 rfl) <| Wy rfl rfl (fun w7 e7 => oc97 (Xl rfl rfl) (Qnv _ _ _ sD sD)) <| X4 rfl (Zl (r := 0) Hy rfl Jj Yq rfl rfl) <| Yj rfl (fun _ e' => Jn 0 Xp Yq rfl (m5.ext e').h4 rfl) <| X4 rfl (Zl (r := 5) Hy rfl Jj Yq rfl rfl) <| Yj rfl (fun _ e' => Jn 1 Xp Yq rfl (m5.ext e').h4 rfl) <| Wy rfl rfl (fun w10 e10 => oc98 (Xl rfl rfl) (Qi7 _ _ _ sD sD)) ?_
  exact hS6 _ ⟨rfl, rfl, rfl, rfl, rfl, rfl, rfl, rfl, rfl, rfl, trivial⟩
 rintro g13 ⟨s0, s1, s2, s3, s4, s5, s6, s7, s24, s29, _⟩ w15 ps15 hmm15
 have m15 : Mem _ _ [((ps15 10), .cells (cl u64 (aA 5 0)) 126 (0, 0)), ((ps15 11), .cells (cl u64 (aA 5 0)) 126 (0, 0)), _, _, _, _, _] := hmm15
 show RW _ _ _ _ _ (upd (upd g13 9 (ptr (ps15 11) 0)) 8 (ptr (ps15 10) 0)) _
 generalize ps15 10 = b8, ps15 11 = b9 at m15 ⊢
 refine Ye m15 (Qg (f := u64) (l := Zy px pz) Xu Yq rfl s24 sD m15.h0 sZ rfl) fun w16 m16 => Vs m16 (Qg (f := u64) (l := Zb px pz) Xu Yq rfl s29 sD m16.h1 sZ rfl) fun w17 m17 => ?_
 refine rN (Qa ?_)
 refine Jy Xv ?_
 refine Qeq [10, 11] (dl 10) 12 (luN [(10, 10), (11, 11)]) (luN [(10, 126), (11, 126)]) (luV [(10, (agg u64 (aA 5 0))), (11, (agg u64 (aA 5 0)))]) (fun g => g 0 = (aO (Qy [px.map u64, pz.map u64])) ∧ g 1 = (aO (Qy [qx.map u64, qz.map u64])) ∧ g 2 = (agg u64 x1) ∧ g 3 = (ptr b3 0) ∧ g 4 = (ptr b4 0) ∧ g 5 = (ptr b5 0) ∧ g 6 = (ptr b6 0) ∧ g 7 = (ptr b7 0) ∧ g 8 = (ptr b8 0) ∧ g 9 = (ptr b9 0) ∧ g 34 = (agg u64 (Zy qx qz)) ∧ g 39 = (agg u64 (Zb qx qz)) ∧ True) m17 (Wq ⟨⟨_, _, _, rfl⟩, rfl, _, _, Yq⟩ (Wq ⟨⟨_, _, _, rfl⟩, rfl, _, _, Yq⟩ Sz)) (fun sx18 hS18 => ?_) ?_
 ·skip
  refine X4 rfl (Zl (r := 0) Hy rfl Jj Yq rfl s4) <| Yj rfl (fun _ e' => Jn 0 Xp Yq rfl (m17.ext e').h5 rfl) <| X4 rfl (Zl (r := 5) Hy rfl Jj Yq rfl s4) <| Yj rfl (fun _ e' => Jn 1 Xp Yq rfl (m17.ext e').h5 rfl) <| Wy rfl rfl (fun w19 e19 => oc97 (Xl rfl rfl) (Qnv _ _ _ sD sD)) <| X4 rfl (Zl (r := 0) Hy rfl Jj Yq rfl s4) <| Yj rfl (fun _ e' => Jn 0 Xp Yq rfl (m17.ext e').h5 rfl) <| X4 rfl (Zl (r := 5) Hy rfl Jj Yq rfl s4) <| Yj rfl (fun _ e' => Jn 1 Xp Yq rfl (m17.ext e').h5 rfl) <| Wy rfl rfl (fun w22 e22 => oc98 (Xl rfl rfl) (Qi7 _ _ _ sD sD)) ?_
  exact hS18 _ ⟨s0, s1, s2, s3, s4, s5, s6, s7, rfl, rfl, rfl, rfl, trivial⟩
 rintro g25 ⟨s0, s1, s2, s3, s4, s5, s6, s7, s8, s9, s34, s39, _⟩ w27 ps27 hmm27
 have m27 : Mem _ _ [((ps27 10), .cells (cl u64 (aA 5 0)) 126 (0, 0)), ((ps27 11), .cells (cl u64 (aA 5 0)) 126 (0, 0)), _, _, _, _, _, _, _] := hmm27
 show RW _ _ _ _ _ (upd (upd g25 11 (ptr (ps27 11) 0)) 10 (ptr (ps27 10) 0)) _
 generalize ps27 10 = b10, ps27 11 = b11 at m27 ⊢
 refine Ye m27 (Qg (f := u64) (l := Zy qx qz) Xu Yq rfl s34 sD m27.h0 sZ rfl) fun w28 m28 => Vs m28 (Qg (f := u64) (l := Zb qx qz) Xu Yq rfl s39 sD m28.h1 sZ rfl) fun w29 m29 => ?_
 refine rN (Qa ?_)
 refine Jy Xv ?_
 refine Qeq [6, 7] (dl 6) 8 (luN [(6, 12), (7, 13)]) (luN [(6, 126), (7, 126)]) (luV [(6, (agg u64 (aA 5 0))), (7, (agg u64 (aA 5 0)))]) (fun g => g 0 = (aO (Qy [px.map u64, pz.map u64])) ∧ g 1 = (aO (Qy [qx.map u64, qz.map u64])) ∧ g 2 = (agg u64 x1) ∧ g 3 = (ptr b3 0) ∧ g 4 = (ptr b4 0) ∧ g 5 = (ptr b5 0) ∧ g 6 = (ptr b6 0) ∧ g 7 = (ptr b7 0) ∧ g 8 = (ptr b8 0) ∧ g 9 = (ptr b9 0) ∧ g 10 = (ptr b10 0) ∧ g 11 = (ptr b11 0) ∧ g 42 = (agg u64 (Qm (Zb qx qz) (Zy px pz))) ∧ g 45 = (agg u64 (Qm (Zy qx qz) (Zb px pz))) ∧ True) m29 (Wq ⟨⟨_, _, _, rfl⟩, rfl, _, _, Yq⟩ (Wq ⟨⟨_, _, _, rfl⟩, rfl, _, _, Yq⟩ Sz)) (fun sx30 hS30 => ?_) ?_
 ·skip
  refine Yj rfl (fun _ e' => Qn Xp rfl Yq rfl (m29.ext e').h1 sZ) <| Yj rfl (fun _ e' => Qn Xp rfl Yq s8 (m29.ext e').h2 sZ) <| Wy rfl rfl (fun w31 e31 => Qhf (Xl rfl rfl) (Dx _ _ _ sD sD)) <| Yj rfl (fun _ e' => Qn Xp rfl Yq rfl (m29.ext e').h0 sZ) <| Yj rfl (fun _ e' => Qn Xp rfl Yq s9 (m29.ext e').h3 sZ) <| Wy rfl rfl (fun w34 e34 => Qhf (Xl rfl rfl) (Dx _ _ _ sD sD)) ?_
  exact hS30 _ ⟨s0, s1, s2, s3, s4, s5, s6, s7, s8, s9, rfl, rfl, rfl, rfl, trivial⟩
 rintro g37 ⟨s0, s1, s2, s3, s4, s5, s6, s7, s8, s9, s10, s11, s42, s45, _⟩ w39 ps39 hmm39
 have m39 : Mem _ _ [((ps39 6), .cells (cl u64 (aA 5 0)) 126 (0, 0)), ((ps39 7), .cells (cl u64 (aA 5 0)) 126 (0, 0)), _, _, _, _, _, _, _, _, _] := hmm39
 show RW _ _ _ _ _ (upd (upd g37 13 (ptr (ps39 7) 0)) 12 (ptr (ps39 6) 0)) _
 generalize ps39 6 = b12, ps39 7 = b13 at m39 ⊢
 refine Ye m39 (Qg (f := u64) (l := Qm (Zb qx qz) (Zy px pz)) Xu Yq rfl s42 sD m39.h0 sZ rfl) fun w40 m40 => Vs m40 (Qg (f := u64) (l := Qm (Zy qx qz) (Zb px pz)) Xu Yq rfl s45 sD m40.h1 sZ rfl) fun w41 m41 => ?_
 refine rN (Qa ?_)
 refine Jy Xv ?_
 refine Qeq [6, 7] (dl 6) 8 (luN [(6, 14), (7, 15)]) (luN [(6, 126), (7, 126)]) (luV [(6, (agg u64 (aA 5 0))), (7, (agg u64 (aA 5 0)))]) (fun g => g 0 = (aO (Qy [px.map u64, pz.map u64])) ∧ g 1 = (aO (Qy [qx.map u64, qz.map u64])) ∧ g 2 = (agg u64 x1) ∧ g 3 = (ptr b3 0) ∧ g 4 = (ptr b4 0) ∧ g 5 = (ptr b5 0) ∧ g 6 = (ptr b6 0) ∧ g 7 = (ptr b7 0) ∧ g 8 = (ptr b8 0) ∧ g 9 = (ptr b9 0) ∧ g 10 = (ptr b10 0) ∧ g 11 = (ptr b11 0) ∧ g 12 = (ptr b12 0) ∧ g 13 = (ptr b13 0) ∧ g 48 = (agg u64 (Qm (Zy px pz) (Zy px pz))) ∧ g 51 = (agg u64 (Qm (Zb px pz) (Zb px pz))) ∧ True) m41 (Wq ⟨⟨_, _, _, rfl⟩, rfl, _, _, Yq⟩ (Wq ⟨⟨_, _, _, rfl⟩, rfl, _, _, Yq⟩ Sz)) (fun sx42 hS42 => ?_) ?_
 ·skip
  refine Yj rfl (fun _ e' => Qn Xp rfl Yq s8 (m41.ext e').h4 sZ) <| Yj rfl (fun _ e' => Qn Xp rfl Yq s8 (m41.ext e').h4 sZ) <| Wy rfl rfl (fun w43 e43 => Qhf (Xl rfl rfl) (Dx _ _ _ sD sD)) <| Yj rfl (fun _ e' => Qn Xp rfl Yq s9 (m41.ext e').h5 sZ) <| Yj rfl (fun _ e' => Qn Xp rfl Yq s9 (m41.ext e').h5 sZ) <| Wy rfl rfl (fun w46 e46 => Qhf (Xl rfl rfl) (Dx _ _ _ sD sD)) ?_
  exact hS42 _ ⟨s0, s1, s2, s3, s4, s5, s6, s7, s8, s9, s10, s11, rfl, rfl, rfl, rfl, trivial⟩
 rintro g49 ⟨s0, s1, s2, s3, s4, s5, s6, s7, s8, s9, s10, s11, s12, s13, s48, s51, _⟩ w51 ps51 hmm51
 have m51 : Mem _ _ [((ps51 6), .cells (cl u64 (aA 5 0)) 126 (0, 0)), ((ps51 7), .cells (cl u64 (aA 5 0)) 126 (0, 0)), _, _, _, _, _, _, _, _, _, _, _] := hmm51
 show RW _ _ _ _ _ (upd (upd g49 15 (ptr (ps51 7) 0)) 14 (ptr (ps51 6) 0)) _
 generalize ps51 6 = b14, ps51 7 = b15 at m51 ⊢
 refine Ye m51 (Qg (f := u64) (l := Qm (Zy px pz) (Zy px pz)) Xu Yq rfl s48 sD m51.h0 sZ rfl) fun w52 m52 => Vs m52 (Qg (f := u64) (l := Qm (Zb px pz) (Zb px pz)) Xu Yq rfl s51 sD m52.h1 sZ rfl) fun w53 m53 => ?_
 refine rN (sR ?_)
 refine Qd (Qn Xp rfl Yq rfl m53.h0 sZ) <| Qd (Qn Xp rfl Yq rfl m53.h1 sZ) <| U5 m53 (oc98 (Xl rfl rfl) (Qi7 _ _ _ sD sD)) fun w54 m54 => Y5 (Q7 m54 Yq) fun w56 b16 m56 => Ye m56 (Qg (f := u64) (l := Zb (Qm (Zy px pz) (Zy px pz)) (Qm (Zb px pz) (Zb px pz))) Xu Yq rfl rfl sD m56.h0 sZ rfl) fun w57 m57 => ?_
 refine rN (Qa ?_)
 refine Jy Xv ?_
 refine Qeq [6, 7] (dl 6) 8 (luN [(6, 17), (7, 18)]) (luN [(6, 126), (7, 126)]) (luV [(6, (agg u64 (aA 5 0))), (7, (agg u64 (aA 5 0)))]) (fun g => g 0 = (aO (Qy [px.map u64, pz.map u64])) ∧ g 1 = (aO (Qy [qx.map u64, qz.map u64])) ∧ g 2 = (agg u64 x1) ∧ g 3 = (ptr b3 0) ∧ g 4 = (ptr b4 0) ∧ g 5 = (ptr b5 0) ∧ g 6 = (ptr b6 0) ∧ g 7 = (ptr b7 0) ∧ g 8 = (ptr b8 0) ∧ g 9 = (ptr b9 0) ∧ g 10 = (ptr b10 0) ∧ g 11 = (ptr b11 0) ∧ g 12 = (ptr b12 0) ∧ g 13 = (ptr b13 0) ∧ g 14 = (ptr b14 0) ∧ g 15 = (ptr b15 0) ∧ g 16 = (ptr b16 0) ∧ g 57 = (agg u64 (Zy (Qm (Zb qx qz) (Zy px pz)) (Qm (Zy qx qz) (Zb px pz)))) ∧ g 60 = (agg u64 (Zb (Qm (Zb qx qz) (Zy px pz)) (Qm (Zy qx qz) (Zb px pz)))) ∧ True) m57 (Wq ⟨⟨_, _, _, rfl⟩, rfl, _, _, Yq⟩ (Wq ⟨⟨_, _, _, rfl⟩, rfl, _, _, Yq⟩ Sz)) (fun sx58 hS58 => ?_) ?_
 ·skip
  refine Yj rfl (fun _ e' => Qn Xp rfl Yq s12 (m57.ext e').h3 sZ) <| Yj rfl (fun _ e' => Qn Xp rfl Yq s13 (m57.ext e').h4 sZ) <| Wy rfl rfl (fun w59 e59 => oc97 (Xl rfl rfl) (Qnv _ _ _ sD sD)) <| Yj rfl (fun _ e' => Qn Xp rfl Yq s12 (m57.ext e').h3 sZ) <| Yj rfl (fun _ e' => Qn Xp rfl Yq s13 (m57.ext e').h4 sZ) <| Wy rfl rfl (fun w62 e62 => oc98 (Xl rfl rfl) (Qi7 _ _ _ sD sD)) ?_
  exact hS58 _ ⟨s0, s1, s2, s3, s4, s5, s6, s7, s8, s9, s10, s11, s12, s13, rfl, rfl, rfl, rfl, rfl, trivial⟩
 rintro g65 ⟨s0, s1, s2, s3, s4, s5, s6, s7, s8, s9, s10, s11, s12, s13, s14, s15, s16, s57, s60, _⟩ w67 ps67 hmm67
 have m67 : Mem _ _ [((ps67 6), .cells (cl u64 (aA 5 0)) 126 (0, 0)), ((ps67 7), .cells (cl u64 (aA 5 0)) 126 (0, 0)), _, _, _, _, _, _, _, _, _, _, _, _, _, _] := hmm67
 show RW _ _ _ _ _ (upd (upd g65 18 (ptr (ps67 7) 0)) 17 (ptr (ps67 6) 0)) _
 generalize ps67 6 = b17, ps67 7 = b18 at m67 ⊢
 refine Ye m67 (Qg (f := u64) (l := Zy (Qm (Zb qx qz) (Zy px pz)) (Qm (Zy qx qz) (Zb px pz))) Xu Yq rfl s57 sD m67.h0 sZ rfl) fun w68 m68 => Vs m68 (Qg (f := u64) (l := Zb (Qm (Zb qx qz) (Zy px pz)) (Qm (Zy qx qz) (Zb px pz))) Xu Yq rfl s60 sD m68.h1 sZ rfl) fun w69 m69 => ?_
 refine rN (Qa ?_)
 refine Xi [(0, false), (1, false), (2, false), (3, false), (4, false), (5, false), (6, false), (7, false), (8, false), (9, false), (10, false), (11, true)] 12 Xv <| Yj rfl (fun _ e' => Qn Xp rfl Yq s14 (m69.ext e').h3 sZ) <| Yj rfl (fun _ e' => Qn Xp rfl Yq s15 (m69.ext e').h4 sZ) <| Wy rfl rfl (fun w70 e70 => Qhf (Xl rfl rfl) (Dx _ _ _ sD sD)) <| Yj rfl (fun _ e' => Qn Xp rfl Yq s16 (m69.ext e').h2 sZ) <| Yj rfl (fun _ e' => Qn Xp rfl Yq s14 (m69.ext e').h3 sZ) <| X4 rfl (Gq (c := (cl u64 ([121665#64, 0#64, 0#64, 0#64, 0#64]))) Yq Xp Xq (Jp (i := 0) (v := (u64 121665#64)) (cs := #[(u64 121665#64)]) rfl rfl Vt) Xv) <| Yj rfl (fun _ e' => Qn Xp rfl Yq s16 (m69.ext e').h2 sZ) <| Wy rfl rfl (fun w73 e73 => Qhf (Xl rfl rfl) (Dx _ _ _ sD sD)) <| Wy rfl rfl (fun w76 e76 => oc97 (Xl rfl rfl) (Qnv _ _ _ sD sD)) <| Wy rfl rfl (fun w79 e79 => Qhf (Xl rfl rfl) (Dx _ _ _ sD sD)) <| X4 rfl (Ws (c := (Qy [(Qm (Qm (Zy px pz) (Zy px pz)) (Qm (Zb px pz) (Zb px pz))).map u64, (Qm (Zb (Qm (Zy px pz) (Zy px pz)) (Qm (Zb px pz) (Zb px pz))) (Zy (Qm (Zy px pz) (Zy px pz)) (Qm ([121665#64, 0#64, 0#64, 0#64, 0#64]) (Zb (Qm (Zy px pz) (Zy px pz)) (Qm (Zb px pz) (Zb px pz)))))).map u64])) (pl := [(0, 5), (5, 5)]) Ce Hy Xv (Jp (i := 0) (v := (agg u64 (Qm (Qm (Zy px pz) (Zy px pz)) (Qm (Zb px pz) (Zb px pz))))) (cs := (cl u64 (Qm (Qm (Zy px pz) (Zy px pz)) (Qm (Zb px pz) (Zb px pz))))) rfl rfl (Jp (i := 1) (v := (agg u64 (Qm (Zb (Qm (Zy px pz) (Zy px pz)) (Qm (Zb px pz) (Zb px pz))) (Zy (Qm (Zy px pz) (Zy px pz)) (Qm ([121665#64, 0#64, 0#64, 0#64, 0#64]) (Zb (Qm (Zy px pz) (Zy px pz)) (Qm (Zb px pz) (Zb px pz)))))))) (cs := (cl u64 (Qm (Zb (Qm (Zy px pz) (Zy px pz)) (Qm (Zb px pz) (Zb px pz))) (Zy (Qm (Zy px pz) (Zy px pz)) (Qm ([121665#64, 0#64, 0#64, 0#64, 0#64]) (Zb (Qm (Zy px pz) (Zy px pz)) (Qm (Zb px pz) (Zb px pz)))))))) rfl rfl Vt)) (Vx (L := [(aA 5 0).map u64, (aA 5 0).map u64]) 0 [(Qm (Qm (Zy px pz) (Zy px pz)) (Qm (Zb px pz) (Zb px pz))).map u64, (aA 5 0).map u64] rfl (Gg u64 _).symm rfl (Vx 1 [(Qm (Qm (Zy px pz) (Zy px pz)) (Qm (Zb px pz) (Zb px pz))).map u64, (Qm (Zb (Qm (Zy px pz) (Zy px pz)) (Qm (Zb px pz) (Zb px pz))) (Zy (Qm (Zy px pz) (Zy px pz)) (Qm ([121665#64, 0#64, 0#64, 0#64, 0#64]) (Zb (Qm (Zy px pz) (Zy px pz)) (Qm (Zb px pz) (Zb px pz)))))).map u64] rfl (Gg u64 _).symm rfl Bg))) ?_
 refine C9 rfl rfl (fun w82 e82 => ?_)
 have m82 := m69.ext e82
 refine Vf.mono (Ju m82 Ce) ?_
 rintro _ w83 ⟨b19, rfl, e83, m83⟩
 refine ⟨e83, ?_⟩
 refine Gf m83 fun w84 m84 => Vd (Gy [(Qm (Qm (Zy px pz) (Zy px pz)) (Qm (Zb px pz) (Zb px pz))).map u64, (Qm (Zb (Qm (Zy px pz) (Zy px pz)) (Qm (Zb px pz) (Zb px pz))) (Zy (Qm (Zy px pz) (Zy px pz)) (Qm ([121665#64, 0#64, 0#64, 0#64, 0#64]) (Zb (Qm (Zy px pz) (Zy px pz)) (Qm (Zb px pz) (Zb px pz)))))).map u64] Ce rfl rfl (Eh (n := 5) (m := 5) (k := 10) (by first | rfl | (rw [bH]; first | omega | (simp; done) | (simp; omega))) (Eh (n := 5) (m := 0) (k := 5) (by first | rfl | (rw [bH]; first | omega | (simp; done) | (simp; omega))) Qdl rfl) rfl) (Ym (Jf Xu _) (Ym (Jf Xu _) U6)) m84.h0 rfl rfl) ?_
 rintro _ w85 uq85
 have m85 : Mem _ _ [(b19, .cells (Qy [(Qm (Qm (Zy px pz) (Zy px pz)) (Qm (Zb px pz) (Zb px pz))).map u64, (Qm (Zb (Qm (Zy px pz) (Zy px pz)) (Qm (Zb px pz) (Zb px pz))) (Zy (Qm (Zy px pz) (Zy px pz)) (Qm ([121665#64, 0#64, 0#64, 0#64, 0#64]) (Zb (Qm (Zy px pz) (Zy px pz)) (Qm (Zb px pz) (Zb px pz)))))).map u64]) 129 (0, 0)), _, _, _, _, _, _, _, _, _, _, _, _, _, _, _, _] := m84.upd0 uq85
 refine rN (Qa ?_)
 refine Jy Xv ?_
 have m86 := (aC [_, _, _, _, _, _, _, _, _, _, _, _, _, _, _, _] [_] _ m85)
 have m87 := (aC [_, _, _, _, _, _, _, _, _, _, _, _, _, _, _, _] [_] _ m86)
 have m88 := (aC [_, _, _, _, _, _, _, _, _, _, _, _, _, _, _, _] [_] _ m87)
 have m89 := (aC [_, _, _, _, _, _, _, _, _, _, _, _, _, _, _] [_] _ m88)
 have m90 := (aC [_, _, _, _, _, _, _, _, _, _, _, _, _, _, _] [_] _ m89)
 have m91 := (aC [_, _, _, _, _, _, _, _, _, _, _, _, _, _, _] [_] _ m90)
 have m92 := (aC [_, _, _, _, _, _, _, _, _, _, _, _, _, _, _] [_] _ m91)
 have m93 := (aC [_, _, _, _, _, _, _, _, _, _, _, _, _, _, _] [_] _ m92)
 have m94 := (aC [_, _, _, _, _, _, _, _, _, _, _, _, _, _, _] [_] _ m93)
 have m95 := (aC [_, _, _, _, _, _, _, _, _, _, _, _, _, _, _] [_] _ m94)
 have m96 := (aC [_, _, _, _, _, _, _, _, _, _, _, _, _, _, _] [_] _ m95)
 have m97 := (aC [_, _, _, _, _, _, _, _, _, _, _, _, _, _, _] [_] _ m96)
 have m98 := (aC [_, _, _, _, _, _, _, _, _, _, _, _, _, _, _] [_] _ m97)
 have m99 := (aC [_, _, _, _, _, _, _, _, _, _, _, _, _, _, _] [_] _ m98)
 have m100 := (aC [_, _, _, _, _, _, _, _, _, _, _, _, _, _, _] [_] _ m99)
 have m101 := (aC [_, _, _, _, _, _, _, _, _, _, _, _, _, _, _] [_] _ m100)
 have m102 := (aC [_, _, _, _, _, _, _, _, _, _, _, _, _, _, _, _] [_] _ m101)
 have hFM103 : Mem w85 (Qs w0) ([(b6, .cells #[(u64 0), (u64 0), (u64 0), (u64 0), (u64 0), (u64 0), (u64 0), (u64 0), (u64 0), (u64 0)] 129 (0, 0))] ++ [(b19, .cells (Qy [(Qm (Qm (Zy px pz) (Zy px pz)) (Qm (Zb px pz) (Zb px pz))).map u64, (Qm (Zb (Qm (Zy px pz) (Zy px pz)) (Qm (Zb px pz) (Zb px pz))) (Zy (Qm (Zy px pz) (Zy px pz)) (Qm ([121665#64, 0#64, 0#64, 0#64, 0#64]) (Zb (Qm (Zy px pz) (Zy px pz)) (Qm (Zb px pz) (Zb px pz)))))).map u64]) 129 (0, 0)), (b17, .cells (cl u64 (Zy (Qm (Zb qx qz) (Zy px pz)) (Qm (Zy qx qz) (Zb px pz)))) 126 (0, 0)), (b18, .cells (cl u64 (Zb (Qm (Zb qx qz) (Zy px pz)) (Qm (Zy qx qz) (Zb px pz)))) 126 (0, 0)), (b16, .cells (cl u64 (Zb (Qm (Zy px pz) (Zy px pz)) (Qm (Zb px pz) (Zb px pz)))) 126 (0, 0)), (b14, .cells (cl u64 (Qm (Zy px pz) (Zy px pz))) 126 (0, 0)), (b15, .cells (cl u64 (Qm (Zb px pz) (Zb px pz))) 126 (0, 0)), (b12, .cells (cl u64 (Qm (Zb qx qz) (Zy px pz))) 126 (0, 0)), (b13, .cells (cl u64 (Qm (Zy qx qz) (Zb px pz))) 126 (0, 0)), (b10, .cells (cl u64 (Zy qx qz)) 126 (0, 0)), (b11, .cells (cl u64 (Zb qx qz)) 126 (0, 0)), (b8, .cells (cl u64 (Zy px pz)) 126 (0, 0)), (b9, .cells (cl u64 (Zb px pz)) 126 (0, 0)), (b7, .cells #[(u64 0), (u64 0), (u64 0), (u64 0), (u64 0), (u64 0), (u64 0), (u64 0), (u64 0), (u64 0)] 129 (0, 0)), (b5, .cells (cl u64 x1) 126 (0, 0)), (b4, .cells (Qy [qx.map u64, qz.map u64]) 129 (0, 0)), (b3, .cells (Qy [px.map u64, pz.map u64]) 129 (0, 0))]) := m102
 obtain ⟨RM103, hRM103⟩ : ∃ R2, R2 = Rest.add (Qs w0) [(b19, .cells (Qy [(Qm (Qm (Zy px pz) (Zy px pz)) (Qm (Zb px pz) (Zb px pz))).map u64, (Qm (Zb (Qm (Zy px pz) (Zy px pz)) (Qm (Zb px pz) (Zb px pz))) (Zy (Qm (Zy px pz) (Zy px pz)) (Qm ([121665#64, 0#64, 0#64, 0#64, 0#64]) (Zb (Qm (Zy px pz) (Zy px pz)) (Qm (Zb px pz) (Zb px pz)))))).map u64]) 129 (0, 0)), (b17, .cells (cl u64 (Zy (Qm (Zb qx qz) (Zy px pz)) (Qm (Zy qx qz) (Zb px pz)))) 126 (0, 0)), (b18, .cells (cl u64 (Zb (Qm (Zb qx qz) (Zy px pz)) (Qm (Zy qx qz) (Zb px pz)))) 126 (0, 0)), (b16, .cells (cl u64 (Zb (Qm (Zy px pz) (Zy px pz)) (Qm (Zb px pz) (Zb px pz)))) 126 (0, 0)), (b14, .cells (cl u64 (Qm (Zy px pz) (Zy px pz))) 126 (0, 0)), (b15, .cells (cl u64 (Qm (Zb px pz) (Zb px pz))) 126 (0, 0)), (b12, .cells (cl u64 (Qm (Zb qx qz) (Zy px pz))) 126 (0, 0)), (b13, .cells (cl u64 (Qm (Zy qx qz) (Zb px pz))) 126 (0, 0)), (b10, .cells (cl u64 (Zy qx qz)) 126 (0, 0)), (b11, .cells (cl u64 (Zb qx qz)) 126 (0, 0)), (b8, .cells (cl u64 (Zy px pz)) 126 (0, 0)), (b9, .cells (cl u64 (Zb px pz)) 126 (0, 0)), (b7, .cells #[(u64 0), (u64 0), (u64 0), (u64 0), (u64 0), (u64 0), (u64 0), (u64 0), (u64 0), (u64 0)] 129 (0, 0)), (b5, .cells (cl u64 x1) 126 (0, 0)), (b4, .cells (Qy [qx.map u64, qz.map u64]) 129 (0, 0)), (b3, .cells (Qy [px.map u64, pz.map u64]) 129 (0, 0))] := ⟨_, rfl⟩
 have M1030 : Mem w85 RM103 [(b6, .cells #[(u64 0), (u64 0), (u64 0), (u64 0), (u64 0), (u64 0), (u64 0), (u64 0), (u64 0), (u64 0)] 129 (0, 0))] := by rw [hRM103]; exact Mem.give hFM103
 have ho104 : RM103.blk b19 = some (.cells (Qy [(Qm (Qm (Zy px pz) (Zy px pz)) (Qm (Zb px pz) (Zb px pz))).map u64, (Qm (Zb (Qm (Zy px pz) (Zy px pz)) (Qm (Zb px pz) (Zb px pz))) (Zy (Qm (Zy px pz) (Zy px pz)) (Qm ([121665#64, 0#64, 0#64, 0#64, 0#64]) (Zb (Qm (Zy px pz) (Zy px pz)) (Qm (Zb px pz) (Zb px pz)))))).map u64]) 129 (0, 0)) := by rw [hRM103]; exact ae hFM103 (aU _)
 have ho105 : RM103.blk b17 = some (.cells (cl u64 (Zy (Qm (Zb qx qz) (Zy px pz)) (Qm (Zy qx qz) (Zb px pz)))) 126 (0, 0)) := by rw [hRM103]; exact ae hFM103 (aH _ (aU _))
 have ho106 : RM103.blk b18 = some (.cells (cl u64 (Zb (Qm (Zb qx qz) (Zy px pz)) (Qm (Zy qx qz) (Zb px pz)))) 126 (0, 0)) := by rw [hRM103]; exact ae hFM103 (aH _ (aH _ (aU _)))
 have ho107 : RM103.blk b16 = some (.cells (cl u64 (Zb (Qm (Zy px pz) (Zy px pz)) (Qm (Zb px pz) (Zb px pz)))) 126 (0, 0)) := by rw [hRM103]; exact ae hFM103 (aH _ (aH _ (aH _ (aU _))))
 have ho108 : RM103.blk b14 = some (.cells (cl u64 (Qm (Zy px pz) (Zy px pz))) 126 (0, 0)) := by rw [hRM103]; exact ae hFM103 (aH _ (aH _ (aH _ (aH _ (aU _)))))
 have ho109 : RM103.blk b15 = some (.cells (cl u64 (Qm (Zb px pz) (Zb px pz))) 126 (0, 0)) := by rw [hRM103]; exact ae hFM103 (aH _ (aH _ (aH _ (aH _ (aH _ (aU _))))))
 have ho110 : RM103.blk b12 = some (.cells (cl u64 (Qm (Zb qx qz) (Zy px pz))) 126 (0, 0)) := by rw [hRM103]; exact ae hFM103 (aH _ (aH _ (aH _ (aH _ (aH _ (aH _ (aU _)))))))
 have ho111 : RM103.blk b13 = some (.cells (cl u64 (Qm (Zy qx qz) (Zb px pz))) 126 (0, 0)) := by rw [hRM103]; exact ae hFM103 (aH _ (aH _ (aH _ (aH _ (aH _ (aH _ (aH _ (aU _))))))))
 have ho112 : RM103.blk b10 = some (.cells (cl u64 (Zy qx qz)) 126 (0, 0)) := by rw [hRM103]; exact ae hFM103 (aH _ (aH _ (aH _ (aH _ (aH _ (aH _ (aH _ (aH _ (aU _)))))))))
 have ho113 : RM103.blk b11 = some (.cells (cl u64 (Zb qx qz)) 126 (0, 0)) := by rw [hRM103]; exact ae hFM103 (aH _ (aH _ (aH _ (aH _ (aH _ (aH _ (aH _ (aH _ (aH _ (aU _))))))))))
 have ho114 : RM103.blk b8 = some (.cells (cl u64 (Zy px pz)) 126 (0, 0)) := by rw [hRM103]; exact ae hFM103 (aH _ (aH _ (aH _ (aH _ (aH _ (aH _ (aH _ (aH _ (aH _ (aH _ (aU _)))))))))))
 have ho115 : RM103.blk b9 = some (.cells (cl u64 (Zb px pz)) 126 (0, 0)) := by rw [hRM103]; exact ae hFM103 (aH _ (aH _ (aH _ (aH _ (aH _ (aH _ (aH _ (aH _ (aH _ (aH _ (aH _ (aU _))))))))))))
 have ho116 : RM103.blk b7 = some (.cells #[(u64 0), (u64 0), (u64 0), (u64 0), (u64 0), (u64 0), (u64 0), (u64 0), (u64 0), (u64 0)] 129 (0, 0)) := by rw [hRM103]; exact ae hFM103 (aH _ (aH _ (aH _ (aH _ (aH _ (aH _ (aH _ (aH _ (aH _ (aH _ (aH _ (aH _ (aU _)))))))))))))
 have ho117 : RM103.blk b5 = some (.cells (cl u64 x1) 126 (0, 0)) := by rw [hRM103]; exact ae hFM103 (aH _ (aH _ (aH _ (aH _ (aH _ (aH _ (aH _ (aH _ (aH _ (aH _ (aH _ (aH _ (aH _ (aU _))))))))))))))
 have ho118 : RM103.blk b4 = some (.cells (Qy [qx.map u64, qz.map u64]) 129 (0, 0)) := by rw [hRM103]; exact ae hFM103 (aH _ (aH _ (aH _ (aH _ (aH _ (aH _ (aH _ (aH _ (aH _ (aH _ (aH _ (aH _ (aH _ (aH _ (aU _)))))))))))))))
 have ho119 : RM103.blk b3 = some (.cells (Qy [px.map u64, pz.map u64]) 129 (0, 0)) := by rw [hRM103]; exact ae hFM103 (aH _ (aH _ (aH _ (aH _ (aH _ (aH _ (aH _ (aH _ (aH _ (aH _ (aH _ (aH _ (aH _ (aH _ (aH _ (aU _))))))))))))))))
 refine Dk M1030 [(0, false), (1, false), (2, false), (3, false), (4, false), (5, false), (6, false), (7, false), (8, false), (9, false), (10, true)] 11 rfl Xv <| yqH rfl (fun w _H _hx => Ky Hy Ce rfl (_hx.rest _ _ ho104)) <| yqH rfl (fun w _H _hx => Qn Xp rfl Yq rfl (_hx.rest _ _ ho105) sZ) <| yqH rfl (fun w _H _hx => Qn Xp rfl Yq rfl (_hx.rest _ _ ho105) sZ) <| dk_x rfl rfl (fun w120 _Hw120 _hw120 => Qhf (Xl rfl rfl) (Dx _ _ _ sD sD)) <| yqH rfl (fun w _H _hx => Qn Xp rfl Yq s5 (_hx.rest _ _ ho117) sZ) <| yqH rfl (fun w _H _hx => Qn Xp rfl Yq rfl (_hx.rest _ _ ho106) sZ) <| yqH rfl (fun w _H _hx => Qn Xp rfl Yq rfl (_hx.rest _ _ ho106) sZ) <| dk_x rfl rfl (fun w123 _Hw123 _hw123 => Qhf (Xl rfl rfl) (Dx _ _ _ sD sD)) <| dk_x rfl rfl (fun w126 _Hw126 _hw126 => Qhf (Xl rfl rfl) (Dx _ _ _ sD sD)) <| N8 rfl (Ws (c := (Qy [(Qm (Zy (Qm (Zb qx qz) (Zy px pz)) (Qm (Zy qx qz) (Zb px pz))) (Zy (Qm (Zb qx qz) (Zy px pz)) (Qm (Zy qx qz) (Zb px pz)))).map u64, (Qm x1 (Qm (Zb (Qm (Zb qx qz) (Zy px pz)) (Qm (Zy qx qz) (Zb px pz))) (Zb (Qm (Zb qx qz) (Zy px pz)) (Qm (Zy qx qz) (Zb px pz))))).map u64])) (pl := [(0, 5), (5, 5)]) Ce Hy Xv (Jp (i := 0) (v := (agg u64 (Qm (Zy (Qm (Zb qx qz) (Zy px pz)) (Qm (Zy qx qz) (Zb px pz))) (Zy (Qm (Zb qx qz) (Zy px pz)) (Qm (Zy qx qz) (Zb px pz)))))) (cs := (cl u64 (Qm (Zy (Qm (Zb qx qz) (Zy px pz)) (Qm (Zy qx qz) (Zb px pz))) (Zy (Qm (Zb qx qz) (Zy px pz)) (Qm (Zy qx qz) (Zb px pz)))))) rfl rfl (Jp (i := 1) (v := (agg u64 (Qm x1 (Qm (Zb (Qm (Zb qx qz) (Zy px pz)) (Qm (Zy qx qz) (Zb px pz))) (Zb (Qm (Zb qx qz) (Zy px pz)) (Qm (Zy qx qz) (Zb px pz))))))) (cs := (cl u64 (Qm x1 (Qm (Zb (Qm (Zb qx qz) (Zy px pz)) (Qm (Zy qx qz) (Zb px pz))) (Zb (Qm (Zb qx qz) (Zy px pz)) (Qm (Zy qx qz) (Zb px pz))))))) rfl rfl Vt)) (Vx (L := [(aA 5 0).map u64, (aA 5 0).map u64]) 0 [(Qm (Zy (Qm (Zb qx qz) (Zy px pz)) (Qm (Zy qx qz) (Zb px pz))) (Zy (Qm (Zb qx qz) (Zy px pz)) (Qm (Zy qx qz) (Zb px pz)))).map u64, (aA 5 0).map u64] rfl (Gg u64 _).symm rfl (Vx 1 [(Qm (Zy (Qm (Zb qx qz) (Zy px pz)) (Qm (Zy qx qz) (Zb px pz))) (Zy (Qm (Zb qx qz) (Zy px pz)) (Qm (Zy qx qz) (Zb px pz)))).map u64, (Qm x1 (Qm (Zb (Qm (Zb qx qz) (Zy px pz)) (Qm (Zy qx qz) (Zb px pz))) (Zb (Qm (Zb qx qz) (Zy px pz)) (Qm (Zy qx qz) (Zb px pz))))).map u64] rfl (Gg u64 _).symm rfl Bg))) ?_
 refine Qhn rfl (fun w129 e129 => ?_)
 have m129 := M1030.ext e129
 refine Vf.mono (Gy [(Qm (Qm (Zy px pz) (Zy px pz)) (Qm (Zb px pz) (Zb px pz))).map u64, (Qm (Zb (Qm (Zy px pz) (Zy px pz)) (Qm (Zb px pz) (Zb px pz))) (Zy (Qm (Zy px pz) (Zy px pz)) (Qm ([121665#64, 0#64, 0#64, 0#64, 0#64]) (Zb (Qm (Zy px pz) (Zy px pz)) (Qm (Zb px pz) (Zb px pz)))))).map u64] Ce s6 rfl (Eh (n := 5) (m := 5) (k := 10) (by first | rfl | (rw [bH]; first | omega | (simp; done) | (simp; omega))) (Eh (n := 5) (m := 0) (k := 5) (by first | rfl | (rw [bH]; first | omega | (simp; done) | (simp; omega))) Qdl rfl) rfl) (Ym (Jf Xu _) (Ym (Jf Xu _) U6)) m129.h0 rfl rfl) ?_
 rintro _ w130 uq130
 have m130 : Mem _ _ [(b6, .cells (Qy [(Qm (Qm (Zy px pz) (Zy px pz)) (Qm (Zb px pz) (Zb px pz))).map u64, (Qm (Zb (Qm (Zy px pz) (Zy px pz)) (Qm (Zb px pz) (Zb px pz))) (Zy (Qm (Zy px pz) (Zy px pz)) (Qm ([121665#64, 0#64, 0#64, 0#64, 0#64]) (Zb (Qm (Zy px pz) (Zy px pz)) (Qm (Zb px pz) (Zb px pz)))))).map u64]) 129 (0, 0))] := m129.upd0 uq130
 refine ⟨⟨_, m130⟩, ?_⟩
 refine Gf m130 fun w131 m131 => ?_
 have hX132 := m131
 rw [hRM103] at hX132
 have m133 : Mem w131 (Qs w0) [(b6, .cells (Qy [(Qm (Qm (Zy px pz) (Zy px pz)) (Qm (Zb px pz) (Zb px pz))).map u64, (Qm (Zb (Qm (Zy px pz) (Zy px pz)) (Qm (Zb px pz) (Zb px pz))) (Zy (Qm (Zy px pz) (Zy px pz)) (Qm ([121665#64, 0#64, 0#64, 0#64, 0#64]) (Zb (Qm (Zy px pz) (Zy px pz)) (Qm (Zb px pz) (Zb px pz)))))).map u64]) 129 (0, 0)), (b19, .cells (Qy [(Qm (Qm (Zy px pz) (Zy px pz)) (Qm (Zb px pz) (Zb px pz))).map u64, (Qm (Zb (Qm (Zy px pz) (Zy px pz)) (Qm (Zb px pz) (Zb px pz))) (Zy (Qm (Zy px pz) (Zy px pz)) (Qm ([121665#64, 0#64, 0#64, 0#64, 0#64]) (Zb (Qm (Zy px pz) (Zy px pz)) (Qm (Zb px pz) (Zb px pz)))))).map u64]) 129 (0, 0)), (b17, .cells (cl u64 (Zy (Qm (Zb qx qz) (Zy px pz)) (Qm (Zy qx qz) (Zb px pz)))) 126 (0, 0)), (b18, .cells (cl u64 (Zb (Qm (Zb qx qz) (Zy px pz)) (Qm (Zy qx qz) (Zb px pz)))) 126 (0, 0)), (b16, .cells (cl u64 (Zb (Qm (Zy px pz) (Zy px pz)) (Qm (Zb px pz) (Zb px pz)))) 126 (0, 0)), (b14, .cells (cl u64 (Qm (Zy px pz) (Zy px pz))) 126 (0, 0)), (b15, .cells (cl u64 (Qm (Zb px pz) (Zb px pz))) 126 (0, 0)), (b12, .cells (cl u64 (Qm (Zb qx qz) (Zy px pz))) 126 (0, 0)), (b13, .cells (cl u64 (Qm (Zy qx qz) (Zb px pz))) 126 (0, 0)), (b10, .cells (cl u64 (Zy qx qz)) 126 (0, 0)), (b11, .cells (cl u64 (Zb qx qz)) 126 (0, 0)), (b8, .cells (cl u64 (Zy px pz)) 126 (0, 0)), (b9, .cells (cl u64 (Zb px pz)) 126 (0, 0)), (b7, .cells #[(u64 0), (u64 0), (u64 0), (u64 0), (u64 0), (u64 0), (u64 0), (u64 0), (u64 0), (u64 0)] 129 (0, 0)), (b5, .cells (cl u64 x1) 126 (0, 0)), (b4, .cells (Qy [qx.map u64, qz.map u64]) 129 (0, 0)), (b3, .cells (Qy [px.map u64, pz.map u64]) 129 (0, 0))] := ymA (Mem.back hFM103 hX132)
 refine Vd (Gy [(Qm (Zy (Qm (Zb qx qz) (Zy px pz)) (Qm (Zy qx qz) (Zb px pz))) (Zy (Qm (Zb qx qz) (Zy px pz)) (Qm (Zy qx qz) (Zb px pz)))).map u64, (Qm x1 (Qm (Zb (Qm (Zb qx qz) (Zy px pz)) (Qm (Zy qx qz) (Zb px pz))) (Zb (Qm (Zb qx qz) (Zy px pz)) (Qm (Zy qx qz) (Zb px pz))))).map u64] Ce s7 rfl (Eh (n := 5) (m := 5) (k := 10) (by first | rfl | (rw [bH]; first | omega | (simp; done) | (simp; omega))) (Eh (n := 5) (m := 0) (k := 5) (by first | rfl | (rw [bH]; first | omega | (simp; done) | (simp; omega))) Qdl rfl) rfl) (Ym (Jf Xu _) (Ym (Jf Xu _) U6)) ((aC [_, _, _, _, _, _, _, _, _, _, _, _, _] [_] _ m133)).h0 rfl rfl) ?_
 rintro _ w134 uq134
 have m134 : Mem _ _ [(b7, .cells (Qy [(Qm (Zy (Qm (Zb qx qz) (Zy px pz)) (Qm (Zy qx qz) (Zb px pz))) (Zy (Qm (Zb qx qz) (Zy px pz)) (Qm (Zy qx qz) (Zb px pz)))).map u64, (Qm x1 (Qm (Zb (Qm (Zb qx qz) (Zy px pz)) (Qm (Zy qx qz) (Zb px pz))) (Zb (Qm (Zb qx qz) (Zy px pz)) (Qm (Zy qx qz) (Zb px pz))))).map u64]) 129 (0, 0)), _, _, _, _, _, _, _, _, _, _, _, _, _, _, _, _] := Mem.upd0 (aC [_, _, _, _, _, _, _, _, _, _, _, _, _] [_] _ m133) uq134
 refine rN (Z8 ?_)
 refine Qq [(aO (Qy [(Qm (Qm (Zy px pz) (Zy px pz)) (Qm (Zb px pz) (Zb px pz))).map u64, (Qm (Zb (Qm (Zy px pz) (Zy px pz)) (Qm (Zb px pz) (Zb px pz))) (Zy (Qm (Zy px pz) (Zy px pz)) (Qm ([121665#64, 0#64, 0#64, 0#64, 0#64]) (Zb (Qm (Zy px pz) (Zy px pz)) (Qm (Zb px pz) (Zb px pz)))))).map u64])), (aO (Qy [(Qm (Zy (Qm (Zb qx qz) (Zy px pz)) (Qm (Zy qx qz) (Zb px pz))) (Zy (Qm (Zb qx qz) (Zy px pz)) (Qm (Zy qx qz) (Zb px pz)))).map u64, (Qm x1 (Qm (Zb (Qm (Zb qx qz) (Zy px pz)) (Qm (Zy qx qz) (Zb px pz))) (Zb (Qm (Zb qx qz) (Zy px pz)) (Qm (Zy qx qz) (Zb px pz))))).map u64]))] ⟨⟨_, s6, Jq Hy Ce m134.h1⟩, ⟨_, s7, Jq Hy Ce m134.h0⟩, trivial⟩ ?_
 exact ⟨by unfold Ad; rfl, m134.toExt⟩
theorem c_clamp5 (k : Z4) (w0 : World)  (hk : k.length = 32) : Xz prog 78 #[(agg u8 k)] w0 (fun r w1 => r = (agg u8 (Y3 k)) ∧ Ext w0 w1) := by
 refine Qz (args := [(agg u8 k)]) func78 rfl ntmps78 results78 rfl ?_
 have m0 : Mem w0 (Qs w0) [] := aY w0
 refine sR <| Y5 (Z5 (f := u8) (l := k) m0 rfl) fun w1 b1 m1 => Y5 (Q7 m1 Zh) fun w2 b2 m2 => ?_
 refine rN (sR ?_)
 refine Qd (Xr 0 0 Xn Yr rfl) <| Qd (Qi V3 rfl rfl m2.h1 (Qu _ _ 0 sD)) <| Qd (Qgk (b := 7#8) rfl rfl) <| Qd (Xr 0 0 Xn Yr rfl) <| Vs m2 (Xw (f := u8) (a := (k.getD 0 0) &&& ~~~7#8) Qr Yr rfl rfl m2.h1 sD (.inl (aJ _))) fun w3 m3 => ?_
 refine rN (sR ?_)
 refine Qd (Xr 31 31 Xn Yr rfl) <| Qd (Qi V3 rfl rfl m3.h1 (Qu _ _ 0 sD)) <| Qd (Qgk (b := 128#8) rfl rfl) <| Qd (Qgj (b := 64#8) rfl rfl) <| Qd (Xr 31 31 Xn Yr rfl) <| Vs m3 (Xw (f := u8) (a := (((k.set 0 ((k.getD 0 0) &&& ~~~7#8)).getD 31 0) &&& ~~~128#8) ||| 64#8) Qr Yr rfl rfl m3.h1 sD (.inl (aJ _))) fun w4 m4 => ?_
 refine rN (sR ?_)
 refine Qd (Qn Xn rfl Zh rfl m4.h1 sZ) <| Ye m4 (Qg (f := u8) (l := (k.set 0 ((k.getD 0 0) &&& ~~~7#8)).set 31 ((((k.set 0 ((k.getD 0 0) &&& ~~~7#8)).getD 31 0) &&& ~~~128#8) ||| 64#8)) Qr Zh rfl rfl sD m4.h0 sZ rfl) fun w5 m5 => ?_
 refine rN (Z8 ?_)
 refine Qq [(agg u8 ((k.set 0 ((k.getD 0 0) &&& ~~~7#8)).set 31 ((((k.set 0 ((k.getD 0 0) &&& ~~~7#8)).getD 31 0) &&& ~~~128#8) ||| 64#8)))] ⟨⟨_, rfl, Xm Xn rfl Zh m5.h0 sZ⟩, trivial⟩ ?_
 exact ⟨by unfold Y3; rfl, m5.toExt⟩
set_option maxHeartbeats 1000000 in
theorem Qi6 (ky u : Z4) (w0 : World)  (hk : ky.length = 32) (hu : u.length = 32) : Xz prog 57 #[(agg u8 ky), (agg u8 u)] w0 (fun r w1 => r = (agg u8 (Zu ky u)) ∧ Ext w0 w1) := by
 refine Qz (args := [(agg u8 ky), (agg u8 u)]) func57 rfl ntmps57 results57 rfl ?_
 have m0 : Mem w0 (Qs w0) [] := aY w0
 have hcl := Qk6 ky
 have hrl : (Je u).length = 5 := by unfold Je; exact H5 u 255
 refine sR <| Y5 (Z5 (f := u8) (l := ky) m0 rfl) fun w1 b2 m1 => Y5 (Z5 (f := u8) (l := u) m1 rfl) fun w2 b3 m2 => Y5 (Q7 m2 Zh) fun w3 b4 m3 => ?_
 refine rN (sR ?_)
 refine Qd (Qn Xn rfl Zh rfl m3.h2 sZ) <| U5 m3 (oc78 (Jz rfl) (c_clamp5 _ _ sD)) fun w4 m4 => Bj m4 (Qg (f := u8) (l := Y3 ky) Qr Zh rfl rfl sD m4.h2 sZ rfl) fun w6 m6 => ?_
 refine rN (sR ?_)
 refine Qd (Qn Xn rfl Zh rfl m6.h1 sZ) <| U5 m6 (oc79 (Jz rfl) (c_cread _ _ sD)) fun w7 m7 => Y5 (Q7 m7 Yq) fun w9 b5 m9 => Ye m9 (Qg (f := u64) (l := Je u) Xu Yq rfl rfl sD m9.h0 sZ rfl) fun w10 m10 => ?_
 refine rN (Qa ?_)
 refine Ri (J := fun g wv => ∃ (c6 c7 : Nat), g 0 = (agg u8 ky) ∧ g 1 = (agg u8 u) ∧ g 2 = (ptr b2 0) ∧ g 3 = (ptr b3 0) ∧ g 4 = (ptr b4 0) ∧ g 5 = (ptr b5 0) ∧ g 6 = (ptr c6 0) ∧ g 7 = (ptr c7 0) ∧ Mem wv (Qs w0) [(c6, .cells (Qy [([1#64, 0#64, 0#64, 0#64, 0#64]).map u64, ([0#64, 0#64, 0#64, 0#64, 0#64]).map u64]) 129 (0, 0)), (c7, .cells (Qy [(Je u).map u64, ([1#64, 0#64, 0#64, 0#64, 0#64]).map u64]) 129 (0, 0)), (b5, .cells (cl u64 (Je u)) 126 (0, 0)), (b4, .cells (cl u8 (aA 32 0)) 23 (0, 0)), (b3, .cells (cl u8 u) 23 (0, 0)), (b2, .cells (cl u8 (Y3 ky)) 23 (0, 0))]) ?_ ?_
 ·skip
  refine Jy Xv ?_
  have hFM11 : Mem w10 (Qs w0) ([] ++ [(b5, .cells (cl u64 (Je u)) 126 (0, 0)), (b4, .cells (cl u8 (aA 32 0)) 23 (0, 0)), (b3, .cells (cl u8 u) 23 (0, 0)), (b2, .cells (cl u8 (Y3 ky)) 23 (0, 0))]) := m10
  obtain ⟨RM11, hRM11⟩ : ∃ R2, R2 = Rest.add (Qs w0) [(b5, .cells (cl u64 (Je u)) 126 (0, 0)), (b4, .cells (cl u8 (aA 32 0)) 23 (0, 0)), (b3, .cells (cl u8 u) 23 (0, 0)), (b2, .cells (cl u8 (Y3 ky)) 23 (0, 0))] := ⟨_, rfl⟩
  have M110 : Mem w10 RM11 [] := by rw [hRM11]; exact Mem.give hFM11
  have ho12 : RM11.blk b5 = some (.cells (cl u64 (Je u)) 126 (0, 0)) := by rw [hRM11]; exact ae hFM11 (aU _)
  have ho13 : RM11.blk b4 = some (.cells (cl u8 (aA 32 0)) 23 (0, 0)) := by rw [hRM11]; exact ae hFM11 (aH _ (aU _))
  have ho14 : RM11.blk b3 = some (.cells (cl u8 u) 23 (0, 0)) := by rw [hRM11]; exact ae hFM11 (aH _ (aH _ (aU _)))
  have ho15 : RM11.blk b2 = some (.cells (cl u8 (Y3 ky)) 23 (0, 0)) := by rw [hRM11]; exact ae hFM11 (aH _ (aH _ (aH _ (aU _))))
  refine re_alM [5, 6] (dl 5) [(7, true)] 8 (luN [(5, 6), (6, 7)]) (luN [(5, 129), (6, 129)]) (luV [(5, (aO #[(u64 0), (u64 0), (u64 0), (u64 0), (u64 0), (u64 0), (u64 0), (u64 0), (u64 0), (u64 0)])), (6, (aO #[(u64 0), (u64 0), (u64 0), (u64 0), (u64 0), (u64 0), (u64 0), (u64 0), (u64 0), (u64 0)]))]) (fun g => g 0 = (agg u8 ky) ∧ g 1 = (agg u8 u) ∧ g 2 = (ptr b2 0) ∧ g 3 = (ptr b3 0) ∧ g 4 = (ptr b4 0) ∧ g 5 = (ptr b5 0) ∧ g 14 = (aO #[(u64 1#64), (u64 0#64), (u64 0#64), (u64 0#64), (u64 0#64), (u64 0), (u64 0), (u64 0), (u64 0), (u64 0)]) ∧ g 17 = (aO (Qy [(Je u).map u64, ([1#64, 0#64, 0#64, 0#64, 0#64]).map u64])) ∧ True) M110 (Wq ⟨⟨_, _, _, rfl⟩, rfl, _, _, Ce⟩ (Wq ⟨⟨_, _, _, rfl⟩, rfl, _, _, Ce⟩ Sz)) (fun sx16 hS16 => ?_) ?_
  ·skip
   refine N8 rfl (Gq (c := (cl u64 ([1#64, 0#64, 0#64, 0#64, 0#64]))) Yq Xp Xq (Jp (i := 0) (v := (u64 1#64)) (cs := #[(u64 1#64)]) rfl rfl Vt) Xv) <| N8 rfl (Ws (c := #[(u64 1#64), (u64 0#64), (u64 0#64), (u64 0#64), (u64 0#64), (u64 0), (u64 0), (u64 0), (u64 0), (u64 0)]) (pl := [(0, 5), (5, 5)]) Ce Hy Xv (Jp (i := 0) (v := (agg u64 ([1#64, 0#64, 0#64, 0#64, 0#64]))) (cs := (cl u64 ([1#64, 0#64, 0#64, 0#64, 0#64]))) rfl rfl Vt) Xv) <| yqH rfl (fun w _H _hx => Qn Xp rfl Yq rfl (_hx.rest _ _ ho12) sZ) <| N8 rfl (Gq (c := (cl u64 ([1#64, 0#64, 0#64, 0#64, 0#64]))) Yq Xp Xq (Jp (i := 0) (v := (u64 1#64)) (cs := #[(u64 1#64)]) rfl rfl Vt) Xv) <| N8 rfl (Ws (c := (Qy [(Je u).map u64, ([1#64, 0#64, 0#64, 0#64, 0#64]).map u64])) (pl := [(0, 5), (5, 5)]) Ce Hy Xv (Jp (i := 0) (v := (agg u64 (Je u))) (cs := (cl u64 (Je u))) rfl rfl (Jp (i := 1) (v := (agg u64 ([1#64, 0#64, 0#64, 0#64, 0#64]))) (cs := (cl u64 ([1#64, 0#64, 0#64, 0#64, 0#64]))) rfl rfl Vt)) (Vx (L := [(aA 5 0).map u64, (aA 5 0).map u64]) 0 [(Je u).map u64, (aA 5 0).map u64] rfl (Gg u64 _).symm rfl (Vx 1 [(Je u).map u64, ([1#64, 0#64, 0#64, 0#64, 0#64]).map u64] rfl (Gg u64 _).symm rfl Bg))) ?_
   exact hS16 _ ⟨rfl, rfl, rfl, rfl, rfl, rfl, rfl, rfl, trivial⟩
  rintro g17 ⟨s0, s1, s2, s3, s4, s5, s14, s17, _⟩ w19 ps19 hmm19
  have m19 : Mem _ _ [((ps19 5), .cells #[(u64 0), (u64 0), (u64 0), (u64 0), (u64 0), (u64 0), (u64 0), (u64 0), (u64 0), (u64 0)] 129 (0, 0)), ((ps19 6), .cells #[(u64 0), (u64 0), (u64 0), (u64 0), (u64 0), (u64 0), (u64 0), (u64 0), (u64 0), (u64 0)] 129 (0, 0))] := hmm19
  show DW _ _ _ _ _ _ _ (upd (upd g17 7 (ptr (ps19 6) 0)) 6 (ptr (ps19 5) 0)) _
  generalize ps19 5 = b6, ps19 6 = b7 at m19 ⊢
  refine Qhn rfl (fun w20 e20 => ?_)
  have m20 := m19.ext e20
  refine Vf.mono (Qhb (cs := #[(u64 1#64), (u64 0#64), (u64 0#64), (u64 0#64), (u64 0#64), (u64 0), (u64 0), (u64 0), (u64 0), (u64 0)]) Ce rfl s14 Xv (Qm6 (X0 (Xu _) (X0 (Xu _) (X0 (Xu _) (X0 (Xu _) (X0 (Xu _) (X0 (Xu _) (X0 (Xu _) (X0 (Xu _) (X0 (Xu _) (X0 (Xu _) J6))))))))))) m20.h0 Xv rfl) ?_
  rintro _ w21 uq21
  have m21 : Mem _ _ [(b6, .cells #[(u64 1#64), (u64 0#64), (u64 0#64), (u64 0#64), (u64 0#64), (u64 0), (u64 0), (u64 0), (u64 0), (u64 0)] 129 (0, 0)), _] := m20.upd0 uq21
  refine ⟨⟨_, m21⟩, ?_⟩
  refine Gf m21 fun w22 m22 => ?_
  have hX23 := m22
  rw [hRM11] at hX23
  have m24 : Mem w22 (Qs w0) [(b6, .cells #[(u64 1#64), (u64 0#64), (u64 0#64), (u64 0#64), (u64 0#64), (u64 0), (u64 0), (u64 0), (u64 0), (u64 0)] 129 (0, 0)), (b7, .cells #[(u64 0), (u64 0), (u64 0), (u64 0), (u64 0), (u64 0), (u64 0), (u64 0), (u64 0), (u64 0)] 129 (0, 0)), (b5, .cells (cl u64 (Je u)) 126 (0, 0)), (b4, .cells (cl u8 (aA 32 0)) 23 (0, 0)), (b3, .cells (cl u8 u) 23 (0, 0)), (b2, .cells (cl u8 (Y3 ky)) 23 (0, 0))] := ymA (Mem.back hFM11 hX23)
  refine Vd (Gy [(Je u).map u64, ([1#64, 0#64, 0#64, 0#64, 0#64]).map u64] Ce rfl s17 (Eh (n := 5) (m := 5) (k := 10) (by first | rfl | (rw [bH]; first | omega | (simp; done) | (simp; omega))) (Eh (n := 5) (m := 0) (k := 5) (by first | rfl | (rw [bH]; first | omega | (simp; done) | (simp; omega))) Qdl rfl) rfl) (Ym (Jf Xu _) (Ym (Jf Xu _) U6)) m24.h1 rfl rfl) ?_
  rintro _ w25 uq25
  have m25 : Mem _ _ [_, (b7, .cells (Qy [(Je u).map u64, ([1#64, 0#64, 0#64, 0#64, 0#64]).map u64]) 129 (0, 0)), _, _, _, _] := m24.upd1 uq25
  refine rN ?_
  exact ⟨b6, b7, s0, s1, s2, s3, s4, s5, rfl, rfl, m25⟩
 rintro fr26 w27 ⟨c6, c7, s0, s1, s2, s3, s4, s5, s6, s7, m27⟩
 refine Qa (sR ?_)
 refine Zx (i64 254) ?_
 refine rN (Qh ?_)
 refine Y1 (fun g wv => ∃ (j : Nat), (j ≤ 255) ∧ g 0 = (agg u8 ky) ∧ g 1 = (agg u8 u) ∧ g 2 = (ptr b2 0) ∧ g 3 = (ptr b3 0) ∧ g 4 = (ptr b4 0) ∧ g 5 = (ptr b5 0) ∧ g 6 = (ptr c6 0) ∧ g 7 = (ptr c7 0) ∧ g 8 = (i64 (254 - (j : Int))) ∧ Mem wv (Qs w0) [(c6, .cells (Qy [((Jk (Y3 ky) (Je u) j).px).map u64, ((Jk (Y3 ky) (Je u) j).pz).map u64]) 129 (0, 0)), (c7, .cells (Qy [((Jk (Y3 ky) (Je u) j).qx).map u64, ((Jk (Y3 ky) (Je u) j).qz).map u64]) 129 (0, 0)), (b5, .cells (cl u64 (Je u)) 126 (0, 0)), (b4, .cells (cl u8 (aA 32 0)) 23 (0, 0)), (b2, .cells (cl u8 (Y3 ky)) 23 (0, 0))]) (fun g wv => (aT (g 8) + 1).toNat) ?_ ?_
 have m28 := Mem.drop [_] _ (aC [_, _, _, _] [_] _ m27)
 ·exact ⟨0, oM, s0, s1, s2, s3, s4, s5, s6, s7, rfl, (by rw [Qql]; exact m28)⟩
 rintro fr29 w30 ⟨j, hj, s0, s1, s2, s3, s4, s5, s6, s7, s8, m30⟩
 have z8 := s8
 have hL := Qt2 (Y3 ky) hrl j
 have hL1 := hL.px
 have hL2 := hL.pz
 have hL3 := hL.qx
 have hL4 := hL.qz
 have hS := Qdx (Jk (Y3 ky) (Je u) j).px (Jk (Y3 ky) (Je u) j).pz (Jk (Y3 ky) (Je u) j).qx (Jk (Y3 ky) (Je u) j).qz (Je u)
 have hT := Qdx (Jk (Y3 ky) (Je u) j).qx (Jk (Y3 ky) (Je u) j).qz (Jk (Y3 ky) (Je u) j).px (Jk (Y3 ky) (Je u) j).pz (Je u)
 have hSpx := hS.px
 have hSpz := hS.pz
 have hSqx := hS.qx
 have hSqz := hS.qz
 have hTpx := hT.px
 have hTpz := hT.pz
 have hTqx := hT.qx
 have hTqz := hT.qz
 refine Qa (sR ?_)
 refine X9 s8 <| Qd (Ey (b := 0) rfl rfl) <| rN ?_
 refine Zz rfl (fun hc31 => ?_) (fun hc31 => ?_)
 ·
  have hc31p := of_decide_eq_true hc31
  refine Qo (Qc (Qa (Qh (sR ?_))))
  refine X9 s8 <| Qd (Jv.cast (congrArg i64 (show (254 - (j : Int)) / 8 = (((254 - j) / 8 : Nat) : Int) by omega)) (Um (b := 8) rfl rfl oM oM oM)) <| Qd (Zj (r := ((254 - j) / 8)) oM Xn Yr s2 rfl oM sD) <| Qd (v := (u8 ((Y3 ky).getD ((254 - j) / 8) 0))) (Qi V3 rfl rfl m30.h4 (Qu _ _ 0 sD)) <| X9 s8 <| Qd (Jv.cast (congrArg i64 (show (254 - (j : Int)) % 8 = (((254 - j) % 8 : Nat) : Int) by omega)) (Wp (b := 8) rfl rfl oM oM oM)) <| Qd (Qhi rfl rfl oM) <| Qd (Qhj (b := 1#8) rfl rfl) <| Qd (Qbz (b := 0#8) rfl rfl) <| rN ?_
  refine Zz rfl (fun hc32 => ?_) (fun hc32 => ?_)
  ·
   have hc32p := eq_of_beq hc32
   refine Qb <| Qd (Ky Hy Ce s6 m30.h0) <| Qd (Ky Hy Ce s7 m30.h1) <| Qd (Qn Xp rfl Yq s5 m30.h2 sZ) <| U5 m30 (oc80 (Dy rfl rfl rfl) (Qsw _ _ _ _ _ _ sD sD sD sD sD)) fun w33 m33 => X9 rfl <| Qd (v := (aO (Qy [((Ad ((Jk (Y3 ky) (Je u) j).px) ((Jk (Y3 ky) (Je u) j).pz) ((Jk (Y3 ky) (Je u) j).qx) ((Jk (Y3 ky) (Je u) j).qz) (Je u)).px).map u64, ((Ad ((Jk (Y3 ky) (Je u) j).px) ((Jk (Y3 ky) (Je u) j).pz) ((Jk (Y3 ky) (Je u) j).qx) ((Jk (Y3 ky) (Je u) j).qz) (Je u)).pz).map u64]))) (Zr rfl rfl) <| Qd (v := (aO (Qy [((Ad ((Jk (Y3 ky) (Je u) j).px) ((Jk (Y3 ky) (Je u) j).pz) ((Jk (Y3 ky) (Je u) j).qx) ((Jk (Y3 ky) (Je u) j).qz) (Je u)).qx).map u64, ((Ad ((Jk (Y3 ky) (Je u) j).px) ((Jk (Y3 ky) (Je u) j).pz) ((Jk (Y3 ky) (Je u) j).qx) ((Jk (Y3 ky) (Je u) j).qz) (Je u)).qz).map u64]))) (Zr rfl rfl) <| Ye m33 (Ko Ce s6 rfl m33.h0 (Ym (Jf Xu _) (Ym (Jf Xu _) U6))) fun w35 m35 => Vs m35 (Ko Ce s7 rfl m35.h1 (Ym (Jf Xu _) (Ym (Jf Xu _) U6))) fun w36 m36 => ?_
   refine Zp (Qe (Qb ?_))
   refine X9 s8 <| Qd (Yg (b := 1) rfl rfl oM oM) <| Zx (i64 ((254 - (j : Int)) - 1)) <| rN ?_
   exact ⟨⟨j + 1, oM, s0, s1, s2, s3, s4, s5, s6, s7, (show i64 (254 - (j : Int) - 1) = i64 (254 - ((j + 1 : Nat) : Int)) from congrArg i64 oM), (by rw [ladGo_t (k := (Y3 ky)) (x1 := (Je u)) (j := j) hc32]; exact m36)⟩, (by show (aT (i64 (254 - (j : Int) - 1)) + 1).toNat < (aT _ + 1).toNat; rw [z8]; simp only [aT, i64]; omega)⟩
  ·
   have hc32p := ne_of_beq_false hc32
   refine Qb <| Qd (Ky Hy Ce s7 m30.h1) <| Qd (Ky Hy Ce s6 m30.h0) <| Qd (Qn Xp rfl Yq s5 m30.h2 sZ) <| U5 m30 (oc80 (Dy rfl rfl rfl) (Qsw _ _ _ _ _ _ sD sD sD sD sD)) fun w37 m37 => X9 rfl <| Qd (v := (aO (Qy [((Ad ((Jk (Y3 ky) (Je u) j).qx) ((Jk (Y3 ky) (Je u) j).qz) ((Jk (Y3 ky) (Je u) j).px) ((Jk (Y3 ky) (Je u) j).pz) (Je u)).px).map u64, ((Ad ((Jk (Y3 ky) (Je u) j).qx) ((Jk (Y3 ky) (Je u) j).qz) ((Jk (Y3 ky) (Je u) j).px) ((Jk (Y3 ky) (Je u) j).pz) (Je u)).pz).map u64]))) (Zr rfl rfl) <| Qd (v := (aO (Qy [((Ad ((Jk (Y3 ky) (Je u) j).qx) ((Jk (Y3 ky) (Je u) j).qz) ((Jk (Y3 ky) (Je u) j).px) ((Jk (Y3 ky) (Je u) j).pz) (Je u)).qx).map u64, ((Ad ((Jk (Y3 ky) (Je u) j).qx) ((Jk (Y3 ky) (Je u) j).qz) ((Jk (Y3 ky) (Je u) j).px) ((Jk (Y3 ky) (Je u) j).pz) (Je u)).qz).map u64]))) (Zr rfl rfl) <| Vs m37 (Ko Ce s7 rfl m37.h1 (Ym (Jf Xu _) (Ym (Jf Xu _) U6))) fun w39 m39 => Ye m39 (Ko Ce s6 rfl m39.h0 (Ym (Jf Xu _) (Ym (Jf Xu _) U6))) fun w40 m40 => ?_
   refine Zp (Qe (Qb ?_))
   refine X9 s8 <| Qd (Yg (b := 1) rfl rfl oM oM) <| Zx (i64 ((254 - (j : Int)) - 1)) <| rN ?_
   exact ⟨⟨j + 1, oM, s0, s1, s2, s3, s4, s5, s6, s7, (show i64 (254 - (j : Int) - 1) = i64 (254 - ((j + 1 : Nat) : Int)) from congrArg i64 oM), (by rw [ladGo_f (k := (Y3 ky)) (x1 := (Je u)) (j := j) hc32]; exact m40)⟩, (by show (aT (i64 (254 - (j : Int) - 1)) + 1).toNat < (aT _ + 1).toNat; rw [z8]; simp only [aT, i64]; omega)⟩
 ·
  have hc31p := of_decide_eq_false hc31
  obtain rfl : j = 255 := by omega
  refine X3 ?_
  refine Qj (Qj (Xk ?_))
  refine Qa <| Xi (dl 5) 5 Xv <| X4 rfl (Zl (r := 0) Hy rfl Jj Yq rfl s6) <| Yj rfl (fun _ e' => Jn 0 Xp Yq rfl (m30.ext e').h0 rfl) <| X4 rfl (Zl (r := 5) Hy rfl Jj Yq rfl s6) <| Yj rfl (fun _ e' => Jn 1 Xp Yq rfl (m30.ext e').h0 rfl) <| Wy rfl rfl (fun w41 e41 => oc82 (Jz rfl) (c_inv5 _ _ sD)) <| Gf m30 fun w44 m44 => U5 m44 (Qhf (Xl rfl rfl) (Dx _ _ _ sD sD)) fun w45 m45 => U5 m45 (oc83 (Jz rfl) (c_ebytes _ _ sD)) fun w47 m47 => yqU3 m47 (Qg (f := u8) (l := Qav (Qm ((Jk (Y3 ky) (Je u) 255).px) (invL ((Jk (Y3 ky) (Je u) 255).pz)))) Qr Zh s4 rfl sD m47.h3 sZ rfl) fun w49 m49 => ?_
  refine rN (Z8 ?_)
  refine Qq [(agg u8 (Qav (Qm ((Jk (Y3 ky) (Je u) 255).px) (invL ((Jk (Y3 ky) (Je u) 255).pz)))))] ⟨⟨_, s4, Xm Xn rfl Zh m49.h3 sZ⟩, trivial⟩ ?_
  exact ⟨by unfold Zu invL; rfl, m49.toExt⟩
theorem Qmb (ky : Z4) (w0 : World)  (hk : ky.length = 32) : Xz prog 31 #[(agg u8 ky)] w0 (fun r w1 => r = (agg u8 (Zu ky Yy)) ∧ Ext w0 w1) := by
 refine Qz (args := [(agg u8 ky)]) func31 rfl ntmps31 results31 rfl ?_
 have m0 : Mem w0 (Qs w0) [] := aY w0
 refine sR <| Y5 (Z5 (f := u8) (l := ky) m0 rfl) fun w1 b1 m1 => Y5 (Q7 m1 Zh) fun w2 b2 m2 => ?_
 refine rN (sR ?_)
 refine Qd (Qn Xn rfl Zh rfl m2.h1 sZ) <| Qd (Gq (c := (cl u8 ((Ej 9#8)))) Zh Xn Yr (Jp (i := 0) (v := (u8 9#8)) (cs := #[(u8 9#8)]) rfl rfl Vt) Xv) <| U5 m2 (oc57 (Xl rfl rfl) (Qi6 _ _ _ sD sD)) fun w3 m3 => Ye m3 (Qg (f := u8) (l := Zu ky ((Ej 9#8))) Qr Zh rfl rfl sD m3.h0 sZ rfl) fun w5 m5 => ?_
 refine rN (Z8 ?_)
 refine Qq [(agg u8 (Zu ky ((Ej 9#8))))] ⟨⟨_, rfl, Xm Xn rfl Zh m5.h0 sZ⟩, trivial⟩ ?_
 exact ⟨rfl, m5.toExt⟩
theorem Qrq (ky : Z4) (w0 : World)  (hk : ky.length = 32) : Xz prog 27 #[(agg u8 ky)] w0 (fun r w1 => r = (aO (Qy [ky.map u8, (Zu ky Yy).map u8])) ∧ Ext w0 w1) := by
 refine Qz (args := [(agg u8 ky)]) func27 rfl ntmps27 results27 rfl ?_
 have m0 : Mem w0 (Qs w0) [] := aY w0
 refine sR <| Y5 (Z5 (f := u8) (l := ky) m0 rfl) fun w1 b1 m1 => Y5 (Ju m1 Qil) fun w2 b2 m2 => ?_
 refine rN (Qa ?_)
 refine Xi [(0, false), (1, false), (2, false)] 3 Xv <| Yj rfl (fun _ e' => Qn Xn rfl Zh rfl (m2.ext e').h1 sZ) <| Yj rfl (fun _ e' => Qn Xn rfl Zh rfl (m2.ext e').h1 sZ) <| Wy rfl rfl (fun w3 e3 => oc31 (Jz rfl) (Qmb _ _ sD)) <| Gf m2 fun w6 m6 => Qd (Ws (c := (Qy [ky.map u8, (Zu ky Yy).map u8])) (pl := [(0, 32), (32, 32)]) Qil Qjc Xv (Jp (i := 0) (v := (agg u8 ky)) (cs := (cl u8 ky)) rfl rfl (Jp (i := 1) (v := (agg u8 (Zu ky Yy))) (cs := (cl u8 (Zu ky Yy))) rfl rfl Vt)) (Vx (L := [(aA 32 0).map u8, (aA 32 0).map u8]) 0 [ky.map u8, (aA 32 0).map u8] rfl (Gg u8 _).symm rfl (Vx 1 [ky.map u8, (Zu ky Yy).map u8] rfl (Gg u8 _).symm rfl Bg))) <| Vd (Gy [ky.map u8, (Zu ky Yy).map u8] Qil rfl rfl (Eh (n := 32) (m := 32) (k := 64) (by first | rfl | (rw [bH]; first | omega | (simp; done) | (simp; omega))) (Eh (n := 32) (m := 0) (k := 32) (by first | rfl | (rw [bH]; first | omega | (simp; done) | (simp; omega))) Qdl rfl) rfl) (Ym (Jf Qr _) (Ym (Jf Qr _) U6)) m6.h0 rfl rfl) ?_
 rintro _ w7 uq7
 have m7 : Mem _ _ [(b2, .cells (Qy [ky.map u8, (Zu ky Yy).map u8]) 39 (0, 0)), _] := m6.upd0 uq7
 refine rN (Z8 ?_)
 refine Qq [(aO (Qy [ky.map u8, (Zu ky Yy).map u8]))] ⟨⟨_, rfl, Jq Qjc Qil m7.h0⟩, trivial⟩ ?_
 exact ⟨rfl, m7.toExt⟩
theorem Qup (own pub ot : Z4) (w0 : World)  (ho : own.length = 32) (hp : pub.length = 32) (ht : ot.length = 32) : Xz prog 41 #[(aO (Qy [own.map u8, pub.map u8])), (agg u8 ot)] w0 (fun r w1 => r = (agg u8 (Zu own ot)) ∧ Ext w0 w1) := by
 refine Qz (args := [(aO (Qy [own.map u8, pub.map u8])), (agg u8 ot)]) func41 rfl ntmps41 results41 rfl ?_
 have m0 : Mem w0 (Qs w0) [] := aY w0
 refine sR <| Y5 (Fz (cs := (Qy [own.map u8, pub.map u8])) m0 rfl) fun w1 b2 m1 => Y5 (Z5 (f := u8) (l := ot) m1 rfl) fun w2 b3 m2 => Y5 (Q7 m2 Zh) fun w3 b4 m3 => ?_
 refine rN (sR ?_)
 refine Qd (Zl (r := 0) Qjc rfl Jj Zh rfl rfl) <| Qd (Jn 0 Xn Zh rfl m3.h2 rfl) <| Qd (Qn Xn rfl Zh rfl m3.h1 sZ) <| U5 m3 (oc57 (Xl rfl rfl) (Qi6 _ _ _ sD sD)) fun w4 m4 => Ye m4 (Qg (f := u8) (l := Zu own ot) Qr Zh rfl rfl sD m4.h0 sZ rfl) fun w6 m6 => ?_
 refine rN (Z8 ?_)
 refine Qq [(agg u8 (Zu own ot))] ⟨⟨_, rfl, Xm Xn rfl Zh m6.h0 sZ⟩, trivial⟩ ?_
 exact ⟨rfl, m6.toExt⟩
end Go.Proofs.YtkmiemlpfkfiiaaDoor
