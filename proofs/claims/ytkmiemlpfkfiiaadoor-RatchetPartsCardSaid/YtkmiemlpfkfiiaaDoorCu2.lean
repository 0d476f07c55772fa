/- Contracts: the curve, second part. Conditions: none beyond those that each theorem states. -/
import Derived.Test.YtkmiemlpfkfiiaaDoorCu1
import Derived.Test.YtkmiemlpfkfiiaaDoorFwR
namespace Go.Proofs.YtkmiemlpfkfiiaaDoor
open Tryd
set_option linter.unusedVariables false
set_option linter.unusedSimpArgs false
def Qi : Xg := (En 9#8)
@[simp] theorem base9_length : Qi.length = 32 := rfl
attribute [local irreducible] Qr Z7 Zf U7 Cb Jn Gz Qau G7 Qe Js Ec Qax Aa Jh
theorem c_inv5 (x : List (BitVec 64)) (w0 : World)  (hx : x.length = 5) : X9 prog 82 #[(agg u64 x)] w0 (fun r w1 => r = (agg u64 (invL x)) ∧ Ext w0 w1) := by
 refine Zb (args := [(agg u64 x)]) func82 rfl ntmps82 results82 rfl ?_
 have m0 : Mem w0 (Qu w0) [] := Mem.of_world w0
 refine sR <| Y9 (Xa (f := u64) (l := x) m0 rfl) fun w1 b1 m1 => Y9 (Zc m1 Yw) fun w2 b2 m2 => ?_
 refine rN (sR ?_)
 refine Qd (G5 (c := (cl u64 ([1#64, 0#64, 0#64, 0#64, 0#64]))) Yw Xt Xu (J3 (i := 0) (v := (u64 1#64)) (cs := #[(u64 1#64)]) rfl rfl V3) Xw) <| Y9 (Zc m2 Yw) fun w3 b3 m3 => Ye m3 (Qj (f := u64) (l := [1#64, 0#64, 0#64, 0#64, 0#64]) Xy Yw rfl rfl sD m3.h0 sZ rfl) fun w4 m4 => ?_
 refine rN (Qa (sR ?_))
 refine Zz (i64 254) ?_
 refine rN (Qk ?_)
 refine Y7 (fun g wv => ∃ (j : Nat), (j ≤ 255) ∧ g 0 = (agg u64 x) ∧ g 1 = (ptr b1 0) ∧ g 2 = (ptr b2 0) ∧ g 3 = (ptr b3 0) ∧ g 4 = (i64 (254 - (j : Int))) ∧ Mem wv (Qu w0) [(b3, .cells (cl u64 (U7 x j)) 126 (0, 0)), (b2, .cells (cl u64 (List.replicate 5 0)) 126 (0, 0)), (b1, .cells (cl u64 x) 126 (0, 0))]) (fun g wv => (RowKit.intOf (g 4) + 1).toNat) ?_ ?_
 ·exact ⟨0, oM, rfl, rfl, rfl, rfl, rfl, (by rw [Qo0]; exact m4)⟩
 rintro fr5 w6 ⟨j, hj, s0, s1, s2, s3, s4, m6⟩
 have z4 := s4
 have hil := Qb6 x j
 refine Qa (sR ?_)
 refine Ya s4 <| Qd (E8 (b := 0) rfl rfl) <| rN ?_
 refine Z8 rfl (fun hc7 => ?_) (fun hc7 => ?_)
 ·
  have hc7p := of_decide_eq_true hc7
  refine Qs (Qc (Qa (Qk (sR ?_))))
  refine Qd (Qp Xt rfl Yw s3 m6.h0 sZ) <| Qd (Qp Xt rfl Yw s3 m6.h0 sZ) <| U9 m6 (Qgk (Xm rfl rfl) (D5 _ _ _ sD sD)) fun w8 m8 => Ye m8 (Qj (f := u64) (l := Qr (U7 x j) (U7 x j)) Xy Yw s3 rfl sD m8.h0 sZ rfl) fun w10 m10 => ?_
  refine rN (sR ?_)
  refine Ya s4 <| Qd (Jw (b := 2) rfl rfl) <| Zp (bl ((254 - (j : Int)) != 2)) ?_
  rcases Bool.eq_false_or_eq_true ((254 - (j : Int)) != 2) with hb11 | hb11
  ·
   have hb11p := bne_iff_ne.1 hb11
   refine Z5 (s := 15) rfl rfl hb11 rfl (Yp s4) <| Z5 (s := 15) rfl rfl hb11 rfl (Jw (b := 4) rfl rfl) <| Qd (Vm rfl hb11 rfl) <| rN ?_
   refine Z8 rfl (fun hc12 => ?_) (fun hc12 => ?_)
   ·
    have hc12p := bne_iff_ne.1 hc12
    refine Qb <| Qd (Qp Xt rfl Yw s3 m10.h0 sZ) <| Qd (Qp Xt rfl Yw s1 m10.h2 sZ) <| U9 m10 (Qgk (Xm rfl rfl) (D5 _ _ _ sD sD)) fun w13 m13 => Ye m13 (Qj (f := u64) (l := Qr (Qr (U7 x j) (U7 x j)) x) Xy Yw s3 rfl sD m13.h0 sZ rfl) fun w15 m15 => ?_
    refine Zv (Qh (Qb ?_))
    refine Ya s4 <| Qd (Yk (b := 1) rfl rfl oM oM) <| Zz (i64 ((254 - (j : Int)) - 1)) <| rN ?_
    have hin : Qr (Qr (U7 x j) (U7 x j)) x = U7 x (j + 1) := Qro (by clear hil hx; omega)
    exact ⟨⟨j + 1, oM, s0, s1, s2, s3, (show i64 (254 - (j : Int) - 1) = i64 (254 - ((j + 1 : Nat) : Int)) from congrArg i64 oM), (by rw [← hin]; exact m15)⟩, (by show (RowKit.intOf (i64 (254 - (j : Int) - 1)) + 1).toNat < (RowKit.intOf _ + 1).toNat; rw [z4]; simp only [RowKit.intOf, i64]; omega)⟩
   ·
    have hc12p := X0 hc12
    refine Qs (Qh (Qb ?_))
    refine Ya s4 <| Qd (Yk (b := 1) rfl rfl oM oM) <| Zz (i64 ((254 - (j : Int)) - 1)) <| rN ?_
    have hin : Qr (U7 x j) (U7 x j) = U7 x (j + 1) := Qnp (by clear hil hx; omega)
    exact ⟨⟨j + 1, oM, s0, s1, s2, s3, (show i64 (254 - (j : Int) - 1) = i64 (254 - ((j + 1 : Nat) : Int)) from congrArg i64 oM), (by rw [← hin]; exact m10)⟩, (by show (RowKit.intOf (i64 (254 - (j : Int) - 1)) + 1).toNat < (RowKit.intOf _ + 1).toNat; rw [z4]; simp only [RowKit.intOf, i64]; omega)⟩
  ·
   have hb11p := X0 hb11
   refine W9 (s := 15) rfl rfl hb11 rfl <| W9 (s := 15) rfl rfl hb11 rfl <| Qd (Y4 rfl hb11 rfl) <| rN <| Yy rfl Jg ?_
   refine Qs (Qh (Qb ?_))
   refine Ya s4 <| Qd (Yk (b := 1) rfl rfl oM oM) <| Zz (i64 ((254 - (j : Int)) - 1)) <| rN ?_
   have hin : Qr (U7 x j) (U7 x j) = U7 x (j + 1) := Qnp (by clear hil hx; omega)
   exact ⟨⟨j + 1, oM, s0, s1, s2, s3, (show i64 (254 - (j : Int) - 1) = i64 (254 - ((j + 1 : Nat) : Int)) from congrArg i64 oM), (by rw [← hin]; exact m10)⟩, (by show (RowKit.intOf (i64 (254 - (j : Int) - 1)) + 1).toNat < (RowKit.intOf _ + 1).toNat; rw [z4]; simp only [RowKit.intOf, i64]; omega)⟩
 ·
  have hc7p := of_decide_eq_false hc7
  obtain rfl : j = 255 := by omega
  have hil := Qb6 x 255
  refine X6 ?_
  refine Qm (Qm (Xi ?_))
  refine sR <| Qd (Qp Xt rfl Yw s3 m6.h0 sZ) <| Vz m6 (Qj (f := u64) (l := U7 x 255) Xy Yw s2 rfl sD m6.h1 sZ rfl) fun w16 m16 => ?_
  refine rN (Xb ?_)
  refine Qv [(agg u64 (U7 x 255))] ⟨⟨_, s2, Xr Xt rfl Yw m16.h1 sZ⟩, trivial⟩ ?_
  exact ⟨by unfold invL; rfl, m16.toExt⟩
set_option maxHeartbeats 1000000 in
theorem c_ebytes (e : List (BitVec 64)) (w0 : World)  (he : e.length = 5) : X9 prog 83 #[(agg u64 e)] w0 (fun r w1 => r = (agg u8 (Qau e)) ∧ Ext w0 w1) := by
 refine Zb (args := [(agg u64 e)]) func83 rfl ntmps83 results83 rfl ?_
 have m0 : Mem w0 (Qu w0) [] := Mem.of_world w0
 refine sR <| Y9 (Xa (f := u64) (l := e) m0 rfl) fun w1 b1 m1 => Y9 (Zc m1 Zl) fun w2 b2 m2 => ?_
 refine rN (sR ?_)
 refine Qd (Qp Xt rfl Yw rfl m2.h1 sZ) <| U9 m2 (oc101 (Kt rfl) (Qie _ _ sD)) fun w3 m3 => Vz m3 (Qj (f := u64) (l := Ec e) Xy Yw rfl rfl sD m3.h1 sZ rfl) fun w5 m5 => ?_
 refine rN (Qa ?_)
 obtain ⟨e0, e1, e2, e3, e4, hce⟩ := Qee (Ec e) (by rw [Bg, he])
 have hmC6 := m5
 rw [hce] at hmC6
 refine Qb <| Qd (Qp Xt rfl Yw rfl hmC6.h1 sZ) <| Y9 (Zc hmC6 Yw) fun w7 b3 m7 => Ye m7 (Qj (f := u64) (l := [e0, e1, e2, e3, e4]) Xy Yw rfl rfl sD m7.h0 sZ rfl) fun w8 m8 => Zz (u64 19#64) ?_
 refine rN (Qa (sR ?_))
 refine Zp (i64 0) ?_
 refine rN (Qk ?_)
 refine Wx 6 ?_
 refine Zt (sR ?_)
 refine Qd (Jf 0 5) ?_
 refine rN (Qa ?_)
 refine Za rfl Jg ?_
 refine Qs (Qc (Qa (Qk (sR ?_))))
 refine Zp (i64 0) <| Zz (i64 0) ?_
 refine rN (sR ?_)
 refine Zp (i64 0) <| Qd (Xv 0 0 Xt Xu rfl) <| Qd (v := (u64 e0)) (Ql Ym rfl rfl m8.h0 (Qx _ _ 0 X7)) <| Zp (u64 19#64) <| Qd (J6 (b := 19#64) rfl rfl) <| Qd (Xv 0 0 Xt Xu rfl) <| Ye m8 (Zn (f := u64) (l' := [e0 + 19#64, e1, e2, e3, e4]) rfl Xy Xu rfl rfl m8.h0 X7 (.inl (Nat.zero_le _))) fun w9 m9 => ?_
 refine rN (sR ?_)
 refine Zp (i64 0) <| Qd (Xv 0 0 Xt Xu rfl) <| Qd (v := (u64 (e0 + 19#64))) (Ql Ym rfl rfl m9.h0 (Qx _ _ 0 X7)) <| Qd (Yf (b := 51) rfl rfl oM) <| Zz (u64 ((e0 + 19#64) >>> 51)) ?_
 refine rN (Qb ?_)
 refine Zp (i64 0) <| Qd (Xv 0 0 Xt Xu rfl) <| Qd (v := (u64 (e0 + 19#64))) (Ql Ym rfl rfl m9.h0 (Qx _ _ 0 X7)) <| Qd (Vw (b := 2251799813685247#64) rfl rfl) <| Qd (Xv 0 0 Xt Xu rfl) <| Ye m9 (Zn (f := u64) (l' := [(e0 + 19#64) &&& 2251799813685247#64, e1, e2, e3, e4]) rfl Xy Xu rfl rfl m9.h0 X7 (.inl (Nat.zero_le _))) fun w10 m10 => ?_
 refine Zv (Qh (Qb ?_))
 refine Qd (v := (i64 1)) (Yo 0 1) <| Zp (i64 1) ?_
 refine rN (Zt (sR ?_))
 refine Qd (Jf 1 5) ?_
 refine rN (Qa ?_)
 refine Za rfl Jg ?_
 refine Qs (Qc (Qa (Qk (sR ?_))))
 refine Zp (i64 1) <| Zz (i64 1) ?_
 refine rN (sR ?_)
 refine Zp (i64 1) <| Qd (Xv 1 1 Xt Xu rfl) <| Qd (v := (u64 e1)) (Ql Ym rfl rfl m10.h0 (Qx _ _ 0 X7)) <| Zp (u64 ((e0 + 19#64) >>> 51)) <| Qd (J6 rfl rfl) <| Qd (Xv 1 1 Xt Xu rfl) <| Ye m10 (Zn (f := u64) (l' := [(e0 + 19#64) &&& 2251799813685247#64, e1 + ((e0 + 19#64) >>> 51), e2, e3, e4]) rfl Xy Xu rfl rfl m10.h0 X7 (.inl (Nat.zero_le _))) fun w11 m11 => ?_
 refine rN (sR ?_)
 refine Zp (i64 1) <| Qd (Xv 1 1 Xt Xu rfl) <| Qd (v := (u64 (e1 + ((e0 + 19#64) >>> 51)))) (Ql Ym rfl rfl m11.h0 (Qx _ _ 0 X7)) <| Qd (Yf (b := 51) rfl rfl oM) <| Zz (u64 ((e1 + ((e0 + 19#64) >>> 51)) >>> 51)) ?_
 refine rN (Qb ?_)
 refine Zp (i64 1) <| Qd (Xv 1 1 Xt Xu rfl) <| Qd (v := (u64 (e1 + ((e0 + 19#64) >>> 51)))) (Ql Ym rfl rfl m11.h0 (Qx _ _ 0 X7)) <| Qd (Vw (b := 2251799813685247#64) rfl rfl) <| Qd (Xv 1 1 Xt Xu rfl) <| Ye m11 (Zn (f := u64) (l' := [(e0 + 19#64) &&& 2251799813685247#64, (e1 + ((e0 + 19#64) >>> 51)) &&& 2251799813685247#64, e2, e3, e4]) rfl Xy Xu rfl rfl m11.h0 X7 (.inl (Nat.zero_le _))) fun w12 m12 => ?_
 refine Zv (Qh (Qb ?_))
 refine Qd (v := (i64 2)) (Yo 1 1) <| Zp (i64 2) ?_
 refine rN (Zt (sR ?_))
 refine Qd (Jf 2 5) ?_
 refine rN (Qa ?_)
 refine Za rfl Jg ?_
 refine Qs (Qc (Qa (Qk (sR ?_))))
 refine Zp (i64 2) <| Zz (i64 2) ?_
 refine rN (sR ?_)
 refine Zp (i64 2) <| Qd (Xv 2 2 Xt Xu rfl) <| Qd (v := (u64 e2)) (Ql Ym rfl rfl m12.h0 (Qx _ _ 0 X7)) <| Zp (u64 ((e1 + ((e0 + 19#64) >>> 51)) >>> 51)) <| Qd (J6 rfl rfl) <| Qd (Xv 2 2 Xt Xu rfl) <| Ye m12 (Zn (f := u64) (l' := [(e0 + 19#64) &&& 2251799813685247#64, (e1 + ((e0 + 19#64) >>> 51)) &&& 2251799813685247#64, e2 + ((e1 + ((e0 + 19#64) >>> 51)) >>> 51), e3, e4]) rfl Xy Xu rfl rfl m12.h0 X7 (.inl (Nat.zero_le _))) fun w13 m13 => ?_
 refine rN (sR ?_)
 refine Zp (i64 2) <| Qd (Xv 2 2 Xt Xu rfl) <| Qd (v := (u64 (e2 + ((e1 + ((e0 + 19#64) >>> 51)) >>> 51)))) (Ql Ym rfl rfl m13.h0 (Qx _ _ 0 X7)) <| Qd (Yf (b := 51) rfl rfl oM) <| Zz (u64 ((e2 + ((e1 + ((e0 + 19#64) >>> 51)) >>> 51)) >>> 51)) ?_
 refine rN (Qb ?_)
 refine Zp (i64 2) <| Qd (Xv 2 2 Xt Xu rfl) <| Qd (v := (u64 (e2 + ((e1 + ((e0 + 19#64) >>> 51)) >>> 51)))) (Ql Ym rfl rfl m13.h0 (Qx _ _ 0 X7)) <| Qd (Vw (b := 2251799813685247#64) rfl rfl) <| Qd (Xv 2 2 Xt Xu rfl) <| Ye m13 (Zn (f := u64) (l' := [(e0 + 19#64) &&& 2251799813685247#64, (e1 + ((e0 + 19#64) >>> 51)) &&& 2251799813685247#64, (e2 + ((e1 + ((e0 + 19#64) >>> 51)) >>> 51)) &&& 2251799813685247#64, e3, e4]) rfl Xy Xu rfl rfl m13.h0 X7 (.inl (Nat.zero_le _))) fun w14 m14 => ?_
 refine Zv (Qh (Qb ?_))
 refine Qd (v := (i64 3)) (Yo 2 1) <| Zp (i64 3) ?_
 refine rN (Zt (sR ?_))
 refine Qd (Jf 3 5) ?_
 refine rN (Qa ?_)
 refine Za rfl Jg ?_
 refine Qs (Qc (Qa (Qk (sR ?_))))
 refine Zp (i64 3) <| Zz (i64 3) ?_
 refine rN (sR ?_)
 refine Zp (i64 3) <| Qd (Xv 3 3 Xt Xu rfl) <| Qd (v := (u64 e3)) (Ql Ym rfl rfl m14.h0 (Qx _ _ 0 X7)) <| Zp (u64 ((e2 + ((e1 + ((e0 + 19#64) >>> 51)) >>> 51)) >>> 51)) <| Qd (J6 rfl rfl) <| Qd (Xv 3 3 Xt Xu rfl) <| Ye m14 (Zn (f := u64) (l' := [(e0 + 19#64) &&& 2251799813685247#64, (e1 + ((e0 + 19#64) >>> 51)) &&& 2251799813685247#64, (e2 + ((e1 + ((e0 + 19#64) >>> 51)) >>> 51)) &&& 2251799813685247#64, e3 + ((e2 + ((e1 + ((e0 + 19#64) >>> 51)) >>> 51)) >>> 51), e4]) rfl Xy Xu rfl rfl m14.h0 X7 (.inl (Nat.zero_le _))) fun w15 m15 => ?_
 refine rN (sR ?_)
 refine Zp (i64 3) <| Qd (Xv 3 3 Xt Xu rfl) <| Qd (v := (u64 (e3 + ((e2 + ((e1 + ((e0 + 19#64) >>> 51)) >>> 51)) >>> 51)))) (Ql Ym rfl rfl m15.h0 (Qx _ _ 0 X7)) <| Qd (Yf (b := 51) rfl rfl oM) <| Zz (u64 ((e3 + ((e2 + ((e1 + ((e0 + 19#64) >>> 51)) >>> 51)) >>> 51)) >>> 51)) <| rN ?_
 refine CW.abs (fun g => g 0 = (agg u64 e) ∧ g 1 = (ptr b1 0) ∧ g 2 = (ptr b2 0) ∧ g 3 = (ptr b3 0) ∧ g 4 = (u64 ((e3 + ((e2 + ((e1 + ((e0 + 19#64) >>> 51)) >>> 51)) >>> 51)) >>> 51)) ∧ g 5 = (i64 3) ∧ g 10 = (i64 3) ∧ g 11 = (bl true) ∧ True) ⟨rfl, rfl, rfl, rfl, rfl, rfl, rfl, rfl, trivial⟩ ?_
 rintro fr16 ⟨s0, s1, s2, s3, s4, s5, s10, s11, _⟩
 refine Qb <| Ya s5 <| Qd (Xv 3 3 Xt Xu s3) <| Qd (v := (u64 (e3 + ((e2 + ((e1 + ((e0 + 19#64) >>> 51)) >>> 51)) >>> 51)))) (Ql Ym rfl rfl m15.h0 (Qx _ _ 0 X7)) <| Qd (Vw (b := 2251799813685247#64) rfl rfl) <| Qd (Xv 3 3 Xt Xu s3) <| Ye m15 (Zn (f := u64) (l' := [(e0 + 19#64) &&& 2251799813685247#64, (e1 + ((e0 + 19#64) >>> 51)) &&& 2251799813685247#64, (e2 + ((e1 + ((e0 + 19#64) >>> 51)) >>> 51)) &&& 2251799813685247#64, (e3 + ((e2 + ((e1 + ((e0 + 19#64) >>> 51)) >>> 51)) >>> 51)) &&& 2251799813685247#64, e4]) rfl Xy Xu rfl rfl m15.h0 X7 (.inl (Nat.zero_le _))) fun w17 m17 => ?_
 refine Zv (Qh (Qb ?_))
 refine Qd (v := (i64 4)) (Zg (a := 3) (b := 1) s10 rfl oM oM) <| Zp (i64 4) ?_
 refine rN (Zt (sR ?_))
 refine Qd (Jf 4 5) ?_
 refine rN (Qa ?_)
 refine Za rfl Jg ?_
 refine Qs (Qc (Qa (Qk (sR ?_))))
 refine Zp (i64 4) <| Zz (i64 4) ?_
 refine rN (sR ?_)
 refine Zp (i64 4) <| Qd (Xv 4 4 Xt Xu s3) <| Qd (v := (u64 e4)) (Ql Ym rfl rfl m17.h0 (Qx _ _ 0 X7)) <| Ya s4 <| Qd (J6 rfl rfl) <| Qd (Xv 4 4 Xt Xu s3) <| Ye m17 (Zn (f := u64) (l' := [(e0 + 19#64) &&& 2251799813685247#64, (e1 + ((e0 + 19#64) >>> 51)) &&& 2251799813685247#64, (e2 + ((e1 + ((e0 + 19#64) >>> 51)) >>> 51)) &&& 2251799813685247#64, (e3 + ((e2 + ((e1 + ((e0 + 19#64) >>> 51)) >>> 51)) >>> 51)) &&& 2251799813685247#64, e4 + ((e3 + ((e2 + ((e1 + ((e0 + 19#64) >>> 51)) >>> 51)) >>> 51)) >>> 51)]) rfl Xy Xu rfl rfl m17.h0 X7 (.inl (Nat.zero_le _))) fun w18 m18 => ?_
 refine rN (sR ?_)
 refine Zp (i64 4) <| Qd (Xv 4 4 Xt Xu s3) <| Qd (v := (u64 (e4 + ((e3 + ((e2 + ((e1 + ((e0 + 19#64) >>> 51)) >>> 51)) >>> 51)) >>> 51)))) (Ql Ym rfl rfl m18.h0 (Qx _ _ 0 X7)) <| Qd (Yf (b := 51) rfl rfl oM) <| Sz rfl ?_
 refine rN (Qb ?_)
 refine Zp (i64 4) <| Qd (Xv 4 4 Xt Xu s3) <| Qd (v := (u64 (e4 + ((e3 + ((e2 + ((e1 + ((e0 + 19#64) >>> 51)) >>> 51)) >>> 51)) >>> 51)))) (Ql Ym rfl rfl m18.h0 (Qx _ _ 0 X7)) <| Qd (Vw (b := 2251799813685247#64) rfl rfl) <| Qd (Xv 4 4 Xt Xu s3) <| Ye m18 (Zn (f := u64) (l' := [(e0 + 19#64) &&& 2251799813685247#64, (e1 + ((e0 + 19#64) >>> 51)) &&& 2251799813685247#64, (e2 + ((e1 + ((e0 + 19#64) >>> 51)) >>> 51)) &&& 2251799813685247#64, (e3 + ((e2 + ((e1 + ((e0 + 19#64) >>> 51)) >>> 51)) >>> 51)) &&& 2251799813685247#64, (e4 + ((e3 + ((e2 + ((e1 + ((e0 + 19#64) >>> 51)) >>> 51)) >>> 51)) >>> 51)) &&& 2251799813685247#64]) rfl Xy Xu rfl rfl m18.h0 X7 (.inl (Nat.zero_le _))) fun w19 m19 => ?_
 refine Zv (Qh (Qb ?_))
 refine Qd (v := (i64 5)) (Yo 4 1) <| Zp (i64 5) ?_
 refine rN (Zt (sR ?_))
 refine Qd (Jf 5 5) ?_
 refine rN (Qa ?_)
 refine Yy rfl Jg <| X6 ?_
 refine Qm (Qm (Xi ?_))
 refine Qa (sR ?_)
 refine Ya rfl <| Qd (Qo9 (b := 0#64) rfl rfl) <| rN ?_
 refine Z8 rfl (fun hc20 => ?_) (fun hc20 => ?_)
 ·
  have hc20p := of_decide_eq_true hc20
  refine Qb <| Qd (Qp Xt rfl Yw s3 m19.h0 sZ) <| Bh m19 (Qj (f := u64) (l := [(e0 + 19#64) &&& 2251799813685247#64, (e1 + ((e0 + 19#64) >>> 51)) &&& 2251799813685247#64, (e2 + ((e1 + ((e0 + 19#64) >>> 51)) >>> 51)) &&& 2251799813685247#64, (e3 + ((e2 + ((e1 + ((e0 + 19#64) >>> 51)) >>> 51)) >>> 51)) &&& 2251799813685247#64, (e4 + ((e3 + ((e2 + ((e1 + ((e0 + 19#64) >>> 51)) >>> 51)) >>> 51)) >>> 51)) &&& 2251799813685247#64]) Xy Yw s1 rfl sD m19.h2 sZ rfl) fun w21 m21 => ?_
  refine rN (Qa (Qa ?_))
  have hwq : [(e0 + 19#64) &&& 2251799813685247#64, (e1 + ((e0 + 19#64) >>> 51)) &&& 2251799813685247#64, (e2 + ((e1 + ((e0 + 19#64) >>> 51)) >>> 51)) &&& 2251799813685247#64, (e3 + ((e2 + ((e1 + ((e0 + 19#64) >>> 51)) >>> 51)) >>> 51)) &&& 2251799813685247#64, (e4 + ((e3 + ((e2 + ((e1 + ((e0 + 19#64) >>> 51)) >>> 51)) >>> 51)) >>> 51)) &&& 2251799813685247#64] = G7 e := by unfold G7; rw [hce]; exact (if_pos (of_decide_eq_true hc20)).symm
  have hmW22 := m21
  rw [hwq] at hmW22
  have hwl := Qd5 he
  refine Qb <| Zp (i64 0) ?_
  refine rN (Qk ?_)
  refine Y7 (fun g wv => ∃ (i : Nat), (i ≤ 255) ∧ g 0 = (agg u64 e) ∧ g 1 = (ptr b1 0) ∧ g 2 = (ptr b2 0) ∧ g 3 = (ptr b3 0) ∧ g 4 = (u64 ((e4 + ((e3 + ((e2 + ((e1 + ((e0 + 19#64) >>> 51)) >>> 51)) >>> 51)) >>> 51)) >>> 51)) ∧ g 5 = (i64 4) ∧ g 10 = (i64 5) ∧ g 11 = (bl false) ∧ g 30 = (bl (decide ((0#64).toNat < ((e4 + ((e3 + ((e2 + ((e1 + ((e0 + 19#64) >>> 51)) >>> 51)) >>> 51)) >>> 51)) >>> 51).toNat))) ∧ g 32 = (i64 (i : Int)) ∧ Mem wv (Qu w0) [(b3, .cells (cl u64 (G7 e)) 126 (0, 0)), (b2, .cells (cl u8 (Gz (G7 e) i)) 23 (0, 0)), (b1, .cells (cl u64 (G7 e)) 126 (0, 0))]) (fun g wv => (255 - RowKit.intOf (g 32)).toNat) ?_ ?_
  ·exact ⟨0, oM, s0, s1, s2, s3, rfl, rfl, rfl, rfl, rfl, rfl, (by rw [Qez]; exact hmW22)⟩
  rintro fr23 w24 ⟨i, hi, s0, s1, s2, s3, s4, s5, s10, s11, s30, s32, m24⟩
  have z32 := s32
  have hgl := Fp (G7 e) i
  refine sR <| Qd (Z9 (b := 255) s32 rfl) ?_
  refine rN (Qa ?_)
  refine Z8 rfl (fun hc25 => ?_) (fun hc25 => ?_)
  ·
   have hc25p := of_decide_eq_true hc25
   refine Qs (Qc (Qa (Qk (sR ?_))))
   refine Ya s32 <| Zz (i64 (i : Int)) <| rN <| Xl (dl 16) 16 Xw <| Ky rfl (i64 (i : Int)) <| Yb rfl (Ko.cast (congrArg i64 (show (i : Int) / 8 = ((i / 8 : Nat) : Int) by omega)) (Uu (b := 8) rfl rfl oM oM oM)) <| Yb rfl (Zo (r := (i / 8)) oM Xq Y0 s2 rfl oM sD) <| Yn (v := (u8 ((Gz (G7 e) i).getD (i / 8) 0))) rfl (fun _ e' => Ql Gl rfl rfl (m24.ext e').h1 (Qx _ _ 0 sD)) <| Ky rfl (i64 (i : Int)) <| Yb rfl (Ko.cast (congrArg i64 (show (i : Int) / 51 = ((i / 51 : Nat) : Int) by omega)) (Uu (b := 51) rfl rfl oM oM oM)) <| Yb rfl (Zo (r := (i / 51)) oM Xt Xu s1 rfl oM sD) <| Yn (v := (u64 ((G7 e).getD (i / 51) 0))) rfl (fun _ e' => Ql Ym rfl rfl (m24.ext e').h2 (Qx _ _ 0 sD)) ?_
   refine Ky rfl (i64 (i : Int)) <| Yb rfl (Ko.cast (congrArg i64 (show (i : Int) % 51 = ((i % 51 : Nat) : Int) by omega)) (Vf (b := 51) rfl rfl oM oM oM)) <| Yb rfl (Yf rfl rfl oM) <| Yb rfl (Vw (b := 1#64) rfl rfl) <| Yb rfl (Yc ⟨_, Ym⟩ Gl rfl) <| Ky rfl (i64 (i : Int)) <| Yb rfl (Ko.cast (congrArg i64 (show (i : Int) % 8 = ((i % 8 : Nat) : Int) by omega)) (Vf (b := 8) rfl rfl oM oM oM)) <| Yb rfl (Qk6 rfl rfl oM) <| Gs m24 fun w26 m26 => Qd (Qfn rfl rfl) <| Qd (Zo (r := (i / 8)) oM Xq Y0 s2 rfl oM sD) <| Vz m26 (Xz (f := u8) (a := ((Gz (G7 e) i).getD (i / 8) 0) ||| ((((((G7 e).getD (i / 51) 0) >>> ((i % 51 : Nat) : Int).toNat) &&& 1#64).setWidth 8) <<< ((i % 8 : Nat) : Int).toNat)) Qy Y0 rfl rfl m26.h1 sD (.inl (Nat.zero_le _))) fun w27 m27 => ?_
   refine Zv (Qh (Qb ?_))
   refine Qd (Zg (b := 1) s32 rfl oM oM) <| Zp (i64 ((i : Int) + 1)) <| rN ?_
   exact ⟨⟨i + 1, oM, s0, s1, s2, s3, s4, s5, s10, s11, s30, rfl, (by rw [Qe0]; exact m27)⟩, Uo rfl z32 oM oM⟩
  ·
   have hc25p := of_decide_eq_false hc25
   obtain rfl : i = 255 := by omega
   have hgl := Fp (G7 e) 255
   refine X6 ?_
   refine Qm (Qm (Xi ?_))
   refine sR <| Qd (Qp Xq rfl Zl s2 m24.h1 sZ) <| Vz m24 (Qj (f := u8) (l := Gz (G7 e) 255) Qy Zl s2 rfl sD m24.h1 sZ rfl) fun w28 m28 => ?_
   refine rN (Xb ?_)
   refine Qv [(agg u8 (Gz (G7 e) 255))] ⟨⟨_, s2, Xr Xq rfl Zl m28.h1 sZ⟩, trivial⟩ ?_
   exact ⟨by unfold Qau; rfl, m28.toExt⟩
 ·
  have hc20p := of_decide_eq_false hc20
  refine Qs (Qc (Qa (Qa ?_)))
  have hwq : [e0, e1, e2, e3, e4] = G7 e := by unfold G7; rw [hce]; exact (if_neg (of_decide_eq_false hc20)).symm
  have hmW29 := m19
  rw [hwq] at hmW29
  have hwl := Qd5 he
  refine Qb <| Zp (i64 0) ?_
  refine rN (Qk ?_)
  refine Y7 (fun g wv => ∃ (i : Nat), (i ≤ 255) ∧ g 0 = (agg u64 e) ∧ g 1 = (ptr b1 0) ∧ g 2 = (ptr b2 0) ∧ g 3 = (ptr b3 0) ∧ g 4 = (u64 ((e4 + ((e3 + ((e2 + ((e1 + ((e0 + 19#64) >>> 51)) >>> 51)) >>> 51)) >>> 51)) >>> 51)) ∧ g 5 = (i64 4) ∧ g 10 = (i64 5) ∧ g 11 = (bl false) ∧ g 30 = (bl (decide ((0#64).toNat < ((e4 + ((e3 + ((e2 + ((e1 + ((e0 + 19#64) >>> 51)) >>> 51)) >>> 51)) >>> 51)) >>> 51).toNat))) ∧ g 32 = (i64 (i : Int)) ∧ Mem wv (Qu w0) [(b3, .cells (cl u64 ([(e0 + 19#64) &&& 2251799813685247#64, (e1 + ((e0 + 19#64) >>> 51)) &&& 2251799813685247#64, (e2 + ((e1 + ((e0 + 19#64) >>> 51)) >>> 51)) &&& 2251799813685247#64, (e3 + ((e2 + ((e1 + ((e0 + 19#64) >>> 51)) >>> 51)) >>> 51)) &&& 2251799813685247#64, (e4 + ((e3 + ((e2 + ((e1 + ((e0 + 19#64) >>> 51)) >>> 51)) >>> 51)) >>> 51)) &&& 2251799813685247#64])) 126 (0, 0)), (b2, .cells (cl u8 (Gz (G7 e) i)) 23 (0, 0)), (b1, .cells (cl u64 (G7 e)) 126 (0, 0))]) (fun g wv => (255 - RowKit.intOf (g 32)).toNat) ?_ ?_
  ·exact ⟨0, oM, s0, s1, s2, s3, rfl, rfl, rfl, rfl, rfl, rfl, (by rw [Qez]; exact hmW29)⟩
  rintro fr30 w31 ⟨i, hi, s0, s1, s2, s3, s4, s5, s10, s11, s30, s32, m31⟩
  have z32 := s32
  have hgl := Fp (G7 e) i
  refine sR <| Qd (Z9 (b := 255) s32 rfl) ?_
  refine rN (Qa ?_)
  refine Z8 rfl (fun hc32 => ?_) (fun hc32 => ?_)
  ·
   have hc32p := of_decide_eq_true hc32
   refine Qs (Qc (Qa (Qk (sR ?_))))
   refine Ya s32 <| Zz (i64 (i : Int)) <| rN <| Xl (dl 16) 16 Xw <| Ky rfl (i64 (i : Int)) <| Yb rfl (Ko.cast (congrArg i64 (show (i : Int) / 8 = ((i / 8 : Nat) : Int) by omega)) (Uu (b := 8) rfl rfl oM oM oM)) <| Yb rfl (Zo (r := (i / 8)) oM Xq Y0 s2 rfl oM sD) <| Yn (v := (u8 ((Gz (G7 e) i).getD (i / 8) 0))) rfl (fun _ e' => Ql Gl rfl rfl (m31.ext e').h1 (Qx _ _ 0 sD)) <| Ky rfl (i64 (i : Int)) <| Yb rfl (Ko.cast (congrArg i64 (show (i : Int) / 51 = ((i / 51 : Nat) : Int) by omega)) (Uu (b := 51) rfl rfl oM oM oM)) <| Yb rfl (Zo (r := (i / 51)) oM Xt Xu s1 rfl oM sD) <| Yn (v := (u64 ((G7 e).getD (i / 51) 0))) rfl (fun _ e' => Ql Ym rfl rfl (m31.ext e').h2 (Qx _ _ 0 sD)) ?_
   refine Ky rfl (i64 (i : Int)) <| Yb rfl (Ko.cast (congrArg i64 (show (i : Int) % 51 = ((i % 51 : Nat) : Int) by omega)) (Vf (b := 51) rfl rfl oM oM oM)) <| Yb rfl (Yf rfl rfl oM) <| Yb rfl (Vw (b := 1#64) rfl rfl) <| Yb rfl (Yc ⟨_, Ym⟩ Gl rfl) <| Ky rfl (i64 (i : Int)) <| Yb rfl (Ko.cast (congrArg i64 (show (i : Int) % 8 = ((i % 8 : Nat) : Int) by omega)) (Vf (b := 8) rfl rfl oM oM oM)) <| Yb rfl (Qk6 rfl rfl oM) <| Gs m31 fun w33 m33 => Qd (Qfn rfl rfl) <| Qd (Zo (r := (i / 8)) oM Xq Y0 s2 rfl oM sD) <| Vz m33 (Xz (f := u8) (a := ((Gz (G7 e) i).getD (i / 8) 0) ||| ((((((G7 e).getD (i / 51) 0) >>> ((i % 51 : Nat) : Int).toNat) &&& 1#64).setWidth 8) <<< ((i % 8 : Nat) : Int).toNat)) Qy Y0 rfl rfl m33.h1 sD (.inl (Nat.zero_le _))) fun w34 m34 => ?_
   refine Zv (Qh (Qb ?_))
   refine Qd (Zg (b := 1) s32 rfl oM oM) <| Zp (i64 ((i : Int) + 1)) <| rN ?_
   exact ⟨⟨i + 1, oM, s0, s1, s2, s3, s4, s5, s10, s11, s30, rfl, (by rw [Qe0]; exact m34)⟩, Uo rfl z32 oM oM⟩
  ·
   have hc32p := of_decide_eq_false hc32
   obtain rfl : i = 255 := by omega
   have hgl := Fp (G7 e) 255
   refine X6 ?_
   refine Qm (Qm (Xi ?_))
   refine sR <| Qd (Qp Xq rfl Zl s2 m31.h1 sZ) <| Vz m31 (Qj (f := u8) (l := Gz (G7 e) 255) Qy Zl s2 rfl sD m31.h1 sZ rfl) fun w35 m35 => ?_
   refine rN (Xb ?_)
   refine Qv [(agg u8 (Gz (G7 e) 255))] ⟨⟨_, s2, Xr Xq rfl Zl m35.h1 sZ⟩, trivial⟩ ?_
   exact ⟨by unfold Qau; rfl, m35.toExt⟩
set_option maxHeartbeats 1000000 in
theorem Qqs (px pz qx qz x1 : List (BitVec 64)) (w0 : World)  (hpx : px.length = 5) (hpz : pz.length = 5) (hqx : qx.length = 5) (hqz : qz.length = 5) (hx1 : x1.length = 5) : X9 prog 80 #[(Value.agg (Qo [px.map u64, pz.map u64])), (Value.agg (Qo [qx.map u64, qz.map u64])), (agg u64 x1)] w0 (fun r w1 => r = (Value.tuple #[(Value.agg (Qo [((Aa px pz qx qz x1).px).map u64, ((Aa px pz qx qz x1).pz).map u64])), (Value.agg (Qo [((Aa px pz qx qz x1).qx).map u64, ((Aa px pz qx qz x1).qz).map u64]))]) ∧ Ext w0 w1) := by
 refine Zb (args := [(Value.agg (Qo [px.map u64, pz.map u64])), (Value.agg (Qo [qx.map u64, qz.map u64])), (agg u64 x1)]) func80 rfl ntmps80 results80 rfl ?_
 have m0 : Mem w0 (Qu w0) [] := Mem.of_world w0
 have hl0 := Qa1 hpx hpz
 have hl1 := Ti hpx hpz
 have hl2 := Qa1 hqx hqz
 have hl3 := Ti hqx hqz
 have hl4 := Ti (Vt (Z7 px pz) (Z7 px pz)) (Vt (Zf px pz) (Zf px pz))
 have hl5 := Qa1 (Vt (Zf qx qz) (Z7 px pz)) (Vt (Z7 qx qz) (Zf px pz))
 have hl6 := Ti (Vt (Zf qx qz) (Z7 px pz)) (Vt (Z7 qx qz) (Zf px pz))
 have hl7 := Qa1 (Vt (Z7 px pz) (Z7 px pz)) (Vt [121665#64, 0#64, 0#64, 0#64, 0#64] (Zf (Qr (Z7 px pz) (Z7 px pz)) (Qr (Zf px pz) (Zf px pz))))
 refine sR <| Y9 (F8 (cs := (Qo [px.map u64, pz.map u64])) m0 rfl) fun w1 b3 m1 => Y9 (F8 (cs := (Qo [qx.map u64, qz.map u64])) m1 rfl) fun w2 b4 m2 => Y9 (Xa (f := u64) (l := x1) m2 rfl) fun w3 b5 m3 => Y9 (Ji m3 Cf) fun w4 b6 m4 => Y9 (Ji m4 Cf) fun w5 b7 m5 => ?_
 refine rN (Qa ?_)
 refine Kr Xw ?_
 refine Qd9 [10, 11] (dl 10) 12 (luN [(10, 8), (11, 9)]) (luN [(10, 126), (11, 126)]) (luV [(10, (agg u64 (List.replicate 5 0))), (11, (agg u64 (List.replicate 5 0)))]) (fun g => g 0 = (Value.agg (Qo [px.map u64, pz.map u64])) ∧ g 1 = (Value.agg (Qo [qx.map u64, qz.map u64])) ∧ g 2 = (agg u64 x1) ∧ g 3 = (ptr b3 0) ∧ g 4 = (ptr b4 0) ∧ g 5 = (ptr b5 0) ∧ g 6 = (ptr b6 0) ∧ g 7 = (ptr b7 0) ∧ g 24 = (agg u64 (Z7 px pz)) ∧ g 29 = (agg u64 (Zf px pz)) ∧ True) m5 (Wy ⟨⟨_, _, _, rfl⟩, rfl, _, _, Yw⟩ (Wy ⟨⟨_, _, _, rfl⟩, rfl, _, _, Yw⟩ Su)) (fun sx6 hS6 => ?_) ?_
 ·skip
  refine Yb rfl (Zr (r := 0) Hz rfl Jr Yw rfl rfl) <| Yn rfl (fun _ e' => Jv 0 Xt Yw rfl (m5.ext e').h4 rfl) <| Yb rfl (Zr (r := 5) Hz rfl Jr Yw rfl rfl) <| Yn rfl (fun _ e' => Jv 1 Xt Yw rfl (m5.ext e').h4 rfl) <| Vg rfl rfl (fun w7 e7 => oc97 (Xm rfl rfl) (Qml _ _ _ sD sD)) <| Yb rfl (Zr (r := 0) Hz rfl Jr Yw rfl rfl) <| Yn rfl (fun _ e' => Jv 0 Xt Yw rfl (m5.ext e').h4 rfl) <| Yb rfl (Zr (r := 5) Hz rfl Jr Yw rfl rfl) <| Yn rfl (fun _ e' => Jv 1 Xt Yw rfl (m5.ext e').h4 rfl) <| Vg rfl rfl (fun w10 e10 => oc98 (Xm rfl rfl) (Qib _ _ _ sD sD)) ?_
  exact hS6 _ ⟨rfl, rfl, rfl, rfl, rfl, rfl, rfl, rfl, rfl, rfl, trivial⟩
 rintro g13 ⟨s0, s1, s2, s3, s4, s5, s6, s7, s24, s29, _⟩ w15 ps15 hmm15
 have m15 : Mem _ _ [((ps15 10), .cells (cl u64 (List.replicate 5 0)) 126 (0, 0)), ((ps15 11), .cells (cl u64 (List.replicate 5 0)) 126 (0, 0)), _, _, _, _, _] := hmm15
 show RW _ _ _ _ _ (upd (upd g13 9 (ptr (ps15 11) 0)) 8 (ptr (ps15 10) 0)) _
 generalize ps15 10 = b8, ps15 11 = b9 at m15 ⊢
 refine Ye m15 (Qj (f := u64) (l := Z7 px pz) Xy Yw rfl s24 sD m15.h0 sZ rfl) fun w16 m16 => Vz m16 (Qj (f := u64) (l := Zf px pz) Xy Yw rfl s29 sD m16.h1 sZ rfl) fun w17 m17 => ?_
 refine rN (Qa ?_)
 refine Kr Xw ?_
 refine Qd9 [10, 11] (dl 10) 12 (luN [(10, 10), (11, 11)]) (luN [(10, 126), (11, 126)]) (luV [(10, (agg u64 (List.replicate 5 0))), (11, (agg u64 (List.replicate 5 0)))]) (fun g => g 0 = (Value.agg (Qo [px.map u64, pz.map u64])) ∧ g 1 = (Value.agg (Qo [qx.map u64, qz.map u64])) ∧ g 2 = (agg u64 x1) ∧ g 3 = (ptr b3 0) ∧ g 4 = (ptr b4 0) ∧ g 5 = (ptr b5 0) ∧ g 6 = (ptr b6 0) ∧ g 7 = (ptr b7 0) ∧ g 8 = (ptr b8 0) ∧ g 9 = (ptr b9 0) ∧ g 34 = (agg u64 (Z7 qx qz)) ∧ g 39 = (agg u64 (Zf qx qz)) ∧ True) m17 (Wy ⟨⟨_, _, _, rfl⟩, rfl, _, _, Yw⟩ (Wy ⟨⟨_, _, _, rfl⟩, rfl, _, _, Yw⟩ Su)) (fun sx18 hS18 => ?_) ?_
 ·skip
  refine Yb rfl (Zr (r := 0) Hz rfl Jr Yw rfl s4) <| Yn rfl (fun _ e' => Jv 0 Xt Yw rfl (m17.ext e').h5 rfl) <| Yb rfl (Zr (r := 5) Hz rfl Jr Yw rfl s4) <| Yn rfl (fun _ e' => Jv 1 Xt Yw rfl (m17.ext e').h5 rfl) <| Vg rfl rfl (fun w19 e19 => oc97 (Xm rfl rfl) (Qml _ _ _ sD sD)) <| Yb rfl (Zr (r := 0) Hz rfl Jr Yw rfl s4) <| Yn rfl (fun _ e' => Jv 0 Xt Yw rfl (m17.ext e').h5 rfl) <| Yb rfl (Zr (r := 5) Hz rfl Jr Yw rfl s4) <| Yn rfl (fun _ e' => Jv 1 Xt Yw rfl (m17.ext e').h5 rfl) <| Vg rfl rfl (fun w22 e22 => oc98 (Xm rfl rfl) (Qib _ _ _ sD sD)) ?_
  exact hS18 _ ⟨s0, s1, s2, s3, s4, s5, s6, s7, rfl, rfl, rfl, rfl, trivial⟩
 rintro g25 ⟨s0, s1, s2, s3, s4, s5, s6, s7, s8, s9, s34, s39, _⟩ w27 ps27 hmm27
 have m27 : Mem _ _ [((ps27 10), .cells (cl u64 (List.replicate 5 0)) 126 (0, 0)), ((ps27 11), .cells (cl u64 (List.replicate 5 0)) 126 (0, 0)), _, _, _, _, _, _, _] := hmm27
 show RW _ _ _ _ _ (upd (upd g25 11 (ptr (ps27 11) 0)) 10 (ptr (ps27 10) 0)) _
 generalize ps27 10 = b10, ps27 11 = b11 at m27 ⊢
 refine Ye m27 (Qj (f := u64) (l := Z7 qx qz) Xy Yw rfl s34 sD m27.h0 sZ rfl) fun w28 m28 => Vz m28 (Qj (f := u64) (l := Zf qx qz) Xy Yw rfl s39 sD m28.h1 sZ rfl) fun w29 m29 => ?_
 refine rN (Qa ?_)
 refine Kr Xw ?_
 refine Qd9 [6, 7] (dl 6) 8 (luN [(6, 12), (7, 13)]) (luN [(6, 126), (7, 126)]) (luV [(6, (agg u64 (List.replicate 5 0))), (7, (agg u64 (List.replicate 5 0)))]) (fun g => g 0 = (Value.agg (Qo [px.map u64, pz.map u64])) ∧ g 1 = (Value.agg (Qo [qx.map u64, qz.map u64])) ∧ g 2 = (agg u64 x1) ∧ g 3 = (ptr b3 0) ∧ g 4 = (ptr b4 0) ∧ g 5 = (ptr b5 0) ∧ g 6 = (ptr b6 0) ∧ g 7 = (ptr b7 0) ∧ g 8 = (ptr b8 0) ∧ g 9 = (ptr b9 0) ∧ g 10 = (ptr b10 0) ∧ g 11 = (ptr b11 0) ∧ g 42 = (agg u64 (Qr (Zf qx qz) (Z7 px pz))) ∧ g 45 = (agg u64 (Qr (Z7 qx qz) (Zf px pz))) ∧ True) m29 (Wy ⟨⟨_, _, _, rfl⟩, rfl, _, _, Yw⟩ (Wy ⟨⟨_, _, _, rfl⟩, rfl, _, _, Yw⟩ Su)) (fun sx30 hS30 => ?_) ?_
 ·skip
  refine Yn rfl (fun _ e' => Qp Xt rfl Yw rfl (m29.ext e').h1 sZ) <| Yn rfl (fun _ e' => Qp Xt rfl Yw s8 (m29.ext e').h2 sZ) <| Vg rfl rfl (fun w31 e31 => Qgk (Xm rfl rfl) (D5 _ _ _ sD sD)) <| Yn rfl (fun _ e' => Qp Xt rfl Yw rfl (m29.ext e').h0 sZ) <| Yn rfl (fun _ e' => Qp Xt rfl Yw s9 (m29.ext e').h3 sZ) <| Vg rfl rfl (fun w34 e34 => Qgk (Xm rfl rfl) (D5 _ _ _ sD sD)) ?_
  exact hS30 _ ⟨s0, s1, s2, s3, s4, s5, s6, s7, s8, s9, rfl, rfl, rfl, rfl, trivial⟩
 rintro g37 ⟨s0, s1, s2, s3, s4, s5, s6, s7, s8, s9, s10, s11, s42, s45, _⟩ w39 ps39 hmm39
 have m39 : Mem _ _ [((ps39 6), .cells (cl u64 (List.replicate 5 0)) 126 (0, 0)), ((ps39 7), .cells (cl u64 (List.replicate 5 0)) 126 (0, 0)), _, _, _, _, _, _, _, _, _] := hmm39
 show RW _ _ _ _ _ (upd (upd g37 13 (ptr (ps39 7) 0)) 12 (ptr (ps39 6) 0)) _
 generalize ps39 6 = b12, ps39 7 = b13 at m39 ⊢
 refine Ye m39 (Qj (f := u64) (l := Qr (Zf qx qz) (Z7 px pz)) Xy Yw rfl s42 sD m39.h0 sZ rfl) fun w40 m40 => Vz m40 (Qj (f := u64) (l := Qr (Z7 qx qz) (Zf px pz)) Xy Yw rfl s45 sD m40.h1 sZ rfl) fun w41 m41 => ?_
 refine rN (Qa ?_)
 refine Kr Xw ?_
 refine Qd9 [6, 7] (dl 6) 8 (luN [(6, 14), (7, 15)]) (luN [(6, 126), (7, 126)]) (luV [(6, (agg u64 (List.replicate 5 0))), (7, (agg u64 (List.replicate 5 0)))]) (fun g => g 0 = (Value.agg (Qo [px.map u64, pz.map u64])) ∧ g 1 = (Value.agg (Qo [qx.map u64, qz.map u64])) ∧ g 2 = (agg u64 x1) ∧ g 3 = (ptr b3 0) ∧ g 4 = (ptr b4 0) ∧ g 5 = (ptr b5 0) ∧ g 6 = (ptr b6 0) ∧ g 7 = (ptr b7 0) ∧ g 8 = (ptr b8 0) ∧ g 9 = (ptr b9 0) ∧ g 10 = (ptr b10 0) ∧ g 11 = (ptr b11 0) ∧ g 12 = (ptr b12 0) ∧ g 13 = (ptr b13 0) ∧ g 48 = (agg u64 (Qr (Z7 px pz) (Z7 px pz))) ∧ g 51 = (agg u64 (Qr (Zf px pz) (Zf px pz))) ∧ True) m41 (Wy ⟨⟨_, _, _, rfl⟩, rfl, _, _, Yw⟩ (Wy ⟨⟨_, _, _, rfl⟩, rfl, _, _, Yw⟩ Su)) (fun sx42 hS42 => ?_) ?_
 ·skip
  refine Yn rfl (fun _ e' => Qp Xt rfl Yw s8 (m41.ext e').h4 sZ) <| Yn rfl (fun _ e' => Qp Xt rfl Yw s8 (m41.ext e').h4 sZ) <| Vg rfl rfl (fun w43 e43 => Qgk (Xm rfl rfl) (D5 _ _ _ sD sD)) <| Yn rfl (fun _ e' => Qp Xt rfl Yw s9 (m41.ext e').h5 sZ) <| Yn rfl (fun _ e' => Qp Xt rfl Yw s9 (m41.ext e').h5 sZ) <| Vg rfl rfl (fun w46 e46 => Qgk (Xm rfl rfl) (D5 _ _ _ sD sD)) ?_
  exact hS42 _ ⟨s0, s1, s2, s3, s4, s5, s6, s7, s8, s9, s10, s11, rfl, rfl, rfl, rfl, trivial⟩
 rintro g49 ⟨s0, s1, s2, s3, s4, s5, s6, s7, s8, s9, s10, s11, s12, s13, s48, s51, _⟩ w51 ps51 hmm51
 have m51 : Mem _ _ [((ps51 6), .cells (cl u64 (List.replicate 5 0)) 126 (0, 0)), ((ps51 7), .cells (cl u64 (List.replicate 5 0)) 126 (0, 0)), _, _, _, _, _, _, _, _, _, _, _] := hmm51
 show RW _ _ _ _ _ (upd (upd g49 15 (ptr (ps51 7) 0)) 14 (ptr (ps51 6) 0)) _
 generalize ps51 6 = b14, ps51 7 = b15 at m51 ⊢
 refine Ye m51 (Qj (f := u64) (l := Qr (Z7 px pz) (Z7 px pz)) Xy Yw rfl s48 sD m51.h0 sZ rfl) fun w52 m52 => Vz m52 (Qj (f := u64) (l := Qr (Zf px pz) (Zf px pz)) Xy Yw rfl s51 sD m52.h1 sZ rfl) fun w53 m53 => ?_
 refine rN (sR ?_)
 refine Qd (Qp Xt rfl Yw rfl m53.h0 sZ) <| Qd (Qp Xt rfl Yw rfl m53.h1 sZ) <| U9 m53 (oc98 (Xm rfl rfl) (Qib _ _ _ sD sD)) fun w54 m54 => Y9 (Zc m54 Yw) fun w56 b16 m56 => Ye m56 (Qj (f := u64) (l := Zf (Qr (Z7 px pz) (Z7 px pz)) (Qr (Zf px pz) (Zf px pz))) Xy Yw rfl rfl sD m56.h0 sZ rfl) fun w57 m57 => ?_
 refine rN (Qa ?_)
 refine Kr Xw ?_
 refine Qd9 [6, 7] (dl 6) 8 (luN [(6, 17), (7, 18)]) (luN [(6, 126), (7, 126)]) (luV [(6, (agg u64 (List.replicate 5 0))), (7, (agg u64 (List.replicate 5 0)))]) (fun g => g 0 = (Value.agg (Qo [px.map u64, pz.map u64])) ∧ g 1 = (Value.agg (Qo [qx.map u64, qz.map u64])) ∧ g 2 = (agg u64 x1) ∧ g 3 = (ptr b3 0) ∧ g 4 = (ptr b4 0) ∧ g 5 = (ptr b5 0) ∧ g 6 = (ptr b6 0) ∧ g 7 = (ptr b7 0) ∧ g 8 = (ptr b8 0) ∧ g 9 = (ptr b9 0) ∧ g 10 = (ptr b10 0) ∧ g 11 = (ptr b11 0) ∧ g 12 = (ptr b12 0) ∧ g 13 = (ptr b13 0) ∧ g 14 = (ptr b14 0) ∧ g 15 = (ptr b15 0) ∧ g 16 = (ptr b16 0) ∧ g 57 = (agg u64 (Z7 (Qr (Zf qx qz) (Z7 px pz)) (Qr (Z7 qx qz) (Zf px pz)))) ∧ g 60 = (agg u64 (Zf (Qr (Zf qx qz) (Z7 px pz)) (Qr (Z7 qx qz) (Zf px pz)))) ∧ True) m57 (Wy ⟨⟨_, _, _, rfl⟩, rfl, _, _, Yw⟩ (Wy ⟨⟨_, _, _, rfl⟩, rfl, _, _, Yw⟩ Su)) (fun sx58 hS58 => ?_) ?_
 ·skip
  refine Yn rfl (fun _ e' => Qp Xt rfl Yw s12 (m57.ext e').h3 sZ) <| Yn rfl (fun _ e' => Qp Xt rfl Yw s13 (m57.ext e').h4 sZ) <| Vg rfl rfl (fun w59 e59 => oc97 (Xm rfl rfl) (Qml _ _ _ sD sD)) <| Yn rfl (fun _ e' => Qp Xt rfl Yw s12 (m57.ext e').h3 sZ) <| Yn rfl (fun _ e' => Qp Xt rfl Yw s13 (m57.ext e').h4 sZ) <| Vg rfl rfl (fun w62 e62 => oc98 (Xm rfl rfl) (Qib _ _ _ sD sD)) ?_
  exact hS58 _ ⟨s0, s1, s2, s3, s4, s5, s6, s7, s8, s9, s10, s11, s12, s13, rfl, rfl, rfl, rfl, rfl, trivial⟩
 rintro g65 ⟨s0, s1, s2, s3, s4, s5, s6, s7, s8, s9, s10, s11, s12, s13, s14, s15, s16, s57, s60, _⟩ w67 ps67 hmm67
 have m67 : Mem _ _ [((ps67 6), .cells (cl u64 (List.replicate 5 0)) 126 (0, 0)), ((ps67 7), .cells (cl u64 (List.replicate 5 0)) 126 (0, 0)), _, _, _, _, _, _, _, _, _, _, _, _, _, _] := hmm67
 show RW _ _ _ _ _ (upd (upd g65 18 (ptr (ps67 7) 0)) 17 (ptr (ps67 6) 0)) _
 generalize ps67 6 = b17, ps67 7 = b18 at m67 ⊢
 refine Ye m67 (Qj (f := u64) (l := Z7 (Qr (Zf qx qz) (Z7 px pz)) (Qr (Z7 qx qz) (Zf px pz))) Xy Yw rfl s57 sD m67.h0 sZ rfl) fun w68 m68 => Vz m68 (Qj (f := u64) (l := Zf (Qr (Zf qx qz) (Z7 px pz)) (Qr (Z7 qx qz) (Zf px pz))) Xy Yw rfl s60 sD m68.h1 sZ rfl) fun w69 m69 => ?_
 refine rN (Qa ?_)
 refine Xl [(0, false), (1, false), (2, false), (3, false), (4, false), (5, false), (6, false), (7, false), (8, false), (9, false), (10, false), (11, true)] 12 Xw <| Yn rfl (fun _ e' => Qp Xt rfl Yw s14 (m69.ext e').h3 sZ) <| Yn rfl (fun _ e' => Qp Xt rfl Yw s15 (m69.ext e').h4 sZ) <| Vg rfl rfl (fun w70 e70 => Qgk (Xm rfl rfl) (D5 _ _ _ sD sD)) <| Yn rfl (fun _ e' => Qp Xt rfl Yw s16 (m69.ext e').h2 sZ) <| Yn rfl (fun _ e' => Qp Xt rfl Yw s14 (m69.ext e').h3 sZ) <| Yb rfl (G5 (c := (cl u64 ([121665#64, 0#64, 0#64, 0#64, 0#64]))) Yw Xt Xu (J3 (i := 0) (v := (u64 121665#64)) (cs := #[(u64 121665#64)]) rfl rfl V3) Xw) <| Yn rfl (fun _ e' => Qp Xt rfl Yw s16 (m69.ext e').h2 sZ) <| Vg rfl rfl (fun w73 e73 => Qgk (Xm rfl rfl) (D5 _ _ _ sD sD)) <| Vg rfl rfl (fun w76 e76 => oc97 (Xm rfl rfl) (Qml _ _ _ sD sD)) <| Vg rfl rfl (fun w79 e79 => Qgk (Xm rfl rfl) (D5 _ _ _ sD sD)) <| Yb rfl (Va (c := (Qo [(Qr (Qr (Z7 px pz) (Z7 px pz)) (Qr (Zf px pz) (Zf px pz))).map u64, (Qr (Zf (Qr (Z7 px pz) (Z7 px pz)) (Qr (Zf px pz) (Zf px pz))) (Z7 (Qr (Z7 px pz) (Z7 px pz)) (Qr ([121665#64, 0#64, 0#64, 0#64, 0#64]) (Zf (Qr (Z7 px pz) (Z7 px pz)) (Qr (Zf px pz) (Zf px pz)))))).map u64])) (pl := [(0, 5), (5, 5)]) Cf Hz Xw (J3 (i := 0) (v := (agg u64 (Qr (Qr (Z7 px pz) (Z7 px pz)) (Qr (Zf px pz) (Zf px pz))))) (cs := (cl u64 (Qr (Qr (Z7 px pz) (Z7 px pz)) (Qr (Zf px pz) (Zf px pz))))) rfl rfl (J3 (i := 1) (v := (agg u64 (Qr (Zf (Qr (Z7 px pz) (Z7 px pz)) (Qr (Zf px pz) (Zf px pz))) (Z7 (Qr (Z7 px pz) (Z7 px pz)) (Qr ([121665#64, 0#64, 0#64, 0#64, 0#64]) (Zf (Qr (Z7 px pz) (Z7 px pz)) (Qr (Zf px pz) (Zf px pz)))))))) (cs := (cl u64 (Qr (Zf (Qr (Z7 px pz) (Z7 px pz)) (Qr (Zf px pz) (Zf px pz))) (Z7 (Qr (Z7 px pz) (Z7 px pz)) (Qr ([121665#64, 0#64, 0#64, 0#64, 0#64]) (Zf (Qr (Z7 px pz) (Z7 px pz)) (Qr (Zf px pz) (Zf px pz)))))))) rfl rfl V3)) (V9 (L := [(List.replicate 5 0).map u64, (List.replicate 5 0).map u64]) 0 [(Qr (Qr (Z7 px pz) (Z7 px pz)) (Qr (Zf px pz) (Zf px pz))).map u64, (List.replicate 5 0).map u64] rfl (Gt u64 _).symm rfl (V9 1 [(Qr (Qr (Z7 px pz) (Z7 px pz)) (Qr (Zf px pz) (Zf px pz))).map u64, (Qr (Zf (Qr (Z7 px pz) (Z7 px pz)) (Qr (Zf px pz) (Zf px pz))) (Z7 (Qr (Z7 px pz) (Z7 px pz)) (Qr ([121665#64, 0#64, 0#64, 0#64, 0#64]) (Zf (Qr (Z7 px pz) (Z7 px pz)) (Qr (Zf px pz) (Zf px pz)))))).map u64] rfl (Gt u64 _).symm rfl Dq))) ?_
 refine Cj rfl rfl (fun w82 e82 => ?_)
 have m82 := m69.ext e82
 refine Vp.mono (Ji m82 Cf) ?_
 rintro _ w83 ⟨b19, rfl, e83, m83⟩
 refine ⟨e83, ?_⟩
 refine Gs m83 fun w84 m84 => Vk (Ub [(Qr (Qr (Z7 px pz) (Z7 px pz)) (Qr (Zf px pz) (Zf px pz))).map u64, (Qr (Zf (Qr (Z7 px pz) (Z7 px pz)) (Qr (Zf px pz) (Zf px pz))) (Z7 (Qr (Z7 px pz) (Z7 px pz)) (Qr ([121665#64, 0#64, 0#64, 0#64, 0#64]) (Zf (Qr (Z7 px pz) (Z7 px pz)) (Qr (Zf px pz) (Zf px pz)))))).map u64] Cf rfl rfl (Ej (n := 5) (m := 5) (k := 10) (by first | rfl | (rw [List.length_map]; first | omega | (simp; done) | (simp; omega))) (Ej (n := 5) (m := 0) (k := 5) (by first | rfl | (rw [List.length_map]; first | omega | (simp; done) | (simp; omega))) Qdb rfl) rfl) (Yr (Jo Xy _) (Yr (Jo Xy _) Fa)) m84.h0 rfl rfl) ?_
 rintro _ w85 uq85
 have m85 : Mem _ _ [(b19, .cells (Qo [(Qr (Qr (Z7 px pz) (Z7 px pz)) (Qr (Zf px pz) (Zf px pz))).map u64, (Qr (Zf (Qr (Z7 px pz) (Z7 px pz)) (Qr (Zf px pz) (Zf px pz))) (Z7 (Qr (Z7 px pz) (Z7 px pz)) (Qr ([121665#64, 0#64, 0#64, 0#64, 0#64]) (Zf (Qr (Z7 px pz) (Z7 px pz)) (Qr (Zf px pz) (Zf px pz)))))).map u64]) 129 (0, 0)), _, _, _, _, _, _, _, _, _, _, _, _, _, _, _, _] := m84.upd0 uq85
 refine rN (Qa ?_)
 refine Kr Xw ?_
 have m86 := (Mem.pick [_, _, _, _, _, _, _, _, _, _, _, _, _, _, _, _] [_] _ m85)
 have m87 := (Mem.pick [_, _, _, _, _, _, _, _, _, _, _, _, _, _, _, _] [_] _ m86)
 have m88 := (Mem.pick [_, _, _, _, _, _, _, _, _, _, _, _, _, _, _, _] [_] _ m87)
 have m89 := (Mem.pick [_, _, _, _, _, _, _, _, _, _, _, _, _, _, _] [_] _ m88)
 have m90 := (Mem.pick [_, _, _, _, _, _, _, _, _, _, _, _, _, _, _] [_] _ m89)
 have m91 := (Mem.pick [_, _, _, _, _, _, _, _, _, _, _, _, _, _, _] [_] _ m90)
 have m92 := (Mem.pick [_, _, _, _, _, _, _, _, _, _, _, _, _, _, _] [_] _ m91)
 have m93 := (Mem.pick [_, _, _, _, _, _, _, _, _, _, _, _, _, _, _] [_] _ m92)
 have m94 := (Mem.pick [_, _, _, _, _, _, _, _, _, _, _, _, _, _, _] [_] _ m93)
 have m95 := (Mem.pick [_, _, _, _, _, _, _, _, _, _, _, _, _, _, _] [_] _ m94)
 have m96 := (Mem.pick [_, _, _, _, _, _, _, _, _, _, _, _, _, _, _] [_] _ m95)
 have m97 := (Mem.pick [_, _, _, _, _, _, _, _, _, _, _, _, _, _, _] [_] _ m96)
 have m98 := (Mem.pick [_, _, _, _, _, _, _, _, _, _, _, _, _, _, _] [_] _ m97)
 have m99 := (Mem.pick [_, _, _, _, _, _, _, _, _, _, _, _, _, _, _] [_] _ m98)
 have m100 := (Mem.pick [_, _, _, _, _, _, _, _, _, _, _, _, _, _, _] [_] _ m99)
 have m101 := (Mem.pick [_, _, _, _, _, _, _, _, _, _, _, _, _, _, _] [_] _ m100)
 have m102 := (Mem.pick [_, _, _, _, _, _, _, _, _, _, _, _, _, _, _, _] [_] _ m101)
 have hFM103 : Mem w85 (Qu w0) ([(b6, .cells #[(u64 0), (u64 0), (u64 0), (u64 0), (u64 0), (u64 0), (u64 0), (u64 0), (u64 0), (u64 0)] 129 (0, 0))] ++ [(b19, .cells (Qo [(Qr (Qr (Z7 px pz) (Z7 px pz)) (Qr (Zf px pz) (Zf px pz))).map u64, (Qr (Zf (Qr (Z7 px pz) (Z7 px pz)) (Qr (Zf px pz) (Zf px pz))) (Z7 (Qr (Z7 px pz) (Z7 px pz)) (Qr ([121665#64, 0#64, 0#64, 0#64, 0#64]) (Zf (Qr (Z7 px pz) (Z7 px pz)) (Qr (Zf px pz) (Zf px pz)))))).map u64]) 129 (0, 0)), (b17, .cells (cl u64 (Z7 (Qr (Zf qx qz) (Z7 px pz)) (Qr (Z7 qx qz) (Zf px pz)))) 126 (0, 0)), (b18, .cells (cl u64 (Zf (Qr (Zf qx qz) (Z7 px pz)) (Qr (Z7 qx qz) (Zf px pz)))) 126 (0, 0)), (b16, .cells (cl u64 (Zf (Qr (Z7 px pz) (Z7 px pz)) (Qr (Zf px pz) (Zf px pz)))) 126 (0, 0)), (b14, .cells (cl u64 (Qr (Z7 px pz) (Z7 px pz))) 126 (0, 0)), (b15, .cells (cl u64 (Qr (Zf px pz) (Zf px pz))) 126 (0, 0)), (b12, .cells (cl u64 (Qr (Zf qx qz) (Z7 px pz))) 126 (0, 0)), (b13, .cells (cl u64 (Qr (Z7 qx qz) (Zf px pz))) 126 (0, 0)), (b10, .cells (cl u64 (Z7 qx qz)) 126 (0, 0)), (b11, .cells (cl u64 (Zf qx qz)) 126 (0, 0)), (b8, .cells (cl u64 (Z7 px pz)) 126 (0, 0)), (b9, .cells (cl u64 (Zf px pz)) 126 (0, 0)), (b7, .cells #[(u64 0), (u64 0), (u64 0), (u64 0), (u64 0), (u64 0), (u64 0), (u64 0), (u64 0), (u64 0)] 129 (0, 0)), (b5, .cells (cl u64 x1) 126 (0, 0)), (b4, .cells (Qo [qx.map u64, qz.map u64]) 129 (0, 0)), (b3, .cells (Qo [px.map u64, pz.map u64]) 129 (0, 0))]) := m102
 obtain ⟨RM103, hRM103⟩ : ∃ R2, R2 = Rest.add (Qu w0) [(b19, .cells (Qo [(Qr (Qr (Z7 px pz) (Z7 px pz)) (Qr (Zf px pz) (Zf px pz))).map u64, (Qr (Zf (Qr (Z7 px pz) (Z7 px pz)) (Qr (Zf px pz) (Zf px pz))) (Z7 (Qr (Z7 px pz) (Z7 px pz)) (Qr ([121665#64, 0#64, 0#64, 0#64, 0#64]) (Zf (Qr (Z7 px pz) (Z7 px pz)) (Qr (Zf px pz) (Zf px pz)))))).map u64]) 129 (0, 0)), (b17, .cells (cl u64 (Z7 (Qr (Zf qx qz) (Z7 px pz)) (Qr (Z7 qx qz) (Zf px pz)))) 126 (0, 0)), (b18, .cells (cl u64 (Zf (Qr (Zf qx qz) (Z7 px pz)) (Qr (Z7 qx qz) (Zf px pz)))) 126 (0, 0)), (b16, .cells (cl u64 (Zf (Qr (Z7 px pz) (Z7 px pz)) (Qr (Zf px pz) (Zf px pz)))) 126 (0, 0)), (b14, .cells (cl u64 (Qr (Z7 px pz) (Z7 px pz))) 126 (0, 0)), (b15, .cells (cl u64 (Qr (Zf px pz) (Zf px pz))) 126 (0, 0)), (b12, .cells (cl u64 (Qr (Zf qx qz) (Z7 px pz))) 126 (0, 0)), (b13, .cells (cl u64 (Qr (Z7 qx qz) (Zf px pz))) 126 (0, 0)), (b10, .cells (cl u64 (Z7 qx qz)) 126 (0, 0)), (b11, .cells (cl u64 (Zf qx qz)) 126 (0, 0)), (b8, .cells (cl u64 (Z7 px pz)) 126 (0, 0)), (b9, .cells (cl u64 (Zf px pz)) 126 (0, 0)), (b7, .cells #[(u64 0), (u64 0), (u64 0), (u64 0), (u64 0), (u64 0), (u64 0), (u64 0), (u64 0), (u64 0)] 129 (0, 0)), (b5, .cells (cl u64 x1) 126 (0, 0)), (b4, .cells (Qo [qx.map u64, qz.map u64]) 129 (0, 0)), (b3, .cells (Qo [px.map u64, pz.map u64]) 129 (0, 0))] := ⟨_, rfl⟩
 have M1030 : Mem w85 RM103 [(b6, .cells #[(u64 0), (u64 0), (u64 0), (u64 0), (u64 0), (u64 0), (u64 0), (u64 0), (u64 0), (u64 0)] 129 (0, 0))] := by rw [hRM103]; exact Mem.give hFM103
 have ho104 : RM103.blk b19 = some (.cells (Qo [(Qr (Qr (Z7 px pz) (Z7 px pz)) (Qr (Zf px pz) (Zf px pz))).map u64, (Qr (Zf (Qr (Z7 px pz) (Z7 px pz)) (Qr (Zf px pz) (Zf px pz))) (Z7 (Qr (Z7 px pz) (Z7 px pz)) (Qr ([121665#64, 0#64, 0#64, 0#64, 0#64]) (Zf (Qr (Z7 px pz) (Z7 px pz)) (Qr (Zf px pz) (Zf px pz)))))).map u64]) 129 (0, 0)) := by rw [hRM103]; exact Mem.addOwn hFM103 (List.Mem.head _)
 have ho105 : RM103.blk b17 = some (.cells (cl u64 (Z7 (Qr (Zf qx qz) (Z7 px pz)) (Qr (Z7 qx qz) (Zf px pz)))) 126 (0, 0)) := by rw [hRM103]; exact Mem.addOwn hFM103 (List.Mem.tail _ (List.Mem.head _))
 have ho106 : RM103.blk b18 = some (.cells (cl u64 (Zf (Qr (Zf qx qz) (Z7 px pz)) (Qr (Z7 qx qz) (Zf px pz)))) 126 (0, 0)) := by rw [hRM103]; exact Mem.addOwn hFM103 (List.Mem.tail _ (List.Mem.tail _ (List.Mem.head _)))
 have ho107 : RM103.blk b16 = some (.cells (cl u64 (Zf (Qr (Z7 px pz) (Z7 px pz)) (Qr (Zf px pz) (Zf px pz)))) 126 (0, 0)) := by rw [hRM103]; exact Mem.addOwn hFM103 (List.Mem.tail _ (List.Mem.tail _ (List.Mem.tail _ (List.Mem.head _))))
 have ho108 : RM103.blk b14 = some (.cells (cl u64 (Qr (Z7 px pz) (Z7 px pz))) 126 (0, 0)) := by rw [hRM103]; exact Mem.addOwn hFM103 (List.Mem.tail _ (List.Mem.tail _ (List.Mem.tail _ (List.Mem.tail _ (List.Mem.head _)))))
 have ho109 : RM103.blk b15 = some (.cells (cl u64 (Qr (Zf px pz) (Zf px pz))) 126 (0, 0)) := by rw [hRM103]; exact Mem.addOwn hFM103 (List.Mem.tail _ (List.Mem.tail _ (List.Mem.tail _ (List.Mem.tail _ (List.Mem.tail _ (List.Mem.head _))))))
 have ho110 : RM103.blk b12 = some (.cells (cl u64 (Qr (Zf qx qz) (Z7 px pz))) 126 (0, 0)) := by rw [hRM103]; exact Mem.addOwn hFM103 (List.Mem.tail _ (List.Mem.tail _ (List.Mem.tail _ (List.Mem.tail _ (List.Mem.tail _ (List.Mem.tail _ (List.Mem.head _)))))))
 have ho111 : RM103.blk b13 = some (.cells (cl u64 (Qr (Z7 qx qz) (Zf px pz))) 126 (0, 0)) := by rw [hRM103]; exact Mem.addOwn hFM103 (List.Mem.tail _ (List.Mem.tail _ (List.Mem.tail _ (List.Mem.tail _ (List.Mem.tail _ (List.Mem.tail _ (List.Mem.tail _ (List.Mem.head _))))))))
 have ho112 : RM103.blk b10 = some (.cells (cl u64 (Z7 qx qz)) 126 (0, 0)) := by rw [hRM103]; exact Mem.addOwn hFM103 (List.Mem.tail _ (List.Mem.tail _ (List.Mem.tail _ (List.Mem.tail _ (List.Mem.tail _ (List.Mem.tail _ (List.Mem.tail _ (List.Mem.tail _ (List.Mem.head _)))))))))
 have ho113 : RM103.blk b11 = some (.cells (cl u64 (Zf qx qz)) 126 (0, 0)) := by rw [hRM103]; exact Mem.addOwn hFM103 (List.Mem.tail _ (List.Mem.tail _ (List.Mem.tail _ (List.Mem.tail _ (List.Mem.tail _ (List.Mem.tail _ (List.Mem.tail _ (List.Mem.tail _ (List.Mem.tail _ (List.Mem.head _))))))))))
 have ho114 : RM103.blk b8 = some (.cells (cl u64 (Z7 px pz)) 126 (0, 0)) := by rw [hRM103]; exact Mem.addOwn hFM103 (List.Mem.tail _ (List.Mem.tail _ (List.Mem.tail _ (List.Mem.tail _ (List.Mem.tail _ (List.Mem.tail _ (List.Mem.tail _ (List.Mem.tail _ (List.Mem.tail _ (List.Mem.tail _ (List.Mem.head _)))))))))))
 have ho115 : RM103.blk b9 = some (.cells (cl u64 (Zf px pz)) 126 (0, 0)) := by rw [hRM103]; exact Mem.addOwn hFM103 (List.Mem.tail _ (List.Mem.tail _ (List.Mem.tail _ (List.Mem.tail _ (List.Mem.tail _ (List.Mem.tail _ (List.Mem.tail _ (List.Mem.tail _ (List.Mem.tail _ (List.Mem.tail _ (List.Mem.tail _ (List.Mem.head _))))))))))))
 have ho116 : RM103.blk b7 = some (.cells #[(u64 0), (u64 0), (u64 0), (u64 0), (u64 0), (u64 0), (u64 0), (u64 0), (u64 0), (u64 0)] 129 (0, 0)) := by rw [hRM103]; exact Mem.addOwn hFM103 (List.Mem.tail _ (List.Mem.tail _ (List.Mem.tail _ (List.Mem.tail _ (List.Mem.tail _ (List.Mem.tail _ (List.Mem.tail _ (List.Mem.tail _ (List.Mem.tail _ (List.Mem.tail _ (List.Mem.tail _ (List.Mem.tail _ (List.Mem.head _)))))))))))))
 have ho117 : RM103.blk b5 = some (.cells (cl u64 x1) 126 (0, 0)) := by rw [hRM103]; exact Mem.addOwn hFM103 (List.Mem.tail _ (List.Mem.tail _ (List.Mem.tail _ (List.Mem.tail _ (List.Mem.tail _ (List.Mem.tail _ (List.Mem.tail _ (List.Mem.tail _ (List.Mem.tail _ (List.Mem.tail _ (List.Mem.tail _ (List.Mem.tail _ (List.Mem.tail _ (List.Mem.head _))))))))))))))
 have ho118 : RM103.blk b4 = some (.cells (Qo [qx.map u64, qz.map u64]) 129 (0, 0)) := by rw [hRM103]; exact Mem.addOwn hFM103 (List.Mem.tail _ (List.Mem.tail _ (List.Mem.tail _ (List.Mem.tail _ (List.Mem.tail _ (List.Mem.tail _ (List.Mem.tail _ (List.Mem.tail _ (List.Mem.tail _ (List.Mem.tail _ (List.Mem.tail _ (List.Mem.tail _ (List.Mem.tail _ (List.Mem.tail _ (List.Mem.head _)))))))))))))))
 have ho119 : RM103.blk b3 = some (.cells (Qo [px.map u64, pz.map u64]) 129 (0, 0)) := by rw [hRM103]; exact Mem.addOwn hFM103 (List.Mem.tail _ (List.Mem.tail _ (List.Mem.tail _ (List.Mem.tail _ (List.Mem.tail _ (List.Mem.tail _ (List.Mem.tail _ (List.Mem.tail _ (List.Mem.tail _ (List.Mem.tail _ (List.Mem.tail _ (List.Mem.tail _ (List.Mem.tail _ (List.Mem.tail _ (List.Mem.tail _ (List.Mem.head _))))))))))))))))
 refine Dl M1030 [(0, false), (1, false), (2, false), (3, false), (4, false), (5, false), (6, false), (7, false), (8, false), (9, false), (10, true)] 11 rfl Xw <| yqH rfl (fun w _H _hx => Jk Hz Cf rfl (_hx.rest _ _ ho104)) <| yqH rfl (fun w _H _hx => Qp Xt rfl Yw rfl (_hx.rest _ _ ho105) sZ) <| yqH rfl (fun w _H _hx => Qp Xt rfl Yw rfl (_hx.rest _ _ ho105) sZ) <| dk_x rfl rfl (fun w120 _Hw120 _hw120 => Qgk (Xm rfl rfl) (D5 _ _ _ sD sD)) <| yqH rfl (fun w _H _hx => Qp Xt rfl Yw s5 (_hx.rest _ _ ho117) sZ) <| yqH rfl (fun w _H _hx => Qp Xt rfl Yw rfl (_hx.rest _ _ ho106) sZ) <| yqH rfl (fun w _H _hx => Qp Xt rfl Yw rfl (_hx.rest _ _ ho106) sZ) <| dk_x rfl rfl (fun w123 _Hw123 _hw123 => Qgk (Xm rfl rfl) (D5 _ _ _ sD sD)) <| dk_x rfl rfl (fun w126 _Hw126 _hw126 => Qgk (Xm rfl rfl) (D5 _ _ _ sD sD)) <| N8 rfl (Va (c := (Qo [(Qr (Z7 (Qr (Zf qx qz) (Z7 px pz)) (Qr (Z7 qx qz) (Zf px pz))) (Z7 (Qr (Zf qx qz) (Z7 px pz)) (Qr (Z7 qx qz) (Zf px pz)))).map u64, (Qr x1 (Qr (Zf (Qr (Zf qx qz) (Z7 px pz)) (Qr (Z7 qx qz) (Zf px pz))) (Zf (Qr (Zf qx qz) (Z7 px pz)) (Qr (Z7 qx qz) (Zf px pz))))).map u64])) (pl := [(0, 5), (5, 5)]) Cf Hz Xw (J3 (i := 0) (v := (agg u64 (Qr (Z7 (Qr (Zf qx qz) (Z7 px pz)) (Qr (Z7 qx qz) (Zf px pz))) (Z7 (Qr (Zf qx qz) (Z7 px pz)) (Qr (Z7 qx qz) (Zf px pz)))))) (cs := (cl u64 (Qr (Z7 (Qr (Zf qx qz) (Z7 px pz)) (Qr (Z7 qx qz) (Zf px pz))) (Z7 (Qr (Zf qx qz) (Z7 px pz)) (Qr (Z7 qx qz) (Zf px pz)))))) rfl rfl (J3 (i := 1) (v := (agg u64 (Qr x1 (Qr (Zf (Qr (Zf qx qz) (Z7 px pz)) (Qr (Z7 qx qz) (Zf px pz))) (Zf (Qr (Zf qx qz) (Z7 px pz)) (Qr (Z7 qx qz) (Zf px pz))))))) (cs := (cl u64 (Qr x1 (Qr (Zf (Qr (Zf qx qz) (Z7 px pz)) (Qr (Z7 qx qz) (Zf px pz))) (Zf (Qr (Zf qx qz) (Z7 px pz)) (Qr (Z7 qx qz) (Zf px pz))))))) rfl rfl V3)) (V9 (L := [(List.replicate 5 0).map u64, (List.replicate 5 0).map u64]) 0 [(Qr (Z7 (Qr (Zf qx qz) (Z7 px pz)) (Qr (Z7 qx qz) (Zf px pz))) (Z7 (Qr (Zf qx qz) (Z7 px pz)) (Qr (Z7 qx qz) (Zf px pz)))).map u64, (List.replicate 5 0).map u64] rfl (Gt u64 _).symm rfl (V9 1 [(Qr (Z7 (Qr (Zf qx qz) (Z7 px pz)) (Qr (Z7 qx qz) (Zf px pz))) (Z7 (Qr (Zf qx qz) (Z7 px pz)) (Qr (Z7 qx qz) (Zf px pz)))).map u64, (Qr x1 (Qr (Zf (Qr (Zf qx qz) (Z7 px pz)) (Qr (Z7 qx qz) (Zf px pz))) (Zf (Qr (Zf qx qz) (Z7 px pz)) (Qr (Z7 qx qz) (Zf px pz))))).map u64] rfl (Gt u64 _).symm rfl Dq))) ?_
 refine Qgu rfl (fun w129 e129 => ?_)
 have m129 := M1030.ext e129
 refine Vp.mono (Ub [(Qr (Qr (Z7 px pz) (Z7 px pz)) (Qr (Zf px pz) (Zf px pz))).map u64, (Qr (Zf (Qr (Z7 px pz) (Z7 px pz)) (Qr (Zf px pz) (Zf px pz))) (Z7 (Qr (Z7 px pz) (Z7 px pz)) (Qr ([121665#64, 0#64, 0#64, 0#64, 0#64]) (Zf (Qr (Z7 px pz) (Z7 px pz)) (Qr (Zf px pz) (Zf px pz)))))).map u64] Cf s6 rfl (Ej (n := 5) (m := 5) (k := 10) (by first | rfl | (rw [List.length_map]; first | omega | (simp; done) | (simp; omega))) (Ej (n := 5) (m := 0) (k := 5) (by first | rfl | (rw [List.length_map]; first | omega | (simp; done) | (simp; omega))) Qdb rfl) rfl) (Yr (Jo Xy _) (Yr (Jo Xy _) Fa)) m129.h0 rfl rfl) ?_
 rintro _ w130 uq130
 have m130 : Mem _ _ [(b6, .cells (Qo [(Qr (Qr (Z7 px pz) (Z7 px pz)) (Qr (Zf px pz) (Zf px pz))).map u64, (Qr (Zf (Qr (Z7 px pz) (Z7 px pz)) (Qr (Zf px pz) (Zf px pz))) (Z7 (Qr (Z7 px pz) (Z7 px pz)) (Qr ([121665#64, 0#64, 0#64, 0#64, 0#64]) (Zf (Qr (Z7 px pz) (Z7 px pz)) (Qr (Zf px pz) (Zf px pz)))))).map u64]) 129 (0, 0))] := m129.upd0 uq130
 refine ⟨⟨_, m130⟩, ?_⟩
 refine Gs m130 fun w131 m131 => ?_
 have hX132 := m131
 rw [hRM103] at hX132
 have m133 : Mem w131 (Qu w0) [(b6, .cells (Qo [(Qr (Qr (Z7 px pz) (Z7 px pz)) (Qr (Zf px pz) (Zf px pz))).map u64, (Qr (Zf (Qr (Z7 px pz) (Z7 px pz)) (Qr (Zf px pz) (Zf px pz))) (Z7 (Qr (Z7 px pz) (Z7 px pz)) (Qr ([121665#64, 0#64, 0#64, 0#64, 0#64]) (Zf (Qr (Z7 px pz) (Z7 px pz)) (Qr (Zf px pz) (Zf px pz)))))).map u64]) 129 (0, 0)), (b19, .cells (Qo [(Qr (Qr (Z7 px pz) (Z7 px pz)) (Qr (Zf px pz) (Zf px pz))).map u64, (Qr (Zf (Qr (Z7 px pz) (Z7 px pz)) (Qr (Zf px pz) (Zf px pz))) (Z7 (Qr (Z7 px pz) (Z7 px pz)) (Qr ([121665#64, 0#64, 0#64, 0#64, 0#64]) (Zf (Qr (Z7 px pz) (Z7 px pz)) (Qr (Zf px pz) (Zf px pz)))))).map u64]) 129 (0, 0)), (b17, .cells (cl u64 (Z7 (Qr (Zf qx qz) (Z7 px pz)) (Qr (Z7 qx qz) (Zf px pz)))) 126 (0, 0)), (b18, .cells (cl u64 (Zf (Qr (Zf qx qz) (Z7 px pz)) (Qr (Z7 qx qz) (Zf px pz)))) 126 (0, 0)), (b16, .cells (cl u64 (Zf (Qr (Z7 px pz) (Z7 px pz)) (Qr (Zf px pz) (Zf px pz)))) 126 (0, 0)), (b14, .cells (cl u64 (Qr (Z7 px pz) (Z7 px pz))) 126 (0, 0)), (b15, .cells (cl u64 (Qr (Zf px pz) (Zf px pz))) 126 (0, 0)), (b12, .cells (cl u64 (Qr (Zf qx qz) (Z7 px pz))) 126 (0, 0)), (b13, .cells (cl u64 (Qr (Z7 qx qz) (Zf px pz))) 126 (0, 0)), (b10, .cells (cl u64 (Z7 qx qz)) 126 (0, 0)), (b11, .cells (cl u64 (Zf qx qz)) 126 (0, 0)), (b8, .cells (cl u64 (Z7 px pz)) 126 (0, 0)), (b9, .cells (cl u64 (Zf px pz)) 126 (0, 0)), (b7, .cells #[(u64 0), (u64 0), (u64 0), (u64 0), (u64 0), (u64 0), (u64 0), (u64 0), (u64 0), (u64 0)] 129 (0, 0)), (b5, .cells (cl u64 x1) 126 (0, 0)), (b4, .cells (Qo [qx.map u64, qz.map u64]) 129 (0, 0)), (b3, .cells (Qo [px.map u64, pz.map u64]) 129 (0, 0))] := ymA (Mem.back hFM103 hX132)
 refine Vk (Ub [(Qr (Z7 (Qr (Zf qx qz) (Z7 px pz)) (Qr (Z7 qx qz) (Zf px pz))) (Z7 (Qr (Zf qx qz) (Z7 px pz)) (Qr (Z7 qx qz) (Zf px pz)))).map u64, (Qr x1 (Qr (Zf (Qr (Zf qx qz) (Z7 px pz)) (Qr (Z7 qx qz) (Zf px pz))) (Zf (Qr (Zf qx qz) (Z7 px pz)) (Qr (Z7 qx qz) (Zf px pz))))).map u64] Cf s7 rfl (Ej (n := 5) (m := 5) (k := 10) (by first | rfl | (rw [List.length_map]; first | omega | (simp; done) | (simp; omega))) (Ej (n := 5) (m := 0) (k := 5) (by first | rfl | (rw [List.length_map]; first | omega | (simp; done) | (simp; omega))) Qdb rfl) rfl) (Yr (Jo Xy _) (Yr (Jo Xy _) Fa)) ((Mem.pick [_, _, _, _, _, _, _, _, _, _, _, _, _] [_] _ m133)).h0 rfl rfl) ?_
 rintro _ w134 uq134
 have m134 : Mem _ _ [(b7, .cells (Qo [(Qr (Z7 (Qr (Zf qx qz) (Z7 px pz)) (Qr (Z7 qx qz) (Zf px pz))) (Z7 (Qr (Zf qx qz) (Z7 px pz)) (Qr (Z7 qx qz) (Zf px pz)))).map u64, (Qr x1 (Qr (Zf (Qr (Zf qx qz) (Z7 px pz)) (Qr (Z7 qx qz) (Zf px pz))) (Zf (Qr (Zf qx qz) (Z7 px pz)) (Qr (Z7 qx qz) (Zf px pz))))).map u64]) 129 (0, 0)), _, _, _, _, _, _, _, _, _, _, _, _, _, _, _, _] := Mem.upd0 (Mem.pick [_, _, _, _, _, _, _, _, _, _, _, _, _] [_] _ m133) uq134
 refine rN (Xb ?_)
 refine Qv [(Value.agg (Qo [(Qr (Qr (Z7 px pz) (Z7 px pz)) (Qr (Zf px pz) (Zf px pz))).map u64, (Qr (Zf (Qr (Z7 px pz) (Z7 px pz)) (Qr (Zf px pz) (Zf px pz))) (Z7 (Qr (Z7 px pz) (Z7 px pz)) (Qr ([121665#64, 0#64, 0#64, 0#64, 0#64]) (Zf (Qr (Z7 px pz) (Z7 px pz)) (Qr (Zf px pz) (Zf px pz)))))).map u64])), (Value.agg (Qo [(Qr (Z7 (Qr (Zf qx qz) (Z7 px pz)) (Qr (Z7 qx qz) (Zf px pz))) (Z7 (Qr (Zf qx qz) (Z7 px pz)) (Qr (Z7 qx qz) (Zf px pz)))).map u64, (Qr x1 (Qr (Zf (Qr (Zf qx qz) (Z7 px pz)) (Qr (Z7 qx qz) (Zf px pz))) (Zf (Qr (Zf qx qz) (Z7 px pz)) (Qr (Z7 qx qz) (Zf px pz))))).map u64]))] ⟨⟨_, s6, J4 Hz Cf m134.h1⟩, ⟨_, s7, J4 Hz Cf m134.h0⟩, trivial⟩ ?_
 exact ⟨by unfold Aa; rfl, m134.toExt⟩
theorem c_clamp5 (k : Xg) (w0 : World)  (hk : k.length = 32) : X9 prog 78 #[(agg u8 k)] w0 (fun r w1 => r = (agg u8 (Jh k)) ∧ Ext w0 w1) := by
 refine Zb (args := [(agg u8 k)]) func78 rfl ntmps78 results78 rfl ?_
 have m0 : Mem w0 (Qu w0) [] := Mem.of_world w0
 refine sR <| Y9 (Xa (f := u8) (l := k) m0 rfl) fun w1 b1 m1 => Y9 (Zc m1 Zl) fun w2 b2 m2 => ?_
 refine rN (sR ?_)
 refine Qd (Xv 0 0 Xq Y0 rfl) <| Qd (Ql Gl rfl rfl m2.h1 (Qx _ _ 0 sD)) <| Qd (Qfo (b := 7#8) rfl rfl) <| Qd (Xv 0 0 Xq Y0 rfl) <| Vz m2 (Xz (f := u8) (a := (k.getD 0 0) &&& ~~~7#8) Qy Y0 rfl rfl m2.h1 sD (.inl (Nat.zero_le _))) fun w3 m3 => ?_
 refine rN (sR ?_)
 refine Qd (Xv 31 31 Xq Y0 rfl) <| Qd (Ql Gl rfl rfl m3.h1 (Qx _ _ 0 sD)) <| Qd (Qfo (b := 128#8) rfl rfl) <| Qd (Qfn (b := 64#8) rfl rfl) <| Qd (Xv 31 31 Xq Y0 rfl) <| Vz m3 (Xz (f := u8) (a := (((k.set 0 ((k.getD 0 0) &&& ~~~7#8)).getD 31 0) &&& ~~~128#8) ||| 64#8) Qy Y0 rfl rfl m3.h1 sD (.inl (Nat.zero_le _))) fun w4 m4 => ?_
 refine rN (sR ?_)
 refine Qd (Qp Xq rfl Zl rfl m4.h1 sZ) <| Ye m4 (Qj (f := u8) (l := (k.set 0 ((k.getD 0 0) &&& ~~~7#8)).set 31 ((((k.set 0 ((k.getD 0 0) &&& ~~~7#8)).getD 31 0) &&& ~~~128#8) ||| 64#8)) Qy Zl rfl rfl sD m4.h0 sZ rfl) fun w5 m5 => ?_
 refine rN (Xb ?_)
 refine Qv [(agg u8 ((k.set 0 ((k.getD 0 0) &&& ~~~7#8)).set 31 ((((k.set 0 ((k.getD 0 0) &&& ~~~7#8)).getD 31 0) &&& ~~~128#8) ||| 64#8)))] ⟨⟨_, rfl, Xr Xq rfl Zl m5.h0 sZ⟩, trivial⟩ ?_
 exact ⟨by unfold Jh; rfl, m5.toExt⟩
set_option maxHeartbeats 1000000 in
theorem Qia (ky u : Xg) (w0 : World)  (hk : ky.length = 32) (hu : u.length = 32) : X9 prog 57 #[(agg u8 ky), (agg u8 u)] w0 (fun r w1 => r = (agg u8 (Qe ky u)) ∧ Ext w0 w1) := by
 refine Zb (args := [(agg u8 ky), (agg u8 u)]) func57 rfl ntmps57 results57 rfl ?_
 have m0 : Mem w0 (Qu w0) [] := Mem.of_world w0
 have hcl := Qkb ky
 have hrl : (Jn u).length = 5 := by unfold Jn; exact H9 u 255
 refine sR <| Y9 (Xa (f := u8) (l := ky) m0 rfl) fun w1 b2 m1 => Y9 (Xa (f := u8) (l := u) m1 rfl) fun w2 b3 m2 => Y9 (Zc m2 Zl) fun w3 b4 m3 => ?_
 refine rN (sR ?_)
 refine Qd (Qp Xq rfl Zl rfl m3.h2 sZ) <| U9 m3 (oc78 (Kt rfl) (c_clamp5 _ _ sD)) fun w4 m4 => Bh m4 (Qj (f := u8) (l := Jh ky) Qy Zl rfl rfl sD m4.h2 sZ rfl) fun w6 m6 => ?_
 refine rN (sR ?_)
 refine Qd (Qp Xq rfl Zl rfl m6.h1 sZ) <| U9 m6 (oc79 (Kt rfl) (c_cread _ _ sD)) fun w7 m7 => Y9 (Zc m7 Yw) fun w9 b5 m9 => Ye m9 (Qj (f := u64) (l := Jn u) Xy Yw rfl rfl sD m9.h0 sZ rfl) fun w10 m10 => ?_
 refine rN (Qa ?_)
 refine Bq (J := fun g wv => ∃ (c6 c7 : Nat), g 0 = (agg u8 ky) ∧ g 1 = (agg u8 u) ∧ g 2 = (ptr b2 0) ∧ g 3 = (ptr b3 0) ∧ g 4 = (ptr b4 0) ∧ g 5 = (ptr b5 0) ∧ g 6 = (ptr c6 0) ∧ g 7 = (ptr c7 0) ∧ Mem wv (Qu w0) [(c6, .cells (Qo [([1#64, 0#64, 0#64, 0#64, 0#64]).map u64, ([0#64, 0#64, 0#64, 0#64, 0#64]).map u64]) 129 (0, 0)), (c7, .cells (Qo [(Jn u).map u64, ([1#64, 0#64, 0#64, 0#64, 0#64]).map u64]) 129 (0, 0)), (b5, .cells (cl u64 (Jn u)) 126 (0, 0)), (b4, .cells (cl u8 (List.replicate 32 0)) 23 (0, 0)), (b3, .cells (cl u8 u) 23 (0, 0)), (b2, .cells (cl u8 (Jh ky)) 23 (0, 0))]) ?_ ?_
 ·skip
  refine Kr Xw ?_
  have hFM11 : Mem w10 (Qu w0) ([] ++ [(b5, .cells (cl u64 (Jn u)) 126 (0, 0)), (b4, .cells (cl u8 (List.replicate 32 0)) 23 (0, 0)), (b3, .cells (cl u8 u) 23 (0, 0)), (b2, .cells (cl u8 (Jh ky)) 23 (0, 0))]) := m10
  obtain ⟨RM11, hRM11⟩ : ∃ R2, R2 = Rest.add (Qu w0) [(b5, .cells (cl u64 (Jn u)) 126 (0, 0)), (b4, .cells (cl u8 (List.replicate 32 0)) 23 (0, 0)), (b3, .cells (cl u8 u) 23 (0, 0)), (b2, .cells (cl u8 (Jh ky)) 23 (0, 0))] := ⟨_, rfl⟩
  have M110 : Mem w10 RM11 [] := by rw [hRM11]; exact Mem.give hFM11
  have ho12 : RM11.blk b5 = some (.cells (cl u64 (Jn u)) 126 (0, 0)) := by rw [hRM11]; exact Mem.addOwn hFM11 (List.Mem.head _)
  have ho13 : RM11.blk b4 = some (.cells (cl u8 (List.replicate 32 0)) 23 (0, 0)) := by rw [hRM11]; exact Mem.addOwn hFM11 (List.Mem.tail _ (List.Mem.head _))
  have ho14 : RM11.blk b3 = some (.cells (cl u8 u) 23 (0, 0)) := by rw [hRM11]; exact Mem.addOwn hFM11 (List.Mem.tail _ (List.Mem.tail _ (List.Mem.head _)))
  have ho15 : RM11.blk b2 = some (.cells (cl u8 (Jh ky)) 23 (0, 0)) := by rw [hRM11]; exact Mem.addOwn hFM11 (List.Mem.tail _ (List.Mem.tail _ (List.Mem.tail _ (List.Mem.head _))))
  refine re_alM [5, 6] (dl 5) [(7, true)] 8 (luN [(5, 6), (6, 7)]) (luN [(5, 129), (6, 129)]) (luV [(5, (Value.agg #[(u64 0), (u64 0), (u64 0), (u64 0), (u64 0), (u64 0), (u64 0), (u64 0), (u64 0), (u64 0)])), (6, (Value.agg #[(u64 0), (u64 0), (u64 0), (u64 0), (u64 0), (u64 0), (u64 0), (u64 0), (u64 0), (u64 0)]))]) (fun g => g 0 = (agg u8 ky) ∧ g 1 = (agg u8 u) ∧ g 2 = (ptr b2 0) ∧ g 3 = (ptr b3 0) ∧ g 4 = (ptr b4 0) ∧ g 5 = (ptr b5 0) ∧ g 14 = (Value.agg #[(u64 1#64), (u64 0#64), (u64 0#64), (u64 0#64), (u64 0#64), (u64 0), (u64 0), (u64 0), (u64 0), (u64 0)]) ∧ g 17 = (Value.agg (Qo [(Jn u).map u64, ([1#64, 0#64, 0#64, 0#64, 0#64]).map u64])) ∧ True) M110 (Wy ⟨⟨_, _, _, rfl⟩, rfl, _, _, Cf⟩ (Wy ⟨⟨_, _, _, rfl⟩, rfl, _, _, Cf⟩ Su)) (fun sx16 hS16 => ?_) ?_
  ·skip
   refine N8 rfl (G5 (c := (cl u64 ([1#64, 0#64, 0#64, 0#64, 0#64]))) Yw Xt Xu (J3 (i := 0) (v := (u64 1#64)) (cs := #[(u64 1#64)]) rfl rfl V3) Xw) <| N8 rfl (Va (c := #[(u64 1#64), (u64 0#64), (u64 0#64), (u64 0#64), (u64 0#64), (u64 0), (u64 0), (u64 0), (u64 0), (u64 0)]) (pl := [(0, 5), (5, 5)]) Cf Hz Xw (J3 (i := 0) (v := (agg u64 ([1#64, 0#64, 0#64, 0#64, 0#64]))) (cs := (cl u64 ([1#64, 0#64, 0#64, 0#64, 0#64]))) rfl rfl V3) Xw) <| yqH rfl (fun w _H _hx => Qp Xt rfl Yw rfl (_hx.rest _ _ ho12) sZ) <| N8 rfl (G5 (c := (cl u64 ([1#64, 0#64, 0#64, 0#64, 0#64]))) Yw Xt Xu (J3 (i := 0) (v := (u64 1#64)) (cs := #[(u64 1#64)]) rfl rfl V3) Xw) <| N8 rfl (Va (c := (Qo [(Jn u).map u64, ([1#64, 0#64, 0#64, 0#64, 0#64]).map u64])) (pl := [(0, 5), (5, 5)]) Cf Hz Xw (J3 (i := 0) (v := (agg u64 (Jn u))) (cs := (cl u64 (Jn u))) rfl rfl (J3 (i := 1) (v := (agg u64 ([1#64, 0#64, 0#64, 0#64, 0#64]))) (cs := (cl u64 ([1#64, 0#64, 0#64, 0#64, 0#64]))) rfl rfl V3)) (V9 (L := [(List.replicate 5 0).map u64, (List.replicate 5 0).map u64]) 0 [(Jn u).map u64, (List.replicate 5 0).map u64] rfl (Gt u64 _).symm rfl (V9 1 [(Jn u).map u64, ([1#64, 0#64, 0#64, 0#64, 0#64]).map u64] rfl (Gt u64 _).symm rfl Dq))) ?_
   exact hS16 _ ⟨rfl, rfl, rfl, rfl, rfl, rfl, rfl, rfl, trivial⟩
  rintro g17 ⟨s0, s1, s2, s3, s4, s5, s14, s17, _⟩ w19 ps19 hmm19
  have m19 : Mem _ _ [((ps19 5), .cells #[(u64 0), (u64 0), (u64 0), (u64 0), (u64 0), (u64 0), (u64 0), (u64 0), (u64 0), (u64 0)] 129 (0, 0)), ((ps19 6), .cells #[(u64 0), (u64 0), (u64 0), (u64 0), (u64 0), (u64 0), (u64 0), (u64 0), (u64 0), (u64 0)] 129 (0, 0))] := hmm19
  show DW _ _ _ _ _ _ _ (upd (upd g17 7 (ptr (ps19 6) 0)) 6 (ptr (ps19 5) 0)) _
  generalize ps19 5 = b6, ps19 6 = b7 at m19 ⊢
  refine Qgu rfl (fun w20 e20 => ?_)
  have m20 := m19.ext e20
  refine Vp.mono (Qgf (cs := #[(u64 1#64), (u64 0#64), (u64 0#64), (u64 0#64), (u64 0#64), (u64 0), (u64 0), (u64 0), (u64 0), (u64 0)]) Cf rfl s14 Xw (Ql1 (X4 (Xy _) (X4 (Xy _) (X4 (Xy _) (X4 (Xy _) (X4 (Xy _) (X4 (Xy _) (X4 (Xy _) (X4 (Xy _) (X4 (Xy _) (X4 (Xy _) Kw))))))))))) m20.h0 Xw rfl) ?_
  rintro _ w21 uq21
  have m21 : Mem _ _ [(b6, .cells #[(u64 1#64), (u64 0#64), (u64 0#64), (u64 0#64), (u64 0#64), (u64 0), (u64 0), (u64 0), (u64 0), (u64 0)] 129 (0, 0)), _] := m20.upd0 uq21
  refine ⟨⟨_, m21⟩, ?_⟩
  refine Gs m21 fun w22 m22 => ?_
  have hX23 := m22
  rw [hRM11] at hX23
  have m24 : Mem w22 (Qu w0) [(b6, .cells #[(u64 1#64), (u64 0#64), (u64 0#64), (u64 0#64), (u64 0#64), (u64 0), (u64 0), (u64 0), (u64 0), (u64 0)] 129 (0, 0)), (b7, .cells #[(u64 0), (u64 0), (u64 0), (u64 0), (u64 0), (u64 0), (u64 0), (u64 0), (u64 0), (u64 0)] 129 (0, 0)), (b5, .cells (cl u64 (Jn u)) 126 (0, 0)), (b4, .cells (cl u8 (List.replicate 32 0)) 23 (0, 0)), (b3, .cells (cl u8 u) 23 (0, 0)), (b2, .cells (cl u8 (Jh ky)) 23 (0, 0))] := ymA (Mem.back hFM11 hX23)
  refine Vk (Ub [(Jn u).map u64, ([1#64, 0#64, 0#64, 0#64, 0#64]).map u64] Cf rfl s17 (Ej (n := 5) (m := 5) (k := 10) (by first | rfl | (rw [List.length_map]; first | omega | (simp; done) | (simp; omega))) (Ej (n := 5) (m := 0) (k := 5) (by first | rfl | (rw [List.length_map]; first | omega | (simp; done) | (simp; omega))) Qdb rfl) rfl) (Yr (Jo Xy _) (Yr (Jo Xy _) Fa)) m24.h1 rfl rfl) ?_
  rintro _ w25 uq25
  have m25 : Mem _ _ [_, (b7, .cells (Qo [(Jn u).map u64, ([1#64, 0#64, 0#64, 0#64, 0#64]).map u64]) 129 (0, 0)), _, _, _, _] := m24.upd1 uq25
  refine rN ?_
  exact ⟨b6, b7, s0, s1, s2, s3, s4, s5, rfl, rfl, m25⟩
 rintro fr26 w27 ⟨c6, c7, s0, s1, s2, s3, s4, s5, s6, s7, m27⟩
 refine Qa (sR ?_)
 refine Zz (i64 254) ?_
 refine rN (Qk ?_)
 refine Y7 (fun g wv => ∃ (j : Nat), (j ≤ 255) ∧ g 0 = (agg u8 ky) ∧ g 1 = (agg u8 u) ∧ g 2 = (ptr b2 0) ∧ g 3 = (ptr b3 0) ∧ g 4 = (ptr b4 0) ∧ g 5 = (ptr b5 0) ∧ g 6 = (ptr c6 0) ∧ g 7 = (ptr c7 0) ∧ g 8 = (i64 (254 - (j : Int))) ∧ Mem wv (Qu w0) [(c6, .cells (Qo [((Js (Jh ky) (Jn u) j).px).map u64, ((Js (Jh ky) (Jn u) j).pz).map u64]) 129 (0, 0)), (c7, .cells (Qo [((Js (Jh ky) (Jn u) j).qx).map u64, ((Js (Jh ky) (Jn u) j).qz).map u64]) 129 (0, 0)), (b5, .cells (cl u64 (Jn u)) 126 (0, 0)), (b4, .cells (cl u8 (List.replicate 32 0)) 23 (0, 0)), (b2, .cells (cl u8 (Jh ky)) 23 (0, 0))]) (fun g wv => (RowKit.intOf (g 8) + 1).toNat) ?_ ?_
 have m28 := Mem.drop [_] _ (Mem.pick [_, _, _, _] [_] _ m27)
 ·exact ⟨0, oM, s0, s1, s2, s3, s4, s5, s6, s7, rfl, (by rw [Qow]; exact m28)⟩
 rintro fr29 w30 ⟨j, hj, s0, s1, s2, s3, s4, s5, s6, s7, s8, m30⟩
 have z8 := s8
 have hL := Qrn (Jh ky) hrl j
 have hL1 := hL.px
 have hL2 := hL.pz
 have hL3 := hL.qx
 have hL4 := hL.qz
 have hS := Qdk (Js (Jh ky) (Jn u) j).px (Js (Jh ky) (Jn u) j).pz (Js (Jh ky) (Jn u) j).qx (Js (Jh ky) (Jn u) j).qz (Jn u)
 have hT := Qdk (Js (Jh ky) (Jn u) j).qx (Js (Jh ky) (Jn u) j).qz (Js (Jh ky) (Jn u) j).px (Js (Jh ky) (Jn u) j).pz (Jn u)
 have hSpx := hS.px
 have hSpz := hS.pz
 have hSqx := hS.qx
 have hSqz := hS.qz
 have hTpx := hT.px
 have hTpz := hT.pz
 have hTqx := hT.qx
 have hTqz := hT.qz
 refine Qa (sR ?_)
 refine Ya s8 <| Qd (E8 (b := 0) rfl rfl) <| rN ?_
 refine Z8 rfl (fun hc31 => ?_) (fun hc31 => ?_)
 ·
  have hc31p := of_decide_eq_true hc31
  refine Qs (Qc (Qa (Qk (sR ?_))))
  refine Ya s8 <| Qd (Ko.cast (congrArg i64 (show (254 - (j : Int)) / 8 = (((254 - j) / 8 : Nat) : Int) by omega)) (Uu (b := 8) rfl rfl oM oM oM)) <| Qd (Zo (r := ((254 - j) / 8)) oM Xq Y0 s2 rfl oM sD) <| Qd (v := (u8 ((Jh ky).getD ((254 - j) / 8) 0))) (Ql Gl rfl rfl m30.h4 (Qx _ _ 0 sD)) <| Ya s8 <| Qd (Ko.cast (congrArg i64 (show (254 - (j : Int)) % 8 = (((254 - j) % 8 : Nat) : Int) by omega)) (Vf (b := 8) rfl rfl oM oM oM)) <| Qd (Qgp rfl rfl oM) <| Qd (Qgq (b := 1#8) rfl rfl) <| Qd (Qbu (b := 0#8) rfl rfl) <| rN ?_
  refine Z8 rfl (fun hc32 => ?_) (fun hc32 => ?_)
  ·
   have hc32p := eq_of_beq hc32
   refine Qb <| Qd (Jk Hz Cf s6 m30.h0) <| Qd (Jk Hz Cf s7 m30.h1) <| Qd (Qp Xt rfl Yw s5 m30.h2 sZ) <| U9 m30 (oc80 (D6 rfl rfl rfl) (Qqs _ _ _ _ _ _ sD sD sD sD sD)) fun w33 m33 => Ya rfl <| Qd (v := (Value.agg (Qo [((Aa ((Js (Jh ky) (Jn u) j).px) ((Js (Jh ky) (Jn u) j).pz) ((Js (Jh ky) (Jn u) j).qx) ((Js (Jh ky) (Jn u) j).qz) (Jn u)).px).map u64, ((Aa ((Js (Jh ky) (Jn u) j).px) ((Js (Jh ky) (Jn u) j).pz) ((Js (Jh ky) (Jn u) j).qx) ((Js (Jh ky) (Jn u) j).qz) (Jn u)).pz).map u64]))) (Zm rfl rfl) <| Qd (v := (Value.agg (Qo [((Aa ((Js (Jh ky) (Jn u) j).px) ((Js (Jh ky) (Jn u) j).pz) ((Js (Jh ky) (Jn u) j).qx) ((Js (Jh ky) (Jn u) j).qz) (Jn u)).qx).map u64, ((Aa ((Js (Jh ky) (Jn u) j).px) ((Js (Jh ky) (Jn u) j).pz) ((Js (Jh ky) (Jn u) j).qx) ((Js (Jh ky) (Jn u) j).qz) (Jn u)).qz).map u64]))) (Zm rfl rfl) <| Ye m33 (J8 Cf s6 rfl m33.h0 (Yr (Jo Xy _) (Yr (Jo Xy _) Fa))) fun w35 m35 => Vz m35 (J8 Cf s7 rfl m35.h1 (Yr (Jo Xy _) (Yr (Jo Xy _) Fa))) fun w36 m36 => ?_
   refine Zv (Qh (Qb ?_))
   refine Ya s8 <| Qd (Yk (b := 1) rfl rfl oM oM) <| Zz (i64 ((254 - (j : Int)) - 1)) <| rN ?_
   exact ⟨⟨j + 1, oM, s0, s1, s2, s3, s4, s5, s6, s7, (show i64 (254 - (j : Int) - 1) = i64 (254 - ((j + 1 : Nat) : Int)) from congrArg i64 oM), (by rw [ladGo_t (k := (Jh ky)) (x1 := (Jn u)) (j := j) hc32]; exact m36)⟩, (by show (RowKit.intOf (i64 (254 - (j : Int) - 1)) + 1).toNat < (RowKit.intOf _ + 1).toNat; rw [z8]; simp only [RowKit.intOf, i64]; omega)⟩
  ·
   have hc32p := ne_of_beq_false hc32
   refine Qb <| Qd (Jk Hz Cf s7 m30.h1) <| Qd (Jk Hz Cf s6 m30.h0) <| Qd (Qp Xt rfl Yw s5 m30.h2 sZ) <| U9 m30 (oc80 (D6 rfl rfl rfl) (Qqs _ _ _ _ _ _ sD sD sD sD sD)) fun w37 m37 => Ya rfl <| Qd (v := (Value.agg (Qo [((Aa ((Js (Jh ky) (Jn u) j).qx) ((Js (Jh ky) (Jn u) j).qz) ((Js (Jh ky) (Jn u) j).px) ((Js (Jh ky) (Jn u) j).pz) (Jn u)).px).map u64, ((Aa ((Js (Jh ky) (Jn u) j).qx) ((Js (Jh ky) (Jn u) j).qz) ((Js (Jh ky) (Jn u) j).px) ((Js (Jh ky) (Jn u) j).pz) (Jn u)).pz).map u64]))) (Zm rfl rfl) <| Qd (v := (Value.agg (Qo [((Aa ((Js (Jh ky) (Jn u) j).qx) ((Js (Jh ky) (Jn u) j).qz) ((Js (Jh ky) (Jn u) j).px) ((Js (Jh ky) (Jn u) j).pz) (Jn u)).qx).map u64, ((Aa ((Js (Jh ky) (Jn u) j).qx) ((Js (Jh ky) (Jn u) j).qz) ((Js (Jh ky) (Jn u) j).px) ((Js (Jh ky) (Jn u) j).pz) (Jn u)).qz).map u64]))) (Zm rfl rfl) <| Vz m37 (J8 Cf s7 rfl m37.h1 (Yr (Jo Xy _) (Yr (Jo Xy _) Fa))) fun w39 m39 => Ye m39 (J8 Cf s6 rfl m39.h0 (Yr (Jo Xy _) (Yr (Jo Xy _) Fa))) fun w40 m40 => ?_
   refine Zv (Qh (Qb ?_))
   refine Ya s8 <| Qd (Yk (b := 1) rfl rfl oM oM) <| Zz (i64 ((254 - (j : Int)) - 1)) <| rN ?_
   exact ⟨⟨j + 1, oM, s0, s1, s2, s3, s4, s5, s6, s7, (show i64 (254 - (j : Int) - 1) = i64 (254 - ((j + 1 : Nat) : Int)) from congrArg i64 oM), (by rw [ladGo_f (k := (Jh ky)) (x1 := (Jn u)) (j := j) hc32]; exact m40)⟩, (by show (RowKit.intOf (i64 (254 - (j : Int) - 1)) + 1).toNat < (RowKit.intOf _ + 1).toNat; rw [z8]; simp only [RowKit.intOf, i64]; omega)⟩
 ·
  have hc31p := of_decide_eq_false hc31
  obtain rfl : j = 255 := by omega
  refine X6 ?_
  refine Qm (Qm (Xi ?_))
  refine Qa <| Xl (dl 5) 5 Xw <| Yb rfl (Zr (r := 0) Hz rfl Jr Yw rfl s6) <| Yn rfl (fun _ e' => Jv 0 Xt Yw rfl (m30.ext e').h0 rfl) <| Yb rfl (Zr (r := 5) Hz rfl Jr Yw rfl s6) <| Yn rfl (fun _ e' => Jv 1 Xt Yw rfl (m30.ext e').h0 rfl) <| Vg rfl rfl (fun w41 e41 => oc82 (Kt rfl) (c_inv5 _ _ sD)) <| Gs m30 fun w44 m44 => U9 m44 (Qgk (Xm rfl rfl) (D5 _ _ _ sD sD)) fun w45 m45 => U9 m45 (oc83 (Kt rfl) (c_ebytes _ _ sD)) fun w47 m47 => yqU3 m47 (Qj (f := u8) (l := Qau (Qr ((Js (Jh ky) (Jn u) 255).px) (invL ((Js (Jh ky) (Jn u) 255).pz)))) Qy Zl s4 rfl sD m47.h3 sZ rfl) fun w49 m49 => ?_
  refine rN (Xb ?_)
  refine Qv [(agg u8 (Qau (Qr ((Js (Jh ky) (Jn u) 255).px) (invL ((Js (Jh ky) (Jn u) 255).pz)))))] ⟨⟨_, s4, Xr Xq rfl Zl m49.h3 sZ⟩, trivial⟩ ?_
  exact ⟨by unfold Qe invL; rfl, m49.toExt⟩
theorem Qle (ky : Xg) (w0 : World)  (hk : ky.length = 32) : X9 prog 31 #[(agg u8 ky)] w0 (fun r w1 => r = (agg u8 (Qe ky Qi)) ∧ Ext w0 w1) := by
 refine Zb (args := [(agg u8 ky)]) func31 rfl ntmps31 results31 rfl ?_
 have m0 : Mem w0 (Qu w0) [] := Mem.of_world w0
 refine sR <| Y9 (Xa (f := u8) (l := ky) m0 rfl) fun w1 b1 m1 => Y9 (Zc m1 Zl) fun w2 b2 m2 => ?_
 refine rN (sR ?_)
 refine Qd (Qp Xq rfl Zl rfl m2.h1 sZ) <| Qd (G5 (c := (cl u8 ((En 9#8)))) Zl Xq Y0 (J3 (i := 0) (v := (u8 9#8)) (cs := #[(u8 9#8)]) rfl rfl V3) Xw) <| U9 m2 (oc57 (Xm rfl rfl) (Qia _ _ _ sD sD)) fun w3 m3 => Ye m3 (Qj (f := u8) (l := Qe ky ((En 9#8))) Qy Zl rfl rfl sD m3.h0 sZ rfl) fun w5 m5 => ?_
 refine rN (Xb ?_)
 refine Qv [(agg u8 (Qe ky ((En 9#8))))] ⟨⟨_, rfl, Xr Xq rfl Zl m5.h0 sZ⟩, trivial⟩ ?_
 exact ⟨rfl, m5.toExt⟩
theorem Qpv (ky : Xg) (w0 : World)  (hk : ky.length = 32) : X9 prog 27 #[(agg u8 ky)] w0 (fun r w1 => r = (Value.agg (Qo [ky.map u8, (Qe ky Qi).map u8])) ∧ Ext w0 w1) := by
 refine Zb (args := [(agg u8 ky)]) func27 rfl ntmps27 results27 rfl ?_
 have m0 : Mem w0 (Qu w0) [] := Mem.of_world w0
 refine sR <| Y9 (Xa (f := u8) (l := ky) m0 rfl) fun w1 b1 m1 => Y9 (Ji m1 Qhp) fun w2 b2 m2 => ?_
 refine rN (Qa ?_)
 refine Xl [(0, false), (1, false), (2, false)] 3 Xw <| Yn rfl (fun _ e' => Qp Xq rfl Zl rfl (m2.ext e').h1 sZ) <| Yn rfl (fun _ e' => Qp Xq rfl Zl rfl (m2.ext e').h1 sZ) <| Vg rfl rfl (fun w3 e3 => oc31 (Kt rfl) (Qle _ _ sD)) <| Gs m2 fun w6 m6 => Qd (Va (c := (Qo [ky.map u8, (Qe ky Qi).map u8])) (pl := [(0, 32), (32, 32)]) Qhp Qih Xw (J3 (i := 0) (v := (agg u8 ky)) (cs := (cl u8 ky)) rfl rfl (J3 (i := 1) (v := (agg u8 (Qe ky Qi))) (cs := (cl u8 (Qe ky Qi))) rfl rfl V3)) (V9 (L := [(List.replicate 32 0).map u8, (List.replicate 32 0).map u8]) 0 [ky.map u8, (List.replicate 32 0).map u8] rfl (Gt u8 _).symm rfl (V9 1 [ky.map u8, (Qe ky Qi).map u8] rfl (Gt u8 _).symm rfl Dq))) <| Vk (Ub [ky.map u8, (Qe ky Qi).map u8] Qhp rfl rfl (Ej (n := 32) (m := 32) (k := 64) (by first | rfl | (rw [List.length_map]; first | omega | (simp; done) | (simp; omega))) (Ej (n := 32) (m := 0) (k := 32) (by first | rfl | (rw [List.length_map]; first | omega | (simp; done) | (simp; omega))) Qdb rfl) rfl) (Yr (Jo Qy _) (Yr (Jo Qy _) Fa)) m6.h0 rfl rfl) ?_
 rintro _ w7 uq7
 have m7 : Mem _ _ [(b2, .cells (Qo [ky.map u8, (Qe ky Qi).map u8]) 39 (0, 0)), _] := m6.upd0 uq7
 refine rN (Xb ?_)
 refine Qv [(Value.agg (Qo [ky.map u8, (Qe ky Qi).map u8]))] ⟨⟨_, rfl, J4 Qih Qhp m7.h0⟩, trivial⟩ ?_
 exact ⟨rfl, m7.toExt⟩
theorem Qr6 (own pub ot : Xg) (w0 : World)  (ho : own.length = 32) (hp : pub.length = 32) (ht : ot.length = 32) : X9 prog 41 #[(Value.agg (Qo [own.map u8, pub.map u8])), (agg u8 ot)] w0 (fun r w1 => r = (agg u8 (Qe own ot)) ∧ Ext w0 w1) := by
 refine Zb (args := [(Value.agg (Qo [own.map u8, pub.map u8])), (agg u8 ot)]) func41 rfl ntmps41 results41 rfl ?_
 have m0 : Mem w0 (Qu w0) [] := Mem.of_world w0
 refine sR <| Y9 (F8 (cs := (Qo [own.map u8, pub.map u8])) m0 rfl) fun w1 b2 m1 => Y9 (Xa (f := u8) (l := ot) m1 rfl) fun w2 b3 m2 => Y9 (Zc m2 Zl) fun w3 b4 m3 => ?_
 refine rN (sR ?_)
 refine Qd (Zr (r := 0) Qih rfl Jr Zl rfl rfl) <| Qd (Jv 0 Xq Zl rfl m3.h2 rfl) <| Qd (Qp Xq rfl Zl rfl m3.h1 sZ) <| U9 m3 (oc57 (Xm rfl rfl) (Qia _ _ _ sD sD)) fun w4 m4 => Ye m4 (Qj (f := u8) (l := Qe own ot) Qy Zl rfl rfl sD m4.h0 sZ rfl) fun w6 m6 => ?_
 refine rN (Xb ?_)
 refine Qv [(agg u8 (Qe own ot))] ⟨⟨_, rfl, Xr Xq rfl Zl m6.h0 sZ⟩, trivial⟩ ?_
 exact ⟨rfl, m6.toExt⟩
end Go.Proofs.YtkmiemlpfkfiiaaDoor
