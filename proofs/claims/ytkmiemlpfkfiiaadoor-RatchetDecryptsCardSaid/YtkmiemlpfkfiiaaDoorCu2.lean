/- Contracts: the curve, second part. Conditions: none beyond those that each theorem states. -/
import Derived.Test.YtkmiemlpfkfiiaaDoorCu1
import Derived.Test.YtkmiemlpfkfiiaaDoorFwR
namespace Go.Proofs.YtkmiemlpfkfiiaaDoor
open Tryd
set_option linter.unusedVariables false
set_option linter.unusedSimpArgs false
def V5 : Z8 := (Et 9#8)
@[simp] theorem base9_length : V5.length = 32 := rfl
attribute [local irreducible] Qm Z4 Zb U8 Cm Ji Gp Qa2 Gv Xr Jm Eg Qa7 Ah Jc
theorem c_inv5 (x : List (BitVec 64)) (w0 : World)  (hx : x.length = 5) : X0 prog 82 #[(agg u64 x)] w0 (fun r w1 => r = (agg u64 (invL x)) ∧ Ext w0 w1) := by
 refine Qy (args := [(agg u64 x)]) func82 rfl ntmps82 results82 rfl ?_
 have m0 : Mem w0 (Qr w0) [] := Mem.of_world w0
 refine sR <| Y9 (Xc (f := u64) (l := x) m0 rfl) fun w1 b1 m1 => Y9 (Q7 m1 Yt) fun w2 b2 m2 => ?_
 refine rN (sR ?_)
 refine Qd (Gs (c := (cl u64 ([1#64, 0#64, 0#64, 0#64, 0#64]))) Yt Xp Xq (Jq (i := 0) (v := (u64 1#64)) (cs := #[(u64 1#64)]) rfl rfl Vq) Xo) <| Y9 (Q7 m2 Yt) fun w3 b3 m3 => Ye m3 (Qg (f := u64) (l := [1#64, 0#64, 0#64, 0#64, 0#64]) Xw Yt rfl rfl sD m3.h0 sZ rfl) fun w4 m4 => ?_
 refine rN (Qa (sR ?_))
 refine Zx (i64 254) ?_
 refine rN (Qh ?_)
 refine Y1 (fun g wv => ∃ (j : Nat), (j ≤ 255) ∧ g 0 = (agg u64 x) ∧ g 1 = (ptr b1 0) ∧ g 2 = (ptr b2 0) ∧ g 3 = (ptr b3 0) ∧ g 4 = (i64 (254 - (j : Int))) ∧ Mem wv (Qr w0) [(b3, .cells (cl u64 (U8 x j)) 126 (0, 0)), (b2, .cells (cl u64 (List.replicate 5 0)) 126 (0, 0)), (b1, .cells (cl u64 x) 126 (0, 0))]) (fun g wv => (RowKit.intOf (g 4) + 1).toNat) ?_ ?_
 ·exact ⟨0, oM, rfl, rfl, rfl, rfl, rfl, (by rw [Qo7]; exact m4)⟩
 rintro fr5 w6 ⟨j, hj, s0, s1, s2, s3, s4, m6⟩
 have z4 := s4
 have hil := Qcj x j
 refine Qa (sR ?_)
 refine Yb s4 <| Qd (F5 (b := 0) rfl rfl) <| rN ?_
 refine Zy rfl (fun hc7 => ?_) (fun hc7 => ?_)
 ·
  have hc7p := of_decide_eq_true hc7
  refine Qn (Qc (Qa (Qh (sR ?_))))
  refine Qd (Qo Xp rfl Yt s3 m6.h0 sZ) <| Qd (Qo Xp rfl Yt s3 m6.h0 sZ) <| U3 m6 (Qgu (Xm rfl rfl) (D7 _ _ _ sD sD)) fun w8 m8 => Ye m8 (Qg (f := u64) (l := Qm (U8 x j) (U8 x j)) Xw Yt s3 rfl sD m8.h0 sZ rfl) fun w10 m10 => ?_
  refine rN (sR ?_)
  refine Yb s4 <| Qd (We (b := 2) rfl rfl) <| Zm (bl ((254 - (j : Int)) != 2)) ?_
  rcases Bool.eq_false_or_eq_true ((254 - (j : Int)) != 2) with hb11 | hb11
  ·
   have hb11p := bne_iff_ne.1 hb11
   refine Zj (s := 15) rfl rfl hb11 rfl (Yh s4) <| Zj (s := 15) rfl rfl hb11 rfl (We (b := 4) rfl rfl) <| Qd (Jg rfl hb11 rfl) <| rN ?_
   refine Zy rfl (fun hc12 => ?_) (fun hc12 => ?_)
   ·
    have hc12p := bne_iff_ne.1 hc12
    refine Qb <| Qd (Qo Xp rfl Yt s3 m10.h0 sZ) <| Qd (Qo Xp rfl Yt s1 m10.h2 sZ) <| U3 m10 (Qgu (Xm rfl rfl) (D7 _ _ _ sD sD)) fun w13 m13 => Ye m13 (Qg (f := u64) (l := Qm (Qm (U8 x j) (U8 x j)) x) Xw Yt s3 rfl sD m13.h0 sZ rfl) fun w15 m15 => ?_
    refine Zp (Qe (Qb ?_))
    refine Yb s4 <| Qd (Yf (b := 1) rfl rfl oM oM) <| Zx (i64 ((254 - (j : Int)) - 1)) <| rN ?_
    have hin : Qm (Qm (U8 x j) (U8 x j)) x = U8 x (j + 1) := Qr0 (by clear hil hx; omega)
    exact ⟨⟨j + 1, oM, s0, s1, s2, s3, (show i64 (254 - (j : Int) - 1) = i64 (254 - ((j + 1 : Nat) : Int)) from congrArg i64 oM), (by rw [← hin]; exact m15)⟩, (by show (RowKit.intOf (i64 (254 - (j : Int) - 1)) + 1).toNat < (RowKit.intOf _ + 1).toNat; rw [z4]; simp only [RowKit.intOf, i64]; omega)⟩
   ·
    have hc12p := X3 hc12
    refine Qn (Qe (Qb ?_))
    refine Yb s4 <| Qd (Yf (b := 1) rfl rfl oM oM) <| Zx (i64 ((254 - (j : Int)) - 1)) <| rN ?_
    have hin : Qm (U8 x j) (U8 x j) = U8 x (j + 1) := Qnx (by clear hil hx; omega)
    exact ⟨⟨j + 1, oM, s0, s1, s2, s3, (show i64 (254 - (j : Int) - 1) = i64 (254 - ((j + 1 : Nat) : Int)) from congrArg i64 oM), (by rw [← hin]; exact m10)⟩, (by show (RowKit.intOf (i64 (254 - (j : Int) - 1)) + 1).toNat < (RowKit.intOf _ + 1).toNat; rw [z4]; simp only [RowKit.intOf, i64]; omega)⟩
  ·
   have hb11p := X3 hb11
   refine Yg (s := 15) rfl rfl hb11 rfl <| Yg (s := 15) rfl rfl hb11 rfl <| Qd (Yz rfl hb11 rfl) <| rN <| Ja rfl Jb ?_
   refine Qn (Qe (Qb ?_))
   refine Yb s4 <| Qd (Yf (b := 1) rfl rfl oM oM) <| Zx (i64 ((254 - (j : Int)) - 1)) <| rN ?_
   have hin : Qm (U8 x j) (U8 x j) = U8 x (j + 1) := Qnx (by clear hil hx; omega)
   exact ⟨⟨j + 1, oM, s0, s1, s2, s3, (show i64 (254 - (j : Int) - 1) = i64 (254 - ((j + 1 : Nat) : Int)) from congrArg i64 oM), (by rw [← hin]; exact m10)⟩, (by show (RowKit.intOf (i64 (254 - (j : Int) - 1)) + 1).toNat < (RowKit.intOf _ + 1).toNat; rw [z4]; simp only [RowKit.intOf, i64]; omega)⟩
 ·
  have hc7p := of_decide_eq_false hc7
  obtain rfl : j = 255 := by omega
  have hil := Qcj x 255
  refine X4 ?_
  refine Qj (Qj (Xi ?_))
  refine sR <| Qd (Qo Xp rfl Yt s3 m6.h0 sZ) <| Vu m6 (Qg (f := u64) (l := U8 x 255) Xw Yt s2 rfl sD m6.h1 sZ rfl) fun w16 m16 => ?_
  refine rN (Zz ?_)
  refine Qp [(agg u64 (U8 x 255))] ⟨⟨_, s2, Xn Xp rfl Yt m16.h1 sZ⟩, trivial⟩ ?_
  exact ⟨by unfold invL; rfl, m16.toExt⟩
set_option maxHeartbeats 1000000 in
theorem c_ebytes (e : List (BitVec 64)) (w0 : World)  (he : e.length = 5) : X0 prog 83 #[(agg u64 e)] w0 (fun r w1 => r = (agg u8 (Qa2 e)) ∧ Ext w0 w1) := by
 refine Qy (args := [(agg u64 e)]) func83 rfl ntmps83 results83 rfl ?_
 have m0 : Mem w0 (Qr w0) [] := Mem.of_world w0
 refine sR <| Y9 (Xc (f := u64) (l := e) m0 rfl) fun w1 b1 m1 => Y9 (Q7 m1 Zg) fun w2 b2 m2 => ?_
 refine rN (sR ?_)
 refine Qd (Qo Xp rfl Yt rfl m2.h1 sZ) <| U3 m2 (oc101 (Jv rfl) (Qim _ _ sD)) fun w3 m3 => Vu m3 (Qg (f := u64) (l := Eg e) Xw Yt rfl rfl sD m3.h1 sZ rfl) fun w5 m5 => ?_
 refine rN (Qa ?_)
 obtain ⟨e0, e1, e2, e3, e4, hce⟩ := Qer (Eg e) (by rw [Bz, he])
 have hmC6 := m5
 rw [hce] at hmC6
 refine Qb <| Qd (Qo Xp rfl Yt rfl hmC6.h1 sZ) <| Y9 (Q7 hmC6 Yt) fun w7 b3 m7 => Ye m7 (Qg (f := u64) (l := [e0, e1, e2, e3, e4]) Xw Yt rfl rfl sD m7.h0 sZ rfl) fun w8 m8 => Zx (u64 19#64) ?_
 refine rN (Qa (sR ?_))
 refine Zm (i64 0) ?_
 refine rN (Qh ?_)
 refine Vo 6 ?_
 refine Zq (sR ?_)
 refine Qd (Jd 0 5) ?_
 refine rN (Qa ?_)
 refine Q9 rfl Jb ?_
 refine Qn (Qc (Qa (Qh (sR ?_))))
 refine Zm (i64 0) <| Zx (i64 0) ?_
 refine rN (sR ?_)
 refine Zm (i64 0) <| Qd (Xu 0 0 Xp Xq rfl) <| Qd (v := (u64 e0)) (Qi Yj rfl rfl m8.h0 (Qu _ _ 0 Ya)) <| Zm (u64 19#64) <| Qd (Jt (b := 19#64) rfl rfl) <| Qd (Xu 0 0 Xp Xq rfl) <| Ye m8 (Zk (f := u64) (l' := [e0 + 19#64, e1, e2, e3, e4]) rfl Xw Xq rfl rfl m8.h0 Ya (.inl (Nat.zero_le _))) fun w9 m9 => ?_
 refine rN (sR ?_)
 refine Zm (i64 0) <| Qd (Xu 0 0 Xp Xq rfl) <| Qd (v := (u64 (e0 + 19#64))) (Qi Yj rfl rfl m9.h0 (Qu _ _ 0 Ya)) <| Qd (X9 (b := 51) rfl rfl oM) <| Zx (u64 ((e0 + 19#64) >>> 51)) ?_
 refine rN (Qb ?_)
 refine Zm (i64 0) <| Qd (Xu 0 0 Xp Xq rfl) <| Qd (v := (u64 (e0 + 19#64))) (Qi Yj rfl rfl m9.h0 (Qu _ _ 0 Ya)) <| Qd (Vr (b := 2251799813685247#64) rfl rfl) <| Qd (Xu 0 0 Xp Xq rfl) <| Ye m9 (Zk (f := u64) (l' := [(e0 + 19#64) &&& 2251799813685247#64, e1, e2, e3, e4]) rfl Xw Xq rfl rfl m9.h0 Ya (.inl (Nat.zero_le _))) fun w10 m10 => ?_
 refine Zp (Qe (Qb ?_))
 refine Qd (v := (i64 1)) (Yo 0 1) <| Zm (i64 1) ?_
 refine rN (Zq (sR ?_))
 refine Qd (Jd 1 5) ?_
 refine rN (Qa ?_)
 refine Q9 rfl Jb ?_
 refine Qn (Qc (Qa (Qh (sR ?_))))
 refine Zm (i64 1) <| Zx (i64 1) ?_
 refine rN (sR ?_)
 refine Zm (i64 1) <| Qd (Xu 1 1 Xp Xq rfl) <| Qd (v := (u64 e1)) (Qi Yj rfl rfl m10.h0 (Qu _ _ 0 Ya)) <| Zm (u64 ((e0 + 19#64) >>> 51)) <| Qd (Jt rfl rfl) <| Qd (Xu 1 1 Xp Xq rfl) <| Ye m10 (Zk (f := u64) (l' := [(e0 + 19#64) &&& 2251799813685247#64, e1 + ((e0 + 19#64) >>> 51), e2, e3, e4]) rfl Xw Xq rfl rfl m10.h0 Ya (.inl (Nat.zero_le _))) fun w11 m11 => ?_
 refine rN (sR ?_)
 refine Zm (i64 1) <| Qd (Xu 1 1 Xp Xq rfl) <| Qd (v := (u64 (e1 + ((e0 + 19#64) >>> 51)))) (Qi Yj rfl rfl m11.h0 (Qu _ _ 0 Ya)) <| Qd (X9 (b := 51) rfl rfl oM) <| Zx (u64 ((e1 + ((e0 + 19#64) >>> 51)) >>> 51)) ?_
 refine rN (Qb ?_)
 refine Zm (i64 1) <| Qd (Xu 1 1 Xp Xq rfl) <| Qd (v := (u64 (e1 + ((e0 + 19#64) >>> 51)))) (Qi Yj rfl rfl m11.h0 (Qu _ _ 0 Ya)) <| Qd (Vr (b := 2251799813685247#64) rfl rfl) <| Qd (Xu 1 1 Xp Xq rfl) <| Ye m11 (Zk (f := u64) (l' := [(e0 + 19#64) &&& 2251799813685247#64, (e1 + ((e0 + 19#64) >>> 51)) &&& 2251799813685247#64, e2, e3, e4]) rfl Xw Xq rfl rfl m11.h0 Ya (.inl (Nat.zero_le _))) fun w12 m12 => ?_
 refine Zp (Qe (Qb ?_))
 refine Qd (v := (i64 2)) (Yo 1 1) <| Zm (i64 2) ?_
 refine rN (Zq (sR ?_))
 refine Qd (Jd 2 5) ?_
 refine rN (Qa ?_)
 refine Q9 rfl Jb ?_
 refine Qn (Qc (Qa (Qh (sR ?_))))
 refine Zm (i64 2) <| Zx (i64 2) ?_
 refine rN (sR ?_)
 refine Zm (i64 2) <| Qd (Xu 2 2 Xp Xq rfl) <| Qd (v := (u64 e2)) (Qi Yj rfl rfl m12.h0 (Qu _ _ 0 Ya)) <| Zm (u64 ((e1 + ((e0 + 19#64) >>> 51)) >>> 51)) <| Qd (Jt rfl rfl) <| Qd (Xu 2 2 Xp Xq rfl) <| Ye m12 (Zk (f := u64) (l' := [(e0 + 19#64) &&& 2251799813685247#64, (e1 + ((e0 + 19#64) >>> 51)) &&& 2251799813685247#64, e2 + ((e1 + ((e0 + 19#64) >>> 51)) >>> 51), e3, e4]) rfl Xw Xq rfl rfl m12.h0 Ya (.inl (Nat.zero_le _))) fun w13 m13 => ?_
 refine rN (sR ?_)
 refine Zm (i64 2) <| Qd (Xu 2 2 Xp Xq rfl) <| Qd (v := (u64 (e2 + ((e1 + ((e0 + 19#64) >>> 51)) >>> 51)))) (Qi Yj rfl rfl m13.h0 (Qu _ _ 0 Ya)) <| Qd (X9 (b := 51) rfl rfl oM) <| Zx (u64 ((e2 + ((e1 + ((e0 + 19#64) >>> 51)) >>> 51)) >>> 51)) ?_
 refine rN (Qb ?_)
 refine Zm (i64 2) <| Qd (Xu 2 2 Xp Xq rfl) <| Qd (v := (u64 (e2 + ((e1 + ((e0 + 19#64) >>> 51)) >>> 51)))) (Qi Yj rfl rfl m13.h0 (Qu _ _ 0 Ya)) <| Qd (Vr (b := 2251799813685247#64) rfl rfl) <| Qd (Xu 2 2 Xp Xq rfl) <| Ye m13 (Zk (f := u64) (l' := [(e0 + 19#64) &&& 2251799813685247#64, (e1 + ((e0 + 19#64) >>> 51)) &&& 2251799813685247#64, (e2 + ((e1 + ((e0 + 19#64) >>> 51)) >>> 51)) &&& 2251799813685247#64, e3, e4]) rfl Xw Xq rfl rfl m13.h0 Ya (.inl (Nat.zero_le _))) fun w14 m14 => ?_
 refine Zp (Qe (Qb ?_))
 refine Qd (v := (i64 3)) (Yo 2 1) <| Zm (i64 3) ?_
 refine rN (Zq (sR ?_))
 refine Qd (Jd 3 5) ?_
 refine rN (Qa ?_)
 refine Q9 rfl Jb ?_
 refine Qn (Qc (Qa (Qh (sR ?_))))
 refine Zm (i64 3) <| Zx (i64 3) ?_
 refine rN (sR ?_)
 refine Zm (i64 3) <| Qd (Xu 3 3 Xp Xq rfl) <| Qd (v := (u64 e3)) (Qi Yj rfl rfl m14.h0 (Qu _ _ 0 Ya)) <| Zm (u64 ((e2 + ((e1 + ((e0 + 19#64) >>> 51)) >>> 51)) >>> 51)) <| Qd (Jt rfl rfl) <| Qd (Xu 3 3 Xp Xq rfl) <| Ye m14 (Zk (f := u64) (l' := [(e0 + 19#64) &&& 2251799813685247#64, (e1 + ((e0 + 19#64) >>> 51)) &&& 2251799813685247#64, (e2 + ((e1 + ((e0 + 19#64) >>> 51)) >>> 51)) &&& 2251799813685247#64, e3 + ((e2 + ((e1 + ((e0 + 19#64) >>> 51)) >>> 51)) >>> 51), e4]) rfl Xw Xq rfl rfl m14.h0 Ya (.inl (Nat.zero_le _))) fun w15 m15 => ?_
 refine rN (sR ?_)
 refine Zm (i64 3) <| Qd (Xu 3 3 Xp Xq rfl) <| Qd (v := (u64 (e3 + ((e2 + ((e1 + ((e0 + 19#64) >>> 51)) >>> 51)) >>> 51)))) (Qi Yj rfl rfl m15.h0 (Qu _ _ 0 Ya)) <| Qd (X9 (b := 51) rfl rfl oM) <| Zx (u64 ((e3 + ((e2 + ((e1 + ((e0 + 19#64) >>> 51)) >>> 51)) >>> 51)) >>> 51)) <| rN ?_
 refine CW.abs (fun g => g 0 = (agg u64 e) ∧ g 1 = (ptr b1 0) ∧ g 2 = (ptr b2 0) ∧ g 3 = (ptr b3 0) ∧ g 4 = (u64 ((e3 + ((e2 + ((e1 + ((e0 + 19#64) >>> 51)) >>> 51)) >>> 51)) >>> 51)) ∧ g 5 = (i64 3) ∧ g 10 = (i64 3) ∧ g 11 = (bl true) ∧ True) ⟨rfl, rfl, rfl, rfl, rfl, rfl, rfl, rfl, trivial⟩ ?_
 rintro fr16 ⟨s0, s1, s2, s3, s4, s5, s10, s11, _⟩
 refine Qb <| Yb s5 <| Qd (Xu 3 3 Xp Xq s3) <| Qd (v := (u64 (e3 + ((e2 + ((e1 + ((e0 + 19#64) >>> 51)) >>> 51)) >>> 51)))) (Qi Yj rfl rfl m15.h0 (Qu _ _ 0 Ya)) <| Qd (Vr (b := 2251799813685247#64) rfl rfl) <| Qd (Xu 3 3 Xp Xq s3) <| Ye m15 (Zk (f := u64) (l' := [(e0 + 19#64) &&& 2251799813685247#64, (e1 + ((e0 + 19#64) >>> 51)) &&& 2251799813685247#64, (e2 + ((e1 + ((e0 + 19#64) >>> 51)) >>> 51)) &&& 2251799813685247#64, (e3 + ((e2 + ((e1 + ((e0 + 19#64) >>> 51)) >>> 51)) >>> 51)) &&& 2251799813685247#64, e4]) rfl Xw Xq rfl rfl m15.h0 Ya (.inl (Nat.zero_le _))) fun w17 m17 => ?_
 refine Zp (Qe (Qb ?_))
 refine Qd (v := (i64 4)) (Zf (a := 3) (b := 1) s10 rfl oM oM) <| Zm (i64 4) ?_
 refine rN (Zq (sR ?_))
 refine Qd (Jd 4 5) ?_
 refine rN (Qa ?_)
 refine Q9 rfl Jb ?_
 refine Qn (Qc (Qa (Qh (sR ?_))))
 refine Zm (i64 4) <| Zx (i64 4) ?_
 refine rN (sR ?_)
 refine Zm (i64 4) <| Qd (Xu 4 4 Xp Xq s3) <| Qd (v := (u64 e4)) (Qi Yj rfl rfl m17.h0 (Qu _ _ 0 Ya)) <| Yb s4 <| Qd (Jt rfl rfl) <| Qd (Xu 4 4 Xp Xq s3) <| Ye m17 (Zk (f := u64) (l' := [(e0 + 19#64) &&& 2251799813685247#64, (e1 + ((e0 + 19#64) >>> 51)) &&& 2251799813685247#64, (e2 + ((e1 + ((e0 + 19#64) >>> 51)) >>> 51)) &&& 2251799813685247#64, (e3 + ((e2 + ((e1 + ((e0 + 19#64) >>> 51)) >>> 51)) >>> 51)) &&& 2251799813685247#64, e4 + ((e3 + ((e2 + ((e1 + ((e0 + 19#64) >>> 51)) >>> 51)) >>> 51)) >>> 51)]) rfl Xw Xq rfl rfl m17.h0 Ya (.inl (Nat.zero_le _))) fun w18 m18 => ?_
 refine rN (sR ?_)
 refine Zm (i64 4) <| Qd (Xu 4 4 Xp Xq s3) <| Qd (v := (u64 (e4 + ((e3 + ((e2 + ((e1 + ((e0 + 19#64) >>> 51)) >>> 51)) >>> 51)) >>> 51)))) (Qi Yj rfl rfl m18.h0 (Qu _ _ 0 Ya)) <| Qd (X9 (b := 51) rfl rfl oM) <| yqA rfl ?_
 refine rN (Qb ?_)
 refine Zm (i64 4) <| Qd (Xu 4 4 Xp Xq s3) <| Qd (v := (u64 (e4 + ((e3 + ((e2 + ((e1 + ((e0 + 19#64) >>> 51)) >>> 51)) >>> 51)) >>> 51)))) (Qi Yj rfl rfl m18.h0 (Qu _ _ 0 Ya)) <| Qd (Vr (b := 2251799813685247#64) rfl rfl) <| Qd (Xu 4 4 Xp Xq s3) <| Ye m18 (Zk (f := u64) (l' := [(e0 + 19#64) &&& 2251799813685247#64, (e1 + ((e0 + 19#64) >>> 51)) &&& 2251799813685247#64, (e2 + ((e1 + ((e0 + 19#64) >>> 51)) >>> 51)) &&& 2251799813685247#64, (e3 + ((e2 + ((e1 + ((e0 + 19#64) >>> 51)) >>> 51)) >>> 51)) &&& 2251799813685247#64, (e4 + ((e3 + ((e2 + ((e1 + ((e0 + 19#64) >>> 51)) >>> 51)) >>> 51)) >>> 51)) &&& 2251799813685247#64]) rfl Xw Xq rfl rfl m18.h0 Ya (.inl (Nat.zero_le _))) fun w19 m19 => ?_
 refine Zp (Qe (Qb ?_))
 refine Qd (v := (i64 5)) (Yo 4 1) <| Zm (i64 5) ?_
 refine rN (Zq (sR ?_))
 refine Qd (Jd 5 5) ?_
 refine rN (Qa ?_)
 refine Ja rfl Jb <| X4 ?_
 refine Qj (Qj (Xi ?_))
 refine Qa (sR ?_)
 refine Yb rfl <| Qd (Qph (b := 0#64) rfl rfl) <| rN ?_
 refine Zy rfl (fun hc20 => ?_) (fun hc20 => ?_)
 ·
  have hc20p := of_decide_eq_true hc20
  refine Qb <| Qd (Qo Xp rfl Yt s3 m19.h0 sZ) <| Aa m19 (Qg (f := u64) (l := [(e0 + 19#64) &&& 2251799813685247#64, (e1 + ((e0 + 19#64) >>> 51)) &&& 2251799813685247#64, (e2 + ((e1 + ((e0 + 19#64) >>> 51)) >>> 51)) &&& 2251799813685247#64, (e3 + ((e2 + ((e1 + ((e0 + 19#64) >>> 51)) >>> 51)) >>> 51)) &&& 2251799813685247#64, (e4 + ((e3 + ((e2 + ((e1 + ((e0 + 19#64) >>> 51)) >>> 51)) >>> 51)) >>> 51)) &&& 2251799813685247#64]) Xw Yt s1 rfl sD m19.h2 sZ rfl) fun w21 m21 => ?_
  refine rN (Qa (Qa ?_))
  have hwq : [(e0 + 19#64) &&& 2251799813685247#64, (e1 + ((e0 + 19#64) >>> 51)) &&& 2251799813685247#64, (e2 + ((e1 + ((e0 + 19#64) >>> 51)) >>> 51)) &&& 2251799813685247#64, (e3 + ((e2 + ((e1 + ((e0 + 19#64) >>> 51)) >>> 51)) >>> 51)) &&& 2251799813685247#64, (e4 + ((e3 + ((e2 + ((e1 + ((e0 + 19#64) >>> 51)) >>> 51)) >>> 51)) >>> 51)) &&& 2251799813685247#64] = Gv e := by unfold Gv; rw [hce]; exact (if_pos (of_decide_eq_true hc20)).symm
  have hmW22 := m21
  rw [hwq] at hmW22
  have hwl := Qej he
  refine Qb <| Zm (i64 0) ?_
  refine rN (Qh ?_)
  refine Y1 (fun g wv => ∃ (i : Nat), (i ≤ 255) ∧ g 0 = (agg u64 e) ∧ g 1 = (ptr b1 0) ∧ g 2 = (ptr b2 0) ∧ g 3 = (ptr b3 0) ∧ g 4 = (u64 ((e4 + ((e3 + ((e2 + ((e1 + ((e0 + 19#64) >>> 51)) >>> 51)) >>> 51)) >>> 51)) >>> 51)) ∧ g 5 = (i64 4) ∧ g 10 = (i64 5) ∧ g 11 = (bl false) ∧ g 30 = (bl (decide ((0#64).toNat < ((e4 + ((e3 + ((e2 + ((e1 + ((e0 + 19#64) >>> 51)) >>> 51)) >>> 51)) >>> 51)) >>> 51).toNat))) ∧ g 32 = (i64 (i : Int)) ∧ Mem wv (Qr w0) [(b3, .cells (cl u64 (Gv e)) 126 (0, 0)), (b2, .cells (cl u8 (Gp (Gv e) i)) 23 (0, 0)), (b1, .cells (cl u64 (Gv e)) 126 (0, 0))]) (fun g wv => (255 - RowKit.intOf (g 32)).toNat) ?_ ?_
  ·exact ⟨0, oM, s0, s1, s2, s3, rfl, rfl, rfl, rfl, rfl, rfl, (by rw [Qfa]; exact hmW22)⟩
  rintro fr23 w24 ⟨i, hi, s0, s1, s2, s3, s4, s5, s10, s11, s30, s32, m24⟩
  have z32 := s32
  have hgl := Fq (Gv e) i
  refine sR <| Qd (Xa (b := 255) s32 rfl) ?_
  refine rN (Qa ?_)
  refine Zy rfl (fun hc25 => ?_) (fun hc25 => ?_)
  ·
   have hc25p := of_decide_eq_true hc25
   refine Qn (Qc (Qa (Qh (sR ?_))))
   refine Yb s32 <| Zx (i64 (i : Int)) <| rN <| Xg (dl 16) 16 Xo <| J8 rfl (i64 (i : Int)) <| X6 rfl (Jy.cast (congrArg i64 (show (i : Int) / 8 = ((i / 8 : Nat) : Int) by omega)) (Uo (b := 8) rfl rfl oM oM oM)) <| X6 rfl (Zl (r := (i / 8)) oM Xl Yw s2 rfl oM sD) <| Ym (v := (u8 ((Gp (Gv e) i).getD (i / 8) 0))) rfl (fun _ e' => Qi Vs rfl rfl (m24.ext e').h1 (Qu _ _ 0 sD)) <| J8 rfl (i64 (i : Int)) <| X6 rfl (Jy.cast (congrArg i64 (show (i : Int) / 51 = ((i / 51 : Nat) : Int) by omega)) (Uo (b := 51) rfl rfl oM oM oM)) <| X6 rfl (Zl (r := (i / 51)) oM Xp Xq s1 rfl oM sD) <| Ym (v := (u64 ((Gv e).getD (i / 51) 0))) rfl (fun _ e' => Qi Yj rfl rfl (m24.ext e').h2 (Qu _ _ 0 sD)) ?_
   refine J8 rfl (i64 (i : Int)) <| X6 rfl (Jy.cast (congrArg i64 (show (i : Int) % 51 = ((i % 51 : Nat) : Int) by omega)) (W9 (b := 51) rfl rfl oM oM oM)) <| X6 rfl (X9 rfl rfl oM) <| X6 rfl (Vr (b := 1#64) rfl rfl) <| X6 rfl (X7 ⟨_, Yj⟩ Vs rfl) <| J8 rfl (i64 (i : Int)) <| X6 rfl (Jy.cast (congrArg i64 (show (i : Int) % 8 = ((i % 8 : Nat) : Int) by omega)) (W9 (b := 8) rfl rfl oM oM oM)) <| X6 rfl (Qle rfl rfl oM) <| Gf m24 fun w26 m26 => Qd (Qf0 rfl rfl) <| Qd (Zl (r := (i / 8)) oM Xl Yw s2 rfl oM sD) <| Vu m26 (Xx (f := u8) (a := ((Gp (Gv e) i).getD (i / 8) 0) ||| ((((((Gv e).getD (i / 51) 0) >>> ((i % 51 : Nat) : Int).toNat) &&& 1#64).setWidth 8) <<< ((i % 8 : Nat) : Int).toNat)) Qs Yw rfl rfl m26.h1 sD (.inl (Nat.zero_le _))) fun w27 m27 => ?_
   refine Zp (Qe (Qb ?_))
   refine Qd (Zf (b := 1) s32 rfl oM oM) <| Zm (i64 ((i : Int) + 1)) <| rN ?_
   exact ⟨⟨i + 1, oM, s0, s1, s2, s3, s4, s5, s10, s11, s30, rfl, (by rw [Qfb]; exact m27)⟩, Ue rfl z32 oM oM⟩
  ·
   have hc25p := of_decide_eq_false hc25
   obtain rfl : i = 255 := by omega
   have hgl := Fq (Gv e) 255
   refine X4 ?_
   refine Qj (Qj (Xi ?_))
   refine sR <| Qd (Qo Xl rfl Zg s2 m24.h1 sZ) <| Vu m24 (Qg (f := u8) (l := Gp (Gv e) 255) Qs Zg s2 rfl sD m24.h1 sZ rfl) fun w28 m28 => ?_
   refine rN (Zz ?_)
   refine Qp [(agg u8 (Gp (Gv e) 255))] ⟨⟨_, s2, Xn Xl rfl Zg m28.h1 sZ⟩, trivial⟩ ?_
   exact ⟨by unfold Qa2; rfl, m28.toExt⟩
 ·
  have hc20p := of_decide_eq_false hc20
  refine Qn (Qc (Qa (Qa ?_)))
  have hwq : [e0, e1, e2, e3, e4] = Gv e := by unfold Gv; rw [hce]; exact (if_neg (of_decide_eq_false hc20)).symm
  have hmW29 := m19
  rw [hwq] at hmW29
  have hwl := Qej he
  refine Qb <| Zm (i64 0) ?_
  refine rN (Qh ?_)
  refine Y1 (fun g wv => ∃ (i : Nat), (i ≤ 255) ∧ g 0 = (agg u64 e) ∧ g 1 = (ptr b1 0) ∧ g 2 = (ptr b2 0) ∧ g 3 = (ptr b3 0) ∧ g 4 = (u64 ((e4 + ((e3 + ((e2 + ((e1 + ((e0 + 19#64) >>> 51)) >>> 51)) >>> 51)) >>> 51)) >>> 51)) ∧ g 5 = (i64 4) ∧ g 10 = (i64 5) ∧ g 11 = (bl false) ∧ g 30 = (bl (decide ((0#64).toNat < ((e4 + ((e3 + ((e2 + ((e1 + ((e0 + 19#64) >>> 51)) >>> 51)) >>> 51)) >>> 51)) >>> 51).toNat))) ∧ g 32 = (i64 (i : Int)) ∧ Mem wv (Qr w0) [(b3, .cells (cl u64 ([(e0 + 19#64) &&& 2251799813685247#64, (e1 + ((e0 + 19#64) >>> 51)) &&& 2251799813685247#64, (e2 + ((e1 + ((e0 + 19#64) >>> 51)) >>> 51)) &&& 2251799813685247#64, (e3 + ((e2 + ((e1 + ((e0 + 19#64) >>> 51)) >>> 51)) >>> 51)) &&& 2251799813685247#64, (e4 + ((e3 + ((e2 + ((e1 + ((e0 + 19#64) >>> 51)) >>> 51)) >>> 51)) >>> 51)) &&& 2251799813685247#64])) 126 (0, 0)), (b2, .cells (cl u8 (Gp (Gv e) i)) 23 (0, 0)), (b1, .cells (cl u64 (Gv e)) 126 (0, 0))]) (fun g wv => (255 - RowKit.intOf (g 32)).toNat) ?_ ?_
  ·exact ⟨0, oM, s0, s1, s2, s3, rfl, rfl, rfl, rfl, rfl, rfl, (by rw [Qfa]; exact hmW29)⟩
  rintro fr30 w31 ⟨i, hi, s0, s1, s2, s3, s4, s5, s10, s11, s30, s32, m31⟩
  have z32 := s32
  have hgl := Fq (Gv e) i
  refine sR <| Qd (Xa (b := 255) s32 rfl) ?_
  refine rN (Qa ?_)
  refine Zy rfl (fun hc32 => ?_) (fun hc32 => ?_)
  ·
   have hc32p := of_decide_eq_true hc32
   refine Qn (Qc (Qa (Qh (sR ?_))))
   refine Yb s32 <| Zx (i64 (i : Int)) <| rN <| Xg (dl 16) 16 Xo <| J8 rfl (i64 (i : Int)) <| X6 rfl (Jy.cast (congrArg i64 (show (i : Int) / 8 = ((i / 8 : Nat) : Int) by omega)) (Uo (b := 8) rfl rfl oM oM oM)) <| X6 rfl (Zl (r := (i / 8)) oM Xl Yw s2 rfl oM sD) <| Ym (v := (u8 ((Gp (Gv e) i).getD (i / 8) 0))) rfl (fun _ e' => Qi Vs rfl rfl (m31.ext e').h1 (Qu _ _ 0 sD)) <| J8 rfl (i64 (i : Int)) <| X6 rfl (Jy.cast (congrArg i64 (show (i : Int) / 51 = ((i / 51 : Nat) : Int) by omega)) (Uo (b := 51) rfl rfl oM oM oM)) <| X6 rfl (Zl (r := (i / 51)) oM Xp Xq s1 rfl oM sD) <| Ym (v := (u64 ((Gv e).getD (i / 51) 0))) rfl (fun _ e' => Qi Yj rfl rfl (m31.ext e').h2 (Qu _ _ 0 sD)) ?_
   refine J8 rfl (i64 (i : Int)) <| X6 rfl (Jy.cast (congrArg i64 (show (i : Int) % 51 = ((i % 51 : Nat) : Int) by omega)) (W9 (b := 51) rfl rfl oM oM oM)) <| X6 rfl (X9 rfl rfl oM) <| X6 rfl (Vr (b := 1#64) rfl rfl) <| X6 rfl (X7 ⟨_, Yj⟩ Vs rfl) <| J8 rfl (i64 (i : Int)) <| X6 rfl (Jy.cast (congrArg i64 (show (i : Int) % 8 = ((i % 8 : Nat) : Int) by omega)) (W9 (b := 8) rfl rfl oM oM oM)) <| X6 rfl (Qle rfl rfl oM) <| Gf m31 fun w33 m33 => Qd (Qf0 rfl rfl) <| Qd (Zl (r := (i / 8)) oM Xl Yw s2 rfl oM sD) <| Vu m33 (Xx (f := u8) (a := ((Gp (Gv e) i).getD (i / 8) 0) ||| ((((((Gv e).getD (i / 51) 0) >>> ((i % 51 : Nat) : Int).toNat) &&& 1#64).setWidth 8) <<< ((i % 8 : Nat) : Int).toNat)) Qs Yw rfl rfl m33.h1 sD (.inl (Nat.zero_le _))) fun w34 m34 => ?_
   refine Zp (Qe (Qb ?_))
   refine Qd (Zf (b := 1) s32 rfl oM oM) <| Zm (i64 ((i : Int) + 1)) <| rN ?_
   exact ⟨⟨i + 1, oM, s0, s1, s2, s3, s4, s5, s10, s11, s30, rfl, (by rw [Qfb]; exact m34)⟩, Ue rfl z32 oM oM⟩
  ·
   have hc32p := of_decide_eq_false hc32
   obtain rfl : i = 255 := by omega
   have hgl := Fq (Gv e) 255
   refine X4 ?_
   refine Qj (Qj (Xi ?_))
   refine sR <| Qd (Qo Xl rfl Zg s2 m31.h1 sZ) <| Vu m31 (Qg (f := u8) (l := Gp (Gv e) 255) Qs Zg s2 rfl sD m31.h1 sZ rfl) fun w35 m35 => ?_
   refine rN (Zz ?_)
   refine Qp [(agg u8 (Gp (Gv e) 255))] ⟨⟨_, s2, Xn Xl rfl Zg m35.h1 sZ⟩, trivial⟩ ?_
   exact ⟨by unfold Qa2; rfl, m35.toExt⟩
set_option maxHeartbeats 1000000 in
theorem Qq1 (px pz qx qz x1 : List (BitVec 64)) (w0 : World)  (hpx : px.length = 5) (hpz : pz.length = 5) (hqx : qx.length = 5) (hqz : qz.length = 5) (hx1 : x1.length = 5) : X0 prog 80 #[(Value.agg (Qz [px.map u64, pz.map u64])), (Value.agg (Qz [qx.map u64, qz.map u64])), (agg u64 x1)] w0 (fun r w1 => r = (Value.tuple #[(Value.agg (Qz [((Ah px pz qx qz x1).px).map u64, ((Ah px pz qx qz x1).pz).map u64])), (Value.agg (Qz [((Ah px pz qx qz x1).qx).map u64, ((Ah px pz qx qz x1).qz).map u64]))]) ∧ Ext w0 w1) := by
 refine Qy (args := [(Value.agg (Qz [px.map u64, pz.map u64])), (Value.agg (Qz [qx.map u64, qz.map u64])), (agg u64 x1)]) func80 rfl ntmps80 results80 rfl ?_
 have m0 : Mem w0 (Qr w0) [] := Mem.of_world w0
 have hl0 := Qba hpx hpz
 have hl1 := Tq hpx hpz
 have hl2 := Qba hqx hqz
 have hl3 := Tq hqx hqz
 have hl4 := Tq (Vm (Z4 px pz) (Z4 px pz)) (Vm (Zb px pz) (Zb px pz))
 have hl5 := Qba (Vm (Zb qx qz) (Z4 px pz)) (Vm (Z4 qx qz) (Zb px pz))
 have hl6 := Tq (Vm (Zb qx qz) (Z4 px pz)) (Vm (Z4 qx qz) (Zb px pz))
 have hl7 := Qba (Vm (Z4 px pz) (Z4 px pz)) (Vm [121665#64, 0#64, 0#64, 0#64, 0#64] (Zb (Qm (Z4 px pz) (Z4 px pz)) (Qm (Zb px pz) (Zb px pz))))
 refine sR <| Y9 (Us (cs := (Qz [px.map u64, pz.map u64])) m0 rfl) fun w1 b3 m1 => Y9 (Us (cs := (Qz [qx.map u64, qz.map u64])) m1 rfl) fun w2 b4 m2 => Y9 (Xc (f := u64) (l := x1) m2 rfl) fun w3 b5 m3 => Y9 (Jw m3 Bf) fun w4 b6 m4 => Y9 (Jw m4 Bf) fun w5 b7 m5 => ?_
 refine rN (Qa ?_)
 refine J4 Xo ?_
 refine Qfr [10, 11] (dl 10) 12 (luN [(10, 8), (11, 9)]) (luN [(10, 126), (11, 126)]) (luV [(10, (agg u64 (List.replicate 5 0))), (11, (agg u64 (List.replicate 5 0)))]) (fun g => g 0 = (Value.agg (Qz [px.map u64, pz.map u64])) ∧ g 1 = (Value.agg (Qz [qx.map u64, qz.map u64])) ∧ g 2 = (agg u64 x1) ∧ g 3 = (ptr b3 0) ∧ g 4 = (ptr b4 0) ∧ g 5 = (ptr b5 0) ∧ g 6 = (ptr b6 0) ∧ g 7 = (ptr b7 0) ∧ g 24 = (agg u64 (Z4 px pz)) ∧ g 29 = (agg u64 (Zb px pz)) ∧ True) m5 (Vd ⟨⟨_, _, _, rfl⟩, rfl, _, _, Yt⟩ (Vd ⟨⟨_, _, _, rfl⟩, rfl, _, _, Yt⟩ Qa3)) (fun sx6 hS6 => ?_) ?_
 ·skip
  refine X6 rfl (Zi (r := 0) Lh rfl Je Yt rfl rfl) <| Ym rfl (fun _ e' => Jk 0 Xp Yt rfl (m5.ext e').h4 rfl) <| X6 rfl (Zi (r := 5) Lh rfl Je Yt rfl rfl) <| Ym rfl (fun _ e' => Jk 1 Xp Yt rfl (m5.ext e').h4 rfl) <| Vg rfl rfl (fun w7 e7 => oc97 (Xm rfl rfl) (Qms _ _ _ sD sD)) <| X6 rfl (Zi (r := 0) Lh rfl Je Yt rfl rfl) <| Ym rfl (fun _ e' => Jk 0 Xp Yt rfl (m5.ext e').h4 rfl) <| X6 rfl (Zi (r := 5) Lh rfl Je Yt rfl rfl) <| Ym rfl (fun _ e' => Jk 1 Xp Yt rfl (m5.ext e').h4 rfl) <| Vg rfl rfl (fun w10 e10 => oc98 (Xm rfl rfl) (Qik _ _ _ sD sD)) ?_
  exact hS6 _ ⟨rfl, rfl, rfl, rfl, rfl, rfl, rfl, rfl, rfl, rfl, trivial⟩
 rintro g13 ⟨s0, s1, s2, s3, s4, s5, s6, s7, s24, s29, _⟩ w15 ps15 hmm15
 have m15 : Mem _ _ [((ps15 10), .cells (cl u64 (List.replicate 5 0)) 126 (0, 0)), ((ps15 11), .cells (cl u64 (List.replicate 5 0)) 126 (0, 0)), _, _, _, _, _] := hmm15
 show RW _ _ _ _ _ (upd (upd g13 9 (ptr (ps15 11) 0)) 8 (ptr (ps15 10) 0)) _
 generalize ps15 10 = b8, ps15 11 = b9 at m15 ⊢
 refine Ye m15 (Qg (f := u64) (l := Z4 px pz) Xw Yt rfl s24 sD m15.h0 sZ rfl) fun w16 m16 => Vu m16 (Qg (f := u64) (l := Zb px pz) Xw Yt rfl s29 sD m16.h1 sZ rfl) fun w17 m17 => ?_
 refine rN (Qa ?_)
 refine J4 Xo ?_
 refine Qfr [10, 11] (dl 10) 12 (luN [(10, 10), (11, 11)]) (luN [(10, 126), (11, 126)]) (luV [(10, (agg u64 (List.replicate 5 0))), (11, (agg u64 (List.replicate 5 0)))]) (fun g => g 0 = (Value.agg (Qz [px.map u64, pz.map u64])) ∧ g 1 = (Value.agg (Qz [qx.map u64, qz.map u64])) ∧ g 2 = (agg u64 x1) ∧ g 3 = (ptr b3 0) ∧ g 4 = (ptr b4 0) ∧ g 5 = (ptr b5 0) ∧ g 6 = (ptr b6 0) ∧ g 7 = (ptr b7 0) ∧ g 8 = (ptr b8 0) ∧ g 9 = (ptr b9 0) ∧ g 34 = (agg u64 (Z4 qx qz)) ∧ g 39 = (agg u64 (Zb qx qz)) ∧ True) m17 (Vd ⟨⟨_, _, _, rfl⟩, rfl, _, _, Yt⟩ (Vd ⟨⟨_, _, _, rfl⟩, rfl, _, _, Yt⟩ Qa3)) (fun sx18 hS18 => ?_) ?_
 ·skip
  refine X6 rfl (Zi (r := 0) Lh rfl Je Yt rfl s4) <| Ym rfl (fun _ e' => Jk 0 Xp Yt rfl (m17.ext e').h5 rfl) <| X6 rfl (Zi (r := 5) Lh rfl Je Yt rfl s4) <| Ym rfl (fun _ e' => Jk 1 Xp Yt rfl (m17.ext e').h5 rfl) <| Vg rfl rfl (fun w19 e19 => oc97 (Xm rfl rfl) (Qms _ _ _ sD sD)) <| X6 rfl (Zi (r := 0) Lh rfl Je Yt rfl s4) <| Ym rfl (fun _ e' => Jk 0 Xp Yt rfl (m17.ext e').h5 rfl) <| X6 rfl (Zi (r := 5) Lh rfl Je Yt rfl s4) <| Ym rfl (fun _ e' => Jk 1 Xp Yt rfl (m17.ext e').h5 rfl) <| Vg rfl rfl (fun w22 e22 => oc98 (Xm rfl rfl) (Qik _ _ _ sD sD)) ?_
  exact hS18 _ ⟨s0, s1, s2, s3, s4, s5, s6, s7, rfl, rfl, rfl, rfl, trivial⟩
 rintro g25 ⟨s0, s1, s2, s3, s4, s5, s6, s7, s8, s9, s34, s39, _⟩ w27 ps27 hmm27
 have m27 : Mem _ _ [((ps27 10), .cells (cl u64 (List.replicate 5 0)) 126 (0, 0)), ((ps27 11), .cells (cl u64 (List.replicate 5 0)) 126 (0, 0)), _, _, _, _, _, _, _] := hmm27
 show RW _ _ _ _ _ (upd (upd g25 11 (ptr (ps27 11) 0)) 10 (ptr (ps27 10) 0)) _
 generalize ps27 10 = b10, ps27 11 = b11 at m27 ⊢
 refine Ye m27 (Qg (f := u64) (l := Z4 qx qz) Xw Yt rfl s34 sD m27.h0 sZ rfl) fun w28 m28 => Vu m28 (Qg (f := u64) (l := Zb qx qz) Xw Yt rfl s39 sD m28.h1 sZ rfl) fun w29 m29 => ?_
 refine rN (Qa ?_)
 refine J4 Xo ?_
 refine Qfr [6, 7] (dl 6) 8 (luN [(6, 12), (7, 13)]) (luN [(6, 126), (7, 126)]) (luV [(6, (agg u64 (List.replicate 5 0))), (7, (agg u64 (List.replicate 5 0)))]) (fun g => g 0 = (Value.agg (Qz [px.map u64, pz.map u64])) ∧ g 1 = (Value.agg (Qz [qx.map u64, qz.map u64])) ∧ g 2 = (agg u64 x1) ∧ g 3 = (ptr b3 0) ∧ g 4 = (ptr b4 0) ∧ g 5 = (ptr b5 0) ∧ g 6 = (ptr b6 0) ∧ g 7 = (ptr b7 0) ∧ g 8 = (ptr b8 0) ∧ g 9 = (ptr b9 0) ∧ g 10 = (ptr b10 0) ∧ g 11 = (ptr b11 0) ∧ g 42 = (agg u64 (Qm (Zb qx qz) (Z4 px pz))) ∧ g 45 = (agg u64 (Qm (Z4 qx qz) (Zb px pz))) ∧ True) m29 (Vd ⟨⟨_, _, _, rfl⟩, rfl, _, _, Yt⟩ (Vd ⟨⟨_, _, _, rfl⟩, rfl, _, _, Yt⟩ Qa3)) (fun sx30 hS30 => ?_) ?_
 ·skip
  refine Ym rfl (fun _ e' => Qo Xp rfl Yt rfl (m29.ext e').h1 sZ) <| Ym rfl (fun _ e' => Qo Xp rfl Yt s8 (m29.ext e').h2 sZ) <| Vg rfl rfl (fun w31 e31 => Qgu (Xm rfl rfl) (D7 _ _ _ sD sD)) <| Ym rfl (fun _ e' => Qo Xp rfl Yt rfl (m29.ext e').h0 sZ) <| Ym rfl (fun _ e' => Qo Xp rfl Yt s9 (m29.ext e').h3 sZ) <| Vg rfl rfl (fun w34 e34 => Qgu (Xm rfl rfl) (D7 _ _ _ sD sD)) ?_
  exact hS30 _ ⟨s0, s1, s2, s3, s4, s5, s6, s7, s8, s9, rfl, rfl, rfl, rfl, trivial⟩
 rintro g37 ⟨s0, s1, s2, s3, s4, s5, s6, s7, s8, s9, s10, s11, s42, s45, _⟩ w39 ps39 hmm39
 have m39 : Mem _ _ [((ps39 6), .cells (cl u64 (List.replicate 5 0)) 126 (0, 0)), ((ps39 7), .cells (cl u64 (List.replicate 5 0)) 126 (0, 0)), _, _, _, _, _, _, _, _, _] := hmm39
 show RW _ _ _ _ _ (upd (upd g37 13 (ptr (ps39 7) 0)) 12 (ptr (ps39 6) 0)) _
 generalize ps39 6 = b12, ps39 7 = b13 at m39 ⊢
 refine Ye m39 (Qg (f := u64) (l := Qm (Zb qx qz) (Z4 px pz)) Xw Yt rfl s42 sD m39.h0 sZ rfl) fun w40 m40 => Vu m40 (Qg (f := u64) (l := Qm (Z4 qx qz) (Zb px pz)) Xw Yt rfl s45 sD m40.h1 sZ rfl) fun w41 m41 => ?_
 refine rN (Qa ?_)
 refine J4 Xo ?_
 refine Qfr [6, 7] (dl 6) 8 (luN [(6, 14), (7, 15)]) (luN [(6, 126), (7, 126)]) (luV [(6, (agg u64 (List.replicate 5 0))), (7, (agg u64 (List.replicate 5 0)))]) (fun g => g 0 = (Value.agg (Qz [px.map u64, pz.map u64])) ∧ g 1 = (Value.agg (Qz [qx.map u64, qz.map u64])) ∧ g 2 = (agg u64 x1) ∧ g 3 = (ptr b3 0) ∧ g 4 = (ptr b4 0) ∧ g 5 = (ptr b5 0) ∧ g 6 = (ptr b6 0) ∧ g 7 = (ptr b7 0) ∧ g 8 = (ptr b8 0) ∧ g 9 = (ptr b9 0) ∧ g 10 = (ptr b10 0) ∧ g 11 = (ptr b11 0) ∧ g 12 = (ptr b12 0) ∧ g 13 = (ptr b13 0) ∧ g 48 = (agg u64 (Qm (Z4 px pz) (Z4 px pz))) ∧ g 51 = (agg u64 (Qm (Zb px pz) (Zb px pz))) ∧ True) m41 (Vd ⟨⟨_, _, _, rfl⟩, rfl, _, _, Yt⟩ (Vd ⟨⟨_, _, _, rfl⟩, rfl, _, _, Yt⟩ Qa3)) (fun sx42 hS42 => ?_) ?_
 ·skip
  refine Ym rfl (fun _ e' => Qo Xp rfl Yt s8 (m41.ext e').h4 sZ) <| Ym rfl (fun _ e' => Qo Xp rfl Yt s8 (m41.ext e').h4 sZ) <| Vg rfl rfl (fun w43 e43 => Qgu (Xm rfl rfl) (D7 _ _ _ sD sD)) <| Ym rfl (fun _ e' => Qo Xp rfl Yt s9 (m41.ext e').h5 sZ) <| Ym rfl (fun _ e' => Qo Xp rfl Yt s9 (m41.ext e').h5 sZ) <| Vg rfl rfl (fun w46 e46 => Qgu (Xm rfl rfl) (D7 _ _ _ sD sD)) ?_
  exact hS42 _ ⟨s0, s1, s2, s3, s4, s5, s6, s7, s8, s9, s10, s11, rfl, rfl, rfl, rfl, trivial⟩
 rintro g49 ⟨s0, s1, s2, s3, s4, s5, s6, s7, s8, s9, s10, s11, s12, s13, s48, s51, _⟩ w51 ps51 hmm51
 have m51 : Mem _ _ [((ps51 6), .cells (cl u64 (List.replicate 5 0)) 126 (0, 0)), ((ps51 7), .cells (cl u64 (List.replicate 5 0)) 126 (0, 0)), _, _, _, _, _, _, _, _, _, _, _] := hmm51
 show RW _ _ _ _ _ (upd (upd g49 15 (ptr (ps51 7) 0)) 14 (ptr (ps51 6) 0)) _
 generalize ps51 6 = b14, ps51 7 = b15 at m51 ⊢
 refine Ye m51 (Qg (f := u64) (l := Qm (Z4 px pz) (Z4 px pz)) Xw Yt rfl s48 sD m51.h0 sZ rfl) fun w52 m52 => Vu m52 (Qg (f := u64) (l := Qm (Zb px pz) (Zb px pz)) Xw Yt rfl s51 sD m52.h1 sZ rfl) fun w53 m53 => ?_
 refine rN (sR ?_)
 refine Qd (Qo Xp rfl Yt rfl m53.h0 sZ) <| Qd (Qo Xp rfl Yt rfl m53.h1 sZ) <| U3 m53 (oc98 (Xm rfl rfl) (Qik _ _ _ sD sD)) fun w54 m54 => Y9 (Q7 m54 Yt) fun w56 b16 m56 => Ye m56 (Qg (f := u64) (l := Zb (Qm (Z4 px pz) (Z4 px pz)) (Qm (Zb px pz) (Zb px pz))) Xw Yt rfl rfl sD m56.h0 sZ rfl) fun w57 m57 => ?_
 refine rN (Qa ?_)
 refine J4 Xo ?_
 refine Qfr [6, 7] (dl 6) 8 (luN [(6, 17), (7, 18)]) (luN [(6, 126), (7, 126)]) (luV [(6, (agg u64 (List.replicate 5 0))), (7, (agg u64 (List.replicate 5 0)))]) (fun g => g 0 = (Value.agg (Qz [px.map u64, pz.map u64])) ∧ g 1 = (Value.agg (Qz [qx.map u64, qz.map u64])) ∧ g 2 = (agg u64 x1) ∧ g 3 = (ptr b3 0) ∧ g 4 = (ptr b4 0) ∧ g 5 = (ptr b5 0) ∧ g 6 = (ptr b6 0) ∧ g 7 = (ptr b7 0) ∧ g 8 = (ptr b8 0) ∧ g 9 = (ptr b9 0) ∧ g 10 = (ptr b10 0) ∧ g 11 = (ptr b11 0) ∧ g 12 = (ptr b12 0) ∧ g 13 = (ptr b13 0) ∧ g 14 = (ptr b14 0) ∧ g 15 = (ptr b15 0) ∧ g 16 = (ptr b16 0) ∧ g 57 = (agg u64 (Z4 (Qm (Zb qx qz) (Z4 px pz)) (Qm (Z4 qx qz) (Zb px pz)))) ∧ g 60 = (agg u64 (Zb (Qm (Zb qx qz) (Z4 px pz)) (Qm (Z4 qx qz) (Zb px pz)))) ∧ True) m57 (Vd ⟨⟨_, _, _, rfl⟩, rfl, _, _, Yt⟩ (Vd ⟨⟨_, _, _, rfl⟩, rfl, _, _, Yt⟩ Qa3)) (fun sx58 hS58 => ?_) ?_
 ·skip
  refine Ym rfl (fun _ e' => Qo Xp rfl Yt s12 (m57.ext e').h3 sZ) <| Ym rfl (fun _ e' => Qo Xp rfl Yt s13 (m57.ext e').h4 sZ) <| Vg rfl rfl (fun w59 e59 => oc97 (Xm rfl rfl) (Qms _ _ _ sD sD)) <| Ym rfl (fun _ e' => Qo Xp rfl Yt s12 (m57.ext e').h3 sZ) <| Ym rfl (fun _ e' => Qo Xp rfl Yt s13 (m57.ext e').h4 sZ) <| Vg rfl rfl (fun w62 e62 => oc98 (Xm rfl rfl) (Qik _ _ _ sD sD)) ?_
  exact hS58 _ ⟨s0, s1, s2, s3, s4, s5, s6, s7, s8, s9, s10, s11, s12, s13, rfl, rfl, rfl, rfl, rfl, trivial⟩
 rintro g65 ⟨s0, s1, s2, s3, s4, s5, s6, s7, s8, s9, s10, s11, s12, s13, s14, s15, s16, s57, s60, _⟩ w67 ps67 hmm67
 have m67 : Mem _ _ [((ps67 6), .cells (cl u64 (List.replicate 5 0)) 126 (0, 0)), ((ps67 7), .cells (cl u64 (List.replicate 5 0)) 126 (0, 0)), _, _, _, _, _, _, _, _, _, _, _, _, _, _] := hmm67
 show RW _ _ _ _ _ (upd (upd g65 18 (ptr (ps67 7) 0)) 17 (ptr (ps67 6) 0)) _
 generalize ps67 6 = b17, ps67 7 = b18 at m67 ⊢
 refine Ye m67 (Qg (f := u64) (l := Z4 (Qm (Zb qx qz) (Z4 px pz)) (Qm (Z4 qx qz) (Zb px pz))) Xw Yt rfl s57 sD m67.h0 sZ rfl) fun w68 m68 => Vu m68 (Qg (f := u64) (l := Zb (Qm (Zb qx qz) (Z4 px pz)) (Qm (Z4 qx qz) (Zb px pz))) Xw Yt rfl s60 sD m68.h1 sZ rfl) fun w69 m69 => ?_
 refine rN (Qa ?_)
 refine Xg [(0, false), (1, false), (2, false), (3, false), (4, false), (5, false), (6, false), (7, false), (8, false), (9, false), (10, false), (11, true)] 12 Xo <| Ym rfl (fun _ e' => Qo Xp rfl Yt s14 (m69.ext e').h3 sZ) <| Ym rfl (fun _ e' => Qo Xp rfl Yt s15 (m69.ext e').h4 sZ) <| Vg rfl rfl (fun w70 e70 => Qgu (Xm rfl rfl) (D7 _ _ _ sD sD)) <| Ym rfl (fun _ e' => Qo Xp rfl Yt s16 (m69.ext e').h2 sZ) <| Ym rfl (fun _ e' => Qo Xp rfl Yt s14 (m69.ext e').h3 sZ) <| X6 rfl (Gs (c := (cl u64 ([121665#64, 0#64, 0#64, 0#64, 0#64]))) Yt Xp Xq (Jq (i := 0) (v := (u64 121665#64)) (cs := #[(u64 121665#64)]) rfl rfl Vq) Xo) <| Ym rfl (fun _ e' => Qo Xp rfl Yt s16 (m69.ext e').h2 sZ) <| Vg rfl rfl (fun w73 e73 => Qgu (Xm rfl rfl) (D7 _ _ _ sD sD)) <| Vg rfl rfl (fun w76 e76 => oc97 (Xm rfl rfl) (Qms _ _ _ sD sD)) <| Vg rfl rfl (fun w79 e79 => Qgu (Xm rfl rfl) (D7 _ _ _ sD sD)) <| X6 rfl (Wv (c := (Qz [(Qm (Qm (Z4 px pz) (Z4 px pz)) (Qm (Zb px pz) (Zb px pz))).map u64, (Qm (Zb (Qm (Z4 px pz) (Z4 px pz)) (Qm (Zb px pz) (Zb px pz))) (Z4 (Qm (Z4 px pz) (Z4 px pz)) (Qm ([121665#64, 0#64, 0#64, 0#64, 0#64]) (Zb (Qm (Z4 px pz) (Z4 px pz)) (Qm (Zb px pz) (Zb px pz)))))).map u64])) (pl := [(0, 5), (5, 5)]) Bf Lh Xo (Jq (i := 0) (v := (agg u64 (Qm (Qm (Z4 px pz) (Z4 px pz)) (Qm (Zb px pz) (Zb px pz))))) (cs := (cl u64 (Qm (Qm (Z4 px pz) (Z4 px pz)) (Qm (Zb px pz) (Zb px pz))))) rfl rfl (Jq (i := 1) (v := (agg u64 (Qm (Zb (Qm (Z4 px pz) (Z4 px pz)) (Qm (Zb px pz) (Zb px pz))) (Z4 (Qm (Z4 px pz) (Z4 px pz)) (Qm ([121665#64, 0#64, 0#64, 0#64, 0#64]) (Zb (Qm (Z4 px pz) (Z4 px pz)) (Qm (Zb px pz) (Zb px pz)))))))) (cs := (cl u64 (Qm (Zb (Qm (Z4 px pz) (Z4 px pz)) (Qm (Zb px pz) (Zb px pz))) (Z4 (Qm (Z4 px pz) (Z4 px pz)) (Qm ([121665#64, 0#64, 0#64, 0#64, 0#64]) (Zb (Qm (Z4 px pz) (Z4 px pz)) (Qm (Zb px pz) (Zb px pz)))))))) rfl rfl Vq)) (Vy (L := [(List.replicate 5 0).map u64, (List.replicate 5 0).map u64]) 0 [(Qm (Qm (Z4 px pz) (Z4 px pz)) (Qm (Zb px pz) (Zb px pz))).map u64, (List.replicate 5 0).map u64] rfl (Gj u64 _).symm rfl (Vy 1 [(Qm (Qm (Z4 px pz) (Z4 px pz)) (Qm (Zb px pz) (Zb px pz))).map u64, (Qm (Zb (Qm (Z4 px pz) (Z4 px pz)) (Qm (Zb px pz) (Zb px pz))) (Z4 (Qm (Z4 px pz) (Z4 px pz)) (Qm ([121665#64, 0#64, 0#64, 0#64, 0#64]) (Zb (Qm (Z4 px pz) (Z4 px pz)) (Qm (Zb px pz) (Zb px pz)))))).map u64] rfl (Gj u64 _).symm rfl Bq))) ?_
 refine Bi rfl rfl (fun w82 e82 => ?_)
 have m82 := m69.ext e82
 refine Wu.mono (Jw m82 Bf) ?_
 rintro _ w83 ⟨b19, rfl, e83, m83⟩
 refine ⟨e83, ?_⟩
 refine Gf m83 fun w84 m84 => Vf (Ux [(Qm (Qm (Z4 px pz) (Z4 px pz)) (Qm (Zb px pz) (Zb px pz))).map u64, (Qm (Zb (Qm (Z4 px pz) (Z4 px pz)) (Qm (Zb px pz) (Zb px pz))) (Z4 (Qm (Z4 px pz) (Z4 px pz)) (Qm ([121665#64, 0#64, 0#64, 0#64, 0#64]) (Zb (Qm (Z4 px pz) (Z4 px pz)) (Qm (Zb px pz) (Zb px pz)))))).map u64] Bf rfl rfl (Bc (n := 5) (m := 5) (k := 10) (by first | rfl | (rw [List.length_map]; first | omega | (simp; done) | (simp; omega))) (Bc (n := 5) (m := 0) (k := 5) (by first | rfl | (rw [List.length_map]; first | omega | (simp; done) | (simp; omega))) Qe4 rfl) rfl) (Yl (Jj Xw _) (Yl (Jj Xw _) Uw)) m84.h0 rfl rfl) ?_
 rintro _ w85 uq85
 have m85 : Mem _ _ [(b19, .cells (Qz [(Qm (Qm (Z4 px pz) (Z4 px pz)) (Qm (Zb px pz) (Zb px pz))).map u64, (Qm (Zb (Qm (Z4 px pz) (Z4 px pz)) (Qm (Zb px pz) (Zb px pz))) (Z4 (Qm (Z4 px pz) (Z4 px pz)) (Qm ([121665#64, 0#64, 0#64, 0#64, 0#64]) (Zb (Qm (Z4 px pz) (Z4 px pz)) (Qm (Zb px pz) (Zb px pz)))))).map u64]) 129 (0, 0)), _, _, _, _, _, _, _, _, _, _, _, _, _, _, _, _] := m84.upd0 uq85
 refine rN (Qa ?_)
 refine J4 Xo ?_
 have m86 := (Mem.pick [_, _, _, _, _, _, _, _, _, _, _, _, _, _, _, _] [_] _ m85)
 have m87 := (Mem.pick [_, _, _, _, _, _, _, _, _, _, _, _, _, _, _, _] [_] _ m86)
 have m88 := (Mem.pick [_, _, _, _, _, _, _, _, _, _, _, _, _, _, _, _] [_] _ m87)
 have m89 := (Mem.pick [_, _, _, _, _, _, _, _, _, _, _, _, _, _, _] [_] _ m88)
 have m90 := (Mem.pick [_, _, _, _, _, _, _, _, _, _, _, _, _, _, _] [_] _ m89)
 have m91 := (Mem.pick [_, _, _, _, _, _, _, _, _, _, _, _, _, _, _] [_] _ m90)
 have m92 := (Mem.pick [_, _, _, _, _, _, _, _, _, _, _, _, _, _, _] [_] _ m91)
 have m93 := (Mem.pick [_, _, _, _, _, _, _, _, _, _, _, _, _, _, _] [_] _ m92)
 have m94 := (Mem.pick [_, _, _, _, _, _, _, _, _, _, _, _, _, _, _] [_] _ m93)
 have m95 := (Mem.pick [_, _, _, _, _, _, _, _, _, _, _, _, _, _, _] [_] _ m94)
 have m96 := (Mem.pick [_, _, _, _, _, _, _, _, _, _, _, _, _, _, _] [_] _ m95)
 have m97 := (Mem.pick [_, _, _, _, _, _, _, _, _, _, _, _, _, _, _] [_] _ m96)
 have m98 := (Mem.pick [_, _, _, _, _, _, _, _, _, _, _, _, _, _, _] [_] _ m97)
 have m99 := (Mem.pick [_, _, _, _, _, _, _, _, _, _, _, _, _, _, _] [_] _ m98)
 have m100 := (Mem.pick [_, _, _, _, _, _, _, _, _, _, _, _, _, _, _] [_] _ m99)
 have m101 := (Mem.pick [_, _, _, _, _, _, _, _, _, _, _, _, _, _, _] [_] _ m100)
 have m102 := (Mem.pick [_, _, _, _, _, _, _, _, _, _, _, _, _, _, _, _] [_] _ m101)
 have hFM103 : Mem w85 (Qr w0) ([(b6, .cells #[(u64 0), (u64 0), (u64 0), (u64 0), (u64 0), (u64 0), (u64 0), (u64 0), (u64 0), (u64 0)] 129 (0, 0))] ++ [(b19, .cells (Qz [(Qm (Qm (Z4 px pz) (Z4 px pz)) (Qm (Zb px pz) (Zb px pz))).map u64, (Qm (Zb (Qm (Z4 px pz) (Z4 px pz)) (Qm (Zb px pz) (Zb px pz))) (Z4 (Qm (Z4 px pz) (Z4 px pz)) (Qm ([121665#64, 0#64, 0#64, 0#64, 0#64]) (Zb (Qm (Z4 px pz) (Z4 px pz)) (Qm (Zb px pz) (Zb px pz)))))).map u64]) 129 (0, 0)), (b17, .cells (cl u64 (Z4 (Qm (Zb qx qz) (Z4 px pz)) (Qm (Z4 qx qz) (Zb px pz)))) 126 (0, 0)), (b18, .cells (cl u64 (Zb (Qm (Zb qx qz) (Z4 px pz)) (Qm (Z4 qx qz) (Zb px pz)))) 126 (0, 0)), (b16, .cells (cl u64 (Zb (Qm (Z4 px pz) (Z4 px pz)) (Qm (Zb px pz) (Zb px pz)))) 126 (0, 0)), (b14, .cells (cl u64 (Qm (Z4 px pz) (Z4 px pz))) 126 (0, 0)), (b15, .cells (cl u64 (Qm (Zb px pz) (Zb px pz))) 126 (0, 0)), (b12, .cells (cl u64 (Qm (Zb qx qz) (Z4 px pz))) 126 (0, 0)), (b13, .cells (cl u64 (Qm (Z4 qx qz) (Zb px pz))) 126 (0, 0)), (b10, .cells (cl u64 (Z4 qx qz)) 126 (0, 0)), (b11, .cells (cl u64 (Zb qx qz)) 126 (0, 0)), (b8, .cells (cl u64 (Z4 px pz)) 126 (0, 0)), (b9, .cells (cl u64 (Zb px pz)) 126 (0, 0)), (b7, .cells #[(u64 0), (u64 0), (u64 0), (u64 0), (u64 0), (u64 0), (u64 0), (u64 0), (u64 0), (u64 0)] 129 (0, 0)), (b5, .cells (cl u64 x1) 126 (0, 0)), (b4, .cells (Qz [qx.map u64, qz.map u64]) 129 (0, 0)), (b3, .cells (Qz [px.map u64, pz.map u64]) 129 (0, 0))]) := m102
 obtain ⟨RM103, hRM103⟩ : ∃ R2, R2 = Rest.add (Qr w0) [(b19, .cells (Qz [(Qm (Qm (Z4 px pz) (Z4 px pz)) (Qm (Zb px pz) (Zb px pz))).map u64, (Qm (Zb (Qm (Z4 px pz) (Z4 px pz)) (Qm (Zb px pz) (Zb px pz))) (Z4 (Qm (Z4 px pz) (Z4 px pz)) (Qm ([121665#64, 0#64, 0#64, 0#64, 0#64]) (Zb (Qm (Z4 px pz) (Z4 px pz)) (Qm (Zb px pz) (Zb px pz)))))).map u64]) 129 (0, 0)), (b17, .cells (cl u64 (Z4 (Qm (Zb qx qz) (Z4 px pz)) (Qm (Z4 qx qz) (Zb px pz)))) 126 (0, 0)), (b18, .cells (cl u64 (Zb (Qm (Zb qx qz) (Z4 px pz)) (Qm (Z4 qx qz) (Zb px pz)))) 126 (0, 0)), (b16, .cells (cl u64 (Zb (Qm (Z4 px pz) (Z4 px pz)) (Qm (Zb px pz) (Zb px pz)))) 126 (0, 0)), (b14, .cells (cl u64 (Qm (Z4 px pz) (Z4 px pz))) 126 (0, 0)), (b15, .cells (cl u64 (Qm (Zb px pz) (Zb px pz))) 126 (0, 0)), (b12, .cells (cl u64 (Qm (Zb qx qz) (Z4 px pz))) 126 (0, 0)), (b13, .cells (cl u64 (Qm (Z4 qx qz) (Zb px pz))) 126 (0, 0)), (b10, .cells (cl u64 (Z4 qx qz)) 126 (0, 0)), (b11, .cells (cl u64 (Zb qx qz)) 126 (0, 0)), (b8, .cells (cl u64 (Z4 px pz)) 126 (0, 0)), (b9, .cells (cl u64 (Zb px pz)) 126 (0, 0)), (b7, .cells #[(u64 0), (u64 0), (u64 0), (u64 0), (u64 0), (u64 0), (u64 0), (u64 0), (u64 0), (u64 0)] 129 (0, 0)), (b5, .cells (cl u64 x1) 126 (0, 0)), (b4, .cells (Qz [qx.map u64, qz.map u64]) 129 (0, 0)), (b3, .cells (Qz [px.map u64, pz.map u64]) 129 (0, 0))] := ⟨_, rfl⟩
 have M1030 : Mem w85 RM103 [(b6, .cells #[(u64 0), (u64 0), (u64 0), (u64 0), (u64 0), (u64 0), (u64 0), (u64 0), (u64 0), (u64 0)] 129 (0, 0))] := by rw [hRM103]; exact Mem.give hFM103
 have ho104 : RM103.blk b19 = some (.cells (Qz [(Qm (Qm (Z4 px pz) (Z4 px pz)) (Qm (Zb px pz) (Zb px pz))).map u64, (Qm (Zb (Qm (Z4 px pz) (Z4 px pz)) (Qm (Zb px pz) (Zb px pz))) (Z4 (Qm (Z4 px pz) (Z4 px pz)) (Qm ([121665#64, 0#64, 0#64, 0#64, 0#64]) (Zb (Qm (Z4 px pz) (Z4 px pz)) (Qm (Zb px pz) (Zb px pz)))))).map u64]) 129 (0, 0)) := by rw [hRM103]; exact Mem.addOwn hFM103 (List.Mem.head _)
 have ho105 : RM103.blk b17 = some (.cells (cl u64 (Z4 (Qm (Zb qx qz) (Z4 px pz)) (Qm (Z4 qx qz) (Zb px pz)))) 126 (0, 0)) := by rw [hRM103]; exact Mem.addOwn hFM103 (List.Mem.tail _ (List.Mem.head _))
 have ho106 : RM103.blk b18 = some (.cells (cl u64 (Zb (Qm (Zb qx qz) (Z4 px pz)) (Qm (Z4 qx qz) (Zb px pz)))) 126 (0, 0)) := by rw [hRM103]; exact Mem.addOwn hFM103 (List.Mem.tail _ (List.Mem.tail _ (List.Mem.head _)))
 have ho107 : RM103.blk b16 = some (.cells (cl u64 (Zb (Qm (Z4 px pz) (Z4 px pz)) (Qm (Zb px pz) (Zb px pz)))) 126 (0, 0)) := by rw [hRM103]; exact Mem.addOwn hFM103 (List.Mem.tail _ (List.Mem.tail _ (List.Mem.tail _ (List.Mem.head _))))
 have ho108 : RM103.blk b14 = some (.cells (cl u64 (Qm (Z4 px pz) (Z4 px pz))) 126 (0, 0)) := by rw [hRM103]; exact Mem.addOwn hFM103 (List.Mem.tail _ (List.Mem.tail _ (List.Mem.tail _ (List.Mem.tail _ (List.Mem.head _)))))
 have ho109 : RM103.blk b15 = some (.cells (cl u64 (Qm (Zb px pz) (Zb px pz))) 126 (0, 0)) := by rw [hRM103]; exact Mem.addOwn hFM103 (List.Mem.tail _ (List.Mem.tail _ (List.Mem.tail _ (List.Mem.tail _ (List.Mem.tail _ (List.Mem.head _))))))
 have ho110 : RM103.blk b12 = some (.cells (cl u64 (Qm (Zb qx qz) (Z4 px pz))) 126 (0, 0)) := by rw [hRM103]; exact Mem.addOwn hFM103 (List.Mem.tail _ (List.Mem.tail _ (List.Mem.tail _ (List.Mem.tail _ (List.Mem.tail _ (List.Mem.tail _ (List.Mem.head _)))))))
 have ho111 : RM103.blk b13 = some (.cells (cl u64 (Qm (Z4 qx qz) (Zb px pz))) 126 (0, 0)) := by rw [hRM103]; exact Mem.addOwn hFM103 (List.Mem.tail _ (List.Mem.tail _ (List.Mem.tail _ (List.Mem.tail _ (List.Mem.tail _ (List.Mem.tail _ (List.Mem.tail _ (List.Mem.head _))))))))
 have ho112 : RM103.blk b10 = some (.cells (cl u64 (Z4 qx qz)) 126 (0, 0)) := by rw [hRM103]; exact Mem.addOwn hFM103 (List.Mem.tail _ (List.Mem.tail _ (List.Mem.tail _ (List.Mem.tail _ (List.Mem.tail _ (List.Mem.tail _ (List.Mem.tail _ (List.Mem.tail _ (List.Mem.head _)))))))))
 have ho113 : RM103.blk b11 = some (.cells (cl u64 (Zb qx qz)) 126 (0, 0)) := by rw [hRM103]; exact Mem.addOwn hFM103 (List.Mem.tail _ (List.Mem.tail _ (List.Mem.tail _ (List.Mem.tail _ (List.Mem.tail _ (List.Mem.tail _ (List.Mem.tail _ (List.Mem.tail _ (List.Mem.tail _ (List.Mem.head _))))))))))
 have ho114 : RM103.blk b8 = some (.cells (cl u64 (Z4 px pz)) 126 (0, 0)) := by rw [hRM103]; exact Mem.addOwn hFM103 (List.Mem.tail _ (List.Mem.tail _ (List.Mem.tail _ (List.Mem.tail _ (List.Mem.tail _ (List.Mem.tail _ (List.Mem.tail _ (List.Mem.tail _ (List.Mem.tail _ (List.Mem.tail _ (List.Mem.head _)))))))))))
 have ho115 : RM103.blk b9 = some (.cells (cl u64 (Zb px pz)) 126 (0, 0)) := by rw [hRM103]; exact Mem.addOwn hFM103 (List.Mem.tail _ (List.Mem.tail _ (List.Mem.tail _ (List.Mem.tail _ (List.Mem.tail _ (List.Mem.tail _ (List.Mem.tail _ (List.Mem.tail _ (List.Mem.tail _ (List.Mem.tail _ (List.Mem.tail _ (List.Mem.head _))))))))))))
 have ho116 : RM103.blk b7 = some (.cells #[(u64 0), (u64 0), (u64 0), (u64 0), (u64 0), (u64 0), (u64 0), (u64 0), (u64 0), (u64 0)] 129 (0, 0)) := by rw [hRM103]; exact Mem.addOwn hFM103 (List.Mem.tail _ (List.Mem.tail _ (List.Mem.tail _ (List.Mem.tail _ (List.Mem.tail _ (List.Mem.tail _ (List.Mem.tail _ (List.Mem.tail _ (List.Mem.tail _ (List.Mem.tail _ (List.Mem.tail _ (List.Mem.tail _ (List.Mem.head _)))))))))))))
 have ho117 : RM103.blk b5 = some (.cells (cl u64 x1) 126 (0, 0)) := by rw [hRM103]; exact Mem.addOwn hFM103 (List.Mem.tail _ (List.Mem.tail _ (List.Mem.tail _ (List.Mem.tail _ (List.Mem.tail _ (List.Mem.tail _ (List.Mem.tail _ (List.Mem.tail _ (List.Mem.tail _ (List.Mem.tail _ (List.Mem.tail _ (List.Mem.tail _ (List.Mem.tail _ (List.Mem.head _))))))))))))))
 have ho118 : RM103.blk b4 = some (.cells (Qz [qx.map u64, qz.map u64]) 129 (0, 0)) := by rw [hRM103]; exact Mem.addOwn hFM103 (List.Mem.tail _ (List.Mem.tail _ (List.Mem.tail _ (List.Mem.tail _ (List.Mem.tail _ (List.Mem.tail _ (List.Mem.tail _ (List.Mem.tail _ (List.Mem.tail _ (List.Mem.tail _ (List.Mem.tail _ (List.Mem.tail _ (List.Mem.tail _ (List.Mem.tail _ (List.Mem.head _)))))))))))))))
 have ho119 : RM103.blk b3 = some (.cells (Qz [px.map u64, pz.map u64]) 129 (0, 0)) := by rw [hRM103]; exact Mem.addOwn hFM103 (List.Mem.tail _ (List.Mem.tail _ (List.Mem.tail _ (List.Mem.tail _ (List.Mem.tail _ (List.Mem.tail _ (List.Mem.tail _ (List.Mem.tail _ (List.Mem.tail _ (List.Mem.tail _ (List.Mem.tail _ (List.Mem.tail _ (List.Mem.tail _ (List.Mem.tail _ (List.Mem.tail _ (List.Mem.head _))))))))))))))))
 refine Dv M1030 [(0, false), (1, false), (2, false), (3, false), (4, false), (5, false), (6, false), (7, false), (8, false), (9, false), (10, true)] 11 rfl Xo <| yqH rfl (fun w _H _hx => J7 Lh Bf rfl (_hx.rest _ _ ho104)) <| yqH rfl (fun w _H _hx => Qo Xp rfl Yt rfl (_hx.rest _ _ ho105) sZ) <| yqH rfl (fun w _H _hx => Qo Xp rfl Yt rfl (_hx.rest _ _ ho105) sZ) <| dk_x rfl rfl (fun w120 _Hw120 _hw120 => Qgu (Xm rfl rfl) (D7 _ _ _ sD sD)) <| yqH rfl (fun w _H _hx => Qo Xp rfl Yt s5 (_hx.rest _ _ ho117) sZ) <| yqH rfl (fun w _H _hx => Qo Xp rfl Yt rfl (_hx.rest _ _ ho106) sZ) <| yqH rfl (fun w _H _hx => Qo Xp rfl Yt rfl (_hx.rest _ _ ho106) sZ) <| dk_x rfl rfl (fun w123 _Hw123 _hw123 => Qgu (Xm rfl rfl) (D7 _ _ _ sD sD)) <| dk_x rfl rfl (fun w126 _Hw126 _hw126 => Qgu (Xm rfl rfl) (D7 _ _ _ sD sD)) <| Ns rfl (Wv (c := (Qz [(Qm (Z4 (Qm (Zb qx qz) (Z4 px pz)) (Qm (Z4 qx qz) (Zb px pz))) (Z4 (Qm (Zb qx qz) (Z4 px pz)) (Qm (Z4 qx qz) (Zb px pz)))).map u64, (Qm x1 (Qm (Zb (Qm (Zb qx qz) (Z4 px pz)) (Qm (Z4 qx qz) (Zb px pz))) (Zb (Qm (Zb qx qz) (Z4 px pz)) (Qm (Z4 qx qz) (Zb px pz))))).map u64])) (pl := [(0, 5), (5, 5)]) Bf Lh Xo (Jq (i := 0) (v := (agg u64 (Qm (Z4 (Qm (Zb qx qz) (Z4 px pz)) (Qm (Z4 qx qz) (Zb px pz))) (Z4 (Qm (Zb qx qz) (Z4 px pz)) (Qm (Z4 qx qz) (Zb px pz)))))) (cs := (cl u64 (Qm (Z4 (Qm (Zb qx qz) (Z4 px pz)) (Qm (Z4 qx qz) (Zb px pz))) (Z4 (Qm (Zb qx qz) (Z4 px pz)) (Qm (Z4 qx qz) (Zb px pz)))))) rfl rfl (Jq (i := 1) (v := (agg u64 (Qm x1 (Qm (Zb (Qm (Zb qx qz) (Z4 px pz)) (Qm (Z4 qx qz) (Zb px pz))) (Zb (Qm (Zb qx qz) (Z4 px pz)) (Qm (Z4 qx qz) (Zb px pz))))))) (cs := (cl u64 (Qm x1 (Qm (Zb (Qm (Zb qx qz) (Z4 px pz)) (Qm (Z4 qx qz) (Zb px pz))) (Zb (Qm (Zb qx qz) (Z4 px pz)) (Qm (Z4 qx qz) (Zb px pz))))))) rfl rfl Vq)) (Vy (L := [(List.replicate 5 0).map u64, (List.replicate 5 0).map u64]) 0 [(Qm (Z4 (Qm (Zb qx qz) (Z4 px pz)) (Qm (Z4 qx qz) (Zb px pz))) (Z4 (Qm (Zb qx qz) (Z4 px pz)) (Qm (Z4 qx qz) (Zb px pz)))).map u64, (List.replicate 5 0).map u64] rfl (Gj u64 _).symm rfl (Vy 1 [(Qm (Z4 (Qm (Zb qx qz) (Z4 px pz)) (Qm (Z4 qx qz) (Zb px pz))) (Z4 (Qm (Zb qx qz) (Z4 px pz)) (Qm (Z4 qx qz) (Zb px pz)))).map u64, (Qm x1 (Qm (Zb (Qm (Zb qx qz) (Z4 px pz)) (Qm (Z4 qx qz) (Zb px pz))) (Zb (Qm (Zb qx qz) (Z4 px pz)) (Qm (Z4 qx qz) (Zb px pz))))).map u64] rfl (Gj u64 _).symm rfl Bq))) ?_
 refine Qf8 rfl (fun w129 e129 => ?_)
 have m129 := M1030.ext e129
 refine Wu.mono (Ux [(Qm (Qm (Z4 px pz) (Z4 px pz)) (Qm (Zb px pz) (Zb px pz))).map u64, (Qm (Zb (Qm (Z4 px pz) (Z4 px pz)) (Qm (Zb px pz) (Zb px pz))) (Z4 (Qm (Z4 px pz) (Z4 px pz)) (Qm ([121665#64, 0#64, 0#64, 0#64, 0#64]) (Zb (Qm (Z4 px pz) (Z4 px pz)) (Qm (Zb px pz) (Zb px pz)))))).map u64] Bf s6 rfl (Bc (n := 5) (m := 5) (k := 10) (by first | rfl | (rw [List.length_map]; first | omega | (simp; done) | (simp; omega))) (Bc (n := 5) (m := 0) (k := 5) (by first | rfl | (rw [List.length_map]; first | omega | (simp; done) | (simp; omega))) Qe4 rfl) rfl) (Yl (Jj Xw _) (Yl (Jj Xw _) Uw)) m129.h0 rfl rfl) ?_
 rintro _ w130 uq130
 have m130 : Mem _ _ [(b6, .cells (Qz [(Qm (Qm (Z4 px pz) (Z4 px pz)) (Qm (Zb px pz) (Zb px pz))).map u64, (Qm (Zb (Qm (Z4 px pz) (Z4 px pz)) (Qm (Zb px pz) (Zb px pz))) (Z4 (Qm (Z4 px pz) (Z4 px pz)) (Qm ([121665#64, 0#64, 0#64, 0#64, 0#64]) (Zb (Qm (Z4 px pz) (Z4 px pz)) (Qm (Zb px pz) (Zb px pz)))))).map u64]) 129 (0, 0))] := m129.upd0 uq130
 refine ⟨⟨_, m130⟩, ?_⟩
 refine Gf m130 fun w131 m131 => ?_
 have hX132 := m131
 rw [hRM103] at hX132
 have m133 : Mem w131 (Qr w0) [(b6, .cells (Qz [(Qm (Qm (Z4 px pz) (Z4 px pz)) (Qm (Zb px pz) (Zb px pz))).map u64, (Qm (Zb (Qm (Z4 px pz) (Z4 px pz)) (Qm (Zb px pz) (Zb px pz))) (Z4 (Qm (Z4 px pz) (Z4 px pz)) (Qm ([121665#64, 0#64, 0#64, 0#64, 0#64]) (Zb (Qm (Z4 px pz) (Z4 px pz)) (Qm (Zb px pz) (Zb px pz)))))).map u64]) 129 (0, 0)), (b19, .cells (Qz [(Qm (Qm (Z4 px pz) (Z4 px pz)) (Qm (Zb px pz) (Zb px pz))).map u64, (Qm (Zb (Qm (Z4 px pz) (Z4 px pz)) (Qm (Zb px pz) (Zb px pz))) (Z4 (Qm (Z4 px pz) (Z4 px pz)) (Qm ([121665#64, 0#64, 0#64, 0#64, 0#64]) (Zb (Qm (Z4 px pz) (Z4 px pz)) (Qm (Zb px pz) (Zb px pz)))))).map u64]) 129 (0, 0)), (b17, .cells (cl u64 (Z4 (Qm (Zb qx qz) (Z4 px pz)) (Qm (Z4 qx qz) (Zb px pz)))) 126 (0, 0)), (b18, .cells (cl u64 (Zb (Qm (Zb qx qz) (Z4 px pz)) (Qm (Z4 qx qz) (Zb px pz)))) 126 (0, 0)), (b16, .cells (cl u64 (Zb (Qm (Z4 px pz) (Z4 px pz)) (Qm (Zb px pz) (Zb px pz)))) 126 (0, 0)), (b14, .cells (cl u64 (Qm (Z4 px pz) (Z4 px pz))) 126 (0, 0)), (b15, .cells (cl u64 (Qm (Zb px pz) (Zb px pz))) 126 (0, 0)), (b12, .cells (cl u64 (Qm (Zb qx qz) (Z4 px pz))) 126 (0, 0)), (b13, .cells (cl u64 (Qm (Z4 qx qz) (Zb px pz))) 126 (0, 0)), (b10, .cells (cl u64 (Z4 qx qz)) 126 (0, 0)), (b11, .cells (cl u64 (Zb qx qz)) 126 (0, 0)), (b8, .cells (cl u64 (Z4 px pz)) 126 (0, 0)), (b9, .cells (cl u64 (Zb px pz)) 126 (0, 0)), (b7, .cells #[(u64 0), (u64 0), (u64 0), (u64 0), (u64 0), (u64 0), (u64 0), (u64 0), (u64 0), (u64 0)] 129 (0, 0)), (b5, .cells (cl u64 x1) 126 (0, 0)), (b4, .cells (Qz [qx.map u64, qz.map u64]) 129 (0, 0)), (b3, .cells (Qz [px.map u64, pz.map u64]) 129 (0, 0))] := ymA (Mem.back hFM103 hX132)
 refine Vf (Ux [(Qm (Z4 (Qm (Zb qx qz) (Z4 px pz)) (Qm (Z4 qx qz) (Zb px pz))) (Z4 (Qm (Zb qx qz) (Z4 px pz)) (Qm (Z4 qx qz) (Zb px pz)))).map u64, (Qm x1 (Qm (Zb (Qm (Zb qx qz) (Z4 px pz)) (Qm (Z4 qx qz) (Zb px pz))) (Zb (Qm (Zb qx qz) (Z4 px pz)) (Qm (Z4 qx qz) (Zb px pz))))).map u64] Bf s7 rfl (Bc (n := 5) (m := 5) (k := 10) (by first | rfl | (rw [List.length_map]; first | omega | (simp; done) | (simp; omega))) (Bc (n := 5) (m := 0) (k := 5) (by first | rfl | (rw [List.length_map]; first | omega | (simp; done) | (simp; omega))) Qe4 rfl) rfl) (Yl (Jj Xw _) (Yl (Jj Xw _) Uw)) ((Mem.pick [_, _, _, _, _, _, _, _, _, _, _, _, _] [_] _ m133)).h0 rfl rfl) ?_
 rintro _ w134 uq134
 have m134 : Mem _ _ [(b7, .cells (Qz [(Qm (Z4 (Qm (Zb qx qz) (Z4 px pz)) (Qm (Z4 qx qz) (Zb px pz))) (Z4 (Qm (Zb qx qz) (Z4 px pz)) (Qm (Z4 qx qz) (Zb px pz)))).map u64, (Qm x1 (Qm (Zb (Qm (Zb qx qz) (Z4 px pz)) (Qm (Z4 qx qz) (Zb px pz))) (Zb (Qm (Zb qx qz) (Z4 px pz)) (Qm (Z4 qx qz) (Zb px pz))))).map u64]) 129 (0, 0)), _, _, _, _, _, _, _, _, _, _, _, _, _, _, _, _] := Mem.upd0 (Mem.pick [_, _, _, _, _, _, _, _, _, _, _, _, _] [_] _ m133) uq134
 refine rN (Zz ?_)
 refine Qp [(Value.agg (Qz [(Qm (Qm (Z4 px pz) (Z4 px pz)) (Qm (Zb px pz) (Zb px pz))).map u64, (Qm (Zb (Qm (Z4 px pz) (Z4 px pz)) (Qm (Zb px pz) (Zb px pz))) (Z4 (Qm (Z4 px pz) (Z4 px pz)) (Qm ([121665#64, 0#64, 0#64, 0#64, 0#64]) (Zb (Qm (Z4 px pz) (Z4 px pz)) (Qm (Zb px pz) (Zb px pz)))))).map u64])), (Value.agg (Qz [(Qm (Z4 (Qm (Zb qx qz) (Z4 px pz)) (Qm (Z4 qx qz) (Zb px pz))) (Z4 (Qm (Zb qx qz) (Z4 px pz)) (Qm (Z4 qx qz) (Zb px pz)))).map u64, (Qm x1 (Qm (Zb (Qm (Zb qx qz) (Z4 px pz)) (Qm (Z4 qx qz) (Zb px pz))) (Zb (Qm (Zb qx qz) (Z4 px pz)) (Qm (Z4 qx qz) (Zb px pz))))).map u64]))] ⟨⟨_, s6, Jr Lh Bf m134.h1⟩, ⟨_, s7, Jr Lh Bf m134.h0⟩, trivial⟩ ?_
 exact ⟨by unfold Ah; rfl, m134.toExt⟩
theorem c_clamp5 (k : Z8) (w0 : World)  (hk : k.length = 32) : X0 prog 78 #[(agg u8 k)] w0 (fun r w1 => r = (agg u8 (Jc k)) ∧ Ext w0 w1) := by
 refine Qy (args := [(agg u8 k)]) func78 rfl ntmps78 results78 rfl ?_
 have m0 : Mem w0 (Qr w0) [] := Mem.of_world w0
 refine sR <| Y9 (Xc (f := u8) (l := k) m0 rfl) fun w1 b1 m1 => Y9 (Q7 m1 Zg) fun w2 b2 m2 => ?_
 refine rN (sR ?_)
 refine Qd (Xu 0 0 Xl Yw rfl) <| Qd (Qi Vs rfl rfl m2.h1 (Qu _ _ 0 sD)) <| Qd (Qf1 (b := 7#8) rfl rfl) <| Qd (Xu 0 0 Xl Yw rfl) <| Vu m2 (Xx (f := u8) (a := (k.getD 0 0) &&& ~~~7#8) Qs Yw rfl rfl m2.h1 sD (.inl (Nat.zero_le _))) fun w3 m3 => ?_
 refine rN (sR ?_)
 refine Qd (Xu 31 31 Xl Yw rfl) <| Qd (Qi Vs rfl rfl m3.h1 (Qu _ _ 0 sD)) <| Qd (Qf1 (b := 128#8) rfl rfl) <| Qd (Qf0 (b := 64#8) rfl rfl) <| Qd (Xu 31 31 Xl Yw rfl) <| Vu m3 (Xx (f := u8) (a := (((k.set 0 ((k.getD 0 0) &&& ~~~7#8)).getD 31 0) &&& ~~~128#8) ||| 64#8) Qs Yw rfl rfl m3.h1 sD (.inl (Nat.zero_le _))) fun w4 m4 => ?_
 refine rN (sR ?_)
 refine Qd (Qo Xl rfl Zg rfl m4.h1 sZ) <| Ye m4 (Qg (f := u8) (l := (k.set 0 ((k.getD 0 0) &&& ~~~7#8)).set 31 ((((k.set 0 ((k.getD 0 0) &&& ~~~7#8)).getD 31 0) &&& ~~~128#8) ||| 64#8)) Qs Zg rfl rfl sD m4.h0 sZ rfl) fun w5 m5 => ?_
 refine rN (Zz ?_)
 refine Qp [(agg u8 ((k.set 0 ((k.getD 0 0) &&& ~~~7#8)).set 31 ((((k.set 0 ((k.getD 0 0) &&& ~~~7#8)).getD 31 0) &&& ~~~128#8) ||| 64#8)))] ⟨⟨_, rfl, Xn Xl rfl Zg m5.h0 sZ⟩, trivial⟩ ?_
 exact ⟨by unfold Jc; rfl, m5.toExt⟩
set_option maxHeartbeats 1000000 in
theorem Qij (ky u : Z8) (w0 : World)  (hk : ky.length = 32) (hu : u.length = 32) : X0 prog 57 #[(agg u8 ky), (agg u8 u)] w0 (fun r w1 => r = (agg u8 (Xr ky u)) ∧ Ext w0 w1) := by
 refine Qy (args := [(agg u8 ky), (agg u8 u)]) func57 rfl ntmps57 results57 rfl ?_
 have m0 : Mem w0 (Qr w0) [] := Mem.of_world w0
 have hcl := Qkl ky
 have hrl : (Ji u).length = 5 := by unfold Ji; exact Lm u 255
 refine sR <| Y9 (Xc (f := u8) (l := ky) m0 rfl) fun w1 b2 m1 => Y9 (Xc (f := u8) (l := u) m1 rfl) fun w2 b3 m2 => Y9 (Q7 m2 Zg) fun w3 b4 m3 => ?_
 refine rN (sR ?_)
 refine Qd (Qo Xl rfl Zg rfl m3.h2 sZ) <| U3 m3 (oc78 (Jv rfl) (c_clamp5 _ _ sD)) fun w4 m4 => Aa m4 (Qg (f := u8) (l := Jc ky) Qs Zg rfl rfl sD m4.h2 sZ rfl) fun w6 m6 => ?_
 refine rN (sR ?_)
 refine Qd (Qo Xl rfl Zg rfl m6.h1 sZ) <| U3 m6 (oc79 (Jv rfl) (c_cread _ _ sD)) fun w7 m7 => Y9 (Q7 m7 Yt) fun w9 b5 m9 => Ye m9 (Qg (f := u64) (l := Ji u) Xw Yt rfl rfl sD m9.h0 sZ rfl) fun w10 m10 => ?_
 refine rN (Qa ?_)
 refine H5 (J := fun g wv => ∃ (c6 c7 : Nat), g 0 = (agg u8 ky) ∧ g 1 = (agg u8 u) ∧ g 2 = (ptr b2 0) ∧ g 3 = (ptr b3 0) ∧ g 4 = (ptr b4 0) ∧ g 5 = (ptr b5 0) ∧ g 6 = (ptr c6 0) ∧ g 7 = (ptr c7 0) ∧ Mem wv (Qr w0) [(c6, .cells (Qz [([1#64, 0#64, 0#64, 0#64, 0#64]).map u64, ([0#64, 0#64, 0#64, 0#64, 0#64]).map u64]) 129 (0, 0)), (c7, .cells (Qz [(Ji u).map u64, ([1#64, 0#64, 0#64, 0#64, 0#64]).map u64]) 129 (0, 0)), (b5, .cells (cl u64 (Ji u)) 126 (0, 0)), (b4, .cells (cl u8 (List.replicate 32 0)) 23 (0, 0)), (b3, .cells (cl u8 u) 23 (0, 0)), (b2, .cells (cl u8 (Jc ky)) 23 (0, 0))]) ?_ ?_
 ·skip
  refine J4 Xo ?_
  have hFM11 : Mem w10 (Qr w0) ([] ++ [(b5, .cells (cl u64 (Ji u)) 126 (0, 0)), (b4, .cells (cl u8 (List.replicate 32 0)) 23 (0, 0)), (b3, .cells (cl u8 u) 23 (0, 0)), (b2, .cells (cl u8 (Jc ky)) 23 (0, 0))]) := m10
  obtain ⟨RM11, hRM11⟩ : ∃ R2, R2 = Rest.add (Qr w0) [(b5, .cells (cl u64 (Ji u)) 126 (0, 0)), (b4, .cells (cl u8 (List.replicate 32 0)) 23 (0, 0)), (b3, .cells (cl u8 u) 23 (0, 0)), (b2, .cells (cl u8 (Jc ky)) 23 (0, 0))] := ⟨_, rfl⟩
  have M110 : Mem w10 RM11 [] := by rw [hRM11]; exact Mem.give hFM11
  have ho12 : RM11.blk b5 = some (.cells (cl u64 (Ji u)) 126 (0, 0)) := by rw [hRM11]; exact Mem.addOwn hFM11 (List.Mem.head _)
  have ho13 : RM11.blk b4 = some (.cells (cl u8 (List.replicate 32 0)) 23 (0, 0)) := by rw [hRM11]; exact Mem.addOwn hFM11 (List.Mem.tail _ (List.Mem.head _))
  have ho14 : RM11.blk b3 = some (.cells (cl u8 u) 23 (0, 0)) := by rw [hRM11]; exact Mem.addOwn hFM11 (List.Mem.tail _ (List.Mem.tail _ (List.Mem.head _)))
  have ho15 : RM11.blk b2 = some (.cells (cl u8 (Jc ky)) 23 (0, 0)) := by rw [hRM11]; exact Mem.addOwn hFM11 (List.Mem.tail _ (List.Mem.tail _ (List.Mem.tail _ (List.Mem.head _))))
  refine re_alM [5, 6] (dl 5) [(7, true)] 8 (luN [(5, 6), (6, 7)]) (luN [(5, 129), (6, 129)]) (luV [(5, (Value.agg #[(u64 0), (u64 0), (u64 0), (u64 0), (u64 0), (u64 0), (u64 0), (u64 0), (u64 0), (u64 0)])), (6, (Value.agg #[(u64 0), (u64 0), (u64 0), (u64 0), (u64 0), (u64 0), (u64 0), (u64 0), (u64 0), (u64 0)]))]) (fun g => g 0 = (agg u8 ky) ∧ g 1 = (agg u8 u) ∧ g 2 = (ptr b2 0) ∧ g 3 = (ptr b3 0) ∧ g 4 = (ptr b4 0) ∧ g 5 = (ptr b5 0) ∧ g 14 = (Value.agg #[(u64 1#64), (u64 0#64), (u64 0#64), (u64 0#64), (u64 0#64), (u64 0), (u64 0), (u64 0), (u64 0), (u64 0)]) ∧ g 17 = (Value.agg (Qz [(Ji u).map u64, ([1#64, 0#64, 0#64, 0#64, 0#64]).map u64])) ∧ True) M110 (Vd ⟨⟨_, _, _, rfl⟩, rfl, _, _, Bf⟩ (Vd ⟨⟨_, _, _, rfl⟩, rfl, _, _, Bf⟩ Qa3)) (fun sx16 hS16 => ?_) ?_
  ·skip
   refine Ns rfl (Gs (c := (cl u64 ([1#64, 0#64, 0#64, 0#64, 0#64]))) Yt Xp Xq (Jq (i := 0) (v := (u64 1#64)) (cs := #[(u64 1#64)]) rfl rfl Vq) Xo) <| Ns rfl (Wv (c := #[(u64 1#64), (u64 0#64), (u64 0#64), (u64 0#64), (u64 0#64), (u64 0), (u64 0), (u64 0), (u64 0), (u64 0)]) (pl := [(0, 5), (5, 5)]) Bf Lh Xo (Jq (i := 0) (v := (agg u64 ([1#64, 0#64, 0#64, 0#64, 0#64]))) (cs := (cl u64 ([1#64, 0#64, 0#64, 0#64, 0#64]))) rfl rfl Vq) Xo) <| yqH rfl (fun w _H _hx => Qo Xp rfl Yt rfl (_hx.rest _ _ ho12) sZ) <| Ns rfl (Gs (c := (cl u64 ([1#64, 0#64, 0#64, 0#64, 0#64]))) Yt Xp Xq (Jq (i := 0) (v := (u64 1#64)) (cs := #[(u64 1#64)]) rfl rfl Vq) Xo) <| Ns rfl (Wv (c := (Qz [(Ji u).map u64, ([1#64, 0#64, 0#64, 0#64, 0#64]).map u64])) (pl := [(0, 5), (5, 5)]) Bf Lh Xo (Jq (i := 0) (v := (agg u64 (Ji u))) (cs := (cl u64 (Ji u))) rfl rfl (Jq (i := 1) (v := (agg u64 ([1#64, 0#64, 0#64, 0#64, 0#64]))) (cs := (cl u64 ([1#64, 0#64, 0#64, 0#64, 0#64]))) rfl rfl Vq)) (Vy (L := [(List.replicate 5 0).map u64, (List.replicate 5 0).map u64]) 0 [(Ji u).map u64, (List.replicate 5 0).map u64] rfl (Gj u64 _).symm rfl (Vy 1 [(Ji u).map u64, ([1#64, 0#64, 0#64, 0#64, 0#64]).map u64] rfl (Gj u64 _).symm rfl Bq))) ?_
   exact hS16 _ ⟨rfl, rfl, rfl, rfl, rfl, rfl, rfl, rfl, trivial⟩
  rintro g17 ⟨s0, s1, s2, s3, s4, s5, s14, s17, _⟩ w19 ps19 hmm19
  have m19 : Mem _ _ [((ps19 5), .cells #[(u64 0), (u64 0), (u64 0), (u64 0), (u64 0), (u64 0), (u64 0), (u64 0), (u64 0), (u64 0)] 129 (0, 0)), ((ps19 6), .cells #[(u64 0), (u64 0), (u64 0), (u64 0), (u64 0), (u64 0), (u64 0), (u64 0), (u64 0), (u64 0)] 129 (0, 0))] := hmm19
  show DW _ _ _ _ _ _ _ (upd (upd g17 7 (ptr (ps19 6) 0)) 6 (ptr (ps19 5) 0)) _
  generalize ps19 5 = b6, ps19 6 = b7 at m19 ⊢
  refine Qf8 rfl (fun w20 e20 => ?_)
  have m20 := m19.ext e20
  refine Wu.mono (Qgq (cs := #[(u64 1#64), (u64 0#64), (u64 0#64), (u64 0#64), (u64 0#64), (u64 0), (u64 0), (u64 0), (u64 0), (u64 0)]) Bf rfl s14 Xo (Ql6 (Xy (Xw _) (Xy (Xw _) (Xy (Xw _) (Xy (Xw _) (Xy (Xw _) (Xy (Xw _) (Xy (Xw _) (Xy (Xw _) (Xy (Xw _) (Xy (Xw _) Jz))))))))))) m20.h0 Xo rfl) ?_
  rintro _ w21 uq21
  have m21 : Mem _ _ [(b6, .cells #[(u64 1#64), (u64 0#64), (u64 0#64), (u64 0#64), (u64 0#64), (u64 0), (u64 0), (u64 0), (u64 0), (u64 0)] 129 (0, 0)), _] := m20.upd0 uq21
  refine ⟨⟨_, m21⟩, ?_⟩
  refine Gf m21 fun w22 m22 => ?_
  have hX23 := m22
  rw [hRM11] at hX23
  have m24 : Mem w22 (Qr w0) [(b6, .cells #[(u64 1#64), (u64 0#64), (u64 0#64), (u64 0#64), (u64 0#64), (u64 0), (u64 0), (u64 0), (u64 0), (u64 0)] 129 (0, 0)), (b7, .cells #[(u64 0), (u64 0), (u64 0), (u64 0), (u64 0), (u64 0), (u64 0), (u64 0), (u64 0), (u64 0)] 129 (0, 0)), (b5, .cells (cl u64 (Ji u)) 126 (0, 0)), (b4, .cells (cl u8 (List.replicate 32 0)) 23 (0, 0)), (b3, .cells (cl u8 u) 23 (0, 0)), (b2, .cells (cl u8 (Jc ky)) 23 (0, 0))] := ymA (Mem.back hFM11 hX23)
  refine Vf (Ux [(Ji u).map u64, ([1#64, 0#64, 0#64, 0#64, 0#64]).map u64] Bf rfl s17 (Bc (n := 5) (m := 5) (k := 10) (by first | rfl | (rw [List.length_map]; first | omega | (simp; done) | (simp; omega))) (Bc (n := 5) (m := 0) (k := 5) (by first | rfl | (rw [List.length_map]; first | omega | (simp; done) | (simp; omega))) Qe4 rfl) rfl) (Yl (Jj Xw _) (Yl (Jj Xw _) Uw)) m24.h1 rfl rfl) ?_
  rintro _ w25 uq25
  have m25 : Mem _ _ [_, (b7, .cells (Qz [(Ji u).map u64, ([1#64, 0#64, 0#64, 0#64, 0#64]).map u64]) 129 (0, 0)), _, _, _, _] := m24.upd1 uq25
  refine rN ?_
  exact ⟨b6, b7, s0, s1, s2, s3, s4, s5, rfl, rfl, m25⟩
 rintro fr26 w27 ⟨c6, c7, s0, s1, s2, s3, s4, s5, s6, s7, m27⟩
 refine Qa (sR ?_)
 refine Zx (i64 254) ?_
 refine rN (Qh ?_)
 refine Y1 (fun g wv => ∃ (j : Nat), (j ≤ 255) ∧ g 0 = (agg u8 ky) ∧ g 1 = (agg u8 u) ∧ g 2 = (ptr b2 0) ∧ g 3 = (ptr b3 0) ∧ g 4 = (ptr b4 0) ∧ g 5 = (ptr b5 0) ∧ g 6 = (ptr c6 0) ∧ g 7 = (ptr c7 0) ∧ g 8 = (i64 (254 - (j : Int))) ∧ Mem wv (Qr w0) [(c6, .cells (Qz [((Jm (Jc ky) (Ji u) j).px).map u64, ((Jm (Jc ky) (Ji u) j).pz).map u64]) 129 (0, 0)), (c7, .cells (Qz [((Jm (Jc ky) (Ji u) j).qx).map u64, ((Jm (Jc ky) (Ji u) j).qz).map u64]) 129 (0, 0)), (b5, .cells (cl u64 (Ji u)) 126 (0, 0)), (b4, .cells (cl u8 (List.replicate 32 0)) 23 (0, 0)), (b2, .cells (cl u8 (Jc ky)) 23 (0, 0))]) (fun g wv => (RowKit.intOf (g 8) + 1).toNat) ?_ ?_
 have m28 := Mem.drop [_] _ (Mem.pick [_, _, _, _] [_] _ m27)
 ·exact ⟨0, oM, s0, s1, s2, s3, s4, s5, s6, s7, rfl, (by rw [Qo3]; exact m28)⟩
 rintro fr29 w30 ⟨j, hj, s0, s1, s2, s3, s4, s5, s6, s7, s8, m30⟩
 have z8 := s8
 have hL := Qrz (Jc ky) hrl j
 have hL1 := hL.px
 have hL2 := hL.pz
 have hL3 := hL.qx
 have hL4 := hL.qz
 have hS := Qds (Jm (Jc ky) (Ji u) j).px (Jm (Jc ky) (Ji u) j).pz (Jm (Jc ky) (Ji u) j).qx (Jm (Jc ky) (Ji u) j).qz (Ji u)
 have hT := Qds (Jm (Jc ky) (Ji u) j).qx (Jm (Jc ky) (Ji u) j).qz (Jm (Jc ky) (Ji u) j).px (Jm (Jc ky) (Ji u) j).pz (Ji u)
 have hSpx := hS.px
 have hSpz := hS.pz
 have hSqx := hS.qx
 have hSqz := hS.qz
 have hTpx := hT.px
 have hTpz := hT.pz
 have hTqx := hT.qx
 have hTqz := hT.qz
 refine Qa (sR ?_)
 refine Yb s8 <| Qd (F5 (b := 0) rfl rfl) <| rN ?_
 refine Zy rfl (fun hc31 => ?_) (fun hc31 => ?_)
 ·
  have hc31p := of_decide_eq_true hc31
  refine Qn (Qc (Qa (Qh (sR ?_))))
  refine Yb s8 <| Qd (Jy.cast (congrArg i64 (show (254 - (j : Int)) / 8 = (((254 - j) / 8 : Nat) : Int) by omega)) (Uo (b := 8) rfl rfl oM oM oM)) <| Qd (Zl (r := ((254 - j) / 8)) oM Xl Yw s2 rfl oM sD) <| Qd (v := (u8 ((Jc ky).getD ((254 - j) / 8) 0))) (Qi Vs rfl rfl m30.h4 (Qu _ _ 0 sD)) <| Yb s8 <| Qd (Jy.cast (congrArg i64 (show (254 - (j : Int)) % 8 = (((254 - j) % 8 : Nat) : Int) by omega)) (W9 (b := 8) rfl rfl oM oM oM)) <| Qd (Qgz rfl rfl oM) <| Qd (Qg0 (b := 1#8) rfl rfl) <| Qd (Qb4 (b := 0#8) rfl rfl) <| rN ?_
  refine Zy rfl (fun hc32 => ?_) (fun hc32 => ?_)
  ·
   have hc32p := eq_of_beq hc32
   refine Qb <| Qd (J7 Lh Bf s6 m30.h0) <| Qd (J7 Lh Bf s7 m30.h1) <| Qd (Qo Xp rfl Yt s5 m30.h2 sZ) <| U3 m30 (oc80 (Ci rfl rfl rfl) (Qq1 _ _ _ _ _ _ sD sD sD sD sD)) fun w33 m33 => Yb rfl <| Qd (v := (Value.agg (Qz [((Ah ((Jm (Jc ky) (Ji u) j).px) ((Jm (Jc ky) (Ji u) j).pz) ((Jm (Jc ky) (Ji u) j).qx) ((Jm (Jc ky) (Ji u) j).qz) (Ji u)).px).map u64, ((Ah ((Jm (Jc ky) (Ji u) j).px) ((Jm (Jc ky) (Ji u) j).pz) ((Jm (Jc ky) (Ji u) j).qx) ((Jm (Jc ky) (Ji u) j).qz) (Ji u)).pz).map u64]))) (Zr rfl rfl) <| Qd (v := (Value.agg (Qz [((Ah ((Jm (Jc ky) (Ji u) j).px) ((Jm (Jc ky) (Ji u) j).pz) ((Jm (Jc ky) (Ji u) j).qx) ((Jm (Jc ky) (Ji u) j).qz) (Ji u)).qx).map u64, ((Ah ((Jm (Jc ky) (Ji u) j).px) ((Jm (Jc ky) (Ji u) j).pz) ((Jm (Jc ky) (Ji u) j).qx) ((Jm (Jc ky) (Ji u) j).qz) (Ji u)).qz).map u64]))) (Zr rfl rfl) <| Ye m33 (Kt Bf s6 rfl m33.h0 (Yl (Jj Xw _) (Yl (Jj Xw _) Uw))) fun w35 m35 => Vu m35 (Kt Bf s7 rfl m35.h1 (Yl (Jj Xw _) (Yl (Jj Xw _) Uw))) fun w36 m36 => ?_
   refine Zp (Qe (Qb ?_))
   refine Yb s8 <| Qd (Yf (b := 1) rfl rfl oM oM) <| Zx (i64 ((254 - (j : Int)) - 1)) <| rN ?_
   exact ⟨⟨j + 1, oM, s0, s1, s2, s3, s4, s5, s6, s7, (show i64 (254 - (j : Int) - 1) = i64 (254 - ((j + 1 : Nat) : Int)) from congrArg i64 oM), (by rw [ladGo_t (k := (Jc ky)) (x1 := (Ji u)) (j := j) hc32]; exact m36)⟩, (by show (RowKit.intOf (i64 (254 - (j : Int) - 1)) + 1).toNat < (RowKit.intOf _ + 1).toNat; rw [z8]; simp only [RowKit.intOf, i64]; omega)⟩
  ·
   have hc32p := ne_of_beq_false hc32
   refine Qb <| Qd (J7 Lh Bf s7 m30.h1) <| Qd (J7 Lh Bf s6 m30.h0) <| Qd (Qo Xp rfl Yt s5 m30.h2 sZ) <| U3 m30 (oc80 (Ci rfl rfl rfl) (Qq1 _ _ _ _ _ _ sD sD sD sD sD)) fun w37 m37 => Yb rfl <| Qd (v := (Value.agg (Qz [((Ah ((Jm (Jc ky) (Ji u) j).qx) ((Jm (Jc ky) (Ji u) j).qz) ((Jm (Jc ky) (Ji u) j).px) ((Jm (Jc ky) (Ji u) j).pz) (Ji u)).px).map u64, ((Ah ((Jm (Jc ky) (Ji u) j).qx) ((Jm (Jc ky) (Ji u) j).qz) ((Jm (Jc ky) (Ji u) j).px) ((Jm (Jc ky) (Ji u) j).pz) (Ji u)).pz).map u64]))) (Zr rfl rfl) <| Qd (v := (Value.agg (Qz [((Ah ((Jm (Jc ky) (Ji u) j).qx) ((Jm (Jc ky) (Ji u) j).qz) ((Jm (Jc ky) (Ji u) j).px) ((Jm (Jc ky) (Ji u) j).pz) (Ji u)).qx).map u64, ((Ah ((Jm (Jc ky) (Ji u) j).qx) ((Jm (Jc ky) (Ji u) j).qz) ((Jm (Jc ky) (Ji u) j).px) ((Jm (Jc ky) (Ji u) j).pz) (Ji u)).qz).map u64]))) (Zr rfl rfl) <| Vu m37 (Kt Bf s7 rfl m37.h1 (Yl (Jj Xw _) (Yl (Jj Xw _) Uw))) fun w39 m39 => Ye m39 (Kt Bf s6 rfl m39.h0 (Yl (Jj Xw _) (Yl (Jj Xw _) Uw))) fun w40 m40 => ?_
   refine Zp (Qe (Qb ?_))
   refine Yb s8 <| Qd (Yf (b := 1) rfl rfl oM oM) <| Zx (i64 ((254 - (j : Int)) - 1)) <| rN ?_
   exact ⟨⟨j + 1, oM, s0, s1, s2, s3, s4, s5, s6, s7, (show i64 (254 - (j : Int) - 1) = i64 (254 - ((j + 1 : Nat) : Int)) from congrArg i64 oM), (by rw [ladGo_f (k := (Jc ky)) (x1 := (Ji u)) (j := j) hc32]; exact m40)⟩, (by show (RowKit.intOf (i64 (254 - (j : Int) - 1)) + 1).toNat < (RowKit.intOf _ + 1).toNat; rw [z8]; simp only [RowKit.intOf, i64]; omega)⟩
 ·
  have hc31p := of_decide_eq_false hc31
  obtain rfl : j = 255 := by omega
  refine X4 ?_
  refine Qj (Qj (Xi ?_))
  refine Qa <| Xg (dl 5) 5 Xo <| X6 rfl (Zi (r := 0) Lh rfl Je Yt rfl s6) <| Ym rfl (fun _ e' => Jk 0 Xp Yt rfl (m30.ext e').h0 rfl) <| X6 rfl (Zi (r := 5) Lh rfl Je Yt rfl s6) <| Ym rfl (fun _ e' => Jk 1 Xp Yt rfl (m30.ext e').h0 rfl) <| Vg rfl rfl (fun w41 e41 => oc82 (Jv rfl) (c_inv5 _ _ sD)) <| Gf m30 fun w44 m44 => U3 m44 (Qgu (Xm rfl rfl) (D7 _ _ _ sD sD)) fun w45 m45 => U3 m45 (oc83 (Jv rfl) (c_ebytes _ _ sD)) fun w47 m47 => yqU3 m47 (Qg (f := u8) (l := Qa2 (Qm ((Jm (Jc ky) (Ji u) 255).px) (invL ((Jm (Jc ky) (Ji u) 255).pz)))) Qs Zg s4 rfl sD m47.h3 sZ rfl) fun w49 m49 => ?_
  refine rN (Zz ?_)
  refine Qp [(agg u8 (Qa2 (Qm ((Jm (Jc ky) (Ji u) 255).px) (invL ((Jm (Jc ky) (Ji u) 255).pz)))))] ⟨⟨_, s4, Xn Xl rfl Zg m49.h3 sZ⟩, trivial⟩ ?_
  exact ⟨by unfold Xr invL; rfl, m49.toExt⟩
theorem Qlj (ky : Z8) (w0 : World)  (hk : ky.length = 32) : X0 prog 31 #[(agg u8 ky)] w0 (fun r w1 => r = (agg u8 (Xr ky V5)) ∧ Ext w0 w1) := by
 refine Qy (args := [(agg u8 ky)]) func31 rfl ntmps31 results31 rfl ?_
 have m0 : Mem w0 (Qr w0) [] := Mem.of_world w0
 refine sR <| Y9 (Xc (f := u8) (l := ky) m0 rfl) fun w1 b1 m1 => Y9 (Q7 m1 Zg) fun w2 b2 m2 => ?_
 refine rN (sR ?_)
 refine Qd (Qo Xl rfl Zg rfl m2.h1 sZ) <| Qd (Gs (c := (cl u8 ((Et 9#8)))) Zg Xl Yw (Jq (i := 0) (v := (u8 9#8)) (cs := #[(u8 9#8)]) rfl rfl Vq) Xo) <| U3 m2 (oc57 (Xm rfl rfl) (Qij _ _ _ sD sD)) fun w3 m3 => Ye m3 (Qg (f := u8) (l := Xr ky ((Et 9#8))) Qs Zg rfl rfl sD m3.h0 sZ rfl) fun w5 m5 => ?_
 refine rN (Zz ?_)
 refine Qp [(agg u8 (Xr ky ((Et 9#8))))] ⟨⟨_, rfl, Xn Xl rfl Zg m5.h0 sZ⟩, trivial⟩ ?_
 exact ⟨rfl, m5.toExt⟩
theorem c_new5 (ky : Z8) (w0 : World)  (hk : ky.length = 32) : X0 prog 27 #[(agg u8 ky)] w0 (fun r w1 => r = (Value.agg (Qz [ky.map u8, (Xr ky V5).map u8])) ∧ Ext w0 w1) := by
 refine Qy (args := [(agg u8 ky)]) func27 rfl ntmps27 results27 rfl ?_
 have m0 : Mem w0 (Qr w0) [] := Mem.of_world w0
 refine sR <| Y9 (Xc (f := u8) (l := ky) m0 rfl) fun w1 b1 m1 => Y9 (Jw m1 ti39) fun w2 b2 m2 => ?_
 refine rN (Qa ?_)
 refine Xg [(0, false), (1, false), (2, false)] 3 Xo <| Ym rfl (fun _ e' => Qo Xl rfl Zg rfl (m2.ext e').h1 sZ) <| Ym rfl (fun _ e' => Qo Xl rfl Zg rfl (m2.ext e').h1 sZ) <| Vg rfl rfl (fun w3 e3 => oc31 (Jv rfl) (Qlj _ _ sD)) <| Gf m2 fun w6 m6 => Qd (Wv (c := (Qz [ky.map u8, (Xr ky V5).map u8])) (pl := [(0, 32), (32, 32)]) ti39 uT39 Xo (Jq (i := 0) (v := (agg u8 ky)) (cs := (cl u8 ky)) rfl rfl (Jq (i := 1) (v := (agg u8 (Xr ky V5))) (cs := (cl u8 (Xr ky V5))) rfl rfl Vq)) (Vy (L := [(List.replicate 32 0).map u8, (List.replicate 32 0).map u8]) 0 [ky.map u8, (List.replicate 32 0).map u8] rfl (Gj u8 _).symm rfl (Vy 1 [ky.map u8, (Xr ky V5).map u8] rfl (Gj u8 _).symm rfl Bq))) <| Vf (Ux [ky.map u8, (Xr ky V5).map u8] ti39 rfl rfl (Bc (n := 32) (m := 32) (k := 64) (by first | rfl | (rw [List.length_map]; first | omega | (simp; done) | (simp; omega))) (Bc (n := 32) (m := 0) (k := 32) (by first | rfl | (rw [List.length_map]; first | omega | (simp; done) | (simp; omega))) Qe4 rfl) rfl) (Yl (Jj Qs _) (Yl (Jj Qs _) Uw)) m6.h0 rfl rfl) ?_
 rintro _ w7 uq7
 have m7 : Mem _ _ [(b2, .cells (Qz [ky.map u8, (Xr ky V5).map u8]) 39 (0, 0)), _] := m6.upd0 uq7
 refine rN (Zz ?_)
 refine Qp [(Value.agg (Qz [ky.map u8, (Xr ky V5).map u8]))] ⟨⟨_, rfl, Jr uT39 ti39 m7.h0⟩, trivial⟩ ?_
 exact ⟨rfl, m7.toExt⟩
theorem Qsj (own pub ot : Z8) (w0 : World)  (ho : own.length = 32) (hp : pub.length = 32) (ht : ot.length = 32) : X0 prog 41 #[(Value.agg (Qz [own.map u8, pub.map u8])), (agg u8 ot)] w0 (fun r w1 => r = (agg u8 (Xr own ot)) ∧ Ext w0 w1) := by
 refine Qy (args := [(Value.agg (Qz [own.map u8, pub.map u8])), (agg u8 ot)]) func41 rfl ntmps41 results41 rfl ?_
 have m0 : Mem w0 (Qr w0) [] := Mem.of_world w0
 refine sR <| Y9 (Us (cs := (Qz [own.map u8, pub.map u8])) m0 rfl) fun w1 b2 m1 => Y9 (Xc (f := u8) (l := ot) m1 rfl) fun w2 b3 m2 => Y9 (Q7 m2 Zg) fun w3 b4 m3 => ?_
 refine rN (sR ?_)
 refine Qd (Zi (r := 0) uT39 rfl Je Zg rfl rfl) <| Qd (Jk 0 Xl Zg rfl m3.h2 rfl) <| Qd (Qo Xl rfl Zg rfl m3.h1 sZ) <| U3 m3 (oc57 (Xm rfl rfl) (Qij _ _ _ sD sD)) fun w4 m4 => Ye m4 (Qg (f := u8) (l := Xr own ot) Qs Zg rfl rfl sD m4.h0 sZ rfl) fun w6 m6 => ?_
 refine rN (Zz ?_)
 refine Qp [(agg u8 (Xr own ot))] ⟨⟨_, rfl, Xn Xl rfl Zg m6.h0 sZ⟩, trivial⟩ ?_
 exact ⟨rfl, m6.toExt⟩
end Go.Proofs.YtkmiemlpfkfiiaaDoor
