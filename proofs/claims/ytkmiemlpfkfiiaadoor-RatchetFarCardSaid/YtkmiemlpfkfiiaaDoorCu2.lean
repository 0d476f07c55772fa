/- Contracts: the curve, second part. Conditions: none beyond those that each theorem states. -/
import Derived.Test.YtkmiemlpfkfiiaaDoorCu1
import Derived.Test.YtkmiemlpfkfiiaaDoorFwR
namespace Go.Proofs.YtkmiemlpfkfiiaaDoor
open Tryd
set_option linter.unusedVariables false
set_option linter.unusedSimpArgs false
def Q7 : Zj := (Gp 9#8)
@[simp] theorem base9_length : Q7.length = 32 := rfl
attribute [local irreducible] Qe Qz Qk Vp Uj Xu Kr Lu We Qi Xx Gg Md U5 Xo
theorem c_inv5 (x : List (BitVec 64)) (w0 : World)  (hx : x.length = 5) : Xm prog 82 #[(agg u64 x)] w0 (fun r w1 => r = (agg u64 (invL x)) ∧ Ext w0 w1) := by
 refine Qy (args := [(agg u64 x)]) func82 rfl ntmps82 results82 rfl ?_
 have m0 : Mem w0 (Qu w0) [] := Mem.of_world w0
 refine sR <| Y5 (Zw (f := u64) (l := x) m0 rfl) fun w1 b1 m1 => Y5 (Zf m1 Z5) fun w2 b2 m2 => ?_
 refine rN (sR ?_)
 refine Qd (Uf (c := (cl u64 ([1#64, 0#64, 0#64, 0#64, 0#64]))) Z5 Zk Zl (Yx (i := 0) (v := (u64 1#64)) (cs := #[(u64 1#64)]) rfl rfl V5) Xh) <| Y5 (Zf m2 Z5) fun w3 b3 m3 => Yb m3 (Qq (f := u64) (l := [1#64, 0#64, 0#64, 0#64, 0#64]) Zm Z5 rfl rfl sD m3.h0 sZ rfl) fun w4 m4 => ?_
 refine rN (Qc (sR ?_))
 refine Zv (i64 254) ?_
 refine rN (Qj ?_)
 refine Jq (fun g wv => ∃ (j : Nat), (j ≤ 255) ∧ g 0 = (agg u64 x) ∧ g 1 = (ptr b1 0) ∧ g 2 = (ptr b2 0) ∧ g 3 = (ptr b3 0) ∧ g 4 = (i64 (254 - (j : Int))) ∧ Mem wv (Qu w0) [(b3, .cells (cl u64 (Vp x j)) 126 (0, 0)), (b2, .cells (cl u64 (List.replicate 5 0)) 126 (0, 0)), (b1, .cells (cl u64 x) 126 (0, 0))]) (fun g wv => (RowKit.intOf (g 4) + 1).toNat) ?_ ?_
 ·exact ⟨0, oM, rfl, rfl, rfl, rfl, rfl, (by rw [Qld]; exact m4)⟩
 rintro fr5 w6 ⟨j, hj, s0, s1, s2, s3, s4, m6⟩
 have z4 := s4
 have hil := Rf x j
 refine Qc (sR ?_)
 refine Yk s4 <| Qd (Eu (b := 0) rfl rfl) <| rN ?_
 refine Xb rfl (fun hc7 => ?_) (fun hc7 => ?_)
 ·
  have hc7p := of_decide_eq_true hc7
  refine Qo (Qa (Qc (Qj (sR ?_))))
  refine Qd (Qw Zk rfl Z5 s3 m6.h0 sZ) <| Qd (Qw Zk rfl Z5 s3 m6.h0 sZ) <| Dx m6 (Qdh (X3 rfl rfl) (Ub _ _ _ sD sD)) fun w8 m8 => Yb m8 (Qq (f := u64) (l := Qe (Vp x j) (Vp x j)) Zm Z5 s3 rfl sD m8.h0 sZ rfl) fun w10 m10 => ?_
  refine rN (sR ?_)
  refine Yk s4 <| Qd (Je (b := 2) rfl rfl) <| Zb (bl ((254 - (j : Int)) != 2)) ?_
  rcases Bool.eq_false_or_eq_true ((254 - (j : Int)) != 2) with hb11 | hb11
  ·
   have hb11p := bne_iff_ne.1 hb11
   refine Zt (s := 15) rfl rfl hb11 rfl (Ye s4) <| Zt (s := 15) rfl rfl hb11 rfl (Je (b := 4) rfl rfl) <| Qd (V7 rfl hb11 rfl) <| rN ?_
   refine Xb rfl (fun hc12 => ?_) (fun hc12 => ?_)
   ·
    have hc12p := bne_iff_ne.1 hc12
    refine Qb <| Qd (Qw Zk rfl Z5 s3 m10.h0 sZ) <| Qd (Qw Zk rfl Z5 s1 m10.h2 sZ) <| Dx m10 (Qdh (X3 rfl rfl) (Ub _ _ _ sD sD)) fun w13 m13 => Yb m13 (Qq (f := u64) (l := Qe (Qe (Vp x j) (Vp x j)) x) Zm Z5 s3 rfl sD m13.h0 sZ rfl) fun w15 m15 => ?_
    refine Zo (Qh (Qb ?_))
    refine Yk s4 <| Qd (Kw (b := 1) rfl rfl oM oM) <| Zv (i64 ((254 - (j : Int)) - 1)) <| rN ?_
    have hin : Qe (Qe (Vp x j) (Vp x j)) x = Vp x (j + 1) := Qnv (by clear hil hx; omega)
    exact ⟨⟨j + 1, oM, s0, s1, s2, s3, (show i64 (254 - (j : Int) - 1) = i64 (254 - ((j + 1 : Nat) : Int)) from congrArg i64 oM), (by rw [← hin]; exact m15)⟩, (by show (RowKit.intOf (i64 (254 - (j : Int) - 1)) + 1).toNat < (RowKit.intOf _ + 1).toNat; rw [z4]; simp only [RowKit.intOf, i64]; omega)⟩
   ·
    have hc12p := Xz hc12
    refine Qo (Qh (Qb ?_))
    refine Yk s4 <| Qd (Kw (b := 1) rfl rfl oM oM) <| Zv (i64 ((254 - (j : Int)) - 1)) <| rN ?_
    have hin : Qe (Vp x j) (Vp x j) = Vp x (j + 1) := Qke (by clear hil hx; omega)
    exact ⟨⟨j + 1, oM, s0, s1, s2, s3, (show i64 (254 - (j : Int) - 1) = i64 (254 - ((j + 1 : Nat) : Int)) from congrArg i64 oM), (by rw [← hin]; exact m10)⟩, (by show (RowKit.intOf (i64 (254 - (j : Int) - 1)) + 1).toNat < (RowKit.intOf _ + 1).toNat; rw [z4]; simp only [RowKit.intOf, i64]; omega)⟩
  ·
   have hb11p := Xz hb11
   refine Na (s := 15) rfl rfl hb11 rfl <| Na (s := 15) rfl rfl hb11 rfl <| Qd (Js rfl hb11 rfl) <| rN <| Ym rfl Yh ?_
   refine Qo (Qh (Qb ?_))
   refine Yk s4 <| Qd (Kw (b := 1) rfl rfl oM oM) <| Zv (i64 ((254 - (j : Int)) - 1)) <| rN ?_
   have hin : Qe (Vp x j) (Vp x j) = Vp x (j + 1) := Qke (by clear hil hx; omega)
   exact ⟨⟨j + 1, oM, s0, s1, s2, s3, (show i64 (254 - (j : Int) - 1) = i64 (254 - ((j + 1 : Nat) : Int)) from congrArg i64 oM), (by rw [← hin]; exact m10)⟩, (by show (RowKit.intOf (i64 (254 - (j : Int) - 1)) + 1).toNat < (RowKit.intOf _ + 1).toNat; rw [z4]; simp only [RowKit.intOf, i64]; omega)⟩
 ·
  have hc7p := of_decide_eq_false hc7
  obtain rfl : j = 255 := by omega
  have hil := Rf x 255
  refine Yc ?_
  refine Qr (Qr (Xp ?_))
  refine sR <| Qd (Qw Zk rfl Z5 s3 m6.h0 sZ) <| Vq m6 (Qq (f := u64) (l := Vp x 255) Zm Z5 s2 rfl sD m6.h1 sZ rfl) fun w16 m16 => ?_
  refine rN (Zy ?_)
  refine Qs [(agg u64 (Vp x 255))] ⟨⟨_, s2, Xi Zk rfl Z5 m16.h1 sZ⟩, trivial⟩ ?_
  exact ⟨by unfold invL; rfl, m16.toExt⟩
set_option maxHeartbeats 1000000 in
theorem c_ebytes (e : List (BitVec 64)) (w0 : World)  (he : e.length = 5) : Xm prog 83 #[(agg u64 e)] w0 (fun r w1 => r = (agg u8 (Lu e)) ∧ Ext w0 w1) := by
 refine Qy (args := [(agg u64 e)]) func83 rfl ntmps83 results83 rfl ?_
 have m0 : Mem w0 (Qu w0) [] := Mem.of_world w0
 refine sR <| Y5 (Zw (f := u64) (l := e) m0 rfl) fun w1 b1 m1 => Y5 (Zf m1 Zi) fun w2 b2 m2 => ?_
 refine rN (sR ?_)
 refine Qd (Qw Zk rfl Z5 rfl m2.h1 sZ) <| Dx m2 (oc101 (Jb rfl) (Qez _ _ sD)) fun w3 m3 => Vq m3 (Qq (f := u64) (l := Gg e) Zm Z5 rfl rfl sD m3.h1 sZ rfl) fun w5 m5 => ?_
 refine rN (Qc ?_)
 obtain ⟨e0, e1, e2, e3, e4, hce⟩ := Qbi (Gg e) (by rw [Uy, he])
 have hmC6 := m5
 rw [hce] at hmC6
 refine Qb <| Qd (Qw Zk rfl Z5 rfl hmC6.h1 sZ) <| Y5 (Zf hmC6 Z5) fun w7 b3 m7 => Yb m7 (Qq (f := u64) (l := [e0, e1, e2, e3, e4]) Zm Z5 rfl rfl sD m7.h0 sZ rfl) fun w8 m8 => Zv (u64 19#64) ?_
 refine rN (Qc (sR ?_))
 refine Zb (i64 0) ?_
 refine rN (Qj ?_)
 refine Wu 6 ?_
 refine Zh (sR ?_)
 refine Qd (X5 0 5) ?_
 refine rN (Qc ?_)
 refine Qx rfl Yh ?_
 refine Qo (Qa (Qc (Qj (sR ?_))))
 refine Zb (i64 0) <| Zv (i64 0) ?_
 refine rN (sR ?_)
 refine Zb (i64 0) <| Qd (Xe 0 0 Zk Zl rfl) <| Qd (v := (u64 e0)) (Ql Xg rfl rfl m8.h0 (Qv _ _ 0 Xk)) <| Zb (u64 19#64) <| Qd (X7 (b := 19#64) rfl rfl) <| Qd (Xe 0 0 Zk Zl rfl) <| Yb m8 (Q8 (f := u64) (l' := [e0 + 19#64, e1, e2, e3, e4]) rfl Zm Zl rfl rfl m8.h0 Xk (.inl (Nat.zero_le _))) fun w9 m9 => ?_
 refine rN (sR ?_)
 refine Zb (i64 0) <| Qd (Xe 0 0 Zk Zl rfl) <| Qd (v := (u64 (e0 + 19#64))) (Ql Xg rfl rfl m9.h0 (Qv _ _ 0 Xk)) <| Qd (Xn (b := 51) rfl rfl oM) <| Zv (u64 ((e0 + 19#64) >>> 51)) ?_
 refine rN (Qb ?_)
 refine Zb (i64 0) <| Qd (Xe 0 0 Zk Zl rfl) <| Qd (v := (u64 (e0 + 19#64))) (Ql Xg rfl rfl m9.h0 (Qv _ _ 0 Xk)) <| Qd (Jk (b := 2251799813685247#64) rfl rfl) <| Qd (Xe 0 0 Zk Zl rfl) <| Yb m9 (Q8 (f := u64) (l' := [(e0 + 19#64) &&& 2251799813685247#64, e1, e2, e3, e4]) rfl Zm Zl rfl rfl m9.h0 Xk (.inl (Nat.zero_le _))) fun w10 m10 => ?_
 refine Zo (Qh (Qb ?_))
 refine Qd (v := (i64 1)) (Xd 0 1) <| Zb (i64 1) ?_
 refine rN (Zh (sR ?_))
 refine Qd (X5 1 5) ?_
 refine rN (Qc ?_)
 refine Qx rfl Yh ?_
 refine Qo (Qa (Qc (Qj (sR ?_))))
 refine Zb (i64 1) <| Zv (i64 1) ?_
 refine rN (sR ?_)
 refine Zb (i64 1) <| Qd (Xe 1 1 Zk Zl rfl) <| Qd (v := (u64 e1)) (Ql Xg rfl rfl m10.h0 (Qv _ _ 0 Xk)) <| Zb (u64 ((e0 + 19#64) >>> 51)) <| Qd (X7 rfl rfl) <| Qd (Xe 1 1 Zk Zl rfl) <| Yb m10 (Q8 (f := u64) (l' := [(e0 + 19#64) &&& 2251799813685247#64, e1 + ((e0 + 19#64) >>> 51), e2, e3, e4]) rfl Zm Zl rfl rfl m10.h0 Xk (.inl (Nat.zero_le _))) fun w11 m11 => ?_
 refine rN (sR ?_)
 refine Zb (i64 1) <| Qd (Xe 1 1 Zk Zl rfl) <| Qd (v := (u64 (e1 + ((e0 + 19#64) >>> 51)))) (Ql Xg rfl rfl m11.h0 (Qv _ _ 0 Xk)) <| Qd (Xn (b := 51) rfl rfl oM) <| Zv (u64 ((e1 + ((e0 + 19#64) >>> 51)) >>> 51)) ?_
 refine rN (Qb ?_)
 refine Zb (i64 1) <| Qd (Xe 1 1 Zk Zl rfl) <| Qd (v := (u64 (e1 + ((e0 + 19#64) >>> 51)))) (Ql Xg rfl rfl m11.h0 (Qv _ _ 0 Xk)) <| Qd (Jk (b := 2251799813685247#64) rfl rfl) <| Qd (Xe 1 1 Zk Zl rfl) <| Yb m11 (Q8 (f := u64) (l' := [(e0 + 19#64) &&& 2251799813685247#64, (e1 + ((e0 + 19#64) >>> 51)) &&& 2251799813685247#64, e2, e3, e4]) rfl Zm Zl rfl rfl m11.h0 Xk (.inl (Nat.zero_le _))) fun w12 m12 => ?_
 refine Zo (Qh (Qb ?_))
 refine Qd (v := (i64 2)) (Xd 1 1) <| Zb (i64 2) ?_
 refine rN (Zh (sR ?_))
 refine Qd (X5 2 5) ?_
 refine rN (Qc ?_)
 refine Qx rfl Yh ?_
 refine Qo (Qa (Qc (Qj (sR ?_))))
 refine Zb (i64 2) <| Zv (i64 2) ?_
 refine rN (sR ?_)
 refine Zb (i64 2) <| Qd (Xe 2 2 Zk Zl rfl) <| Qd (v := (u64 e2)) (Ql Xg rfl rfl m12.h0 (Qv _ _ 0 Xk)) <| Zb (u64 ((e1 + ((e0 + 19#64) >>> 51)) >>> 51)) <| Qd (X7 rfl rfl) <| Qd (Xe 2 2 Zk Zl rfl) <| Yb m12 (Q8 (f := u64) (l' := [(e0 + 19#64) &&& 2251799813685247#64, (e1 + ((e0 + 19#64) >>> 51)) &&& 2251799813685247#64, e2 + ((e1 + ((e0 + 19#64) >>> 51)) >>> 51), e3, e4]) rfl Zm Zl rfl rfl m12.h0 Xk (.inl (Nat.zero_le _))) fun w13 m13 => ?_
 refine rN (sR ?_)
 refine Zb (i64 2) <| Qd (Xe 2 2 Zk Zl rfl) <| Qd (v := (u64 (e2 + ((e1 + ((e0 + 19#64) >>> 51)) >>> 51)))) (Ql Xg rfl rfl m13.h0 (Qv _ _ 0 Xk)) <| Qd (Xn (b := 51) rfl rfl oM) <| Zv (u64 ((e2 + ((e1 + ((e0 + 19#64) >>> 51)) >>> 51)) >>> 51)) ?_
 refine rN (Qb ?_)
 refine Zb (i64 2) <| Qd (Xe 2 2 Zk Zl rfl) <| Qd (v := (u64 (e2 + ((e1 + ((e0 + 19#64) >>> 51)) >>> 51)))) (Ql Xg rfl rfl m13.h0 (Qv _ _ 0 Xk)) <| Qd (Jk (b := 2251799813685247#64) rfl rfl) <| Qd (Xe 2 2 Zk Zl rfl) <| Yb m13 (Q8 (f := u64) (l' := [(e0 + 19#64) &&& 2251799813685247#64, (e1 + ((e0 + 19#64) >>> 51)) &&& 2251799813685247#64, (e2 + ((e1 + ((e0 + 19#64) >>> 51)) >>> 51)) &&& 2251799813685247#64, e3, e4]) rfl Zm Zl rfl rfl m13.h0 Xk (.inl (Nat.zero_le _))) fun w14 m14 => ?_
 refine Zo (Qh (Qb ?_))
 refine Qd (v := (i64 3)) (Xd 2 1) <| Zb (i64 3) ?_
 refine rN (Zh (sR ?_))
 refine Qd (X5 3 5) ?_
 refine rN (Qc ?_)
 refine Qx rfl Yh ?_
 refine Qo (Qa (Qc (Qj (sR ?_))))
 refine Zb (i64 3) <| Zv (i64 3) ?_
 refine rN (sR ?_)
 refine Zb (i64 3) <| Qd (Xe 3 3 Zk Zl rfl) <| Qd (v := (u64 e3)) (Ql Xg rfl rfl m14.h0 (Qv _ _ 0 Xk)) <| Zb (u64 ((e2 + ((e1 + ((e0 + 19#64) >>> 51)) >>> 51)) >>> 51)) <| Qd (X7 rfl rfl) <| Qd (Xe 3 3 Zk Zl rfl) <| Yb m14 (Q8 (f := u64) (l' := [(e0 + 19#64) &&& 2251799813685247#64, (e1 + ((e0 + 19#64) >>> 51)) &&& 2251799813685247#64, (e2 + ((e1 + ((e0 + 19#64) >>> 51)) >>> 51)) &&& 2251799813685247#64, e3 + ((e2 + ((e1 + ((e0 + 19#64) >>> 51)) >>> 51)) >>> 51), e4]) rfl Zm Zl rfl rfl m14.h0 Xk (.inl (Nat.zero_le _))) fun w15 m15 => ?_
 refine rN (sR ?_)
 refine Zb (i64 3) <| Qd (Xe 3 3 Zk Zl rfl) <| Qd (v := (u64 (e3 + ((e2 + ((e1 + ((e0 + 19#64) >>> 51)) >>> 51)) >>> 51)))) (Ql Xg rfl rfl m15.h0 (Qv _ _ 0 Xk)) <| Qd (Xn (b := 51) rfl rfl oM) <| Zv (u64 ((e3 + ((e2 + ((e1 + ((e0 + 19#64) >>> 51)) >>> 51)) >>> 51)) >>> 51)) <| rN ?_
 refine CW.abs (fun g => g 0 = (agg u64 e) ∧ g 1 = (ptr b1 0) ∧ g 2 = (ptr b2 0) ∧ g 3 = (ptr b3 0) ∧ g 4 = (u64 ((e3 + ((e2 + ((e1 + ((e0 + 19#64) >>> 51)) >>> 51)) >>> 51)) >>> 51)) ∧ g 5 = (i64 3) ∧ g 10 = (i64 3) ∧ g 11 = (bl true) ∧ True) ⟨rfl, rfl, rfl, rfl, rfl, rfl, rfl, rfl, trivial⟩ ?_
 rintro fr16 ⟨s0, s1, s2, s3, s4, s5, s10, s11, _⟩
 refine Qb <| Yk s5 <| Qd (Xe 3 3 Zk Zl s3) <| Qd (v := (u64 (e3 + ((e2 + ((e1 + ((e0 + 19#64) >>> 51)) >>> 51)) >>> 51)))) (Ql Xg rfl rfl m15.h0 (Qv _ _ 0 Xk)) <| Qd (Jk (b := 2251799813685247#64) rfl rfl) <| Qd (Xe 3 3 Zk Zl s3) <| Yb m15 (Q8 (f := u64) (l' := [(e0 + 19#64) &&& 2251799813685247#64, (e1 + ((e0 + 19#64) >>> 51)) &&& 2251799813685247#64, (e2 + ((e1 + ((e0 + 19#64) >>> 51)) >>> 51)) &&& 2251799813685247#64, (e3 + ((e2 + ((e1 + ((e0 + 19#64) >>> 51)) >>> 51)) >>> 51)) &&& 2251799813685247#64, e4]) rfl Zm Zl rfl rfl m15.h0 Xk (.inl (Nat.zero_le _))) fun w17 m17 => ?_
 refine Zo (Qh (Qb ?_))
 refine Qd (v := (i64 4)) (Z9 (a := 3) (b := 1) s10 rfl oM oM) <| Zb (i64 4) ?_
 refine rN (Zh (sR ?_))
 refine Qd (X5 4 5) ?_
 refine rN (Qc ?_)
 refine Qx rfl Yh ?_
 refine Qo (Qa (Qc (Qj (sR ?_))))
 refine Zb (i64 4) <| Zv (i64 4) ?_
 refine rN (sR ?_)
 refine Zb (i64 4) <| Qd (Xe 4 4 Zk Zl s3) <| Qd (v := (u64 e4)) (Ql Xg rfl rfl m17.h0 (Qv _ _ 0 Xk)) <| Yk s4 <| Qd (X7 rfl rfl) <| Qd (Xe 4 4 Zk Zl s3) <| Yb m17 (Q8 (f := u64) (l' := [(e0 + 19#64) &&& 2251799813685247#64, (e1 + ((e0 + 19#64) >>> 51)) &&& 2251799813685247#64, (e2 + ((e1 + ((e0 + 19#64) >>> 51)) >>> 51)) &&& 2251799813685247#64, (e3 + ((e2 + ((e1 + ((e0 + 19#64) >>> 51)) >>> 51)) >>> 51)) &&& 2251799813685247#64, e4 + ((e3 + ((e2 + ((e1 + ((e0 + 19#64) >>> 51)) >>> 51)) >>> 51)) >>> 51)]) rfl Zm Zl rfl rfl m17.h0 Xk (.inl (Nat.zero_le _))) fun w18 m18 => ?_
 refine rN (sR ?_)
 refine Zb (i64 4) <| Qd (Xe 4 4 Zk Zl s3) <| Qd (v := (u64 (e4 + ((e3 + ((e2 + ((e1 + ((e0 + 19#64) >>> 51)) >>> 51)) >>> 51)) >>> 51)))) (Ql Xg rfl rfl m18.h0 (Qv _ _ 0 Xk)) <| Qd (Xn (b := 51) rfl rfl oM) <| Sv rfl ?_
 refine rN (Qb ?_)
 refine Zb (i64 4) <| Qd (Xe 4 4 Zk Zl s3) <| Qd (v := (u64 (e4 + ((e3 + ((e2 + ((e1 + ((e0 + 19#64) >>> 51)) >>> 51)) >>> 51)) >>> 51)))) (Ql Xg rfl rfl m18.h0 (Qv _ _ 0 Xk)) <| Qd (Jk (b := 2251799813685247#64) rfl rfl) <| Qd (Xe 4 4 Zk Zl s3) <| Yb m18 (Q8 (f := u64) (l' := [(e0 + 19#64) &&& 2251799813685247#64, (e1 + ((e0 + 19#64) >>> 51)) &&& 2251799813685247#64, (e2 + ((e1 + ((e0 + 19#64) >>> 51)) >>> 51)) &&& 2251799813685247#64, (e3 + ((e2 + ((e1 + ((e0 + 19#64) >>> 51)) >>> 51)) >>> 51)) &&& 2251799813685247#64, (e4 + ((e3 + ((e2 + ((e1 + ((e0 + 19#64) >>> 51)) >>> 51)) >>> 51)) >>> 51)) &&& 2251799813685247#64]) rfl Zm Zl rfl rfl m18.h0 Xk (.inl (Nat.zero_le _))) fun w19 m19 => ?_
 refine Zo (Qh (Qb ?_))
 refine Qd (v := (i64 5)) (Xd 4 1) <| Zb (i64 5) ?_
 refine rN (Zh (sR ?_))
 refine Qd (X5 5 5) ?_
 refine rN (Qc ?_)
 refine Ym rfl Yh <| Yc ?_
 refine Qr (Qr (Xp ?_))
 refine Qc (sR ?_)
 refine Yk rfl <| Qd (Qlk (b := 0#64) rfl rfl) <| rN ?_
 refine Xb rfl (fun hc20 => ?_) (fun hc20 => ?_)
 ·
  have hc20p := of_decide_eq_true hc20
  refine Qb <| Qd (Qw Zk rfl Z5 s3 m19.h0 sZ) <| Qc3 m19 (Qq (f := u64) (l := [(e0 + 19#64) &&& 2251799813685247#64, (e1 + ((e0 + 19#64) >>> 51)) &&& 2251799813685247#64, (e2 + ((e1 + ((e0 + 19#64) >>> 51)) >>> 51)) &&& 2251799813685247#64, (e3 + ((e2 + ((e1 + ((e0 + 19#64) >>> 51)) >>> 51)) >>> 51)) &&& 2251799813685247#64, (e4 + ((e3 + ((e2 + ((e1 + ((e0 + 19#64) >>> 51)) >>> 51)) >>> 51)) >>> 51)) &&& 2251799813685247#64]) Zm Z5 s1 rfl sD m19.h2 sZ rfl) fun w21 m21 => ?_
  refine rN (Qc (Qc ?_))
  have hwq : [(e0 + 19#64) &&& 2251799813685247#64, (e1 + ((e0 + 19#64) >>> 51)) &&& 2251799813685247#64, (e2 + ((e1 + ((e0 + 19#64) >>> 51)) >>> 51)) &&& 2251799813685247#64, (e3 + ((e2 + ((e1 + ((e0 + 19#64) >>> 51)) >>> 51)) >>> 51)) &&& 2251799813685247#64, (e4 + ((e3 + ((e2 + ((e1 + ((e0 + 19#64) >>> 51)) >>> 51)) >>> 51)) >>> 51)) &&& 2251799813685247#64] = We e := by unfold We; rw [hce]; exact (if_pos (of_decide_eq_true hc20)).symm
  have hmW22 := m21
  rw [hwq] at hmW22
  have hwl := Qbc he
  refine Qb <| Zb (i64 0) ?_
  refine rN (Qj ?_)
  refine Jq (fun g wv => ∃ (i : Nat), (i ≤ 255) ∧ g 0 = (agg u64 e) ∧ g 1 = (ptr b1 0) ∧ g 2 = (ptr b2 0) ∧ g 3 = (ptr b3 0) ∧ g 4 = (u64 ((e4 + ((e3 + ((e2 + ((e1 + ((e0 + 19#64) >>> 51)) >>> 51)) >>> 51)) >>> 51)) >>> 51)) ∧ g 5 = (i64 4) ∧ g 10 = (i64 5) ∧ g 11 = (bl false) ∧ g 30 = (bl (decide ((0#64).toNat < ((e4 + ((e3 + ((e2 + ((e1 + ((e0 + 19#64) >>> 51)) >>> 51)) >>> 51)) >>> 51)) >>> 51).toNat))) ∧ g 32 = (i64 (i : Int)) ∧ Mem wv (Qu w0) [(b3, .cells (cl u64 (We e)) 126 (0, 0)), (b2, .cells (cl u8 (Kr (We e) i)) 23 (0, 0)), (b1, .cells (cl u64 (We e)) 126 (0, 0))]) (fun g wv => (255 - RowKit.intOf (g 32)).toNat) ?_ ?_
  ·exact ⟨0, oM, s0, s1, s2, s3, rfl, rfl, rfl, rfl, rfl, rfl, (by rw [Qbw]; exact hmW22)⟩
  rintro fr23 w24 ⟨i, hi, s0, s1, s2, s3, s4, s5, s10, s11, s30, s32, m24⟩
  have z32 := s32
  have hgl := Vz (We e) i
  refine sR <| Qd (Xy (b := 255) s32 rfl) ?_
  refine rN (Qc ?_)
  refine Xb rfl (fun hc25 => ?_) (fun hc25 => ?_)
  ·
   have hc25p := of_decide_eq_true hc25
   refine Qo (Qa (Qc (Qj (sR ?_))))
   refine Yk s32 <| Zv (i64 (i : Int)) <| rN <| Xj (dl 16) 16 Xh <| Jj rfl (i64 (i : Int)) <| Xq rfl (Yt.cast (congrArg i64 (show (i : Int) / 8 = ((i / 8 : Nat) : Int) by omega)) (Gw (b := 8) rfl rfl oM oM oM)) <| Xq rfl (Xc (r := (i / 8)) oM Xf Yw s2 rfl oM sD) <| Y6 (v := (u8 ((Kr (We e) i).getD (i / 8) 0))) rfl (fun _ e' => Ql Uu rfl rfl (m24.ext e').h1 (Qv _ _ 0 sD)) <| Jj rfl (i64 (i : Int)) <| Xq rfl (Yt.cast (congrArg i64 (show (i : Int) / 51 = ((i / 51 : Nat) : Int) by omega)) (Gw (b := 51) rfl rfl oM oM oM)) <| Xq rfl (Xc (r := (i / 51)) oM Zk Zl s1 rfl oM sD) <| Y6 (v := (u64 ((We e).getD (i / 51) 0))) rfl (fun _ e' => Ql Xg rfl rfl (m24.ext e').h2 (Qv _ _ 0 sD)) ?_
   refine Jj rfl (i64 (i : Int)) <| Xq rfl (Yt.cast (congrArg i64 (show (i : Int) % 51 = ((i % 51 : Nat) : Int) by omega)) (J4 (b := 51) rfl rfl oM oM oM)) <| Xq rfl (Xn rfl rfl oM) <| Xq rfl (Jk (b := 1#64) rfl rfl) <| Xq rfl (Yd ⟨_, Xg⟩ Uu rfl) <| Jj rfl (i64 (i : Int)) <| Xq rfl (Yt.cast (congrArg i64 (show (i : Int) % 8 = ((i % 8 : Nat) : Int) by omega)) (J4 (b := 8) rfl rfl oM oM oM)) <| Xq rfl (Qhf rfl rfl oM) <| Ug m24 fun w26 m26 => Qd (Qcs rfl rfl) <| Qd (Xc (r := (i / 8)) oM Xf Yw s2 rfl oM sD) <| Vq m26 (X9 (f := u8) (a := ((Kr (We e) i).getD (i / 8) 0) ||| ((((((We e).getD (i / 51) 0) >>> ((i % 51 : Nat) : Int).toNat) &&& 1#64).setWidth 8) <<< ((i % 8 : Nat) : Int).toNat)) Q9 Yw rfl rfl m26.h1 sD (.inl (Nat.zero_le _))) fun w27 m27 => ?_
   refine Zo (Qh (Qb ?_))
   refine Qd (Z9 (b := 1) s32 rfl oM oM) <| Zb (i64 ((i : Int) + 1)) <| rN ?_
   exact ⟨⟨i + 1, oM, s0, s1, s2, s3, s4, s5, s10, s11, s30, rfl, (by rw [Qbx]; exact m27)⟩, Am rfl z32 oM oM⟩
  ·
   have hc25p := of_decide_eq_false hc25
   obtain rfl : i = 255 := by omega
   have hgl := Vz (We e) 255
   refine Yc ?_
   refine Qr (Qr (Xp ?_))
   refine sR <| Qd (Qw Xf rfl Zi s2 m24.h1 sZ) <| Vq m24 (Qq (f := u8) (l := Kr (We e) 255) Q9 Zi s2 rfl sD m24.h1 sZ rfl) fun w28 m28 => ?_
   refine rN (Zy ?_)
   refine Qs [(agg u8 (Kr (We e) 255))] ⟨⟨_, s2, Xi Xf rfl Zi m28.h1 sZ⟩, trivial⟩ ?_
   exact ⟨by unfold Lu; rfl, m28.toExt⟩
 ·
  have hc20p := of_decide_eq_false hc20
  refine Qo (Qa (Qc (Qc ?_)))
  have hwq : [e0, e1, e2, e3, e4] = We e := by unfold We; rw [hce]; exact (if_neg (of_decide_eq_false hc20)).symm
  have hmW29 := m19
  rw [hwq] at hmW29
  have hwl := Qbc he
  refine Qb <| Zb (i64 0) ?_
  refine rN (Qj ?_)
  refine Jq (fun g wv => ∃ (i : Nat), (i ≤ 255) ∧ g 0 = (agg u64 e) ∧ g 1 = (ptr b1 0) ∧ g 2 = (ptr b2 0) ∧ g 3 = (ptr b3 0) ∧ g 4 = (u64 ((e4 + ((e3 + ((e2 + ((e1 + ((e0 + 19#64) >>> 51)) >>> 51)) >>> 51)) >>> 51)) >>> 51)) ∧ g 5 = (i64 4) ∧ g 10 = (i64 5) ∧ g 11 = (bl false) ∧ g 30 = (bl (decide ((0#64).toNat < ((e4 + ((e3 + ((e2 + ((e1 + ((e0 + 19#64) >>> 51)) >>> 51)) >>> 51)) >>> 51)) >>> 51).toNat))) ∧ g 32 = (i64 (i : Int)) ∧ Mem wv (Qu w0) [(b3, .cells (cl u64 ([(e0 + 19#64) &&& 2251799813685247#64, (e1 + ((e0 + 19#64) >>> 51)) &&& 2251799813685247#64, (e2 + ((e1 + ((e0 + 19#64) >>> 51)) >>> 51)) &&& 2251799813685247#64, (e3 + ((e2 + ((e1 + ((e0 + 19#64) >>> 51)) >>> 51)) >>> 51)) &&& 2251799813685247#64, (e4 + ((e3 + ((e2 + ((e1 + ((e0 + 19#64) >>> 51)) >>> 51)) >>> 51)) >>> 51)) &&& 2251799813685247#64])) 126 (0, 0)), (b2, .cells (cl u8 (Kr (We e) i)) 23 (0, 0)), (b1, .cells (cl u64 (We e)) 126 (0, 0))]) (fun g wv => (255 - RowKit.intOf (g 32)).toNat) ?_ ?_
  ·exact ⟨0, oM, s0, s1, s2, s3, rfl, rfl, rfl, rfl, rfl, rfl, (by rw [Qbw]; exact hmW29)⟩
  rintro fr30 w31 ⟨i, hi, s0, s1, s2, s3, s4, s5, s10, s11, s30, s32, m31⟩
  have z32 := s32
  have hgl := Vz (We e) i
  refine sR <| Qd (Xy (b := 255) s32 rfl) ?_
  refine rN (Qc ?_)
  refine Xb rfl (fun hc32 => ?_) (fun hc32 => ?_)
  ·
   have hc32p := of_decide_eq_true hc32
   refine Qo (Qa (Qc (Qj (sR ?_))))
   refine Yk s32 <| Zv (i64 (i : Int)) <| rN <| Xj (dl 16) 16 Xh <| Jj rfl (i64 (i : Int)) <| Xq rfl (Yt.cast (congrArg i64 (show (i : Int) / 8 = ((i / 8 : Nat) : Int) by omega)) (Gw (b := 8) rfl rfl oM oM oM)) <| Xq rfl (Xc (r := (i / 8)) oM Xf Yw s2 rfl oM sD) <| Y6 (v := (u8 ((Kr (We e) i).getD (i / 8) 0))) rfl (fun _ e' => Ql Uu rfl rfl (m31.ext e').h1 (Qv _ _ 0 sD)) <| Jj rfl (i64 (i : Int)) <| Xq rfl (Yt.cast (congrArg i64 (show (i : Int) / 51 = ((i / 51 : Nat) : Int) by omega)) (Gw (b := 51) rfl rfl oM oM oM)) <| Xq rfl (Xc (r := (i / 51)) oM Zk Zl s1 rfl oM sD) <| Y6 (v := (u64 ((We e).getD (i / 51) 0))) rfl (fun _ e' => Ql Xg rfl rfl (m31.ext e').h2 (Qv _ _ 0 sD)) ?_
   refine Jj rfl (i64 (i : Int)) <| Xq rfl (Yt.cast (congrArg i64 (show (i : Int) % 51 = ((i % 51 : Nat) : Int) by omega)) (J4 (b := 51) rfl rfl oM oM oM)) <| Xq rfl (Xn rfl rfl oM) <| Xq rfl (Jk (b := 1#64) rfl rfl) <| Xq rfl (Yd ⟨_, Xg⟩ Uu rfl) <| Jj rfl (i64 (i : Int)) <| Xq rfl (Yt.cast (congrArg i64 (show (i : Int) % 8 = ((i % 8 : Nat) : Int) by omega)) (J4 (b := 8) rfl rfl oM oM oM)) <| Xq rfl (Qhf rfl rfl oM) <| Ug m31 fun w33 m33 => Qd (Qcs rfl rfl) <| Qd (Xc (r := (i / 8)) oM Xf Yw s2 rfl oM sD) <| Vq m33 (X9 (f := u8) (a := ((Kr (We e) i).getD (i / 8) 0) ||| ((((((We e).getD (i / 51) 0) >>> ((i % 51 : Nat) : Int).toNat) &&& 1#64).setWidth 8) <<< ((i % 8 : Nat) : Int).toNat)) Q9 Yw rfl rfl m33.h1 sD (.inl (Nat.zero_le _))) fun w34 m34 => ?_
   refine Zo (Qh (Qb ?_))
   refine Qd (Z9 (b := 1) s32 rfl oM oM) <| Zb (i64 ((i : Int) + 1)) <| rN ?_
   exact ⟨⟨i + 1, oM, s0, s1, s2, s3, s4, s5, s10, s11, s30, rfl, (by rw [Qbx]; exact m34)⟩, Am rfl z32 oM oM⟩
  ·
   have hc32p := of_decide_eq_false hc32
   obtain rfl : i = 255 := by omega
   have hgl := Vz (We e) 255
   refine Yc ?_
   refine Qr (Qr (Xp ?_))
   refine sR <| Qd (Qw Xf rfl Zi s2 m31.h1 sZ) <| Vq m31 (Qq (f := u8) (l := Kr (We e) 255) Q9 Zi s2 rfl sD m31.h1 sZ rfl) fun w35 m35 => ?_
   refine rN (Zy ?_)
   refine Qs [(agg u8 (Kr (We e) 255))] ⟨⟨_, s2, Xi Xf rfl Zi m35.h1 sZ⟩, trivial⟩ ?_
   exact ⟨by unfold Lu; rfl, m35.toExt⟩
set_option maxHeartbeats 1000000 in
theorem Qm1 (px pz qx qz x1 : List (BitVec 64)) (w0 : World)  (hpx : px.length = 5) (hpz : pz.length = 5) (hqx : qx.length = 5) (hqz : qz.length = 5) (hx1 : x1.length = 5) : Xm prog 80 #[(Value.agg (Qp [px.map u64, pz.map u64])), (Value.agg (Qp [qx.map u64, qz.map u64])), (agg u64 x1)] w0 (fun r w1 => r = (Value.tuple #[(Value.agg (Qp [((U5 px pz qx qz x1).px).map u64, ((U5 px pz qx qz x1).pz).map u64])), (Value.agg (Qp [((U5 px pz qx qz x1).qx).map u64, ((U5 px pz qx qz x1).qz).map u64]))]) ∧ Ext w0 w1) := by
 refine Qy (args := [(Value.agg (Qp [px.map u64, pz.map u64])), (Value.agg (Qp [qx.map u64, qz.map u64])), (agg u64 x1)]) func80 rfl ntmps80 results80 rfl ?_
 have m0 : Mem w0 (Qu w0) [] := Mem.of_world w0
 have hl0 := Me hpx hpz
 have hl1 := Hm hpx hpz
 have hl2 := Me hqx hqz
 have hl3 := Hm hqx hqz
 have hl4 := Hm (Jh (Qz px pz) (Qz px pz)) (Jh (Qk px pz) (Qk px pz))
 have hl5 := Me (Jh (Qk qx qz) (Qz px pz)) (Jh (Qz qx qz) (Qk px pz))
 have hl6 := Hm (Jh (Qk qx qz) (Qz px pz)) (Jh (Qz qx qz) (Qk px pz))
 have hl7 := Me (Jh (Qz px pz) (Qz px pz)) (Jh [121665#64, 0#64, 0#64, 0#64, 0#64] (Qk (Qe (Qz px pz) (Qz px pz)) (Qe (Qk px pz) (Qk px pz))))
 refine sR <| Y5 (Uk (cs := (Qp [px.map u64, pz.map u64])) m0 rfl) fun w1 b3 m1 => Y5 (Uk (cs := (Qp [qx.map u64, qz.map u64])) m1 rfl) fun w2 b4 m2 => Y5 (Zw (f := u64) (l := x1) m2 rfl) fun w3 b5 m3 => Y5 (Yu m3 Ur) fun w4 b6 m4 => Y5 (Yu m4 Ur) fun w5 b7 m5 => ?_
 refine rN (Qc ?_)
 refine Ju Xh ?_
 refine Qg3 [10, 11] (dl 10) 12 (luN [(10, 8), (11, 9)]) (luN [(10, 126), (11, 126)]) (luV [(10, (agg u64 (List.replicate 5 0))), (11, (agg u64 (List.replicate 5 0)))]) (fun g => g 0 = (Value.agg (Qp [px.map u64, pz.map u64])) ∧ g 1 = (Value.agg (Qp [qx.map u64, qz.map u64])) ∧ g 2 = (agg u64 x1) ∧ g 3 = (ptr b3 0) ∧ g 4 = (ptr b4 0) ∧ g 5 = (ptr b5 0) ∧ g 6 = (ptr b6 0) ∧ g 7 = (ptr b7 0) ∧ g 24 = (agg u64 (Qz px pz)) ∧ g 29 = (agg u64 (Qk px pz)) ∧ True) m5 (U3 ⟨⟨_, _, _, rfl⟩, rfl, _, _, Z5⟩ (U3 ⟨⟨_, _, _, rfl⟩, rfl, _, _, Z5⟩ Qbv)) (fun sx6 hS6 => ?_) ?_
 ·skip
  refine Xq rfl (Zd (r := 0) F8 rfl Yy Z5 rfl rfl) <| Y6 rfl (fun _ e' => Y8 0 Zk Z5 rfl (m5.ext e').h4 rfl) <| Xq rfl (Zd (r := 5) F8 rfl Yy Z5 rfl rfl) <| Y6 rfl (fun _ e' => Y8 1 Zk Z5 rfl (m5.ext e').h4 rfl) <| U4 rfl rfl (fun w7 e7 => oc97 (X3 rfl rfl) (Qi6 _ _ _ sD sD)) <| Xq rfl (Zd (r := 0) F8 rfl Yy Z5 rfl rfl) <| Y6 rfl (fun _ e' => Y8 0 Zk Z5 rfl (m5.ext e').h4 rfl) <| Xq rfl (Zd (r := 5) F8 rfl Yy Z5 rfl rfl) <| Y6 rfl (fun _ e' => Y8 1 Zk Z5 rfl (m5.ext e').h4 rfl) <| U4 rfl rfl (fun w10 e10 => oc98 (X3 rfl rfl) (Qey _ _ _ sD sD)) ?_
  exact hS6 _ ⟨rfl, rfl, rfl, rfl, rfl, rfl, rfl, rfl, rfl, rfl, trivial⟩
 rintro g13 ⟨s0, s1, s2, s3, s4, s5, s6, s7, s24, s29, _⟩ w15 ps15 hmm15
 have m15 : Mem _ _ [((ps15 10), .cells (cl u64 (List.replicate 5 0)) 126 (0, 0)), ((ps15 11), .cells (cl u64 (List.replicate 5 0)) 126 (0, 0)), _, _, _, _, _] := hmm15
 show RW _ _ _ _ _ (upd (upd g13 9 (ptr (ps15 11) 0)) 8 (ptr (ps15 10) 0)) _
 generalize ps15 10 = b8, ps15 11 = b9 at m15 ⊢
 refine Yb m15 (Qq (f := u64) (l := Qz px pz) Zm Z5 rfl s24 sD m15.h0 sZ rfl) fun w16 m16 => Vq m16 (Qq (f := u64) (l := Qk px pz) Zm Z5 rfl s29 sD m16.h1 sZ rfl) fun w17 m17 => ?_
 refine rN (Qc ?_)
 refine Ju Xh ?_
 refine Qg3 [10, 11] (dl 10) 12 (luN [(10, 10), (11, 11)]) (luN [(10, 126), (11, 126)]) (luV [(10, (agg u64 (List.replicate 5 0))), (11, (agg u64 (List.replicate 5 0)))]) (fun g => g 0 = (Value.agg (Qp [px.map u64, pz.map u64])) ∧ g 1 = (Value.agg (Qp [qx.map u64, qz.map u64])) ∧ g 2 = (agg u64 x1) ∧ g 3 = (ptr b3 0) ∧ g 4 = (ptr b4 0) ∧ g 5 = (ptr b5 0) ∧ g 6 = (ptr b6 0) ∧ g 7 = (ptr b7 0) ∧ g 8 = (ptr b8 0) ∧ g 9 = (ptr b9 0) ∧ g 34 = (agg u64 (Qz qx qz)) ∧ g 39 = (agg u64 (Qk qx qz)) ∧ True) m17 (U3 ⟨⟨_, _, _, rfl⟩, rfl, _, _, Z5⟩ (U3 ⟨⟨_, _, _, rfl⟩, rfl, _, _, Z5⟩ Qbv)) (fun sx18 hS18 => ?_) ?_
 ·skip
  refine Xq rfl (Zd (r := 0) F8 rfl Yy Z5 rfl s4) <| Y6 rfl (fun _ e' => Y8 0 Zk Z5 rfl (m17.ext e').h5 rfl) <| Xq rfl (Zd (r := 5) F8 rfl Yy Z5 rfl s4) <| Y6 rfl (fun _ e' => Y8 1 Zk Z5 rfl (m17.ext e').h5 rfl) <| U4 rfl rfl (fun w19 e19 => oc97 (X3 rfl rfl) (Qi6 _ _ _ sD sD)) <| Xq rfl (Zd (r := 0) F8 rfl Yy Z5 rfl s4) <| Y6 rfl (fun _ e' => Y8 0 Zk Z5 rfl (m17.ext e').h5 rfl) <| Xq rfl (Zd (r := 5) F8 rfl Yy Z5 rfl s4) <| Y6 rfl (fun _ e' => Y8 1 Zk Z5 rfl (m17.ext e').h5 rfl) <| U4 rfl rfl (fun w22 e22 => oc98 (X3 rfl rfl) (Qey _ _ _ sD sD)) ?_
  exact hS18 _ ⟨s0, s1, s2, s3, s4, s5, s6, s7, rfl, rfl, rfl, rfl, trivial⟩
 rintro g25 ⟨s0, s1, s2, s3, s4, s5, s6, s7, s8, s9, s34, s39, _⟩ w27 ps27 hmm27
 have m27 : Mem _ _ [((ps27 10), .cells (cl u64 (List.replicate 5 0)) 126 (0, 0)), ((ps27 11), .cells (cl u64 (List.replicate 5 0)) 126 (0, 0)), _, _, _, _, _, _, _] := hmm27
 show RW _ _ _ _ _ (upd (upd g25 11 (ptr (ps27 11) 0)) 10 (ptr (ps27 10) 0)) _
 generalize ps27 10 = b10, ps27 11 = b11 at m27 ⊢
 refine Yb m27 (Qq (f := u64) (l := Qz qx qz) Zm Z5 rfl s34 sD m27.h0 sZ rfl) fun w28 m28 => Vq m28 (Qq (f := u64) (l := Qk qx qz) Zm Z5 rfl s39 sD m28.h1 sZ rfl) fun w29 m29 => ?_
 refine rN (Qc ?_)
 refine Ju Xh ?_
 refine Qg3 [6, 7] (dl 6) 8 (luN [(6, 12), (7, 13)]) (luN [(6, 126), (7, 126)]) (luV [(6, (agg u64 (List.replicate 5 0))), (7, (agg u64 (List.replicate 5 0)))]) (fun g => g 0 = (Value.agg (Qp [px.map u64, pz.map u64])) ∧ g 1 = (Value.agg (Qp [qx.map u64, qz.map u64])) ∧ g 2 = (agg u64 x1) ∧ g 3 = (ptr b3 0) ∧ g 4 = (ptr b4 0) ∧ g 5 = (ptr b5 0) ∧ g 6 = (ptr b6 0) ∧ g 7 = (ptr b7 0) ∧ g 8 = (ptr b8 0) ∧ g 9 = (ptr b9 0) ∧ g 10 = (ptr b10 0) ∧ g 11 = (ptr b11 0) ∧ g 42 = (agg u64 (Qe (Qk qx qz) (Qz px pz))) ∧ g 45 = (agg u64 (Qe (Qz qx qz) (Qk px pz))) ∧ True) m29 (U3 ⟨⟨_, _, _, rfl⟩, rfl, _, _, Z5⟩ (U3 ⟨⟨_, _, _, rfl⟩, rfl, _, _, Z5⟩ Qbv)) (fun sx30 hS30 => ?_) ?_
 ·skip
  refine Y6 rfl (fun _ e' => Qw Zk rfl Z5 rfl (m29.ext e').h1 sZ) <| Y6 rfl (fun _ e' => Qw Zk rfl Z5 s8 (m29.ext e').h2 sZ) <| U4 rfl rfl (fun w31 e31 => Qdh (X3 rfl rfl) (Ub _ _ _ sD sD)) <| Y6 rfl (fun _ e' => Qw Zk rfl Z5 rfl (m29.ext e').h0 sZ) <| Y6 rfl (fun _ e' => Qw Zk rfl Z5 s9 (m29.ext e').h3 sZ) <| U4 rfl rfl (fun w34 e34 => Qdh (X3 rfl rfl) (Ub _ _ _ sD sD)) ?_
  exact hS30 _ ⟨s0, s1, s2, s3, s4, s5, s6, s7, s8, s9, rfl, rfl, rfl, rfl, trivial⟩
 rintro g37 ⟨s0, s1, s2, s3, s4, s5, s6, s7, s8, s9, s10, s11, s42, s45, _⟩ w39 ps39 hmm39
 have m39 : Mem _ _ [((ps39 6), .cells (cl u64 (List.replicate 5 0)) 126 (0, 0)), ((ps39 7), .cells (cl u64 (List.replicate 5 0)) 126 (0, 0)), _, _, _, _, _, _, _, _, _] := hmm39
 show RW _ _ _ _ _ (upd (upd g37 13 (ptr (ps39 7) 0)) 12 (ptr (ps39 6) 0)) _
 generalize ps39 6 = b12, ps39 7 = b13 at m39 ⊢
 refine Yb m39 (Qq (f := u64) (l := Qe (Qk qx qz) (Qz px pz)) Zm Z5 rfl s42 sD m39.h0 sZ rfl) fun w40 m40 => Vq m40 (Qq (f := u64) (l := Qe (Qz qx qz) (Qk px pz)) Zm Z5 rfl s45 sD m40.h1 sZ rfl) fun w41 m41 => ?_
 refine rN (Qc ?_)
 refine Ju Xh ?_
 refine Qg3 [6, 7] (dl 6) 8 (luN [(6, 14), (7, 15)]) (luN [(6, 126), (7, 126)]) (luV [(6, (agg u64 (List.replicate 5 0))), (7, (agg u64 (List.replicate 5 0)))]) (fun g => g 0 = (Value.agg (Qp [px.map u64, pz.map u64])) ∧ g 1 = (Value.agg (Qp [qx.map u64, qz.map u64])) ∧ g 2 = (agg u64 x1) ∧ g 3 = (ptr b3 0) ∧ g 4 = (ptr b4 0) ∧ g 5 = (ptr b5 0) ∧ g 6 = (ptr b6 0) ∧ g 7 = (ptr b7 0) ∧ g 8 = (ptr b8 0) ∧ g 9 = (ptr b9 0) ∧ g 10 = (ptr b10 0) ∧ g 11 = (ptr b11 0) ∧ g 12 = (ptr b12 0) ∧ g 13 = (ptr b13 0) ∧ g 48 = (agg u64 (Qe (Qz px pz) (Qz px pz))) ∧ g 51 = (agg u64 (Qe (Qk px pz) (Qk px pz))) ∧ True) m41 (U3 ⟨⟨_, _, _, rfl⟩, rfl, _, _, Z5⟩ (U3 ⟨⟨_, _, _, rfl⟩, rfl, _, _, Z5⟩ Qbv)) (fun sx42 hS42 => ?_) ?_
 ·skip
  refine Y6 rfl (fun _ e' => Qw Zk rfl Z5 s8 (m41.ext e').h4 sZ) <| Y6 rfl (fun _ e' => Qw Zk rfl Z5 s8 (m41.ext e').h4 sZ) <| U4 rfl rfl (fun w43 e43 => Qdh (X3 rfl rfl) (Ub _ _ _ sD sD)) <| Y6 rfl (fun _ e' => Qw Zk rfl Z5 s9 (m41.ext e').h5 sZ) <| Y6 rfl (fun _ e' => Qw Zk rfl Z5 s9 (m41.ext e').h5 sZ) <| U4 rfl rfl (fun w46 e46 => Qdh (X3 rfl rfl) (Ub _ _ _ sD sD)) ?_
  exact hS42 _ ⟨s0, s1, s2, s3, s4, s5, s6, s7, s8, s9, s10, s11, rfl, rfl, rfl, rfl, trivial⟩
 rintro g49 ⟨s0, s1, s2, s3, s4, s5, s6, s7, s8, s9, s10, s11, s12, s13, s48, s51, _⟩ w51 ps51 hmm51
 have m51 : Mem _ _ [((ps51 6), .cells (cl u64 (List.replicate 5 0)) 126 (0, 0)), ((ps51 7), .cells (cl u64 (List.replicate 5 0)) 126 (0, 0)), _, _, _, _, _, _, _, _, _, _, _] := hmm51
 show RW _ _ _ _ _ (upd (upd g49 15 (ptr (ps51 7) 0)) 14 (ptr (ps51 6) 0)) _
 generalize ps51 6 = b14, ps51 7 = b15 at m51 ⊢
 refine Yb m51 (Qq (f := u64) (l := Qe (Qz px pz) (Qz px pz)) Zm Z5 rfl s48 sD m51.h0 sZ rfl) fun w52 m52 => Vq m52 (Qq (f := u64) (l := Qe (Qk px pz) (Qk px pz)) Zm Z5 rfl s51 sD m52.h1 sZ rfl) fun w53 m53 => ?_
 refine rN (sR ?_)
 refine Qd (Qw Zk rfl Z5 rfl m53.h0 sZ) <| Qd (Qw Zk rfl Z5 rfl m53.h1 sZ) <| Dx m53 (oc98 (X3 rfl rfl) (Qey _ _ _ sD sD)) fun w54 m54 => Y5 (Zf m54 Z5) fun w56 b16 m56 => Yb m56 (Qq (f := u64) (l := Qk (Qe (Qz px pz) (Qz px pz)) (Qe (Qk px pz) (Qk px pz))) Zm Z5 rfl rfl sD m56.h0 sZ rfl) fun w57 m57 => ?_
 refine rN (Qc ?_)
 refine Ju Xh ?_
 refine Qg3 [6, 7] (dl 6) 8 (luN [(6, 17), (7, 18)]) (luN [(6, 126), (7, 126)]) (luV [(6, (agg u64 (List.replicate 5 0))), (7, (agg u64 (List.replicate 5 0)))]) (fun g => g 0 = (Value.agg (Qp [px.map u64, pz.map u64])) ∧ g 1 = (Value.agg (Qp [qx.map u64, qz.map u64])) ∧ g 2 = (agg u64 x1) ∧ g 3 = (ptr b3 0) ∧ g 4 = (ptr b4 0) ∧ g 5 = (ptr b5 0) ∧ g 6 = (ptr b6 0) ∧ g 7 = (ptr b7 0) ∧ g 8 = (ptr b8 0) ∧ g 9 = (ptr b9 0) ∧ g 10 = (ptr b10 0) ∧ g 11 = (ptr b11 0) ∧ g 12 = (ptr b12 0) ∧ g 13 = (ptr b13 0) ∧ g 14 = (ptr b14 0) ∧ g 15 = (ptr b15 0) ∧ g 16 = (ptr b16 0) ∧ g 57 = (agg u64 (Qz (Qe (Qk qx qz) (Qz px pz)) (Qe (Qz qx qz) (Qk px pz)))) ∧ g 60 = (agg u64 (Qk (Qe (Qk qx qz) (Qz px pz)) (Qe (Qz qx qz) (Qk px pz)))) ∧ True) m57 (U3 ⟨⟨_, _, _, rfl⟩, rfl, _, _, Z5⟩ (U3 ⟨⟨_, _, _, rfl⟩, rfl, _, _, Z5⟩ Qbv)) (fun sx58 hS58 => ?_) ?_
 ·skip
  refine Y6 rfl (fun _ e' => Qw Zk rfl Z5 s12 (m57.ext e').h3 sZ) <| Y6 rfl (fun _ e' => Qw Zk rfl Z5 s13 (m57.ext e').h4 sZ) <| U4 rfl rfl (fun w59 e59 => oc97 (X3 rfl rfl) (Qi6 _ _ _ sD sD)) <| Y6 rfl (fun _ e' => Qw Zk rfl Z5 s12 (m57.ext e').h3 sZ) <| Y6 rfl (fun _ e' => Qw Zk rfl Z5 s13 (m57.ext e').h4 sZ) <| U4 rfl rfl (fun w62 e62 => oc98 (X3 rfl rfl) (Qey _ _ _ sD sD)) ?_
  exact hS58 _ ⟨s0, s1, s2, s3, s4, s5, s6, s7, s8, s9, s10, s11, s12, s13, rfl, rfl, rfl, rfl, rfl, trivial⟩
 rintro g65 ⟨s0, s1, s2, s3, s4, s5, s6, s7, s8, s9, s10, s11, s12, s13, s14, s15, s16, s57, s60, _⟩ w67 ps67 hmm67
 have m67 : Mem _ _ [((ps67 6), .cells (cl u64 (List.replicate 5 0)) 126 (0, 0)), ((ps67 7), .cells (cl u64 (List.replicate 5 0)) 126 (0, 0)), _, _, _, _, _, _, _, _, _, _, _, _, _, _] := hmm67
 show RW _ _ _ _ _ (upd (upd g65 18 (ptr (ps67 7) 0)) 17 (ptr (ps67 6) 0)) _
 generalize ps67 6 = b17, ps67 7 = b18 at m67 ⊢
 refine Yb m67 (Qq (f := u64) (l := Qz (Qe (Qk qx qz) (Qz px pz)) (Qe (Qz qx qz) (Qk px pz))) Zm Z5 rfl s57 sD m67.h0 sZ rfl) fun w68 m68 => Vq m68 (Qq (f := u64) (l := Qk (Qe (Qk qx qz) (Qz px pz)) (Qe (Qz qx qz) (Qk px pz))) Zm Z5 rfl s60 sD m68.h1 sZ rfl) fun w69 m69 => ?_
 refine rN (Qc ?_)
 refine Xj [(0, false), (1, false), (2, false), (3, false), (4, false), (5, false), (6, false), (7, false), (8, false), (9, false), (10, false), (11, true)] 12 Xh <| Y6 rfl (fun _ e' => Qw Zk rfl Z5 s14 (m69.ext e').h3 sZ) <| Y6 rfl (fun _ e' => Qw Zk rfl Z5 s15 (m69.ext e').h4 sZ) <| U4 rfl rfl (fun w70 e70 => Qdh (X3 rfl rfl) (Ub _ _ _ sD sD)) <| Y6 rfl (fun _ e' => Qw Zk rfl Z5 s16 (m69.ext e').h2 sZ) <| Y6 rfl (fun _ e' => Qw Zk rfl Z5 s14 (m69.ext e').h3 sZ) <| Xq rfl (Uf (c := (cl u64 ([121665#64, 0#64, 0#64, 0#64, 0#64]))) Z5 Zk Zl (Yx (i := 0) (v := (u64 121665#64)) (cs := #[(u64 121665#64)]) rfl rfl V5) Xh) <| Y6 rfl (fun _ e' => Qw Zk rfl Z5 s16 (m69.ext e').h2 sZ) <| U4 rfl rfl (fun w73 e73 => Qdh (X3 rfl rfl) (Ub _ _ _ sD sD)) <| U4 rfl rfl (fun w76 e76 => oc97 (X3 rfl rfl) (Qi6 _ _ _ sD sD)) <| U4 rfl rfl (fun w79 e79 => Qdh (X3 rfl rfl) (Ub _ _ _ sD sD)) <| Xq rfl (Ky (c := (Qp [(Qe (Qe (Qz px pz) (Qz px pz)) (Qe (Qk px pz) (Qk px pz))).map u64, (Qe (Qk (Qe (Qz px pz) (Qz px pz)) (Qe (Qk px pz) (Qk px pz))) (Qz (Qe (Qz px pz) (Qz px pz)) (Qe ([121665#64, 0#64, 0#64, 0#64, 0#64]) (Qk (Qe (Qz px pz) (Qz px pz)) (Qe (Qk px pz) (Qk px pz)))))).map u64])) (pl := [(0, 5), (5, 5)]) Ur F8 Xh (Yx (i := 0) (v := (agg u64 (Qe (Qe (Qz px pz) (Qz px pz)) (Qe (Qk px pz) (Qk px pz))))) (cs := (cl u64 (Qe (Qe (Qz px pz) (Qz px pz)) (Qe (Qk px pz) (Qk px pz))))) rfl rfl (Yx (i := 1) (v := (agg u64 (Qe (Qk (Qe (Qz px pz) (Qz px pz)) (Qe (Qk px pz) (Qk px pz))) (Qz (Qe (Qz px pz) (Qz px pz)) (Qe ([121665#64, 0#64, 0#64, 0#64, 0#64]) (Qk (Qe (Qz px pz) (Qz px pz)) (Qe (Qk px pz) (Qk px pz)))))))) (cs := (cl u64 (Qe (Qk (Qe (Qz px pz) (Qz px pz)) (Qe (Qk px pz) (Qk px pz))) (Qz (Qe (Qz px pz) (Qz px pz)) (Qe ([121665#64, 0#64, 0#64, 0#64, 0#64]) (Qk (Qe (Qz px pz) (Qz px pz)) (Qe (Qk px pz) (Qk px pz)))))))) rfl rfl V5)) (Vb (L := [(List.replicate 5 0).map u64, (List.replicate 5 0).map u64]) 0 [(Qe (Qe (Qz px pz) (Qz px pz)) (Qe (Qk px pz) (Qk px pz))).map u64, (List.replicate 5 0).map u64] rfl (Ws u64 _).symm rfl (Vb 1 [(Qe (Qe (Qz px pz) (Qz px pz)) (Qe (Qk px pz) (Qk px pz))).map u64, (Qe (Qk (Qe (Qz px pz) (Qz px pz)) (Qe (Qk px pz) (Qk px pz))) (Qz (Qe (Qz px pz) (Qz px pz)) (Qe ([121665#64, 0#64, 0#64, 0#64, 0#64]) (Qk (Qe (Qz px pz) (Qz px pz)) (Qe (Qk px pz) (Qk px pz)))))).map u64] rfl (Ws u64 _).symm rfl Dc))) ?_
 refine Ba rfl rfl (fun w82 e82 => ?_)
 have m82 := m69.ext e82
 refine J8.mono (Yu m82 Ur) ?_
 rintro _ w83 ⟨b19, rfl, e83, m83⟩
 refine ⟨e83, ?_⟩
 refine Ug m83 fun w84 m84 => Ve (Wl [(Qe (Qe (Qz px pz) (Qz px pz)) (Qe (Qk px pz) (Qk px pz))).map u64, (Qe (Qk (Qe (Qz px pz) (Qz px pz)) (Qe (Qk px pz) (Qk px pz))) (Qz (Qe (Qz px pz) (Qz px pz)) (Qe ([121665#64, 0#64, 0#64, 0#64, 0#64]) (Qk (Qe (Qz px pz) (Qz px pz)) (Qe (Qk px pz) (Qk px pz)))))).map u64] Ur rfl rfl (Gn (n := 5) (m := 5) (k := 10) (by first | rfl | (rw [List.length_map]; first | omega | (simp; done) | (simp; omega))) (Gn (n := 5) (m := 0) (k := 5) (by first | rfl | (rw [List.length_map]; first | omega | (simp; done) | (simp; omega))) Tz rfl) rfl) (Xt (Yj Zm _) (Xt (Yj Zm _) Ui)) m84.h0 rfl rfl) ?_
 rintro _ w85 uq85
 have m85 : Mem _ _ [(b19, .cells (Qp [(Qe (Qe (Qz px pz) (Qz px pz)) (Qe (Qk px pz) (Qk px pz))).map u64, (Qe (Qk (Qe (Qz px pz) (Qz px pz)) (Qe (Qk px pz) (Qk px pz))) (Qz (Qe (Qz px pz) (Qz px pz)) (Qe ([121665#64, 0#64, 0#64, 0#64, 0#64]) (Qk (Qe (Qz px pz) (Qz px pz)) (Qe (Qk px pz) (Qk px pz)))))).map u64]) 129 (0, 0)), _, _, _, _, _, _, _, _, _, _, _, _, _, _, _, _] := m84.upd0 uq85
 refine rN (Qc ?_)
 refine Ju Xh ?_
 have m86 := (Mem.pick [_, _, _, _, _, _, _, _, _, _, _, _, _, _, _, _] [_] _ m85)
 have m87 := (Mem.pick [_, _, _, _, _, _, _, _, _, _, _, _, _, _, _, _] [_] _ m86)
 have m88 := (Mem.pick [_, _, _, _, _, _, _, _, _, _, _, _, _, _, _, _] [_] _ m87)
 have m89 := (Mem.pick [_, _, _, _, _, _, _, _, _, _, _, _, _, _, _] [_] _ m88)
 have m90 := (Mem.pick [_, _, _, _, _, _, _, _, _, _, _, _, _, _, _] [_] _ m89)
 have m91 := (Mem.pick [_, _, _, _, _, _, _, _, _, _, _, _, _, _, _] [_] _ m90)
 have m92 := (Mem.pick [_, _, _, _, _, _, _, _, _, _, _, _, _, _, _] [_] _ m91)
 have m93 := (Mem.pick [_, _, _, _, _, _, _, _, _, _, _, _, _, _, _] [_] _ m92)
 have m94 := (Mem.pick [_, _, _, _, _, _, _, _, _, _, _, _, _, _, _] [_] _ m93)
 have m95 := (Mem.pick [_, _, _, _, _, _, _, _, _, _, _, _, _, _, _] [_] _ m94)
 have m96 := (Mem.pick [_, _, _, _, _, _, _, _, _, _, _, _, _, _, _] [_] _ m95)
 have m97 := (Mem.pick [_, _, _, _, _, _, _, _, _, _, _, _, _, _, _] [_] _ m96)
 have m98 := (Mem.pick [_, _, _, _, _, _, _, _, _, _, _, _, _, _, _] [_] _ m97)
 have m99 := (Mem.pick [_, _, _, _, _, _, _, _, _, _, _, _, _, _, _] [_] _ m98)
 have m100 := (Mem.pick [_, _, _, _, _, _, _, _, _, _, _, _, _, _, _] [_] _ m99)
 have m101 := (Mem.pick [_, _, _, _, _, _, _, _, _, _, _, _, _, _, _] [_] _ m100)
 have m102 := (Mem.pick [_, _, _, _, _, _, _, _, _, _, _, _, _, _, _, _] [_] _ m101)
 have hFM103 : Mem w85 (Qu w0) ([(b6, .cells #[(u64 0), (u64 0), (u64 0), (u64 0), (u64 0), (u64 0), (u64 0), (u64 0), (u64 0), (u64 0)] 129 (0, 0))] ++ [(b19, .cells (Qp [(Qe (Qe (Qz px pz) (Qz px pz)) (Qe (Qk px pz) (Qk px pz))).map u64, (Qe (Qk (Qe (Qz px pz) (Qz px pz)) (Qe (Qk px pz) (Qk px pz))) (Qz (Qe (Qz px pz) (Qz px pz)) (Qe ([121665#64, 0#64, 0#64, 0#64, 0#64]) (Qk (Qe (Qz px pz) (Qz px pz)) (Qe (Qk px pz) (Qk px pz)))))).map u64]) 129 (0, 0)), (b17, .cells (cl u64 (Qz (Qe (Qk qx qz) (Qz px pz)) (Qe (Qz qx qz) (Qk px pz)))) 126 (0, 0)), (b18, .cells (cl u64 (Qk (Qe (Qk qx qz) (Qz px pz)) (Qe (Qz qx qz) (Qk px pz)))) 126 (0, 0)), (b16, .cells (cl u64 (Qk (Qe (Qz px pz) (Qz px pz)) (Qe (Qk px pz) (Qk px pz)))) 126 (0, 0)), (b14, .cells (cl u64 (Qe (Qz px pz) (Qz px pz))) 126 (0, 0)), (b15, .cells (cl u64 (Qe (Qk px pz) (Qk px pz))) 126 (0, 0)), (b12, .cells (cl u64 (Qe (Qk qx qz) (Qz px pz))) 126 (0, 0)), (b13, .cells (cl u64 (Qe (Qz qx qz) (Qk px pz))) 126 (0, 0)), (b10, .cells (cl u64 (Qz qx qz)) 126 (0, 0)), (b11, .cells (cl u64 (Qk qx qz)) 126 (0, 0)), (b8, .cells (cl u64 (Qz px pz)) 126 (0, 0)), (b9, .cells (cl u64 (Qk px pz)) 126 (0, 0)), (b7, .cells #[(u64 0), (u64 0), (u64 0), (u64 0), (u64 0), (u64 0), (u64 0), (u64 0), (u64 0), (u64 0)] 129 (0, 0)), (b5, .cells (cl u64 x1) 126 (0, 0)), (b4, .cells (Qp [qx.map u64, qz.map u64]) 129 (0, 0)), (b3, .cells (Qp [px.map u64, pz.map u64]) 129 (0, 0))]) := m102
 obtain ⟨RM103, hRM103⟩ : ∃ R2, R2 = Rest.add (Qu w0) [(b19, .cells (Qp [(Qe (Qe (Qz px pz) (Qz px pz)) (Qe (Qk px pz) (Qk px pz))).map u64, (Qe (Qk (Qe (Qz px pz) (Qz px pz)) (Qe (Qk px pz) (Qk px pz))) (Qz (Qe (Qz px pz) (Qz px pz)) (Qe ([121665#64, 0#64, 0#64, 0#64, 0#64]) (Qk (Qe (Qz px pz) (Qz px pz)) (Qe (Qk px pz) (Qk px pz)))))).map u64]) 129 (0, 0)), (b17, .cells (cl u64 (Qz (Qe (Qk qx qz) (Qz px pz)) (Qe (Qz qx qz) (Qk px pz)))) 126 (0, 0)), (b18, .cells (cl u64 (Qk (Qe (Qk qx qz) (Qz px pz)) (Qe (Qz qx qz) (Qk px pz)))) 126 (0, 0)), (b16, .cells (cl u64 (Qk (Qe (Qz px pz) (Qz px pz)) (Qe (Qk px pz) (Qk px pz)))) 126 (0, 0)), (b14, .cells (cl u64 (Qe (Qz px pz) (Qz px pz))) 126 (0, 0)), (b15, .cells (cl u64 (Qe (Qk px pz) (Qk px pz))) 126 (0, 0)), (b12, .cells (cl u64 (Qe (Qk qx qz) (Qz px pz))) 126 (0, 0)), (b13, .cells (cl u64 (Qe (Qz qx qz) (Qk px pz))) 126 (0, 0)), (b10, .cells (cl u64 (Qz qx qz)) 126 (0, 0)), (b11, .cells (cl u64 (Qk qx qz)) 126 (0, 0)), (b8, .cells (cl u64 (Qz px pz)) 126 (0, 0)), (b9, .cells (cl u64 (Qk px pz)) 126 (0, 0)), (b7, .cells #[(u64 0), (u64 0), (u64 0), (u64 0), (u64 0), (u64 0), (u64 0), (u64 0), (u64 0), (u64 0)] 129 (0, 0)), (b5, .cells (cl u64 x1) 126 (0, 0)), (b4, .cells (Qp [qx.map u64, qz.map u64]) 129 (0, 0)), (b3, .cells (Qp [px.map u64, pz.map u64]) 129 (0, 0))] := ⟨_, rfl⟩
 have M1030 : Mem w85 RM103 [(b6, .cells #[(u64 0), (u64 0), (u64 0), (u64 0), (u64 0), (u64 0), (u64 0), (u64 0), (u64 0), (u64 0)] 129 (0, 0))] := by rw [hRM103]; exact Mem.give hFM103
 have ho104 : RM103.blk b19 = some (.cells (Qp [(Qe (Qe (Qz px pz) (Qz px pz)) (Qe (Qk px pz) (Qk px pz))).map u64, (Qe (Qk (Qe (Qz px pz) (Qz px pz)) (Qe (Qk px pz) (Qk px pz))) (Qz (Qe (Qz px pz) (Qz px pz)) (Qe ([121665#64, 0#64, 0#64, 0#64, 0#64]) (Qk (Qe (Qz px pz) (Qz px pz)) (Qe (Qk px pz) (Qk px pz)))))).map u64]) 129 (0, 0)) := by rw [hRM103]; exact Mem.addOwn hFM103 (List.Mem.head _)
 have ho105 : RM103.blk b17 = some (.cells (cl u64 (Qz (Qe (Qk qx qz) (Qz px pz)) (Qe (Qz qx qz) (Qk px pz)))) 126 (0, 0)) := by rw [hRM103]; exact Mem.addOwn hFM103 (List.Mem.tail _ (List.Mem.head _))
 have ho106 : RM103.blk b18 = some (.cells (cl u64 (Qk (Qe (Qk qx qz) (Qz px pz)) (Qe (Qz qx qz) (Qk px pz)))) 126 (0, 0)) := by rw [hRM103]; exact Mem.addOwn hFM103 (List.Mem.tail _ (List.Mem.tail _ (List.Mem.head _)))
 have ho107 : RM103.blk b16 = some (.cells (cl u64 (Qk (Qe (Qz px pz) (Qz px pz)) (Qe (Qk px pz) (Qk px pz)))) 126 (0, 0)) := by rw [hRM103]; exact Mem.addOwn hFM103 (List.Mem.tail _ (List.Mem.tail _ (List.Mem.tail _ (List.Mem.head _))))
 have ho108 : RM103.blk b14 = some (.cells (cl u64 (Qe (Qz px pz) (Qz px pz))) 126 (0, 0)) := by rw [hRM103]; exact Mem.addOwn hFM103 (List.Mem.tail _ (List.Mem.tail _ (List.Mem.tail _ (List.Mem.tail _ (List.Mem.head _)))))
 have ho109 : RM103.blk b15 = some (.cells (cl u64 (Qe (Qk px pz) (Qk px pz))) 126 (0, 0)) := by rw [hRM103]; exact Mem.addOwn hFM103 (List.Mem.tail _ (List.Mem.tail _ (List.Mem.tail _ (List.Mem.tail _ (List.Mem.tail _ (List.Mem.head _))))))
 have ho110 : RM103.blk b12 = some (.cells (cl u64 (Qe (Qk qx qz) (Qz px pz))) 126 (0, 0)) := by rw [hRM103]; exact Mem.addOwn hFM103 (List.Mem.tail _ (List.Mem.tail _ (List.Mem.tail _ (List.Mem.tail _ (List.Mem.tail _ (List.Mem.tail _ (List.Mem.head _)))))))
 have ho111 : RM103.blk b13 = some (.cells (cl u64 (Qe (Qz qx qz) (Qk px pz))) 126 (0, 0)) := by rw [hRM103]; exact Mem.addOwn hFM103 (List.Mem.tail _ (List.Mem.tail _ (List.Mem.tail _ (List.Mem.tail _ (List.Mem.tail _ (List.Mem.tail _ (List.Mem.tail _ (List.Mem.head _))))))))
 have ho112 : RM103.blk b10 = some (.cells (cl u64 (Qz qx qz)) 126 (0, 0)) := by rw [hRM103]; exact Mem.addOwn hFM103 (List.Mem.tail _ (List.Mem.tail _ (List.Mem.tail _ (List.Mem.tail _ (List.Mem.tail _ (List.Mem.tail _ (List.Mem.tail _ (List.Mem.tail _ (List.Mem.head _)))))))))
 have ho113 : RM103.blk b11 = some (.cells (cl u64 (Qk qx qz)) 126 (0, 0)) := by rw [hRM103]; exact Mem.addOwn hFM103 (List.Mem.tail _ (List.Mem.tail _ (List.Mem.tail _ (List.Mem.tail _ (List.Mem.tail _ (List.Mem.tail _ (List.Mem.tail _ (List.Mem.tail _ (List.Mem.tail _ (List.Mem.head _))))))))))
 have ho114 : RM103.blk b8 = some (.cells (cl u64 (Qz px pz)) 126 (0, 0)) := by rw [hRM103]; exact Mem.addOwn hFM103 (List.Mem.tail _ (List.Mem.tail _ (List.Mem.tail _ (List.Mem.tail _ (List.Mem.tail _ (List.Mem.tail _ (List.Mem.tail _ (List.Mem.tail _ (List.Mem.tail _ (List.Mem.tail _ (List.Mem.head _)))))))))))
 have ho115 : RM103.blk b9 = some (.cells (cl u64 (Qk px pz)) 126 (0, 0)) := by rw [hRM103]; exact Mem.addOwn hFM103 (List.Mem.tail _ (List.Mem.tail _ (List.Mem.tail _ (List.Mem.tail _ (List.Mem.tail _ (List.Mem.tail _ (List.Mem.tail _ (List.Mem.tail _ (List.Mem.tail _ (List.Mem.tail _ (List.Mem.tail _ (List.Mem.head _))))))))))))
 have ho116 : RM103.blk b7 = some (.cells #[(u64 0), (u64 0), (u64 0), (u64 0), (u64 0), (u64 0), (u64 0), (u64 0), (u64 0), (u64 0)] 129 (0, 0)) := by rw [hRM103]; exact Mem.addOwn hFM103 (List.Mem.tail _ (List.Mem.tail _ (List.Mem.tail _ (List.Mem.tail _ (List.Mem.tail _ (List.Mem.tail _ (List.Mem.tail _ (List.Mem.tail _ (List.Mem.tail _ (List.Mem.tail _ (List.Mem.tail _ (List.Mem.tail _ (List.Mem.head _)))))))))))))
 have ho117 : RM103.blk b5 = some (.cells (cl u64 x1) 126 (0, 0)) := by rw [hRM103]; exact Mem.addOwn hFM103 (List.Mem.tail _ (List.Mem.tail _ (List.Mem.tail _ (List.Mem.tail _ (List.Mem.tail _ (List.Mem.tail _ (List.Mem.tail _ (List.Mem.tail _ (List.Mem.tail _ (List.Mem.tail _ (List.Mem.tail _ (List.Mem.tail _ (List.Mem.tail _ (List.Mem.head _))))))))))))))
 have ho118 : RM103.blk b4 = some (.cells (Qp [qx.map u64, qz.map u64]) 129 (0, 0)) := by rw [hRM103]; exact Mem.addOwn hFM103 (List.Mem.tail _ (List.Mem.tail _ (List.Mem.tail _ (List.Mem.tail _ (List.Mem.tail _ (List.Mem.tail _ (List.Mem.tail _ (List.Mem.tail _ (List.Mem.tail _ (List.Mem.tail _ (List.Mem.tail _ (List.Mem.tail _ (List.Mem.tail _ (List.Mem.tail _ (List.Mem.head _)))))))))))))))
 have ho119 : RM103.blk b3 = some (.cells (Qp [px.map u64, pz.map u64]) 129 (0, 0)) := by rw [hRM103]; exact Mem.addOwn hFM103 (List.Mem.tail _ (List.Mem.tail _ (List.Mem.tail _ (List.Mem.tail _ (List.Mem.tail _ (List.Mem.tail _ (List.Mem.tail _ (List.Mem.tail _ (List.Mem.tail _ (List.Mem.tail _ (List.Mem.tail _ (List.Mem.tail _ (List.Mem.tail _ (List.Mem.tail _ (List.Mem.tail _ (List.Mem.head _))))))))))))))))
 refine Ea M1030 [(0, false), (1, false), (2, false), (3, false), (4, false), (5, false), (6, false), (7, false), (8, false), (9, false), (10, true)] 11 rfl Xh <| yqH rfl (fun w _H _hx => Jt F8 Ur rfl (_hx.rest _ _ ho104)) <| yqH rfl (fun w _H _hx => Qw Zk rfl Z5 rfl (_hx.rest _ _ ho105) sZ) <| yqH rfl (fun w _H _hx => Qw Zk rfl Z5 rfl (_hx.rest _ _ ho105) sZ) <| dk_x rfl rfl (fun w120 _Hw120 _hw120 => Qdh (X3 rfl rfl) (Ub _ _ _ sD sD)) <| yqH rfl (fun w _H _hx => Qw Zk rfl Z5 s5 (_hx.rest _ _ ho117) sZ) <| yqH rfl (fun w _H _hx => Qw Zk rfl Z5 rfl (_hx.rest _ _ ho106) sZ) <| yqH rfl (fun w _H _hx => Qw Zk rfl Z5 rfl (_hx.rest _ _ ho106) sZ) <| dk_x rfl rfl (fun w123 _Hw123 _hw123 => Qdh (X3 rfl rfl) (Ub _ _ _ sD sD)) <| dk_x rfl rfl (fun w126 _Hw126 _hw126 => Qdh (X3 rfl rfl) (Ub _ _ _ sD sD)) <| L9 rfl (Ky (c := (Qp [(Qe (Qz (Qe (Qk qx qz) (Qz px pz)) (Qe (Qz qx qz) (Qk px pz))) (Qz (Qe (Qk qx qz) (Qz px pz)) (Qe (Qz qx qz) (Qk px pz)))).map u64, (Qe x1 (Qe (Qk (Qe (Qk qx qz) (Qz px pz)) (Qe (Qz qx qz) (Qk px pz))) (Qk (Qe (Qk qx qz) (Qz px pz)) (Qe (Qz qx qz) (Qk px pz))))).map u64])) (pl := [(0, 5), (5, 5)]) Ur F8 Xh (Yx (i := 0) (v := (agg u64 (Qe (Qz (Qe (Qk qx qz) (Qz px pz)) (Qe (Qz qx qz) (Qk px pz))) (Qz (Qe (Qk qx qz) (Qz px pz)) (Qe (Qz qx qz) (Qk px pz)))))) (cs := (cl u64 (Qe (Qz (Qe (Qk qx qz) (Qz px pz)) (Qe (Qz qx qz) (Qk px pz))) (Qz (Qe (Qk qx qz) (Qz px pz)) (Qe (Qz qx qz) (Qk px pz)))))) rfl rfl (Yx (i := 1) (v := (agg u64 (Qe x1 (Qe (Qk (Qe (Qk qx qz) (Qz px pz)) (Qe (Qz qx qz) (Qk px pz))) (Qk (Qe (Qk qx qz) (Qz px pz)) (Qe (Qz qx qz) (Qk px pz))))))) (cs := (cl u64 (Qe x1 (Qe (Qk (Qe (Qk qx qz) (Qz px pz)) (Qe (Qz qx qz) (Qk px pz))) (Qk (Qe (Qk qx qz) (Qz px pz)) (Qe (Qz qx qz) (Qk px pz))))))) rfl rfl V5)) (Vb (L := [(List.replicate 5 0).map u64, (List.replicate 5 0).map u64]) 0 [(Qe (Qz (Qe (Qk qx qz) (Qz px pz)) (Qe (Qz qx qz) (Qk px pz))) (Qz (Qe (Qk qx qz) (Qz px pz)) (Qe (Qz qx qz) (Qk px pz)))).map u64, (List.replicate 5 0).map u64] rfl (Ws u64 _).symm rfl (Vb 1 [(Qe (Qz (Qe (Qk qx qz) (Qz px pz)) (Qe (Qz qx qz) (Qk px pz))) (Qz (Qe (Qk qx qz) (Qz px pz)) (Qe (Qz qx qz) (Qk px pz)))).map u64, (Qe x1 (Qe (Qk (Qe (Qk qx qz) (Qz px pz)) (Qe (Qz qx qz) (Qk px pz))) (Qk (Qe (Qk qx qz) (Qz px pz)) (Qe (Qz qx qz) (Qk px pz))))).map u64] rfl (Ws u64 _).symm rfl Dc))) ?_
 refine dk_n rfl (fun w129 e129 => ?_)
 have m129 := M1030.ext e129
 refine J8.mono (Wl [(Qe (Qe (Qz px pz) (Qz px pz)) (Qe (Qk px pz) (Qk px pz))).map u64, (Qe (Qk (Qe (Qz px pz) (Qz px pz)) (Qe (Qk px pz) (Qk px pz))) (Qz (Qe (Qz px pz) (Qz px pz)) (Qe ([121665#64, 0#64, 0#64, 0#64, 0#64]) (Qk (Qe (Qz px pz) (Qz px pz)) (Qe (Qk px pz) (Qk px pz)))))).map u64] Ur s6 rfl (Gn (n := 5) (m := 5) (k := 10) (by first | rfl | (rw [List.length_map]; first | omega | (simp; done) | (simp; omega))) (Gn (n := 5) (m := 0) (k := 5) (by first | rfl | (rw [List.length_map]; first | omega | (simp; done) | (simp; omega))) Tz rfl) rfl) (Xt (Yj Zm _) (Xt (Yj Zm _) Ui)) m129.h0 rfl rfl) ?_
 rintro _ w130 uq130
 have m130 : Mem _ _ [(b6, .cells (Qp [(Qe (Qe (Qz px pz) (Qz px pz)) (Qe (Qk px pz) (Qk px pz))).map u64, (Qe (Qk (Qe (Qz px pz) (Qz px pz)) (Qe (Qk px pz) (Qk px pz))) (Qz (Qe (Qz px pz) (Qz px pz)) (Qe ([121665#64, 0#64, 0#64, 0#64, 0#64]) (Qk (Qe (Qz px pz) (Qz px pz)) (Qe (Qk px pz) (Qk px pz)))))).map u64]) 129 (0, 0))] := m129.upd0 uq130
 refine ⟨⟨_, m130⟩, ?_⟩
 refine Ug m130 fun w131 m131 => ?_
 have hX132 := m131
 rw [hRM103] at hX132
 have m133 : Mem w131 (Qu w0) [(b6, .cells (Qp [(Qe (Qe (Qz px pz) (Qz px pz)) (Qe (Qk px pz) (Qk px pz))).map u64, (Qe (Qk (Qe (Qz px pz) (Qz px pz)) (Qe (Qk px pz) (Qk px pz))) (Qz (Qe (Qz px pz) (Qz px pz)) (Qe ([121665#64, 0#64, 0#64, 0#64, 0#64]) (Qk (Qe (Qz px pz) (Qz px pz)) (Qe (Qk px pz) (Qk px pz)))))).map u64]) 129 (0, 0)), (b19, .cells (Qp [(Qe (Qe (Qz px pz) (Qz px pz)) (Qe (Qk px pz) (Qk px pz))).map u64, (Qe (Qk (Qe (Qz px pz) (Qz px pz)) (Qe (Qk px pz) (Qk px pz))) (Qz (Qe (Qz px pz) (Qz px pz)) (Qe ([121665#64, 0#64, 0#64, 0#64, 0#64]) (Qk (Qe (Qz px pz) (Qz px pz)) (Qe (Qk px pz) (Qk px pz)))))).map u64]) 129 (0, 0)), (b17, .cells (cl u64 (Qz (Qe (Qk qx qz) (Qz px pz)) (Qe (Qz qx qz) (Qk px pz)))) 126 (0, 0)), (b18, .cells (cl u64 (Qk (Qe (Qk qx qz) (Qz px pz)) (Qe (Qz qx qz) (Qk px pz)))) 126 (0, 0)), (b16, .cells (cl u64 (Qk (Qe (Qz px pz) (Qz px pz)) (Qe (Qk px pz) (Qk px pz)))) 126 (0, 0)), (b14, .cells (cl u64 (Qe (Qz px pz) (Qz px pz))) 126 (0, 0)), (b15, .cells (cl u64 (Qe (Qk px pz) (Qk px pz))) 126 (0, 0)), (b12, .cells (cl u64 (Qe (Qk qx qz) (Qz px pz))) 126 (0, 0)), (b13, .cells (cl u64 (Qe (Qz qx qz) (Qk px pz))) 126 (0, 0)), (b10, .cells (cl u64 (Qz qx qz)) 126 (0, 0)), (b11, .cells (cl u64 (Qk qx qz)) 126 (0, 0)), (b8, .cells (cl u64 (Qz px pz)) 126 (0, 0)), (b9, .cells (cl u64 (Qk px pz)) 126 (0, 0)), (b7, .cells #[(u64 0), (u64 0), (u64 0), (u64 0), (u64 0), (u64 0), (u64 0), (u64 0), (u64 0), (u64 0)] 129 (0, 0)), (b5, .cells (cl u64 x1) 126 (0, 0)), (b4, .cells (Qp [qx.map u64, qz.map u64]) 129 (0, 0)), (b3, .cells (Qp [px.map u64, pz.map u64]) 129 (0, 0))] := ymA (Mem.back hFM103 hX132)
 refine Ve (Wl [(Qe (Qz (Qe (Qk qx qz) (Qz px pz)) (Qe (Qz qx qz) (Qk px pz))) (Qz (Qe (Qk qx qz) (Qz px pz)) (Qe (Qz qx qz) (Qk px pz)))).map u64, (Qe x1 (Qe (Qk (Qe (Qk qx qz) (Qz px pz)) (Qe (Qz qx qz) (Qk px pz))) (Qk (Qe (Qk qx qz) (Qz px pz)) (Qe (Qz qx qz) (Qk px pz))))).map u64] Ur s7 rfl (Gn (n := 5) (m := 5) (k := 10) (by first | rfl | (rw [List.length_map]; first | omega | (simp; done) | (simp; omega))) (Gn (n := 5) (m := 0) (k := 5) (by first | rfl | (rw [List.length_map]; first | omega | (simp; done) | (simp; omega))) Tz rfl) rfl) (Xt (Yj Zm _) (Xt (Yj Zm _) Ui)) ((Mem.pick [_, _, _, _, _, _, _, _, _, _, _, _, _] [_] _ m133)).h0 rfl rfl) ?_
 rintro _ w134 uq134
 have m134 : Mem _ _ [(b7, .cells (Qp [(Qe (Qz (Qe (Qk qx qz) (Qz px pz)) (Qe (Qz qx qz) (Qk px pz))) (Qz (Qe (Qk qx qz) (Qz px pz)) (Qe (Qz qx qz) (Qk px pz)))).map u64, (Qe x1 (Qe (Qk (Qe (Qk qx qz) (Qz px pz)) (Qe (Qz qx qz) (Qk px pz))) (Qk (Qe (Qk qx qz) (Qz px pz)) (Qe (Qz qx qz) (Qk px pz))))).map u64]) 129 (0, 0)), _, _, _, _, _, _, _, _, _, _, _, _, _, _, _, _] := Mem.upd0 (Mem.pick [_, _, _, _, _, _, _, _, _, _, _, _, _] [_] _ m133) uq134
 refine rN (Zy ?_)
 refine Qs [(Value.agg (Qp [(Qe (Qe (Qz px pz) (Qz px pz)) (Qe (Qk px pz) (Qk px pz))).map u64, (Qe (Qk (Qe (Qz px pz) (Qz px pz)) (Qe (Qk px pz) (Qk px pz))) (Qz (Qe (Qz px pz) (Qz px pz)) (Qe ([121665#64, 0#64, 0#64, 0#64, 0#64]) (Qk (Qe (Qz px pz) (Qz px pz)) (Qe (Qk px pz) (Qk px pz)))))).map u64])), (Value.agg (Qp [(Qe (Qz (Qe (Qk qx qz) (Qz px pz)) (Qe (Qz qx qz) (Qk px pz))) (Qz (Qe (Qk qx qz) (Qz px pz)) (Qe (Qz qx qz) (Qk px pz)))).map u64, (Qe x1 (Qe (Qk (Qe (Qk qx qz) (Qz px pz)) (Qe (Qz qx qz) (Qk px pz))) (Qk (Qe (Qk qx qz) (Qz px pz)) (Qe (Qz qx qz) (Qk px pz))))).map u64]))] ⟨⟨_, s6, Ku F8 Ur m134.h1⟩, ⟨_, s7, Ku F8 Ur m134.h0⟩, trivial⟩ ?_
 exact ⟨by unfold U5; rfl, m134.toExt⟩
theorem c_clamp5 (k : Zj) (w0 : World)  (hk : k.length = 32) : Xm prog 78 #[(agg u8 k)] w0 (fun r w1 => r = (agg u8 (Xo k)) ∧ Ext w0 w1) := by
 refine Qy (args := [(agg u8 k)]) func78 rfl ntmps78 results78 rfl ?_
 have m0 : Mem w0 (Qu w0) [] := Mem.of_world w0
 refine sR <| Y5 (Zw (f := u8) (l := k) m0 rfl) fun w1 b1 m1 => Y5 (Zf m1 Zi) fun w2 b2 m2 => ?_
 refine rN (sR ?_)
 refine Qd (Xe 0 0 Xf Yw rfl) <| Qd (Ql Uu rfl rfl m2.h1 (Qv _ _ 0 sD)) <| Qd (Qct (b := 7#8) rfl rfl) <| Qd (Xe 0 0 Xf Yw rfl) <| Vq m2 (X9 (f := u8) (a := (k.getD 0 0) &&& ~~~7#8) Q9 Yw rfl rfl m2.h1 sD (.inl (Nat.zero_le _))) fun w3 m3 => ?_
 refine rN (sR ?_)
 refine Qd (Xe 31 31 Xf Yw rfl) <| Qd (Ql Uu rfl rfl m3.h1 (Qv _ _ 0 sD)) <| Qd (Qct (b := 128#8) rfl rfl) <| Qd (Qcs (b := 64#8) rfl rfl) <| Qd (Xe 31 31 Xf Yw rfl) <| Vq m3 (X9 (f := u8) (a := (((k.set 0 ((k.getD 0 0) &&& ~~~7#8)).getD 31 0) &&& ~~~128#8) ||| 64#8) Q9 Yw rfl rfl m3.h1 sD (.inl (Nat.zero_le _))) fun w4 m4 => ?_
 refine rN (sR ?_)
 refine Qd (Qw Xf rfl Zi rfl m4.h1 sZ) <| Yb m4 (Qq (f := u8) (l := (k.set 0 ((k.getD 0 0) &&& ~~~7#8)).set 31 ((((k.set 0 ((k.getD 0 0) &&& ~~~7#8)).getD 31 0) &&& ~~~128#8) ||| 64#8)) Q9 Zi rfl rfl sD m4.h0 sZ rfl) fun w5 m5 => ?_
 refine rN (Zy ?_)
 refine Qs [(agg u8 ((k.set 0 ((k.getD 0 0) &&& ~~~7#8)).set 31 ((((k.set 0 ((k.getD 0 0) &&& ~~~7#8)).getD 31 0) &&& ~~~128#8) ||| 64#8)))] ⟨⟨_, rfl, Xi Xf rfl Zi m5.h0 sZ⟩, trivial⟩ ?_
 exact ⟨by unfold Xo; rfl, m5.toExt⟩
set_option maxHeartbeats 1000000 in
theorem Qex (ky u : Zj) (w0 : World)  (hk : ky.length = 32) (hu : u.length = 32) : Xm prog 57 #[(agg u8 ky), (agg u8 u)] w0 (fun r w1 => r = (agg u8 (Qi ky u)) ∧ Ext w0 w1) := by
 refine Qy (args := [(agg u8 ky), (agg u8 u)]) func57 rfl ntmps57 results57 rfl ?_
 have m0 : Mem w0 (Qu w0) [] := Mem.of_world w0
 have hcl := Qgp ky
 have hrl : (Xu u).length = 5 := by unfold Xu; exact F9 u 255
 refine sR <| Y5 (Zw (f := u8) (l := ky) m0 rfl) fun w1 b2 m1 => Y5 (Zw (f := u8) (l := u) m1 rfl) fun w2 b3 m2 => Y5 (Zf m2 Zi) fun w3 b4 m3 => ?_
 refine rN (sR ?_)
 refine Qd (Qw Xf rfl Zi rfl m3.h2 sZ) <| Dx m3 (oc78 (Jb rfl) (c_clamp5 _ _ sD)) fun w4 m4 => Qc3 m4 (Qq (f := u8) (l := Xo ky) Q9 Zi rfl rfl sD m4.h2 sZ rfl) fun w6 m6 => ?_
 refine rN (sR ?_)
 refine Qd (Qw Xf rfl Zi rfl m6.h1 sZ) <| Dx m6 (oc79 (Jb rfl) (c_cread _ _ sD)) fun w7 m7 => Y5 (Zf m7 Z5) fun w9 b5 m9 => Yb m9 (Qq (f := u64) (l := Xu u) Zm Z5 rfl rfl sD m9.h0 sZ rfl) fun w10 m10 => ?_
 refine rN (Qc ?_)
 refine Qa2 (J := fun g wv => ∃ (c6 c7 : Nat), g 0 = (agg u8 ky) ∧ g 1 = (agg u8 u) ∧ g 2 = (ptr b2 0) ∧ g 3 = (ptr b3 0) ∧ g 4 = (ptr b4 0) ∧ g 5 = (ptr b5 0) ∧ g 6 = (ptr c6 0) ∧ g 7 = (ptr c7 0) ∧ Mem wv (Qu w0) [(c6, .cells (Qp [([1#64, 0#64, 0#64, 0#64, 0#64]).map u64, ([0#64, 0#64, 0#64, 0#64, 0#64]).map u64]) 129 (0, 0)), (c7, .cells (Qp [(Xu u).map u64, ([1#64, 0#64, 0#64, 0#64, 0#64]).map u64]) 129 (0, 0)), (b5, .cells (cl u64 (Xu u)) 126 (0, 0)), (b4, .cells (cl u8 (List.replicate 32 0)) 23 (0, 0)), (b3, .cells (cl u8 u) 23 (0, 0)), (b2, .cells (cl u8 (Xo ky)) 23 (0, 0))]) ?_ ?_
 ·skip
  refine Ju Xh ?_
  have hFM11 : Mem w10 (Qu w0) ([] ++ [(b5, .cells (cl u64 (Xu u)) 126 (0, 0)), (b4, .cells (cl u8 (List.replicate 32 0)) 23 (0, 0)), (b3, .cells (cl u8 u) 23 (0, 0)), (b2, .cells (cl u8 (Xo ky)) 23 (0, 0))]) := m10
  obtain ⟨RM11, hRM11⟩ : ∃ R2, R2 = Rest.add (Qu w0) [(b5, .cells (cl u64 (Xu u)) 126 (0, 0)), (b4, .cells (cl u8 (List.replicate 32 0)) 23 (0, 0)), (b3, .cells (cl u8 u) 23 (0, 0)), (b2, .cells (cl u8 (Xo ky)) 23 (0, 0))] := ⟨_, rfl⟩
  have M110 : Mem w10 RM11 [] := by rw [hRM11]; exact Mem.give hFM11
  have ho12 : RM11.blk b5 = some (.cells (cl u64 (Xu u)) 126 (0, 0)) := by rw [hRM11]; exact Mem.addOwn hFM11 (List.Mem.head _)
  have ho13 : RM11.blk b4 = some (.cells (cl u8 (List.replicate 32 0)) 23 (0, 0)) := by rw [hRM11]; exact Mem.addOwn hFM11 (List.Mem.tail _ (List.Mem.head _))
  have ho14 : RM11.blk b3 = some (.cells (cl u8 u) 23 (0, 0)) := by rw [hRM11]; exact Mem.addOwn hFM11 (List.Mem.tail _ (List.Mem.tail _ (List.Mem.head _)))
  have ho15 : RM11.blk b2 = some (.cells (cl u8 (Xo ky)) 23 (0, 0)) := by rw [hRM11]; exact Mem.addOwn hFM11 (List.Mem.tail _ (List.Mem.tail _ (List.Mem.tail _ (List.Mem.head _))))
  refine re_alM [5, 6] (dl 5) [(7, true)] 8 (luN [(5, 6), (6, 7)]) (luN [(5, 129), (6, 129)]) (luV [(5, (Value.agg #[(u64 0), (u64 0), (u64 0), (u64 0), (u64 0), (u64 0), (u64 0), (u64 0), (u64 0), (u64 0)])), (6, (Value.agg #[(u64 0), (u64 0), (u64 0), (u64 0), (u64 0), (u64 0), (u64 0), (u64 0), (u64 0), (u64 0)]))]) (fun g => g 0 = (agg u8 ky) ∧ g 1 = (agg u8 u) ∧ g 2 = (ptr b2 0) ∧ g 3 = (ptr b3 0) ∧ g 4 = (ptr b4 0) ∧ g 5 = (ptr b5 0) ∧ g 14 = (Value.agg #[(u64 1#64), (u64 0#64), (u64 0#64), (u64 0#64), (u64 0#64), (u64 0), (u64 0), (u64 0), (u64 0), (u64 0)]) ∧ g 17 = (Value.agg (Qp [(Xu u).map u64, ([1#64, 0#64, 0#64, 0#64, 0#64]).map u64])) ∧ True) M110 (U3 ⟨⟨_, _, _, rfl⟩, rfl, _, _, Ur⟩ (U3 ⟨⟨_, _, _, rfl⟩, rfl, _, _, Ur⟩ Qbv)) (fun sx16 hS16 => ?_) ?_
  ·skip
   refine L9 rfl (Uf (c := (cl u64 ([1#64, 0#64, 0#64, 0#64, 0#64]))) Z5 Zk Zl (Yx (i := 0) (v := (u64 1#64)) (cs := #[(u64 1#64)]) rfl rfl V5) Xh) <| L9 rfl (Ky (c := #[(u64 1#64), (u64 0#64), (u64 0#64), (u64 0#64), (u64 0#64), (u64 0), (u64 0), (u64 0), (u64 0), (u64 0)]) (pl := [(0, 5), (5, 5)]) Ur F8 Xh (Yx (i := 0) (v := (agg u64 ([1#64, 0#64, 0#64, 0#64, 0#64]))) (cs := (cl u64 ([1#64, 0#64, 0#64, 0#64, 0#64]))) rfl rfl V5) Xh) <| yqH rfl (fun w _H _hx => Qw Zk rfl Z5 rfl (_hx.rest _ _ ho12) sZ) <| L9 rfl (Uf (c := (cl u64 ([1#64, 0#64, 0#64, 0#64, 0#64]))) Z5 Zk Zl (Yx (i := 0) (v := (u64 1#64)) (cs := #[(u64 1#64)]) rfl rfl V5) Xh) <| L9 rfl (Ky (c := (Qp [(Xu u).map u64, ([1#64, 0#64, 0#64, 0#64, 0#64]).map u64])) (pl := [(0, 5), (5, 5)]) Ur F8 Xh (Yx (i := 0) (v := (agg u64 (Xu u))) (cs := (cl u64 (Xu u))) rfl rfl (Yx (i := 1) (v := (agg u64 ([1#64, 0#64, 0#64, 0#64, 0#64]))) (cs := (cl u64 ([1#64, 0#64, 0#64, 0#64, 0#64]))) rfl rfl V5)) (Vb (L := [(List.replicate 5 0).map u64, (List.replicate 5 0).map u64]) 0 [(Xu u).map u64, (List.replicate 5 0).map u64] rfl (Ws u64 _).symm rfl (Vb 1 [(Xu u).map u64, ([1#64, 0#64, 0#64, 0#64, 0#64]).map u64] rfl (Ws u64 _).symm rfl Dc))) ?_
   exact hS16 _ ⟨rfl, rfl, rfl, rfl, rfl, rfl, rfl, rfl, trivial⟩
  rintro g17 ⟨s0, s1, s2, s3, s4, s5, s14, s17, _⟩ w19 ps19 hmm19
  have m19 : Mem _ _ [((ps19 5), .cells #[(u64 0), (u64 0), (u64 0), (u64 0), (u64 0), (u64 0), (u64 0), (u64 0), (u64 0), (u64 0)] 129 (0, 0)), ((ps19 6), .cells #[(u64 0), (u64 0), (u64 0), (u64 0), (u64 0), (u64 0), (u64 0), (u64 0), (u64 0), (u64 0)] 129 (0, 0))] := hmm19
  show DW _ _ _ _ _ _ _ (upd (upd g17 7 (ptr (ps19 6) 0)) 6 (ptr (ps19 5) 0)) _
  generalize ps19 5 = b6, ps19 6 = b7 at m19 ⊢
  refine dk_n rfl (fun w20 e20 => ?_)
  have m20 := m19.ext e20
  refine J8.mono (Qdd (cs := #[(u64 1#64), (u64 0#64), (u64 0#64), (u64 0#64), (u64 0#64), (u64 0), (u64 0), (u64 0), (u64 0), (u64 0)]) Ur rfl s14 Xh (Qig (Zz (Zm _) (Zz (Zm _) (Zz (Zm _) (Zz (Zm _) (Zz (Zm _) (Zz (Zm _) (Zz (Zm _) (Zz (Zm _) (Zz (Zm _) (Zz (Zm _) Jm))))))))))) m20.h0 Xh rfl) ?_
  rintro _ w21 uq21
  have m21 : Mem _ _ [(b6, .cells #[(u64 1#64), (u64 0#64), (u64 0#64), (u64 0#64), (u64 0#64), (u64 0), (u64 0), (u64 0), (u64 0), (u64 0)] 129 (0, 0)), _] := m20.upd0 uq21
  refine ⟨⟨_, m21⟩, ?_⟩
  refine Ug m21 fun w22 m22 => ?_
  have hX23 := m22
  rw [hRM11] at hX23
  have m24 : Mem w22 (Qu w0) [(b6, .cells #[(u64 1#64), (u64 0#64), (u64 0#64), (u64 0#64), (u64 0#64), (u64 0), (u64 0), (u64 0), (u64 0), (u64 0)] 129 (0, 0)), (b7, .cells #[(u64 0), (u64 0), (u64 0), (u64 0), (u64 0), (u64 0), (u64 0), (u64 0), (u64 0), (u64 0)] 129 (0, 0)), (b5, .cells (cl u64 (Xu u)) 126 (0, 0)), (b4, .cells (cl u8 (List.replicate 32 0)) 23 (0, 0)), (b3, .cells (cl u8 u) 23 (0, 0)), (b2, .cells (cl u8 (Xo ky)) 23 (0, 0))] := ymA (Mem.back hFM11 hX23)
  refine Ve (Wl [(Xu u).map u64, ([1#64, 0#64, 0#64, 0#64, 0#64]).map u64] Ur rfl s17 (Gn (n := 5) (m := 5) (k := 10) (by first | rfl | (rw [List.length_map]; first | omega | (simp; done) | (simp; omega))) (Gn (n := 5) (m := 0) (k := 5) (by first | rfl | (rw [List.length_map]; first | omega | (simp; done) | (simp; omega))) Tz rfl) rfl) (Xt (Yj Zm _) (Xt (Yj Zm _) Ui)) m24.h1 rfl rfl) ?_
  rintro _ w25 uq25
  have m25 : Mem _ _ [_, (b7, .cells (Qp [(Xu u).map u64, ([1#64, 0#64, 0#64, 0#64, 0#64]).map u64]) 129 (0, 0)), _, _, _, _] := m24.upd1 uq25
  refine rN ?_
  exact ⟨b6, b7, s0, s1, s2, s3, s4, s5, rfl, rfl, m25⟩
 rintro fr26 w27 ⟨c6, c7, s0, s1, s2, s3, s4, s5, s6, s7, m27⟩
 refine Qc (sR ?_)
 refine Zv (i64 254) ?_
 refine rN (Qj ?_)
 refine Jq (fun g wv => ∃ (j : Nat), (j ≤ 255) ∧ g 0 = (agg u8 ky) ∧ g 1 = (agg u8 u) ∧ g 2 = (ptr b2 0) ∧ g 3 = (ptr b3 0) ∧ g 4 = (ptr b4 0) ∧ g 5 = (ptr b5 0) ∧ g 6 = (ptr c6 0) ∧ g 7 = (ptr c7 0) ∧ g 8 = (i64 (254 - (j : Int))) ∧ Mem wv (Qu w0) [(c6, .cells (Qp [((Xx (Xo ky) (Xu u) j).px).map u64, ((Xx (Xo ky) (Xu u) j).pz).map u64]) 129 (0, 0)), (c7, .cells (Qp [((Xx (Xo ky) (Xu u) j).qx).map u64, ((Xx (Xo ky) (Xu u) j).qz).map u64]) 129 (0, 0)), (b5, .cells (cl u64 (Xu u)) 126 (0, 0)), (b4, .cells (cl u8 (List.replicate 32 0)) 23 (0, 0)), (b2, .cells (cl u8 (Xo ky)) 23 (0, 0))]) (fun g wv => (RowKit.intOf (g 8) + 1).toNat) ?_ ?_
 have m28 := Mem.drop [_] _ (Mem.pick [_, _, _, _] [_] _ m27)
 ·exact ⟨0, oM, s0, s1, s2, s3, s4, s5, s6, s7, rfl, (by rw [Qlb]; exact m28)⟩
 rintro fr29 w30 ⟨j, hj, s0, s1, s2, s3, s4, s5, s6, s7, s8, m30⟩
 have z8 := s8
 have hL := Qns (Xo ky) hrl j
 have hL1 := hL.px
 have hL2 := hL.pz
 have hL3 := hL.qx
 have hL4 := hL.qz
 have hS := Qar (Xx (Xo ky) (Xu u) j).px (Xx (Xo ky) (Xu u) j).pz (Xx (Xo ky) (Xu u) j).qx (Xx (Xo ky) (Xu u) j).qz (Xu u)
 have hT := Qar (Xx (Xo ky) (Xu u) j).qx (Xx (Xo ky) (Xu u) j).qz (Xx (Xo ky) (Xu u) j).px (Xx (Xo ky) (Xu u) j).pz (Xu u)
 have hSpx := hS.px
 have hSpz := hS.pz
 have hSqx := hS.qx
 have hSqz := hS.qz
 have hTpx := hT.px
 have hTpz := hT.pz
 have hTqx := hT.qx
 have hTqz := hT.qz
 refine Qc (sR ?_)
 refine Yk s8 <| Qd (Eu (b := 0) rfl rfl) <| rN ?_
 refine Xb rfl (fun hc31 => ?_) (fun hc31 => ?_)
 ·
  have hc31p := of_decide_eq_true hc31
  refine Qo (Qa (Qc (Qj (sR ?_))))
  refine Yk s8 <| Qd (Yt.cast (congrArg i64 (show (254 - (j : Int)) / 8 = (((254 - j) / 8 : Nat) : Int) by omega)) (Gw (b := 8) rfl rfl oM oM oM)) <| Qd (Xc (r := ((254 - j) / 8)) oM Xf Yw s2 rfl oM sD) <| Qd (v := (u8 ((Xo ky).getD ((254 - j) / 8) 0))) (Ql Uu rfl rfl m30.h4 (Qv _ _ 0 sD)) <| Yk s8 <| Qd (Yt.cast (congrArg i64 (show (254 - (j : Int)) % 8 = (((254 - j) % 8 : Nat) : Int) by omega)) (J4 (b := 8) rfl rfl oM oM oM)) <| Qd (Qhe rfl rfl oM) <| Qd (Qhg (b := 1#8) rfl rfl) <| Qd (Qdk (b := 0#8) rfl rfl) <| rN ?_
  refine Xb rfl (fun hc32 => ?_) (fun hc32 => ?_)
  ·
   have hc32p := eq_of_beq hc32
   refine Qb <| Qd (Jt F8 Ur s6 m30.h0) <| Qd (Jt F8 Ur s7 m30.h1) <| Qd (Qw Zk rfl Z5 s5 m30.h2 sZ) <| Dx m30 (oc80 (U2 rfl rfl rfl) (Qm1 _ _ _ _ _ _ sD sD sD sD sD)) fun w33 m33 => Yk rfl <| Qd (v := (Value.agg (Qp [((U5 ((Xx (Xo ky) (Xu u) j).px) ((Xx (Xo ky) (Xu u) j).pz) ((Xx (Xo ky) (Xu u) j).qx) ((Xx (Xo ky) (Xu u) j).qz) (Xu u)).px).map u64, ((U5 ((Xx (Xo ky) (Xu u) j).px) ((Xx (Xo ky) (Xu u) j).pz) ((Xx (Xo ky) (Xu u) j).qx) ((Xx (Xo ky) (Xu u) j).qz) (Xu u)).pz).map u64]))) (Zg rfl rfl) <| Qd (v := (Value.agg (Qp [((U5 ((Xx (Xo ky) (Xu u) j).px) ((Xx (Xo ky) (Xu u) j).pz) ((Xx (Xo ky) (Xu u) j).qx) ((Xx (Xo ky) (Xu u) j).qz) (Xu u)).qx).map u64, ((U5 ((Xx (Xo ky) (Xu u) j).px) ((Xx (Xo ky) (Xu u) j).pz) ((Xx (Xo ky) (Xu u) j).qx) ((Xx (Xo ky) (Xu u) j).qz) (Xu u)).qz).map u64]))) (Zg rfl rfl) <| Yb m33 (Jw Ur s6 rfl m33.h0 (Xt (Yj Zm _) (Xt (Yj Zm _) Ui))) fun w35 m35 => Vq m35 (Jw Ur s7 rfl m35.h1 (Xt (Yj Zm _) (Xt (Yj Zm _) Ui))) fun w36 m36 => ?_
   refine Zo (Qh (Qb ?_))
   refine Yk s8 <| Qd (Kw (b := 1) rfl rfl oM oM) <| Zv (i64 ((254 - (j : Int)) - 1)) <| rN ?_
   exact ⟨⟨j + 1, oM, s0, s1, s2, s3, s4, s5, s6, s7, (show i64 (254 - (j : Int) - 1) = i64 (254 - ((j + 1 : Nat) : Int)) from congrArg i64 oM), (by rw [ladGo_t (k := (Xo ky)) (x1 := (Xu u)) (j := j) hc32]; exact m36)⟩, (by show (RowKit.intOf (i64 (254 - (j : Int) - 1)) + 1).toNat < (RowKit.intOf _ + 1).toNat; rw [z8]; simp only [RowKit.intOf, i64]; omega)⟩
  ·
   have hc32p := ne_of_beq_false hc32
   refine Qb <| Qd (Jt F8 Ur s7 m30.h1) <| Qd (Jt F8 Ur s6 m30.h0) <| Qd (Qw Zk rfl Z5 s5 m30.h2 sZ) <| Dx m30 (oc80 (U2 rfl rfl rfl) (Qm1 _ _ _ _ _ _ sD sD sD sD sD)) fun w37 m37 => Yk rfl <| Qd (v := (Value.agg (Qp [((U5 ((Xx (Xo ky) (Xu u) j).qx) ((Xx (Xo ky) (Xu u) j).qz) ((Xx (Xo ky) (Xu u) j).px) ((Xx (Xo ky) (Xu u) j).pz) (Xu u)).px).map u64, ((U5 ((Xx (Xo ky) (Xu u) j).qx) ((Xx (Xo ky) (Xu u) j).qz) ((Xx (Xo ky) (Xu u) j).px) ((Xx (Xo ky) (Xu u) j).pz) (Xu u)).pz).map u64]))) (Zg rfl rfl) <| Qd (v := (Value.agg (Qp [((U5 ((Xx (Xo ky) (Xu u) j).qx) ((Xx (Xo ky) (Xu u) j).qz) ((Xx (Xo ky) (Xu u) j).px) ((Xx (Xo ky) (Xu u) j).pz) (Xu u)).qx).map u64, ((U5 ((Xx (Xo ky) (Xu u) j).qx) ((Xx (Xo ky) (Xu u) j).qz) ((Xx (Xo ky) (Xu u) j).px) ((Xx (Xo ky) (Xu u) j).pz) (Xu u)).qz).map u64]))) (Zg rfl rfl) <| Vq m37 (Jw Ur s7 rfl m37.h1 (Xt (Yj Zm _) (Xt (Yj Zm _) Ui))) fun w39 m39 => Yb m39 (Jw Ur s6 rfl m39.h0 (Xt (Yj Zm _) (Xt (Yj Zm _) Ui))) fun w40 m40 => ?_
   refine Zo (Qh (Qb ?_))
   refine Yk s8 <| Qd (Kw (b := 1) rfl rfl oM oM) <| Zv (i64 ((254 - (j : Int)) - 1)) <| rN ?_
   exact ⟨⟨j + 1, oM, s0, s1, s2, s3, s4, s5, s6, s7, (show i64 (254 - (j : Int) - 1) = i64 (254 - ((j + 1 : Nat) : Int)) from congrArg i64 oM), (by rw [ladGo_f (k := (Xo ky)) (x1 := (Xu u)) (j := j) hc32]; exact m40)⟩, (by show (RowKit.intOf (i64 (254 - (j : Int) - 1)) + 1).toNat < (RowKit.intOf _ + 1).toNat; rw [z8]; simp only [RowKit.intOf, i64]; omega)⟩
 ·
  have hc31p := of_decide_eq_false hc31
  obtain rfl : j = 255 := by omega
  refine Yc ?_
  refine Qr (Qr (Xp ?_))
  refine Qc <| Xj (dl 5) 5 Xh <| Xq rfl (Zd (r := 0) F8 rfl Yy Z5 rfl s6) <| Y6 rfl (fun _ e' => Y8 0 Zk Z5 rfl (m30.ext e').h0 rfl) <| Xq rfl (Zd (r := 5) F8 rfl Yy Z5 rfl s6) <| Y6 rfl (fun _ e' => Y8 1 Zk Z5 rfl (m30.ext e').h0 rfl) <| U4 rfl rfl (fun w41 e41 => oc82 (Jb rfl) (c_inv5 _ _ sD)) <| Ug m30 fun w44 m44 => Dx m44 (Qdh (X3 rfl rfl) (Ub _ _ _ sD sD)) fun w45 m45 => Dx m45 (oc83 (Jb rfl) (c_ebytes _ _ sD)) fun w47 m47 => yqU3 m47 (Qq (f := u8) (l := Lu (Qe ((Xx (Xo ky) (Xu u) 255).px) (invL ((Xx (Xo ky) (Xu u) 255).pz)))) Q9 Zi s4 rfl sD m47.h3 sZ rfl) fun w49 m49 => ?_
  refine rN (Zy ?_)
  refine Qs [(agg u8 (Lu (Qe ((Xx (Xo ky) (Xu u) 255).px) (invL ((Xx (Xo ky) (Xu u) 255).pz)))))] ⟨⟨_, s4, Xi Xf rfl Zi m49.h3 sZ⟩, trivial⟩ ?_
  exact ⟨by unfold Qi invL; rfl, m49.toExt⟩
theorem Qhp (ky : Zj) (w0 : World)  (hk : ky.length = 32) : Xm prog 31 #[(agg u8 ky)] w0 (fun r w1 => r = (agg u8 (Qi ky Q7)) ∧ Ext w0 w1) := by
 refine Qy (args := [(agg u8 ky)]) func31 rfl ntmps31 results31 rfl ?_
 have m0 : Mem w0 (Qu w0) [] := Mem.of_world w0
 refine sR <| Y5 (Zw (f := u8) (l := ky) m0 rfl) fun w1 b1 m1 => Y5 (Zf m1 Zi) fun w2 b2 m2 => ?_
 refine rN (sR ?_)
 refine Qd (Qw Xf rfl Zi rfl m2.h1 sZ) <| Qd (Uf (c := (cl u8 ((Gp 9#8)))) Zi Xf Yw (Yx (i := 0) (v := (u8 9#8)) (cs := #[(u8 9#8)]) rfl rfl V5) Xh) <| Dx m2 (oc57 (X3 rfl rfl) (Qex _ _ _ sD sD)) fun w3 m3 => Yb m3 (Qq (f := u8) (l := Qi ky ((Gp 9#8))) Q9 Zi rfl rfl sD m3.h0 sZ rfl) fun w5 m5 => ?_
 refine rN (Zy ?_)
 refine Qs [(agg u8 (Qi ky ((Gp 9#8))))] ⟨⟨_, rfl, Xi Xf rfl Zi m5.h0 sZ⟩, trivial⟩ ?_
 exact ⟨rfl, m5.toExt⟩
theorem Ql0 (ky : Zj) (w0 : World)  (hk : ky.length = 32) : Xm prog 27 #[(agg u8 ky)] w0 (fun r w1 => r = (Value.agg (Qp [ky.map u8, (Qi ky Q7).map u8])) ∧ Ext w0 w1) := by
 refine Qy (args := [(agg u8 ky)]) func27 rfl ntmps27 results27 rfl ?_
 have m0 : Mem w0 (Qu w0) [] := Mem.of_world w0
 refine sR <| Y5 (Zw (f := u8) (l := ky) m0 rfl) fun w1 b1 m1 => Y5 (Yu m1 Qec) fun w2 b2 m2 => ?_
 refine rN (Qc ?_)
 refine Xj [(0, false), (1, false), (2, false)] 3 Xh <| Y6 rfl (fun _ e' => Qw Xf rfl Zi rfl (m2.ext e').h1 sZ) <| Y6 rfl (fun _ e' => Qw Xf rfl Zi rfl (m2.ext e').h1 sZ) <| U4 rfl rfl (fun w3 e3 => oc31 (Jb rfl) (Qhp _ _ sD)) <| Ug m2 fun w6 m6 => Qd (Ky (c := (Qp [ky.map u8, (Qi ky Q7).map u8])) (pl := [(0, 32), (32, 32)]) Qec Qe5 Xh (Yx (i := 0) (v := (agg u8 ky)) (cs := (cl u8 ky)) rfl rfl (Yx (i := 1) (v := (agg u8 (Qi ky Q7))) (cs := (cl u8 (Qi ky Q7))) rfl rfl V5)) (Vb (L := [(List.replicate 32 0).map u8, (List.replicate 32 0).map u8]) 0 [ky.map u8, (List.replicate 32 0).map u8] rfl (Ws u8 _).symm rfl (Vb 1 [ky.map u8, (Qi ky Q7).map u8] rfl (Ws u8 _).symm rfl Dc))) <| Ve (Wl [ky.map u8, (Qi ky Q7).map u8] Qec rfl rfl (Gn (n := 32) (m := 32) (k := 64) (by first | rfl | (rw [List.length_map]; first | omega | (simp; done) | (simp; omega))) (Gn (n := 32) (m := 0) (k := 32) (by first | rfl | (rw [List.length_map]; first | omega | (simp; done) | (simp; omega))) Tz rfl) rfl) (Xt (Yj Q9 _) (Xt (Yj Q9 _) Ui)) m6.h0 rfl rfl) ?_
 rintro _ w7 uq7
 have m7 : Mem _ _ [(b2, .cells (Qp [ky.map u8, (Qi ky Q7).map u8]) 39 (0, 0)), _] := m6.upd0 uq7
 refine rN (Zy ?_)
 refine Qs [(Value.agg (Qp [ky.map u8, (Qi ky Q7).map u8]))] ⟨⟨_, rfl, Ku Qe5 Qec m7.h0⟩, trivial⟩ ?_
 exact ⟨rfl, m7.toExt⟩
theorem Qoc (own pub ot : Zj) (w0 : World)  (ho : own.length = 32) (hp : pub.length = 32) (ht : ot.length = 32) : Xm prog 41 #[(Value.agg (Qp [own.map u8, pub.map u8])), (agg u8 ot)] w0 (fun r w1 => r = (agg u8 (Qi own ot)) ∧ Ext w0 w1) := by
 refine Qy (args := [(Value.agg (Qp [own.map u8, pub.map u8])), (agg u8 ot)]) func41 rfl ntmps41 results41 rfl ?_
 have m0 : Mem w0 (Qu w0) [] := Mem.of_world w0
 refine sR <| Y5 (Uk (cs := (Qp [own.map u8, pub.map u8])) m0 rfl) fun w1 b2 m1 => Y5 (Zw (f := u8) (l := ot) m1 rfl) fun w2 b3 m2 => Y5 (Zf m2 Zi) fun w3 b4 m3 => ?_
 refine rN (sR ?_)
 refine Qd (Zd (r := 0) Qe5 rfl Yy Zi rfl rfl) <| Qd (Y8 0 Xf Zi rfl m3.h2 rfl) <| Qd (Qw Xf rfl Zi rfl m3.h1 sZ) <| Dx m3 (oc57 (X3 rfl rfl) (Qex _ _ _ sD sD)) fun w4 m4 => Yb m4 (Qq (f := u8) (l := Qi own ot) Q9 Zi rfl rfl sD m4.h0 sZ rfl) fun w6 m6 => ?_
 refine rN (Zy ?_)
 refine Qs [(agg u8 (Qi own ot))] ⟨⟨_, rfl, Xi Xf rfl Zi m6.h0 sZ⟩, trivial⟩ ?_
 exact ⟨rfl, m6.toExt⟩
end Go.Proofs.YtkmiemlpfkfiiaaDoor
