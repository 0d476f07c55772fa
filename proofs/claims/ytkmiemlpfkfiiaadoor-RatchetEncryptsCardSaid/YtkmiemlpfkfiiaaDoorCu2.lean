/- Contracts: the curve, second part. Conditions: none beyond those that each theorem states. -/
import Derived.Test.YtkmiemlpfkfiiaaDoorCu1
import Derived.Test.YtkmiemlpfkfiiaaDoorFwR
namespace Go.Proofs.YtkmiemlpfkfiiaaDoor
set_option linter.unusedVariables false
set_option linter.unusedSimpArgs false
def We : List (BitVec 8) := [9#8, 0#8, 0#8, 0#8, 0#8, 0#8, 0#8, 0#8, 0#8, 0#8, 0#8, 0#8, 0#8, 0#8, 0#8, 0#8, 0#8, 0#8, 0#8, 0#8, 0#8, 0#8, 0#8, 0#8, 0#8, 0#8, 0#8, 0#8, 0#8, 0#8, 0#8, 0#8]
@[simp] theorem base9_length : We.length = 32 := rfl
attribute [local irreducible] Qq Zx Zf Gs Ff Yt Vl Nz Vr Y9 Yy Uf Pg Eg Yl
theorem c_inv5 (x : List (BitVec 64)) (w0 : World)  (hx : x.length = 5) : Xz Tryd.prog 82 #[(agg u64 x)] w0 (fun r w1 => r = (agg u64 (invL x)) ∧ Ext w0 w1) := by
 refine Zd (args := [(agg u64 x)]) Tryd.func82 rfl Tryd.ntmps82 Tryd.results82 rfl ?_
 have m0 : Mem w0 (Qy w0) [] := Mem.of_world w0
 refine sR <| Za rfl (Z8 (f := u64) (l := x) m0 rfl) ?_
 rintro _ w1 ⟨b1, rfl, e1, m1⟩
 refine Za rfl (Zg m1 Ya) ?_
 rintro _ w2 ⟨b2, rfl, e2, m2⟩
 refine rN (sR ?_)
 refine Qa rfl (Ve (c := (cl u64 ([1#64, 0#64, 0#64, 0#64, 0#64]))) Ya Xg Xh (Y2 (i := 0) (v := (u64 1#64)) (cs := #[(u64 1#64)]) rfl rfl Vo) (by kernel_rfl)) <| Za rfl (Zg m2 Ya) ?_
 rintro _ w3 ⟨b3, rfl, e3, m3⟩
 refine Zw (Qm (f := u64) (l := [1#64, 0#64, 0#64, 0#64, 0#64]) Xl Ya rfl rfl sD m3.h0 sZ rfl) ?_
 rintro _ w4 uq4
 have m4 := m3.upd0 uq4
 refine rN (Qg (sR ?_))
 refine Qa rfl (Qc (v := (i64 254)) rfl) ?_
 refine rN (Qo ?_)
 refine Yo (fun g wv => ∃ (j : Nat), (j ≤ 255) ∧ g 0 = (agg u64 x) ∧ g 1 = (ptr b1 0) ∧ g 2 = (ptr b2 0) ∧ g 3 = (ptr b3 0) ∧ g 4 = (i64 (254 - (j : Int))) ∧ Mem wv (Qy w0) [(b3, .cells (cl u64 (Gs x j)) 126 (0, 0)), (b2, .cells (cl u64 (List.replicate 5 0)) 126 (0, 0)), (b1, .cells (cl u64 x) 126 (0, 0))]) (fun g wv => (RowKit.intOf (g 4) + 1).toNat) ?_ ?_
 ·exact ⟨0, oM, rfl, rfl, rfl, rfl, rfl, (by rw [Qlj]; exact m4)⟩
 rintro fr5 w6 ⟨j, hj, s0, s1, s2, s3, s4, m6⟩
 have z4 := s4
 have hil := Tn x j
 refine Qg (sR ?_)
 refine rM rfl s4 <| Qa rfl (X5 (b := 0) rfl rfl) <| rN ?_
 refine Xv rfl (fun hc7 => ?_) (fun hc7 => ?_)
 ·
  have hc7p := of_decide_eq_true hc7
  refine Q7 (Qh (Qg (Qo (sR ?_))))
  refine Qa rfl (Qw Xg rfl Ya s3 m6.h0 sZ) <| Qa rfl (Qw Xg rfl Ya s3 m6.h0 sZ) <| Za rfl (Qd4 (Xr rfl rfl) (U6 _ _ _ sD sD)) ?_
  rintro _ w8 ⟨rfl, e8⟩
  have m8 := m6.ext e8
  refine Zw (Qm (f := u64) (l := Qq (Gs x j) (Gs x j)) Xl Ya s3 rfl sD m8.h0 sZ rfl) ?_
  rintro _ w10 uq10
  have m10 := m8.upd0 uq10
  refine rN (sR ?_)
  refine rM rfl s4 <| Qa rfl (Gu (b := 2) rfl rfl) <| Qa rfl (Qb (v := (bl ((254 - (j : Int)) != 2))) rfl) ?_
  rcases Bool.eq_false_or_eq_true ((254 - (j : Int)) != 2) with hb11 | hb11
  ·
   have hb11p := bne_iff_ne.1 hb11
   refine Zt (s := 15) rfl rfl hb11 rfl (Qb s4) <| Zt (s := 15) rfl rfl hb11 rfl (Gu (b := 4) rfl rfl) <| Qa rfl (Jd rfl hb11 rfl) <| rN ?_
   refine Xv rfl (fun hc12 => ?_) (fun hc12 => ?_)
   ·
    have hc12p := bne_iff_ne.1 hc12
    refine Qe <| Qa rfl (Qw Xg rfl Ya s3 m10.h0 sZ) <| Qa rfl (Qw Xg rfl Ya s1 m10.h2 sZ) <| Za rfl (Qd4 (Xr rfl rfl) (U6 _ _ _ sD sD)) ?_
    rintro _ w13 ⟨rfl, e13⟩
    have m13 := m10.ext e13
    refine Zw (Qm (f := u64) (l := Qq (Qq (Gs x j) (Gs x j)) x) Xl Ya s3 rfl sD m13.h0 sZ rfl) ?_
    rintro _ w15 uq15
    have m15 := m13.upd0 uq15
    refine Zr (Qi (Qe ?_))
    refine rM rfl s4 <| Qa rfl (Zp (b := 1) rfl rfl oM oM) <| Qa rfl (Qc (v := (i64 ((254 - (j : Int)) - 1))) rfl) <| rN ?_
    have hin : Qq (Qq (Gs x j) (Gs x j)) x = Gs x (j + 1) := Qnw (by clear hil hx; omega)
    exact ⟨⟨j + 1, oM, s0, s1, s2, s3, (show i64 (254 - (j : Int) - 1) = i64 (254 - ((j + 1 : Nat) : Int)) from congrArg i64 oM), (by rw [← hin]; exact m15)⟩, (by show (RowKit.intOf (i64 (254 - (j : Int) - 1)) + 1).toNat < (RowKit.intOf _ + 1).toNat; rw [z4]; simp only [RowKit.intOf, i64]; omega)⟩
   ·
    have hc12p := Kt hc12
    refine Q7 (Qi (Qe ?_))
    refine rM rfl s4 <| Qa rfl (Zp (b := 1) rfl rfl oM oM) <| Qa rfl (Qc (v := (i64 ((254 - (j : Int)) - 1))) rfl) <| rN ?_
    have hin : Qq (Gs x j) (Gs x j) = Gs x (j + 1) := Qj7 (by clear hil hx; omega)
    exact ⟨⟨j + 1, oM, s0, s1, s2, s3, (show i64 (254 - (j : Int) - 1) = i64 (254 - ((j + 1 : Nat) : Int)) from congrArg i64 oM), (by rw [← hin]; exact m10)⟩, (by show (RowKit.intOf (i64 (254 - (j : Int) - 1)) + 1).toNat < (RowKit.intOf _ + 1).toNat; rw [z4]; simp only [RowKit.intOf, i64]; omega)⟩
  ·
   have hb11p := Kt hb11
   refine Yd (s := 15) rfl rfl hb11 rfl <| Yd (s := 15) rfl rfl hb11 rfl <| Qa rfl (Yn rfl hb11 rfl) <| rN <| Yp rfl (by decide) ?_
   refine Q7 (Qi (Qe ?_))
   refine rM rfl s4 <| Qa rfl (Zp (b := 1) rfl rfl oM oM) <| Qa rfl (Qc (v := (i64 ((254 - (j : Int)) - 1))) rfl) <| rN ?_
   have hin : Qq (Gs x j) (Gs x j) = Gs x (j + 1) := Qj7 (by clear hil hx; omega)
   exact ⟨⟨j + 1, oM, s0, s1, s2, s3, (show i64 (254 - (j : Int) - 1) = i64 (254 - ((j + 1 : Nat) : Int)) from congrArg i64 oM), (by rw [← hin]; exact m10)⟩, (by show (RowKit.intOf (i64 (254 - (j : Int) - 1)) + 1).toNat < (RowKit.intOf _ + 1).toNat; rw [z4]; simp only [RowKit.intOf, i64]; omega)⟩
 ·
  have hc7p := of_decide_eq_false hc7
  obtain rfl : j = 255 := by omega
  have hil := Tn x 255
  refine X0 ?_
  refine Qr (Qr (Xf ?_))
  refine sR <| Qa rfl (Qw Xg rfl Ya s3 m6.h0 sZ) <| Zw (Qm (f := u64) (l := Gs x 255) Xl Ya s2 rfl sD m6.h1 sZ rfl) ?_
  rintro _ w16 uq16
  have m16 := m6.upd1 uq16
  refine rN (Xt ?_)
  refine Ze [(agg u64 (Gs x 255))] ⟨⟨_, s2, Xo Xg rfl Ya m16.h1 sZ⟩, trivial⟩ ?_
  exact ⟨by unfold invL; rfl, m16.toExt⟩
set_option maxHeartbeats 1000000 in
theorem c_ebytes (e : List (BitVec 64)) (w0 : World)  (he : e.length = 5) : Xz Tryd.prog 83 #[(agg u64 e)] w0 (fun r w1 => r = (agg u8 (Nz e)) ∧ Ext w0 w1) := by
 refine Zd (args := [(agg u64 e)]) Tryd.func83 rfl Tryd.ntmps83 Tryd.results83 rfl ?_
 have m0 : Mem w0 (Qy w0) [] := Mem.of_world w0
 refine sR <| Za rfl (Z8 (f := u64) (l := e) m0 rfl) ?_
 rintro _ w1 ⟨b1, rfl, _ew1, m1⟩
 refine Za rfl (Zg m1 Z9) ?_
 rintro _ w2 ⟨b2, rfl, _ew2, m2⟩
 refine rN (sR ?_)
 refine Qa rfl (Qw Xg rfl Ya rfl m2.h1 sZ) <| Za rfl (oc101 (Jj rfl) (Qfi _ _ sD)) ?_
 rintro _ w3 ⟨rfl, _ew3⟩
 have m3 := m2.ext _ew3
 refine Zw (Qm (f := u64) (l := Uf e) Xl Ya rfl rfl sD m3.h1 sZ rfl) ?_
 rintro _ w5 uq5
 have m5 := m3.upd1 uq5
 refine rN (Qg ?_)
 obtain ⟨e0, e1, e2, e3, e4, hce⟩ := Qb7 (Uf e) (by rw [F9, he])
 have hmC6 := m5
 rw [hce] at hmC6
 refine Qe <| Qa rfl (Qw Xg rfl Ya rfl hmC6.h1 sZ) <| Za rfl (Zg hmC6 Ya) ?_
 rintro _ w7 ⟨b3, rfl, _ew7, m7⟩
 refine Zw (Qm (f := u64) (l := [e0, e1, e2, e3, e4]) Xl Ya rfl rfl sD m7.h0 sZ rfl) ?_
 rintro _ w8 uq8
 have m8 := m7.upd0 uq8
 refine Qa rfl (Qc (v := (u64 19#64)) rfl) ?_
 refine rN (Qg (sR ?_))
 refine Qa rfl (Qb (v := (i64 0)) rfl) ?_
 refine rN (Qo ?_)
 refine Kw 6 ?_
 refine Zq (sR ?_)
 refine Qa rfl (Qs (a := 0) (b := 5) rfl rfl) ?_
 refine rN (Qg ?_)
 refine Zc rfl (by decide) ?_
 refine Q7 (Qh (Qg (Qo (sR ?_))))
 refine Qa rfl (Qb (v := (i64 0)) rfl) <| Qa rfl (Qc (v := (i64 0)) rfl) ?_
 refine rN (sR ?_)
 refine Qa rfl (Qb (v := (i64 0)) rfl) <| Qa rfl (Qd (r := 0) (i := 0) oM Xg Xh rfl rfl oM oM) <| Qa (v := (u64 e0)) rfl (Qn X4 rfl rfl m8.h0 (Qx _ _ 0 (by simp))) <| Qa rfl (Qb (v := (u64 19#64)) rfl) <| Qa rfl (Y3 (b := 19#64) rfl rfl) <| Qa rfl (Qd (r := 0) (i := 0) oM Xg Xh rfl rfl oM oM) <| Zw (Zm (f := u64) (l' := [e0 + 19#64, e1, e2, e3, e4]) rfl Xl Xh rfl rfl m8.h0 (by simp) (.inl (Nat.zero_le _))) ?_
 rintro _ w9 uq9
 have m9 := m8.upd0 uq9
 refine rN (sR ?_)
 refine Qa rfl (Qb (v := (i64 0)) rfl) <| Qa rfl (Qd (r := 0) (i := 0) oM Xg Xh rfl rfl oM oM) <| Qa (v := (u64 (e0 + 19#64))) rfl (Qn X4 rfl rfl m9.h0 (Qx _ _ 0 (by simp))) <| Qa rfl (Xy (b := 51) rfl rfl oM) <| Qa rfl (Qc (v := (u64 ((e0 + 19#64) >>> 51))) rfl) ?_
 refine rN (Qe ?_)
 refine Qa rfl (Qb (v := (i64 0)) rfl) <| Qa rfl (Qd (r := 0) (i := 0) oM Xg Xh rfl rfl oM oM) <| Qa (v := (u64 (e0 + 19#64))) rfl (Qn X4 rfl rfl m9.h0 (Qx _ _ 0 (by simp))) <| Qa rfl (Kz (b := 2251799813685247#64) rfl rfl) <| Qa rfl (Qd (r := 0) (i := 0) oM Xg Xh rfl rfl oM oM) <| Zw (Zm (f := u64) (l' := [(e0 + 19#64) &&& 2251799813685247#64, e1, e2, e3, e4]) rfl Xl Xh rfl rfl m9.h0 (by simp) (.inl (Nat.zero_le _))) ?_
 rintro _ w10 uq10
 have m10 := m9.upd0 uq10
 refine Zr (Qi (Qe ?_))
 refine Qa (v := (i64 1)) rfl (Qk (a := 0) (b := 1) rfl rfl oM oM) <| Qa rfl (Qb (v := (i64 1)) rfl) ?_
 refine rN (Zq (sR ?_))
 refine Qa rfl (Qs (a := 1) (b := 5) rfl rfl) ?_
 refine rN (Qg ?_)
 refine Zc rfl (by decide) ?_
 refine Q7 (Qh (Qg (Qo (sR ?_))))
 refine Qa rfl (Qb (v := (i64 1)) rfl) <| Qa rfl (Qc (v := (i64 1)) rfl) ?_
 refine rN (sR ?_)
 refine Qa rfl (Qb (v := (i64 1)) rfl) <| Qa rfl (Qd (r := 1) (i := 1) oM Xg Xh rfl rfl oM oM) <| Qa (v := (u64 e1)) rfl (Qn X4 rfl rfl m10.h0 (Qx _ _ 0 (by simp))) <| Qa rfl (Qb (v := (u64 ((e0 + 19#64) >>> 51))) rfl) <| Qa rfl (Y3 rfl rfl) <| Qa rfl (Qd (r := 1) (i := 1) oM Xg Xh rfl rfl oM oM) <| Zw (Zm (f := u64) (l' := [(e0 + 19#64) &&& 2251799813685247#64, e1 + ((e0 + 19#64) >>> 51), e2, e3, e4]) rfl Xl Xh rfl rfl m10.h0 (by simp) (.inl (Nat.zero_le _))) ?_
 rintro _ w11 uq11
 have m11 := m10.upd0 uq11
 refine rN (sR ?_)
 refine Qa rfl (Qb (v := (i64 1)) rfl) <| Qa rfl (Qd (r := 1) (i := 1) oM Xg Xh rfl rfl oM oM) <| Qa (v := (u64 (e1 + ((e0 + 19#64) >>> 51)))) rfl (Qn X4 rfl rfl m11.h0 (Qx _ _ 0 (by simp))) <| Qa rfl (Xy (b := 51) rfl rfl oM) <| Qa rfl (Qc (v := (u64 ((e1 + ((e0 + 19#64) >>> 51)) >>> 51))) rfl) ?_
 refine rN (Qe ?_)
 refine Qa rfl (Qb (v := (i64 1)) rfl) <| Qa rfl (Qd (r := 1) (i := 1) oM Xg Xh rfl rfl oM oM) <| Qa (v := (u64 (e1 + ((e0 + 19#64) >>> 51)))) rfl (Qn X4 rfl rfl m11.h0 (Qx _ _ 0 (by simp))) <| Qa rfl (Kz (b := 2251799813685247#64) rfl rfl) <| Qa rfl (Qd (r := 1) (i := 1) oM Xg Xh rfl rfl oM oM) <| Zw (Zm (f := u64) (l' := [(e0 + 19#64) &&& 2251799813685247#64, (e1 + ((e0 + 19#64) >>> 51)) &&& 2251799813685247#64, e2, e3, e4]) rfl Xl Xh rfl rfl m11.h0 (by simp) (.inl (Nat.zero_le _))) ?_
 rintro _ w12 uq12
 have m12 := m11.upd0 uq12
 refine Zr (Qi (Qe ?_))
 refine Qa (v := (i64 2)) rfl (Qk (a := 1) (b := 1) rfl rfl oM oM) <| Qa rfl (Qb (v := (i64 2)) rfl) ?_
 refine rN (Zq (sR ?_))
 refine Qa rfl (Qs (a := 2) (b := 5) rfl rfl) ?_
 refine rN (Qg ?_)
 refine Zc rfl (by decide) ?_
 refine Q7 (Qh (Qg (Qo (sR ?_))))
 refine Qa rfl (Qb (v := (i64 2)) rfl) <| Qa rfl (Qc (v := (i64 2)) rfl) ?_
 refine rN (sR ?_)
 refine Qa rfl (Qb (v := (i64 2)) rfl) <| Qa rfl (Qd (r := 2) (i := 2) oM Xg Xh rfl rfl oM oM) <| Qa (v := (u64 e2)) rfl (Qn X4 rfl rfl m12.h0 (Qx _ _ 0 (by simp))) <| Qa rfl (Qb (v := (u64 ((e1 + ((e0 + 19#64) >>> 51)) >>> 51))) rfl) <| Qa rfl (Y3 rfl rfl) <| Qa rfl (Qd (r := 2) (i := 2) oM Xg Xh rfl rfl oM oM) <| Zw (Zm (f := u64) (l' := [(e0 + 19#64) &&& 2251799813685247#64, (e1 + ((e0 + 19#64) >>> 51)) &&& 2251799813685247#64, e2 + ((e1 + ((e0 + 19#64) >>> 51)) >>> 51), e3, e4]) rfl Xl Xh rfl rfl m12.h0 (by simp) (.inl (Nat.zero_le _))) ?_
 rintro _ w13 uq13
 have m13 := m12.upd0 uq13
 refine rN (sR ?_)
 refine Qa rfl (Qb (v := (i64 2)) rfl) <| Qa rfl (Qd (r := 2) (i := 2) oM Xg Xh rfl rfl oM oM) <| Qa (v := (u64 (e2 + ((e1 + ((e0 + 19#64) >>> 51)) >>> 51)))) rfl (Qn X4 rfl rfl m13.h0 (Qx _ _ 0 (by simp))) <| Qa rfl (Xy (b := 51) rfl rfl oM) <| Qa rfl (Qc (v := (u64 ((e2 + ((e1 + ((e0 + 19#64) >>> 51)) >>> 51)) >>> 51))) rfl) ?_
 refine rN (Qe ?_)
 refine Qa rfl (Qb (v := (i64 2)) rfl) <| Qa rfl (Qd (r := 2) (i := 2) oM Xg Xh rfl rfl oM oM) <| Qa (v := (u64 (e2 + ((e1 + ((e0 + 19#64) >>> 51)) >>> 51)))) rfl (Qn X4 rfl rfl m13.h0 (Qx _ _ 0 (by simp))) <| Qa rfl (Kz (b := 2251799813685247#64) rfl rfl) <| Qa rfl (Qd (r := 2) (i := 2) oM Xg Xh rfl rfl oM oM) <| Zw (Zm (f := u64) (l' := [(e0 + 19#64) &&& 2251799813685247#64, (e1 + ((e0 + 19#64) >>> 51)) &&& 2251799813685247#64, (e2 + ((e1 + ((e0 + 19#64) >>> 51)) >>> 51)) &&& 2251799813685247#64, e3, e4]) rfl Xl Xh rfl rfl m13.h0 (by simp) (.inl (Nat.zero_le _))) ?_
 rintro _ w14 uq14
 have m14 := m13.upd0 uq14
 refine Zr (Qi (Qe ?_))
 refine Qa (v := (i64 3)) rfl (Qk (a := 2) (b := 1) rfl rfl oM oM) <| Qa rfl (Qb (v := (i64 3)) rfl) ?_
 refine rN (Zq (sR ?_))
 refine Qa rfl (Qs (a := 3) (b := 5) rfl rfl) ?_
 refine rN (Qg ?_)
 refine Zc rfl (by decide) ?_
 refine Q7 (Qh (Qg (Qo (sR ?_))))
 refine Qa rfl (Qb (v := (i64 3)) rfl) <| Qa rfl (Qc (v := (i64 3)) rfl) ?_
 refine rN (sR ?_)
 refine Qa rfl (Qb (v := (i64 3)) rfl) <| Qa rfl (Qd (r := 3) (i := 3) oM Xg Xh rfl rfl oM oM) <| Qa (v := (u64 e3)) rfl (Qn X4 rfl rfl m14.h0 (Qx _ _ 0 (by simp))) <| Qa rfl (Qb (v := (u64 ((e2 + ((e1 + ((e0 + 19#64) >>> 51)) >>> 51)) >>> 51))) rfl) <| Qa rfl (Y3 rfl rfl) <| Qa rfl (Qd (r := 3) (i := 3) oM Xg Xh rfl rfl oM oM) <| Zw (Zm (f := u64) (l' := [(e0 + 19#64) &&& 2251799813685247#64, (e1 + ((e0 + 19#64) >>> 51)) &&& 2251799813685247#64, (e2 + ((e1 + ((e0 + 19#64) >>> 51)) >>> 51)) &&& 2251799813685247#64, e3 + ((e2 + ((e1 + ((e0 + 19#64) >>> 51)) >>> 51)) >>> 51), e4]) rfl Xl Xh rfl rfl m14.h0 (by simp) (.inl (Nat.zero_le _))) ?_
 rintro _ w15 uq15
 have m15 := m14.upd0 uq15
 refine rN (sR ?_)
 refine Qa rfl (Qb (v := (i64 3)) rfl) <| Qa rfl (Qd (r := 3) (i := 3) oM Xg Xh rfl rfl oM oM) <| Qa (v := (u64 (e3 + ((e2 + ((e1 + ((e0 + 19#64) >>> 51)) >>> 51)) >>> 51)))) rfl (Qn X4 rfl rfl m15.h0 (Qx _ _ 0 (by simp))) <| Qa rfl (Xy (b := 51) rfl rfl oM) <| Qa rfl (Qc (v := (u64 ((e3 + ((e2 + ((e1 + ((e0 + 19#64) >>> 51)) >>> 51)) >>> 51)) >>> 51))) rfl) <| rN ?_
 refine CW.abs (fun g => g 0 = (agg u64 e) ∧ g 1 = (ptr b1 0) ∧ g 2 = (ptr b2 0) ∧ g 3 = (ptr b3 0) ∧ g 4 = (u64 ((e3 + ((e2 + ((e1 + ((e0 + 19#64) >>> 51)) >>> 51)) >>> 51)) >>> 51)) ∧ g 5 = (i64 3) ∧ g 10 = (i64 3) ∧ g 11 = (bl true) ∧ True) ⟨rfl, rfl, rfl, rfl, rfl, rfl, rfl, rfl, trivial⟩ ?_
 rintro fr16 ⟨s0, s1, s2, s3, s4, s5, s10, s11, _⟩
 refine Qe <| rM rfl s5 <| Qa rfl (Qd (r := 3) (i := 3) oM Xg Xh s3 rfl oM oM) <| Qa (v := (u64 (e3 + ((e2 + ((e1 + ((e0 + 19#64) >>> 51)) >>> 51)) >>> 51)))) rfl (Qn X4 rfl rfl m15.h0 (Qx _ _ 0 (by simp))) <| Qa rfl (Kz (b := 2251799813685247#64) rfl rfl) <| Qa rfl (Qd (r := 3) (i := 3) oM Xg Xh s3 rfl oM oM) <| Zw (Zm (f := u64) (l' := [(e0 + 19#64) &&& 2251799813685247#64, (e1 + ((e0 + 19#64) >>> 51)) &&& 2251799813685247#64, (e2 + ((e1 + ((e0 + 19#64) >>> 51)) >>> 51)) &&& 2251799813685247#64, (e3 + ((e2 + ((e1 + ((e0 + 19#64) >>> 51)) >>> 51)) >>> 51)) &&& 2251799813685247#64, e4]) rfl Xl Xh rfl rfl m15.h0 (by simp) (.inl (Nat.zero_le _))) ?_
 rintro _ w17 uq17
 have m17 := m15.upd0 uq17
 refine Zr (Qi (Qe ?_))
 refine Qa (v := (i64 4)) rfl (Qk (a := 3) (b := 1) s10 rfl oM oM) <| Qa rfl (Qb (v := (i64 4)) rfl) ?_
 refine rN (Zq (sR ?_))
 refine Qa rfl (Qs (a := 4) (b := 5) rfl rfl) ?_
 refine rN (Qg ?_)
 refine Zc rfl (by decide) ?_
 refine Q7 (Qh (Qg (Qo (sR ?_))))
 refine Qa rfl (Qb (v := (i64 4)) rfl) <| Qa rfl (Qc (v := (i64 4)) rfl) ?_
 refine rN (sR ?_)
 refine Qa rfl (Qb (v := (i64 4)) rfl) <| Qa rfl (Qd (r := 4) (i := 4) oM Xg Xh s3 rfl oM oM) <| Qa (v := (u64 e4)) rfl (Qn X4 rfl rfl m17.h0 (Qx _ _ 0 (by simp))) <| rM rfl s4 <| Qa rfl (Y3 rfl rfl) <| Qa rfl (Qd (r := 4) (i := 4) oM Xg Xh s3 rfl oM oM) <| Zw (Zm (f := u64) (l' := [(e0 + 19#64) &&& 2251799813685247#64, (e1 + ((e0 + 19#64) >>> 51)) &&& 2251799813685247#64, (e2 + ((e1 + ((e0 + 19#64) >>> 51)) >>> 51)) &&& 2251799813685247#64, (e3 + ((e2 + ((e1 + ((e0 + 19#64) >>> 51)) >>> 51)) >>> 51)) &&& 2251799813685247#64, e4 + ((e3 + ((e2 + ((e1 + ((e0 + 19#64) >>> 51)) >>> 51)) >>> 51)) >>> 51)]) rfl Xl Xh rfl rfl m17.h0 (by simp) (.inl (Nat.zero_le _))) ?_
 rintro _ w18 uq18
 have m18 := m17.upd0 uq18
 refine rN (sR ?_)
 refine Qa rfl (Qb (v := (i64 4)) rfl) <| Qa rfl (Qd (r := 4) (i := 4) oM Xg Xh s3 rfl oM oM) <| Qa (v := (u64 (e4 + ((e3 + ((e2 + ((e1 + ((e0 + 19#64) >>> 51)) >>> 51)) >>> 51)) >>> 51)))) rfl (Qn X4 rfl rfl m18.h0 (Qx _ _ 0 (by simp))) <| Qa rfl (Xy (b := 51) rfl rfl oM) <| rA rfl rfl ?_
 refine rN (Qe ?_)
 refine Qa rfl (Qb (v := (i64 4)) rfl) <| Qa rfl (Qd (r := 4) (i := 4) oM Xg Xh s3 rfl oM oM) <| Qa (v := (u64 (e4 + ((e3 + ((e2 + ((e1 + ((e0 + 19#64) >>> 51)) >>> 51)) >>> 51)) >>> 51)))) rfl (Qn X4 rfl rfl m18.h0 (Qx _ _ 0 (by simp))) <| Qa rfl (Kz (b := 2251799813685247#64) rfl rfl) <| Qa rfl (Qd (r := 4) (i := 4) oM Xg Xh s3 rfl oM oM) <| Zw (Zm (f := u64) (l' := [(e0 + 19#64) &&& 2251799813685247#64, (e1 + ((e0 + 19#64) >>> 51)) &&& 2251799813685247#64, (e2 + ((e1 + ((e0 + 19#64) >>> 51)) >>> 51)) &&& 2251799813685247#64, (e3 + ((e2 + ((e1 + ((e0 + 19#64) >>> 51)) >>> 51)) >>> 51)) &&& 2251799813685247#64, (e4 + ((e3 + ((e2 + ((e1 + ((e0 + 19#64) >>> 51)) >>> 51)) >>> 51)) >>> 51)) &&& 2251799813685247#64]) rfl Xl Xh rfl rfl m18.h0 (by simp) (.inl (Nat.zero_le _))) ?_
 rintro _ w19 uq19
 have m19 := m18.upd0 uq19
 refine Zr (Qi (Qe ?_))
 refine Qa (v := (i64 5)) rfl (Qk (a := 4) (b := 1) rfl rfl oM oM) <| Qa rfl (Qb (v := (i64 5)) rfl) ?_
 refine rN (Zq (sR ?_))
 refine Qa rfl (Qs (a := 5) (b := 5) rfl rfl) ?_
 refine rN (Qg ?_)
 refine Yp rfl (by decide) <| X0 ?_
 refine Qr (Qr (Xf ?_))
 refine Qg (sR ?_)
 refine rM rfl rfl <| Qa rfl (Qlr (b := 0#64) rfl rfl) <| rN ?_
 refine Xv rfl (fun hc20 => ?_) (fun hc20 => ?_)
 ·
  have hc20p := of_decide_eq_true hc20
  refine Qe <| Qa rfl (Qw Xg rfl Ya s3 m19.h0 sZ) <| Zw (Qm (f := u64) (l := [(e0 + 19#64) &&& 2251799813685247#64, (e1 + ((e0 + 19#64) >>> 51)) &&& 2251799813685247#64, (e2 + ((e1 + ((e0 + 19#64) >>> 51)) >>> 51)) &&& 2251799813685247#64, (e3 + ((e2 + ((e1 + ((e0 + 19#64) >>> 51)) >>> 51)) >>> 51)) &&& 2251799813685247#64, (e4 + ((e3 + ((e2 + ((e1 + ((e0 + 19#64) >>> 51)) >>> 51)) >>> 51)) >>> 51)) &&& 2251799813685247#64]) Xl Ya s1 rfl sD m19.h2 sZ rfl) ?_
  rintro _ w21 uq21
  have m21 := m19.upd2 uq21
  refine rN (Qg (Qg ?_))
  have hwq : [(e0 + 19#64) &&& 2251799813685247#64, (e1 + ((e0 + 19#64) >>> 51)) &&& 2251799813685247#64, (e2 + ((e1 + ((e0 + 19#64) >>> 51)) >>> 51)) &&& 2251799813685247#64, (e3 + ((e2 + ((e1 + ((e0 + 19#64) >>> 51)) >>> 51)) >>> 51)) &&& 2251799813685247#64, (e4 + ((e3 + ((e2 + ((e1 + ((e0 + 19#64) >>> 51)) >>> 51)) >>> 51)) >>> 51)) &&& 2251799813685247#64] = Vr e := by unfold Vr; rw [hce]; exact (if_pos (of_decide_eq_true hc20)).symm
  have hmW22 := m21
  rw [hwq] at hmW22
  have hwl := Qbz he
  refine Qe <| Qa rfl (Qb (v := (i64 0)) rfl) ?_
  refine rN (Qo ?_)
  refine Yo (fun g wv => ∃ (i : Nat), (i ≤ 255) ∧ g 0 = (agg u64 e) ∧ g 1 = (ptr b1 0) ∧ g 2 = (ptr b2 0) ∧ g 3 = (ptr b3 0) ∧ g 4 = (u64 ((e4 + ((e3 + ((e2 + ((e1 + ((e0 + 19#64) >>> 51)) >>> 51)) >>> 51)) >>> 51)) >>> 51)) ∧ g 5 = (i64 4) ∧ g 10 = (i64 5) ∧ g 11 = (bl false) ∧ g 30 = (bl (decide ((0#64).toNat < ((e4 + ((e3 + ((e2 + ((e1 + ((e0 + 19#64) >>> 51)) >>> 51)) >>> 51)) >>> 51)) >>> 51).toNat))) ∧ g 32 = (i64 (i : Int)) ∧ Mem wv (Qy w0) [(b3, .cells (cl u64 (Vr e)) 126 (0, 0)), (b2, .cells (cl u8 (Vl (Vr e) i)) 23 (0, 0)), (b1, .cells (cl u64 (Vr e)) 126 (0, 0))]) (fun g wv => (255 - RowKit.intOf (g 32)).toNat) ?_ ?_
  ·exact ⟨0, oM, s0, s1, s2, s3, rfl, rfl, rfl, rfl, rfl, rfl, (by rw [Qco]; exact hmW22)⟩
  rintro fr23 w24 ⟨i, hi, s0, s1, s2, s3, s4, s5, s10, s11, s30, s32, m24⟩
  have z32 := s32
  have hgl := G5 (Vr e) i
  refine sR <| Qa rfl (Qs (b := 255) s32 rfl) ?_
  refine rN (Qg ?_)
  refine Xv rfl (fun hc25 => ?_) (fun hc25 => ?_)
  ·
   have hc25p := of_decide_eq_true hc25
   refine Q7 (Qh (Qg (Qo (sR ?_))))
   refine rM rfl s32 <| Qa rfl (Qc (v := (i64 (i : Int))) rfl) <| rN <| Xq (dl 16) 16 (by kernel_rfl) <| Qj rfl rfl (fun _ _hx => Qb (v := (i64 (i : Int))) rfl) <| Qj rfl rfl (fun _ _hx => Jf.cast (congrArg i64 (show (i : Int) / 8 = ((i / 8 : Nat) : Int) by omega)) (Wy (b := 8) rfl rfl oM oM oM)) <| Qj rfl rfl (fun _ _hx => Qd (r := (i / 8)) oM X3 X6 s2 rfl oM sD) <| Qj (v := (u8 ((Vl (Vr e) i).getD (i / 8) 0))) rfl rfl (fun _ _hx => Qn Vm rfl rfl (m24.ext _hx).h1 (Qx _ _ 0 sD)) <| Qj rfl rfl (fun _ _hx => Qb (v := (i64 (i : Int))) rfl) <| Qj rfl rfl (fun _ _hx => Jf.cast (congrArg i64 (show (i : Int) / 51 = ((i / 51 : Nat) : Int) by omega)) (Wy (b := 51) rfl rfl oM oM oM)) <| Qj rfl rfl (fun _ _hx => Qd (r := (i / 51)) oM Xg Xh s1 rfl oM sD) <| Qj (v := (u64 ((Vr e).getD (i / 51) 0))) rfl rfl (fun _ _hx => Qn X4 rfl rfl (m24.ext _hx).h2 (Qx _ _ 0 sD)) ?_
   refine Qj rfl rfl (fun _ _hx => Qb (v := (i64 (i : Int))) rfl) <| Qj rfl rfl (fun _ _hx => Jf.cast (congrArg i64 (show (i : Int) % 51 = ((i % 51 : Nat) : Int) by omega)) (Jy (b := 51) rfl rfl oM oM oM)) <| Qj rfl rfl (fun _ _hx => Xy rfl rfl oM) <| Qj rfl rfl (fun _ _hx => Kz (b := 1#64) rfl rfl) <| Qj rfl rfl (fun _ _hx => Xw ⟨_, X4⟩ Vm rfl) <| Qj rfl rfl (fun _ _hx => Qb (v := (i64 (i : Int))) rfl) <| Qj rfl rfl (fun _ _hx => Jf.cast (congrArg i64 (show (i : Int) % 8 = ((i % 8 : Nat) : Int) by omega)) (Jy (b := 8) rfl rfl oM oM oM)) <| Qj rfl rfl (fun _ _hx => Qh0 rfl rfl oM) ?_
   refine Xd (fun w26 _ew26 => ?_)
   have m26 := m24.ext _ew26
   refine Qa rfl (Qgc rfl rfl) <| Qa rfl (Qd (r := (i / 8)) oM X3 X6 s2 rfl oM sD) <| Zw (Xn (f := u8) (a := ((Vl (Vr e) i).getD (i / 8) 0) ||| ((((((Vr e).getD (i / 51) 0) >>> ((i % 51 : Nat) : Int).toNat) &&& 1#64).setWidth 8) <<< ((i % 8 : Nat) : Int).toNat)) Qu X6 rfl rfl m26.h1 sD (.inl (Nat.zero_le _))) ?_
   rintro _ w27 uq27
   have m27 := m26.upd1 uq27
   refine Zr (Qi (Qe ?_))
   refine Qa rfl (Qk (b := 1) s32 rfl oM oM) <| Qa rfl (Qb (v := (i64 ((i : Int) + 1))) rfl) <| rN ?_
   exact ⟨⟨i + 1, oM, s0, s1, s2, s3, s4, s5, s10, s11, s30, rfl, (by rw [Qcp]; exact m27)⟩, Gl rfl z32 oM oM⟩
  ·
   have hc25p := of_decide_eq_false hc25
   obtain rfl : i = 255 := by omega
   have hgl := G5 (Vr e) 255
   refine X0 ?_
   refine Qr (Qr (Xf ?_))
   refine sR <| Qa rfl (Qw X3 rfl Z9 s2 m24.h1 sZ) <| Zw (Qm (f := u8) (l := Vl (Vr e) 255) Qu Z9 s2 rfl sD m24.h1 sZ rfl) ?_
   rintro _ w28 uq28
   have m28 := m24.upd1 uq28
   refine rN (Xt ?_)
   refine Ze [(agg u8 (Vl (Vr e) 255))] ⟨⟨_, s2, Xo X3 rfl Z9 m28.h1 sZ⟩, trivial⟩ ?_
   exact ⟨by unfold Nz; rfl, m28.toExt⟩
 ·
  have hc20p := of_decide_eq_false hc20
  refine Q7 (Qh (Qg (Qg ?_)))
  have hwq : [e0, e1, e2, e3, e4] = Vr e := by unfold Vr; rw [hce]; exact (if_neg (of_decide_eq_false hc20)).symm
  have hmW29 := m19
  rw [hwq] at hmW29
  have hwl := Qbz he
  refine Qe <| Qa rfl (Qb (v := (i64 0)) rfl) ?_
  refine rN (Qo ?_)
  refine Yo (fun g wv => ∃ (i : Nat), (i ≤ 255) ∧ g 0 = (agg u64 e) ∧ g 1 = (ptr b1 0) ∧ g 2 = (ptr b2 0) ∧ g 3 = (ptr b3 0) ∧ g 4 = (u64 ((e4 + ((e3 + ((e2 + ((e1 + ((e0 + 19#64) >>> 51)) >>> 51)) >>> 51)) >>> 51)) >>> 51)) ∧ g 5 = (i64 4) ∧ g 10 = (i64 5) ∧ g 11 = (bl false) ∧ g 30 = (bl (decide ((0#64).toNat < ((e4 + ((e3 + ((e2 + ((e1 + ((e0 + 19#64) >>> 51)) >>> 51)) >>> 51)) >>> 51)) >>> 51).toNat))) ∧ g 32 = (i64 (i : Int)) ∧ Mem wv (Qy w0) [(b3, .cells (cl u64 ([(e0 + 19#64) &&& 2251799813685247#64, (e1 + ((e0 + 19#64) >>> 51)) &&& 2251799813685247#64, (e2 + ((e1 + ((e0 + 19#64) >>> 51)) >>> 51)) &&& 2251799813685247#64, (e3 + ((e2 + ((e1 + ((e0 + 19#64) >>> 51)) >>> 51)) >>> 51)) &&& 2251799813685247#64, (e4 + ((e3 + ((e2 + ((e1 + ((e0 + 19#64) >>> 51)) >>> 51)) >>> 51)) >>> 51)) &&& 2251799813685247#64])) 126 (0, 0)), (b2, .cells (cl u8 (Vl (Vr e) i)) 23 (0, 0)), (b1, .cells (cl u64 (Vr e)) 126 (0, 0))]) (fun g wv => (255 - RowKit.intOf (g 32)).toNat) ?_ ?_
  ·exact ⟨0, oM, s0, s1, s2, s3, rfl, rfl, rfl, rfl, rfl, rfl, (by rw [Qco]; exact hmW29)⟩
  rintro fr30 w31 ⟨i, hi, s0, s1, s2, s3, s4, s5, s10, s11, s30, s32, m31⟩
  have z32 := s32
  have hgl := G5 (Vr e) i
  refine sR <| Qa rfl (Qs (b := 255) s32 rfl) ?_
  refine rN (Qg ?_)
  refine Xv rfl (fun hc32 => ?_) (fun hc32 => ?_)
  ·
   have hc32p := of_decide_eq_true hc32
   refine Q7 (Qh (Qg (Qo (sR ?_))))
   refine rM rfl s32 <| Qa rfl (Qc (v := (i64 (i : Int))) rfl) <| rN <| Xq (dl 16) 16 (by kernel_rfl) <| Qj rfl rfl (fun _ _hx => Qb (v := (i64 (i : Int))) rfl) <| Qj rfl rfl (fun _ _hx => Jf.cast (congrArg i64 (show (i : Int) / 8 = ((i / 8 : Nat) : Int) by omega)) (Wy (b := 8) rfl rfl oM oM oM)) <| Qj rfl rfl (fun _ _hx => Qd (r := (i / 8)) oM X3 X6 s2 rfl oM sD) <| Qj (v := (u8 ((Vl (Vr e) i).getD (i / 8) 0))) rfl rfl (fun _ _hx => Qn Vm rfl rfl (m31.ext _hx).h1 (Qx _ _ 0 sD)) <| Qj rfl rfl (fun _ _hx => Qb (v := (i64 (i : Int))) rfl) <| Qj rfl rfl (fun _ _hx => Jf.cast (congrArg i64 (show (i : Int) / 51 = ((i / 51 : Nat) : Int) by omega)) (Wy (b := 51) rfl rfl oM oM oM)) <| Qj rfl rfl (fun _ _hx => Qd (r := (i / 51)) oM Xg Xh s1 rfl oM sD) <| Qj (v := (u64 ((Vr e).getD (i / 51) 0))) rfl rfl (fun _ _hx => Qn X4 rfl rfl (m31.ext _hx).h2 (Qx _ _ 0 sD)) ?_
   refine Qj rfl rfl (fun _ _hx => Qb (v := (i64 (i : Int))) rfl) <| Qj rfl rfl (fun _ _hx => Jf.cast (congrArg i64 (show (i : Int) % 51 = ((i % 51 : Nat) : Int) by omega)) (Jy (b := 51) rfl rfl oM oM oM)) <| Qj rfl rfl (fun _ _hx => Xy rfl rfl oM) <| Qj rfl rfl (fun _ _hx => Kz (b := 1#64) rfl rfl) <| Qj rfl rfl (fun _ _hx => Xw ⟨_, X4⟩ Vm rfl) <| Qj rfl rfl (fun _ _hx => Qb (v := (i64 (i : Int))) rfl) <| Qj rfl rfl (fun _ _hx => Jf.cast (congrArg i64 (show (i : Int) % 8 = ((i % 8 : Nat) : Int) by omega)) (Jy (b := 8) rfl rfl oM oM oM)) <| Qj rfl rfl (fun _ _hx => Qh0 rfl rfl oM) ?_
   refine Xd (fun w33 _ew33 => ?_)
   have m33 := m31.ext _ew33
   refine Qa rfl (Qgc rfl rfl) <| Qa rfl (Qd (r := (i / 8)) oM X3 X6 s2 rfl oM sD) <| Zw (Xn (f := u8) (a := ((Vl (Vr e) i).getD (i / 8) 0) ||| ((((((Vr e).getD (i / 51) 0) >>> ((i % 51 : Nat) : Int).toNat) &&& 1#64).setWidth 8) <<< ((i % 8 : Nat) : Int).toNat)) Qu X6 rfl rfl m33.h1 sD (.inl (Nat.zero_le _))) ?_
   rintro _ w34 uq34
   have m34 := m33.upd1 uq34
   refine Zr (Qi (Qe ?_))
   refine Qa rfl (Qk (b := 1) s32 rfl oM oM) <| Qa rfl (Qb (v := (i64 ((i : Int) + 1))) rfl) <| rN ?_
   exact ⟨⟨i + 1, oM, s0, s1, s2, s3, s4, s5, s10, s11, s30, rfl, (by rw [Qcp]; exact m34)⟩, Gl rfl z32 oM oM⟩
  ·
   have hc32p := of_decide_eq_false hc32
   obtain rfl : i = 255 := by omega
   have hgl := G5 (Vr e) 255
   refine X0 ?_
   refine Qr (Qr (Xf ?_))
   refine sR <| Qa rfl (Qw X3 rfl Z9 s2 m31.h1 sZ) <| Zw (Qm (f := u8) (l := Vl (Vr e) 255) Qu Z9 s2 rfl sD m31.h1 sZ rfl) ?_
   rintro _ w35 uq35
   have m35 := m31.upd1 uq35
   refine rN (Xt ?_)
   refine Ze [(agg u8 (Vl (Vr e) 255))] ⟨⟨_, s2, Xo X3 rfl Z9 m35.h1 sZ⟩, trivial⟩ ?_
   exact ⟨by unfold Nz; rfl, m35.toExt⟩
set_option maxHeartbeats 1000000 in
theorem Qm1 (px pz qx qz x1 : List (BitVec 64)) (w0 : World)  (hpx : px.length = 5) (hpz : pz.length = 5) (hqx : qx.length = 5) (hqz : qz.length = 5) (hx1 : x1.length = 5) : Xz Tryd.prog 80 #[(Value.agg (Zl [px.map u64, pz.map u64])), (Value.agg (Zl [qx.map u64, qz.map u64])), (agg u64 x1)] w0 (fun r w1 => r = (Value.tuple #[(Value.agg (Zl [((Eg px pz qx qz x1).px).map u64, ((Eg px pz qx qz x1).pz).map u64])), (Value.agg (Zl [((Eg px pz qx qz x1).qx).map u64, ((Eg px pz qx qz x1).qz).map u64]))]) ∧ Ext w0 w1) := by
 refine Zd (args := [(Value.agg (Zl [px.map u64, pz.map u64])), (Value.agg (Zl [qx.map u64, qz.map u64])), (agg u64 x1)]) Tryd.func80 rfl Tryd.ntmps80 Tryd.results80 rfl ?_
 have m0 : Mem w0 (Qy w0) [] := Mem.of_world w0
 have hl0 := Pj hpx hpz
 have hl1 := Lj hpx hpz
 have hl2 := Pj hqx hqz
 have hl3 := Lj hqx hqz
 have hl4 := Lj (Ku (Zx px pz) (Zx px pz)) (Ku (Zf px pz) (Zf px pz))
 have hl5 := Pj (Ku (Zf qx qz) (Zx px pz)) (Ku (Zx qx qz) (Zf px pz))
 have hl6 := Lj (Ku (Zf qx qz) (Zx px pz)) (Ku (Zx qx qz) (Zf px pz))
 have hl7 := Pj (Ku (Zx px pz) (Zx px pz)) (Ku [121665#64, 0#64, 0#64, 0#64, 0#64] (Zf (Qq (Zx px pz) (Zx px pz)) (Qq (Zf px pz) (Zf px pz))))
 refine sR <| Za rfl (Gx (cs := (Zl [px.map u64, pz.map u64])) m0 rfl) ?_
 rintro _ w1 ⟨b3, rfl, e1, m1⟩
 refine Za rfl (Gx (cs := (Zl [qx.map u64, qz.map u64])) m1 rfl) ?_
 rintro _ w2 ⟨b4, rfl, e2, m2⟩
 refine Za rfl (Z8 (f := u64) (l := x1) m2 rfl) ?_
 rintro _ w3 ⟨b5, rfl, e3, m3⟩
 refine Za rfl (Yj m3 Fp) ?_
 rintro _ w4 ⟨b6, rfl, e4, m4⟩
 refine Za rfl (Yj m4 Fp) ?_
 rintro _ w5 ⟨b7, rfl, e5, m5⟩
 refine rN (Qg ?_)
 refine Jz (by kernel_rfl) ?_
 refine Qc2 [10, 11] (dl 10) 12 (luN [(10, 8), (11, 9)]) (luN [(10, 126), (11, 126)]) (luV [(10, (agg u64 (List.replicate 5 0))), (11, (agg u64 (List.replicate 5 0)))]) (fun g => g 0 = (Value.agg (Zl [px.map u64, pz.map u64])) ∧ g 1 = (Value.agg (Zl [qx.map u64, qz.map u64])) ∧ g 2 = (agg u64 x1) ∧ g 3 = (ptr b3 0) ∧ g 4 = (ptr b4 0) ∧ g 5 = (ptr b5 0) ∧ g 6 = (ptr b6 0) ∧ g 7 = (ptr b7 0) ∧ g 24 = (agg u64 (Zx px pz)) ∧ g 29 = (agg u64 (Zf px pz)) ∧ True) m5 (J5 ⟨⟨_, _, _, rfl⟩, rfl, _, _, Ya⟩ (J5 ⟨⟨_, _, _, rfl⟩, rfl, _, _, Ya⟩ N7)) (fun sx6 hS6 => ?_) ?_
 ·skip
  refine Qj rfl rfl (fun _ _hx => Xi (r := 0) Dn rfl (by first | rfl | omega) Ya rfl rfl) <| Qj rfl rfl (fun _ _hx => Vk 0 Xg Ya rfl (m5.ext _hx).h4 rfl) <| Qj rfl rfl (fun _ _hx => Xi (r := 5) Dn rfl (by first | rfl | omega) Ya rfl rfl) <| Qj rfl rfl (fun _ _hx => Vk 1 Xg Ya rfl (m5.ext _hx).h4 rfl) <| Kv rfl rfl (fun w7 e7 => oc97 (Xr rfl rfl) (Qi9 _ _ _ sD sD)) <| Qj rfl rfl (fun _ _hx => Xi (r := 0) Dn rfl (by first | rfl | omega) Ya rfl rfl) <| Qj rfl rfl (fun _ _hx => Vk 0 Xg Ya rfl (m5.ext _hx).h4 rfl) <| Qj rfl rfl (fun _ _hx => Xi (r := 5) Dn rfl (by first | rfl | omega) Ya rfl rfl) <| Qj rfl rfl (fun _ _hx => Vk 1 Xg Ya rfl (m5.ext _hx).h4 rfl) <| Kv rfl rfl (fun w10 e10 => oc98 (Xr rfl rfl) (Qfg _ _ _ sD sD)) ?_
  exact hS6 _ ⟨rfl, rfl, rfl, rfl, rfl, rfl, rfl, rfl, rfl, rfl, trivial⟩
 rintro g13 ⟨s0, s1, s2, s3, s4, s5, s6, s7, s24, s29, _⟩ w15 ps15 hmm15
 have m15 : Mem _ _ [((ps15 10), .cells (cl u64 (List.replicate 5 0)) 126 (0, 0)), ((ps15 11), .cells (cl u64 (List.replicate 5 0)) 126 (0, 0)), _, _, _, _, _] := hmm15
 show RW _ _ _ _ _ (upd (upd g13 9 (ptr (ps15 11) 0)) 8 (ptr (ps15 10) 0)) _
 generalize ps15 10 = b8, ps15 11 = b9 at m15 ⊢
 refine Zw (Qm (f := u64) (l := Zx px pz) Xl Ya rfl s24 sD m15.h0 sZ rfl) ?_
 rintro _ w16 uq16
 have m16 := m15.upd0 uq16
 refine Zw (Qm (f := u64) (l := Zf px pz) Xl Ya rfl s29 sD m16.h1 sZ rfl) ?_
 rintro _ w17 uq17
 have m17 := m16.upd1 uq17
 refine rN (Qg ?_)
 refine Jz (by kernel_rfl) ?_
 refine Qc2 [10, 11] (dl 10) 12 (luN [(10, 10), (11, 11)]) (luN [(10, 126), (11, 126)]) (luV [(10, (agg u64 (List.replicate 5 0))), (11, (agg u64 (List.replicate 5 0)))]) (fun g => g 0 = (Value.agg (Zl [px.map u64, pz.map u64])) ∧ g 1 = (Value.agg (Zl [qx.map u64, qz.map u64])) ∧ g 2 = (agg u64 x1) ∧ g 3 = (ptr b3 0) ∧ g 4 = (ptr b4 0) ∧ g 5 = (ptr b5 0) ∧ g 6 = (ptr b6 0) ∧ g 7 = (ptr b7 0) ∧ g 8 = (ptr b8 0) ∧ g 9 = (ptr b9 0) ∧ g 34 = (agg u64 (Zx qx qz)) ∧ g 39 = (agg u64 (Zf qx qz)) ∧ True) m17 (J5 ⟨⟨_, _, _, rfl⟩, rfl, _, _, Ya⟩ (J5 ⟨⟨_, _, _, rfl⟩, rfl, _, _, Ya⟩ N7)) (fun sx18 hS18 => ?_) ?_
 ·skip
  refine Qj rfl rfl (fun _ _hx => Xi (r := 0) Dn rfl (by first | rfl | omega) Ya rfl s4) <| Qj rfl rfl (fun _ _hx => Vk 0 Xg Ya rfl (m17.ext _hx).h5 rfl) <| Qj rfl rfl (fun _ _hx => Xi (r := 5) Dn rfl (by first | rfl | omega) Ya rfl s4) <| Qj rfl rfl (fun _ _hx => Vk 1 Xg Ya rfl (m17.ext _hx).h5 rfl) <| Kv rfl rfl (fun w19 e19 => oc97 (Xr rfl rfl) (Qi9 _ _ _ sD sD)) <| Qj rfl rfl (fun _ _hx => Xi (r := 0) Dn rfl (by first | rfl | omega) Ya rfl s4) <| Qj rfl rfl (fun _ _hx => Vk 0 Xg Ya rfl (m17.ext _hx).h5 rfl) <| Qj rfl rfl (fun _ _hx => Xi (r := 5) Dn rfl (by first | rfl | omega) Ya rfl s4) <| Qj rfl rfl (fun _ _hx => Vk 1 Xg Ya rfl (m17.ext _hx).h5 rfl) <| Kv rfl rfl (fun w22 e22 => oc98 (Xr rfl rfl) (Qfg _ _ _ sD sD)) ?_
  exact hS18 _ ⟨s0, s1, s2, s3, s4, s5, s6, s7, rfl, rfl, rfl, rfl, trivial⟩
 rintro g25 ⟨s0, s1, s2, s3, s4, s5, s6, s7, s8, s9, s34, s39, _⟩ w27 ps27 hmm27
 have m27 : Mem _ _ [((ps27 10), .cells (cl u64 (List.replicate 5 0)) 126 (0, 0)), ((ps27 11), .cells (cl u64 (List.replicate 5 0)) 126 (0, 0)), _, _, _, _, _, _, _] := hmm27
 show RW _ _ _ _ _ (upd (upd g25 11 (ptr (ps27 11) 0)) 10 (ptr (ps27 10) 0)) _
 generalize ps27 10 = b10, ps27 11 = b11 at m27 ⊢
 refine Zw (Qm (f := u64) (l := Zx qx qz) Xl Ya rfl s34 sD m27.h0 sZ rfl) ?_
 rintro _ w28 uq28
 have m28 := m27.upd0 uq28
 refine Zw (Qm (f := u64) (l := Zf qx qz) Xl Ya rfl s39 sD m28.h1 sZ rfl) ?_
 rintro _ w29 uq29
 have m29 := m28.upd1 uq29
 refine rN (Qg ?_)
 refine Jz (by kernel_rfl) ?_
 refine Qc2 [6, 7] (dl 6) 8 (luN [(6, 12), (7, 13)]) (luN [(6, 126), (7, 126)]) (luV [(6, (agg u64 (List.replicate 5 0))), (7, (agg u64 (List.replicate 5 0)))]) (fun g => g 0 = (Value.agg (Zl [px.map u64, pz.map u64])) ∧ g 1 = (Value.agg (Zl [qx.map u64, qz.map u64])) ∧ g 2 = (agg u64 x1) ∧ g 3 = (ptr b3 0) ∧ g 4 = (ptr b4 0) ∧ g 5 = (ptr b5 0) ∧ g 6 = (ptr b6 0) ∧ g 7 = (ptr b7 0) ∧ g 8 = (ptr b8 0) ∧ g 9 = (ptr b9 0) ∧ g 10 = (ptr b10 0) ∧ g 11 = (ptr b11 0) ∧ g 42 = (agg u64 (Qq (Zf qx qz) (Zx px pz))) ∧ g 45 = (agg u64 (Qq (Zx qx qz) (Zf px pz))) ∧ True) m29 (J5 ⟨⟨_, _, _, rfl⟩, rfl, _, _, Ya⟩ (J5 ⟨⟨_, _, _, rfl⟩, rfl, _, _, Ya⟩ N7)) (fun sx30 hS30 => ?_) ?_
 ·skip
  refine Qj rfl rfl (fun _ _hx => Qw Xg rfl Ya rfl (m29.ext _hx).h1 sZ) <| Qj rfl rfl (fun _ _hx => Qw Xg rfl Ya s8 (m29.ext _hx).h2 sZ) <| Kv rfl rfl (fun w31 e31 => Qd4 (Xr rfl rfl) (U6 _ _ _ sD sD)) <| Qj rfl rfl (fun _ _hx => Qw Xg rfl Ya rfl (m29.ext _hx).h0 sZ) <| Qj rfl rfl (fun _ _hx => Qw Xg rfl Ya s9 (m29.ext _hx).h3 sZ) <| Kv rfl rfl (fun w34 e34 => Qd4 (Xr rfl rfl) (U6 _ _ _ sD sD)) ?_
  exact hS30 _ ⟨s0, s1, s2, s3, s4, s5, s6, s7, s8, s9, rfl, rfl, rfl, rfl, trivial⟩
 rintro g37 ⟨s0, s1, s2, s3, s4, s5, s6, s7, s8, s9, s10, s11, s42, s45, _⟩ w39 ps39 hmm39
 have m39 : Mem _ _ [((ps39 6), .cells (cl u64 (List.replicate 5 0)) 126 (0, 0)), ((ps39 7), .cells (cl u64 (List.replicate 5 0)) 126 (0, 0)), _, _, _, _, _, _, _, _, _] := hmm39
 show RW _ _ _ _ _ (upd (upd g37 13 (ptr (ps39 7) 0)) 12 (ptr (ps39 6) 0)) _
 generalize ps39 6 = b12, ps39 7 = b13 at m39 ⊢
 refine Zw (Qm (f := u64) (l := Qq (Zf qx qz) (Zx px pz)) Xl Ya rfl s42 sD m39.h0 sZ rfl) ?_
 rintro _ w40 uq40
 have m40 := m39.upd0 uq40
 refine Zw (Qm (f := u64) (l := Qq (Zx qx qz) (Zf px pz)) Xl Ya rfl s45 sD m40.h1 sZ rfl) ?_
 rintro _ w41 uq41
 have m41 := m40.upd1 uq41
 refine rN (Qg ?_)
 refine Jz (by kernel_rfl) ?_
 refine Qc2 [6, 7] (dl 6) 8 (luN [(6, 14), (7, 15)]) (luN [(6, 126), (7, 126)]) (luV [(6, (agg u64 (List.replicate 5 0))), (7, (agg u64 (List.replicate 5 0)))]) (fun g => g 0 = (Value.agg (Zl [px.map u64, pz.map u64])) ∧ g 1 = (Value.agg (Zl [qx.map u64, qz.map u64])) ∧ g 2 = (agg u64 x1) ∧ g 3 = (ptr b3 0) ∧ g 4 = (ptr b4 0) ∧ g 5 = (ptr b5 0) ∧ g 6 = (ptr b6 0) ∧ g 7 = (ptr b7 0) ∧ g 8 = (ptr b8 0) ∧ g 9 = (ptr b9 0) ∧ g 10 = (ptr b10 0) ∧ g 11 = (ptr b11 0) ∧ g 12 = (ptr b12 0) ∧ g 13 = (ptr b13 0) ∧ g 48 = (agg u64 (Qq (Zx px pz) (Zx px pz))) ∧ g 51 = (agg u64 (Qq (Zf px pz) (Zf px pz))) ∧ True) m41 (J5 ⟨⟨_, _, _, rfl⟩, rfl, _, _, Ya⟩ (J5 ⟨⟨_, _, _, rfl⟩, rfl, _, _, Ya⟩ N7)) (fun sx42 hS42 => ?_) ?_
 ·skip
  refine Qj rfl rfl (fun _ _hx => Qw Xg rfl Ya s8 (m41.ext _hx).h4 sZ) <| Qj rfl rfl (fun _ _hx => Qw Xg rfl Ya s8 (m41.ext _hx).h4 sZ) <| Kv rfl rfl (fun w43 e43 => Qd4 (Xr rfl rfl) (U6 _ _ _ sD sD)) <| Qj rfl rfl (fun _ _hx => Qw Xg rfl Ya s9 (m41.ext _hx).h5 sZ) <| Qj rfl rfl (fun _ _hx => Qw Xg rfl Ya s9 (m41.ext _hx).h5 sZ) <| Kv rfl rfl (fun w46 e46 => Qd4 (Xr rfl rfl) (U6 _ _ _ sD sD)) ?_
  exact hS42 _ ⟨s0, s1, s2, s3, s4, s5, s6, s7, s8, s9, s10, s11, rfl, rfl, rfl, rfl, trivial⟩
 rintro g49 ⟨s0, s1, s2, s3, s4, s5, s6, s7, s8, s9, s10, s11, s12, s13, s48, s51, _⟩ w51 ps51 hmm51
 have m51 : Mem _ _ [((ps51 6), .cells (cl u64 (List.replicate 5 0)) 126 (0, 0)), ((ps51 7), .cells (cl u64 (List.replicate 5 0)) 126 (0, 0)), _, _, _, _, _, _, _, _, _, _, _] := hmm51
 show RW _ _ _ _ _ (upd (upd g49 15 (ptr (ps51 7) 0)) 14 (ptr (ps51 6) 0)) _
 generalize ps51 6 = b14, ps51 7 = b15 at m51 ⊢
 refine Zw (Qm (f := u64) (l := Qq (Zx px pz) (Zx px pz)) Xl Ya rfl s48 sD m51.h0 sZ rfl) ?_
 rintro _ w52 uq52
 have m52 := m51.upd0 uq52
 refine Zw (Qm (f := u64) (l := Qq (Zf px pz) (Zf px pz)) Xl Ya rfl s51 sD m52.h1 sZ rfl) ?_
 rintro _ w53 uq53
 have m53 := m52.upd1 uq53
 refine rN (sR ?_)
 refine Qa rfl (Qw Xg rfl Ya rfl m53.h0 sZ) <| Qa rfl (Qw Xg rfl Ya rfl m53.h1 sZ) <| Za rfl (oc98 (Xr rfl rfl) (Qfg _ _ _ sD sD)) ?_
 rintro _ w54 ⟨rfl, e54⟩
 have m54 := m53.ext e54
 refine Za rfl (Zg m54 Ya) ?_
 rintro _ w56 ⟨b16, rfl, e56, m56⟩
 refine Zw (Qm (f := u64) (l := Zf (Qq (Zx px pz) (Zx px pz)) (Qq (Zf px pz) (Zf px pz))) Xl Ya rfl rfl sD m56.h0 sZ rfl) ?_
 rintro _ w57 uq57
 have m57 := m56.upd0 uq57
 refine rN (Qg ?_)
 refine Jz (by kernel_rfl) ?_
 refine Qc2 [6, 7] (dl 6) 8 (luN [(6, 17), (7, 18)]) (luN [(6, 126), (7, 126)]) (luV [(6, (agg u64 (List.replicate 5 0))), (7, (agg u64 (List.replicate 5 0)))]) (fun g => g 0 = (Value.agg (Zl [px.map u64, pz.map u64])) ∧ g 1 = (Value.agg (Zl [qx.map u64, qz.map u64])) ∧ g 2 = (agg u64 x1) ∧ g 3 = (ptr b3 0) ∧ g 4 = (ptr b4 0) ∧ g 5 = (ptr b5 0) ∧ g 6 = (ptr b6 0) ∧ g 7 = (ptr b7 0) ∧ g 8 = (ptr b8 0) ∧ g 9 = (ptr b9 0) ∧ g 10 = (ptr b10 0) ∧ g 11 = (ptr b11 0) ∧ g 12 = (ptr b12 0) ∧ g 13 = (ptr b13 0) ∧ g 14 = (ptr b14 0) ∧ g 15 = (ptr b15 0) ∧ g 16 = (ptr b16 0) ∧ g 57 = (agg u64 (Zx (Qq (Zf qx qz) (Zx px pz)) (Qq (Zx qx qz) (Zf px pz)))) ∧ g 60 = (agg u64 (Zf (Qq (Zf qx qz) (Zx px pz)) (Qq (Zx qx qz) (Zf px pz)))) ∧ True) m57 (J5 ⟨⟨_, _, _, rfl⟩, rfl, _, _, Ya⟩ (J5 ⟨⟨_, _, _, rfl⟩, rfl, _, _, Ya⟩ N7)) (fun sx58 hS58 => ?_) ?_
 ·skip
  refine Qj rfl rfl (fun _ _hx => Qw Xg rfl Ya s12 (m57.ext _hx).h3 sZ) <| Qj rfl rfl (fun _ _hx => Qw Xg rfl Ya s13 (m57.ext _hx).h4 sZ) <| Kv rfl rfl (fun w59 e59 => oc97 (Xr rfl rfl) (Qi9 _ _ _ sD sD)) <| Qj rfl rfl (fun _ _hx => Qw Xg rfl Ya s12 (m57.ext _hx).h3 sZ) <| Qj rfl rfl (fun _ _hx => Qw Xg rfl Ya s13 (m57.ext _hx).h4 sZ) <| Kv rfl rfl (fun w62 e62 => oc98 (Xr rfl rfl) (Qfg _ _ _ sD sD)) ?_
  exact hS58 _ ⟨s0, s1, s2, s3, s4, s5, s6, s7, s8, s9, s10, s11, s12, s13, rfl, rfl, rfl, rfl, rfl, trivial⟩
 rintro g65 ⟨s0, s1, s2, s3, s4, s5, s6, s7, s8, s9, s10, s11, s12, s13, s14, s15, s16, s57, s60, _⟩ w67 ps67 hmm67
 have m67 : Mem _ _ [((ps67 6), .cells (cl u64 (List.replicate 5 0)) 126 (0, 0)), ((ps67 7), .cells (cl u64 (List.replicate 5 0)) 126 (0, 0)), _, _, _, _, _, _, _, _, _, _, _, _, _, _] := hmm67
 show RW _ _ _ _ _ (upd (upd g65 18 (ptr (ps67 7) 0)) 17 (ptr (ps67 6) 0)) _
 generalize ps67 6 = b17, ps67 7 = b18 at m67 ⊢
 refine Zw (Qm (f := u64) (l := Zx (Qq (Zf qx qz) (Zx px pz)) (Qq (Zx qx qz) (Zf px pz))) Xl Ya rfl s57 sD m67.h0 sZ rfl) ?_
 rintro _ w68 uq68
 have m68 := m67.upd0 uq68
 refine Zw (Qm (f := u64) (l := Zf (Qq (Zf qx qz) (Zx px pz)) (Qq (Zx qx qz) (Zf px pz))) Xl Ya rfl s60 sD m68.h1 sZ rfl) ?_
 rintro _ w69 uq69
 have m69 := m68.upd1 uq69
 refine rN (Qg ?_)
 refine Xq [(0, false), (1, false), (2, false), (3, false), (4, false), (5, false), (6, false), (7, false), (8, false), (9, false), (10, false), (11, true)] 12 (by kernel_rfl) <| Qj rfl rfl (fun _ _hx => Qw Xg rfl Ya s14 (m69.ext _hx).h3 sZ) <| Qj rfl rfl (fun _ _hx => Qw Xg rfl Ya s15 (m69.ext _hx).h4 sZ) <| Kv rfl rfl (fun w70 e70 => Qd4 (Xr rfl rfl) (U6 _ _ _ sD sD)) <| Qj rfl rfl (fun _ _hx => Qw Xg rfl Ya s16 (m69.ext _hx).h2 sZ) <| Qj rfl rfl (fun _ _hx => Qw Xg rfl Ya s14 (m69.ext _hx).h3 sZ) <| Qj rfl rfl (fun _ _hx => Ve (c := (cl u64 ([121665#64, 0#64, 0#64, 0#64, 0#64]))) Ya Xg Xh (Y2 (i := 0) (v := (u64 121665#64)) (cs := #[(u64 121665#64)]) rfl rfl Vo) (by kernel_rfl)) <| Qj rfl rfl (fun _ _hx => Qw Xg rfl Ya s16 (m69.ext _hx).h2 sZ) <| Kv rfl rfl (fun w73 e73 => Qd4 (Xr rfl rfl) (U6 _ _ _ sD sD)) <| Kv rfl rfl (fun w76 e76 => oc97 (Xr rfl rfl) (Qi9 _ _ _ sD sD)) <| Kv rfl rfl (fun w79 e79 => Qd4 (Xr rfl rfl) (U6 _ _ _ sD sD)) <| Qj rfl rfl (fun _ _hx => Vd (c := (Zl [(Qq (Qq (Zx px pz) (Zx px pz)) (Qq (Zf px pz) (Zf px pz))).map u64, (Qq (Zf (Qq (Zx px pz) (Zx px pz)) (Qq (Zf px pz) (Zf px pz))) (Zx (Qq (Zx px pz) (Zx px pz)) (Qq ([121665#64, 0#64, 0#64, 0#64, 0#64]) (Zf (Qq (Zx px pz) (Zx px pz)) (Qq (Zf px pz) (Zf px pz)))))).map u64])) (pl := [(0, 5), (5, 5)]) Fp Dn (by kernel_rfl) (Y2 (i := 0) (v := (agg u64 (Qq (Qq (Zx px pz) (Zx px pz)) (Qq (Zf px pz) (Zf px pz))))) (cs := (cl u64 (Qq (Qq (Zx px pz) (Zx px pz)) (Qq (Zf px pz) (Zf px pz))))) rfl rfl (Y2 (i := 1) (v := (agg u64 (Qq (Zf (Qq (Zx px pz) (Zx px pz)) (Qq (Zf px pz) (Zf px pz))) (Zx (Qq (Zx px pz) (Zx px pz)) (Qq ([121665#64, 0#64, 0#64, 0#64, 0#64]) (Zf (Qq (Zx px pz) (Zx px pz)) (Qq (Zf px pz) (Zf px pz)))))))) (cs := (cl u64 (Qq (Zf (Qq (Zx px pz) (Zx px pz)) (Qq (Zf px pz) (Zf px pz))) (Zx (Qq (Zx px pz) (Zx px pz)) (Qq ([121665#64, 0#64, 0#64, 0#64, 0#64]) (Zf (Qq (Zx px pz) (Zx px pz)) (Qq (Zf px pz) (Zf px pz)))))))) rfl rfl Vo)) (Wv (L := [(List.replicate 5 0).map u64, (List.replicate 5 0).map u64]) 0 [(Qq (Qq (Zx px pz) (Zx px pz)) (Qq (Zf px pz) (Zf px pz))).map u64, (List.replicate 5 0).map u64] rfl (Wi u64 _).symm rfl (Wv 1 [(Qq (Qq (Zx px pz) (Zx px pz)) (Qq (Zf px pz) (Zf px pz))).map u64, (Qq (Zf (Qq (Zx px pz) (Zx px pz)) (Qq (Zf px pz) (Zf px pz))) (Zx (Qq (Zx px pz) (Zx px pz)) (Qq ([121665#64, 0#64, 0#64, 0#64, 0#64]) (Zf (Qq (Zx px pz) (Zx px pz)) (Qq (Zf px pz) (Zf px pz)))))).map u64] rfl (Wi u64 _).symm rfl F8))) ?_
 refine Bf rfl rfl (fun w82 e82 => ?_)
 have m82 := m69.ext e82
 refine Yz.mono (Yj m82 Fp) ?_
 rintro _ w83 ⟨b19, rfl, e83, m83⟩
 refine ⟨e83, ?_⟩
 refine Xd (fun w84 e84 => ?_)
 have m84 := m83.ext e84
 refine Zw (Gj [(Qq (Qq (Zx px pz) (Zx px pz)) (Qq (Zf px pz) (Zf px pz))).map u64, (Qq (Zf (Qq (Zx px pz) (Zx px pz)) (Qq (Zf px pz) (Zf px pz))) (Zx (Qq (Zx px pz) (Zx px pz)) (Qq ([121665#64, 0#64, 0#64, 0#64, 0#64]) (Zf (Qq (Zx px pz) (Zx px pz)) (Qq (Zf px pz) (Zf px pz)))))).map u64] Fp rfl rfl (Ed (n := 5) (m := 5) (k := 10) (by first | rfl | (rw [List.length_map]; first | omega | (simp; done) | (simp; omega))) (Ed (n := 5) (m := 0) (k := 5) (by first | rfl | (rw [List.length_map]; first | omega | (simp; done) | (simp; omega))) Qcj rfl) rfl) (Js (Jn Xl _) (Js (Jn Xl _) Bz)) m84.h0 rfl rfl) ?_
 rintro _ w85 uq85
 have m85 : Mem _ _ [(b19, .cells (Zl [(Qq (Qq (Zx px pz) (Zx px pz)) (Qq (Zf px pz) (Zf px pz))).map u64, (Qq (Zf (Qq (Zx px pz) (Zx px pz)) (Qq (Zf px pz) (Zf px pz))) (Zx (Qq (Zx px pz) (Zx px pz)) (Qq ([121665#64, 0#64, 0#64, 0#64, 0#64]) (Zf (Qq (Zx px pz) (Zx px pz)) (Qq (Zf px pz) (Zf px pz)))))).map u64]) 129 (0, 0)), _, _, _, _, _, _, _, _, _, _, _, _, _, _, _, _] := m84.upd0 uq85
 refine rN (Qg ?_)
 refine Jz (by kernel_rfl) ?_
 have m86 := (Mem.pick [_, _, _, _, _, _, _, _, _, _, _, _, _, _, _, _] [_] _ m85)
 have m87 := (Mem.pick [_, _, _, _, _, _, _, _, _, _, _, _, _, _, _, _] [_] _ m86)
 have m88 := (Mem.pick [_, _, _, _, _, _, _, _, _, _, _, _, _, _, _, _] [_] _ m87)
 have m89 := (Mem.pick [_, _, _, _, _, _, _, _, _, _, _, _, _, _, _] [_] _ m88)
 have m90 := (Mem.pick [_, _, _, _, _, _, _, _, _, _, _, _, _, _, _] [_] _ m89)
 have m91 := (Mem.pick [_, _, _, _, _, _, _, _, _, _, _, _, _, _, _] [_] _ m90)
 have m92 := (Mem.pick [_, _, _, _, _, _, _, _, _, _, _, _, _, _, _] [_] _ m91)
 have m93 := (Mem.pick [_, _, _, _, _, _, _, _, _, _, _, _, _, _, _] [_] _ m92)
 have m94 := (Mem.pick [_, _, _, _, _, _, _, _, _, _, _, _, _, _, _] [_] _ m93)
 have m95 := (Mem.pick [_, _, _, _, _, _, _, _, _, _, _, _, _, _, _] [_] _ m94)
 have m96 := (Mem.pick [_, _, _, _, _, _, _, _, _, _, _, _, _, _, _] [_] _ m95)
 have m97 := (Mem.pick [_, _, _, _, _, _, _, _, _, _, _, _, _, _, _] [_] _ m96)
 have m98 := (Mem.pick [_, _, _, _, _, _, _, _, _, _, _, _, _, _, _] [_] _ m97)
 have m99 := (Mem.pick [_, _, _, _, _, _, _, _, _, _, _, _, _, _, _] [_] _ m98)
 have m100 := (Mem.pick [_, _, _, _, _, _, _, _, _, _, _, _, _, _, _] [_] _ m99)
 have m101 := (Mem.pick [_, _, _, _, _, _, _, _, _, _, _, _, _, _, _] [_] _ m100)
 have m102 := (Mem.pick [_, _, _, _, _, _, _, _, _, _, _, _, _, _, _, _] [_] _ m101)
 have hFM103 : Mem w85 (Qy w0) ([(b6, .cells #[(u64 0), (u64 0), (u64 0), (u64 0), (u64 0), (u64 0), (u64 0), (u64 0), (u64 0), (u64 0)] 129 (0, 0))] ++ [(b19, .cells (Zl [(Qq (Qq (Zx px pz) (Zx px pz)) (Qq (Zf px pz) (Zf px pz))).map u64, (Qq (Zf (Qq (Zx px pz) (Zx px pz)) (Qq (Zf px pz) (Zf px pz))) (Zx (Qq (Zx px pz) (Zx px pz)) (Qq ([121665#64, 0#64, 0#64, 0#64, 0#64]) (Zf (Qq (Zx px pz) (Zx px pz)) (Qq (Zf px pz) (Zf px pz)))))).map u64]) 129 (0, 0)), (b17, .cells (cl u64 (Zx (Qq (Zf qx qz) (Zx px pz)) (Qq (Zx qx qz) (Zf px pz)))) 126 (0, 0)), (b18, .cells (cl u64 (Zf (Qq (Zf qx qz) (Zx px pz)) (Qq (Zx qx qz) (Zf px pz)))) 126 (0, 0)), (b16, .cells (cl u64 (Zf (Qq (Zx px pz) (Zx px pz)) (Qq (Zf px pz) (Zf px pz)))) 126 (0, 0)), (b14, .cells (cl u64 (Qq (Zx px pz) (Zx px pz))) 126 (0, 0)), (b15, .cells (cl u64 (Qq (Zf px pz) (Zf px pz))) 126 (0, 0)), (b12, .cells (cl u64 (Qq (Zf qx qz) (Zx px pz))) 126 (0, 0)), (b13, .cells (cl u64 (Qq (Zx qx qz) (Zf px pz))) 126 (0, 0)), (b10, .cells (cl u64 (Zx qx qz)) 126 (0, 0)), (b11, .cells (cl u64 (Zf qx qz)) 126 (0, 0)), (b8, .cells (cl u64 (Zx px pz)) 126 (0, 0)), (b9, .cells (cl u64 (Zf px pz)) 126 (0, 0)), (b7, .cells #[(u64 0), (u64 0), (u64 0), (u64 0), (u64 0), (u64 0), (u64 0), (u64 0), (u64 0), (u64 0)] 129 (0, 0)), (b5, .cells (cl u64 x1) 126 (0, 0)), (b4, .cells (Zl [qx.map u64, qz.map u64]) 129 (0, 0)), (b3, .cells (Zl [px.map u64, pz.map u64]) 129 (0, 0))]) := m102
 obtain ⟨RM103, hRM103⟩ : ∃ R2, R2 = Rest.add (Qy w0) [(b19, .cells (Zl [(Qq (Qq (Zx px pz) (Zx px pz)) (Qq (Zf px pz) (Zf px pz))).map u64, (Qq (Zf (Qq (Zx px pz) (Zx px pz)) (Qq (Zf px pz) (Zf px pz))) (Zx (Qq (Zx px pz) (Zx px pz)) (Qq ([121665#64, 0#64, 0#64, 0#64, 0#64]) (Zf (Qq (Zx px pz) (Zx px pz)) (Qq (Zf px pz) (Zf px pz)))))).map u64]) 129 (0, 0)), (b17, .cells (cl u64 (Zx (Qq (Zf qx qz) (Zx px pz)) (Qq (Zx qx qz) (Zf px pz)))) 126 (0, 0)), (b18, .cells (cl u64 (Zf (Qq (Zf qx qz) (Zx px pz)) (Qq (Zx qx qz) (Zf px pz)))) 126 (0, 0)), (b16, .cells (cl u64 (Zf (Qq (Zx px pz) (Zx px pz)) (Qq (Zf px pz) (Zf px pz)))) 126 (0, 0)), (b14, .cells (cl u64 (Qq (Zx px pz) (Zx px pz))) 126 (0, 0)), (b15, .cells (cl u64 (Qq (Zf px pz) (Zf px pz))) 126 (0, 0)), (b12, .cells (cl u64 (Qq (Zf qx qz) (Zx px pz))) 126 (0, 0)), (b13, .cells (cl u64 (Qq (Zx qx qz) (Zf px pz))) 126 (0, 0)), (b10, .cells (cl u64 (Zx qx qz)) 126 (0, 0)), (b11, .cells (cl u64 (Zf qx qz)) 126 (0, 0)), (b8, .cells (cl u64 (Zx px pz)) 126 (0, 0)), (b9, .cells (cl u64 (Zf px pz)) 126 (0, 0)), (b7, .cells #[(u64 0), (u64 0), (u64 0), (u64 0), (u64 0), (u64 0), (u64 0), (u64 0), (u64 0), (u64 0)] 129 (0, 0)), (b5, .cells (cl u64 x1) 126 (0, 0)), (b4, .cells (Zl [qx.map u64, qz.map u64]) 129 (0, 0)), (b3, .cells (Zl [px.map u64, pz.map u64]) 129 (0, 0))] := ⟨_, rfl⟩
 have M1030 : Mem w85 RM103 [(b6, .cells #[(u64 0), (u64 0), (u64 0), (u64 0), (u64 0), (u64 0), (u64 0), (u64 0), (u64 0), (u64 0)] 129 (0, 0))] := by rw [hRM103]; exact Mem.give hFM103
 have ho104 : RM103.blk b19 = some (.cells (Zl [(Qq (Qq (Zx px pz) (Zx px pz)) (Qq (Zf px pz) (Zf px pz))).map u64, (Qq (Zf (Qq (Zx px pz) (Zx px pz)) (Qq (Zf px pz) (Zf px pz))) (Zx (Qq (Zx px pz) (Zx px pz)) (Qq ([121665#64, 0#64, 0#64, 0#64, 0#64]) (Zf (Qq (Zx px pz) (Zx px pz)) (Qq (Zf px pz) (Zf px pz)))))).map u64]) 129 (0, 0)) := by rw [hRM103]; exact Mem.addOwn hFM103 (List.Mem.head _)
 have ho105 : RM103.blk b17 = some (.cells (cl u64 (Zx (Qq (Zf qx qz) (Zx px pz)) (Qq (Zx qx qz) (Zf px pz)))) 126 (0, 0)) := by rw [hRM103]; exact Mem.addOwn hFM103 (List.Mem.tail _ (List.Mem.head _))
 have ho106 : RM103.blk b18 = some (.cells (cl u64 (Zf (Qq (Zf qx qz) (Zx px pz)) (Qq (Zx qx qz) (Zf px pz)))) 126 (0, 0)) := by rw [hRM103]; exact Mem.addOwn hFM103 (List.Mem.tail _ (List.Mem.tail _ (List.Mem.head _)))
 have ho107 : RM103.blk b16 = some (.cells (cl u64 (Zf (Qq (Zx px pz) (Zx px pz)) (Qq (Zf px pz) (Zf px pz)))) 126 (0, 0)) := by rw [hRM103]; exact Mem.addOwn hFM103 (List.Mem.tail _ (List.Mem.tail _ (List.Mem.tail _ (List.Mem.head _))))
 have ho108 : RM103.blk b14 = some (.cells (cl u64 (Qq (Zx px pz) (Zx px pz))) 126 (0, 0)) := by rw [hRM103]; exact Mem.addOwn hFM103 (List.Mem.tail _ (List.Mem.tail _ (List.Mem.tail _ (List.Mem.tail _ (List.Mem.head _)))))
 have ho109 : RM103.blk b15 = some (.cells (cl u64 (Qq (Zf px pz) (Zf px pz))) 126 (0, 0)) := by rw [hRM103]; exact Mem.addOwn hFM103 (List.Mem.tail _ (List.Mem.tail _ (List.Mem.tail _ (List.Mem.tail _ (List.Mem.tail _ (List.Mem.head _))))))
 have ho110 : RM103.blk b12 = some (.cells (cl u64 (Qq (Zf qx qz) (Zx px pz))) 126 (0, 0)) := by rw [hRM103]; exact Mem.addOwn hFM103 (List.Mem.tail _ (List.Mem.tail _ (List.Mem.tail _ (List.Mem.tail _ (List.Mem.tail _ (List.Mem.tail _ (List.Mem.head _)))))))
 have ho111 : RM103.blk b13 = some (.cells (cl u64 (Qq (Zx qx qz) (Zf px pz))) 126 (0, 0)) := by rw [hRM103]; exact Mem.addOwn hFM103 (List.Mem.tail _ (List.Mem.tail _ (List.Mem.tail _ (List.Mem.tail _ (List.Mem.tail _ (List.Mem.tail _ (List.Mem.tail _ (List.Mem.head _))))))))
 have ho112 : RM103.blk b10 = some (.cells (cl u64 (Zx qx qz)) 126 (0, 0)) := by rw [hRM103]; exact Mem.addOwn hFM103 (List.Mem.tail _ (List.Mem.tail _ (List.Mem.tail _ (List.Mem.tail _ (List.Mem.tail _ (List.Mem.tail _ (List.Mem.tail _ (List.Mem.tail _ (List.Mem.head _)))))))))
 have ho113 : RM103.blk b11 = some (.cells (cl u64 (Zf qx qz)) 126 (0, 0)) := by rw [hRM103]; exact Mem.addOwn hFM103 (List.Mem.tail _ (List.Mem.tail _ (List.Mem.tail _ (List.Mem.tail _ (List.Mem.tail _ (List.Mem.tail _ (List.Mem.tail _ (List.Mem.tail _ (List.Mem.tail _ (List.Mem.head _))))))))))
 have ho114 : RM103.blk b8 = some (.cells (cl u64 (Zx px pz)) 126 (0, 0)) := by rw [hRM103]; exact Mem.addOwn hFM103 (List.Mem.tail _ (List.Mem.tail _ (List.Mem.tail _ (List.Mem.tail _ (List.Mem.tail _ (List.Mem.tail _ (List.Mem.tail _ (List.Mem.tail _ (List.Mem.tail _ (List.Mem.tail _ (List.Mem.head _)))))))))))
 have ho115 : RM103.blk b9 = some (.cells (cl u64 (Zf px pz)) 126 (0, 0)) := by rw [hRM103]; exact Mem.addOwn hFM103 (List.Mem.tail _ (List.Mem.tail _ (List.Mem.tail _ (List.Mem.tail _ (List.Mem.tail _ (List.Mem.tail _ (List.Mem.tail _ (List.Mem.tail _ (List.Mem.tail _ (List.Mem.tail _ (List.Mem.tail _ (List.Mem.head _))))))))))))
 have ho116 : RM103.blk b7 = some (.cells #[(u64 0), (u64 0), (u64 0), (u64 0), (u64 0), (u64 0), (u64 0), (u64 0), (u64 0), (u64 0)] 129 (0, 0)) := by rw [hRM103]; exact Mem.addOwn hFM103 (List.Mem.tail _ (List.Mem.tail _ (List.Mem.tail _ (List.Mem.tail _ (List.Mem.tail _ (List.Mem.tail _ (List.Mem.tail _ (List.Mem.tail _ (List.Mem.tail _ (List.Mem.tail _ (List.Mem.tail _ (List.Mem.tail _ (List.Mem.head _)))))))))))))
 have ho117 : RM103.blk b5 = some (.cells (cl u64 x1) 126 (0, 0)) := by rw [hRM103]; exact Mem.addOwn hFM103 (List.Mem.tail _ (List.Mem.tail _ (List.Mem.tail _ (List.Mem.tail _ (List.Mem.tail _ (List.Mem.tail _ (List.Mem.tail _ (List.Mem.tail _ (List.Mem.tail _ (List.Mem.tail _ (List.Mem.tail _ (List.Mem.tail _ (List.Mem.tail _ (List.Mem.head _))))))))))))))
 have ho118 : RM103.blk b4 = some (.cells (Zl [qx.map u64, qz.map u64]) 129 (0, 0)) := by rw [hRM103]; exact Mem.addOwn hFM103 (List.Mem.tail _ (List.Mem.tail _ (List.Mem.tail _ (List.Mem.tail _ (List.Mem.tail _ (List.Mem.tail _ (List.Mem.tail _ (List.Mem.tail _ (List.Mem.tail _ (List.Mem.tail _ (List.Mem.tail _ (List.Mem.tail _ (List.Mem.tail _ (List.Mem.tail _ (List.Mem.head _)))))))))))))))
 have ho119 : RM103.blk b3 = some (.cells (Zl [px.map u64, pz.map u64]) 129 (0, 0)) := by rw [hRM103]; exact Mem.addOwn hFM103 (List.Mem.tail _ (List.Mem.tail _ (List.Mem.tail _ (List.Mem.tail _ (List.Mem.tail _ (List.Mem.tail _ (List.Mem.tail _ (List.Mem.tail _ (List.Mem.tail _ (List.Mem.tail _ (List.Mem.tail _ (List.Mem.tail _ (List.Mem.tail _ (List.Mem.tail _ (List.Mem.tail _ (List.Mem.head _))))))))))))))))
 refine Ju M1030 [(0, false), (1, false), (2, false), (3, false), (4, false), (5, false), (6, false), (7, false), (8, false), (9, false), (10, true)] 11 rfl (by kernel_rfl) <| Xu rfl rfl (fun w _H _hx => Jr Dn Fp rfl (_hx.rest _ _ ho104)) <| Xu rfl rfl (fun w _H _hx => Qw Xg rfl Ya rfl (_hx.rest _ _ ho105) sZ) <| Xu rfl rfl (fun w _H _hx => Qw Xg rfl Ya rfl (_hx.rest _ _ ho105) sZ) <| dk_x rfl rfl (fun w120 _Hw120 _hw120 => Qd4 (Xr rfl rfl) (U6 _ _ _ sD sD)) <| Xu rfl rfl (fun w _H _hx => Qw Xg rfl Ya s5 (_hx.rest _ _ ho117) sZ) <| Xu rfl rfl (fun w _H _hx => Qw Xg rfl Ya rfl (_hx.rest _ _ ho106) sZ) <| Xu rfl rfl (fun w _H _hx => Qw Xg rfl Ya rfl (_hx.rest _ _ ho106) sZ) <| dk_x rfl rfl (fun w123 _Hw123 _hw123 => Qd4 (Xr rfl rfl) (U6 _ _ _ sD sD)) <| dk_x rfl rfl (fun w126 _Hw126 _hw126 => Qd4 (Xr rfl rfl) (U6 _ _ _ sD sD)) <| Xu rfl rfl (fun w _H _hx => Vd (c := (Zl [(Qq (Zx (Qq (Zf qx qz) (Zx px pz)) (Qq (Zx qx qz) (Zf px pz))) (Zx (Qq (Zf qx qz) (Zx px pz)) (Qq (Zx qx qz) (Zf px pz)))).map u64, (Qq x1 (Qq (Zf (Qq (Zf qx qz) (Zx px pz)) (Qq (Zx qx qz) (Zf px pz))) (Zf (Qq (Zf qx qz) (Zx px pz)) (Qq (Zx qx qz) (Zf px pz))))).map u64])) (pl := [(0, 5), (5, 5)]) Fp Dn (by kernel_rfl) (Y2 (i := 0) (v := (agg u64 (Qq (Zx (Qq (Zf qx qz) (Zx px pz)) (Qq (Zx qx qz) (Zf px pz))) (Zx (Qq (Zf qx qz) (Zx px pz)) (Qq (Zx qx qz) (Zf px pz)))))) (cs := (cl u64 (Qq (Zx (Qq (Zf qx qz) (Zx px pz)) (Qq (Zx qx qz) (Zf px pz))) (Zx (Qq (Zf qx qz) (Zx px pz)) (Qq (Zx qx qz) (Zf px pz)))))) rfl rfl (Y2 (i := 1) (v := (agg u64 (Qq x1 (Qq (Zf (Qq (Zf qx qz) (Zx px pz)) (Qq (Zx qx qz) (Zf px pz))) (Zf (Qq (Zf qx qz) (Zx px pz)) (Qq (Zx qx qz) (Zf px pz))))))) (cs := (cl u64 (Qq x1 (Qq (Zf (Qq (Zf qx qz) (Zx px pz)) (Qq (Zx qx qz) (Zf px pz))) (Zf (Qq (Zf qx qz) (Zx px pz)) (Qq (Zx qx qz) (Zf px pz))))))) rfl rfl Vo)) (Wv (L := [(List.replicate 5 0).map u64, (List.replicate 5 0).map u64]) 0 [(Qq (Zx (Qq (Zf qx qz) (Zx px pz)) (Qq (Zx qx qz) (Zf px pz))) (Zx (Qq (Zf qx qz) (Zx px pz)) (Qq (Zx qx qz) (Zf px pz)))).map u64, (List.replicate 5 0).map u64] rfl (Wi u64 _).symm rfl (Wv 1 [(Qq (Zx (Qq (Zf qx qz) (Zx px pz)) (Qq (Zx qx qz) (Zf px pz))) (Zx (Qq (Zf qx qz) (Zx px pz)) (Qq (Zx qx qz) (Zf px pz)))).map u64, (Qq x1 (Qq (Zf (Qq (Zf qx qz) (Zx px pz)) (Qq (Zx qx qz) (Zf px pz))) (Zf (Qq (Zf qx qz) (Zx px pz)) (Qq (Zx qx qz) (Zf px pz))))).map u64] rfl (Wi u64 _).symm rfl F8))) ?_
 refine Bh rfl (fun w129 e129 => ?_)
 have m129 := M1030.ext e129
 refine Yz.mono (Gj [(Qq (Qq (Zx px pz) (Zx px pz)) (Qq (Zf px pz) (Zf px pz))).map u64, (Qq (Zf (Qq (Zx px pz) (Zx px pz)) (Qq (Zf px pz) (Zf px pz))) (Zx (Qq (Zx px pz) (Zx px pz)) (Qq ([121665#64, 0#64, 0#64, 0#64, 0#64]) (Zf (Qq (Zx px pz) (Zx px pz)) (Qq (Zf px pz) (Zf px pz)))))).map u64] Fp s6 rfl (Ed (n := 5) (m := 5) (k := 10) (by first | rfl | (rw [List.length_map]; first | omega | (simp; done) | (simp; omega))) (Ed (n := 5) (m := 0) (k := 5) (by first | rfl | (rw [List.length_map]; first | omega | (simp; done) | (simp; omega))) Qcj rfl) rfl) (Js (Jn Xl _) (Js (Jn Xl _) Bz)) m129.h0 rfl rfl) ?_
 rintro _ w130 uq130
 have m130 : Mem _ _ [(b6, .cells (Zl [(Qq (Qq (Zx px pz) (Zx px pz)) (Qq (Zf px pz) (Zf px pz))).map u64, (Qq (Zf (Qq (Zx px pz) (Zx px pz)) (Qq (Zf px pz) (Zf px pz))) (Zx (Qq (Zx px pz) (Zx px pz)) (Qq ([121665#64, 0#64, 0#64, 0#64, 0#64]) (Zf (Qq (Zx px pz) (Zx px pz)) (Qq (Zf px pz) (Zf px pz)))))).map u64]) 129 (0, 0))] := m129.upd0 uq130
 refine ⟨⟨_, m130⟩, ?_⟩
 refine Xd (fun w131 e131 => ?_)
 have m131 := m130.ext e131
 have hX132 := m131
 rw [hRM103] at hX132
 have m133 : Mem w131 (Qy w0) [(b6, .cells (Zl [(Qq (Qq (Zx px pz) (Zx px pz)) (Qq (Zf px pz) (Zf px pz))).map u64, (Qq (Zf (Qq (Zx px pz) (Zx px pz)) (Qq (Zf px pz) (Zf px pz))) (Zx (Qq (Zx px pz) (Zx px pz)) (Qq ([121665#64, 0#64, 0#64, 0#64, 0#64]) (Zf (Qq (Zx px pz) (Zx px pz)) (Qq (Zf px pz) (Zf px pz)))))).map u64]) 129 (0, 0)), (b19, .cells (Zl [(Qq (Qq (Zx px pz) (Zx px pz)) (Qq (Zf px pz) (Zf px pz))).map u64, (Qq (Zf (Qq (Zx px pz) (Zx px pz)) (Qq (Zf px pz) (Zf px pz))) (Zx (Qq (Zx px pz) (Zx px pz)) (Qq ([121665#64, 0#64, 0#64, 0#64, 0#64]) (Zf (Qq (Zx px pz) (Zx px pz)) (Qq (Zf px pz) (Zf px pz)))))).map u64]) 129 (0, 0)), (b17, .cells (cl u64 (Zx (Qq (Zf qx qz) (Zx px pz)) (Qq (Zx qx qz) (Zf px pz)))) 126 (0, 0)), (b18, .cells (cl u64 (Zf (Qq (Zf qx qz) (Zx px pz)) (Qq (Zx qx qz) (Zf px pz)))) 126 (0, 0)), (b16, .cells (cl u64 (Zf (Qq (Zx px pz) (Zx px pz)) (Qq (Zf px pz) (Zf px pz)))) 126 (0, 0)), (b14, .cells (cl u64 (Qq (Zx px pz) (Zx px pz))) 126 (0, 0)), (b15, .cells (cl u64 (Qq (Zf px pz) (Zf px pz))) 126 (0, 0)), (b12, .cells (cl u64 (Qq (Zf qx qz) (Zx px pz))) 126 (0, 0)), (b13, .cells (cl u64 (Qq (Zx qx qz) (Zf px pz))) 126 (0, 0)), (b10, .cells (cl u64 (Zx qx qz)) 126 (0, 0)), (b11, .cells (cl u64 (Zf qx qz)) 126 (0, 0)), (b8, .cells (cl u64 (Zx px pz)) 126 (0, 0)), (b9, .cells (cl u64 (Zf px pz)) 126 (0, 0)), (b7, .cells #[(u64 0), (u64 0), (u64 0), (u64 0), (u64 0), (u64 0), (u64 0), (u64 0), (u64 0), (u64 0)] 129 (0, 0)), (b5, .cells (cl u64 x1) 126 (0, 0)), (b4, .cells (Zl [qx.map u64, qz.map u64]) 129 (0, 0)), (b3, .cells (Zl [px.map u64, pz.map u64]) 129 (0, 0))] := (by
  have hT := Mem.back hFM103 hX132
  try simp only [List.append_assoc, List.cons_append, List.nil_append, List.append_nil] at hT ⊢
  exact hT)
 refine Zw (Gj [(Qq (Zx (Qq (Zf qx qz) (Zx px pz)) (Qq (Zx qx qz) (Zf px pz))) (Zx (Qq (Zf qx qz) (Zx px pz)) (Qq (Zx qx qz) (Zf px pz)))).map u64, (Qq x1 (Qq (Zf (Qq (Zf qx qz) (Zx px pz)) (Qq (Zx qx qz) (Zf px pz))) (Zf (Qq (Zf qx qz) (Zx px pz)) (Qq (Zx qx qz) (Zf px pz))))).map u64] Fp s7 rfl (Ed (n := 5) (m := 5) (k := 10) (by first | rfl | (rw [List.length_map]; first | omega | (simp; done) | (simp; omega))) (Ed (n := 5) (m := 0) (k := 5) (by first | rfl | (rw [List.length_map]; first | omega | (simp; done) | (simp; omega))) Qcj rfl) rfl) (Js (Jn Xl _) (Js (Jn Xl _) Bz)) ((Mem.pick [_, _, _, _, _, _, _, _, _, _, _, _, _] [_] _ m133)).h0 rfl rfl) ?_
 rintro _ w134 uq134
 have m134 : Mem _ _ [(b7, .cells (Zl [(Qq (Zx (Qq (Zf qx qz) (Zx px pz)) (Qq (Zx qx qz) (Zf px pz))) (Zx (Qq (Zf qx qz) (Zx px pz)) (Qq (Zx qx qz) (Zf px pz)))).map u64, (Qq x1 (Qq (Zf (Qq (Zf qx qz) (Zx px pz)) (Qq (Zx qx qz) (Zf px pz))) (Zf (Qq (Zf qx qz) (Zx px pz)) (Qq (Zx qx qz) (Zf px pz))))).map u64]) 129 (0, 0)), _, _, _, _, _, _, _, _, _, _, _, _, _, _, _, _] := Mem.upd0 (Mem.pick [_, _, _, _, _, _, _, _, _, _, _, _, _] [_] _ m133) uq134
 refine rN (Xt ?_)
 refine Ze [(Value.agg (Zl [(Qq (Qq (Zx px pz) (Zx px pz)) (Qq (Zf px pz) (Zf px pz))).map u64, (Qq (Zf (Qq (Zx px pz) (Zx px pz)) (Qq (Zf px pz) (Zf px pz))) (Zx (Qq (Zx px pz) (Zx px pz)) (Qq ([121665#64, 0#64, 0#64, 0#64, 0#64]) (Zf (Qq (Zx px pz) (Zx px pz)) (Qq (Zf px pz) (Zf px pz)))))).map u64])), (Value.agg (Zl [(Qq (Zx (Qq (Zf qx qz) (Zx px pz)) (Qq (Zx qx qz) (Zf px pz))) (Zx (Qq (Zf qx qz) (Zx px pz)) (Qq (Zx qx qz) (Zf px pz)))).map u64, (Qq x1 (Qq (Zf (Qq (Zf qx qz) (Zx px pz)) (Qq (Zx qx qz) (Zf px pz))) (Zf (Qq (Zf qx qz) (Zx px pz)) (Qq (Zx qx qz) (Zf px pz))))).map u64]))] ⟨⟨_, s6, Gt Dn Fp m134.h1⟩, ⟨_, s7, Gt Dn Fp m134.h0⟩, trivial⟩ ?_
 exact ⟨by unfold Eg; rfl, m134.toExt⟩
theorem c_clamp5 (k : List (BitVec 8)) (w0 : World)  (hk : k.length = 32) : Xz Tryd.prog 78 #[(agg u8 k)] w0 (fun r w1 => r = (agg u8 (Yl k)) ∧ Ext w0 w1) := by
 refine Zd (args := [(agg u8 k)]) Tryd.func78 rfl Tryd.ntmps78 Tryd.results78 rfl ?_
 have m0 : Mem w0 (Qy w0) [] := Mem.of_world w0
 refine sR <| Za rfl (Z8 (f := u8) (l := k) m0 rfl) ?_
 rintro _ w1 ⟨b1, rfl, e1, m1⟩
 refine Za rfl (Zg m1 Z9) ?_
 rintro _ w2 ⟨b2, rfl, e2, m2⟩
 refine rN (sR ?_)
 refine Qa rfl (Qd (r := 0) (i := 0) oM X3 X6 rfl rfl oM oM) <| Qa rfl (Qn Vm rfl rfl m2.h1 (Qx _ _ 0 sD)) <| Qa rfl (Qdf (b := 7#8) rfl rfl) <| Qa rfl (Qd (r := 0) (i := 0) oM X3 X6 rfl rfl oM oM) <| Zw (Xn (f := u8) (a := (k.getD 0 0) &&& ~~~7#8) Qu X6 rfl rfl m2.h1 sD (.inl (Nat.zero_le _))) ?_
 rintro _ w3 uq3
 have m3 := m2.upd1 uq3
 refine rN (sR ?_)
 refine Qa rfl (Qd (r := 31) (i := 31) oM X3 X6 rfl rfl oM oM) <| Qa rfl (Qn Vm rfl rfl m3.h1 (Qx _ _ 0 sD)) <| Qa rfl (Qdf (b := 128#8) rfl rfl) <| Qa rfl (Qgc (b := 64#8) rfl rfl) <| Qa rfl (Qd (r := 31) (i := 31) oM X3 X6 rfl rfl oM oM) <| Zw (Xn (f := u8) (a := (((k.set 0 ((k.getD 0 0) &&& ~~~7#8)).getD 31 0) &&& ~~~128#8) ||| 64#8) Qu X6 rfl rfl m3.h1 sD (.inl (Nat.zero_le _))) ?_
 rintro _ w4 uq4
 have m4 := m3.upd1 uq4
 refine rN (sR ?_)
 refine Qa rfl (Qw X3 rfl Z9 rfl m4.h1 sZ) <| Zw (Qm (f := u8) (l := (k.set 0 ((k.getD 0 0) &&& ~~~7#8)).set 31 ((((k.set 0 ((k.getD 0 0) &&& ~~~7#8)).getD 31 0) &&& ~~~128#8) ||| 64#8)) Qu Z9 rfl rfl sD m4.h0 sZ rfl) ?_
 rintro _ w5 uq5
 have m5 := m4.upd0 uq5
 refine rN (Xt ?_)
 refine Ze [(agg u8 ((k.set 0 ((k.getD 0 0) &&& ~~~7#8)).set 31 ((((k.set 0 ((k.getD 0 0) &&& ~~~7#8)).getD 31 0) &&& ~~~128#8) ||| 64#8)))] ⟨⟨_, rfl, Xo X3 rfl Z9 m5.h0 sZ⟩, trivial⟩ ?_
 exact ⟨by unfold Yl; rfl, m5.toExt⟩
set_option maxHeartbeats 1000000 in
theorem Qm6 (ky u : List (BitVec 8)) (w0 : World)  (hk : ky.length = 32) (hu : u.length = 32) : Xz Tryd.prog 57 #[(agg u8 ky), (agg u8 u)] w0 (fun r w1 => r = (agg u8 (Y9 ky u)) ∧ Ext w0 w1) := by
 refine Zd (args := [(agg u8 ky), (agg u8 u)]) Tryd.func57 rfl Tryd.ntmps57 Tryd.results57 rfl ?_
 have m0 : Mem w0 (Qy w0) [] := Mem.of_world w0
 have hcl := Qg6 ky
 have hrl : (Yt u).length = 5 := by unfold Yt; exact Dt u 255
 refine sR <| Za rfl (Z8 (f := u8) (l := ky) m0 rfl) ?_
 rintro _ w1 ⟨b2, rfl, e1, m1⟩
 refine Za rfl (Z8 (f := u8) (l := u) m1 rfl) ?_
 rintro _ w2 ⟨b3, rfl, e2, m2⟩
 refine Za rfl (Zg m2 Z9) ?_
 rintro _ w3 ⟨b4, rfl, e3, m3⟩
 refine rN (sR ?_)
 refine Qa rfl (Qw X3 rfl Z9 rfl m3.h2 sZ) <| Za rfl (oc78 (Jj rfl) (c_clamp5 _ _ sD)) ?_
 rintro _ w4 ⟨rfl, e4⟩
 have m4 := m3.ext e4
 refine Zw (Qm (f := u8) (l := Yl ky) Qu Z9 rfl rfl sD m4.h2 sZ rfl) ?_
 rintro _ w6 uq6
 have m6 := m4.upd2 uq6
 refine rN (sR ?_)
 refine Qa rfl (Qw X3 rfl Z9 rfl m6.h1 sZ) <| Za rfl (oc79 (Jj rfl) (c_cread _ _ sD)) ?_
 rintro _ w7 ⟨rfl, e7⟩
 have m7 := m6.ext e7
 refine Za rfl (Zg m7 Ya) ?_
 rintro _ w9 ⟨b5, rfl, e9, m9⟩
 refine Zw (Qm (f := u64) (l := Yt u) Xl Ya rfl rfl sD m9.h0 sZ rfl) ?_
 rintro _ w10 uq10
 have m10 := m9.upd0 uq10
 refine rN (Qg ?_)
 refine Pv (J := fun g wv => ∃ (c6 c7 : Nat), g 0 = (agg u8 ky) ∧ g 1 = (agg u8 u) ∧ g 2 = (ptr b2 0) ∧ g 3 = (ptr b3 0) ∧ g 4 = (ptr b4 0) ∧ g 5 = (ptr b5 0) ∧ g 6 = (ptr c6 0) ∧ g 7 = (ptr c7 0) ∧ Mem wv (Qy w0) [(c6, .cells (Zl [([1#64, 0#64, 0#64, 0#64, 0#64]).map u64, ([0#64, 0#64, 0#64, 0#64, 0#64]).map u64]) 129 (0, 0)), (c7, .cells (Zl [(Yt u).map u64, ([1#64, 0#64, 0#64, 0#64, 0#64]).map u64]) 129 (0, 0)), (b5, .cells (cl u64 (Yt u)) 126 (0, 0)), (b4, .cells (cl u8 (List.replicate 32 0)) 23 (0, 0)), (b3, .cells (cl u8 u) 23 (0, 0)), (b2, .cells (cl u8 (Yl ky)) 23 (0, 0))]) ?_ ?_
 ·skip
  refine Jz (by kernel_rfl) ?_
  have hFM11 : Mem w10 (Qy w0) ([] ++ [(b5, .cells (cl u64 (Yt u)) 126 (0, 0)), (b4, .cells (cl u8 (List.replicate 32 0)) 23 (0, 0)), (b3, .cells (cl u8 u) 23 (0, 0)), (b2, .cells (cl u8 (Yl ky)) 23 (0, 0))]) := m10
  obtain ⟨RM11, hRM11⟩ : ∃ R2, R2 = Rest.add (Qy w0) [(b5, .cells (cl u64 (Yt u)) 126 (0, 0)), (b4, .cells (cl u8 (List.replicate 32 0)) 23 (0, 0)), (b3, .cells (cl u8 u) 23 (0, 0)), (b2, .cells (cl u8 (Yl ky)) 23 (0, 0))] := ⟨_, rfl⟩
  have M110 : Mem w10 RM11 [] := by rw [hRM11]; exact Mem.give hFM11
  have ho12 : RM11.blk b5 = some (.cells (cl u64 (Yt u)) 126 (0, 0)) := by rw [hRM11]; exact Mem.addOwn hFM11 (List.Mem.head _)
  have ho13 : RM11.blk b4 = some (.cells (cl u8 (List.replicate 32 0)) 23 (0, 0)) := by rw [hRM11]; exact Mem.addOwn hFM11 (List.Mem.tail _ (List.Mem.head _))
  have ho14 : RM11.blk b3 = some (.cells (cl u8 u) 23 (0, 0)) := by rw [hRM11]; exact Mem.addOwn hFM11 (List.Mem.tail _ (List.Mem.tail _ (List.Mem.head _)))
  have ho15 : RM11.blk b2 = some (.cells (cl u8 (Yl ky)) 23 (0, 0)) := by rw [hRM11]; exact Mem.addOwn hFM11 (List.Mem.tail _ (List.Mem.tail _ (List.Mem.tail _ (List.Mem.head _))))
  refine re_alM [5, 6] (dl 5) [(7, true)] 8 (luN [(5, 6), (6, 7)]) (luN [(5, 129), (6, 129)]) (luV [(5, (Value.agg #[(u64 0), (u64 0), (u64 0), (u64 0), (u64 0), (u64 0), (u64 0), (u64 0), (u64 0), (u64 0)])), (6, (Value.agg #[(u64 0), (u64 0), (u64 0), (u64 0), (u64 0), (u64 0), (u64 0), (u64 0), (u64 0), (u64 0)]))]) (fun g => g 0 = (agg u8 ky) ∧ g 1 = (agg u8 u) ∧ g 2 = (ptr b2 0) ∧ g 3 = (ptr b3 0) ∧ g 4 = (ptr b4 0) ∧ g 5 = (ptr b5 0) ∧ g 14 = (Value.agg #[(u64 1#64), (u64 0#64), (u64 0#64), (u64 0#64), (u64 0#64), (u64 0), (u64 0), (u64 0), (u64 0), (u64 0)]) ∧ g 17 = (Value.agg (Zl [(Yt u).map u64, ([1#64, 0#64, 0#64, 0#64, 0#64]).map u64])) ∧ True) M110 (J5 ⟨⟨_, _, _, rfl⟩, rfl, _, _, Fp⟩ (J5 ⟨⟨_, _, _, rfl⟩, rfl, _, _, Fp⟩ N7)) (fun sx16 hS16 => ?_) ?_
  ·skip
   refine Xu rfl rfl (fun w _H _hx => Ve (c := (cl u64 ([1#64, 0#64, 0#64, 0#64, 0#64]))) Ya Xg Xh (Y2 (i := 0) (v := (u64 1#64)) (cs := #[(u64 1#64)]) rfl rfl Vo) (by kernel_rfl)) <| Xu rfl rfl (fun w _H _hx => Vd (c := #[(u64 1#64), (u64 0#64), (u64 0#64), (u64 0#64), (u64 0#64), (u64 0), (u64 0), (u64 0), (u64 0), (u64 0)]) (pl := [(0, 5), (5, 5)]) Fp Dn (by kernel_rfl) (Y2 (i := 0) (v := (agg u64 ([1#64, 0#64, 0#64, 0#64, 0#64]))) (cs := (cl u64 ([1#64, 0#64, 0#64, 0#64, 0#64]))) rfl rfl Vo) (by kernel_rfl)) <| Xu rfl rfl (fun w _H _hx => Qw Xg rfl Ya rfl (_hx.rest _ _ ho12) sZ) <| Xu rfl rfl (fun w _H _hx => Ve (c := (cl u64 ([1#64, 0#64, 0#64, 0#64, 0#64]))) Ya Xg Xh (Y2 (i := 0) (v := (u64 1#64)) (cs := #[(u64 1#64)]) rfl rfl Vo) (by kernel_rfl)) <| Xu rfl rfl (fun w _H _hx => Vd (c := (Zl [(Yt u).map u64, ([1#64, 0#64, 0#64, 0#64, 0#64]).map u64])) (pl := [(0, 5), (5, 5)]) Fp Dn (by kernel_rfl) (Y2 (i := 0) (v := (agg u64 (Yt u))) (cs := (cl u64 (Yt u))) rfl rfl (Y2 (i := 1) (v := (agg u64 ([1#64, 0#64, 0#64, 0#64, 0#64]))) (cs := (cl u64 ([1#64, 0#64, 0#64, 0#64, 0#64]))) rfl rfl Vo)) (Wv (L := [(List.replicate 5 0).map u64, (List.replicate 5 0).map u64]) 0 [(Yt u).map u64, (List.replicate 5 0).map u64] rfl (Wi u64 _).symm rfl (Wv 1 [(Yt u).map u64, ([1#64, 0#64, 0#64, 0#64, 0#64]).map u64] rfl (Wi u64 _).symm rfl F8))) ?_
   exact hS16 _ ⟨rfl, rfl, rfl, rfl, rfl, rfl, rfl, rfl, trivial⟩
  rintro g17 ⟨s0, s1, s2, s3, s4, s5, s14, s17, _⟩ w19 ps19 hmm19
  have m19 : Mem _ _ [((ps19 5), .cells #[(u64 0), (u64 0), (u64 0), (u64 0), (u64 0), (u64 0), (u64 0), (u64 0), (u64 0), (u64 0)] 129 (0, 0)), ((ps19 6), .cells #[(u64 0), (u64 0), (u64 0), (u64 0), (u64 0), (u64 0), (u64 0), (u64 0), (u64 0), (u64 0)] 129 (0, 0))] := hmm19
  show DW _ _ _ _ _ _ _ (upd (upd g17 7 (ptr (ps19 6) 0)) 6 (ptr (ps19 5) 0)) _
  generalize ps19 5 = b6, ps19 6 = b7 at m19 ⊢
  refine Bh rfl (fun w20 e20 => ?_)
  have m20 := m19.ext e20
  refine Yz.mono (Qd1 (cs := #[(u64 1#64), (u64 0#64), (u64 0#64), (u64 0#64), (u64 0#64), (u64 0), (u64 0), (u64 0), (u64 0), (u64 0)]) Fp rfl s14 (by kernel_rfl) (Qiv (Yr (Xl _) (Yr (Xl _) (Yr (Xl _) (Yr (Xl _) (Yr (Xl _) (Yr (Xl _) (Yr (Xl _) (Yr (Xl _) (Yr (Xl _) (Yr (Xl _) Fg))))))))))) m20.h0 (by kernel_rfl) rfl) ?_
  rintro _ w21 uq21
  have m21 : Mem _ _ [(b6, .cells #[(u64 1#64), (u64 0#64), (u64 0#64), (u64 0#64), (u64 0#64), (u64 0), (u64 0), (u64 0), (u64 0), (u64 0)] 129 (0, 0)), _] := m20.upd0 uq21
  refine ⟨⟨_, m21⟩, ?_⟩
  refine Xd (fun w22 e22 => ?_)
  have m22 := m21.ext e22
  have hX23 := m22
  rw [hRM11] at hX23
  have m24 : Mem w22 (Qy w0) [(b6, .cells #[(u64 1#64), (u64 0#64), (u64 0#64), (u64 0#64), (u64 0#64), (u64 0), (u64 0), (u64 0), (u64 0), (u64 0)] 129 (0, 0)), (b7, .cells #[(u64 0), (u64 0), (u64 0), (u64 0), (u64 0), (u64 0), (u64 0), (u64 0), (u64 0), (u64 0)] 129 (0, 0)), (b5, .cells (cl u64 (Yt u)) 126 (0, 0)), (b4, .cells (cl u8 (List.replicate 32 0)) 23 (0, 0)), (b3, .cells (cl u8 u) 23 (0, 0)), (b2, .cells (cl u8 (Yl ky)) 23 (0, 0))] := (by
   have hT := Mem.back hFM11 hX23
   try simp only [List.append_assoc, List.cons_append, List.nil_append, List.append_nil] at hT ⊢
   exact hT)
  refine Zw (Gj [(Yt u).map u64, ([1#64, 0#64, 0#64, 0#64, 0#64]).map u64] Fp rfl s17 (Ed (n := 5) (m := 5) (k := 10) (by first | rfl | (rw [List.length_map]; first | omega | (simp; done) | (simp; omega))) (Ed (n := 5) (m := 0) (k := 5) (by first | rfl | (rw [List.length_map]; first | omega | (simp; done) | (simp; omega))) Qcj rfl) rfl) (Js (Jn Xl _) (Js (Jn Xl _) Bz)) m24.h1 rfl rfl) ?_
  rintro _ w25 uq25
  have m25 : Mem _ _ [_, (b7, .cells (Zl [(Yt u).map u64, ([1#64, 0#64, 0#64, 0#64, 0#64]).map u64]) 129 (0, 0)), _, _, _, _] := m24.upd1 uq25
  refine rN ?_
  exact ⟨b6, b7, s0, s1, s2, s3, s4, s5, rfl, rfl, m25⟩
 rintro fr26 w27 ⟨c6, c7, s0, s1, s2, s3, s4, s5, s6, s7, m27⟩
 refine Qg (sR ?_)
 refine Qa rfl (Qc (v := (i64 254)) rfl) ?_
 refine rN (Qo ?_)
 refine Yo (fun g wv => ∃ (j : Nat), (j ≤ 255) ∧ g 0 = (agg u8 ky) ∧ g 1 = (agg u8 u) ∧ g 2 = (ptr b2 0) ∧ g 3 = (ptr b3 0) ∧ g 4 = (ptr b4 0) ∧ g 5 = (ptr b5 0) ∧ g 6 = (ptr c6 0) ∧ g 7 = (ptr c7 0) ∧ g 8 = (i64 (254 - (j : Int))) ∧ Mem wv (Qy w0) [(c6, .cells (Zl [((Yy (Yl ky) (Yt u) j).px).map u64, ((Yy (Yl ky) (Yt u) j).pz).map u64]) 129 (0, 0)), (c7, .cells (Zl [((Yy (Yl ky) (Yt u) j).qx).map u64, ((Yy (Yl ky) (Yt u) j).qz).map u64]) 129 (0, 0)), (b5, .cells (cl u64 (Yt u)) 126 (0, 0)), (b4, .cells (cl u8 (List.replicate 32 0)) 23 (0, 0)), (b2, .cells (cl u8 (Yl ky)) 23 (0, 0))]) (fun g wv => (RowKit.intOf (g 8) + 1).toNat) ?_ ?_
 have m28 := Mem.drop [_] _ (Mem.pick [_, _, _, _] [_] _ m27)
 ·exact ⟨0, oM, s0, s1, s2, s3, s4, s5, s6, s7, rfl, (by rw [Qlf]; exact m28)⟩
 rintro fr29 w30 ⟨j, hj, s0, s1, s2, s3, s4, s5, s6, s7, s8, m30⟩
 have z8 := s8
 have hL := Qnv (Yl ky) hrl j
 have hL1 := hL.px
 have hL2 := hL.pz
 have hL3 := hL.qx
 have hL4 := hL.qz
 have hS := Qbb (Yy (Yl ky) (Yt u) j).px (Yy (Yl ky) (Yt u) j).pz (Yy (Yl ky) (Yt u) j).qx (Yy (Yl ky) (Yt u) j).qz (Yt u)
 have hT := Qbb (Yy (Yl ky) (Yt u) j).qx (Yy (Yl ky) (Yt u) j).qz (Yy (Yl ky) (Yt u) j).px (Yy (Yl ky) (Yt u) j).pz (Yt u)
 have hSpx := hS.px
 have hSpz := hS.pz
 have hSqx := hS.qx
 have hSqz := hS.qz
 have hTpx := hT.px
 have hTpz := hT.pz
 have hTqx := hT.qx
 have hTqz := hT.qz
 refine Qg (sR ?_)
 refine rM rfl s8 <| Qa rfl (X5 (b := 0) rfl rfl) <| rN ?_
 refine Xv rfl (fun hc31 => ?_) (fun hc31 => ?_)
 ·
  have hc31p := of_decide_eq_true hc31
  refine Q7 (Qh (Qg (Qo (sR ?_))))
  refine rM rfl s8 <| Qa rfl (Jf.cast (congrArg i64 (show (254 - (j : Int)) / 8 = (((254 - j) / 8 : Nat) : Int) by omega)) (Wy (b := 8) rfl rfl oM oM oM)) <| Qa rfl (Qd (r := ((254 - j) / 8)) oM X3 X6 s2 rfl oM sD) <| Qa (v := (u8 ((Yl ky).getD ((254 - j) / 8) 0))) rfl (Qn Vm rfl rfl m30.h4 (Qx _ _ 0 sD)) <| rM rfl s8 <| Qa rfl (Jf.cast (congrArg i64 (show (254 - (j : Int)) % 8 = (((254 - j) % 8 : Nat) : Int) by omega)) (Jy (b := 8) rfl rfl oM oM oM)) <| Qa rfl (Qd6 rfl rfl oM) <| Qa rfl (Qd7 (b := 1#8) rfl rfl) <| Qa rfl (Qbm (b := 0#8) rfl rfl) <| rN ?_
  refine Xv rfl (fun hc32 => ?_) (fun hc32 => ?_)
  ·
   have hc32p := eq_of_beq hc32
   refine Qe <| Qa rfl (Jr Dn Fp s6 m30.h0) <| Qa rfl (Jr Dn Fp s7 m30.h1) <| Qa rfl (Qw Xg rfl Ya s5 m30.h2 sZ) <| Za rfl (oc80 (Vx rfl rfl rfl) (Qm1 _ _ _ _ _ _ sD sD sD sD sD)) ?_
   rintro _ w33 ⟨rfl, e33⟩
   have m33 := m30.ext e33
   refine rM rfl rfl <| Qa (v := (Value.agg (Zl [((Eg ((Yy (Yl ky) (Yt u) j).px) ((Yy (Yl ky) (Yt u) j).pz) ((Yy (Yl ky) (Yt u) j).qx) ((Yy (Yl ky) (Yt u) j).qz) (Yt u)).px).map u64, ((Eg ((Yy (Yl ky) (Yt u) j).px) ((Yy (Yl ky) (Yt u) j).pz) ((Yy (Yl ky) (Yt u) j).qx) ((Yy (Yl ky) (Yt u) j).qz) (Yt u)).pz).map u64]))) rfl (Zo rfl rfl) <| Qa (v := (Value.agg (Zl [((Eg ((Yy (Yl ky) (Yt u) j).px) ((Yy (Yl ky) (Yt u) j).pz) ((Yy (Yl ky) (Yt u) j).qx) ((Yy (Yl ky) (Yt u) j).qz) (Yt u)).qx).map u64, ((Eg ((Yy (Yl ky) (Yt u) j).px) ((Yy (Yl ky) (Yt u) j).pz) ((Yy (Yl ky) (Yt u) j).qx) ((Yy (Yl ky) (Yt u) j).qz) (Yt u)).qz).map u64]))) rfl (Zo rfl rfl) <| Zw (Ky Fp s6 rfl m33.h0 (Js (Jn Xl _) (Js (Jn Xl _) Bz))) ?_
   rintro _ w35 uq35
   have m35 := m33.upd0 uq35
   refine Zw (Ky Fp s7 rfl m35.h1 (Js (Jn Xl _) (Js (Jn Xl _) Bz))) ?_
   rintro _ w36 uq36
   have m36 := m35.upd1 uq36
   refine Zr (Qi (Qe ?_))
   refine rM rfl s8 <| Qa rfl (Zp (b := 1) rfl rfl oM oM) <| Qa rfl (Qc (v := (i64 ((254 - (j : Int)) - 1))) rfl) <| rN ?_
   exact ⟨⟨j + 1, oM, s0, s1, s2, s3, s4, s5, s6, s7, (show i64 (254 - (j : Int) - 1) = i64 (254 - ((j + 1 : Nat) : Int)) from congrArg i64 oM), (by rw [ladGo_t (k := (Yl ky)) (x1 := (Yt u)) (j := j) hc32]; exact m36)⟩, (by show (RowKit.intOf (i64 (254 - (j : Int) - 1)) + 1).toNat < (RowKit.intOf _ + 1).toNat; rw [z8]; simp only [RowKit.intOf, i64]; omega)⟩
  ·
   have hc32p := ne_of_beq_false hc32
   refine Qe <| Qa rfl (Jr Dn Fp s7 m30.h1) <| Qa rfl (Jr Dn Fp s6 m30.h0) <| Qa rfl (Qw Xg rfl Ya s5 m30.h2 sZ) <| Za rfl (oc80 (Vx rfl rfl rfl) (Qm1 _ _ _ _ _ _ sD sD sD sD sD)) ?_
   rintro _ w37 ⟨rfl, e37⟩
   have m37 := m30.ext e37
   refine rM rfl rfl <| Qa (v := (Value.agg (Zl [((Eg ((Yy (Yl ky) (Yt u) j).qx) ((Yy (Yl ky) (Yt u) j).qz) ((Yy (Yl ky) (Yt u) j).px) ((Yy (Yl ky) (Yt u) j).pz) (Yt u)).px).map u64, ((Eg ((Yy (Yl ky) (Yt u) j).qx) ((Yy (Yl ky) (Yt u) j).qz) ((Yy (Yl ky) (Yt u) j).px) ((Yy (Yl ky) (Yt u) j).pz) (Yt u)).pz).map u64]))) rfl (Zo rfl rfl) <| Qa (v := (Value.agg (Zl [((Eg ((Yy (Yl ky) (Yt u) j).qx) ((Yy (Yl ky) (Yt u) j).qz) ((Yy (Yl ky) (Yt u) j).px) ((Yy (Yl ky) (Yt u) j).pz) (Yt u)).qx).map u64, ((Eg ((Yy (Yl ky) (Yt u) j).qx) ((Yy (Yl ky) (Yt u) j).qz) ((Yy (Yl ky) (Yt u) j).px) ((Yy (Yl ky) (Yt u) j).pz) (Yt u)).qz).map u64]))) rfl (Zo rfl rfl) <| Zw (Ky Fp s7 rfl m37.h1 (Js (Jn Xl _) (Js (Jn Xl _) Bz))) ?_
   rintro _ w39 uq39
   have m39 := m37.upd1 uq39
   refine Zw (Ky Fp s6 rfl m39.h0 (Js (Jn Xl _) (Js (Jn Xl _) Bz))) ?_
   rintro _ w40 uq40
   have m40 := m39.upd0 uq40
   refine Zr (Qi (Qe ?_))
   refine rM rfl s8 <| Qa rfl (Zp (b := 1) rfl rfl oM oM) <| Qa rfl (Qc (v := (i64 ((254 - (j : Int)) - 1))) rfl) <| rN ?_
   exact ⟨⟨j + 1, oM, s0, s1, s2, s3, s4, s5, s6, s7, (show i64 (254 - (j : Int) - 1) = i64 (254 - ((j + 1 : Nat) : Int)) from congrArg i64 oM), (by rw [ladGo_f (k := (Yl ky)) (x1 := (Yt u)) (j := j) hc32]; exact m40)⟩, (by show (RowKit.intOf (i64 (254 - (j : Int) - 1)) + 1).toNat < (RowKit.intOf _ + 1).toNat; rw [z8]; simp only [RowKit.intOf, i64]; omega)⟩
 ·
  have hc31p := of_decide_eq_false hc31
  obtain rfl : j = 255 := by omega
  refine X0 ?_
  refine Qr (Qr (Xf ?_))
  refine Qg <| Xq (dl 5) 5 (by kernel_rfl) <| Qj rfl rfl (fun _ _hx => Xi (r := 0) Dn rfl (by first | rfl | omega) Ya rfl s6) <| Qj rfl rfl (fun _ _hx => Vk 0 Xg Ya rfl (m30.ext _hx).h0 rfl) <| Qj rfl rfl (fun _ _hx => Xi (r := 5) Dn rfl (by first | rfl | omega) Ya rfl s6) <| Qj rfl rfl (fun _ _hx => Vk 1 Xg Ya rfl (m30.ext _hx).h0 rfl) <| Kv rfl rfl (fun w41 e41 => oc82 (Jj rfl) (c_inv5 _ _ sD)) ?_
  refine Xd (fun w44 e44 => ?_)
  have m44 := m30.ext e44
  refine Za rfl (Qd4 (Xr rfl rfl) (U6 _ _ _ sD sD)) ?_
  rintro _ w45 ⟨rfl, e45⟩
  have m45 := m44.ext e45
  refine Za rfl (oc83 (Jj rfl) (c_ebytes _ _ sD)) ?_
  rintro _ w47 ⟨rfl, e47⟩
  have m47 := m45.ext e47
  refine Zw (Qm (f := u8) (l := Nz (Qq ((Yy (Yl ky) (Yt u) 255).px) (invL ((Yy (Yl ky) (Yt u) 255).pz)))) Qu Z9 s4 rfl sD m47.h3 sZ rfl) ?_
  rintro _ w49 uq49
  have m49 := m47.upd3 uq49
  refine rN (Xt ?_)
  refine Ze [(agg u8 (Nz (Qq ((Yy (Yl ky) (Yt u) 255).px) (invL ((Yy (Yl ky) (Yt u) 255).pz)))))] ⟨⟨_, s4, Xo X3 rfl Z9 m49.h3 sZ⟩, trivial⟩ ?_
  exact ⟨by unfold Y9 invL; rfl, m49.toExt⟩
theorem Qh7 (ky : List (BitVec 8)) (w0 : World)  (hk : ky.length = 32) : Xz Tryd.prog 31 #[(agg u8 ky)] w0 (fun r w1 => r = (agg u8 (Y9 ky We)) ∧ Ext w0 w1) := by
 refine Zd (args := [(agg u8 ky)]) Tryd.func31 rfl Tryd.ntmps31 Tryd.results31 rfl ?_
 have m0 : Mem w0 (Qy w0) [] := Mem.of_world w0
 refine sR <| Za rfl (Z8 (f := u8) (l := ky) m0 rfl) ?_
 rintro _ w1 ⟨b1, rfl, e1, m1⟩
 refine Za rfl (Zg m1 Z9) ?_
 rintro _ w2 ⟨b2, rfl, e2, m2⟩
 refine rN (sR ?_)
 refine Qa rfl (Qw X3 rfl Z9 rfl m2.h1 sZ) <| Qa rfl (Ve (c := (cl u8 ([9#8, 0#8, 0#8, 0#8, 0#8, 0#8, 0#8, 0#8, 0#8, 0#8, 0#8, 0#8, 0#8, 0#8, 0#8, 0#8, 0#8, 0#8, 0#8, 0#8, 0#8, 0#8, 0#8, 0#8, 0#8, 0#8, 0#8, 0#8, 0#8, 0#8, 0#8, 0#8]))) Z9 X3 X6 (Y2 (i := 0) (v := (u8 9#8)) (cs := #[(u8 9#8)]) rfl rfl Vo) (by kernel_rfl)) <| Za rfl (oc57 (Xr rfl rfl) (Qm6 _ _ _ sD sD)) ?_
 rintro _ w3 ⟨rfl, e3⟩
 have m3 := m2.ext e3
 refine Zw (Qm (f := u8) (l := Y9 ky ([9#8, 0#8, 0#8, 0#8, 0#8, 0#8, 0#8, 0#8, 0#8, 0#8, 0#8, 0#8, 0#8, 0#8, 0#8, 0#8, 0#8, 0#8, 0#8, 0#8, 0#8, 0#8, 0#8, 0#8, 0#8, 0#8, 0#8, 0#8, 0#8, 0#8, 0#8, 0#8])) Qu Z9 rfl rfl sD m3.h0 sZ rfl) ?_
 rintro _ w5 uq5
 have m5 := m3.upd0 uq5
 refine rN (Xt ?_)
 refine Ze [(agg u8 (Y9 ky ([9#8, 0#8, 0#8, 0#8, 0#8, 0#8, 0#8, 0#8, 0#8, 0#8, 0#8, 0#8, 0#8, 0#8, 0#8, 0#8, 0#8, 0#8, 0#8, 0#8, 0#8, 0#8, 0#8, 0#8, 0#8, 0#8, 0#8, 0#8, 0#8, 0#8, 0#8, 0#8])))] ⟨⟨_, rfl, Xo X3 rfl Z9 m5.h0 sZ⟩, trivial⟩ ?_
 exact ⟨rfl, m5.toExt⟩
theorem c_new5 (ky : List (BitVec 8)) (w0 : World)  (hk : ky.length = 32) : Xz Tryd.prog 27 #[(agg u8 ky)] w0 (fun r w1 => r = (Value.agg (Zl [ky.map u8, (Y9 ky We).map u8])) ∧ Ext w0 w1) := by
 refine Zd (args := [(agg u8 ky)]) Tryd.func27 rfl Tryd.ntmps27 Tryd.results27 rfl ?_
 have m0 : Mem w0 (Qy w0) [] := Mem.of_world w0
 refine sR <| Za rfl (Z8 (f := u8) (l := ky) m0 rfl) ?_
 rintro _ w1 ⟨b1, rfl, e1, m1⟩
 refine Za rfl (Yj m1 Qct) ?_
 rintro _ w2 ⟨b2, rfl, e2, m2⟩
 refine rN (Qg ?_)
 refine Xq [(0, false), (1, false), (2, false)] 3 (by kernel_rfl) <| Qj rfl rfl (fun _ _hx => Qw X3 rfl Z9 rfl (m2.ext _hx).h1 sZ) <| Qj rfl rfl (fun _ _hx => Qw X3 rfl Z9 rfl (m2.ext _hx).h1 sZ) <| Kv rfl rfl (fun w3 e3 => oc31 (Jj rfl) (Qh7 _ _ sD)) ?_
 refine Xd (fun w6 e6 => ?_)
 have m6 := m2.ext e6
 refine Qa rfl (Vd (c := (Zl [ky.map u8, (Y9 ky We).map u8])) (pl := [(0, 32), (32, 32)]) Qct Qex (by kernel_rfl) (Y2 (i := 0) (v := (agg u8 ky)) (cs := (cl u8 ky)) rfl rfl (Y2 (i := 1) (v := (agg u8 (Y9 ky We))) (cs := (cl u8 (Y9 ky We))) rfl rfl Vo)) (Wv (L := [(List.replicate 32 0).map u8, (List.replicate 32 0).map u8]) 0 [ky.map u8, (List.replicate 32 0).map u8] rfl (Wi u8 _).symm rfl (Wv 1 [ky.map u8, (Y9 ky We).map u8] rfl (Wi u8 _).symm rfl F8))) <| Zw (Gj [ky.map u8, (Y9 ky We).map u8] Qct rfl rfl (Ed (n := 32) (m := 32) (k := 64) (by first | rfl | (rw [List.length_map]; first | omega | (simp; done) | (simp; omega))) (Ed (n := 32) (m := 0) (k := 32) (by first | rfl | (rw [List.length_map]; first | omega | (simp; done) | (simp; omega))) Qcj rfl) rfl) (Js (Jn Qu _) (Js (Jn Qu _) Bz)) m6.h0 rfl rfl) ?_
 rintro _ w7 uq7
 have m7 : Mem _ _ [(b2, .cells (Zl [ky.map u8, (Y9 ky We).map u8]) 39 (0, 0)), _] := m6.upd0 uq7
 refine rN (Xt ?_)
 refine Ze [(Value.agg (Zl [ky.map u8, (Y9 ky We).map u8]))] ⟨⟨_, rfl, Gt Qex Qct m7.h0⟩, trivial⟩ ?_
 exact ⟨rfl, m7.toExt⟩
theorem Qoh (own pub ot : List (BitVec 8)) (w0 : World)  (ho : own.length = 32) (hp : pub.length = 32) (ht : ot.length = 32) : Xz Tryd.prog 41 #[(Value.agg (Zl [own.map u8, pub.map u8])), (agg u8 ot)] w0 (fun r w1 => r = (agg u8 (Y9 own ot)) ∧ Ext w0 w1) := by
 refine Zd (args := [(Value.agg (Zl [own.map u8, pub.map u8])), (agg u8 ot)]) Tryd.func41 rfl Tryd.ntmps41 Tryd.results41 rfl ?_
 have m0 : Mem w0 (Qy w0) [] := Mem.of_world w0
 refine sR <| Za rfl (Gx (cs := (Zl [own.map u8, pub.map u8])) m0 rfl) ?_
 rintro _ w1 ⟨b2, rfl, e1, m1⟩
 refine Za rfl (Z8 (f := u8) (l := ot) m1 rfl) ?_
 rintro _ w2 ⟨b3, rfl, e2, m2⟩
 refine Za rfl (Zg m2 Z9) ?_
 rintro _ w3 ⟨b4, rfl, e3, m3⟩
 refine rN (sR ?_)
 refine Qa rfl (Xi (r := 0) Qex rfl (by first | rfl | omega) Z9 rfl rfl) <| Qa rfl (Vk 0 X3 Z9 rfl m3.h2 rfl) <| Qa rfl (Qw X3 rfl Z9 rfl m3.h1 sZ) <| Za rfl (oc57 (Xr rfl rfl) (Qm6 _ _ _ sD sD)) ?_
 rintro _ w4 ⟨rfl, e4⟩
 have m4 := m3.ext e4
 refine Zw (Qm (f := u8) (l := Y9 own ot) Qu Z9 rfl rfl sD m4.h0 sZ rfl) ?_
 rintro _ w6 uq6
 have m6 := m4.upd0 uq6
 refine rN (Xt ?_)
 refine Ze [(agg u8 (Y9 own ot))] ⟨⟨_, rfl, Xo X3 rfl Z9 m6.h0 sZ⟩, trivial⟩ ?_
 exact ⟨rfl, m6.toExt⟩
end Go.Proofs.YtkmiemlpfkfiiaaDoor
