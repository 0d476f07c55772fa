/- Contracts: the curve, second part. Conditions: none beyond those that each theorem states. -/
import Derived.Test.YtkmiemlpfkfiiaaDoorCu1
import Derived.Test.YtkmiemlpfkfiiaaDoorFwR
namespace Go.Proofs.YtkmiemlpfkfiiaaDoor
set_option linter.unusedVariables false
set_option linter.unusedSimpArgs false
def Y0 : List (BitVec 8) := [9#8, 0#8, 0#8, 0#8, 0#8, 0#8, 0#8, 0#8, 0#8, 0#8, 0#8, 0#8, 0#8, 0#8, 0#8, 0#8, 0#8, 0#8, 0#8, 0#8, 0#8, 0#8, 0#8, 0#8, 0#8, 0#8, 0#8, 0#8, 0#8, 0#8, 0#8, 0#8]
@[simp] theorem base9_length : Y0.length = 32 := rfl
attribute [local irreducible] Qe Qz Ql Kw Ea Zi Ws Az Ku Xr Zt Gz Rk Kt Ze
theorem c_inv5 (x : List (BitVec 64)) (w0 : World)  (hx : x.length = 5) : X8 Tryd.prog 82 #[(agg u64 x)] w0 (fun r w1 => r = (agg u64 (invL x)) ∧ Ext w0 w1) := by
 refine Zp (args := [(agg u64 x)]) Tryd.func82 rfl Tryd.ntmps82 Tryd.results82 rfl ?_
 have hm0 : Mem w0 (Qo w0) [] := Mem.of_world w0
 refine sR <| Zo rfl (X4 (f := u64) (l := x) hm0 rfl) ?_
 rintro _ w1 ⟨b1, rfl, _ew1, hm1⟩
 refine Zo rfl (Zy hm1 Xm) ?_
 rintro _ w2 ⟨b2, rfl, _ew2, hm2⟩
 refine rN (sR ?_)
 refine Qb rfl (Gn (c := (cl u64 ([1#64, 0#64, 0#64, 0#64, 0#64]))) Xm Z7 Z8 (Yh (i := 0) (v := (u64 1#64)) (cs := #[(u64 1#64)]) rfl rfl Wy) (by kernel_rfl)) <| Zo rfl (Zy hm2 Xm) ?_
 rintro _ w3 ⟨b3, rfl, _ew3, hm3⟩
 refine Xf (Zl (f := u64) (l := [1#64, 0#64, 0#64, 0#64, 0#64]) Xa Xm rfl rfl sD hm3.h0 sZ rfl) ?_
 rintro _ w4 uq4
 have hm4 := hm3.upd0 uq4
 refine rN (Qh (sR ?_))
 refine Qb rfl (Qd (v := (i64 254)) rfl) ?_
 refine rN (Qv ?_)
 refine Jg (fun g wv => ∃ (j : Nat), (j ≤ 255) ∧ g 0 = (agg u64 x) ∧ g 1 = (ptr b1 0) ∧ g 2 = (ptr b2 0) ∧ g 3 = (ptr b3 0) ∧ g 4 = (i64 (254 - (j : Int))) ∧ Mem wv (Qo w0) [(b3, .cells (cl u64 (Kw x j)) 126 (0, 0)), (b2, .cells (cl u64 (List.replicate 5 0)) 126 (0, 0)), (b1, .cells (cl u64 x) 126 (0, 0))]) (fun g wv => (RowKit.intOf (g 4) + 1).toNat) ?_ ?_
 · exact ⟨0, oM, rfl, rfl, rfl, rfl, rfl, (by rw [Qf6]; exact hm4)⟩
 · rintro fr5 w6 ⟨j, hj, s0, s1, s2, s3, s4, hm6⟩
   have z4 := s4
   have hil := Ar x j
   refine Qh (sR ?_)
   refine rM rfl s4 <| Qb rfl (Y2 (b := 0) rfl rfl) <| rN ?_
   refine Xy rfl (fun hc7 => ?_) (fun hc7 => ?_)
   ·
     have hc7p := of_decide_eq_true hc7
     refine Zc (Qi (Qh (Qv (sR ?_))))
     refine Qb (v := (agg u64 (Kw x j))) rfl (Z9 Z7 rfl Xm s3 hm6.h0 sZ) <| Qb (v := (agg u64 (Kw x j))) rfl (Z9 Z7 rfl Xm s3 hm6.h0 sZ) <| Zo rfl (Qx Tryd.func81 Qbj Qa3 (Yk rfl rfl) (Gh (Kw x j) (Kw x j) _ sD sD)) ?_
     rintro _ w8 ⟨rfl, _ew8⟩
     have hm8 := hm6.ext _ew8
     refine Xf (Zl (f := u64) (l := Qe (Kw x j) (Kw x j)) Xa Xm s3 rfl sD hm8.h0 sZ rfl) ?_
     rintro _ w10 uq10
     have hm10 := hm8.upd0 uq10
     refine rN (sR ?_)
     refine rM rfl s4 <| Qb rfl (Wn (b := 2) rfl rfl) <| Qb rfl (Qc (v := (bl ((254 - (j : Int)) != 2))) rfl) ?_
     rcases Bool.eq_false_or_eq_true ((254 - (j : Int)) != 2) with hb11 | hb11
     ·
       have hb11p := bne_iff_ne.1 hb11
       refine Q7 (s := 15) rfl rfl hb11 rfl (Qc s4) <| Q7 (s := 15) rfl rfl hb11 rfl (Wn (b := 4) rfl rfl) <| Qb rfl (Xk rfl hb11 rfl) <| rN ?_
       refine CW.abs (fun g => g 0 = (agg u64 x) ∧ g 1 = (ptr b1 0) ∧ g 2 = (ptr b2 0) ∧ g 3 = (ptr b3 0) ∧ g 4 = (i64 (254 - (j : Int))) ∧ g 7 = (bl (decide (0 ≤ (254 - (j : Int))))) ∧ g 18 = (bl ((254 - (j : Int)) != 4)) ∧ True) ⟨s0, s1, s2, s3, s4, rfl, rfl, trivial⟩ ?_
       rintro fr12 ⟨s0, s1, s2, s3, s4, s7, s18, _⟩
       refine Xy s18 (fun hc13 => ?_) (fun hc13 => ?_)
       ·
         have hc13p := bne_iff_ne.1 hc13
         refine Qg <| Qb (v := (agg u64 (Qe (Kw x j) (Kw x j)))) rfl (Z9 Z7 rfl Xm s3 hm10.h0 sZ) <| Qb (v := (agg u64 x)) rfl (Z9 Z7 rfl Xm s1 hm10.h2 sZ) <| Zo rfl (Qx Tryd.func81 Qbj Qa3 (Yk rfl rfl) (Gh (Qe (Kw x j) (Kw x j)) x _ sD sD)) ?_
         rintro _ w14 ⟨rfl, _ew14⟩
         have hm14 := hm10.ext _ew14
         refine Xf (Zl (f := u64) (l := Qe (Qe (Kw x j) (Kw x j)) x) Xa Xm s3 rfl sD hm14.h0 sZ rfl) ?_
         rintro _ w16 uq16
         have hm16 := hm14.upd0 uq16
         refine Zz (Qn (Qg ?_))
         refine rM rfl s4 <| Qb rfl (Yo (b := 1) rfl rfl oM oM) <| Qb rfl (Qd (v := (i64 ((254 - (j : Int)) - 1))) rfl) <| rN ?_
         have hin : Qe (Qe (Kw x j) (Kw x j)) x = Kw x (j + 1) := Qhm (by clear hil hx; omega)
         exact ⟨⟨j + 1, oM, s0, s1, s2, s3, (show i64 (254 - (j : Int) - 1) = i64 (254 - ((j + 1 : Nat) : Int)) from congrArg i64 oM), (by rw [← hin]; exact hm16)⟩, (by show (RowKit.intOf (i64 (254 - (j : Int) - 1)) + 1).toNat < (RowKit.intOf _ + 1).toNat; rw [z4]; simp only [RowKit.intOf, i64]; omega)⟩
       ·
         have hc13p := Kr hc13
         refine Zc (Qn (Qg ?_))
         refine rM rfl s4 <| Qb rfl (Yo (b := 1) rfl rfl oM oM) <| Qb rfl (Qd (v := (i64 ((254 - (j : Int)) - 1))) rfl) <| rN ?_
         have hin : Qe (Kw x j) (Kw x j) = Kw x (j + 1) := Qfh (by clear hil hx; omega)
         exact ⟨⟨j + 1, oM, s0, s1, s2, s3, (show i64 (254 - (j : Int) - 1) = i64 (254 - ((j + 1 : Nat) : Int)) from congrArg i64 oM), (by rw [← hin]; exact hm10)⟩, (by show (RowKit.intOf (i64 (254 - (j : Int) - 1)) + 1).toNat < (RowKit.intOf _ + 1).toNat; rw [z4]; simp only [RowKit.intOf, i64]; omega)⟩
     ·
       have hb11p := Kr hb11
       refine Zh (s := 15) rfl rfl hb11 rfl <| Zh (s := 15) rfl rfl hb11 rfl <| Qb rfl (Xe rfl hb11 rfl) <| rN ?_
       refine CW.abs (fun g => g 0 = (agg u64 x) ∧ g 1 = (ptr b1 0) ∧ g 2 = (ptr b2 0) ∧ g 3 = (ptr b3 0) ∧ g 4 = (i64 (254 - (j : Int))) ∧ g 7 = (bl (decide (0 ≤ (254 - (j : Int))))) ∧ g 18 = (bl false) ∧ True) ⟨s0, s1, s2, s3, s4, rfl, rfl, trivial⟩ ?_
       rintro fr17 ⟨s0, s1, s2, s3, s4, s7, s18, _⟩
       refine Yt s18 (by decide) ?_
       refine Zc (Qn (Qg ?_))
       refine rM rfl s4 <| Qb rfl (Yo (b := 1) rfl rfl oM oM) <| Qb rfl (Qd (v := (i64 ((254 - (j : Int)) - 1))) rfl) <| rN ?_
       have hin : Qe (Kw x j) (Kw x j) = Kw x (j + 1) := Qfh (by clear hil hx; omega)
       exact ⟨⟨j + 1, oM, s0, s1, s2, s3, (show i64 (254 - (j : Int) - 1) = i64 (254 - ((j + 1 : Nat) : Int)) from congrArg i64 oM), (by rw [← hin]; exact hm10)⟩, (by show (RowKit.intOf (i64 (254 - (j : Int) - 1)) + 1).toNat < (RowKit.intOf _ + 1).toNat; rw [z4]; simp only [RowKit.intOf, i64]; omega)⟩
   ·
     have hc7p := of_decide_eq_false hc7
     obtain rfl : j = 255 := by omega
     have hil := Ar x 255
     refine Yb ?_
     refine Zb (Zb (Xw ?_))
     refine sR <| Qb (v := (agg u64 (Kw x 255))) rfl (Z9 Z7 rfl Xm s3 hm6.h0 sZ) <| Xf (Zl (f := u64) (l := Kw x 255) Xa Xm s2 rfl sD hm6.h1 sZ rfl) ?_
     rintro _ w18 uq18
     have hm18 := hm6.upd1 uq18
     refine rN (Xn ?_)
     refine Zj [(agg u64 (Kw x 255))] ⟨⟨_, s2, X6 Z7 rfl Xm hm18.h1 sZ⟩, trivial⟩ ?_
     exact ⟨by unfold invL; rfl, hm18.toExt⟩
set_option maxHeartbeats 1000000 in
theorem c_ebytes (e : List (BitVec 64)) (w0 : World)  (he : e.length = 5) : X8 Tryd.prog 83 #[(agg u64 e)] w0 (fun r w1 => r = (agg u8 (Az e)) ∧ Ext w0 w1) := by
 refine Zp (args := [(agg u64 e)]) Tryd.func83 rfl Tryd.ntmps83 Tryd.results83 rfl ?_
 have hm0 : Mem w0 (Qo w0) [] := Mem.of_world w0
 refine sR <| Zo rfl (X4 (f := u64) (l := e) hm0 rfl) ?_
 rintro _ w1 ⟨b1, rfl, _ew1, hm1⟩
 refine Zo rfl (Zy hm1 Z5) ?_
 rintro _ w2 ⟨b2, rfl, _ew2, hm2⟩
 refine rN (sR ?_)
 refine Qb (v := (agg u64 e)) rfl (Z9 Z7 rfl Xm rfl hm2.h1 sZ) <| Zo rfl (Qx Tryd.func101 bd101 nm101 (Ye rfl) (Qcc e _ sD)) ?_
 rintro _ w3 ⟨rfl, _ew3⟩
 have hm3 := hm2.ext _ew3
 refine Xf (Zl (f := u64) (l := Gz e) Xa Xm rfl rfl sD hm3.h1 sZ rfl) ?_
 rintro _ w5 uq5
 have hm5 := hm3.upd1 uq5
 refine rN (Qh ?_)
 obtain ⟨e0, e1, e2, e3, e4, hce⟩ := Qcu (Gz e) (by rw [Gy, he])
 have hmC6 := hm5
 rw [hce] at hmC6
 refine Qg <| Qb (v := (agg u64 ([e0, e1, e2, e3, e4]))) rfl (Z9 Z7 rfl Xm rfl hmC6.h1 sZ) <| Zo rfl (Zy hmC6 Xm) ?_
 rintro _ w7 ⟨b3, rfl, _ew7, hm7⟩
 refine Xf (Zl (f := u64) (l := [e0, e1, e2, e3, e4]) Xa Xm rfl rfl sD hm7.h0 sZ rfl) ?_
 rintro _ w8 uq8
 have hm8 := hm7.upd0 uq8
 refine Qb rfl (Qd (v := (u64 19#64)) rfl) ?_
 refine rN (Qh (sR ?_))
 refine Qb rfl (Qc (v := (i64 0)) rfl) ?_
 refine rN (Qv ?_)
 refine Jw 6 ?_
 refine Zu (sR ?_)
 refine Qb rfl (Qs (a := 0) (b := 5) rfl rfl) ?_
 refine rN (Qh ?_)
 refine Zf rfl (by decide) ?_
 refine Zc (Qi (Qh (Qv (sR ?_))))
 refine Qb rfl (Qc (v := (i64 0)) rfl) <| Qb rfl (Qd (v := (i64 0)) rfl) <| rN ?_
 refine CW.abs (fun g => g 0 = (agg u64 e) ∧ g 1 = (ptr b1 0) ∧ g 2 = (ptr b2 0) ∧ g 3 = (ptr b3 0) ∧ g 4 = (u64 19#64) ∧ g 5 = (i64 0) ∧ g 10 = (i64 0) ∧ g 11 = (bl true) ∧ True) ⟨rfl, rfl, rfl, rfl, rfl, rfl, rfl, rfl, trivial⟩ ?_
 rintro fr9 ⟨s0, s1, s2, s3, s4, s5, s10, s11, _⟩
 refine sR <| rM rfl s5 <| Qb rfl (Qm (r := 0) (i := 0) oM Z7 Z8 s3 rfl oM oM) <| Qb (v := (u64 e0)) rfl (Qy X0 rfl rfl hm8.h0 (Zm _ _ 0 (by simp))) <| rM rfl s4 <| Qb rfl (Ym (b := 19#64) rfl rfl) <| Qb rfl (Qm (r := 0) (i := 0) oM Z7 Z8 s3 rfl oM oM) <| Xf (Zx (f := u64) (l' := [e0 + 19#64, e1, e2, e3, e4]) rfl Xa Z8 rfl rfl hm8.h0 (by simp) (.inl (Nat.zero_le _))) ?_
 rintro _ w10 uq10
 have hm10 := hm8.upd0 uq10
 refine rN (sR ?_)
 refine rM rfl s5 <| Qb rfl (Qm (r := 0) (i := 0) oM Z7 Z8 s3 rfl oM oM) <| Qb (v := (u64 (e0 + 19#64))) rfl (Qy X0 rfl rfl hm10.h0 (Zm _ _ 0 (by simp))) <| Qb rfl (X7 (b := 51) rfl rfl oM) <| Qb rfl (Qd (v := (u64 ((e0 + 19#64) >>> 51))) rfl) <| rN ?_
 refine CW.abs (fun g => g 0 = (agg u64 e) ∧ g 1 = (ptr b1 0) ∧ g 2 = (ptr b2 0) ∧ g 3 = (ptr b3 0) ∧ g 4 = (u64 ((e0 + 19#64) >>> 51)) ∧ g 5 = (i64 0) ∧ g 10 = (i64 0) ∧ g 11 = (bl true) ∧ True) ⟨s0, s1, s2, s3, rfl, s5, s10, s11, trivial⟩ ?_
 rintro fr11 ⟨s0, s1, s2, s3, s4, s5, s10, s11, _⟩
 refine Qg <| rM rfl s5 <| Qb rfl (Qm (r := 0) (i := 0) oM Z7 Z8 s3 rfl oM oM) <| Qb (v := (u64 (e0 + 19#64))) rfl (Qy X0 rfl rfl hm10.h0 (Zm _ _ 0 (by simp))) <| Qb rfl (Jq (b := 2251799813685247#64) rfl rfl) <| Qb rfl (Qm (r := 0) (i := 0) oM Z7 Z8 s3 rfl oM oM) <| Xf (Zx (f := u64) (l' := [(e0 + 19#64) &&& 2251799813685247#64, e1, e2, e3, e4]) rfl Xa Z8 rfl rfl hm10.h0 (by simp) (.inl (Nat.zero_le _))) ?_
 rintro _ w12 uq12
 have hm12 := hm10.upd0 uq12
 refine Zz (Qn (Qg ?_))
 refine Qb (v := (i64 1)) rfl (Qk (a := 0) (b := 1) s10 rfl oM oM) <| Qb rfl (Qc (v := (i64 1)) rfl) ?_
 refine rN (Zu (sR ?_))
 refine Qb rfl (Qs (a := 1) (b := 5) rfl rfl) ?_
 refine rN (Qh ?_)
 refine Zf rfl (by decide) ?_
 refine Zc (Qi (Qh (Qv (sR ?_))))
 refine Qb rfl (Qc (v := (i64 1)) rfl) <| Qb rfl (Qd (v := (i64 1)) rfl) ?_
 refine rN (sR ?_)
 refine Qb rfl (Qc (v := (i64 1)) rfl) <| Qb rfl (Qm (r := 1) (i := 1) oM Z7 Z8 s3 rfl oM oM) <| Qb (v := (u64 e1)) rfl (Qy X0 rfl rfl hm12.h0 (Zm _ _ 0 (by simp))) <| rM rfl s4 <| Qb rfl (Ym rfl rfl) <| Qb rfl (Qm (r := 1) (i := 1) oM Z7 Z8 s3 rfl oM oM) <| Xf (Zx (f := u64) (l' := [(e0 + 19#64) &&& 2251799813685247#64, e1 + ((e0 + 19#64) >>> 51), e2, e3, e4]) rfl Xa Z8 rfl rfl hm12.h0 (by simp) (.inl (Nat.zero_le _))) ?_
 rintro _ w13 uq13
 have hm13 := hm12.upd0 uq13
 refine rN ?_
 refine CW.abs (fun g => g 0 = (agg u64 e) ∧ g 1 = (ptr b1 0) ∧ g 2 = (ptr b2 0) ∧ g 3 = (ptr b3 0) ∧ g 4 = (u64 ((e0 + 19#64) >>> 51)) ∧ g 5 = (i64 1) ∧ g 10 = (i64 1) ∧ g 11 = (bl true) ∧ True) ⟨s0, s1, s2, s3, s4, rfl, rfl, rfl, trivial⟩ ?_
 rintro fr14 ⟨s0, s1, s2, s3, s4, s5, s10, s11, _⟩
 refine sR <| rM rfl s5 <| Qb rfl (Qm (r := 1) (i := 1) oM Z7 Z8 s3 rfl oM oM) <| Qb (v := (u64 (e1 + ((e0 + 19#64) >>> 51)))) rfl (Qy X0 rfl rfl hm13.h0 (Zm _ _ 0 (by simp))) <| Qb rfl (X7 (b := 51) rfl rfl oM) <| Qb rfl (Qd (v := (u64 ((e1 + ((e0 + 19#64) >>> 51)) >>> 51))) rfl) ?_
 refine rN (Qg ?_)
 refine rM rfl s5 <| Qb rfl (Qm (r := 1) (i := 1) oM Z7 Z8 s3 rfl oM oM) <| Qb (v := (u64 (e1 + ((e0 + 19#64) >>> 51)))) rfl (Qy X0 rfl rfl hm13.h0 (Zm _ _ 0 (by simp))) <| Qb rfl (Jq (b := 2251799813685247#64) rfl rfl) <| Qb rfl (Qm (r := 1) (i := 1) oM Z7 Z8 s3 rfl oM oM) <| Xf (Zx (f := u64) (l' := [(e0 + 19#64) &&& 2251799813685247#64, (e1 + ((e0 + 19#64) >>> 51)) &&& 2251799813685247#64, e2, e3, e4]) rfl Xa Z8 rfl rfl hm13.h0 (by simp) (.inl (Nat.zero_le _))) ?_
 rintro _ w15 uq15
 have hm15 := hm13.upd0 uq15
 refine Zz (Qn (Qg ?_))
 refine Qb (v := (i64 2)) rfl (Qk (a := 1) (b := 1) s10 rfl oM oM) <| Qb rfl (Qc (v := (i64 2)) rfl) <| rN ?_
 refine CR.abs (fun g => g 0 = (agg u64 e) ∧ g 1 = (ptr b1 0) ∧ g 2 = (ptr b2 0) ∧ g 3 = (ptr b3 0) ∧ g 4 = (u64 ((e1 + ((e0 + 19#64) >>> 51)) >>> 51)) ∧ g 5 = (i64 1) ∧ g 10 = (i64 2) ∧ g 11 = (bl true) ∧ True) ⟨s0, s1, s2, s3, rfl, s5, rfl, s11, trivial⟩ ?_
 rintro fr16 ⟨s0, s1, s2, s3, s4, s5, s10, s11, _⟩
 refine Zu (sR ?_)
 refine Qb rfl (Qs (a := 2) (b := 5) s10 rfl) ?_
 refine rN (Qh ?_)
 refine Zf rfl (by decide) ?_
 refine Zc (Qi (Qh (Qv (sR ?_))))
 refine rM rfl s10 <| Qb rfl (Qd (v := (i64 2)) rfl) ?_
 refine rN (sR ?_)
 refine Qb rfl (Qc (v := (i64 2)) rfl) <| Qb rfl (Qm (r := 2) (i := 2) oM Z7 Z8 s3 rfl oM oM) <| Qb (v := (u64 e2)) rfl (Qy X0 rfl rfl hm15.h0 (Zm _ _ 0 (by simp))) <| rM rfl s4 <| Qb rfl (Ym rfl rfl) <| Qb rfl (Qm (r := 2) (i := 2) oM Z7 Z8 s3 rfl oM oM) <| Xf (Zx (f := u64) (l' := [(e0 + 19#64) &&& 2251799813685247#64, (e1 + ((e0 + 19#64) >>> 51)) &&& 2251799813685247#64, e2 + ((e1 + ((e0 + 19#64) >>> 51)) >>> 51), e3, e4]) rfl Xa Z8 rfl rfl hm15.h0 (by simp) (.inl (Nat.zero_le _))) ?_
 rintro _ w17 uq17
 have hm17 := hm15.upd0 uq17
 refine rN (sR ?_)
 refine Qb rfl (Qc (v := (i64 2)) rfl) <| Qb rfl (Qm (r := 2) (i := 2) oM Z7 Z8 s3 rfl oM oM) <| Qb (v := (u64 (e2 + ((e1 + ((e0 + 19#64) >>> 51)) >>> 51)))) rfl (Qy X0 rfl rfl hm17.h0 (Zm _ _ 0 (by simp))) <| Qb rfl (X7 (b := 51) rfl rfl oM) <| Qb rfl (Qd (v := (u64 ((e2 + ((e1 + ((e0 + 19#64) >>> 51)) >>> 51)) >>> 51))) rfl) <| rN ?_
 refine CW.abs (fun g => g 0 = (agg u64 e) ∧ g 1 = (ptr b1 0) ∧ g 2 = (ptr b2 0) ∧ g 3 = (ptr b3 0) ∧ g 4 = (u64 ((e2 + ((e1 + ((e0 + 19#64) >>> 51)) >>> 51)) >>> 51)) ∧ g 5 = (i64 2) ∧ g 10 = (i64 2) ∧ g 11 = (bl true) ∧ True) ⟨s0, s1, s2, s3, rfl, rfl, s10, rfl, trivial⟩ ?_
 rintro fr18 ⟨s0, s1, s2, s3, s4, s5, s10, s11, _⟩
 refine Qg <| rM rfl s5 <| Qb rfl (Qm (r := 2) (i := 2) oM Z7 Z8 s3 rfl oM oM) <| Qb (v := (u64 (e2 + ((e1 + ((e0 + 19#64) >>> 51)) >>> 51)))) rfl (Qy X0 rfl rfl hm17.h0 (Zm _ _ 0 (by simp))) <| Qb rfl (Jq (b := 2251799813685247#64) rfl rfl) <| Qb rfl (Qm (r := 2) (i := 2) oM Z7 Z8 s3 rfl oM oM) <| Xf (Zx (f := u64) (l' := [(e0 + 19#64) &&& 2251799813685247#64, (e1 + ((e0 + 19#64) >>> 51)) &&& 2251799813685247#64, (e2 + ((e1 + ((e0 + 19#64) >>> 51)) >>> 51)) &&& 2251799813685247#64, e3, e4]) rfl Xa Z8 rfl rfl hm17.h0 (by simp) (.inl (Nat.zero_le _))) ?_
 rintro _ w19 uq19
 have hm19 := hm17.upd0 uq19
 refine Zz (Qn (Qg ?_))
 refine Qb (v := (i64 3)) rfl (Qk (a := 2) (b := 1) s10 rfl oM oM) <| Qb rfl (Qc (v := (i64 3)) rfl) ?_
 refine rN (Zu (sR ?_))
 refine Qb rfl (Qs (a := 3) (b := 5) rfl rfl) ?_
 refine rN (Qh ?_)
 refine Zf rfl (by decide) ?_
 refine Zc (Qi (Qh (Qv (sR ?_))))
 refine Qb rfl (Qc (v := (i64 3)) rfl) <| Qb rfl (Qd (v := (i64 3)) rfl) ?_
 refine rN (sR ?_)
 refine Qb rfl (Qc (v := (i64 3)) rfl) <| Qb rfl (Qm (r := 3) (i := 3) oM Z7 Z8 s3 rfl oM oM) <| Qb (v := (u64 e3)) rfl (Qy X0 rfl rfl hm19.h0 (Zm _ _ 0 (by simp))) <| rM rfl s4 <| Qb rfl (Ym rfl rfl) <| Qb rfl (Qm (r := 3) (i := 3) oM Z7 Z8 s3 rfl oM oM) <| Xf (Zx (f := u64) (l' := [(e0 + 19#64) &&& 2251799813685247#64, (e1 + ((e0 + 19#64) >>> 51)) &&& 2251799813685247#64, (e2 + ((e1 + ((e0 + 19#64) >>> 51)) >>> 51)) &&& 2251799813685247#64, e3 + ((e2 + ((e1 + ((e0 + 19#64) >>> 51)) >>> 51)) >>> 51), e4]) rfl Xa Z8 rfl rfl hm19.h0 (by simp) (.inl (Nat.zero_le _))) ?_
 rintro _ w20 uq20
 have hm20 := hm19.upd0 uq20
 refine rN ?_
 refine CW.abs (fun g => g 0 = (agg u64 e) ∧ g 1 = (ptr b1 0) ∧ g 2 = (ptr b2 0) ∧ g 3 = (ptr b3 0) ∧ g 4 = (u64 ((e2 + ((e1 + ((e0 + 19#64) >>> 51)) >>> 51)) >>> 51)) ∧ g 5 = (i64 3) ∧ g 10 = (i64 3) ∧ g 11 = (bl true) ∧ True) ⟨s0, s1, s2, s3, s4, rfl, rfl, rfl, trivial⟩ ?_
 rintro fr21 ⟨s0, s1, s2, s3, s4, s5, s10, s11, _⟩
 refine sR <| rM rfl s5 <| Qb rfl (Qm (r := 3) (i := 3) oM Z7 Z8 s3 rfl oM oM) <| Qb (v := (u64 (e3 + ((e2 + ((e1 + ((e0 + 19#64) >>> 51)) >>> 51)) >>> 51)))) rfl (Qy X0 rfl rfl hm20.h0 (Zm _ _ 0 (by simp))) <| Qb rfl (X7 (b := 51) rfl rfl oM) <| Qb rfl (Qd (v := (u64 ((e3 + ((e2 + ((e1 + ((e0 + 19#64) >>> 51)) >>> 51)) >>> 51)) >>> 51))) rfl) ?_
 refine rN (Qg ?_)
 refine rM rfl s5 <| Qb rfl (Qm (r := 3) (i := 3) oM Z7 Z8 s3 rfl oM oM) <| Qb (v := (u64 (e3 + ((e2 + ((e1 + ((e0 + 19#64) >>> 51)) >>> 51)) >>> 51)))) rfl (Qy X0 rfl rfl hm20.h0 (Zm _ _ 0 (by simp))) <| Qb rfl (Jq (b := 2251799813685247#64) rfl rfl) <| Qb rfl (Qm (r := 3) (i := 3) oM Z7 Z8 s3 rfl oM oM) <| Xf (Zx (f := u64) (l' := [(e0 + 19#64) &&& 2251799813685247#64, (e1 + ((e0 + 19#64) >>> 51)) &&& 2251799813685247#64, (e2 + ((e1 + ((e0 + 19#64) >>> 51)) >>> 51)) &&& 2251799813685247#64, (e3 + ((e2 + ((e1 + ((e0 + 19#64) >>> 51)) >>> 51)) >>> 51)) &&& 2251799813685247#64, e4]) rfl Xa Z8 rfl rfl hm20.h0 (by simp) (.inl (Nat.zero_le _))) ?_
 rintro _ w22 uq22
 have hm22 := hm20.upd0 uq22
 refine Zz (Qn (Qg ?_))
 refine Qb (v := (i64 4)) rfl (Qk (a := 3) (b := 1) s10 rfl oM oM) <| Qb rfl (Qc (v := (i64 4)) rfl) <| rN ?_
 refine CR.abs (fun g => g 0 = (agg u64 e) ∧ g 1 = (ptr b1 0) ∧ g 2 = (ptr b2 0) ∧ g 3 = (ptr b3 0) ∧ g 4 = (u64 ((e3 + ((e2 + ((e1 + ((e0 + 19#64) >>> 51)) >>> 51)) >>> 51)) >>> 51)) ∧ g 5 = (i64 3) ∧ g 10 = (i64 4) ∧ g 11 = (bl true) ∧ True) ⟨s0, s1, s2, s3, rfl, s5, rfl, s11, trivial⟩ ?_
 rintro fr23 ⟨s0, s1, s2, s3, s4, s5, s10, s11, _⟩
 refine Zu (sR ?_)
 refine Qb rfl (Qs (a := 4) (b := 5) s10 rfl) ?_
 refine rN (Qh ?_)
 refine Zf rfl (by decide) ?_
 refine Zc (Qi (Qh (Qv (sR ?_))))
 refine rM rfl s10 <| Qb rfl (Qd (v := (i64 4)) rfl) ?_
 refine rN (sR ?_)
 refine Qb rfl (Qc (v := (i64 4)) rfl) <| Qb rfl (Qm (r := 4) (i := 4) oM Z7 Z8 s3 rfl oM oM) <| Qb (v := (u64 e4)) rfl (Qy X0 rfl rfl hm22.h0 (Zm _ _ 0 (by simp))) <| rM rfl s4 <| Qb rfl (Ym rfl rfl) <| Qb rfl (Qm (r := 4) (i := 4) oM Z7 Z8 s3 rfl oM oM) <| Xf (Zx (f := u64) (l' := [(e0 + 19#64) &&& 2251799813685247#64, (e1 + ((e0 + 19#64) >>> 51)) &&& 2251799813685247#64, (e2 + ((e1 + ((e0 + 19#64) >>> 51)) >>> 51)) &&& 2251799813685247#64, (e3 + ((e2 + ((e1 + ((e0 + 19#64) >>> 51)) >>> 51)) >>> 51)) &&& 2251799813685247#64, e4 + ((e3 + ((e2 + ((e1 + ((e0 + 19#64) >>> 51)) >>> 51)) >>> 51)) >>> 51)]) rfl Xa Z8 rfl rfl hm22.h0 (by simp) (.inl (Nat.zero_le _))) ?_
 rintro _ w24 uq24
 have hm24 := hm22.upd0 uq24
 refine rN (sR ?_)
 refine Qb rfl (Qc (v := (i64 4)) rfl) <| Qb rfl (Qm (r := 4) (i := 4) oM Z7 Z8 s3 rfl oM oM) <| Qb (v := (u64 (e4 + ((e3 + ((e2 + ((e1 + ((e0 + 19#64) >>> 51)) >>> 51)) >>> 51)) >>> 51)))) rfl (Qy X0 rfl rfl hm24.h0 (Zm _ _ 0 (by simp))) <| Qb rfl (X7 (b := 51) rfl rfl oM) <| rA rfl rfl <| rN ?_
 refine CW.abs (fun g => g 0 = (agg u64 e) ∧ g 1 = (ptr b1 0) ∧ g 2 = (ptr b2 0) ∧ g 3 = (ptr b3 0) ∧ g 4 = (u64 ((e4 + ((e3 + ((e2 + ((e1 + ((e0 + 19#64) >>> 51)) >>> 51)) >>> 51)) >>> 51)) >>> 51)) ∧ g 5 = (i64 4) ∧ g 10 = (i64 4) ∧ g 11 = (bl true) ∧ True) ⟨s0, s1, s2, s3, rfl, rfl, s10, rfl, trivial⟩ ?_
 rintro fr25 ⟨s0, s1, s2, s3, s4, s5, s10, s11, _⟩
 refine Qg <| rM rfl s5 <| Qb rfl (Qm (r := 4) (i := 4) oM Z7 Z8 s3 rfl oM oM) <| Qb (v := (u64 (e4 + ((e3 + ((e2 + ((e1 + ((e0 + 19#64) >>> 51)) >>> 51)) >>> 51)) >>> 51)))) rfl (Qy X0 rfl rfl hm24.h0 (Zm _ _ 0 (by simp))) <| Qb rfl (Jq (b := 2251799813685247#64) rfl rfl) <| Qb rfl (Qm (r := 4) (i := 4) oM Z7 Z8 s3 rfl oM oM) <| Xf (Zx (f := u64) (l' := [(e0 + 19#64) &&& 2251799813685247#64, (e1 + ((e0 + 19#64) >>> 51)) &&& 2251799813685247#64, (e2 + ((e1 + ((e0 + 19#64) >>> 51)) >>> 51)) &&& 2251799813685247#64, (e3 + ((e2 + ((e1 + ((e0 + 19#64) >>> 51)) >>> 51)) >>> 51)) &&& 2251799813685247#64, (e4 + ((e3 + ((e2 + ((e1 + ((e0 + 19#64) >>> 51)) >>> 51)) >>> 51)) >>> 51)) &&& 2251799813685247#64]) rfl Xa Z8 rfl rfl hm24.h0 (by simp) (.inl (Nat.zero_le _))) ?_
 rintro _ w26 uq26
 have hm26 := hm24.upd0 uq26
 refine Zz (Qn (Qg ?_))
 refine Qb (v := (i64 5)) rfl (Qk (a := 4) (b := 1) s10 rfl oM oM) <| Qb rfl (Qc (v := (i64 5)) rfl) ?_
 refine rN (Zu (sR ?_))
 refine Qb rfl (Qs (a := 5) (b := 5) rfl rfl) ?_
 refine rN (Qh ?_)
 refine Yt rfl (by decide) <| Yb ?_
 refine Zb (Zb (Xw ?_))
 refine Qh (sR ?_)
 refine rM rfl s4 <| Qb rfl (Qgd (b := 0#64) rfl rfl) <| rN ?_
 refine Xy rfl (fun hc27 => ?_) (fun hc27 => ?_)
 ·
   have hc27p := of_decide_eq_true hc27
   refine Qg <| Qb (v := (agg u64 ([(e0 + 19#64) &&& 2251799813685247#64, (e1 + ((e0 + 19#64) >>> 51)) &&& 2251799813685247#64, (e2 + ((e1 + ((e0 + 19#64) >>> 51)) >>> 51)) &&& 2251799813685247#64, (e3 + ((e2 + ((e1 + ((e0 + 19#64) >>> 51)) >>> 51)) >>> 51)) &&& 2251799813685247#64, (e4 + ((e3 + ((e2 + ((e1 + ((e0 + 19#64) >>> 51)) >>> 51)) >>> 51)) >>> 51)) &&& 2251799813685247#64]))) rfl (Z9 Z7 rfl Xm s3 hm26.h0 sZ) <| Xf (Zl (f := u64) (l := [(e0 + 19#64) &&& 2251799813685247#64, (e1 + ((e0 + 19#64) >>> 51)) &&& 2251799813685247#64, (e2 + ((e1 + ((e0 + 19#64) >>> 51)) >>> 51)) &&& 2251799813685247#64, (e3 + ((e2 + ((e1 + ((e0 + 19#64) >>> 51)) >>> 51)) >>> 51)) &&& 2251799813685247#64, (e4 + ((e3 + ((e2 + ((e1 + ((e0 + 19#64) >>> 51)) >>> 51)) >>> 51)) >>> 51)) &&& 2251799813685247#64]) Xa Xm s1 rfl sD hm26.h2 sZ rfl) ?_
   rintro _ w28 uq28
   have hm28 := hm26.upd2 uq28
   refine rN ?_
   refine CW.abs (fun g => g 0 = (agg u64 e) ∧ g 1 = (ptr b1 0) ∧ g 2 = (ptr b2 0) ∧ g 3 = (ptr b3 0) ∧ g 4 = (u64 ((e4 + ((e3 + ((e2 + ((e1 + ((e0 + 19#64) >>> 51)) >>> 51)) >>> 51)) >>> 51)) >>> 51)) ∧ g 5 = (i64 4) ∧ g 10 = (i64 5) ∧ g 11 = (bl false) ∧ g 30 = (bl (decide ((0#64).toNat < ((e4 + ((e3 + ((e2 + ((e1 + ((e0 + 19#64) >>> 51)) >>> 51)) >>> 51)) >>> 51)) >>> 51).toNat))) ∧ True) ⟨s0, s1, s2, s3, s4, s5, rfl, rfl, rfl, trivial⟩ ?_
   rintro fr29 ⟨s0, s1, s2, s3, s4, s5, s10, s11, s30, _⟩
   refine Qh (Qh ?_)
   have hwq : [(e0 + 19#64) &&& 2251799813685247#64, (e1 + ((e0 + 19#64) >>> 51)) &&& 2251799813685247#64, (e2 + ((e1 + ((e0 + 19#64) >>> 51)) >>> 51)) &&& 2251799813685247#64, (e3 + ((e2 + ((e1 + ((e0 + 19#64) >>> 51)) >>> 51)) >>> 51)) &&& 2251799813685247#64, (e4 + ((e3 + ((e2 + ((e1 + ((e0 + 19#64) >>> 51)) >>> 51)) >>> 51)) >>> 51)) &&& 2251799813685247#64] = Ku e := by unfold Ku; rw [hce]; exact (if_pos (of_decide_eq_true hc27)).symm
   have hmW30 := hm28
   rw [hwq] at hmW30
   have hwl := Pm he
   refine Qg <| Qb rfl (Qc (v := (i64 0)) rfl) ?_
   refine rN (Qv ?_)
   refine Jg (fun g wv => ∃ (i : Nat), (i ≤ 255) ∧ g 0 = (agg u64 e) ∧ g 1 = (ptr b1 0) ∧ g 2 = (ptr b2 0) ∧ g 3 = (ptr b3 0) ∧ g 4 = (u64 ((e4 + ((e3 + ((e2 + ((e1 + ((e0 + 19#64) >>> 51)) >>> 51)) >>> 51)) >>> 51)) >>> 51)) ∧ g 5 = (i64 4) ∧ g 10 = (i64 5) ∧ g 11 = (bl false) ∧ g 30 = (bl (decide ((0#64).toNat < ((e4 + ((e3 + ((e2 + ((e1 + ((e0 + 19#64) >>> 51)) >>> 51)) >>> 51)) >>> 51)) >>> 51).toNat))) ∧ g 32 = (i64 (i : Int)) ∧ Mem wv (Qo w0) [(b3, .cells (cl u64 (Ku e)) 126 (0, 0)), (b2, .cells (cl u8 (Ws (Ku e) i)) 23 (0, 0)), (b1, .cells (cl u64 (Ku e)) 126 (0, 0))]) (fun g wv => (255 - RowKit.intOf (g 32)).toNat) ?_ ?_
   · exact ⟨0, oM, s0, s1, s2, s3, s4, s5, s10, s11, s30, rfl, (by rw [Rz]; exact hmW30)⟩
   · rintro fr31 w32 ⟨i, hi, s0, s1, s2, s3, s4, s5, s10, s11, s30, s32, hm32⟩
     have z32 := s32
     have hgl := Ua (Ku e) i
     refine sR <| Qb rfl (Qs (b := 255) s32 rfl) ?_
     refine rN (Qh ?_)
     refine Xy rfl (fun hc33 => ?_) (fun hc33 => ?_)
     ·
       have hc33p := of_decide_eq_true hc33
       refine Zc (Qi (Qh (Qv (sR ?_))))
       refine rM rfl s32 <| Qb rfl (Qd (v := (i64 (i : Int))) rfl) <| rN <| Yc [(0, false), (1, false), (2, false), (3, false), (4, false), (5, false), (6, false), (7, false), (8, false), (9, false), (10, false), (11, false), (12, false), (13, false), (14, false), (15, false)] 16 (by kernel_rfl) <| Qw rfl rfl (fun _ _hx => Qc (v := (i64 (i : Int))) rfl) <| Qw rfl rfl (fun _ _hx => Ja.cast (congrArg i64 (show (i : Int) / 8 = ((i / 8 : Nat) : Int) by omega)) (Wl (b := 8) rfl rfl oM oM oM)) <| Qw rfl rfl (fun _ _hx => Qm (r := (i / 8)) oM Xo Yq s2 rfl oM sD) <| Qw (v := (u8 ((Ws (Ku e) i).getD (i / 8) 0))) rfl rfl (fun _ _hx => Qy Vh rfl rfl (hm32.ext _hx).h1 (Zm _ _ 0 sD)) <| Qw rfl rfl (fun _ _hx => Qc (v := (i64 (i : Int))) rfl) <| Qw rfl rfl (fun _ _hx => Ja.cast (congrArg i64 (show (i : Int) / 51 = ((i / 51 : Nat) : Int) by omega)) (Wl (b := 51) rfl rfl oM oM oM)) <| Qw rfl rfl (fun _ _hx => Qm (r := (i / 51)) oM Z7 Z8 s1 rfl oM sD) <| Qw (v := (u64 ((Ku e).getD (i / 51) 0))) rfl rfl (fun _ _hx => Qy X0 rfl rfl (hm32.ext _hx).h2 (Zm _ _ 0 sD)) ?_
       refine Qw rfl rfl (fun _ _hx => Qc (v := (i64 (i : Int))) rfl) <| Qw rfl rfl (fun _ _hx => Ja.cast (congrArg i64 (show (i : Int) % 51 = ((i % 51 : Nat) : Int) by omega)) (Jz (b := 51) rfl rfl oM oM oM)) <| Qw rfl rfl (fun _ _hx => X7 rfl rfl oM) <| Qw rfl rfl (fun _ _hx => Jq (b := 1#64) rfl rfl) <| Qw rfl rfl (fun _ _hx => Yv ⟨_, X0⟩ Vh rfl) <| Qw rfl rfl (fun _ _hx => Qc (v := (i64 (i : Int))) rfl) <| Qw rfl rfl (fun _ _hx => Ja.cast (congrArg i64 (show (i : Int) % 8 = ((i % 8 : Nat) : Int) by omega)) (Jz (b := 8) rfl rfl oM oM oM)) <| Qw rfl rfl (fun _ _hx => Qdw rfl rfl oM) ?_
       refine X3 (fun w34 _ew34 => ?_)
       have hm34 := hm32.ext _ew34
       refine Qb rfl (Mc rfl rfl) <| Qb rfl (Qm (r := (i / 8)) oM Xo Yq s2 rfl oM sD) <| Xf (Yj (f := u8) (a := ((Ws (Ku e) i).getD (i / 8) 0) ||| ((((((Ku e).getD (i / 51) 0) >>> ((i % 51 : Nat) : Int).toNat) &&& 1#64).setWidth 8) <<< ((i % 8 : Nat) : Int).toNat)) Q8 Yq rfl rfl hm34.h1 sD (.inl (Nat.zero_le _))) ?_
       rintro _ w35 uq35
       have hm35 := hm34.upd1 uq35
       refine Zz (Qn ?_)
       refine CW.abs (fun g => g 0 = (agg u64 e) ∧ g 1 = (ptr b1 0) ∧ g 2 = (ptr b2 0) ∧ g 3 = (ptr b3 0) ∧ g 4 = (u64 ((e4 + ((e3 + ((e2 + ((e1 + ((e0 + 19#64) >>> 51)) >>> 51)) >>> 51)) >>> 51)) >>> 51)) ∧ g 5 = (i64 4) ∧ g 6 = (i64 (i : Int)) ∧ g 10 = (i64 5) ∧ g 11 = (bl false) ∧ g 30 = (bl (decide ((0#64).toNat < ((e4 + ((e3 + ((e2 + ((e1 + ((e0 + 19#64) >>> 51)) >>> 51)) >>> 51)) >>> 51)) >>> 51).toNat))) ∧ g 32 = (i64 (i : Int)) ∧ g 33 = (bl (decide ((i : Int) < 255))) ∧ True) ⟨s0, s1, s2, s3, s4, s5, rfl, s10, s11, s30, s32, rfl, trivial⟩ ?_
       rintro fr36 ⟨s0, s1, s2, s3, s4, s5, s6, s10, s11, s30, s32, s33, _⟩
       refine Qg <| Qb rfl (Qk (b := 1) s32 rfl oM oM) <| Qb rfl (Qc (v := (i64 ((i : Int) + 1))) rfl) <| rN ?_
       exact ⟨⟨i + 1, oM, s0, s1, s2, s3, s4, s5, s10, s11, s30, rfl, (by rw [Si]; exact hm35)⟩, Fj rfl z32 oM oM⟩
     ·
       have hc33p := of_decide_eq_false hc33
       obtain rfl : i = 255 := by omega
       have hgl := Ua (Ku e) 255
       refine Yb ?_
       refine Zb (Zb (Xw ?_))
       refine sR <| Qb (v := (agg u8 (Ws (Ku e) 255))) rfl (Z9 Xo rfl Z5 s2 hm32.h1 sZ) <| Xf (Zl (f := u8) (l := Ws (Ku e) 255) Q8 Z5 s2 rfl sD hm32.h1 sZ rfl) ?_
       rintro _ w37 uq37
       have hm37 := hm32.upd1 uq37
       refine rN (Xn ?_)
       refine Zj [(agg u8 (Ws (Ku e) 255))] ⟨⟨_, s2, X6 Xo rfl Z5 hm37.h1 sZ⟩, trivial⟩ ?_
       exact ⟨by unfold Az; rfl, hm37.toExt⟩
 ·
   have hc27p := of_decide_eq_false hc27
   refine Zc (Qi (Qh (Qh ?_)))
   have hwq : [e0, e1, e2, e3, e4] = Ku e := by unfold Ku; rw [hce]; exact (if_neg (of_decide_eq_false hc27)).symm
   have hmW38 := hm26
   rw [hwq] at hmW38
   have hwl := Pm he
   refine Qg <| Qb rfl (Qc (v := (i64 0)) rfl) <| rN ?_
   refine CW.abs (fun g => g 0 = (agg u64 e) ∧ g 1 = (ptr b1 0) ∧ g 2 = (ptr b2 0) ∧ g 3 = (ptr b3 0) ∧ g 4 = (u64 ((e4 + ((e3 + ((e2 + ((e1 + ((e0 + 19#64) >>> 51)) >>> 51)) >>> 51)) >>> 51)) >>> 51)) ∧ g 5 = (i64 4) ∧ g 10 = (i64 5) ∧ g 11 = (bl false) ∧ g 30 = (bl (decide ((0#64).toNat < ((e4 + ((e3 + ((e2 + ((e1 + ((e0 + 19#64) >>> 51)) >>> 51)) >>> 51)) >>> 51)) >>> 51).toNat))) ∧ g 32 = (i64 0) ∧ True) ⟨s0, s1, s2, s3, s4, s5, rfl, rfl, rfl, rfl, trivial⟩ ?_
   rintro fr39 ⟨s0, s1, s2, s3, s4, s5, s10, s11, s30, s32, _⟩
   refine Qv ?_
   refine Jg (fun g wv => ∃ (i : Nat), (i ≤ 255) ∧ g 0 = (agg u64 e) ∧ g 1 = (ptr b1 0) ∧ g 2 = (ptr b2 0) ∧ g 3 = (ptr b3 0) ∧ g 4 = (u64 ((e4 + ((e3 + ((e2 + ((e1 + ((e0 + 19#64) >>> 51)) >>> 51)) >>> 51)) >>> 51)) >>> 51)) ∧ g 5 = (i64 4) ∧ g 10 = (i64 5) ∧ g 11 = (bl false) ∧ g 30 = (bl (decide ((0#64).toNat < ((e4 + ((e3 + ((e2 + ((e1 + ((e0 + 19#64) >>> 51)) >>> 51)) >>> 51)) >>> 51)) >>> 51).toNat))) ∧ g 32 = (i64 (i : Int)) ∧ Mem wv (Qo w0) [(b3, .cells (cl u64 ([(e0 + 19#64) &&& 2251799813685247#64, (e1 + ((e0 + 19#64) >>> 51)) &&& 2251799813685247#64, (e2 + ((e1 + ((e0 + 19#64) >>> 51)) >>> 51)) &&& 2251799813685247#64, (e3 + ((e2 + ((e1 + ((e0 + 19#64) >>> 51)) >>> 51)) >>> 51)) &&& 2251799813685247#64, (e4 + ((e3 + ((e2 + ((e1 + ((e0 + 19#64) >>> 51)) >>> 51)) >>> 51)) >>> 51)) &&& 2251799813685247#64])) 126 (0, 0)), (b2, .cells (cl u8 (Ws (Ku e) i)) 23 (0, 0)), (b1, .cells (cl u64 (Ku e)) 126 (0, 0))]) (fun g wv => (255 - RowKit.intOf (g 32)).toNat) ?_ ?_
   · exact ⟨0, oM, s0, s1, s2, s3, s4, s5, s10, s11, s30, s32, (by rw [Rz]; exact hmW38)⟩
   · rintro fr40 w41 ⟨i, hi, s0, s1, s2, s3, s4, s5, s10, s11, s30, s32, hm41⟩
     have z32 := s32
     have hgl := Ua (Ku e) i
     refine sR <| Qb rfl (Qs (b := 255) s32 rfl) ?_
     refine rN (Qh ?_)
     refine Xy rfl (fun hc42 => ?_) (fun hc42 => ?_)
     ·
       have hc42p := of_decide_eq_true hc42
       refine Zc (Qi (Qh (Qv (sR ?_))))
       refine rM rfl s32 <| Qb rfl (Qd (v := (i64 (i : Int))) rfl) <| rN <| Yc [(0, false), (1, false), (2, false), (3, false), (4, false), (5, false), (6, false), (7, false), (8, false), (9, false), (10, false), (11, false), (12, false), (13, false), (14, false), (15, false)] 16 (by kernel_rfl) <| Qw rfl rfl (fun _ _hx => Qc (v := (i64 (i : Int))) rfl) <| Qw rfl rfl (fun _ _hx => Ja.cast (congrArg i64 (show (i : Int) / 8 = ((i / 8 : Nat) : Int) by omega)) (Wl (b := 8) rfl rfl oM oM oM)) <| Qw rfl rfl (fun _ _hx => Qm (r := (i / 8)) oM Xo Yq s2 rfl oM sD) <| Qw (v := (u8 ((Ws (Ku e) i).getD (i / 8) 0))) rfl rfl (fun _ _hx => Qy Vh rfl rfl (hm41.ext _hx).h1 (Zm _ _ 0 sD)) <| Qw rfl rfl (fun _ _hx => Qc (v := (i64 (i : Int))) rfl) <| Qw rfl rfl (fun _ _hx => Ja.cast (congrArg i64 (show (i : Int) / 51 = ((i / 51 : Nat) : Int) by omega)) (Wl (b := 51) rfl rfl oM oM oM)) <| Qw rfl rfl (fun _ _hx => Qm (r := (i / 51)) oM Z7 Z8 s1 rfl oM sD) <| Qw (v := (u64 ((Ku e).getD (i / 51) 0))) rfl rfl (fun _ _hx => Qy X0 rfl rfl (hm41.ext _hx).h2 (Zm _ _ 0 sD)) ?_
       refine Qw rfl rfl (fun _ _hx => Qc (v := (i64 (i : Int))) rfl) <| Qw rfl rfl (fun _ _hx => Ja.cast (congrArg i64 (show (i : Int) % 51 = ((i % 51 : Nat) : Int) by omega)) (Jz (b := 51) rfl rfl oM oM oM)) <| Qw rfl rfl (fun _ _hx => X7 rfl rfl oM) <| Qw rfl rfl (fun _ _hx => Jq (b := 1#64) rfl rfl) <| Qw rfl rfl (fun _ _hx => Yv ⟨_, X0⟩ Vh rfl) <| Qw rfl rfl (fun _ _hx => Qc (v := (i64 (i : Int))) rfl) <| Qw rfl rfl (fun _ _hx => Ja.cast (congrArg i64 (show (i : Int) % 8 = ((i % 8 : Nat) : Int) by omega)) (Jz (b := 8) rfl rfl oM oM oM)) <| Qw rfl rfl (fun _ _hx => Qdw rfl rfl oM) ?_
       refine X3 (fun w43 _ew43 => ?_)
       have hm43 := hm41.ext _ew43
       refine Qb rfl (Mc rfl rfl) <| Qb rfl (Qm (r := (i / 8)) oM Xo Yq s2 rfl oM sD) <| Xf (Yj (f := u8) (a := ((Ws (Ku e) i).getD (i / 8) 0) ||| ((((((Ku e).getD (i / 51) 0) >>> ((i % 51 : Nat) : Int).toNat) &&& 1#64).setWidth 8) <<< ((i % 8 : Nat) : Int).toNat)) Q8 Yq rfl rfl hm43.h1 sD (.inl (Nat.zero_le _))) ?_
       rintro _ w44 uq44
       have hm44 := hm43.upd1 uq44
       refine Zz (Qn ?_)
       refine CW.abs (fun g => g 0 = (agg u64 e) ∧ g 1 = (ptr b1 0) ∧ g 2 = (ptr b2 0) ∧ g 3 = (ptr b3 0) ∧ g 4 = (u64 ((e4 + ((e3 + ((e2 + ((e1 + ((e0 + 19#64) >>> 51)) >>> 51)) >>> 51)) >>> 51)) >>> 51)) ∧ g 5 = (i64 4) ∧ g 6 = (i64 (i : Int)) ∧ g 10 = (i64 5) ∧ g 11 = (bl false) ∧ g 30 = (bl (decide ((0#64).toNat < ((e4 + ((e3 + ((e2 + ((e1 + ((e0 + 19#64) >>> 51)) >>> 51)) >>> 51)) >>> 51)) >>> 51).toNat))) ∧ g 32 = (i64 (i : Int)) ∧ g 33 = (bl (decide ((i : Int) < 255))) ∧ True) ⟨s0, s1, s2, s3, s4, s5, rfl, s10, s11, s30, s32, rfl, trivial⟩ ?_
       rintro fr45 ⟨s0, s1, s2, s3, s4, s5, s6, s10, s11, s30, s32, s33, _⟩
       refine Qg <| Qb rfl (Qk (b := 1) s32 rfl oM oM) <| Qb rfl (Qc (v := (i64 ((i : Int) + 1))) rfl) <| rN ?_
       exact ⟨⟨i + 1, oM, s0, s1, s2, s3, s4, s5, s10, s11, s30, rfl, (by rw [Si]; exact hm44)⟩, Fj rfl z32 oM oM⟩
     ·
       have hc42p := of_decide_eq_false hc42
       obtain rfl : i = 255 := by omega
       have hgl := Ua (Ku e) 255
       refine Yb ?_
       refine Zb (Zb (Xw ?_))
       refine sR <| Qb (v := (agg u8 (Ws (Ku e) 255))) rfl (Z9 Xo rfl Z5 s2 hm41.h1 sZ) <| Xf (Zl (f := u8) (l := Ws (Ku e) 255) Q8 Z5 s2 rfl sD hm41.h1 sZ rfl) ?_
       rintro _ w46 uq46
       have hm46 := hm41.upd1 uq46
       refine rN (Xn ?_)
       refine Zj [(agg u8 (Ws (Ku e) 255))] ⟨⟨_, s2, X6 Xo rfl Z5 hm46.h1 sZ⟩, trivial⟩ ?_
       exact ⟨by unfold Az; rfl, hm46.toExt⟩
set_option maxHeartbeats 1000000 in
theorem Qg2 (px pz qx qz x1 : List (BitVec 64)) (w0 : World)  (hpx : px.length = 5) (hpz : pz.length = 5) (hqx : qx.length = 5) (hqz : qz.length = 5) (hx1 : x1.length = 5) : X8 Tryd.prog 80 #[(Value.agg (Qr [px.map u64, pz.map u64])), (Value.agg (Qr [qx.map u64, qz.map u64])), (agg u64 x1)] w0 (fun r w1 => r = (Value.tuple #[(Value.agg (Qr [((Kt px pz qx qz x1).px).map u64, ((Kt px pz qx qz x1).pz).map u64])), (Value.agg (Qr [((Kt px pz qx qz x1).qx).map u64, ((Kt px pz qx qz x1).qz).map u64]))]) ∧ Ext w0 w1) := by
 refine Zp (args := [(Value.agg (Qr [px.map u64, pz.map u64])), (Value.agg (Qr [qx.map u64, qz.map u64])), (agg u64 x1)]) Tryd.func80 rfl Tryd.ntmps80 Tryd.results80 rfl ?_
 have hm0 : Mem w0 (Qo w0) [] := Mem.of_world w0
 have hl0 := Ce hpx hpz
 have hl1 := Dk hpx hpz
 have hl2 := Ce hqx hqz
 have hl3 := Dk hqx hqz
 have hl4 := Dk (Jm (Qz px pz) (Qz px pz)) (Jm (Ql px pz) (Ql px pz))
 have hl5 := Ce (Jm (Ql qx qz) (Qz px pz)) (Jm (Qz qx qz) (Ql px pz))
 have hl6 := Dk (Jm (Ql qx qz) (Qz px pz)) (Jm (Qz qx qz) (Ql px pz))
 have hl7 := Ce (Jm (Qz px pz) (Qz px pz)) (Jm [121665#64, 0#64, 0#64, 0#64, 0#64] (Ql (Qe (Qz px pz) (Qz px pz)) (Qe (Ql px pz) (Ql px pz))))
 refine sR <| Zo rfl (V6 (cs := (Qr [px.map u64, pz.map u64])) hm0 rfl) ?_
 rintro _ w1 ⟨b3, rfl, _ew1, hm1⟩
 refine Zo rfl (V6 (cs := (Qr [qx.map u64, qz.map u64])) hm1 rfl) ?_
 rintro _ w2 ⟨b4, rfl, _ew2, hm2⟩
 refine Zo rfl (X4 (f := u64) (l := x1) hm2 rfl) ?_
 rintro _ w3 ⟨b5, rfl, _ew3, hm3⟩
 refine Zo rfl (Jc hm3 Gx) ?_
 rintro _ w4 ⟨b6, rfl, _ew4, hm4⟩
 refine Zo rfl (Jc hm4 Gx) ?_
 rintro _ w5 ⟨b7, rfl, _ew5, hm5⟩
 refine rN (Qh ?_)
 refine Kz (by kernel_rfl) ?_
 refine Bo [10, 11] [(0, false), (1, false), (2, false), (3, false), (4, false), (5, false), (6, false), (7, false), (8, false), (9, false)] 12 (luN [(10, 8), (11, 9)]) (luN [(10, 126), (11, 126)]) (luV [(10, (agg u64 (List.replicate 5 0))), (11, (agg u64 (List.replicate 5 0)))]) (fun g => g 0 = (Value.agg (Qr [px.map u64, pz.map u64])) ∧ g 1 = (Value.agg (Qr [qx.map u64, qz.map u64])) ∧ g 2 = (agg u64 x1) ∧ g 3 = (ptr b3 0) ∧ g 4 = (ptr b4 0) ∧ g 5 = (ptr b5 0) ∧ g 6 = (ptr b6 0) ∧ g 7 = (ptr b7 0) ∧ g 24 = (agg u64 (Qz px pz)) ∧ g 29 = (agg u64 (Ql px pz)) ∧ True) hm5 rfl (by decide) (by kernel_rfl) (by kernel_rfl) (U4 ⟨⟨_, _, _, rfl⟩, rfl, _, _, Xm⟩ (U4 ⟨⟨_, _, _, rfl⟩, rfl, _, _, Xm⟩ Qbk)) (by decide) (fun sx6 hS6 => ?_) ?_
 · skip
   refine Qw rfl rfl (fun _ _hx => Zr (r := 0) Uy rfl (by first | rfl | omega) Xm rfl rfl) <| Qw (v := (agg u64 px)) rfl rfl (fun _ _hx => Xc (f := u64) [] [pz.map u64] px Z7 rfl Xm rfl (hm5.ext _hx).h4 Qj (by first | rfl | omega | (simp; done) | (simp; omega))) <| Qw rfl rfl (fun _ _hx => Zr (r := 5) Uy rfl (by first | rfl | omega) Xm rfl rfl) <| Qw (v := (agg u64 pz)) rfl rfl (fun _ _hx => Xc (f := u64) [px.map u64] [] pz Z7 rfl Xm rfl (hm5.ext _hx).h4 (Qa (n := 5) (m := 0) (k := 5) (by first | rfl | (rw [List.length_map]; first | omega | (simp; done) | (simp; omega))) Qj rfl) (by first | rfl | omega | (simp; done) | (simp; omega))) <| Gu (v := (agg u64 (Qz px pz))) rfl rfl (fun w7 _ew7 => Jr.mono (Qx Tryd.func97 bd97 nm97 (Yk rfl rfl) (Qet px pz _ sD sD)) (by rintro _ w8 ⟨rfl, _ew8⟩; exact ⟨rfl, _ew8⟩)) <| Qw rfl rfl (fun _ _hx => Zr (r := 0) Uy rfl (by first | rfl | omega) Xm rfl rfl) <| Qw (v := (agg u64 px)) rfl rfl (fun _ _hx => Xc (f := u64) [] [pz.map u64] px Z7 rfl Xm rfl (hm5.ext _hx).h4 Qj (by first | rfl | omega | (simp; done) | (simp; omega))) <| Qw rfl rfl (fun _ _hx => Zr (r := 5) Uy rfl (by first | rfl | omega) Xm rfl rfl) <| Qw (v := (agg u64 pz)) rfl rfl (fun _ _hx => Xc (f := u64) [px.map u64] [] pz Z7 rfl Xm rfl (hm5.ext _hx).h4 (Qa (n := 5) (m := 0) (k := 5) (by first | rfl | (rw [List.length_map]; first | omega | (simp; done) | (simp; omega))) Qj rfl) (by first | rfl | omega | (simp; done) | (simp; omega))) <| Gu (v := (agg u64 (Ql px pz))) rfl rfl (fun w10 _ew10 => Jr.mono (Qx Tryd.func98 bd98 nm98 (Yk rfl rfl) (Qcb px pz _ sD sD)) (by rintro _ w11 ⟨rfl, _ew11⟩; exact ⟨rfl, _ew11⟩)) ?_
   exact hS6 _ ⟨rfl, rfl, rfl, rfl, rfl, rfl, rfl, rfl, rfl, rfl, trivial⟩
 rintro g13 ⟨s0, s1, s2, s3, s4, s5, s6, s7, s24, s29, _⟩ g14 w15 ps15 hgo15 hps15 hmm15
 replace s0 := (hgo15 0 (by decide)).trans s0
 replace s1 := (hgo15 1 (by decide)).trans s1
 replace s2 := (hgo15 2 (by decide)).trans s2
 replace s3 := (hgo15 3 (by decide)).trans s3
 replace s4 := (hgo15 4 (by decide)).trans s4
 replace s5 := (hgo15 5 (by decide)).trans s5
 replace s6 := (hgo15 6 (by decide)).trans s6
 replace s7 := (hgo15 7 (by decide)).trans s7
 replace s24 := (hgo15 24 (by decide)).trans s24
 replace s29 := (hgo15 29 (by decide)).trans s29
 have s8 : g14 8 = ptr (ps15 10) 0 := hps15 10 (by decide)
 have s9 : g14 9 = ptr (ps15 11) 0 := hps15 11 (by decide)
 have hm15 : Mem w15 (Qo w0) [((ps15 10), .cells (cl u64 (List.replicate 5 0)) 126 (0, 0)), ((ps15 11), .cells (cl u64 (List.replicate 5 0)) 126 (0, 0)), (b7, .cells #[(u64 0), (u64 0), (u64 0), (u64 0), (u64 0), (u64 0), (u64 0), (u64 0), (u64 0), (u64 0)] 129 (0, 0)), (b6, .cells #[(u64 0), (u64 0), (u64 0), (u64 0), (u64 0), (u64 0), (u64 0), (u64 0), (u64 0), (u64 0)] 129 (0, 0)), (b5, .cells (cl u64 x1) 126 (0, 0)), (b4, .cells (Qr [qx.map u64, qz.map u64]) 129 (0, 0)), (b3, .cells (Qr [px.map u64, pz.map u64]) 129 (0, 0))] := hmm15
 generalize ps15 10 = b8 at hm15 s8
 generalize ps15 11 = b9 at hm15 s9
 refine Xf (Zl (f := u64) (l := Qz px pz) Xa Xm s8 s24 sD hm15.h0 sZ rfl) ?_
 rintro _ w16 uq16
 have hm16 := hm15.upd0 uq16
 refine Xf (Zl (f := u64) (l := Ql px pz) Xa Xm s9 s29 sD hm16.h1 sZ rfl) ?_
 rintro _ w17 uq17
 have hm17 := hm16.upd1 uq17
 refine rN (Qh ?_)
 refine Kz (by kernel_rfl) ?_
 refine Bo [10, 11] [(0, false), (1, false), (2, false), (3, false), (4, false), (5, false), (6, false), (7, false), (8, false), (9, false)] 12 (luN [(10, 10), (11, 11)]) (luN [(10, 126), (11, 126)]) (luV [(10, (agg u64 (List.replicate 5 0))), (11, (agg u64 (List.replicate 5 0)))]) (fun g => g 0 = (Value.agg (Qr [px.map u64, pz.map u64])) ∧ g 1 = (Value.agg (Qr [qx.map u64, qz.map u64])) ∧ g 2 = (agg u64 x1) ∧ g 3 = (ptr b3 0) ∧ g 4 = (ptr b4 0) ∧ g 5 = (ptr b5 0) ∧ g 6 = (ptr b6 0) ∧ g 7 = (ptr b7 0) ∧ g 8 = (ptr b8 0) ∧ g 9 = (ptr b9 0) ∧ g 34 = (agg u64 (Qz qx qz)) ∧ g 39 = (agg u64 (Ql qx qz)) ∧ True) hm17 rfl (by decide) (by kernel_rfl) (by kernel_rfl) (U4 ⟨⟨_, _, _, rfl⟩, rfl, _, _, Xm⟩ (U4 ⟨⟨_, _, _, rfl⟩, rfl, _, _, Xm⟩ Qbk)) (by decide) (fun sx18 hS18 => ?_) ?_
 · skip
   refine Qw rfl rfl (fun _ _hx => Zr (r := 0) Uy rfl (by first | rfl | omega) Xm rfl s4) <| Qw (v := (agg u64 qx)) rfl rfl (fun _ _hx => Xc (f := u64) [] [qz.map u64] qx Z7 rfl Xm rfl (hm17.ext _hx).h5 Qj (by first | rfl | omega | (simp; done) | (simp; omega))) <| Qw rfl rfl (fun _ _hx => Zr (r := 5) Uy rfl (by first | rfl | omega) Xm rfl s4) <| Qw (v := (agg u64 qz)) rfl rfl (fun _ _hx => Xc (f := u64) [qx.map u64] [] qz Z7 rfl Xm rfl (hm17.ext _hx).h5 (Qa (n := 5) (m := 0) (k := 5) (by first | rfl | (rw [List.length_map]; first | omega | (simp; done) | (simp; omega))) Qj rfl) (by first | rfl | omega | (simp; done) | (simp; omega))) <| Gu (v := (agg u64 (Qz qx qz))) rfl rfl (fun w19 _ew19 => Jr.mono (Qx Tryd.func97 bd97 nm97 (Yk rfl rfl) (Qet qx qz _ sD sD)) (by rintro _ w20 ⟨rfl, _ew20⟩; exact ⟨rfl, _ew20⟩)) <| Qw rfl rfl (fun _ _hx => Zr (r := 0) Uy rfl (by first | rfl | omega) Xm rfl s4) <| Qw (v := (agg u64 qx)) rfl rfl (fun _ _hx => Xc (f := u64) [] [qz.map u64] qx Z7 rfl Xm rfl (hm17.ext _hx).h5 Qj (by first | rfl | omega | (simp; done) | (simp; omega))) <| Qw rfl rfl (fun _ _hx => Zr (r := 5) Uy rfl (by first | rfl | omega) Xm rfl s4) <| Qw (v := (agg u64 qz)) rfl rfl (fun _ _hx => Xc (f := u64) [qx.map u64] [] qz Z7 rfl Xm rfl (hm17.ext _hx).h5 (Qa (n := 5) (m := 0) (k := 5) (by first | rfl | (rw [List.length_map]; first | omega | (simp; done) | (simp; omega))) Qj rfl) (by first | rfl | omega | (simp; done) | (simp; omega))) <| Gu (v := (agg u64 (Ql qx qz))) rfl rfl (fun w22 _ew22 => Jr.mono (Qx Tryd.func98 bd98 nm98 (Yk rfl rfl) (Qcb qx qz _ sD sD)) (by rintro _ w23 ⟨rfl, _ew23⟩; exact ⟨rfl, _ew23⟩)) ?_
   exact hS18 _ ⟨s0, s1, s2, s3, s4, s5, s6, s7, s8, s9, rfl, rfl, trivial⟩
 rintro g25 ⟨s0, s1, s2, s3, s4, s5, s6, s7, s8, s9, s34, s39, _⟩ g26 w27 ps27 hgo27 hps27 hmm27
 replace s0 := (hgo27 0 (by decide)).trans s0
 replace s1 := (hgo27 1 (by decide)).trans s1
 replace s2 := (hgo27 2 (by decide)).trans s2
 replace s3 := (hgo27 3 (by decide)).trans s3
 replace s4 := (hgo27 4 (by decide)).trans s4
 replace s5 := (hgo27 5 (by decide)).trans s5
 replace s6 := (hgo27 6 (by decide)).trans s6
 replace s7 := (hgo27 7 (by decide)).trans s7
 replace s8 := (hgo27 8 (by decide)).trans s8
 replace s9 := (hgo27 9 (by decide)).trans s9
 replace s34 := (hgo27 34 (by decide)).trans s34
 replace s39 := (hgo27 39 (by decide)).trans s39
 have s10 : g26 10 = ptr (ps27 10) 0 := hps27 10 (by decide)
 have s11 : g26 11 = ptr (ps27 11) 0 := hps27 11 (by decide)
 have hm27 : Mem w27 (Qo w0) [((ps27 10), .cells (cl u64 (List.replicate 5 0)) 126 (0, 0)), ((ps27 11), .cells (cl u64 (List.replicate 5 0)) 126 (0, 0)), (b8, .cells (cl u64 (Qz px pz)) 126 (0, 0)), (b9, .cells (cl u64 (Ql px pz)) 126 (0, 0)), (b7, .cells #[(u64 0), (u64 0), (u64 0), (u64 0), (u64 0), (u64 0), (u64 0), (u64 0), (u64 0), (u64 0)] 129 (0, 0)), (b6, .cells #[(u64 0), (u64 0), (u64 0), (u64 0), (u64 0), (u64 0), (u64 0), (u64 0), (u64 0), (u64 0)] 129 (0, 0)), (b5, .cells (cl u64 x1) 126 (0, 0)), (b4, .cells (Qr [qx.map u64, qz.map u64]) 129 (0, 0)), (b3, .cells (Qr [px.map u64, pz.map u64]) 129 (0, 0))] := hmm27
 generalize ps27 10 = b10 at hm27 s10
 generalize ps27 11 = b11 at hm27 s11
 refine Xf (Zl (f := u64) (l := Qz qx qz) Xa Xm s10 s34 sD hm27.h0 sZ rfl) ?_
 rintro _ w28 uq28
 have hm28 := hm27.upd0 uq28
 refine Xf (Zl (f := u64) (l := Ql qx qz) Xa Xm s11 s39 sD hm28.h1 sZ rfl) ?_
 rintro _ w29 uq29
 have hm29 := hm28.upd1 uq29
 refine rN (Qh ?_)
 refine Kz (by kernel_rfl) ?_
 refine Bo [6, 7] [(0, false), (1, false), (2, false), (3, false), (4, false), (5, false)] 8 (luN [(6, 12), (7, 13)]) (luN [(6, 126), (7, 126)]) (luV [(6, (agg u64 (List.replicate 5 0))), (7, (agg u64 (List.replicate 5 0)))]) (fun g => g 0 = (Value.agg (Qr [px.map u64, pz.map u64])) ∧ g 1 = (Value.agg (Qr [qx.map u64, qz.map u64])) ∧ g 2 = (agg u64 x1) ∧ g 3 = (ptr b3 0) ∧ g 4 = (ptr b4 0) ∧ g 5 = (ptr b5 0) ∧ g 6 = (ptr b6 0) ∧ g 7 = (ptr b7 0) ∧ g 8 = (ptr b8 0) ∧ g 9 = (ptr b9 0) ∧ g 10 = (ptr b10 0) ∧ g 11 = (ptr b11 0) ∧ g 42 = (agg u64 (Qe (Ql qx qz) (Qz px pz))) ∧ g 45 = (agg u64 (Qe (Qz qx qz) (Ql px pz))) ∧ True) hm29 rfl (by decide) (by kernel_rfl) (by kernel_rfl) (U4 ⟨⟨_, _, _, rfl⟩, rfl, _, _, Xm⟩ (U4 ⟨⟨_, _, _, rfl⟩, rfl, _, _, Xm⟩ Qbk)) (by decide) (fun sx30 hS30 => ?_) ?_
 · skip
   refine Qw (v := (agg u64 (Ql qx qz))) rfl rfl (fun _ _hx => Z9 Z7 rfl Xm s11 (hm29.ext _hx).h1 sZ) <| Qw (v := (agg u64 (Qz px pz))) rfl rfl (fun _ _hx => Z9 Z7 rfl Xm s8 (hm29.ext _hx).h2 sZ) <| Gu (v := (agg u64 (Qe (Ql qx qz) (Qz px pz)))) rfl rfl (fun w31 _ew31 => Jr.mono (Qx Tryd.func81 Qbj Qa3 (Yk rfl rfl) (Gh (Ql qx qz) (Qz px pz) _ sD sD)) (by rintro _ w32 ⟨rfl, _ew32⟩; exact ⟨rfl, _ew32⟩)) <| Qw (v := (agg u64 (Qz qx qz))) rfl rfl (fun _ _hx => Z9 Z7 rfl Xm s10 (hm29.ext _hx).h0 sZ) <| Qw (v := (agg u64 (Ql px pz))) rfl rfl (fun _ _hx => Z9 Z7 rfl Xm s9 (hm29.ext _hx).h3 sZ) <| Gu (v := (agg u64 (Qe (Qz qx qz) (Ql px pz)))) rfl rfl (fun w34 _ew34 => Jr.mono (Qx Tryd.func81 Qbj Qa3 (Yk rfl rfl) (Gh (Qz qx qz) (Ql px pz) _ sD sD)) (by rintro _ w35 ⟨rfl, _ew35⟩; exact ⟨rfl, _ew35⟩)) ?_
   exact hS30 _ ⟨s0, s1, s2, s3, s4, s5, s6, s7, s8, s9, s10, s11, rfl, rfl, trivial⟩
 rintro g37 ⟨s0, s1, s2, s3, s4, s5, s6, s7, s8, s9, s10, s11, s42, s45, _⟩ g38 w39 ps39 hgo39 hps39 hmm39
 replace s0 := (hgo39 0 (by decide)).trans s0
 replace s1 := (hgo39 1 (by decide)).trans s1
 replace s2 := (hgo39 2 (by decide)).trans s2
 replace s3 := (hgo39 3 (by decide)).trans s3
 replace s4 := (hgo39 4 (by decide)).trans s4
 replace s5 := (hgo39 5 (by decide)).trans s5
 replace s6 := (hgo39 6 (by decide)).trans s6
 replace s7 := (hgo39 7 (by decide)).trans s7
 replace s8 := (hgo39 8 (by decide)).trans s8
 replace s9 := (hgo39 9 (by decide)).trans s9
 replace s10 := (hgo39 10 (by decide)).trans s10
 replace s11 := (hgo39 11 (by decide)).trans s11
 replace s42 := (hgo39 42 (by decide)).trans s42
 replace s45 := (hgo39 45 (by decide)).trans s45
 have s12 : g38 12 = ptr (ps39 6) 0 := hps39 6 (by decide)
 have s13 : g38 13 = ptr (ps39 7) 0 := hps39 7 (by decide)
 have hm39 : Mem w39 (Qo w0) [((ps39 6), .cells (cl u64 (List.replicate 5 0)) 126 (0, 0)), ((ps39 7), .cells (cl u64 (List.replicate 5 0)) 126 (0, 0)), (b10, .cells (cl u64 (Qz qx qz)) 126 (0, 0)), (b11, .cells (cl u64 (Ql qx qz)) 126 (0, 0)), (b8, .cells (cl u64 (Qz px pz)) 126 (0, 0)), (b9, .cells (cl u64 (Ql px pz)) 126 (0, 0)), (b7, .cells #[(u64 0), (u64 0), (u64 0), (u64 0), (u64 0), (u64 0), (u64 0), (u64 0), (u64 0), (u64 0)] 129 (0, 0)), (b6, .cells #[(u64 0), (u64 0), (u64 0), (u64 0), (u64 0), (u64 0), (u64 0), (u64 0), (u64 0), (u64 0)] 129 (0, 0)), (b5, .cells (cl u64 x1) 126 (0, 0)), (b4, .cells (Qr [qx.map u64, qz.map u64]) 129 (0, 0)), (b3, .cells (Qr [px.map u64, pz.map u64]) 129 (0, 0))] := hmm39
 generalize ps39 6 = b12 at hm39 s12
 generalize ps39 7 = b13 at hm39 s13
 refine Xf (Zl (f := u64) (l := Qe (Ql qx qz) (Qz px pz)) Xa Xm s12 s42 sD hm39.h0 sZ rfl) ?_
 rintro _ w40 uq40
 have hm40 := hm39.upd0 uq40
 refine Xf (Zl (f := u64) (l := Qe (Qz qx qz) (Ql px pz)) Xa Xm s13 s45 sD hm40.h1 sZ rfl) ?_
 rintro _ w41 uq41
 have hm41 := hm40.upd1 uq41
 refine rN (Qh ?_)
 refine Kz (by kernel_rfl) ?_
 refine Bo [6, 7] [(0, false), (1, false), (2, false), (3, false), (4, false), (5, false)] 8 (luN [(6, 14), (7, 15)]) (luN [(6, 126), (7, 126)]) (luV [(6, (agg u64 (List.replicate 5 0))), (7, (agg u64 (List.replicate 5 0)))]) (fun g => g 0 = (Value.agg (Qr [px.map u64, pz.map u64])) ∧ g 1 = (Value.agg (Qr [qx.map u64, qz.map u64])) ∧ g 2 = (agg u64 x1) ∧ g 3 = (ptr b3 0) ∧ g 4 = (ptr b4 0) ∧ g 5 = (ptr b5 0) ∧ g 6 = (ptr b6 0) ∧ g 7 = (ptr b7 0) ∧ g 8 = (ptr b8 0) ∧ g 9 = (ptr b9 0) ∧ g 10 = (ptr b10 0) ∧ g 11 = (ptr b11 0) ∧ g 12 = (ptr b12 0) ∧ g 13 = (ptr b13 0) ∧ g 48 = (agg u64 (Qe (Qz px pz) (Qz px pz))) ∧ g 51 = (agg u64 (Qe (Ql px pz) (Ql px pz))) ∧ True) hm41 rfl (by decide) (by kernel_rfl) (by kernel_rfl) (U4 ⟨⟨_, _, _, rfl⟩, rfl, _, _, Xm⟩ (U4 ⟨⟨_, _, _, rfl⟩, rfl, _, _, Xm⟩ Qbk)) (by decide) (fun sx42 hS42 => ?_) ?_
 · skip
   refine Qw (v := (agg u64 (Qz px pz))) rfl rfl (fun _ _hx => Z9 Z7 rfl Xm s8 (hm41.ext _hx).h4 sZ) <| Qw (v := (agg u64 (Qz px pz))) rfl rfl (fun _ _hx => Z9 Z7 rfl Xm s8 (hm41.ext _hx).h4 sZ) <| Gu (v := (agg u64 (Qe (Qz px pz) (Qz px pz)))) rfl rfl (fun w43 _ew43 => Jr.mono (Qx Tryd.func81 Qbj Qa3 (Yk rfl rfl) (Gh (Qz px pz) (Qz px pz) _ sD sD)) (by rintro _ w44 ⟨rfl, _ew44⟩; exact ⟨rfl, _ew44⟩)) <| Qw (v := (agg u64 (Ql px pz))) rfl rfl (fun _ _hx => Z9 Z7 rfl Xm s9 (hm41.ext _hx).h5 sZ) <| Qw (v := (agg u64 (Ql px pz))) rfl rfl (fun _ _hx => Z9 Z7 rfl Xm s9 (hm41.ext _hx).h5 sZ) <| Gu (v := (agg u64 (Qe (Ql px pz) (Ql px pz)))) rfl rfl (fun w46 _ew46 => Jr.mono (Qx Tryd.func81 Qbj Qa3 (Yk rfl rfl) (Gh (Ql px pz) (Ql px pz) _ sD sD)) (by rintro _ w47 ⟨rfl, _ew47⟩; exact ⟨rfl, _ew47⟩)) ?_
   exact hS42 _ ⟨s0, s1, s2, s3, s4, s5, s6, s7, s8, s9, s10, s11, s12, s13, rfl, rfl, trivial⟩
 rintro g49 ⟨s0, s1, s2, s3, s4, s5, s6, s7, s8, s9, s10, s11, s12, s13, s48, s51, _⟩ g50 w51 ps51 hgo51 hps51 hmm51
 replace s0 := (hgo51 0 (by decide)).trans s0
 replace s1 := (hgo51 1 (by decide)).trans s1
 replace s2 := (hgo51 2 (by decide)).trans s2
 replace s3 := (hgo51 3 (by decide)).trans s3
 replace s4 := (hgo51 4 (by decide)).trans s4
 replace s5 := (hgo51 5 (by decide)).trans s5
 replace s6 := (hgo51 6 (by decide)).trans s6
 replace s7 := (hgo51 7 (by decide)).trans s7
 replace s8 := (hgo51 8 (by decide)).trans s8
 replace s9 := (hgo51 9 (by decide)).trans s9
 replace s10 := (hgo51 10 (by decide)).trans s10
 replace s11 := (hgo51 11 (by decide)).trans s11
 replace s12 := (hgo51 12 (by decide)).trans s12
 replace s13 := (hgo51 13 (by decide)).trans s13
 replace s48 := (hgo51 48 (by decide)).trans s48
 replace s51 := (hgo51 51 (by decide)).trans s51
 have s14 : g50 14 = ptr (ps51 6) 0 := hps51 6 (by decide)
 have s15 : g50 15 = ptr (ps51 7) 0 := hps51 7 (by decide)
 have hm51 : Mem w51 (Qo w0) [((ps51 6), .cells (cl u64 (List.replicate 5 0)) 126 (0, 0)), ((ps51 7), .cells (cl u64 (List.replicate 5 0)) 126 (0, 0)), (b12, .cells (cl u64 (Qe (Ql qx qz) (Qz px pz))) 126 (0, 0)), (b13, .cells (cl u64 (Qe (Qz qx qz) (Ql px pz))) 126 (0, 0)), (b10, .cells (cl u64 (Qz qx qz)) 126 (0, 0)), (b11, .cells (cl u64 (Ql qx qz)) 126 (0, 0)), (b8, .cells (cl u64 (Qz px pz)) 126 (0, 0)), (b9, .cells (cl u64 (Ql px pz)) 126 (0, 0)), (b7, .cells #[(u64 0), (u64 0), (u64 0), (u64 0), (u64 0), (u64 0), (u64 0), (u64 0), (u64 0), (u64 0)] 129 (0, 0)), (b6, .cells #[(u64 0), (u64 0), (u64 0), (u64 0), (u64 0), (u64 0), (u64 0), (u64 0), (u64 0), (u64 0)] 129 (0, 0)), (b5, .cells (cl u64 x1) 126 (0, 0)), (b4, .cells (Qr [qx.map u64, qz.map u64]) 129 (0, 0)), (b3, .cells (Qr [px.map u64, pz.map u64]) 129 (0, 0))] := hmm51
 generalize ps51 6 = b14 at hm51 s14
 generalize ps51 7 = b15 at hm51 s15
 refine Xf (Zl (f := u64) (l := Qe (Qz px pz) (Qz px pz)) Xa Xm s14 s48 sD hm51.h0 sZ rfl) ?_
 rintro _ w52 uq52
 have hm52 := hm51.upd0 uq52
 refine Xf (Zl (f := u64) (l := Qe (Ql px pz) (Ql px pz)) Xa Xm s15 s51 sD hm52.h1 sZ rfl) ?_
 rintro _ w53 uq53
 have hm53 := hm52.upd1 uq53
 refine rN (sR ?_)
 refine Qb (v := (agg u64 (Qe (Qz px pz) (Qz px pz)))) rfl (Z9 Z7 rfl Xm s14 hm53.h0 sZ) <| Qb (v := (agg u64 (Qe (Ql px pz) (Ql px pz)))) rfl (Z9 Z7 rfl Xm s15 hm53.h1 sZ) <| Zo rfl (Qx Tryd.func98 bd98 nm98 (Yk rfl rfl) (Qcb (Qe (Qz px pz) (Qz px pz)) (Qe (Ql px pz) (Ql px pz)) _ sD sD)) ?_
 rintro _ w54 ⟨rfl, _ew54⟩
 have hm54 := hm53.ext _ew54
 refine Zo rfl (Zy hm54 Xm) ?_
 rintro _ w56 ⟨b16, rfl, _ew56, hm56⟩
 refine Xf (Zl (f := u64) (l := Ql (Qe (Qz px pz) (Qz px pz)) (Qe (Ql px pz) (Ql px pz))) Xa Xm rfl rfl sD hm56.h0 sZ rfl) ?_
 rintro _ w57 uq57
 have hm57 := hm56.upd0 uq57
 refine rN (Qh ?_)
 refine Kz (by kernel_rfl) ?_
 refine Bo [6, 7] [(0, false), (1, false), (2, false), (3, false), (4, false), (5, false)] 8 (luN [(6, 17), (7, 18)]) (luN [(6, 126), (7, 126)]) (luV [(6, (agg u64 (List.replicate 5 0))), (7, (agg u64 (List.replicate 5 0)))]) (fun g => g 0 = (Value.agg (Qr [px.map u64, pz.map u64])) ∧ g 1 = (Value.agg (Qr [qx.map u64, qz.map u64])) ∧ g 2 = (agg u64 x1) ∧ g 3 = (ptr b3 0) ∧ g 4 = (ptr b4 0) ∧ g 5 = (ptr b5 0) ∧ g 6 = (ptr b6 0) ∧ g 7 = (ptr b7 0) ∧ g 8 = (ptr b8 0) ∧ g 9 = (ptr b9 0) ∧ g 10 = (ptr b10 0) ∧ g 11 = (ptr b11 0) ∧ g 12 = (ptr b12 0) ∧ g 13 = (ptr b13 0) ∧ g 14 = (ptr b14 0) ∧ g 15 = (ptr b15 0) ∧ g 16 = (ptr b16 0) ∧ g 57 = (agg u64 (Qz (Qe (Ql qx qz) (Qz px pz)) (Qe (Qz qx qz) (Ql px pz)))) ∧ g 60 = (agg u64 (Ql (Qe (Ql qx qz) (Qz px pz)) (Qe (Qz qx qz) (Ql px pz)))) ∧ True) hm57 rfl (by decide) (by kernel_rfl) (by kernel_rfl) (U4 ⟨⟨_, _, _, rfl⟩, rfl, _, _, Xm⟩ (U4 ⟨⟨_, _, _, rfl⟩, rfl, _, _, Xm⟩ Qbk)) (by decide) (fun sx58 hS58 => ?_) ?_
 · skip
   refine Qw (v := (agg u64 (Qe (Ql qx qz) (Qz px pz)))) rfl rfl (fun _ _hx => Z9 Z7 rfl Xm s12 (hm57.ext _hx).h3 sZ) <| Qw (v := (agg u64 (Qe (Qz qx qz) (Ql px pz)))) rfl rfl (fun _ _hx => Z9 Z7 rfl Xm s13 (hm57.ext _hx).h4 sZ) <| Gu (v := (agg u64 (Qz (Qe (Ql qx qz) (Qz px pz)) (Qe (Qz qx qz) (Ql px pz))))) rfl rfl (fun w59 _ew59 => Jr.mono (Qx Tryd.func97 bd97 nm97 (Yk rfl rfl) (Qet (Qe (Ql qx qz) (Qz px pz)) (Qe (Qz qx qz) (Ql px pz)) _ sD sD)) (by rintro _ w60 ⟨rfl, _ew60⟩; exact ⟨rfl, _ew60⟩)) <| Qw (v := (agg u64 (Qe (Ql qx qz) (Qz px pz)))) rfl rfl (fun _ _hx => Z9 Z7 rfl Xm s12 (hm57.ext _hx).h3 sZ) <| Qw (v := (agg u64 (Qe (Qz qx qz) (Ql px pz)))) rfl rfl (fun _ _hx => Z9 Z7 rfl Xm s13 (hm57.ext _hx).h4 sZ) <| Gu (v := (agg u64 (Ql (Qe (Ql qx qz) (Qz px pz)) (Qe (Qz qx qz) (Ql px pz))))) rfl rfl (fun w62 _ew62 => Jr.mono (Qx Tryd.func98 bd98 nm98 (Yk rfl rfl) (Qcb (Qe (Ql qx qz) (Qz px pz)) (Qe (Qz qx qz) (Ql px pz)) _ sD sD)) (by rintro _ w63 ⟨rfl, _ew63⟩; exact ⟨rfl, _ew63⟩)) ?_
   exact hS58 _ ⟨s0, s1, s2, s3, s4, s5, s6, s7, s8, s9, s10, s11, s12, s13, s14, s15, rfl, rfl, rfl, trivial⟩
 rintro g65 ⟨s0, s1, s2, s3, s4, s5, s6, s7, s8, s9, s10, s11, s12, s13, s14, s15, s16, s57, s60, _⟩ g66 w67 ps67 hgo67 hps67 hmm67
 replace s0 := (hgo67 0 (by decide)).trans s0
 replace s1 := (hgo67 1 (by decide)).trans s1
 replace s2 := (hgo67 2 (by decide)).trans s2
 replace s3 := (hgo67 3 (by decide)).trans s3
 replace s4 := (hgo67 4 (by decide)).trans s4
 replace s5 := (hgo67 5 (by decide)).trans s5
 replace s6 := (hgo67 6 (by decide)).trans s6
 replace s7 := (hgo67 7 (by decide)).trans s7
 replace s8 := (hgo67 8 (by decide)).trans s8
 replace s9 := (hgo67 9 (by decide)).trans s9
 replace s10 := (hgo67 10 (by decide)).trans s10
 replace s11 := (hgo67 11 (by decide)).trans s11
 replace s12 := (hgo67 12 (by decide)).trans s12
 replace s13 := (hgo67 13 (by decide)).trans s13
 replace s14 := (hgo67 14 (by decide)).trans s14
 replace s15 := (hgo67 15 (by decide)).trans s15
 replace s16 := (hgo67 16 (by decide)).trans s16
 replace s57 := (hgo67 57 (by decide)).trans s57
 replace s60 := (hgo67 60 (by decide)).trans s60
 have s17 : g66 17 = ptr (ps67 6) 0 := hps67 6 (by decide)
 have s18 : g66 18 = ptr (ps67 7) 0 := hps67 7 (by decide)
 have hm67 : Mem w67 (Qo w0) [((ps67 6), .cells (cl u64 (List.replicate 5 0)) 126 (0, 0)), ((ps67 7), .cells (cl u64 (List.replicate 5 0)) 126 (0, 0)), (b16, .cells (cl u64 (Ql (Qe (Qz px pz) (Qz px pz)) (Qe (Ql px pz) (Ql px pz)))) 126 (0, 0)), (b14, .cells (cl u64 (Qe (Qz px pz) (Qz px pz))) 126 (0, 0)), (b15, .cells (cl u64 (Qe (Ql px pz) (Ql px pz))) 126 (0, 0)), (b12, .cells (cl u64 (Qe (Ql qx qz) (Qz px pz))) 126 (0, 0)), (b13, .cells (cl u64 (Qe (Qz qx qz) (Ql px pz))) 126 (0, 0)), (b10, .cells (cl u64 (Qz qx qz)) 126 (0, 0)), (b11, .cells (cl u64 (Ql qx qz)) 126 (0, 0)), (b8, .cells (cl u64 (Qz px pz)) 126 (0, 0)), (b9, .cells (cl u64 (Ql px pz)) 126 (0, 0)), (b7, .cells #[(u64 0), (u64 0), (u64 0), (u64 0), (u64 0), (u64 0), (u64 0), (u64 0), (u64 0), (u64 0)] 129 (0, 0)), (b6, .cells #[(u64 0), (u64 0), (u64 0), (u64 0), (u64 0), (u64 0), (u64 0), (u64 0), (u64 0), (u64 0)] 129 (0, 0)), (b5, .cells (cl u64 x1) 126 (0, 0)), (b4, .cells (Qr [qx.map u64, qz.map u64]) 129 (0, 0)), (b3, .cells (Qr [px.map u64, pz.map u64]) 129 (0, 0))] := hmm67
 generalize ps67 6 = b17 at hm67 s17
 generalize ps67 7 = b18 at hm67 s18
 refine Xf (Zl (f := u64) (l := Qz (Qe (Ql qx qz) (Qz px pz)) (Qe (Qz qx qz) (Ql px pz))) Xa Xm s17 s57 sD hm67.h0 sZ rfl) ?_
 rintro _ w68 uq68
 have hm68 := hm67.upd0 uq68
 refine Xf (Zl (f := u64) (l := Ql (Qe (Ql qx qz) (Qz px pz)) (Qe (Qz qx qz) (Ql px pz))) Xa Xm s18 s60 sD hm68.h1 sZ rfl) ?_
 rintro _ w69 uq69
 have hm69 := hm68.upd1 uq69
 refine rN (Qh ?_)
 refine Yc [(0, false), (1, false), (2, false), (3, false), (4, false), (5, false), (6, false), (7, false), (8, false), (9, false), (10, false), (11, true)] 12 (by kernel_rfl) <| Qw (v := (agg u64 (Qe (Qz px pz) (Qz px pz)))) rfl rfl (fun _ _hx => Z9 Z7 rfl Xm s14 (hm69.ext _hx).h3 sZ) <| Qw (v := (agg u64 (Qe (Ql px pz) (Ql px pz)))) rfl rfl (fun _ _hx => Z9 Z7 rfl Xm s15 (hm69.ext _hx).h4 sZ) <| Gu (v := (agg u64 (Qe (Qe (Qz px pz) (Qz px pz)) (Qe (Ql px pz) (Ql px pz))))) rfl rfl (fun w70 _ew70 => Jr.mono (Qx Tryd.func81 Qbj Qa3 (Yk rfl rfl) (Gh (Qe (Qz px pz) (Qz px pz)) (Qe (Ql px pz) (Ql px pz)) _ sD sD)) (by rintro _ w71 ⟨rfl, _ew71⟩; exact ⟨rfl, _ew71⟩)) <| Qw (v := (agg u64 (Ql (Qe (Qz px pz) (Qz px pz)) (Qe (Ql px pz) (Ql px pz))))) rfl rfl (fun _ _hx => Z9 Z7 rfl Xm s16 (hm69.ext _hx).h2 sZ) <| Qw (v := (agg u64 (Qe (Qz px pz) (Qz px pz)))) rfl rfl (fun _ _hx => Z9 Z7 rfl Xm s14 (hm69.ext _hx).h3 sZ) <| Qw rfl rfl (fun _ _hx => Gn (c := (cl u64 ([121665#64, 0#64, 0#64, 0#64, 0#64]))) Xm Z7 Z8 (Yh (i := 0) (v := (u64 121665#64)) (cs := #[(u64 121665#64)]) rfl rfl Wy) (by kernel_rfl)) <| Qw (v := (agg u64 (Ql (Qe (Qz px pz) (Qz px pz)) (Qe (Ql px pz) (Ql px pz))))) rfl rfl (fun _ _hx => Z9 Z7 rfl Xm s16 (hm69.ext _hx).h2 sZ) <| Gu (v := (agg u64 (Qe ([121665#64, 0#64, 0#64, 0#64, 0#64]) (Ql (Qe (Qz px pz) (Qz px pz)) (Qe (Ql px pz) (Ql px pz)))))) rfl rfl (fun w73 _ew73 => Jr.mono (Qx Tryd.func81 Qbj Qa3 (Yk rfl rfl) (Gh ([121665#64, 0#64, 0#64, 0#64, 0#64]) (Ql (Qe (Qz px pz) (Qz px pz)) (Qe (Ql px pz) (Ql px pz))) _ sD sD)) (by rintro _ w74 ⟨rfl, _ew74⟩; exact ⟨rfl, _ew74⟩)) <| Gu (v := (agg u64 (Qz (Qe (Qz px pz) (Qz px pz)) (Qe ([121665#64, 0#64, 0#64, 0#64, 0#64]) (Ql (Qe (Qz px pz) (Qz px pz)) (Qe (Ql px pz) (Ql px pz))))))) rfl rfl (fun w76 _ew76 => Jr.mono (Qx Tryd.func97 bd97 nm97 (Yk rfl rfl) (Qet (Qe (Qz px pz) (Qz px pz)) (Qe ([121665#64, 0#64, 0#64, 0#64, 0#64]) (Ql (Qe (Qz px pz) (Qz px pz)) (Qe (Ql px pz) (Ql px pz)))) _ sD sD)) (by rintro _ w77 ⟨rfl, _ew77⟩; exact ⟨rfl, _ew77⟩)) <| Gu (v := (agg u64 (Qe (Ql (Qe (Qz px pz) (Qz px pz)) (Qe (Ql px pz) (Ql px pz))) (Qz (Qe (Qz px pz) (Qz px pz)) (Qe ([121665#64, 0#64, 0#64, 0#64, 0#64]) (Ql (Qe (Qz px pz) (Qz px pz)) (Qe (Ql px pz) (Ql px pz)))))))) rfl rfl (fun w79 _ew79 => Jr.mono (Qx Tryd.func81 Qbj Qa3 (Yk rfl rfl) (Gh (Ql (Qe (Qz px pz) (Qz px pz)) (Qe (Ql px pz) (Ql px pz))) (Qz (Qe (Qz px pz) (Qz px pz)) (Qe ([121665#64, 0#64, 0#64, 0#64, 0#64]) (Ql (Qe (Qz px pz) (Qz px pz)) (Qe (Ql px pz) (Ql px pz))))) _ sD sD)) (by rintro _ w80 ⟨rfl, _ew80⟩; exact ⟨rfl, _ew80⟩)) <| Qw rfl rfl (fun _ _hx => Jh (c := (Qr [(Qe (Qe (Qz px pz) (Qz px pz)) (Qe (Ql px pz) (Ql px pz))).map u64, (Qe (Ql (Qe (Qz px pz) (Qz px pz)) (Qe (Ql px pz) (Ql px pz))) (Qz (Qe (Qz px pz) (Qz px pz)) (Qe ([121665#64, 0#64, 0#64, 0#64, 0#64]) (Ql (Qe (Qz px pz) (Qz px pz)) (Qe (Ql px pz) (Ql px pz)))))).map u64])) (pl := [(0, 5), (5, 5)]) Gx Uy (by kernel_rfl) (Yh (i := 0) (v := (agg u64 (Qe (Qe (Qz px pz) (Qz px pz)) (Qe (Ql px pz) (Ql px pz))))) (cs := (cl u64 (Qe (Qe (Qz px pz) (Qz px pz)) (Qe (Ql px pz) (Ql px pz))))) rfl rfl (Yh (i := 1) (v := (agg u64 (Qe (Ql (Qe (Qz px pz) (Qz px pz)) (Qe (Ql px pz) (Ql px pz))) (Qz (Qe (Qz px pz) (Qz px pz)) (Qe ([121665#64, 0#64, 0#64, 0#64, 0#64]) (Ql (Qe (Qz px pz) (Qz px pz)) (Qe (Ql px pz) (Ql px pz)))))))) (cs := (cl u64 (Qe (Ql (Qe (Qz px pz) (Qz px pz)) (Qe (Ql px pz) (Ql px pz))) (Qz (Qe (Qz px pz) (Qz px pz)) (Qe ([121665#64, 0#64, 0#64, 0#64, 0#64]) (Ql (Qe (Qz px pz) (Qz px pz)) (Qe (Ql px pz) (Ql px pz)))))))) rfl rfl Wy)) (X5 [] [(List.replicate 5 0).map u64] [(Qe (Qe (Qz px pz) (Qz px pz)) (Qe (Ql px pz) (Ql px pz))).map u64] [(List.replicate 5 0).map u64] rfl (Jb u64 _).symm Qj (Qa (n := 5) (m := 0) (k := 5) (by first | rfl | (rw [List.length_map]; first | omega | (simp; done) | (simp; omega))) Qj rfl) (Qa (n := 5) (m := 0) (k := 5) (by first | rfl | (rw [List.length_map]; first | omega | (simp; done) | (simp; omega))) Qj rfl) (X5 [(Qe (Qe (Qz px pz) (Qz px pz)) (Qe (Ql px pz) (Ql px pz))).map u64] [(List.replicate 5 0).map u64] [(Qe (Ql (Qe (Qz px pz) (Qz px pz)) (Qe (Ql px pz) (Ql px pz))) (Qz (Qe (Qz px pz) (Qz px pz)) (Qe ([121665#64, 0#64, 0#64, 0#64, 0#64]) (Ql (Qe (Qz px pz) (Qz px pz)) (Qe (Ql px pz) (Ql px pz)))))).map u64] [] rfl (Jb u64 _).symm (Qa (n := 5) (m := 0) (k := 5) (by first | rfl | (rw [List.length_map]; first | omega | (simp; done) | (simp; omega))) Qj rfl) (Qa (n := 5) (m := 0) (k := 5) (by first | rfl | (rw [List.length_map]; first | omega | (simp; done) | (simp; omega))) Qj rfl) (Qa (n := 5) (m := 0) (k := 5) (by first | rfl | (rw [List.length_map]; first | omega | (simp; done) | (simp; omega))) Qj rfl) Gg))) ?_
 refine Lc rfl rfl (fun w82 _ew82 => ?_)
 have hm82 := hm69.ext _ew82
 refine Jr.mono (Jc hm82 Gx) ?_
 rintro _ w83 ⟨b19, rfl, _ew83, hm83⟩
 refine ⟨_ew83, ?_⟩
 refine X3 (fun w84 _ew84 => ?_)
 have hm84 := hm83.ext _ew84
 refine Xf (Xh [(Qe (Qe (Qz px pz) (Qz px pz)) (Qe (Ql px pz) (Ql px pz))).map u64, (Qe (Ql (Qe (Qz px pz) (Qz px pz)) (Qe (Ql px pz) (Ql px pz))) (Qz (Qe (Qz px pz) (Qz px pz)) (Qe ([121665#64, 0#64, 0#64, 0#64, 0#64]) (Ql (Qe (Qz px pz) (Qz px pz)) (Qe (Ql px pz) (Ql px pz)))))).map u64] Gx rfl rfl (Qa (n := 5) (m := 5) (k := 10) (by first | rfl | (rw [List.length_map]; first | omega | (simp; done) | (simp; omega))) (Qa (n := 5) (m := 0) (k := 5) (by first | rfl | (rw [List.length_map]; first | omega | (simp; done) | (simp; omega))) Qj rfl) rfl) (Qp (Zg Xa _) (Qp (Zg Xa _) J7)) hm84.h0 rfl rfl) ?_
 rintro _ w85 uq85
 have hm85 : Mem w85 (Qo w0) [(b19, .cells (Qr [(Qe (Qe (Qz px pz) (Qz px pz)) (Qe (Ql px pz) (Ql px pz))).map u64, (Qe (Ql (Qe (Qz px pz) (Qz px pz)) (Qe (Ql px pz) (Ql px pz))) (Qz (Qe (Qz px pz) (Qz px pz)) (Qe ([121665#64, 0#64, 0#64, 0#64, 0#64]) (Ql (Qe (Qz px pz) (Qz px pz)) (Qe (Ql px pz) (Ql px pz)))))).map u64]) 129 (0, 0)), (b17, .cells (cl u64 (Qz (Qe (Ql qx qz) (Qz px pz)) (Qe (Qz qx qz) (Ql px pz)))) 126 (0, 0)), (b18, .cells (cl u64 (Ql (Qe (Ql qx qz) (Qz px pz)) (Qe (Qz qx qz) (Ql px pz)))) 126 (0, 0)), (b16, .cells (cl u64 (Ql (Qe (Qz px pz) (Qz px pz)) (Qe (Ql px pz) (Ql px pz)))) 126 (0, 0)), (b14, .cells (cl u64 (Qe (Qz px pz) (Qz px pz))) 126 (0, 0)), (b15, .cells (cl u64 (Qe (Ql px pz) (Ql px pz))) 126 (0, 0)), (b12, .cells (cl u64 (Qe (Ql qx qz) (Qz px pz))) 126 (0, 0)), (b13, .cells (cl u64 (Qe (Qz qx qz) (Ql px pz))) 126 (0, 0)), (b10, .cells (cl u64 (Qz qx qz)) 126 (0, 0)), (b11, .cells (cl u64 (Ql qx qz)) 126 (0, 0)), (b8, .cells (cl u64 (Qz px pz)) 126 (0, 0)), (b9, .cells (cl u64 (Ql px pz)) 126 (0, 0)), (b7, .cells #[(u64 0), (u64 0), (u64 0), (u64 0), (u64 0), (u64 0), (u64 0), (u64 0), (u64 0), (u64 0)] 129 (0, 0)), (b6, .cells #[(u64 0), (u64 0), (u64 0), (u64 0), (u64 0), (u64 0), (u64 0), (u64 0), (u64 0), (u64 0)] 129 (0, 0)), (b5, .cells (cl u64 x1) 126 (0, 0)), (b4, .cells (Qr [qx.map u64, qz.map u64]) 129 (0, 0)), (b3, .cells (Qr [px.map u64, pz.map u64]) 129 (0, 0))] := hm84.upd0 uq85
 refine rN ?_
 refine CW.abs (fun g => g 0 = (Value.agg (Qr [px.map u64, pz.map u64])) ∧ g 1 = (Value.agg (Qr [qx.map u64, qz.map u64])) ∧ g 2 = (agg u64 x1) ∧ g 3 = (ptr b3 0) ∧ g 4 = (ptr b4 0) ∧ g 5 = (ptr b5 0) ∧ g 6 = (ptr b6 0) ∧ g 7 = (ptr b7 0) ∧ g 8 = (ptr b8 0) ∧ g 9 = (ptr b9 0) ∧ g 10 = (ptr b10 0) ∧ g 11 = (ptr b11 0) ∧ g 12 = (ptr b12 0) ∧ g 13 = (ptr b13 0) ∧ g 14 = (ptr b14 0) ∧ g 15 = (ptr b15 0) ∧ g 16 = (ptr b16 0) ∧ g 17 = (ptr b17 0) ∧ g 18 = (ptr b18 0) ∧ g 19 = (ptr b19 0) ∧ True) ⟨s0, s1, s2, s3, s4, s5, s6, s7, s8, s9, s10, s11, s12, s13, s14, s15, s16, s17, s18, rfl, trivial⟩ ?_
 rintro fr86 ⟨s0, s1, s2, s3, s4, s5, s6, s7, s8, s9, s10, s11, s12, s13, s14, s15, s16, s17, s18, s19, _⟩
 refine Qh <| Kz (by kernel_rfl) ?_
 have hm87 := (Mem.pick [_, _, _, _, _, _, _, _, _, _, _, _, _, _, _, _] [_] _ hm85)
 have hm88 := (Mem.pick [_, _, _, _, _, _, _, _, _, _, _, _, _, _, _, _] [_] _ hm87)
 have hm89 := (Mem.pick [_, _, _, _, _, _, _, _, _, _, _, _, _, _, _, _] [_] _ hm88)
 have hm90 := (Mem.pick [_, _, _, _, _, _, _, _, _, _, _, _, _, _, _] [_] _ hm89)
 have hm91 := (Mem.pick [_, _, _, _, _, _, _, _, _, _, _, _, _, _, _] [_] _ hm90)
 have hm92 := (Mem.pick [_, _, _, _, _, _, _, _, _, _, _, _, _, _, _] [_] _ hm91)
 have hm93 := (Mem.pick [_, _, _, _, _, _, _, _, _, _, _, _, _, _, _] [_] _ hm92)
 have hm94 := (Mem.pick [_, _, _, _, _, _, _, _, _, _, _, _, _, _, _] [_] _ hm93)
 have hm95 := (Mem.pick [_, _, _, _, _, _, _, _, _, _, _, _, _, _, _] [_] _ hm94)
 have hm96 := (Mem.pick [_, _, _, _, _, _, _, _, _, _, _, _, _, _, _] [_] _ hm95)
 have hm97 := (Mem.pick [_, _, _, _, _, _, _, _, _, _, _, _, _, _, _] [_] _ hm96)
 have hm98 := (Mem.pick [_, _, _, _, _, _, _, _, _, _, _, _, _, _, _] [_] _ hm97)
 have hm99 := (Mem.pick [_, _, _, _, _, _, _, _, _, _, _, _, _, _, _] [_] _ hm98)
 have hm100 := (Mem.pick [_, _, _, _, _, _, _, _, _, _, _, _, _, _, _] [_] _ hm99)
 have hm101 := (Mem.pick [_, _, _, _, _, _, _, _, _, _, _, _, _, _, _] [_] _ hm100)
 have hm102 := (Mem.pick [_, _, _, _, _, _, _, _, _, _, _, _, _, _, _] [_] _ hm101)
 have hm103 := (Mem.pick [_, _, _, _, _, _, _, _, _, _, _, _, _, _, _, _] [_] _ hm102)
 have hFM104 : Mem w85 (Qo w0) ([(b6, .cells #[(u64 0), (u64 0), (u64 0), (u64 0), (u64 0), (u64 0), (u64 0), (u64 0), (u64 0), (u64 0)] 129 (0, 0))] ++ [(b19, .cells (Qr [(Qe (Qe (Qz px pz) (Qz px pz)) (Qe (Ql px pz) (Ql px pz))).map u64, (Qe (Ql (Qe (Qz px pz) (Qz px pz)) (Qe (Ql px pz) (Ql px pz))) (Qz (Qe (Qz px pz) (Qz px pz)) (Qe ([121665#64, 0#64, 0#64, 0#64, 0#64]) (Ql (Qe (Qz px pz) (Qz px pz)) (Qe (Ql px pz) (Ql px pz)))))).map u64]) 129 (0, 0)), (b17, .cells (cl u64 (Qz (Qe (Ql qx qz) (Qz px pz)) (Qe (Qz qx qz) (Ql px pz)))) 126 (0, 0)), (b18, .cells (cl u64 (Ql (Qe (Ql qx qz) (Qz px pz)) (Qe (Qz qx qz) (Ql px pz)))) 126 (0, 0)), (b16, .cells (cl u64 (Ql (Qe (Qz px pz) (Qz px pz)) (Qe (Ql px pz) (Ql px pz)))) 126 (0, 0)), (b14, .cells (cl u64 (Qe (Qz px pz) (Qz px pz))) 126 (0, 0)), (b15, .cells (cl u64 (Qe (Ql px pz) (Ql px pz))) 126 (0, 0)), (b12, .cells (cl u64 (Qe (Ql qx qz) (Qz px pz))) 126 (0, 0)), (b13, .cells (cl u64 (Qe (Qz qx qz) (Ql px pz))) 126 (0, 0)), (b10, .cells (cl u64 (Qz qx qz)) 126 (0, 0)), (b11, .cells (cl u64 (Ql qx qz)) 126 (0, 0)), (b8, .cells (cl u64 (Qz px pz)) 126 (0, 0)), (b9, .cells (cl u64 (Ql px pz)) 126 (0, 0)), (b7, .cells #[(u64 0), (u64 0), (u64 0), (u64 0), (u64 0), (u64 0), (u64 0), (u64 0), (u64 0), (u64 0)] 129 (0, 0)), (b5, .cells (cl u64 x1) 126 (0, 0)), (b4, .cells (Qr [qx.map u64, qz.map u64]) 129 (0, 0)), (b3, .cells (Qr [px.map u64, pz.map u64]) 129 (0, 0))]) := hm103
 obtain ⟨RM104, hRM104⟩ : ∃ R2, R2 = Rest.add (Qo w0) [(b19, .cells (Qr [(Qe (Qe (Qz px pz) (Qz px pz)) (Qe (Ql px pz) (Ql px pz))).map u64, (Qe (Ql (Qe (Qz px pz) (Qz px pz)) (Qe (Ql px pz) (Ql px pz))) (Qz (Qe (Qz px pz) (Qz px pz)) (Qe ([121665#64, 0#64, 0#64, 0#64, 0#64]) (Ql (Qe (Qz px pz) (Qz px pz)) (Qe (Ql px pz) (Ql px pz)))))).map u64]) 129 (0, 0)), (b17, .cells (cl u64 (Qz (Qe (Ql qx qz) (Qz px pz)) (Qe (Qz qx qz) (Ql px pz)))) 126 (0, 0)), (b18, .cells (cl u64 (Ql (Qe (Ql qx qz) (Qz px pz)) (Qe (Qz qx qz) (Ql px pz)))) 126 (0, 0)), (b16, .cells (cl u64 (Ql (Qe (Qz px pz) (Qz px pz)) (Qe (Ql px pz) (Ql px pz)))) 126 (0, 0)), (b14, .cells (cl u64 (Qe (Qz px pz) (Qz px pz))) 126 (0, 0)), (b15, .cells (cl u64 (Qe (Ql px pz) (Ql px pz))) 126 (0, 0)), (b12, .cells (cl u64 (Qe (Ql qx qz) (Qz px pz))) 126 (0, 0)), (b13, .cells (cl u64 (Qe (Qz qx qz) (Ql px pz))) 126 (0, 0)), (b10, .cells (cl u64 (Qz qx qz)) 126 (0, 0)), (b11, .cells (cl u64 (Ql qx qz)) 126 (0, 0)), (b8, .cells (cl u64 (Qz px pz)) 126 (0, 0)), (b9, .cells (cl u64 (Ql px pz)) 126 (0, 0)), (b7, .cells #[(u64 0), (u64 0), (u64 0), (u64 0), (u64 0), (u64 0), (u64 0), (u64 0), (u64 0), (u64 0)] 129 (0, 0)), (b5, .cells (cl u64 x1) 126 (0, 0)), (b4, .cells (Qr [qx.map u64, qz.map u64]) 129 (0, 0)), (b3, .cells (Qr [px.map u64, pz.map u64]) 129 (0, 0))] := ⟨_, rfl⟩
 have M1040 : Mem w85 RM104 [(b6, .cells #[(u64 0), (u64 0), (u64 0), (u64 0), (u64 0), (u64 0), (u64 0), (u64 0), (u64 0), (u64 0)] 129 (0, 0))] := by rw [hRM104]; exact Mem.give hFM104
 have ho105 : RM104.blk b19 = some (.cells (Qr [(Qe (Qe (Qz px pz) (Qz px pz)) (Qe (Ql px pz) (Ql px pz))).map u64, (Qe (Ql (Qe (Qz px pz) (Qz px pz)) (Qe (Ql px pz) (Ql px pz))) (Qz (Qe (Qz px pz) (Qz px pz)) (Qe ([121665#64, 0#64, 0#64, 0#64, 0#64]) (Ql (Qe (Qz px pz) (Qz px pz)) (Qe (Ql px pz) (Ql px pz)))))).map u64]) 129 (0, 0)) := by rw [hRM104]; exact Mem.addOwn hFM104 (List.Mem.head _)
 have ho106 : RM104.blk b17 = some (.cells (cl u64 (Qz (Qe (Ql qx qz) (Qz px pz)) (Qe (Qz qx qz) (Ql px pz)))) 126 (0, 0)) := by rw [hRM104]; exact Mem.addOwn hFM104 (List.Mem.tail _ (List.Mem.head _))
 have ho107 : RM104.blk b18 = some (.cells (cl u64 (Ql (Qe (Ql qx qz) (Qz px pz)) (Qe (Qz qx qz) (Ql px pz)))) 126 (0, 0)) := by rw [hRM104]; exact Mem.addOwn hFM104 (List.Mem.tail _ (List.Mem.tail _ (List.Mem.head _)))
 have ho108 : RM104.blk b16 = some (.cells (cl u64 (Ql (Qe (Qz px pz) (Qz px pz)) (Qe (Ql px pz) (Ql px pz)))) 126 (0, 0)) := by rw [hRM104]; exact Mem.addOwn hFM104 (List.Mem.tail _ (List.Mem.tail _ (List.Mem.tail _ (List.Mem.head _))))
 have ho109 : RM104.blk b14 = some (.cells (cl u64 (Qe (Qz px pz) (Qz px pz))) 126 (0, 0)) := by rw [hRM104]; exact Mem.addOwn hFM104 (List.Mem.tail _ (List.Mem.tail _ (List.Mem.tail _ (List.Mem.tail _ (List.Mem.head _)))))
 have ho110 : RM104.blk b15 = some (.cells (cl u64 (Qe (Ql px pz) (Ql px pz))) 126 (0, 0)) := by rw [hRM104]; exact Mem.addOwn hFM104 (List.Mem.tail _ (List.Mem.tail _ (List.Mem.tail _ (List.Mem.tail _ (List.Mem.tail _ (List.Mem.head _))))))
 have ho111 : RM104.blk b12 = some (.cells (cl u64 (Qe (Ql qx qz) (Qz px pz))) 126 (0, 0)) := by rw [hRM104]; exact Mem.addOwn hFM104 (List.Mem.tail _ (List.Mem.tail _ (List.Mem.tail _ (List.Mem.tail _ (List.Mem.tail _ (List.Mem.tail _ (List.Mem.head _)))))))
 have ho112 : RM104.blk b13 = some (.cells (cl u64 (Qe (Qz qx qz) (Ql px pz))) 126 (0, 0)) := by rw [hRM104]; exact Mem.addOwn hFM104 (List.Mem.tail _ (List.Mem.tail _ (List.Mem.tail _ (List.Mem.tail _ (List.Mem.tail _ (List.Mem.tail _ (List.Mem.tail _ (List.Mem.head _))))))))
 have ho113 : RM104.blk b10 = some (.cells (cl u64 (Qz qx qz)) 126 (0, 0)) := by rw [hRM104]; exact Mem.addOwn hFM104 (List.Mem.tail _ (List.Mem.tail _ (List.Mem.tail _ (List.Mem.tail _ (List.Mem.tail _ (List.Mem.tail _ (List.Mem.tail _ (List.Mem.tail _ (List.Mem.head _)))))))))
 have ho114 : RM104.blk b11 = some (.cells (cl u64 (Ql qx qz)) 126 (0, 0)) := by rw [hRM104]; exact Mem.addOwn hFM104 (List.Mem.tail _ (List.Mem.tail _ (List.Mem.tail _ (List.Mem.tail _ (List.Mem.tail _ (List.Mem.tail _ (List.Mem.tail _ (List.Mem.tail _ (List.Mem.tail _ (List.Mem.head _))))))))))
 have ho115 : RM104.blk b8 = some (.cells (cl u64 (Qz px pz)) 126 (0, 0)) := by rw [hRM104]; exact Mem.addOwn hFM104 (List.Mem.tail _ (List.Mem.tail _ (List.Mem.tail _ (List.Mem.tail _ (List.Mem.tail _ (List.Mem.tail _ (List.Mem.tail _ (List.Mem.tail _ (List.Mem.tail _ (List.Mem.tail _ (List.Mem.head _)))))))))))
 have ho116 : RM104.blk b9 = some (.cells (cl u64 (Ql px pz)) 126 (0, 0)) := by rw [hRM104]; exact Mem.addOwn hFM104 (List.Mem.tail _ (List.Mem.tail _ (List.Mem.tail _ (List.Mem.tail _ (List.Mem.tail _ (List.Mem.tail _ (List.Mem.tail _ (List.Mem.tail _ (List.Mem.tail _ (List.Mem.tail _ (List.Mem.tail _ (List.Mem.head _))))))))))))
 have ho117 : RM104.blk b7 = some (.cells #[(u64 0), (u64 0), (u64 0), (u64 0), (u64 0), (u64 0), (u64 0), (u64 0), (u64 0), (u64 0)] 129 (0, 0)) := by rw [hRM104]; exact Mem.addOwn hFM104 (List.Mem.tail _ (List.Mem.tail _ (List.Mem.tail _ (List.Mem.tail _ (List.Mem.tail _ (List.Mem.tail _ (List.Mem.tail _ (List.Mem.tail _ (List.Mem.tail _ (List.Mem.tail _ (List.Mem.tail _ (List.Mem.tail _ (List.Mem.head _)))))))))))))
 have ho118 : RM104.blk b5 = some (.cells (cl u64 x1) 126 (0, 0)) := by rw [hRM104]; exact Mem.addOwn hFM104 (List.Mem.tail _ (List.Mem.tail _ (List.Mem.tail _ (List.Mem.tail _ (List.Mem.tail _ (List.Mem.tail _ (List.Mem.tail _ (List.Mem.tail _ (List.Mem.tail _ (List.Mem.tail _ (List.Mem.tail _ (List.Mem.tail _ (List.Mem.tail _ (List.Mem.head _))))))))))))))
 have ho119 : RM104.blk b4 = some (.cells (Qr [qx.map u64, qz.map u64]) 129 (0, 0)) := by rw [hRM104]; exact Mem.addOwn hFM104 (List.Mem.tail _ (List.Mem.tail _ (List.Mem.tail _ (List.Mem.tail _ (List.Mem.tail _ (List.Mem.tail _ (List.Mem.tail _ (List.Mem.tail _ (List.Mem.tail _ (List.Mem.tail _ (List.Mem.tail _ (List.Mem.tail _ (List.Mem.tail _ (List.Mem.tail _ (List.Mem.head _)))))))))))))))
 have ho120 : RM104.blk b3 = some (.cells (Qr [px.map u64, pz.map u64]) 129 (0, 0)) := by rw [hRM104]; exact Mem.addOwn hFM104 (List.Mem.tail _ (List.Mem.tail _ (List.Mem.tail _ (List.Mem.tail _ (List.Mem.tail _ (List.Mem.tail _ (List.Mem.tail _ (List.Mem.tail _ (List.Mem.tail _ (List.Mem.tail _ (List.Mem.tail _ (List.Mem.tail _ (List.Mem.tail _ (List.Mem.tail _ (List.Mem.tail _ (List.Mem.head _))))))))))))))))
 refine Uc M1040 [(0, false), (1, false), (2, false), (3, false), (4, false), (5, false), (6, false), (7, false), (8, false), (9, false), (10, true)] 11 rfl (by kernel_rfl) <| Jd (v := (Value.agg (Qr [(Qe (Qe (Qz px pz) (Qz px pz)) (Qe (Ql px pz) (Ql px pz))).map u64, (Qe (Ql (Qe (Qz px pz) (Qz px pz)) (Qe (Ql px pz) (Ql px pz))) (Qz (Qe (Qz px pz) (Qz px pz)) (Qe ([121665#64, 0#64, 0#64, 0#64, 0#64]) (Ql (Qe (Qz px pz) (Qz px pz)) (Qe (Ql px pz) (Ql px pz)))))).map u64]))) rfl rfl (fun w _H _hx => Xz [] [(Qe (Qe (Qz px pz) (Qz px pz)) (Qe (Ql px pz) (Ql px pz))).map u64, (Qe (Ql (Qe (Qz px pz) (Qz px pz)) (Qe (Ql px pz) (Ql px pz))) (Qz (Qe (Qz px pz) (Qz px pz)) (Qe ([121665#64, 0#64, 0#64, 0#64, 0#64]) (Ql (Qe (Qz px pz) (Qz px pz)) (Qe (Ql px pz) (Ql px pz)))))).map u64] [] Uy rfl Gx s19 (_hx.rest _ _ ho105) Qj (Qa (n := 5) (m := 5) (k := 10) (by first | rfl | (rw [List.length_map]; first | omega | (simp; done) | (simp; omega))) (Qa (n := 5) (m := 0) (k := 5) (by first | rfl | (rw [List.length_map]; first | omega | (simp; done) | (simp; omega))) Qj rfl) rfl)) <| Jd (v := (agg u64 (Qz (Qe (Ql qx qz) (Qz px pz)) (Qe (Qz qx qz) (Ql px pz))))) rfl rfl (fun w _H _hx => Z9 Z7 rfl Xm s17 (_hx.rest _ _ ho106) sZ) <| Jd (v := (agg u64 (Qz (Qe (Ql qx qz) (Qz px pz)) (Qe (Qz qx qz) (Ql px pz))))) rfl rfl (fun w _H _hx => Z9 Z7 rfl Xm s17 (_hx.rest _ _ ho106) sZ) <| dk_x (v := (agg u64 (Qe (Qz (Qe (Ql qx qz) (Qz px pz)) (Qe (Qz qx qz) (Ql px pz))) (Qz (Qe (Ql qx qz) (Qz px pz)) (Qe (Qz qx qz) (Ql px pz)))))) rfl rfl (fun w121 _Hw121 _hw121 => Jr.mono (Qx Tryd.func81 Qbj Qa3 (Yk rfl rfl) (Gh (Qz (Qe (Ql qx qz) (Qz px pz)) (Qe (Qz qx qz) (Ql px pz))) (Qz (Qe (Ql qx qz) (Qz px pz)) (Qe (Qz qx qz) (Ql px pz))) _ sD sD)) (by rintro _ w122 ⟨rfl, _ew122⟩; exact ⟨rfl, _ew122⟩)) <| Jd (v := (agg u64 x1)) rfl rfl (fun w _H _hx => Z9 Z7 rfl Xm s5 (_hx.rest _ _ ho118) sZ) <| Jd (v := (agg u64 (Ql (Qe (Ql qx qz) (Qz px pz)) (Qe (Qz qx qz) (Ql px pz))))) rfl rfl (fun w _H _hx => Z9 Z7 rfl Xm s18 (_hx.rest _ _ ho107) sZ) <| Jd (v := (agg u64 (Ql (Qe (Ql qx qz) (Qz px pz)) (Qe (Qz qx qz) (Ql px pz))))) rfl rfl (fun w _H _hx => Z9 Z7 rfl Xm s18 (_hx.rest _ _ ho107) sZ) <| dk_x (v := (agg u64 (Qe (Ql (Qe (Ql qx qz) (Qz px pz)) (Qe (Qz qx qz) (Ql px pz))) (Ql (Qe (Ql qx qz) (Qz px pz)) (Qe (Qz qx qz) (Ql px pz)))))) rfl rfl (fun w124 _Hw124 _hw124 => Jr.mono (Qx Tryd.func81 Qbj Qa3 (Yk rfl rfl) (Gh (Ql (Qe (Ql qx qz) (Qz px pz)) (Qe (Qz qx qz) (Ql px pz))) (Ql (Qe (Ql qx qz) (Qz px pz)) (Qe (Qz qx qz) (Ql px pz))) _ sD sD)) (by rintro _ w125 ⟨rfl, _ew125⟩; exact ⟨rfl, _ew125⟩)) <| dk_x (v := (agg u64 (Qe x1 (Qe (Ql (Qe (Ql qx qz) (Qz px pz)) (Qe (Qz qx qz) (Ql px pz))) (Ql (Qe (Ql qx qz) (Qz px pz)) (Qe (Qz qx qz) (Ql px pz))))))) rfl rfl (fun w127 _Hw127 _hw127 => Jr.mono (Qx Tryd.func81 Qbj Qa3 (Yk rfl rfl) (Gh x1 (Qe (Ql (Qe (Ql qx qz) (Qz px pz)) (Qe (Qz qx qz) (Ql px pz))) (Ql (Qe (Ql qx qz) (Qz px pz)) (Qe (Qz qx qz) (Ql px pz)))) _ sD sD)) (by rintro _ w128 ⟨rfl, _ew128⟩; exact ⟨rfl, _ew128⟩)) <| Jd rfl rfl (fun w _H _hx => Jh (c := (Qr [(Qe (Qz (Qe (Ql qx qz) (Qz px pz)) (Qe (Qz qx qz) (Ql px pz))) (Qz (Qe (Ql qx qz) (Qz px pz)) (Qe (Qz qx qz) (Ql px pz)))).map u64, (Qe x1 (Qe (Ql (Qe (Ql qx qz) (Qz px pz)) (Qe (Qz qx qz) (Ql px pz))) (Ql (Qe (Ql qx qz) (Qz px pz)) (Qe (Qz qx qz) (Ql px pz))))).map u64])) (pl := [(0, 5), (5, 5)]) Gx Uy (by kernel_rfl) (Yh (i := 0) (v := (agg u64 (Qe (Qz (Qe (Ql qx qz) (Qz px pz)) (Qe (Qz qx qz) (Ql px pz))) (Qz (Qe (Ql qx qz) (Qz px pz)) (Qe (Qz qx qz) (Ql px pz)))))) (cs := (cl u64 (Qe (Qz (Qe (Ql qx qz) (Qz px pz)) (Qe (Qz qx qz) (Ql px pz))) (Qz (Qe (Ql qx qz) (Qz px pz)) (Qe (Qz qx qz) (Ql px pz)))))) rfl rfl (Yh (i := 1) (v := (agg u64 (Qe x1 (Qe (Ql (Qe (Ql qx qz) (Qz px pz)) (Qe (Qz qx qz) (Ql px pz))) (Ql (Qe (Ql qx qz) (Qz px pz)) (Qe (Qz qx qz) (Ql px pz))))))) (cs := (cl u64 (Qe x1 (Qe (Ql (Qe (Ql qx qz) (Qz px pz)) (Qe (Qz qx qz) (Ql px pz))) (Ql (Qe (Ql qx qz) (Qz px pz)) (Qe (Qz qx qz) (Ql px pz))))))) rfl rfl Wy)) (X5 [] [(List.replicate 5 0).map u64] [(Qe (Qz (Qe (Ql qx qz) (Qz px pz)) (Qe (Qz qx qz) (Ql px pz))) (Qz (Qe (Ql qx qz) (Qz px pz)) (Qe (Qz qx qz) (Ql px pz)))).map u64] [(List.replicate 5 0).map u64] rfl (Jb u64 _).symm Qj (Qa (n := 5) (m := 0) (k := 5) (by first | rfl | (rw [List.length_map]; first | omega | (simp; done) | (simp; omega))) Qj rfl) (Qa (n := 5) (m := 0) (k := 5) (by first | rfl | (rw [List.length_map]; first | omega | (simp; done) | (simp; omega))) Qj rfl) (X5 [(Qe (Qz (Qe (Ql qx qz) (Qz px pz)) (Qe (Qz qx qz) (Ql px pz))) (Qz (Qe (Ql qx qz) (Qz px pz)) (Qe (Qz qx qz) (Ql px pz)))).map u64] [(List.replicate 5 0).map u64] [(Qe x1 (Qe (Ql (Qe (Ql qx qz) (Qz px pz)) (Qe (Qz qx qz) (Ql px pz))) (Ql (Qe (Ql qx qz) (Qz px pz)) (Qe (Qz qx qz) (Ql px pz))))).map u64] [] rfl (Jb u64 _).symm (Qa (n := 5) (m := 0) (k := 5) (by first | rfl | (rw [List.length_map]; first | omega | (simp; done) | (simp; omega))) Qj rfl) (Qa (n := 5) (m := 0) (k := 5) (by first | rfl | (rw [List.length_map]; first | omega | (simp; done) | (simp; omega))) Qj rfl) (Qa (n := 5) (m := 0) (k := 5) (by first | rfl | (rw [List.length_map]; first | omega | (simp; done) | (simp; omega))) Qj rfl) Gg))) ?_
 refine dk_n rfl (fun w130 _ew130 => ?_)
 have hm130 := M1040.ext _ew130
 refine Jr.mono (Xh [(Qe (Qe (Qz px pz) (Qz px pz)) (Qe (Ql px pz) (Ql px pz))).map u64, (Qe (Ql (Qe (Qz px pz) (Qz px pz)) (Qe (Ql px pz) (Ql px pz))) (Qz (Qe (Qz px pz) (Qz px pz)) (Qe ([121665#64, 0#64, 0#64, 0#64, 0#64]) (Ql (Qe (Qz px pz) (Qz px pz)) (Qe (Ql px pz) (Ql px pz)))))).map u64] Gx s6 rfl (Qa (n := 5) (m := 5) (k := 10) (by first | rfl | (rw [List.length_map]; first | omega | (simp; done) | (simp; omega))) (Qa (n := 5) (m := 0) (k := 5) (by first | rfl | (rw [List.length_map]; first | omega | (simp; done) | (simp; omega))) Qj rfl) rfl) (Qp (Zg Xa _) (Qp (Zg Xa _) J7)) hm130.h0 rfl rfl) ?_
 rintro _ w131 uq131
 have hm131 : Mem w131 RM104 [(b6, .cells (Qr [(Qe (Qe (Qz px pz) (Qz px pz)) (Qe (Ql px pz) (Ql px pz))).map u64, (Qe (Ql (Qe (Qz px pz) (Qz px pz)) (Qe (Ql px pz) (Ql px pz))) (Qz (Qe (Qz px pz) (Qz px pz)) (Qe ([121665#64, 0#64, 0#64, 0#64, 0#64]) (Ql (Qe (Qz px pz) (Qz px pz)) (Qe (Ql px pz) (Ql px pz)))))).map u64]) 129 (0, 0))] := hm130.upd0 uq131
 refine ⟨⟨_, hm131⟩, ?_⟩
 refine X3 (fun w132 _ew132 => ?_)
 have hm132 := hm131.ext _ew132
 have hX133 := hm132
 rw [hRM104] at hX133
 have hm134 : Mem w132 (Qo w0) [(b6, .cells (Qr [(Qe (Qe (Qz px pz) (Qz px pz)) (Qe (Ql px pz) (Ql px pz))).map u64, (Qe (Ql (Qe (Qz px pz) (Qz px pz)) (Qe (Ql px pz) (Ql px pz))) (Qz (Qe (Qz px pz) (Qz px pz)) (Qe ([121665#64, 0#64, 0#64, 0#64, 0#64]) (Ql (Qe (Qz px pz) (Qz px pz)) (Qe (Ql px pz) (Ql px pz)))))).map u64]) 129 (0, 0)), (b19, .cells (Qr [(Qe (Qe (Qz px pz) (Qz px pz)) (Qe (Ql px pz) (Ql px pz))).map u64, (Qe (Ql (Qe (Qz px pz) (Qz px pz)) (Qe (Ql px pz) (Ql px pz))) (Qz (Qe (Qz px pz) (Qz px pz)) (Qe ([121665#64, 0#64, 0#64, 0#64, 0#64]) (Ql (Qe (Qz px pz) (Qz px pz)) (Qe (Ql px pz) (Ql px pz)))))).map u64]) 129 (0, 0)), (b17, .cells (cl u64 (Qz (Qe (Ql qx qz) (Qz px pz)) (Qe (Qz qx qz) (Ql px pz)))) 126 (0, 0)), (b18, .cells (cl u64 (Ql (Qe (Ql qx qz) (Qz px pz)) (Qe (Qz qx qz) (Ql px pz)))) 126 (0, 0)), (b16, .cells (cl u64 (Ql (Qe (Qz px pz) (Qz px pz)) (Qe (Ql px pz) (Ql px pz)))) 126 (0, 0)), (b14, .cells (cl u64 (Qe (Qz px pz) (Qz px pz))) 126 (0, 0)), (b15, .cells (cl u64 (Qe (Ql px pz) (Ql px pz))) 126 (0, 0)), (b12, .cells (cl u64 (Qe (Ql qx qz) (Qz px pz))) 126 (0, 0)), (b13, .cells (cl u64 (Qe (Qz qx qz) (Ql px pz))) 126 (0, 0)), (b10, .cells (cl u64 (Qz qx qz)) 126 (0, 0)), (b11, .cells (cl u64 (Ql qx qz)) 126 (0, 0)), (b8, .cells (cl u64 (Qz px pz)) 126 (0, 0)), (b9, .cells (cl u64 (Ql px pz)) 126 (0, 0)), (b7, .cells #[(u64 0), (u64 0), (u64 0), (u64 0), (u64 0), (u64 0), (u64 0), (u64 0), (u64 0), (u64 0)] 129 (0, 0)), (b5, .cells (cl u64 x1) 126 (0, 0)), (b4, .cells (Qr [qx.map u64, qz.map u64]) 129 (0, 0)), (b3, .cells (Qr [px.map u64, pz.map u64]) 129 (0, 0))] := (by
   have hT := Mem.back hFM104 hX133
   try simp only [List.append_assoc, List.cons_append, List.nil_append, List.append_nil] at hT ⊢
   exact hT)
 refine Xf (Xh [(Qe (Qz (Qe (Ql qx qz) (Qz px pz)) (Qe (Qz qx qz) (Ql px pz))) (Qz (Qe (Ql qx qz) (Qz px pz)) (Qe (Qz qx qz) (Ql px pz)))).map u64, (Qe x1 (Qe (Ql (Qe (Ql qx qz) (Qz px pz)) (Qe (Qz qx qz) (Ql px pz))) (Ql (Qe (Ql qx qz) (Qz px pz)) (Qe (Qz qx qz) (Ql px pz))))).map u64] Gx s7 rfl (Qa (n := 5) (m := 5) (k := 10) (by first | rfl | (rw [List.length_map]; first | omega | (simp; done) | (simp; omega))) (Qa (n := 5) (m := 0) (k := 5) (by first | rfl | (rw [List.length_map]; first | omega | (simp; done) | (simp; omega))) Qj rfl) rfl) (Qp (Zg Xa _) (Qp (Zg Xa _) J7)) ((Mem.pick [_, _, _, _, _, _, _, _, _, _, _, _, _] [_] _ hm134)).h0 rfl rfl) ?_
 rintro _ w135 uq135
 have hm135 : Mem w135 (Qo w0) [(b7, .cells (Qr [(Qe (Qz (Qe (Ql qx qz) (Qz px pz)) (Qe (Qz qx qz) (Ql px pz))) (Qz (Qe (Ql qx qz) (Qz px pz)) (Qe (Qz qx qz) (Ql px pz)))).map u64, (Qe x1 (Qe (Ql (Qe (Ql qx qz) (Qz px pz)) (Qe (Qz qx qz) (Ql px pz))) (Ql (Qe (Ql qx qz) (Qz px pz)) (Qe (Qz qx qz) (Ql px pz))))).map u64]) 129 (0, 0)), (b6, .cells (Qr [(Qe (Qe (Qz px pz) (Qz px pz)) (Qe (Ql px pz) (Ql px pz))).map u64, (Qe (Ql (Qe (Qz px pz) (Qz px pz)) (Qe (Ql px pz) (Ql px pz))) (Qz (Qe (Qz px pz) (Qz px pz)) (Qe ([121665#64, 0#64, 0#64, 0#64, 0#64]) (Ql (Qe (Qz px pz) (Qz px pz)) (Qe (Ql px pz) (Ql px pz)))))).map u64]) 129 (0, 0)), (b19, .cells (Qr [(Qe (Qe (Qz px pz) (Qz px pz)) (Qe (Ql px pz) (Ql px pz))).map u64, (Qe (Ql (Qe (Qz px pz) (Qz px pz)) (Qe (Ql px pz) (Ql px pz))) (Qz (Qe (Qz px pz) (Qz px pz)) (Qe ([121665#64, 0#64, 0#64, 0#64, 0#64]) (Ql (Qe (Qz px pz) (Qz px pz)) (Qe (Ql px pz) (Ql px pz)))))).map u64]) 129 (0, 0)), (b17, .cells (cl u64 (Qz (Qe (Ql qx qz) (Qz px pz)) (Qe (Qz qx qz) (Ql px pz)))) 126 (0, 0)), (b18, .cells (cl u64 (Ql (Qe (Ql qx qz) (Qz px pz)) (Qe (Qz qx qz) (Ql px pz)))) 126 (0, 0)), (b16, .cells (cl u64 (Ql (Qe (Qz px pz) (Qz px pz)) (Qe (Ql px pz) (Ql px pz)))) 126 (0, 0)), (b14, .cells (cl u64 (Qe (Qz px pz) (Qz px pz))) 126 (0, 0)), (b15, .cells (cl u64 (Qe (Ql px pz) (Ql px pz))) 126 (0, 0)), (b12, .cells (cl u64 (Qe (Ql qx qz) (Qz px pz))) 126 (0, 0)), (b13, .cells (cl u64 (Qe (Qz qx qz) (Ql px pz))) 126 (0, 0)), (b10, .cells (cl u64 (Qz qx qz)) 126 (0, 0)), (b11, .cells (cl u64 (Ql qx qz)) 126 (0, 0)), (b8, .cells (cl u64 (Qz px pz)) 126 (0, 0)), (b9, .cells (cl u64 (Ql px pz)) 126 (0, 0)), (b5, .cells (cl u64 x1) 126 (0, 0)), (b4, .cells (Qr [qx.map u64, qz.map u64]) 129 (0, 0)), (b3, .cells (Qr [px.map u64, pz.map u64]) 129 (0, 0))] := Mem.upd0 (Mem.pick [_, _, _, _, _, _, _, _, _, _, _, _, _] [_] _ hm134) uq135
 refine rN (Xn ?_)
 refine Zj [(Value.agg (Qr [(Qe (Qe (Qz px pz) (Qz px pz)) (Qe (Ql px pz) (Ql px pz))).map u64, (Qe (Ql (Qe (Qz px pz) (Qz px pz)) (Qe (Ql px pz) (Ql px pz))) (Qz (Qe (Qz px pz) (Qz px pz)) (Qe ([121665#64, 0#64, 0#64, 0#64, 0#64]) (Ql (Qe (Qz px pz) (Qz px pz)) (Qe (Ql px pz) (Ql px pz)))))).map u64])), (Value.agg (Qr [(Qe (Qz (Qe (Ql qx qz) (Qz px pz)) (Qe (Qz qx qz) (Ql px pz))) (Qz (Qe (Ql qx qz) (Qz px pz)) (Qe (Qz qx qz) (Ql px pz)))).map u64, (Qe x1 (Qe (Ql (Qe (Ql qx qz) (Qz px pz)) (Qe (Qz qx qz) (Ql px pz))) (Ql (Qe (Ql qx qz) (Qz px pz)) (Qe (Qz qx qz) (Ql px pz))))).map u64]))] ⟨⟨_, s6, J5 [(Qe (Qe (Qz px pz) (Qz px pz)) (Qe (Ql px pz) (Ql px pz))).map u64, (Qe (Ql (Qe (Qz px pz) (Qz px pz)) (Qe (Ql px pz) (Ql px pz))) (Qz (Qe (Qz px pz) (Qz px pz)) (Qe ([121665#64, 0#64, 0#64, 0#64, 0#64]) (Ql (Qe (Qz px pz) (Qz px pz)) (Qe (Ql px pz) (Ql px pz)))))).map u64] Uy rfl Gx hm135.h1 (Qa (n := 5) (m := 5) (k := 10) (by first | rfl | (rw [List.length_map]; first | omega | (simp; done) | (simp; omega))) (Qa (n := 5) (m := 0) (k := 5) (by first | rfl | (rw [List.length_map]; first | omega | (simp; done) | (simp; omega))) Qj rfl) rfl)⟩, ⟨_, s7, J5 [(Qe (Qz (Qe (Ql qx qz) (Qz px pz)) (Qe (Qz qx qz) (Ql px pz))) (Qz (Qe (Ql qx qz) (Qz px pz)) (Qe (Qz qx qz) (Ql px pz)))).map u64, (Qe x1 (Qe (Ql (Qe (Ql qx qz) (Qz px pz)) (Qe (Qz qx qz) (Ql px pz))) (Ql (Qe (Ql qx qz) (Qz px pz)) (Qe (Qz qx qz) (Ql px pz))))).map u64] Uy rfl Gx hm135.h0 (Qa (n := 5) (m := 5) (k := 10) (by first | rfl | (rw [List.length_map]; first | omega | (simp; done) | (simp; omega))) (Qa (n := 5) (m := 0) (k := 5) (by first | rfl | (rw [List.length_map]; first | omega | (simp; done) | (simp; omega))) Qj rfl) rfl)⟩, trivial⟩ ?_
 exact ⟨by unfold Kt; rfl, hm135.toExt⟩
theorem c_clamp5 (k : List (BitVec 8)) (w0 : World)  (hk : k.length = 32) : X8 Tryd.prog 78 #[(agg u8 k)] w0 (fun r w1 => r = (agg u8 (Ze k)) ∧ Ext w0 w1) := by
 refine Zp (args := [(agg u8 k)]) Tryd.func78 rfl Tryd.ntmps78 Tryd.results78 rfl ?_
 have hm0 : Mem w0 (Qo w0) [] := Mem.of_world w0
 refine sR <| Zo rfl (X4 (f := u8) (l := k) hm0 rfl) ?_
 rintro _ w1 ⟨b1, rfl, _ew1, hm1⟩
 refine Zo rfl (Zy hm1 Z5) ?_
 rintro _ w2 ⟨b2, rfl, _ew2, hm2⟩
 refine rN (sR ?_)
 refine Qb rfl (Qm (r := 0) (i := 0) oM Xo Yq rfl rfl oM oM) <| Qb (v := (u8 (k.getD 0 0))) rfl (Qy Vh rfl rfl hm2.h1 (Zm _ _ 0 sD)) <| Qb rfl (Qaf (b := 7#8) rfl rfl) <| Qb rfl (Qm (r := 0) (i := 0) oM Xo Yq rfl rfl oM oM) <| Xf (Yj (f := u8) (a := (k.getD 0 0) &&& ~~~7#8) Q8 Yq rfl rfl hm2.h1 sD (.inl (Nat.zero_le _))) ?_
 rintro _ w3 uq3
 have hm3 := hm2.upd1 uq3
 refine rN (sR ?_)
 refine Qb rfl (Qm (r := 31) (i := 31) oM Xo Yq rfl rfl oM oM) <| Qb (v := (u8 ((k.set 0 ((k.getD 0 0) &&& ~~~7#8)).getD 31 0))) rfl (Qy Vh rfl rfl hm3.h1 (Zm _ _ 0 sD)) <| Qb rfl (Qaf (b := 128#8) rfl rfl) <| Qb rfl (Mc (b := 64#8) rfl rfl) <| Qb rfl (Qm (r := 31) (i := 31) oM Xo Yq rfl rfl oM oM) <| Xf (Yj (f := u8) (a := (((k.set 0 ((k.getD 0 0) &&& ~~~7#8)).getD 31 0) &&& ~~~128#8) ||| 64#8) Q8 Yq rfl rfl hm3.h1 sD (.inl (Nat.zero_le _))) ?_
 rintro _ w4 uq4
 have hm4 := hm3.upd1 uq4
 refine rN ?_
 refine CW.abs (fun g => g 0 = (agg u8 k) ∧ g 1 = (ptr b1 0) ∧ g 2 = (ptr b2 0) ∧ True) ⟨rfl, rfl, rfl, trivial⟩ ?_
 rintro fr5 ⟨s0, s1, s2, _⟩
 refine sR <| Qb (v := (agg u8 ((k.set 0 ((k.getD 0 0) &&& ~~~7#8)).set 31 ((((k.set 0 ((k.getD 0 0) &&& ~~~7#8)).getD 31 0) &&& ~~~128#8) ||| 64#8)))) rfl (Z9 Xo rfl Z5 s1 hm4.h1 sZ) <| Xf (Zl (f := u8) (l := (k.set 0 ((k.getD 0 0) &&& ~~~7#8)).set 31 ((((k.set 0 ((k.getD 0 0) &&& ~~~7#8)).getD 31 0) &&& ~~~128#8) ||| 64#8)) Q8 Z5 s2 rfl sD hm4.h0 sZ rfl) ?_
 rintro _ w6 uq6
 have hm6 := hm4.upd0 uq6
 refine rN (Xn ?_)
 refine Zj [(agg u8 ((k.set 0 ((k.getD 0 0) &&& ~~~7#8)).set 31 ((((k.set 0 ((k.getD 0 0) &&& ~~~7#8)).getD 31 0) &&& ~~~128#8) ||| 64#8)))] ⟨⟨_, s2, X6 Xo rfl Z5 hm6.h0 sZ⟩, trivial⟩ ?_
 exact ⟨by unfold Ze; rfl, hm6.toExt⟩
set_option maxHeartbeats 1000000 in
theorem Qg6 (ky u : List (BitVec 8)) (w0 : World)  (hk : ky.length = 32) (hu : u.length = 32) : X8 Tryd.prog 57 #[(agg u8 ky), (agg u8 u)] w0 (fun r w1 => r = (agg u8 (Xr ky u)) ∧ Ext w0 w1) := by
 refine Zp (args := [(agg u8 ky), (agg u8 u)]) Tryd.func57 rfl Tryd.ntmps57 Tryd.results57 rfl ?_
 have hm0 : Mem w0 (Qo w0) [] := Mem.of_world w0
 have hcl := Qde ky
 have hrl : (Zi u).length = 5 := by unfold Zi; exact Bc u 255
 refine sR <| Zo rfl (X4 (f := u8) (l := ky) hm0 rfl) ?_
 rintro _ w1 ⟨b2, rfl, _ew1, hm1⟩
 refine Zo rfl (X4 (f := u8) (l := u) hm1 rfl) ?_
 rintro _ w2 ⟨b3, rfl, _ew2, hm2⟩
 refine Zo rfl (Zy hm2 Z5) ?_
 rintro _ w3 ⟨b4, rfl, _ew3, hm3⟩
 refine rN (sR ?_)
 refine Qb (v := (agg u8 ky)) rfl (Z9 Xo rfl Z5 rfl hm3.h2 sZ) <| Zo rfl (Qx Tryd.func78 bd78 nm78 (Ye rfl) (c_clamp5 ky _ sD)) ?_
 rintro _ w4 ⟨rfl, _ew4⟩
 have hm4 := hm3.ext _ew4
 refine Xf (Zl (f := u8) (l := Ze ky) Q8 Z5 rfl rfl sD hm4.h2 sZ rfl) ?_
 rintro _ w6 uq6
 have hm6 := hm4.upd2 uq6
 refine rN (sR ?_)
 refine Qb (v := (agg u8 u)) rfl (Z9 Xo rfl Z5 rfl hm6.h1 sZ) <| Zo rfl (Qx Tryd.func79 bd79 nm79 (Ye rfl) (c_cread u _ sD)) ?_
 rintro _ w7 ⟨rfl, _ew7⟩
 have hm7 := hm6.ext _ew7
 refine Zo rfl (Zy hm7 Xm) ?_
 rintro _ w9 ⟨b5, rfl, _ew9, hm9⟩
 refine Xf (Zl (f := u64) (l := Zi u) Xa Xm rfl rfl sD hm9.h0 sZ rfl) ?_
 rintro _ w10 uq10
 have hm10 := hm9.upd0 uq10
 refine rN (Qh ?_)
 refine G8 (J := fun g wv => ∃ (c6 c7 : Nat), g 0 = (agg u8 ky) ∧ g 1 = (agg u8 u) ∧ g 2 = (ptr b2 0) ∧ g 3 = (ptr b3 0) ∧ g 4 = (ptr b4 0) ∧ g 5 = (ptr b5 0) ∧ g 6 = (ptr c6 0) ∧ g 7 = (ptr c7 0) ∧ Mem wv (Qo w0) [(c6, .cells (Qr [([1#64, 0#64, 0#64, 0#64, 0#64]).map u64, ([0#64, 0#64, 0#64, 0#64, 0#64]).map u64]) 129 (0, 0)), (c7, .cells (Qr [(Zi u).map u64, ([1#64, 0#64, 0#64, 0#64, 0#64]).map u64]) 129 (0, 0)), (b5, .cells (cl u64 (Zi u)) 126 (0, 0)), (b4, .cells (cl u8 (List.replicate 32 0)) 23 (0, 0)), (b3, .cells (cl u8 u) 23 (0, 0)), (b2, .cells (cl u8 (Ze ky)) 23 (0, 0))]) ?_ ?_
 · skip
   refine Kz (by kernel_rfl) ?_
   have hFM11 : Mem w10 (Qo w0) ([] ++ [(b5, .cells (cl u64 (Zi u)) 126 (0, 0)), (b4, .cells (cl u8 (List.replicate 32 0)) 23 (0, 0)), (b3, .cells (cl u8 u) 23 (0, 0)), (b2, .cells (cl u8 (Ze ky)) 23 (0, 0))]) := hm10
   obtain ⟨RM11, hRM11⟩ : ∃ R2, R2 = Rest.add (Qo w0) [(b5, .cells (cl u64 (Zi u)) 126 (0, 0)), (b4, .cells (cl u8 (List.replicate 32 0)) 23 (0, 0)), (b3, .cells (cl u8 u) 23 (0, 0)), (b2, .cells (cl u8 (Ze ky)) 23 (0, 0))] := ⟨_, rfl⟩
   have M110 : Mem w10 RM11 [] := by rw [hRM11]; exact Mem.give hFM11
   have ho12 : RM11.blk b5 = some (.cells (cl u64 (Zi u)) 126 (0, 0)) := by rw [hRM11]; exact Mem.addOwn hFM11 (List.Mem.head _)
   have ho13 : RM11.blk b4 = some (.cells (cl u8 (List.replicate 32 0)) 23 (0, 0)) := by rw [hRM11]; exact Mem.addOwn hFM11 (List.Mem.tail _ (List.Mem.head _))
   have ho14 : RM11.blk b3 = some (.cells (cl u8 u) 23 (0, 0)) := by rw [hRM11]; exact Mem.addOwn hFM11 (List.Mem.tail _ (List.Mem.tail _ (List.Mem.head _)))
   have ho15 : RM11.blk b2 = some (.cells (cl u8 (Ze ky)) 23 (0, 0)) := by rw [hRM11]; exact Mem.addOwn hFM11 (List.Mem.tail _ (List.Mem.tail _ (List.Mem.tail _ (List.Mem.head _))))
   refine Qfz [5, 6] [(0, false), (1, false), (2, false), (3, false), (4, false)] [(7, true)] 8 (luN [(5, 6), (6, 7)]) (luN [(5, 129), (6, 129)]) (luV [(5, (Value.agg #[(u64 0), (u64 0), (u64 0), (u64 0), (u64 0), (u64 0), (u64 0), (u64 0), (u64 0), (u64 0)])), (6, (Value.agg #[(u64 0), (u64 0), (u64 0), (u64 0), (u64 0), (u64 0), (u64 0), (u64 0), (u64 0), (u64 0)]))]) (fun g => g 0 = (agg u8 ky) ∧ g 1 = (agg u8 u) ∧ g 2 = (ptr b2 0) ∧ g 3 = (ptr b3 0) ∧ g 4 = (ptr b4 0) ∧ g 5 = (ptr b5 0) ∧ g 14 = (Value.agg #[(u64 1#64), (u64 0#64), (u64 0#64), (u64 0#64), (u64 0#64), (u64 0), (u64 0), (u64 0), (u64 0), (u64 0)]) ∧ g 17 = (Value.agg (Qr [(Zi u).map u64, ([1#64, 0#64, 0#64, 0#64, 0#64]).map u64])) ∧ True) M110 rfl (by decide) (by kernel_rfl) (by kernel_rfl) (U4 ⟨⟨_, _, _, rfl⟩, rfl, _, _, Gx⟩ (U4 ⟨⟨_, _, _, rfl⟩, rfl, _, _, Gx⟩ Qbk)) (by decide) (fun sx16 hS16 => ?_) ?_
   · skip
     refine Jd rfl rfl (fun w _H _hx => Gn (c := (cl u64 ([1#64, 0#64, 0#64, 0#64, 0#64]))) Xm Z7 Z8 (Yh (i := 0) (v := (u64 1#64)) (cs := #[(u64 1#64)]) rfl rfl Wy) (by kernel_rfl)) <| Jd rfl rfl (fun w _H _hx => Jh (c := #[(u64 1#64), (u64 0#64), (u64 0#64), (u64 0#64), (u64 0#64), (u64 0), (u64 0), (u64 0), (u64 0), (u64 0)]) (pl := [(0, 5), (5, 5)]) Gx Uy (by kernel_rfl) (Yh (i := 0) (v := (agg u64 ([1#64, 0#64, 0#64, 0#64, 0#64]))) (cs := (cl u64 ([1#64, 0#64, 0#64, 0#64, 0#64]))) rfl rfl Wy) (by kernel_rfl)) <| Jd (v := (agg u64 (Zi u))) rfl rfl (fun w _H _hx => Z9 Z7 rfl Xm rfl (_hx.rest _ _ ho12) sZ) <| Jd rfl rfl (fun w _H _hx => Gn (c := (cl u64 ([1#64, 0#64, 0#64, 0#64, 0#64]))) Xm Z7 Z8 (Yh (i := 0) (v := (u64 1#64)) (cs := #[(u64 1#64)]) rfl rfl Wy) (by kernel_rfl)) <| Jd rfl rfl (fun w _H _hx => Jh (c := (Qr [(Zi u).map u64, ([1#64, 0#64, 0#64, 0#64, 0#64]).map u64])) (pl := [(0, 5), (5, 5)]) Gx Uy (by kernel_rfl) (Yh (i := 0) (v := (agg u64 (Zi u))) (cs := (cl u64 (Zi u))) rfl rfl (Yh (i := 1) (v := (agg u64 ([1#64, 0#64, 0#64, 0#64, 0#64]))) (cs := (cl u64 ([1#64, 0#64, 0#64, 0#64, 0#64]))) rfl rfl Wy)) (X5 [] [(List.replicate 5 0).map u64] [(Zi u).map u64] [(List.replicate 5 0).map u64] rfl (Jb u64 _).symm Qj (Qa (n := 5) (m := 0) (k := 5) (by first | rfl | (rw [List.length_map]; first | omega | (simp; done) | (simp; omega))) Qj rfl) (Qa (n := 5) (m := 0) (k := 5) (by first | rfl | (rw [List.length_map]; first | omega | (simp; done) | (simp; omega))) Qj rfl) (X5 [(Zi u).map u64] [(List.replicate 5 0).map u64] [([1#64, 0#64, 0#64, 0#64, 0#64]).map u64] [] rfl (Jb u64 _).symm (Qa (n := 5) (m := 0) (k := 5) (by first | rfl | (rw [List.length_map]; first | omega | (simp; done) | (simp; omega))) Qj rfl) (Qa (n := 5) (m := 0) (k := 5) (by first | rfl | (rw [List.length_map]; first | omega | (simp; done) | (simp; omega))) Qj rfl) (Qa (n := 5) (m := 0) (k := 5) (by first | rfl | (rw [List.length_map]; first | omega | (simp; done) | (simp; omega))) Qj rfl) Gg))) ?_
     exact hS16 _ ⟨rfl, rfl, rfl, rfl, rfl, rfl, rfl, rfl, trivial⟩
   rintro g17 ⟨s0, s1, s2, s3, s4, s5, s14, s17, _⟩ g18 w19 ps19 hgo19 hps19 hmm19
   replace s0 := (hgo19 0 (by decide)).trans s0
   replace s1 := (hgo19 1 (by decide)).trans s1
   replace s2 := (hgo19 2 (by decide)).trans s2
   replace s3 := (hgo19 3 (by decide)).trans s3
   replace s4 := (hgo19 4 (by decide)).trans s4
   replace s5 := (hgo19 5 (by decide)).trans s5
   replace s14 := (hgo19 14 (by decide)).trans s14
   replace s17 := (hgo19 17 (by decide)).trans s17
   have s6 : g18 6 = ptr (ps19 5) 0 := hps19 5 (by decide)
   have s7 : g18 7 = ptr (ps19 6) 0 := hps19 6 (by decide)
   have hm19 : Mem w19 RM11 [((ps19 5), .cells #[(u64 0), (u64 0), (u64 0), (u64 0), (u64 0), (u64 0), (u64 0), (u64 0), (u64 0), (u64 0)] 129 (0, 0)), ((ps19 6), .cells #[(u64 0), (u64 0), (u64 0), (u64 0), (u64 0), (u64 0), (u64 0), (u64 0), (u64 0), (u64 0)] 129 (0, 0))] := hmm19
   generalize ps19 5 = b6 at hm19 s6
   generalize ps19 6 = b7 at hm19 s7
   refine dk_n rfl (fun w20 _ew20 => ?_)
   have hm20 := hm19.ext _ew20
   refine Jr.mono (Qa1 (cs := #[(u64 1#64), (u64 0#64), (u64 0#64), (u64 0#64), (u64 0#64), (u64 0), (u64 0), (u64 0), (u64 0), (u64 0)]) Gx s6 s14 (by kernel_rfl) (Qej (Q9 (Xa _) (Q9 (Xa _) (Q9 (Xa _) (Q9 (Xa _) (Q9 (Xa _) (Q9 (Xa _) (Q9 (Xa _) (Q9 (Xa _) (Q9 (Xa _) (Q9 (Xa _) Zq))))))))))) hm20.h0 (by kernel_rfl) rfl) ?_
   rintro _ w21 uq21
   have hm21 : Mem w21 RM11 [(b6, .cells #[(u64 1#64), (u64 0#64), (u64 0#64), (u64 0#64), (u64 0#64), (u64 0), (u64 0), (u64 0), (u64 0), (u64 0)] 129 (0, 0)), (b7, .cells #[(u64 0), (u64 0), (u64 0), (u64 0), (u64 0), (u64 0), (u64 0), (u64 0), (u64 0), (u64 0)] 129 (0, 0))] := hm20.upd0 uq21
   refine ⟨⟨_, hm21⟩, ?_⟩
   refine X3 (fun w22 _ew22 => ?_)
   have hm22 := hm21.ext _ew22
   have hX23 := hm22
   rw [hRM11] at hX23
   have hm24 : Mem w22 (Qo w0) [(b6, .cells #[(u64 1#64), (u64 0#64), (u64 0#64), (u64 0#64), (u64 0#64), (u64 0), (u64 0), (u64 0), (u64 0), (u64 0)] 129 (0, 0)), (b7, .cells #[(u64 0), (u64 0), (u64 0), (u64 0), (u64 0), (u64 0), (u64 0), (u64 0), (u64 0), (u64 0)] 129 (0, 0)), (b5, .cells (cl u64 (Zi u)) 126 (0, 0)), (b4, .cells (cl u8 (List.replicate 32 0)) 23 (0, 0)), (b3, .cells (cl u8 u) 23 (0, 0)), (b2, .cells (cl u8 (Ze ky)) 23 (0, 0))] := (by
     have hT := Mem.back hFM11 hX23
     try simp only [List.append_assoc, List.cons_append, List.nil_append, List.append_nil] at hT ⊢
     exact hT)
   refine Xf (Xh [(Zi u).map u64, ([1#64, 0#64, 0#64, 0#64, 0#64]).map u64] Gx s7 s17 (Qa (n := 5) (m := 5) (k := 10) (by first | rfl | (rw [List.length_map]; first | omega | (simp; done) | (simp; omega))) (Qa (n := 5) (m := 0) (k := 5) (by first | rfl | (rw [List.length_map]; first | omega | (simp; done) | (simp; omega))) Qj rfl) rfl) (Qp (Zg Xa _) (Qp (Zg Xa _) J7)) hm24.h1 rfl rfl) ?_
   rintro _ w25 uq25
   have hm25 : Mem w25 (Qo w0) [(b6, .cells #[(u64 1#64), (u64 0#64), (u64 0#64), (u64 0#64), (u64 0#64), (u64 0), (u64 0), (u64 0), (u64 0), (u64 0)] 129 (0, 0)), (b7, .cells (Qr [(Zi u).map u64, ([1#64, 0#64, 0#64, 0#64, 0#64]).map u64]) 129 (0, 0)), (b5, .cells (cl u64 (Zi u)) 126 (0, 0)), (b4, .cells (cl u8 (List.replicate 32 0)) 23 (0, 0)), (b3, .cells (cl u8 u) 23 (0, 0)), (b2, .cells (cl u8 (Ze ky)) 23 (0, 0))] := hm24.upd1 uq25
   refine rN ?_
   exact ⟨b6, b7, s0, s1, s2, s3, s4, s5, s6, s7, hm25⟩
 · rintro fr26 w27 ⟨c6, c7, s0, s1, s2, s3, s4, s5, s6, s7, hm27⟩
   refine Qh (sR ?_)
   refine Qb rfl (Qd (v := (i64 254)) rfl) ?_
   refine rN (Qv ?_)
   refine Jg (fun g wv => ∃ (j : Nat), (j ≤ 255) ∧ g 0 = (agg u8 ky) ∧ g 1 = (agg u8 u) ∧ g 2 = (ptr b2 0) ∧ g 3 = (ptr b3 0) ∧ g 4 = (ptr b4 0) ∧ g 5 = (ptr b5 0) ∧ g 6 = (ptr c6 0) ∧ g 7 = (ptr c7 0) ∧ g 8 = (i64 (254 - (j : Int))) ∧ Mem wv (Qo w0) [(c6, .cells (Qr [((Zt (Ze ky) (Zi u) j).px).map u64, ((Zt (Ze ky) (Zi u) j).pz).map u64]) 129 (0, 0)), (c7, .cells (Qr [((Zt (Ze ky) (Zi u) j).qx).map u64, ((Zt (Ze ky) (Zi u) j).qz).map u64]) 129 (0, 0)), (b5, .cells (cl u64 (Zi u)) 126 (0, 0)), (b4, .cells (cl u8 (List.replicate 32 0)) 23 (0, 0)), (b2, .cells (cl u8 (Ze ky)) 23 (0, 0))]) (fun g wv => (RowKit.intOf (g 8) + 1).toNat) ?_ ?_
   have hm28 := Mem.drop ([(b3, .cells (cl u8 u) 23 (0, 0))]) _ (Mem.pick [_, _, _, _] [_] _ hm27)
   · exact ⟨0, oM, s0, s1, s2, s3, s4, s5, s6, s7, rfl, (by rw [Qf4]; exact hm28)⟩
   · rintro fr29 w30 ⟨j, hj, s0, s1, s2, s3, s4, s5, s6, s7, s8, hm30⟩
     have z8 := s8
     have hL := Qhj (Ze ky) hrl j
     have hL1 := hL.px
     have hL2 := hL.pz
     have hL3 := hL.qx
     have hL4 := hL.qz
     have hS := Nq (Zt (Ze ky) (Zi u) j).px (Zt (Ze ky) (Zi u) j).pz (Zt (Ze ky) (Zi u) j).qx (Zt (Ze ky) (Zi u) j).qz (Zi u)
     have hT := Nq (Zt (Ze ky) (Zi u) j).qx (Zt (Ze ky) (Zi u) j).qz (Zt (Ze ky) (Zi u) j).px (Zt (Ze ky) (Zi u) j).pz (Zi u)
     have hSpx := hS.px
     have hSpz := hS.pz
     have hSqx := hS.qx
     have hSqz := hS.qz
     have hTpx := hT.px
     have hTpz := hT.pz
     have hTqx := hT.qx
     have hTqz := hT.qz
     refine Qh (sR ?_)
     refine rM rfl s8 <| Qb rfl (Y2 (b := 0) rfl rfl) <| rN ?_
     refine Xy rfl (fun hc31 => ?_) (fun hc31 => ?_)
     ·
       have hc31p := of_decide_eq_true hc31
       refine Zc (Qi (Qh (Qv (sR ?_))))
       refine rM rfl s8 <| Qb rfl (Ja.cast (congrArg i64 (show (254 - (j : Int)) / 8 = (((254 - j) / 8 : Nat) : Int) by omega)) (Wl (b := 8) rfl rfl oM oM oM)) <| Qb rfl (Qm (r := ((254 - j) / 8)) oM Xo Yq s2 rfl oM sD) <| Qb (v := (u8 ((Ze ky).getD ((254 - j) / 8) 0))) rfl (Qy Vh rfl rfl hm30.h4 (Zm _ _ 0 sD)) <| rM rfl s8 <| Qb rfl (Ja.cast (congrArg i64 (show (254 - (j : Int)) % 8 = (((254 - j) % 8 : Nat) : Int) by omega)) (Jz (b := 8) rfl rfl oM oM oM)) <| Qb rfl (Qdv rfl rfl oM) <| Qb rfl (N7 (b := 1#8) rfl rfl) <| Qb rfl (Qbb (b := 0#8) rfl rfl) <| rN ?_
       refine CW.abs (fun g => g 0 = (agg u8 ky) ∧ g 1 = (agg u8 u) ∧ g 2 = (ptr b2 0) ∧ g 3 = (ptr b3 0) ∧ g 4 = (ptr b4 0) ∧ g 5 = (ptr b5 0) ∧ g 6 = (ptr c6 0) ∧ g 7 = (ptr c7 0) ∧ g 8 = (i64 (254 - (j : Int))) ∧ g 19 = (bl (decide (0 ≤ (254 - (j : Int))))) ∧ g 30 = (bl (((((Ze ky).getD ((254 - j) / 8) 0) >>> (((254 - j) % 8 : Nat) : Int).toNat) &&& 1#8) == 0#8)) ∧ True) ⟨s0, s1, s2, s3, s4, s5, s6, s7, s8, rfl, rfl, trivial⟩ ?_
       rintro fr32 ⟨s0, s1, s2, s3, s4, s5, s6, s7, s8, s19, s30, _⟩
       refine Xy s30 (fun hc33 => ?_) (fun hc33 => ?_)
       ·
         have hc33p := eq_of_beq hc33
         refine Qg <| Qb (v := (Value.agg (Qr [((Zt (Ze ky) (Zi u) j).px).map u64, ((Zt (Ze ky) (Zi u) j).pz).map u64]))) rfl (Xz [] [((Zt (Ze ky) (Zi u) j).px).map u64, ((Zt (Ze ky) (Zi u) j).pz).map u64] [] Uy rfl Gx s6 hm30.h0 Qj (Qa (n := 5) (m := 5) (k := 10) (by first | rfl | (rw [List.length_map]; first | omega | (simp; done) | (simp; omega))) (Qa (n := 5) (m := 0) (k := 5) (by first | rfl | (rw [List.length_map]; first | omega | (simp; done) | (simp; omega))) Qj rfl) rfl)) <| Qb (v := (Value.agg (Qr [((Zt (Ze ky) (Zi u) j).qx).map u64, ((Zt (Ze ky) (Zi u) j).qz).map u64]))) rfl (Xz [] [((Zt (Ze ky) (Zi u) j).qx).map u64, ((Zt (Ze ky) (Zi u) j).qz).map u64] [] Uy rfl Gx s7 hm30.h1 Qj (Qa (n := 5) (m := 5) (k := 10) (by first | rfl | (rw [List.length_map]; first | omega | (simp; done) | (simp; omega))) (Qa (n := 5) (m := 0) (k := 5) (by first | rfl | (rw [List.length_map]; first | omega | (simp; done) | (simp; omega))) Qj rfl) rfl)) <| Qb (v := (agg u64 (Zi u))) rfl (Z9 Z7 rfl Xm s5 hm30.h2 sZ) <| Zo rfl (Qx Tryd.func80 bd80 nm80 (Ad rfl rfl rfl) (Qg2 ((Zt (Ze ky) (Zi u) j).px) ((Zt (Ze ky) (Zi u) j).pz) ((Zt (Ze ky) (Zi u) j).qx) ((Zt (Ze ky) (Zi u) j).qz) (Zi u) _ sD sD sD sD sD)) ?_
         rintro _ w34 ⟨rfl, _ew34⟩
         have hm34 := hm30.ext _ew34
         refine rM rfl rfl <| Qb (v := (Value.agg (Qr [((Kt ((Zt (Ze ky) (Zi u) j).px) ((Zt (Ze ky) (Zi u) j).pz) ((Zt (Ze ky) (Zi u) j).qx) ((Zt (Ze ky) (Zi u) j).qz) (Zi u)).px).map u64, ((Kt ((Zt (Ze ky) (Zi u) j).px) ((Zt (Ze ky) (Zi u) j).pz) ((Zt (Ze ky) (Zi u) j).qx) ((Zt (Ze ky) (Zi u) j).qz) (Zi u)).pz).map u64]))) rfl (Xu rfl rfl) <| Qb (v := (Value.agg (Qr [((Kt ((Zt (Ze ky) (Zi u) j).px) ((Zt (Ze ky) (Zi u) j).pz) ((Zt (Ze ky) (Zi u) j).qx) ((Zt (Ze ky) (Zi u) j).qz) (Zi u)).qx).map u64, ((Kt ((Zt (Ze ky) (Zi u) j).px) ((Zt (Ze ky) (Zi u) j).pz) ((Zt (Ze ky) (Zi u) j).qx) ((Zt (Ze ky) (Zi u) j).qz) (Zi u)).qz).map u64]))) rfl (Xu rfl rfl) <| Xf (Xh [((Kt ((Zt (Ze ky) (Zi u) j).px) ((Zt (Ze ky) (Zi u) j).pz) ((Zt (Ze ky) (Zi u) j).qx) ((Zt (Ze ky) (Zi u) j).qz) (Zi u)).px).map u64, ((Kt ((Zt (Ze ky) (Zi u) j).px) ((Zt (Ze ky) (Zi u) j).pz) ((Zt (Ze ky) (Zi u) j).qx) ((Zt (Ze ky) (Zi u) j).qz) (Zi u)).pz).map u64] Gx s6 rfl (Qa (n := 5) (m := 5) (k := 10) (by first | rfl | (rw [List.length_map]; first | omega | (simp; done) | (simp; omega))) (Qa (n := 5) (m := 0) (k := 5) (by first | rfl | (rw [List.length_map]; first | omega | (simp; done) | (simp; omega))) Qj rfl) rfl) (Qp (Zg Xa _) (Qp (Zg Xa _) J7)) hm34.h0 (by rw [Yf]; exact (Qa (n := 5) (m := 5) (k := 10) (by first | rfl | (rw [List.length_map]; first | omega | (simp; done) | (simp; omega))) (Qa (n := 5) (m := 0) (k := 5) (by first | rfl | (rw [List.length_map]; first | omega | (simp; done) | (simp; omega))) Qj rfl) rfl)) rfl) ?_
         rintro _ w36 uq36
         have hm36 : Mem w36 (Qo w0) [(c6, .cells (Qr [((Kt ((Zt (Ze ky) (Zi u) j).px) ((Zt (Ze ky) (Zi u) j).pz) ((Zt (Ze ky) (Zi u) j).qx) ((Zt (Ze ky) (Zi u) j).qz) (Zi u)).px).map u64, ((Kt ((Zt (Ze ky) (Zi u) j).px) ((Zt (Ze ky) (Zi u) j).pz) ((Zt (Ze ky) (Zi u) j).qx) ((Zt (Ze ky) (Zi u) j).qz) (Zi u)).pz).map u64]) 129 (0, 0)), (c7, .cells (Qr [((Zt (Ze ky) (Zi u) j).qx).map u64, ((Zt (Ze ky) (Zi u) j).qz).map u64]) 129 (0, 0)), (b5, .cells (cl u64 (Zi u)) 126 (0, 0)), (b4, .cells (cl u8 (List.replicate 32 0)) 23 (0, 0)), (b2, .cells (cl u8 (Ze ky)) 23 (0, 0))] := hm34.upd0 uq36
         refine Xf (Xh [((Kt ((Zt (Ze ky) (Zi u) j).px) ((Zt (Ze ky) (Zi u) j).pz) ((Zt (Ze ky) (Zi u) j).qx) ((Zt (Ze ky) (Zi u) j).qz) (Zi u)).qx).map u64, ((Kt ((Zt (Ze ky) (Zi u) j).px) ((Zt (Ze ky) (Zi u) j).pz) ((Zt (Ze ky) (Zi u) j).qx) ((Zt (Ze ky) (Zi u) j).qz) (Zi u)).qz).map u64] Gx s7 rfl (Qa (n := 5) (m := 5) (k := 10) (by first | rfl | (rw [List.length_map]; first | omega | (simp; done) | (simp; omega))) (Qa (n := 5) (m := 0) (k := 5) (by first | rfl | (rw [List.length_map]; first | omega | (simp; done) | (simp; omega))) Qj rfl) rfl) (Qp (Zg Xa _) (Qp (Zg Xa _) J7)) hm36.h1 (by rw [Yf]; exact (Qa (n := 5) (m := 5) (k := 10) (by first | rfl | (rw [List.length_map]; first | omega | (simp; done) | (simp; omega))) (Qa (n := 5) (m := 0) (k := 5) (by first | rfl | (rw [List.length_map]; first | omega | (simp; done) | (simp; omega))) Qj rfl) rfl)) rfl) ?_
         rintro _ w37 uq37
         have hm37 : Mem w37 (Qo w0) [(c6, .cells (Qr [((Kt ((Zt (Ze ky) (Zi u) j).px) ((Zt (Ze ky) (Zi u) j).pz) ((Zt (Ze ky) (Zi u) j).qx) ((Zt (Ze ky) (Zi u) j).qz) (Zi u)).px).map u64, ((Kt ((Zt (Ze ky) (Zi u) j).px) ((Zt (Ze ky) (Zi u) j).pz) ((Zt (Ze ky) (Zi u) j).qx) ((Zt (Ze ky) (Zi u) j).qz) (Zi u)).pz).map u64]) 129 (0, 0)), (c7, .cells (Qr [((Kt ((Zt (Ze ky) (Zi u) j).px) ((Zt (Ze ky) (Zi u) j).pz) ((Zt (Ze ky) (Zi u) j).qx) ((Zt (Ze ky) (Zi u) j).qz) (Zi u)).qx).map u64, ((Kt ((Zt (Ze ky) (Zi u) j).px) ((Zt (Ze ky) (Zi u) j).pz) ((Zt (Ze ky) (Zi u) j).qx) ((Zt (Ze ky) (Zi u) j).qz) (Zi u)).qz).map u64]) 129 (0, 0)), (b5, .cells (cl u64 (Zi u)) 126 (0, 0)), (b4, .cells (cl u8 (List.replicate 32 0)) 23 (0, 0)), (b2, .cells (cl u8 (Ze ky)) 23 (0, 0))] := hm36.upd1 uq37
         refine Zz (Qn (Qg ?_))
         refine rM rfl s8 <| Qb rfl (Yo (b := 1) rfl rfl oM oM) <| Qb rfl (Qd (v := (i64 ((254 - (j : Int)) - 1))) rfl) <| rN ?_
         exact ⟨⟨j + 1, oM, s0, s1, s2, s3, s4, s5, s6, s7, (show i64 (254 - (j : Int) - 1) = i64 (254 - ((j + 1 : Nat) : Int)) from congrArg i64 oM), (by rw [ladGo_t (k := (Ze ky)) (x1 := (Zi u)) (j := j) hc33]; exact hm37)⟩, (by show (RowKit.intOf (i64 (254 - (j : Int) - 1)) + 1).toNat < (RowKit.intOf _ + 1).toNat; rw [z8]; simp only [RowKit.intOf, i64]; omega)⟩
       ·
         have hc33p := ne_of_beq_false hc33
         refine Qg <| Qb (v := (Value.agg (Qr [((Zt (Ze ky) (Zi u) j).qx).map u64, ((Zt (Ze ky) (Zi u) j).qz).map u64]))) rfl (Xz [] [((Zt (Ze ky) (Zi u) j).qx).map u64, ((Zt (Ze ky) (Zi u) j).qz).map u64] [] Uy rfl Gx s7 hm30.h1 Qj (Qa (n := 5) (m := 5) (k := 10) (by first | rfl | (rw [List.length_map]; first | omega | (simp; done) | (simp; omega))) (Qa (n := 5) (m := 0) (k := 5) (by first | rfl | (rw [List.length_map]; first | omega | (simp; done) | (simp; omega))) Qj rfl) rfl)) <| Qb (v := (Value.agg (Qr [((Zt (Ze ky) (Zi u) j).px).map u64, ((Zt (Ze ky) (Zi u) j).pz).map u64]))) rfl (Xz [] [((Zt (Ze ky) (Zi u) j).px).map u64, ((Zt (Ze ky) (Zi u) j).pz).map u64] [] Uy rfl Gx s6 hm30.h0 Qj (Qa (n := 5) (m := 5) (k := 10) (by first | rfl | (rw [List.length_map]; first | omega | (simp; done) | (simp; omega))) (Qa (n := 5) (m := 0) (k := 5) (by first | rfl | (rw [List.length_map]; first | omega | (simp; done) | (simp; omega))) Qj rfl) rfl)) <| Qb (v := (agg u64 (Zi u))) rfl (Z9 Z7 rfl Xm s5 hm30.h2 sZ) <| Zo rfl (Qx Tryd.func80 bd80 nm80 (Ad rfl rfl rfl) (Qg2 ((Zt (Ze ky) (Zi u) j).qx) ((Zt (Ze ky) (Zi u) j).qz) ((Zt (Ze ky) (Zi u) j).px) ((Zt (Ze ky) (Zi u) j).pz) (Zi u) _ sD sD sD sD sD)) ?_
         rintro _ w38 ⟨rfl, _ew38⟩
         have hm38 := hm30.ext _ew38
         refine rM rfl rfl <| Qb (v := (Value.agg (Qr [((Kt ((Zt (Ze ky) (Zi u) j).qx) ((Zt (Ze ky) (Zi u) j).qz) ((Zt (Ze ky) (Zi u) j).px) ((Zt (Ze ky) (Zi u) j).pz) (Zi u)).px).map u64, ((Kt ((Zt (Ze ky) (Zi u) j).qx) ((Zt (Ze ky) (Zi u) j).qz) ((Zt (Ze ky) (Zi u) j).px) ((Zt (Ze ky) (Zi u) j).pz) (Zi u)).pz).map u64]))) rfl (Xu rfl rfl) <| Qb (v := (Value.agg (Qr [((Kt ((Zt (Ze ky) (Zi u) j).qx) ((Zt (Ze ky) (Zi u) j).qz) ((Zt (Ze ky) (Zi u) j).px) ((Zt (Ze ky) (Zi u) j).pz) (Zi u)).qx).map u64, ((Kt ((Zt (Ze ky) (Zi u) j).qx) ((Zt (Ze ky) (Zi u) j).qz) ((Zt (Ze ky) (Zi u) j).px) ((Zt (Ze ky) (Zi u) j).pz) (Zi u)).qz).map u64]))) rfl (Xu rfl rfl) <| Xf (Xh [((Kt ((Zt (Ze ky) (Zi u) j).qx) ((Zt (Ze ky) (Zi u) j).qz) ((Zt (Ze ky) (Zi u) j).px) ((Zt (Ze ky) (Zi u) j).pz) (Zi u)).px).map u64, ((Kt ((Zt (Ze ky) (Zi u) j).qx) ((Zt (Ze ky) (Zi u) j).qz) ((Zt (Ze ky) (Zi u) j).px) ((Zt (Ze ky) (Zi u) j).pz) (Zi u)).pz).map u64] Gx s7 rfl (Qa (n := 5) (m := 5) (k := 10) (by first | rfl | (rw [List.length_map]; first | omega | (simp; done) | (simp; omega))) (Qa (n := 5) (m := 0) (k := 5) (by first | rfl | (rw [List.length_map]; first | omega | (simp; done) | (simp; omega))) Qj rfl) rfl) (Qp (Zg Xa _) (Qp (Zg Xa _) J7)) hm38.h1 (by rw [Yf]; exact (Qa (n := 5) (m := 5) (k := 10) (by first | rfl | (rw [List.length_map]; first | omega | (simp; done) | (simp; omega))) (Qa (n := 5) (m := 0) (k := 5) (by first | rfl | (rw [List.length_map]; first | omega | (simp; done) | (simp; omega))) Qj rfl) rfl)) rfl) ?_
         rintro _ w40 uq40
         have hm40 : Mem w40 (Qo w0) [(c6, .cells (Qr [((Zt (Ze ky) (Zi u) j).px).map u64, ((Zt (Ze ky) (Zi u) j).pz).map u64]) 129 (0, 0)), (c7, .cells (Qr [((Kt ((Zt (Ze ky) (Zi u) j).qx) ((Zt (Ze ky) (Zi u) j).qz) ((Zt (Ze ky) (Zi u) j).px) ((Zt (Ze ky) (Zi u) j).pz) (Zi u)).px).map u64, ((Kt ((Zt (Ze ky) (Zi u) j).qx) ((Zt (Ze ky) (Zi u) j).qz) ((Zt (Ze ky) (Zi u) j).px) ((Zt (Ze ky) (Zi u) j).pz) (Zi u)).pz).map u64]) 129 (0, 0)), (b5, .cells (cl u64 (Zi u)) 126 (0, 0)), (b4, .cells (cl u8 (List.replicate 32 0)) 23 (0, 0)), (b2, .cells (cl u8 (Ze ky)) 23 (0, 0))] := hm38.upd1 uq40
         refine Xf (Xh [((Kt ((Zt (Ze ky) (Zi u) j).qx) ((Zt (Ze ky) (Zi u) j).qz) ((Zt (Ze ky) (Zi u) j).px) ((Zt (Ze ky) (Zi u) j).pz) (Zi u)).qx).map u64, ((Kt ((Zt (Ze ky) (Zi u) j).qx) ((Zt (Ze ky) (Zi u) j).qz) ((Zt (Ze ky) (Zi u) j).px) ((Zt (Ze ky) (Zi u) j).pz) (Zi u)).qz).map u64] Gx s6 rfl (Qa (n := 5) (m := 5) (k := 10) (by first | rfl | (rw [List.length_map]; first | omega | (simp; done) | (simp; omega))) (Qa (n := 5) (m := 0) (k := 5) (by first | rfl | (rw [List.length_map]; first | omega | (simp; done) | (simp; omega))) Qj rfl) rfl) (Qp (Zg Xa _) (Qp (Zg Xa _) J7)) hm40.h0 (by rw [Yf]; exact (Qa (n := 5) (m := 5) (k := 10) (by first | rfl | (rw [List.length_map]; first | omega | (simp; done) | (simp; omega))) (Qa (n := 5) (m := 0) (k := 5) (by first | rfl | (rw [List.length_map]; first | omega | (simp; done) | (simp; omega))) Qj rfl) rfl)) rfl) ?_
         rintro _ w41 uq41
         have hm41 : Mem w41 (Qo w0) [(c6, .cells (Qr [((Kt ((Zt (Ze ky) (Zi u) j).qx) ((Zt (Ze ky) (Zi u) j).qz) ((Zt (Ze ky) (Zi u) j).px) ((Zt (Ze ky) (Zi u) j).pz) (Zi u)).qx).map u64, ((Kt ((Zt (Ze ky) (Zi u) j).qx) ((Zt (Ze ky) (Zi u) j).qz) ((Zt (Ze ky) (Zi u) j).px) ((Zt (Ze ky) (Zi u) j).pz) (Zi u)).qz).map u64]) 129 (0, 0)), (c7, .cells (Qr [((Kt ((Zt (Ze ky) (Zi u) j).qx) ((Zt (Ze ky) (Zi u) j).qz) ((Zt (Ze ky) (Zi u) j).px) ((Zt (Ze ky) (Zi u) j).pz) (Zi u)).px).map u64, ((Kt ((Zt (Ze ky) (Zi u) j).qx) ((Zt (Ze ky) (Zi u) j).qz) ((Zt (Ze ky) (Zi u) j).px) ((Zt (Ze ky) (Zi u) j).pz) (Zi u)).pz).map u64]) 129 (0, 0)), (b5, .cells (cl u64 (Zi u)) 126 (0, 0)), (b4, .cells (cl u8 (List.replicate 32 0)) 23 (0, 0)), (b2, .cells (cl u8 (Ze ky)) 23 (0, 0))] := hm40.upd0 uq41
         refine Zz (Qn (Qg ?_))
         refine rM rfl s8 <| Qb rfl (Yo (b := 1) rfl rfl oM oM) <| Qb rfl (Qd (v := (i64 ((254 - (j : Int)) - 1))) rfl) <| rN ?_
         exact ⟨⟨j + 1, oM, s0, s1, s2, s3, s4, s5, s6, s7, (show i64 (254 - (j : Int) - 1) = i64 (254 - ((j + 1 : Nat) : Int)) from congrArg i64 oM), (by rw [ladGo_f (k := (Ze ky)) (x1 := (Zi u)) (j := j) hc33]; exact hm41)⟩, (by show (RowKit.intOf (i64 (254 - (j : Int) - 1)) + 1).toNat < (RowKit.intOf _ + 1).toNat; rw [z8]; simp only [RowKit.intOf, i64]; omega)⟩
     ·
       have hc31p := of_decide_eq_false hc31
       obtain rfl : j = 255 := by omega
       refine Yb ?_
       refine Zb (Zb (Xw ?_))
       refine Qh <| Yc [(0, false), (1, false), (2, false), (3, false), (4, false)] 5 (by kernel_rfl) <| Qw rfl rfl (fun _ _hx => Zr (r := 0) Uy rfl (by first | rfl | omega) Xm rfl s6) <| Qw (v := (agg u64 ((Zt (Ze ky) (Zi u) 255).px))) rfl rfl (fun _ _hx => Xc (f := u64) [] [((Zt (Ze ky) (Zi u) 255).pz).map u64] ((Zt (Ze ky) (Zi u) 255).px) Z7 rfl Xm rfl (hm30.ext _hx).h0 Qj (by first | rfl | omega | (simp; done) | (simp; omega))) <| Qw rfl rfl (fun _ _hx => Zr (r := 5) Uy rfl (by first | rfl | omega) Xm rfl s6) <| Qw (v := (agg u64 ((Zt (Ze ky) (Zi u) 255).pz))) rfl rfl (fun _ _hx => Xc (f := u64) [((Zt (Ze ky) (Zi u) 255).px).map u64] [] ((Zt (Ze ky) (Zi u) 255).pz) Z7 rfl Xm rfl (hm30.ext _hx).h0 (Qa (n := 5) (m := 0) (k := 5) (by first | rfl | (rw [List.length_map]; first | omega | (simp; done) | (simp; omega))) Qj rfl) (by first | rfl | omega | (simp; done) | (simp; omega))) <| Gu (v := (agg u64 (invL ((Zt (Ze ky) (Zi u) 255).pz)))) rfl rfl (fun w42 _ew42 => Jr.mono (Qx Tryd.func82 bd82 nm82 (Ye rfl) (c_inv5 ((Zt (Ze ky) (Zi u) 255).pz) _ sD)) (by rintro _ w43 ⟨rfl, _ew43⟩; exact ⟨rfl, _ew43⟩)) ?_
       refine X3 (fun w45 _ew45 => ?_)
       have hm45 := hm30.ext _ew45
       refine Zo rfl (Qx Tryd.func81 Qbj Qa3 (Yk rfl rfl) (Gh ((Zt (Ze ky) (Zi u) 255).px) (invL ((Zt (Ze ky) (Zi u) 255).pz)) _ sD sD)) ?_
       rintro _ w46 ⟨rfl, _ew46⟩
       have hm46 := hm45.ext _ew46
       refine Zo rfl (Qx Tryd.func83 bd83 nm83 (Ye rfl) (c_ebytes (Qe ((Zt (Ze ky) (Zi u) 255).px) (invL ((Zt (Ze ky) (Zi u) 255).pz))) _ sD)) ?_
       rintro _ w48 ⟨rfl, _ew48⟩
       have hm48 := hm46.ext _ew48
       refine Xf (Zl (f := u8) (l := Az (Qe ((Zt (Ze ky) (Zi u) 255).px) (invL ((Zt (Ze ky) (Zi u) 255).pz)))) Q8 Z5 s4 rfl sD hm48.h3 sZ rfl) ?_
       rintro _ w50 uq50
       have hm50 := hm48.upd3 uq50
       refine rN (Xn ?_)
       refine Zj [(agg u8 (Az (Qe ((Zt (Ze ky) (Zi u) 255).px) (invL ((Zt (Ze ky) (Zi u) 255).pz)))))] ⟨⟨_, s4, X6 Xo rfl Z5 hm50.h3 sZ⟩, trivial⟩ ?_
       exact ⟨by unfold Xr invL; rfl, hm50.toExt⟩
theorem Qd3 (ky : List (BitVec 8)) (w0 : World)  (hk : ky.length = 32) : X8 Tryd.prog 31 #[(agg u8 ky)] w0 (fun r w1 => r = (agg u8 (Xr ky Y0)) ∧ Ext w0 w1) := by
 refine Zp (args := [(agg u8 ky)]) Tryd.func31 rfl Tryd.ntmps31 Tryd.results31 rfl ?_
 have hm0 : Mem w0 (Qo w0) [] := Mem.of_world w0
 refine sR <| Zo rfl (X4 (f := u8) (l := ky) hm0 rfl) ?_
 rintro _ w1 ⟨b1, rfl, _ew1, hm1⟩
 refine Zo rfl (Zy hm1 Z5) ?_
 rintro _ w2 ⟨b2, rfl, _ew2, hm2⟩
 refine rN (sR ?_)
 refine Qb (v := (agg u8 ky)) rfl (Z9 Xo rfl Z5 rfl hm2.h1 sZ) <| Qb rfl (Gn (c := (cl u8 ([9#8, 0#8, 0#8, 0#8, 0#8, 0#8, 0#8, 0#8, 0#8, 0#8, 0#8, 0#8, 0#8, 0#8, 0#8, 0#8, 0#8, 0#8, 0#8, 0#8, 0#8, 0#8, 0#8, 0#8, 0#8, 0#8, 0#8, 0#8, 0#8, 0#8, 0#8, 0#8]))) Z5 Xo Yq (Yh (i := 0) (v := (u8 9#8)) (cs := #[(u8 9#8)]) rfl rfl Wy) (by kernel_rfl)) <| Zo rfl (Qx Tryd.func57 bd57 nm57 (Yk rfl rfl) (Qg6 ky ([9#8, 0#8, 0#8, 0#8, 0#8, 0#8, 0#8, 0#8, 0#8, 0#8, 0#8, 0#8, 0#8, 0#8, 0#8, 0#8, 0#8, 0#8, 0#8, 0#8, 0#8, 0#8, 0#8, 0#8, 0#8, 0#8, 0#8, 0#8, 0#8, 0#8, 0#8, 0#8]) _ sD sD)) ?_
 rintro _ w3 ⟨rfl, _ew3⟩
 have hm3 := hm2.ext _ew3
 refine Xf (Zl (f := u8) (l := Xr ky ([9#8, 0#8, 0#8, 0#8, 0#8, 0#8, 0#8, 0#8, 0#8, 0#8, 0#8, 0#8, 0#8, 0#8, 0#8, 0#8, 0#8, 0#8, 0#8, 0#8, 0#8, 0#8, 0#8, 0#8, 0#8, 0#8, 0#8, 0#8, 0#8, 0#8, 0#8, 0#8])) Q8 Z5 rfl rfl sD hm3.h0 sZ rfl) ?_
 rintro _ w5 uq5
 have hm5 := hm3.upd0 uq5
 refine rN (Xn ?_)
 refine Zj [(agg u8 (Xr ky ([9#8, 0#8, 0#8, 0#8, 0#8, 0#8, 0#8, 0#8, 0#8, 0#8, 0#8, 0#8, 0#8, 0#8, 0#8, 0#8, 0#8, 0#8, 0#8, 0#8, 0#8, 0#8, 0#8, 0#8, 0#8, 0#8, 0#8, 0#8, 0#8, 0#8, 0#8, 0#8])))] ⟨⟨_, rfl, X6 Xo rfl Z5 hm5.h0 sZ⟩, trivial⟩ ?_
 exact ⟨rfl, hm5.toExt⟩
theorem c_new5 (ky : List (BitVec 8)) (w0 : World)  (hk : ky.length = 32) : X8 Tryd.prog 27 #[(agg u8 ky)] w0 (fun r w1 => r = (Value.agg (Qr [ky.map u8, (Xr ky Y0).map u8])) ∧ Ext w0 w1) := by
 refine Zp (args := [(agg u8 ky)]) Tryd.func27 rfl Tryd.ntmps27 Tryd.results27 rfl ?_
 have hm0 : Mem w0 (Qo w0) [] := Mem.of_world w0
 refine sR <| Zo rfl (X4 (f := u8) (l := ky) hm0 rfl) ?_
 rintro _ w1 ⟨b1, rfl, _ew1, hm1⟩
 refine Zo rfl (Jc hm1 ti39) ?_
 rintro _ w2 ⟨b2, rfl, _ew2, hm2⟩
 refine rN (Qh ?_)
 refine Yc [(0, false), (1, false), (2, false)] 3 (by kernel_rfl) <| Qw (v := (agg u8 ky)) rfl rfl (fun _ _hx => Z9 Xo rfl Z5 rfl (hm2.ext _hx).h1 sZ) <| Qw (v := (agg u8 ky)) rfl rfl (fun _ _hx => Z9 Xo rfl Z5 rfl (hm2.ext _hx).h1 sZ) <| Gu (v := (agg u8 (Xr ky Y0))) rfl rfl (fun w3 _ew3 => Jr.mono (Qx Tryd.func31 bd31 nm31 (Ye rfl) (Qd3 ky _ sD)) (by rintro _ w4 ⟨rfl, _ew4⟩; exact ⟨rfl, _ew4⟩)) ?_
 refine X3 (fun w6 _ew6 => ?_)
 have hm6 := hm2.ext _ew6
 refine Qb rfl (Jh (c := (Qr [ky.map u8, (Xr ky Y0).map u8])) (pl := [(0, 32), (32, 32)]) ti39 uT39 (by kernel_rfl) (Yh (i := 0) (v := (agg u8 ky)) (cs := (cl u8 ky)) rfl rfl (Yh (i := 1) (v := (agg u8 (Xr ky Y0))) (cs := (cl u8 (Xr ky Y0))) rfl rfl Wy)) (X5 [] [(List.replicate 32 0).map u8] [ky.map u8] [(List.replicate 32 0).map u8] rfl (Jb u8 _).symm Qj (Qa (n := 32) (m := 0) (k := 32) (by first | rfl | (rw [List.length_map]; first | omega | (simp; done) | (simp; omega))) Qj rfl) (Qa (n := 32) (m := 0) (k := 32) (by first | rfl | (rw [List.length_map]; first | omega | (simp; done) | (simp; omega))) Qj rfl) (X5 [ky.map u8] [(List.replicate 32 0).map u8] [(Xr ky Y0).map u8] [] rfl (Jb u8 _).symm (Qa (n := 32) (m := 0) (k := 32) (by first | rfl | (rw [List.length_map]; first | omega | (simp; done) | (simp; omega))) Qj rfl) (Qa (n := 32) (m := 0) (k := 32) (by first | rfl | (rw [List.length_map]; first | omega | (simp; done) | (simp; omega))) Qj rfl) (Qa (n := 32) (m := 0) (k := 32) (by first | rfl | (rw [List.length_map]; first | omega | (simp; done) | (simp; omega))) Qj rfl) Gg))) <| Xf (Xh [ky.map u8, (Xr ky Y0).map u8] ti39 rfl rfl (Qa (n := 32) (m := 32) (k := 64) (by first | rfl | (rw [List.length_map]; first | omega | (simp; done) | (simp; omega))) (Qa (n := 32) (m := 0) (k := 32) (by first | rfl | (rw [List.length_map]; first | omega | (simp; done) | (simp; omega))) Qj rfl) rfl) (Qp (Zg Q8 _) (Qp (Zg Q8 _) J7)) hm6.h0 rfl rfl) ?_
 rintro _ w7 uq7
 have hm7 : Mem w7 (Qo w0) [(b2, .cells (Qr [ky.map u8, (Xr ky Y0).map u8]) 39 (0, 0)), (b1, .cells (cl u8 ky) 23 (0, 0))] := hm6.upd0 uq7
 refine rN (Xn ?_)
 refine Zj [(Value.agg (Qr [ky.map u8, (Xr ky Y0).map u8]))] ⟨⟨_, rfl, J5 [ky.map u8, (Xr ky Y0).map u8] uT39 rfl ti39 hm7.h0 (Qa (n := 32) (m := 32) (k := 64) (by first | rfl | (rw [List.length_map]; first | omega | (simp; done) | (simp; omega))) (Qa (n := 32) (m := 0) (k := 32) (by first | rfl | (rw [List.length_map]; first | omega | (simp; done) | (simp; omega))) Qj rfl) rfl)⟩, trivial⟩ ?_
 exact ⟨rfl, hm7.toExt⟩
theorem Qh3 (own pub ot : List (BitVec 8)) (w0 : World)  (ho : own.length = 32) (hp : pub.length = 32) (ht : ot.length = 32) : X8 Tryd.prog 41 #[(Value.agg (Qr [own.map u8, pub.map u8])), (agg u8 ot)] w0 (fun r w1 => r = (agg u8 (Xr own ot)) ∧ Ext w0 w1) := by
 refine Zp (args := [(Value.agg (Qr [own.map u8, pub.map u8])), (agg u8 ot)]) Tryd.func41 rfl Tryd.ntmps41 Tryd.results41 rfl ?_
 have hm0 : Mem w0 (Qo w0) [] := Mem.of_world w0
 refine sR <| Zo rfl (V6 (cs := (Qr [own.map u8, pub.map u8])) hm0 rfl) ?_
 rintro _ w1 ⟨b2, rfl, _ew1, hm1⟩
 refine Zo rfl (X4 (f := u8) (l := ot) hm1 rfl) ?_
 rintro _ w2 ⟨b3, rfl, _ew2, hm2⟩
 refine Zo rfl (Zy hm2 Z5) ?_
 rintro _ w3 ⟨b4, rfl, _ew3, hm3⟩
 refine rN (sR ?_)
 refine Qb rfl (Zr (r := 0) uT39 rfl (by first | rfl | omega) Z5 rfl rfl) <| Qb (v := (agg u8 own)) rfl (Xc (f := u8) [] [pub.map u8] own Xo rfl Z5 rfl hm3.h2 Qj (by first | rfl | omega | (simp; done) | (simp; omega))) <| Qb (v := (agg u8 ot)) rfl (Z9 Xo rfl Z5 rfl hm3.h1 sZ) <| Zo rfl (Qx Tryd.func57 bd57 nm57 (Yk rfl rfl) (Qg6 own ot _ sD sD)) ?_
 rintro _ w4 ⟨rfl, _ew4⟩
 have hm4 := hm3.ext _ew4
 refine Xf (Zl (f := u8) (l := Xr own ot) Q8 Z5 rfl rfl sD hm4.h0 sZ rfl) ?_
 rintro _ w6 uq6
 have hm6 := hm4.upd0 uq6
 refine rN (Xn ?_)
 refine Zj [(agg u8 (Xr own ot))] ⟨⟨_, rfl, X6 Xo rfl Z5 hm6.h0 sZ⟩, trivial⟩ ?_
 exact ⟨rfl, hm6.toExt⟩
end Go.Proofs.YtkmiemlpfkfiiaaDoor
