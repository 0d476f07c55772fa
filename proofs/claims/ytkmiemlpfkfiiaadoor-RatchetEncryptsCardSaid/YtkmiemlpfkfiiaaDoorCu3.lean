/- Contracts: the document's numbers. Conditions: none beyond those that each theorem states. -/
import Derived.Test.YtkmiemlpfkfiiaaDoorCu2
import Derived.Test.YtkmiemlpfkfiiaaDoorCuN
namespace Go.Proofs.YtkmiemlpfkfiiaaDoor
set_option linter.unusedVariables false
set_option linter.unusedSimpArgs false
set_option maxHeartbeats 1000000 in
theorem Ny (l : List Int) (w0 : World)  (hl : l.length = 16) (hb : Bd (-1000000000000000) 1000000000000000 l) : Xz Tryd.prog 90 #[(agg i64 l)] w0 (fun r w1 => r = (agg i64 (Q8 l)) ∧ Ext w0 w1) := by
 refine Zd (args := [(agg i64 l)]) Tryd.func90 rfl Tryd.ntmps90 Tryd.results90 rfl ?_
 have m0 : Mem w0 (Qy w0) [] := Mem.of_world w0
 refine sR <| Za rfl (Z8 (f := i64) (l := l) m0 rfl) ?_
 rintro _ w1 ⟨b1, rfl, e1, m1⟩
 refine Za rfl (Zg m1 Zz) ?_
 rintro _ w2 ⟨b2, rfl, e2, m2⟩
 refine rN (Qg (sR ?_))
 refine Qa rfl (Qc (v := (i64 0)) rfl) ?_
 refine rN (Qo ?_)
 refine Yo (fun g wv => ∃ (i : Nat), (i ≤ 16) ∧ g 0 = (agg i64 l) ∧ g 1 = (ptr b1 0) ∧ g 2 = (ptr b2 0) ∧ g 3 = (i64 (i : Int)) ∧ Mem wv (Qy w0) [(b2, .cells (cl i64 (List.replicate 16 0)) 109 (0, 0)), (b1, .cells (cl i64 (Vu l i)) 109 (0, 0))]) (fun g wv => (16 - RowKit.intOf (g 3)).toNat) ?_ ?_
 ·exact ⟨0, oM, rfl, rfl, rfl, rfl, m2⟩
 rintro fr3 w4 ⟨i, hi, s0, s1, s2, s3, m4⟩
 have z3 := s3
 have hgl := Px l i
 refine Qg (sR ?_)
 refine rM rfl s3 <| Qa rfl (Qs (b := 16) rfl rfl) <| rN ?_
 refine Xv rfl (fun hc5 => ?_) (fun hc5 => ?_)
 ·
  have hc5p := of_decide_eq_true hc5
  obtain ⟨hI1, hI2, hI3, hI4⟩ := crGo_inv hl hb i oM
  refine Q7 (Qh (Qg (Qo (sR ?_))))
  refine rM rfl s3 <| Qa rfl (Qd (r := i) oM Xx Dq s1 rfl oM sD) <| Qa rfl (Qn uT2 rfl rfl m4.h1 (Qx _ _ 0 sD)) <| Qa rfl (En (p := 65536) (b := 16) rfl rfl rfl (by decide) (by decide)) <| Qa rfl (Qc (v := (i64 (((Vu l i).getD i 0) / 65536))) rfl) ?_
  refine rN (sR ?_)
  refine rM rfl s3 <| Qa rfl (Qd (r := i) oM Xx Dq s1 rfl oM sD) <| Qa rfl (Qn uT2 rfl rfl m4.h1 (Qx _ _ 0 sD)) <| Qa rfl (Qb (v := (i64 (((Vu l i).getD i 0) / 65536))) rfl) <| Qa rfl (Qkh (p := 65536) (b := 16) rfl rfl rfl (by decide) (by decide) oM oM) <| Qa rfl (Zp rfl rfl oM oM) <| Qa rfl (Qd (r := i) oM Xx Dq s1 rfl oM sD) <| Zw (Xn (f := i64) Xm Dq rfl rfl m4.h1 sD (.inl (Nat.zero_le _))) ?_
  rintro _ w6 u6
  have m6 := m4.upd1 u6
  refine rN (sR ?_)
  refine rM rfl s3 <| Qa rfl (Qs (b := 15) rfl rfl) <| rN ?_
  refine Xv rfl (fun hc7 => ?_) (fun hc7 => ?_)
  ·
   have hc7p := of_decide_eq_true hc7
   have hq : ((Vu l i).set i (((Vu l i).getD i 0) - ((((Vu l i).getD i 0) / 65536) * 65536))).getD (i + 1) 0 = l.getD (i + 1) 0 := by rw [Je oM]; exact hI2 (i + 1) oM
   have hq2 := hb (i + 1) oM
   refine Qe <| rM rfl s3 <| Qa rfl (Jf.cast (congrArg i64 (show (i : Int) + 1 = ((i + 1 : Nat) : Int) by omega)) (Qk (b := 1) rfl rfl oM oM)) <| Qa rfl (Qd (r := (i + 1)) oM Xx Dq s1 rfl oM sD) <| Qa (v := (i64 (((Vu l i).set i (((Vu l i).getD i 0) - ((((Vu l i).getD i 0) / 65536) * 65536))).getD (i + 1) 0))) rfl (Qn uT2 rfl rfl m6.h1 (Qx _ _ 0 sD)) <| Qa rfl (Qb (v := (i64 (((Vu l i).getD i 0) / 65536))) rfl) <| Qa rfl (Qk rfl rfl oM oM) <| Qa rfl (Qd (r := (i + 1)) oM Xx Dq s1 rfl oM sD) <| Zw (Xn (f := i64) Xm Dq rfl rfl m6.h1 sD (.inl (Nat.zero_le _))) ?_
   rintro _ w8 u8
   have m8 := m6.upd1 u8
   refine Zr (Qi (Qe ?_))
   refine rM rfl s3 <| Qa rfl (Qk (b := 1) rfl rfl oM oM) <| Qa rfl (Qc (v := (i64 ((i : Int) + 1))) rfl) <| rN ?_
   have hcn : ((Vu l i).set i (((Vu l i).getD i 0) - ((((Vu l i).getD i 0) / 65536) * 65536))).set (i + 1) ((((Vu l i).set i (((Vu l i).getD i 0) - ((((Vu l i).getD i 0) / 65536) * 65536))).getD (i + 1) 0) + (((Vu l i).getD i 0) / 65536)) = Vu l (i + 1) := by show _ = Aj _ _; unfold Aj; rw [if_pos oM]
   exact ⟨⟨i + 1, oM, s0, s1, s2, rfl, (by rw [← hcn]; exact m8)⟩, Gl rfl z3 oM oM⟩
  ·
   have hc7p := of_decide_eq_false hc7
   have hq : ((Vu l i).set i (((Vu l i).getD i 0) - ((((Vu l i).getD i 0) / 65536) * 65536))).getD 0 0 = (Vu l i).getD 0 0 := Je oM
   have hq2 := hI1 0 oM
   refine Qe <| Qa rfl (Qd (r := 0) (i := 0) oM Xx Dq s1 rfl oM oM) <| Qa rfl (Qn uT2 rfl rfl m6.h1 (Qx _ _ 0 sD)) <| Qa rfl (Qb (v := (i64 (((Vu l i).getD i 0) / 65536))) rfl) <| Qa rfl (Z7 (a := 38) rfl rfl oM oM) <| Qa rfl (Qk rfl rfl oM oM) <| Qa rfl (Qd (r := 0) (i := 0) oM Xx Dq s1 rfl oM oM) <| Zw (Xn (f := i64) Xm Dq rfl rfl m6.h1 sD (.inl (Nat.zero_le _))) ?_
   rintro _ w9 u9
   have m9 := m6.upd1 u9
   refine Zr (Qi (Qe ?_))
   refine rM rfl s3 <| Qa rfl (Qk (b := 1) rfl rfl oM oM) <| Qa rfl (Qc (v := (i64 ((i : Int) + 1))) rfl) <| rN ?_
   have hcn : ((Vu l i).set i (((Vu l i).getD i 0) - ((((Vu l i).getD i 0) / 65536) * 65536))).set 0 ((((Vu l i).set i (((Vu l i).getD i 0) - ((((Vu l i).getD i 0) / 65536) * 65536))).getD 0 0) + (38 * (((Vu l i).getD i 0) / 65536))) = Vu l (i + 1) := by show _ = Aj _ _; unfold Aj; rw [if_neg oM]
   exact ⟨⟨i + 1, oM, s0, s1, s2, rfl, (by rw [← hcn]; exact m9)⟩, Gl rfl z3 oM oM⟩
 ·
  have hc5p := of_decide_eq_false hc5
  obtain rfl : i = 16 := by omega
  have hgl := Px l 16
  refine X0 ?_
  refine Qr (Qr (Xf ?_))
  refine sR <| Qa rfl (Qw Xx rfl Zz s1 m4.h1 sZ) <| Zw (Qm (f := i64) (l := Vu l 16) Xm Zz s2 rfl sD m4.h0 sZ rfl) ?_
  rintro _ w10 u10
  have m10 := m4.upd0 u10
  refine rN (Xt ?_)
  refine Ze [(agg i64 (Vu l 16))] ⟨⟨_, s2, Xo Xx rfl Zz m10.h0 sZ⟩, trivial⟩ ?_
  exact ⟨by unfold Q8; rfl, m10.toExt⟩
set_option maxHeartbeats 1000000 in
theorem Rk (a b : List Int) (w0 : World)  (ha : GoodR a) (hb : GoodR b) : Xz Tryd.prog 64 #[(agg i64 a), (agg i64 b)] w0 (fun r w1 => r = (agg i64 (Y6 a b)) ∧ Ext w0 w1) := by
 refine Zd (args := [(agg i64 a), (agg i64 b)]) Tryd.func64 rfl Tryd.ntmps64 Tryd.results64 rfl ?_
 have m0 : Mem w0 (Qy w0) [] := Mem.of_world w0
 have hal := ha.len; have hbl := hb.len
 refine sR <| Za rfl (Z8 (f := i64) (l := a) m0 rfl) ?_
 rintro _ w1 ⟨b2, rfl, e1, m1⟩
 refine Za rfl (Z8 (f := i64) (l := b) m1 rfl) ?_
 rintro _ w2 ⟨b3, rfl, e2, m2⟩
 refine Za rfl (Zg m2 Zz) ?_
 rintro _ w3 ⟨b4, rfl, e3, m3⟩
 refine rN (Qg (sR ?_))
 refine Qa rfl (Qc (v := (i64 0)) rfl) ?_
 refine rN (Qo ?_)
 refine Yo (fun g wv => ∃ (i : Nat), (i ≤ 16) ∧ g 0 = (agg i64 a) ∧ g 1 = (agg i64 b) ∧ g 2 = (ptr b2 0) ∧ g 3 = (ptr b3 0) ∧ g 4 = (ptr b4 0) ∧ g 5 = (i64 (i : Int)) ∧ Mem wv (Qy w0) [(b4, .cells (cl i64 (List.replicate 16 0)) 109 (0, 0)), (b3, .cells (cl i64 b) 109 (0, 0)), (b2, .cells (cl i64 (Ee (· + ·) a b i)) 109 (0, 0))]) (fun g wv => (16 - RowKit.intOf (g 5)).toNat) ?_ ?_
 ·exact ⟨0, oM, rfl, rfl, rfl, rfl, rfl, rfl, m3⟩
 rintro fr4 w5 ⟨i, hi, s0, s1, s2, s3, s4, s5, m5⟩
 have z5 := s5
 have hgl := Jw (· + ·) a b i
 refine Qg (sR ?_)
 refine rM rfl s5 <| Qa rfl (Qs (b := 16) rfl rfl) <| rN ?_
 refine Xv rfl (fun hc6 => ?_) (fun hc6 => ?_)
 ·
  have hc6p := of_decide_eq_true hc6
  have hg : (Ee (· + ·) a b i).getD i 0 = a.getD i 0 := by rw [Qbq, if_neg oM]
  have hg1 := ha.bd i oM
  have hg2 := hb.bd i oM
  refine Q7 (Qh (Qg (Qo ?_)))
  refine Xq (dl 6) 6 (by kernel_rfl) <| dM rfl rfl s5 <| Qj rfl rfl (fun _ _hx => Qd (r := i) oM Xx Dq s2 rfl oM sD) <| Qj rfl rfl (fun _ _hx => Qn uT2 rfl rfl (m5.ext _hx).h2 (Qx _ _ 0 sD)) <| dM rfl rfl s5 <| Qj rfl rfl (fun _ _hx => Qd (r := i) oM Xx Dq s3 rfl oM sD) <| Qj rfl rfl (fun _ _hx => Qn uT2 rfl rfl (m5.ext _hx).h1 (Qx _ _ 0 sD)) ?_
  refine Xd (fun w7 e7 => ?_)
  have m7 := m5.ext e7
  refine Qa rfl (Qk rfl rfl oM oM) <| Qa rfl (Qd (r := i) oM Xx Dq s2 rfl oM sD) <| Zw (Xn (f := i64) Xm Dq rfl rfl m7.h2 sD (.inl (Nat.zero_le _))) ?_
  rintro _ w8 u8
  have m8 := m7.upd2 u8
  refine Zr (Qi (Qe ?_))
  refine rM rfl s5 <| Qa rfl (Qk (b := 1) rfl rfl oM oM) <| Qa rfl (Qc (v := (i64 ((i : Int) + 1))) rfl) <| rN ?_
  exact ⟨⟨i + 1, oM, s0, s1, s2, s3, s4, rfl, m8⟩, Gl rfl z5 oM oM⟩
 ·
  have hc6p := of_decide_eq_false hc6
  obtain rfl : i = 16 := by omega
  have hgl := Jw (· + ·) a b 16
  refine X0 ?_
  refine Qr (Qr (Xf ?_))
  refine sR <| Qa rfl (Qw Xx rfl Zz s2 m5.h2 sZ) <| Za rfl (oc90 (Jj rfl) (Ny _ _ (by rw [Jw, hal]) (Qgq ha hb (by intro x y hx hy; show -1000000000000000 ≤ x + y ∧ x + y ≤ 1000000000000000; omega)))) ?_
  rintro _ w9 ⟨rfl, e9⟩
  have m9 := m5.ext e9
  refine Zw (Qm (f := i64) (l := Q8 (Ee (· + ·) a b 16)) Xm Zz s4 rfl sD m9.h0 sZ rfl) ?_
  rintro _ w11 u11
  have m11 := m9.upd0 u11
  refine rN (Xt ?_)
  refine Ze [(agg i64 (Q8 (Ee (· + ·) a b 16)))] ⟨⟨_, s4, Xo Xx rfl Zz m11.h0 sZ⟩, trivial⟩ ?_
  exact ⟨by unfold Y6; rfl, m11.toExt⟩
set_option maxHeartbeats 1000000 in
theorem Ha (a b : List Int) (w0 : World)  (ha : GoodR a) (hb : GoodR b) : Xz Tryd.prog 65 #[(agg i64 a), (agg i64 b)] w0 (fun r w1 => r = (agg i64 (Yb a b)) ∧ Ext w0 w1) := by
 refine Zd (args := [(agg i64 a), (agg i64 b)]) Tryd.func65 rfl Tryd.ntmps65 Tryd.results65 rfl ?_
 have m0 : Mem w0 (Qy w0) [] := Mem.of_world w0
 have hal := ha.len; have hbl := hb.len
 refine sR <| Za rfl (Z8 (f := i64) (l := a) m0 rfl) ?_
 rintro _ w1 ⟨b2, rfl, e1, m1⟩
 refine Za rfl (Z8 (f := i64) (l := b) m1 rfl) ?_
 rintro _ w2 ⟨b3, rfl, e2, m2⟩
 refine Za rfl (Zg m2 Zz) ?_
 rintro _ w3 ⟨b4, rfl, e3, m3⟩
 refine rN (Qg (sR ?_))
 refine Qa rfl (Qc (v := (i64 0)) rfl) ?_
 refine rN (Qo ?_)
 refine Yo (fun g wv => ∃ (i : Nat), (i ≤ 16) ∧ g 0 = (agg i64 a) ∧ g 1 = (agg i64 b) ∧ g 2 = (ptr b2 0) ∧ g 3 = (ptr b3 0) ∧ g 4 = (ptr b4 0) ∧ g 5 = (i64 (i : Int)) ∧ Mem wv (Qy w0) [(b4, .cells (cl i64 (List.replicate 16 0)) 109 (0, 0)), (b3, .cells (cl i64 b) 109 (0, 0)), (b2, .cells (cl i64 (Ee (· - ·) a b i)) 109 (0, 0))]) (fun g wv => (16 - RowKit.intOf (g 5)).toNat) ?_ ?_
 ·exact ⟨0, oM, rfl, rfl, rfl, rfl, rfl, rfl, m3⟩
 rintro fr4 w5 ⟨i, hi, s0, s1, s2, s3, s4, s5, m5⟩
 have z5 := s5
 have hgl := Jw (· - ·) a b i
 refine Qg (sR ?_)
 refine rM rfl s5 <| Qa rfl (Qs (b := 16) rfl rfl) <| rN ?_
 refine Xv rfl (fun hc6 => ?_) (fun hc6 => ?_)
 ·
  have hc6p := of_decide_eq_true hc6
  have hg : (Ee (· - ·) a b i).getD i 0 = a.getD i 0 := by rw [Qbq, if_neg oM]
  have hg1 := ha.bd i oM
  have hg2 := hb.bd i oM
  refine Q7 (Qh (Qg (Qo ?_)))
  refine Xq (dl 6) 6 (by kernel_rfl) <| dM rfl rfl s5 <| Qj rfl rfl (fun _ _hx => Qd (r := i) oM Xx Dq s2 rfl oM sD) <| Qj rfl rfl (fun _ _hx => Qn uT2 rfl rfl (m5.ext _hx).h2 (Qx _ _ 0 sD)) <| dM rfl rfl s5 <| Qj rfl rfl (fun _ _hx => Qd (r := i) oM Xx Dq s3 rfl oM sD) <| Qj rfl rfl (fun _ _hx => Qn uT2 rfl rfl (m5.ext _hx).h1 (Qx _ _ 0 sD)) ?_
  refine Xd (fun w7 e7 => ?_)
  have m7 := m5.ext e7
  refine Qa rfl (Zp rfl rfl oM oM) <| Qa rfl (Qd (r := i) oM Xx Dq s2 rfl oM sD) <| Zw (Xn (f := i64) Xm Dq rfl rfl m7.h2 sD (.inl (Nat.zero_le _))) ?_
  rintro _ w8 u8
  have m8 := m7.upd2 u8
  refine Zr (Qi (Qe ?_))
  refine rM rfl s5 <| Qa rfl (Qk (b := 1) rfl rfl oM oM) <| Qa rfl (Qc (v := (i64 ((i : Int) + 1))) rfl) <| rN ?_
  exact ⟨⟨i + 1, oM, s0, s1, s2, s3, s4, rfl, m8⟩, Gl rfl z5 oM oM⟩
 ·
  have hc6p := of_decide_eq_false hc6
  obtain rfl : i = 16 := by omega
  have hgl := Jw (· - ·) a b 16
  refine X0 ?_
  refine Qr (Qr (Xf ?_))
  refine sR <| Qa rfl (Qw Xx rfl Zz s2 m5.h2 sZ) <| Za rfl (oc90 (Jj rfl) (Ny _ _ (by rw [Jw, hal]) (Qgq ha hb (by intro x y hx hy; show -1000000000000000 ≤ x - y ∧ x - y ≤ 1000000000000000; omega)))) ?_
  rintro _ w9 ⟨rfl, e9⟩
  have m9 := m5.ext e9
  refine Zw (Qm (f := i64) (l := Q8 (Ee (· - ·) a b 16)) Xm Zz s4 rfl sD m9.h0 sZ rfl) ?_
  rintro _ w11 u11
  have m11 := m9.upd0 u11
  refine rN (Xt ?_)
  refine Ze [(agg i64 (Q8 (Ee (· - ·) a b 16)))] ⟨⟨_, s4, Xo Xx rfl Zz m11.h0 sZ⟩, trivial⟩ ?_
  exact ⟨by unfold Yb; rfl, m11.toExt⟩
set_option maxHeartbeats 1000000 in
theorem Wp (a b : List Int) (w0 : World)  (ha : GoodR a) (hb : GoodR b) : Xz Tryd.prog 66 #[(agg i64 a), (agg i64 b)] w0 (fun r w1 => r = (agg i64 (Xc a b)) ∧ Ext w0 w1) := by
 refine Zd (args := [(agg i64 a), (agg i64 b)]) Tryd.func66 rfl Tryd.ntmps66 Tryd.results66 rfl ?_
 have m0 : Mem w0 (Qy w0) [] := Mem.of_world w0
 have hal := ha.len; have hbl := hb.len
 refine sR <| Za rfl (Z8 (f := i64) (l := a) m0 rfl) ?_
 rintro _ w1 ⟨b2, rfl, e1, m1⟩
 refine Za rfl (Z8 (f := i64) (l := b) m1 rfl) ?_
 rintro _ w2 ⟨b3, rfl, e2, m2⟩
 refine Za rfl (Zg m2 Zz) ?_
 rintro _ w3 ⟨b4, rfl, e3, m3⟩
 refine rN (sR ?_)
 refine Qa rfl (Jp (ps := []) (c := (cl i64 (List.replicate 31 0))) ti141 Qje Dq (by simp) rfl) <| Za rfl (Zg m3 ti141) ?_
 rintro _ w4 ⟨b5, rfl, e4, m4⟩
 refine Zw (Qm (f := i64) (l := List.replicate 31 0) Xm ti141 rfl rfl sD m4.h0 sZ rfl) ?_
 rintro _ w5 u5
 have m5 := m4.upd0 u5
 refine rN (Qg (sR ?_))
 refine Qa rfl (Qc (v := (i64 0)) rfl) ?_
 refine rN (Qo ?_)
 refine Yo (fun g wv => ∃ (i : Nat), (i ≤ 16) ∧ g 0 = (agg i64 a) ∧ g 1 = (agg i64 b) ∧ g 2 = (ptr b2 0) ∧ g 3 = (ptr b3 0) ∧ g 4 = (ptr b4 0) ∧ g 5 = (ptr b5 0) ∧ g 6 = (i64 (i : Int)) ∧ Mem wv (Qy w0) [(b5, .cells (cl i64 (Uj a b i)) 141 (0, 0)), (b4, .cells (cl i64 (List.replicate 16 0)) 109 (0, 0)), (b3, .cells (cl i64 b) 109 (0, 0)), (b2, .cells (cl i64 a) 109 (0, 0))]) (fun g wv => (16 - RowKit.intOf (g 6)).toNat) ?_ ?_
 ·exact ⟨0, oM, rfl, rfl, rfl, rfl, rfl, rfl, rfl, m5⟩
 rintro fr6 w7 ⟨i, hi, s0, s1, s2, s3, s4, s5, s6, m7⟩
 have z6 := s6
 have htl := D9 a b i
 refine Qg (sR ?_)
 refine rM rfl s6 <| Qa rfl (Qs (b := 16) rfl rfl) <| rN ?_
 refine Xv rfl (fun hc8 => ?_) (fun hc8 => ?_)
 ·
  have hc8p := of_decide_eq_true hc8
  refine Q7 (Qh (Qg (Qo (sR ?_))))
  refine Qa rfl (Qc (v := (i64 0)) rfl) ?_
  refine rN (Vq ?_)
  refine Yo (fun g wv => ∃ (k : Nat), (k ≤ 16) ∧ g 0 = (agg i64 a) ∧ g 1 = (agg i64 b) ∧ g 2 = (ptr b2 0) ∧ g 3 = (ptr b3 0) ∧ g 4 = (ptr b4 0) ∧ g 5 = (ptr b5 0) ∧ g 6 = (i64 (i : Int)) ∧ g 7 = (i64 (k : Int)) ∧ g 12 = (bl (decide ((i : Int) < 16))) ∧ Mem wv (Qy w0) [(b5, .cells (cl i64 (Qcb a b i (Uj a b i) k)) 141 (0, 0)), (b4, .cells (cl i64 (List.replicate 16 0)) 109 (0, 0)), (b3, .cells (cl i64 b) 109 (0, 0)), (b2, .cells (cl i64 a) 109 (0, 0))]) (fun g wv => (16 - RowKit.intOf (g 7)).toNat) ?_ ?_
  ·exact ⟨0, oM, s0, s1, s2, s3, s4, s5, s6, rfl, rfl, m7⟩
  rintro fr9 w10 ⟨k, hk, s0, s1, s2, s3, s4, s5, s6, s7, s12, m10⟩
  have z7 := s7
  have hrl := Pi a b i (Uj a b i) k
  refine Qg (sR ?_)
  refine rM rfl s7 <| Qa rfl (Qs (b := 16) rfl rfl) <| rN ?_
  refine Xv rfl (fun hc11 => ?_) (fun hc11 => ?_)
  ·
   have hc11p := of_decide_eq_true hc11
   have m1 := mul_bd (ha.bd i oM) (hb.bd k oM)
   have m2 := Qmm ha hb (show i < 16 by omega) (D9 a b i) (Qcv ha hb i oM) k oM (i + k)
   refine Q7 (Qh (Qg (Qo ?_)))
   refine Xq (dl 12) 12 (by kernel_rfl) <| dM rfl rfl s6 <| dM rfl rfl s7 <| Qj rfl rfl (fun _ _hx => Jf.cast (congrArg i64 (show (i : Int) + (k : Int) = ((i + k : Nat) : Int) by omega)) (Qk rfl rfl oM oM)) <| Qj rfl rfl (fun _ _hx => Qd (r := (i + k)) oM Qje Dq s5 rfl oM sD) <| Qj (v := (i64 ((Qcb a b i (Uj a b i) k).getD (i + k) 0))) rfl rfl (fun _ _hx => Qn uT2 rfl rfl (m10.ext _hx).h0 (Qx _ _ 0 sD)) <| dM rfl rfl s6 <| Qj rfl rfl (fun _ _hx => Qd (r := i) oM Xx Dq s2 rfl oM sD) <| Qj rfl rfl (fun _ _hx => Qn uT2 rfl rfl (m10.ext _hx).h3 (Qx _ _ 0 sD)) <| dM rfl rfl s7 <| Qj rfl rfl (fun _ _hx => Qd (r := k) oM Xx Dq s3 rfl oM sD) <| Qj rfl rfl (fun _ _hx => Qn uT2 rfl rfl (m10.ext _hx).h2 (Qx _ _ 0 sD)) ?_
   refine Qj rfl rfl (fun _ _hx => Z7 rfl rfl oM oM) ?_
   refine Xd (fun w12 e12 => ?_)
   have m12 := m10.ext e12
   refine Qa rfl (Qk rfl rfl oM oM) <| Qa rfl (Qd (r := (i + k)) oM Qje Dq s5 rfl oM sD) <| Zw (Xn (f := i64) Xm Dq rfl rfl m12.h0 sD (.inl (Nat.zero_le _))) ?_
   rintro _ w13 u13
   have m13 := m12.upd0 u13
   refine Zr (Qi (Qe ?_))
   refine rM rfl s7 <| Qa rfl (Qk (b := 1) rfl rfl oM oM) <| Qa rfl (Qc (v := (i64 ((k : Int) + 1))) rfl) <| rN ?_
   exact ⟨⟨k + 1, oM, s0, s1, s2, s3, s4, s5, s6, rfl, s12, m13⟩, Gl rfl z7 oM oM⟩
  ·
   have hc11p := of_decide_eq_false hc11
   obtain rfl : k = 16 := by omega
   refine X0 ?_
   refine Qr (Qr (Xf ?_))
   refine Qi (Qe ?_)
   refine rM rfl s6 <| Qa rfl (Qk (b := 1) rfl rfl oM oM) <| Qa rfl (Qc (v := (i64 ((i : Int) + 1))) rfl) <| rN ?_
   exact ⟨⟨i + 1, oM, s0, s1, s2, s3, s4, s5, rfl, m10⟩, Gl rfl z6 oM oM⟩
 ·
  have hc8p := of_decide_eq_false hc8
  obtain rfl : i = 16 := by omega
  have htl := D9 a b 16
  refine X0 ?_
  refine Qr (Qr (Xf ?_))
  refine sR <| Qa rfl (Jp (ps := []) (c := (cl i64 (List.replicate 16 0))) Zz Xx Dq (by simp) rfl) <| Za rfl (Zg m7 Zz) ?_
  rintro _ w14 ⟨b8, rfl, e14, m14⟩
  refine Zw (Qm (f := i64) (l := List.replicate 16 0) Xm Zz rfl rfl sD m14.h0 sZ rfl) ?_
  rintro _ w15 u15
  have m15 := m14.upd0 u15
  refine rN (Qg (sR ?_))
  refine Qa rfl (Qc (v := (i64 0)) rfl) ?_
  refine rN (Qo ?_)
  refine Yo (fun g wv => ∃ (i : Nat), (i ≤ 16) ∧ g 0 = (agg i64 a) ∧ g 1 = (agg i64 b) ∧ g 2 = (ptr b2 0) ∧ g 3 = (ptr b3 0) ∧ g 4 = (ptr b4 0) ∧ g 5 = (ptr b5 0) ∧ g 6 = (i64 (16 : Int)) ∧ g 8 = (ptr b8 0) ∧ g 9 = (i64 (i : Int)) ∧ g 12 = (bl (decide ((16 : Int) < 16))) ∧ Mem wv (Qy w0) [(b8, .cells (cl i64 (Yk (Hr (Uj a b 16)) 0 16 i)) 109 (0, 0)), (b5, .cells (cl i64 (Uj a b 16)) 141 (0, 0)), (b4, .cells (cl i64 (List.replicate 16 0)) 109 (0, 0)), (b3, .cells (cl i64 b) 109 (0, 0)), (b2, .cells (cl i64 a) 109 (0, 0))]) (fun g wv => (16 - RowKit.intOf (g 9)).toNat) ?_ ?_
  ·exact ⟨0, oM, s0, s1, s2, s3, s4, s5, s6, rfl, rfl, rfl, (by rw [Fa]; exact m15)⟩
  rintro fr16 w17 ⟨i, hi, s0, s1, s2, s3, s4, s5, s6, s8, s9, s12, m17⟩
  have z9 := s9
  have hfl : (Yk (Hr (Uj a b 16)) (0 : Int) 16 i).length = 16 := Jl _ _ _ _ hi
  refine Qg (sR ?_)
  refine rM rfl s9 <| Qa rfl (Qs (b := 16) rfl rfl) <| rN ?_
  refine Xv rfl (fun hc18 => ?_) (fun hc18 => ?_)
  ·
   have hc18p := of_decide_eq_true hc18
   have ht1 := Qcv ha hb 16 oM i
   have ht2 := Qcv ha hb 16 oM (i + 16)
   refine Q7 (Qh (Qg (Qo (sR ?_))))
   refine rM rfl s9 <| rM rfl s9 <| Qa rfl (Qd (r := i) oM Qje Dq s5 rfl oM sD) <| Qa rfl (Qn uT2 rfl rfl m17.h1 (Qx _ _ 0 sD)) <| Qa rfl (Qd (r := i) oM Xx Dq s8 rfl oM sD) <| Zw (Xn (f := i64) Xm Dq rfl rfl m17.h0 sD (.inl (Nat.zero_le _))) ?_
   rintro _ w19 u19
   have m19 := m17.upd0 u19
   refine rN (sR ?_)
   refine rM rfl s9 <| Qa rfl (Qs (b := 15) rfl rfl) <| rN ?_
   refine Xv rfl (fun hc20 => ?_) (fun hc20 => ?_)
   ·
    have hc20p := of_decide_eq_true hc20
    have hq : ((Yk (Hr (Uj a b 16)) 0 16 i).set i ((Uj a b 16).getD i 0)).getD i 0 = (Uj a b 16).getD i 0 := V4 oM
    refine Xq (dl 8) 8 (by kernel_rfl) <| dM rfl rfl s9 <| Qj rfl rfl (fun _ _hx => Qd (r := i) oM Xx Dq s8 rfl oM sD) <| Qj rfl rfl (fun _ _hx => Qn uT2 rfl rfl (m19.ext _hx).h0 (Qx _ _ 0 sD)) <| dM rfl rfl s9 <| Qj rfl rfl (fun _ _hx => Jf.cast (congrArg i64 (show (i : Int) + 16 = ((i + 16 : Nat) : Int) by omega)) (Qk (b := 16) rfl rfl oM oM)) <| Qj rfl rfl (fun _ _hx => Qd (r := (i + 16)) oM Qje Dq s5 rfl oM sD) <| Qj (v := (i64 ((Uj a b 16).getD (i + 16) 0))) rfl rfl (fun _ _hx => Qn uT2 rfl rfl (m19.ext _hx).h1 (Qx _ _ 0 sD)) <| Qj rfl rfl (fun _ _hx => Z7 (a := 38) rfl rfl oM oM) ?_
    refine Xd (fun w21 e21 => ?_)
    have m21 := m19.ext e21
    refine Qa rfl (Qk rfl rfl oM oM) <| Qa rfl (Qd (r := i) oM Xx Dq s8 rfl oM sD) <| Zw (Xn (f := i64) Xm Dq rfl rfl m21.h0 sD (.inl (Nat.zero_le _))) ?_
    rintro _ w22 u22
    have m22 := m21.upd0 u22
    refine Zr (Qi (Qe ?_))
    refine rM rfl s9 <| Qa rfl (Qk (b := 1) rfl rfl oM oM) <| Qa rfl (Qc (v := (i64 ((i : Int) + 1))) rfl) <| rN ?_
    have hcn : ((Yk (Hr (Uj a b 16)) 0 16 i).set i ((Uj a b 16).getD i 0)).set i ((((Yk (Hr (Uj a b 16)) 0 16 i).set i ((Uj a b 16).getD i 0)).getD i 0) + (38 * ((Uj a b 16).getD (i + 16) 0))) = Yk (Hr (Uj a b 16)) 0 16 (i + 1) := by rw [List.set_set, hq]; exact Fh (Hr (Uj a b 16)) 0 oM _ (by unfold Hr; rw [if_pos oM])
    exact ⟨⟨i + 1, oM, s0, s1, s2, s3, s4, s5, s6, s8, rfl, s12, (by rw [← hcn]; exact m22)⟩, Gl rfl z9 oM oM⟩
   ·
    have hc20p := of_decide_eq_false hc20
    refine Q7 (Qi (Qe ?_))
    refine rM rfl s9 <| Qa rfl (Qk (b := 1) rfl rfl oM oM) <| Qa rfl (Qc (v := (i64 ((i : Int) + 1))) rfl) <| rN ?_
    have hcn : (Yk (Hr (Uj a b 16)) 0 16 i).set i ((Uj a b 16).getD i 0) = Yk (Hr (Uj a b 16)) 0 16 (i + 1) := Fh (Hr (Uj a b 16)) 0 oM _ (by unfold Hr; rw [if_neg oM])
    exact ⟨⟨i + 1, oM, s0, s1, s2, s3, s4, s5, s6, s8, rfl, s12, (by rw [← hcn]; exact m19)⟩, Gl rfl z9 oM oM⟩
  ·
   have hc18p := of_decide_eq_false hc18
   obtain rfl : i = 16 := by omega
   refine X0 ?_
   refine Qr (Qr (Xf ?_))
   refine sR <| Qa rfl (Qw Xx rfl Zz s8 m17.h0 sZ) <| Za rfl (oc90 (Jj rfl) (Ny _ _ sD (bd_carry ha hb))) ?_
   rintro _ w23 ⟨rfl, e23⟩
   have m23 := m17.ext e23
   refine Za rfl (oc90 (Jj rfl) (Ny _ _ sD (Qov ha hb))) ?_
   rintro _ w25 ⟨rfl, e25⟩
   have m25 := m23.ext e25
   refine Zw (Qm (f := i64) (l := Q8 (Q8 (Yk (Hr (Uj a b 16)) 0 16 16))) Xm Zz s4 rfl sD m25.h2 sZ rfl) ?_
   rintro _ w27 u27
   have m27 := m25.upd2 u27
   refine rN (Xt ?_)
   refine Ze [(agg i64 (Q8 (Q8 (Yk (Hr (Uj a b 16)) 0 16 16))))] ⟨⟨_, s4, Xo Xx rfl Zz m27.h2 sZ⟩, trivial⟩ ?_
   exact ⟨by unfold Xc; rfl, m27.toExt⟩
set_option maxHeartbeats 1000000 in
theorem c_rinv (x : List Int) (w0 : World)  (hx : GoodR x) : Xz Tryd.prog 68 #[(agg i64 x)] w0 (fun r w1 => r = (agg i64 (Wh x 255)) ∧ Ext w0 w1) := by
 refine Zd (args := [(agg i64 x)]) Tryd.func68 rfl Tryd.ntmps68 Tryd.results68 rfl ?_
 have m0 : Mem w0 (Qy w0) [] := Mem.of_world w0
 have hxl := hx.len
 refine sR <| Za rfl (Z8 (f := i64) (l := x) m0 rfl) ?_
 rintro _ w1 ⟨b1, rfl, e1, m1⟩
 refine Za rfl (Zg m1 Zz) ?_
 rintro _ w2 ⟨b2, rfl, e2, m2⟩
 refine rN (sR ?_)
 refine Qa rfl (Ve (c := (cl i64 ([1, 0, 0, 0, 0, 0, 0, 0, 0, 0, 0, 0, 0, 0, 0, 0]))) Zz Xx Dq (Y2 (i := 0) (v := (i64 1)) (cs := #[(i64 1)]) rfl rfl Vo) (by kernel_rfl)) <| Za rfl (Zg m2 Zz) ?_
 rintro _ w3 ⟨b3, rfl, e3, m3⟩
 refine Zw (Qm (f := i64) (l := [1, 0, 0, 0, 0, 0, 0, 0, 0, 0, 0, 0, 0, 0, 0, 0]) Xm Zz rfl rfl sD m3.h0 sZ rfl) ?_
 rintro _ w4 u4
 have m4 := m3.upd0 u4
 refine rN (Qg (sR ?_))
 refine Qa rfl (Qc (v := (i64 254)) rfl) ?_
 refine rN (Qo ?_)
 refine Yo (fun g wv => ∃ (j : Nat), (j ≤ 255) ∧ g 0 = (agg i64 x) ∧ g 1 = (ptr b1 0) ∧ g 2 = (ptr b2 0) ∧ g 3 = (ptr b3 0) ∧ g 4 = (i64 (254 - (j : Int))) ∧ Mem wv (Qy w0) [(b3, .cells (cl i64 (Wh x j)) 109 (0, 0)), (b2, .cells (cl i64 (List.replicate 16 0)) 109 (0, 0)), (b1, .cells (cl i64 x) 109 (0, 0))]) (fun g wv => (RowKit.intOf (g 4) + 1).toNat) ?_ ?_
 ·exact ⟨0, oM, rfl, rfl, rfl, rfl, rfl, (by rw [Qj6]; exact m4)⟩
 rintro fr5 w6 ⟨j, hj, s0, s1, s2, s3, s4, m6⟩
 have z4 := s4
 have hgj := Ah hx j
 have hgl := hgj.len
 have hgk := Zj hgj hgj
 have hgl2 := hgk.len
 have hgl3 := (Zj hgk hx).len
 refine Qg (sR ?_)
 refine rM rfl s4 <| Qa rfl (X5 (b := 0) rfl rfl) <| rN ?_
 refine Xv rfl (fun hc7 => ?_) (fun hc7 => ?_)
 ·
  have hc7p := of_decide_eq_true hc7
  refine Q7 (Qh (Qg (Qo (sR ?_))))
  refine Qa rfl (Qw Xx rfl Zz s3 m6.h0 sZ) <| Qa rfl (Qw Xx rfl Zz s3 m6.h0 sZ) <| Za rfl (Np (Xr rfl rfl) (Wp _ _ _ hgj hgj)) ?_
  rintro _ w8 ⟨rfl, e8⟩
  have m8 := m6.ext e8
  refine Zw (Qm (f := i64) (l := Xc (Wh x j) (Wh x j)) Xm Zz s3 rfl sD m8.h0 sZ rfl) ?_
  rintro _ w10 u10
  have m10 := m8.upd0 u10
  refine rN (sR ?_)
  refine rM rfl s4 <| Qa rfl (Gu (b := 2) rfl rfl) <| Qa rfl (Qb (v := (bl ((254 - (j : Int)) != 2))) rfl) ?_
  rcases Bool.eq_false_or_eq_true ((254 - (j : Int)) != 2) with hb11 | hb11
  ·
   have hb11p := bne_iff_ne.1 hb11
   refine Zt (s := 15) rfl rfl hb11 rfl (Qb s4) <| Zt (s := 15) rfl rfl hb11 rfl (Gu (b := 4) rfl rfl) <| Qa rfl (Jd rfl hb11 rfl) <| rN ?_
   refine Xv rfl (fun hc12 => ?_) (fun hc12 => ?_)
   ·
    have hc12p := bne_iff_ne.1 hc12
    refine Qe <| Qa rfl (Qw Xx rfl Zz s3 m10.h0 sZ) <| Qa rfl (Qw Xx rfl Zz s1 m10.h2 sZ) <| Za rfl (Np (Xr rfl rfl) (Wp _ _ _ hgk hx)) ?_
    rintro _ w13 ⟨rfl, e13⟩
    have m13 := m10.ext e13
    refine Zw (Qm (f := i64) (l := Xc (Xc (Wh x j) (Wh x j)) x) Xm Zz s3 rfl sD m13.h0 sZ rfl) ?_
    rintro _ w15 u15
    have m15 := m13.upd0 u15
    refine Zr (Qi (Qe ?_))
    refine rM rfl s4 <| Qa rfl (Zp (b := 1) rfl rfl oM oM) <| Qa rfl (Qc (v := (i64 ((254 - (j : Int)) - 1))) rfl) <| rN ?_
    have hin : Xc (Xc (Wh x j) (Wh x j)) x = Wh x (j + 1) := Qli (by clear hxl; omega)
    exact ⟨⟨j + 1, oM, s0, s1, s2, s3, (show i64 (254 - (j : Int) - 1) = i64 (254 - ((j + 1 : Nat) : Int)) from congrArg i64 oM), (by rw [← hin]; exact m15)⟩, (by show (RowKit.intOf (i64 (254 - (j : Int) - 1)) + 1).toNat < (RowKit.intOf _ + 1).toNat; rw [z4]; simp only [RowKit.intOf, i64]; omega)⟩
   ·
    have hc12p := Kt hc12
    refine Q7 (Qi (Qe ?_))
    refine rM rfl s4 <| Qa rfl (Zp (b := 1) rfl rfl oM oM) <| Qa rfl (Qc (v := (i64 ((254 - (j : Int)) - 1))) rfl) <| rN ?_
    have hin : Xc (Wh x j) (Wh x j) = Wh x (j + 1) := Qhv (by clear hxl; omega)
    exact ⟨⟨j + 1, oM, s0, s1, s2, s3, (show i64 (254 - (j : Int) - 1) = i64 (254 - ((j + 1 : Nat) : Int)) from congrArg i64 oM), (by rw [← hin]; exact m10)⟩, (by show (RowKit.intOf (i64 (254 - (j : Int) - 1)) + 1).toNat < (RowKit.intOf _ + 1).toNat; rw [z4]; simp only [RowKit.intOf, i64]; omega)⟩
  ·
   have hb11p := Kt hb11
   refine Yd (s := 15) rfl rfl hb11 rfl <| Yd (s := 15) rfl rfl hb11 rfl <| Qa rfl (Yn rfl hb11 rfl) <| rN <| Yp rfl (by decide) ?_
   refine Q7 (Qi (Qe ?_))
   refine rM rfl s4 <| Qa rfl (Zp (b := 1) rfl rfl oM oM) <| Qa rfl (Qc (v := (i64 ((254 - (j : Int)) - 1))) rfl) <| rN ?_
   have hin : Xc (Wh x j) (Wh x j) = Wh x (j + 1) := Qhv (by clear hxl; omega)
   exact ⟨⟨j + 1, oM, s0, s1, s2, s3, (show i64 (254 - (j : Int) - 1) = i64 (254 - ((j + 1 : Nat) : Int)) from congrArg i64 oM), (by rw [← hin]; exact m10)⟩, (by show (RowKit.intOf (i64 (254 - (j : Int) - 1)) + 1).toNat < (RowKit.intOf _ + 1).toNat; rw [z4]; simp only [RowKit.intOf, i64]; omega)⟩
 ·
  have hc7p := of_decide_eq_false hc7
  obtain rfl : j = 255 := by omega
  refine X0 ?_
  refine Qr (Qr (Xf ?_))
  refine sR <| Qa rfl (Qw Xx rfl Zz s3 m6.h0 sZ) <| Zw (Qm (f := i64) (l := Wh x 255) Xm Zz s2 rfl sD m6.h1 sZ rfl) ?_
  rintro _ w16 u16
  have m16 := m6.upd1 u16
  refine rN (Xt ?_)
  refine Ze [(agg i64 (Wh x 255))] ⟨⟨_, s2, Xo Xx rfl Zz m16.h1 sZ⟩, trivial⟩ ?_
  exact ⟨rfl, m16.toExt⟩
set_option maxHeartbeats 1000000 in
theorem c_rread (u : List (BitVec 8)) (w0 : World)  (hu : u.length = 32) : Xz Tryd.prog 63 #[(agg u8 u)] w0 (fun r w1 => r = (agg i64 (Q9 u)) ∧ Ext w0 w1) := by
 refine Zd (args := [(agg u8 u)]) Tryd.func63 rfl Tryd.ntmps63 Tryd.results63 rfl ?_
 have m0 : Mem w0 (Qy w0) [] := Mem.of_world w0
 refine sR <| Za rfl (Z8 (f := u8) (l := u) m0 rfl) ?_
 rintro _ w1 ⟨b1, rfl, e1, m1⟩
 refine Za rfl (Zg m1 Zz) ?_
 rintro _ w2 ⟨b2, rfl, e2, m2⟩
 refine rN (sR ?_)
 refine Qa rfl (Jp (ps := []) (c := (cl i64 (List.replicate 16 0))) Zz Xx Dq (by simp) rfl) <| Za rfl (Zg m2 Zz) ?_
 rintro _ w3 ⟨b3, rfl, e3, m3⟩
 refine Zw (Qm (f := i64) (l := List.replicate 16 0) Xm Zz rfl rfl sD m3.h0 sZ rfl) ?_
 rintro _ w4 uq4
 have m4 := m3.upd0 uq4
 refine rN (Qg (sR ?_))
 refine Qa rfl (Qc (v := (i64 0)) rfl) ?_
 refine rN (Qo ?_)
 refine Yo (fun g wv => ∃ (i : Nat), (i ≤ 16) ∧ g 0 = (agg u8 u) ∧ g 1 = (ptr b1 0) ∧ g 2 = (ptr b2 0) ∧ g 3 = (ptr b3 0) ∧ g 4 = (i64 (i : Int)) ∧ Mem wv (Qy w0) [(b3, .cells (cl i64 (Yk (fun q => ((u.getD (2 * q) 0).toNat : Int) + 256 * ((u.getD (2 * q + 1) 0).toNat : Int)) 0 16 i)) 109 (0, 0)), (b2, .cells (cl i64 (List.replicate 16 0)) 109 (0, 0)), (b1, .cells (cl u8 u) 23 (0, 0))]) (fun g wv => (16 - RowKit.intOf (g 4)).toNat) ?_ ?_
 ·exact ⟨0, oM, rfl, rfl, rfl, rfl, rfl, (by rw [Fa]; exact m4)⟩
 rintro fr5 w6 ⟨i, hi, s0, s1, s2, s3, s4, m6⟩
 have z4 := s4
 have hfl : (Yk (fun q => ((u.getD (2 * q) 0).toNat : Int) + 256 * ((u.getD (2 * q + 1) 0).toNat : Int)) (0 : Int) 16 i).length = 16 := Jl _ _ _ _ hi
 refine Qg (sR ?_)
 refine rM rfl s4 <| Qa rfl (Qs (b := 16) rfl rfl) <| rN ?_
 refine Xv rfl (fun hc7 => ?_) (fun hc7 => ?_)
 ·
  have hc7p := of_decide_eq_true hc7
  have hu1 := (u.getD (2 * i) 0).isLt
  have hu2 := (u.getD (2 * i + 1) 0).isLt
  refine Q7 (Qh (Qg (Qo ?_)))
  refine Xq (dl 14) 14 (by kernel_rfl) <| dM rfl rfl s4 <| dM rfl rfl s4 <| Qj rfl rfl (fun _ _hx => Jf.cast (congrArg i64 (show 2 * (i : Int) = ((2 * i : Nat) : Int) by omega)) (Z7 (a := 2) rfl rfl oM oM)) <| Qj rfl rfl (fun _ _hx => Qd (r := (2 * i)) oM X3 X6 s1 rfl oM sD) <| Qj (v := (u8 (u.getD (2 * i) 0))) rfl rfl (fun _ _hx => Qn Vm rfl rfl (m6.ext _hx).h2 (Qx _ _ 0 sD)) <| Qj rfl rfl (fun _ _hx => Qa5 ⟨_, Vm⟩ uT2 rfl) <| dM rfl rfl s4 <| Qj rfl rfl (fun _ _hx => Z7 (a := 2) rfl rfl oM oM) <| Qj rfl rfl (fun _ _hx => Jf.cast (congrArg i64 (show (2 * (i : Int)) + 1 = ((2 * i + 1 : Nat) : Int) by omega)) (Qk (b := 1) rfl rfl oM oM)) <| Qj rfl rfl (fun _ _hx => Qd (r := (2 * i + 1)) oM X3 X6 s1 rfl oM sD) <| Qj (v := (u8 (u.getD (2 * i + 1) 0))) rfl rfl (fun _ _hx => Qn Vm rfl rfl (m6.ext _hx).h2 (Qx _ _ 0 sD)) ?_
  refine Qj rfl rfl (fun _ _hx => Qa5 ⟨_, Vm⟩ uT2 rfl) <| Qj rfl rfl (fun _ _hx => Z7 (a := 256) rfl rfl oM oM) <| Qj rfl rfl (fun _ _hx => Qk rfl rfl oM oM) ?_
  refine Xd (fun w8 e8 => ?_)
  have m8 := m6.ext e8
  refine Qa rfl (Qd (r := i) oM Xx Dq s3 rfl oM sD) <| Zw (Xn (f := i64) Xm Dq rfl rfl m8.h0 sD (.inl (Nat.zero_le _))) ?_
  rintro _ w9 uq9
  have m9 := m8.upd0 uq9
  refine Zr (Qi (Qe ?_))
  refine rM rfl s4 <| Qa rfl (Qk (b := 1) rfl rfl oM oM) <| Qa rfl (Qc (v := (i64 ((i : Int) + 1))) rfl) <| rN ?_
  exact ⟨⟨i + 1, oM, s0, s1, s2, s3, rfl, (by rw [← Fh (fun q => ((u.getD (2 * q) 0).toNat : Int) + 256 * ((u.getD (2 * q + 1) 0).toNat : Int)) (0 : Int) (n := 16) (k := i) oM _ rfl]; exact m9)⟩, Gl rfl z4 oM oM⟩
 ·
  have hc7p := of_decide_eq_false hc7
  obtain rfl : i = 16 := by omega
  have h15 := Qms u
  refine X0 ?_
  refine Qr (Qr (Xf ?_))
  refine sR <| Qa rfl (Qd (r := 15) (i := 15) oM Xx Dq s3 rfl oM oM) <| Qa rfl (Qn uT2 rfl rfl m6.h0 (Qx _ _ 0 sD)) <| Qa rfl (Jy (b := 32768) rfl rfl oM oM oM) <| Qa rfl (Qd (r := 15) (i := 15) oM Xx Dq s3 rfl oM oM) <| Zw (Xn (f := i64) Xm Dq rfl rfl m6.h0 sD (.inl (Nat.zero_le _))) ?_
  rintro _ w10 uq10
  have m10 := m6.upd0 uq10
  refine rN (Qg ?_)
  have hsl : ((Yk (fun q => ((u.getD (2 * q) 0).toNat : Int) + 256 * ((u.getD (2 * q + 1) 0).toNat : Int)) 0 16 16).set 15 (((Yk (fun q => ((u.getD (2 * q) 0).toNat : Int) + 256 * ((u.getD (2 * q + 1) 0).toNat : Int)) 0 16 16).getD 15 0) % 32768)).length = 16 := by rw [List.length_set]; exact hfl
  refine Qe <| Qa rfl (Qw Xx rfl Zz s3 m10.h0 sZ) <| Zw (Qm (f := i64) (l := (Yk (fun q => ((u.getD (2 * q) 0).toNat : Int) + 256 * ((u.getD (2 * q + 1) 0).toNat : Int)) 0 16 16).set 15 (((Yk (fun q => ((u.getD (2 * q) 0).toNat : Int) + 256 * ((u.getD (2 * q + 1) 0).toNat : Int)) 0 16 16).getD 15 0) % 32768)) Xm Zz s2 rfl sD m10.h1 sZ rfl) ?_
  rintro _ w11 uq11
  have m11 := m10.upd1 uq11
  refine rN (Xt ?_)
  refine Ze [(agg i64 ((Yk (fun q => ((u.getD (2 * q) 0).toNat : Int) + 256 * ((u.getD (2 * q + 1) 0).toNat : Int)) 0 16 16).set 15 (((Yk (fun q => ((u.getD (2 * q) 0).toNat : Int) + 256 * ((u.getD (2 * q + 1) 0).toNat : Int)) 0 16 16).getD 15 0) % 32768)))] ⟨⟨_, s2, Xo Xx rfl Zz m11.h1 sZ⟩, trivial⟩ ?_
  exact ⟨by unfold Q9; rfl, m11.toExt⟩
set_option maxHeartbeats 2000000 in
theorem c_rwrite (a : List Int) (w0 : World)  (ha : GoodR a) : Xz Tryd.prog 67 #[(agg i64 a)] w0 (fun r w1 => r = (agg u8 (Qab a)) ∧ Ext w0 w1) := by
 refine Zd (args := [(agg i64 a)]) Tryd.func67 rfl Tryd.ntmps67 Tryd.results67 rfl ?_
 have m0 : Mem w0 (Qy w0) [] := Mem.of_world w0
 have hal := ha.len; have hg1 := E5 ha; have hg2 := E5 hg1; have hg3 := E5 hg2; have hgl := hg3.len
 refine sR <| Za rfl (Z8 (f := i64) (l := a) m0 rfl) ?_
 rintro _ w1 ⟨b1, rfl, e1, m1⟩
 refine Za rfl (Zg m1 Z9) ?_
 rintro _ w2 ⟨b2, rfl, e2, m2⟩
 refine rN (sR ?_)
 refine Qa rfl (Qw Xx rfl Zz rfl m2.h1 sZ) <| Za rfl (oc90 (Jj rfl) (Ny _ _ hal ha.wide)) ?_
 rintro _ w3 ⟨rfl, e3⟩
 have m3 := m2.ext e3
 refine Za rfl (oc90 (Jj rfl) (Ny _ _ hg1.len hg1.wide)) ?_
 rintro _ w5 ⟨rfl, e5⟩
 have m5 := m3.ext e5
 refine Za rfl (oc90 (Jj rfl) (Ny _ _ hg2.len hg2.wide)) ?_
 rintro _ w7 ⟨rfl, e7⟩
 have m7 := m5.ext e7
 refine Zw (Qm (f := i64) (l := Q8 (Q8 (Q8 a))) Xm Zz rfl rfl sD m7.h1 sZ rfl) ?_
 rintro _ w9 uq9
 have m9 := m7.upd1 uq9
 refine rN (Qg (sR ?_))
 refine Qa rfl (Qc (v := (i64 0)) rfl) ?_
 refine rN (Qo ?_)
 refine Yo (fun g wv => ∃ (n : Nat), (n ≤ 2) ∧ g 0 = (agg i64 a) ∧ g 1 = (ptr b1 0) ∧ g 2 = (ptr b2 0) ∧ g 3 = (i64 (n : Int)) ∧ Mem wv (Qy w0) [(b1, .cells (cl i64 (Kr (Q8 (Q8 (Q8 a))) n)) 109 (0, 0)), (b2, .cells (cl u8 (List.replicate 32 0)) 23 (0, 0))]) (fun g wv => (2 - RowKit.intOf (g 3)).toNat) ?_ ?_
 have m10 := (Mem.pick [_] [_] _ m9)
 ·exact ⟨0, oM, rfl, rfl, rfl, rfl, (by rw [Qno]; exact m10)⟩
 rintro fr11 w12 ⟨n, hn, s0, s1, s2, s3, m12⟩
 have z3 := s3
 have hgn := Qhw hg3 n
 have hgnl := hgn.len
 refine Qg (sR ?_)
 refine rM rfl s3 <| Qa rfl (Qs (b := 2) rfl rfl) <| rN ?_
 refine Xv rfl (fun hc13 => ?_) (fun hc13 => ?_)
 ·
  have hc13p := of_decide_eq_true hc13
  refine Q7 (Qh (Qg (Qo (sR ?_))))
  refine Qa rfl (Jp (ps := []) (c := (cl i64 (List.replicate 16 0))) Zz Xx Dq (by simp) rfl) <| Za rfl (Zg m12 Zz) ?_
  rintro _ w14 ⟨b4, rfl, e14, m14⟩
  refine Zw (Qm (f := i64) (l := List.replicate 16 0) Xm Zz rfl rfl sD m14.h0 sZ rfl) ?_
  rintro _ w15 uq15
  have m15 := m14.upd0 uq15
  refine rN (Qg ?_)
  have ha0 := hgn.bd 0 oM
  refine Qe <| Qa rfl (Qd (r := 0) (i := 0) oM Xx Dq s1 rfl oM oM) <| Qa rfl (Qn uT2 rfl rfl m15.h1 (Qx _ _ 0 sD)) <| Qa rfl (Zp (b := 65517) rfl rfl oM oM) <| Qa rfl (Qd (r := 0) (i := 0) oM Xx Dq rfl rfl oM oM) <| Zw (Zm (f := i64) (l' := [((Kr (Q8 (Q8 (Q8 a))) n).getD 0 0) - 65517, 0, 0, 0, 0, 0, 0, 0, 0, 0, 0, 0, 0, 0, 0, 0]) rfl Xm Dq rfl rfl m15.h0 (by simp) (.inl (Nat.zero_le _))) ?_
  rintro _ w16 uq16
  have m16 := m15.upd0 uq16
  refine rN (Qg (sR ?_))
  refine Qa rfl (Qc (v := (i64 1)) rfl) ?_
  refine rN (Qo ?_)
  refine Yo (fun g wv => ∃ (j : Nat), (j ≤ 15) ∧ g 0 = (agg i64 a) ∧ g 1 = (ptr b1 0) ∧ g 2 = (ptr b2 0) ∧ g 3 = (i64 (n : Int)) ∧ g 4 = (ptr b4 0) ∧ g 5 = (i64 ((j + 1 : Nat) : Int)) ∧ g 15 = (bl (decide ((n : Int) < 2))) ∧ Mem wv (Qy w0) [(b4, .cells (cl i64 (mG (Kr (Q8 (Q8 (Q8 a))) n) j)) 109 (0, 0)), (b1, .cells (cl i64 (Kr (Q8 (Q8 (Q8 a))) n)) 109 (0, 0)), (b2, .cells (cl u8 (List.replicate 32 0)) 23 (0, 0))]) (fun g wv => (16 - RowKit.intOf (g 5)).toNat) ?_ ?_
  ·exact ⟨0, oM, s0, s1, s2, s3, rfl, rfl, rfl, (by rw [mG_zero]; exact m16)⟩
  rintro fr17 w18 ⟨j, hj, s0, s1, s2, s3, s4, s5, s15, m18⟩
  have z5 := s5
  have hml := F6 (Kr (Q8 (Q8 (Q8 a))) n) j
  refine Qg (sR ?_)
  refine rM rfl s5 <| Qa rfl (Qs (b := 16) rfl rfl) <| rN ?_
  refine Xv rfl (fun hc19 => ?_) (fun hc19 => ?_)
  ·
   have hc19p := of_decide_eq_true hc19
   have hmi := Qld hgn j oM
   have hab := hgn.bd (j + 1) oM
   refine Q7 (Qh (Qg (Qo (sR ?_))))
   refine Qa rfl (Qc (v := (i64 65535)) rfl) ?_
   refine rN (Qg (sR ?_))
   refine rM rfl s5 <| Qa rfl (Vp (b := 15) rfl rfl) <| rN ?_
   refine Xv rfl (fun hc20 => ?_) (fun hc20 => ?_)
   ·
    have hc20p := eq_of_beq hc20
    refine Qe <| Qa rfl (Qc (v := (i64 32767)) rfl) ?_
    refine rN (sR ?_)
    refine rM rfl s5 <| Qa rfl (Jf.cast (congrArg i64 (show ((j + 1 : Nat) : Int) - 1 = ((j : Nat) : Int) by omega)) (Zp (b := 1) rfl rfl oM oM)) <| Qa rfl (Qd (r := j) oM Xx Dq s4 rfl oM sD) <| Qa rfl (Qn uT2 rfl rfl m18.h0 (Qx _ _ 0 sD)) <| Qa rfl (En (p := 65536) (b := 16) rfl rfl rfl (by decide) (by decide)) <| Qa rfl (Jf.cast (congrArg i64 (show (((BitVec.ofInt 64 (((mG (Kr (Q8 (Q8 (Q8 a))) n) j).getD j 0) / 65536)).toNat &&& (1 : Int).toNat : Nat) : Int) = (((mG (Kr (Q8 (Q8 (Q8 a))) n) j).getD j 0) / 65536) % 2 by have hand := Qkw (((mG (Kr (Q8 (Q8 (Q8 a))) n) j).getD j 0) / 65536); omega)) (Va (b := 1) rfl rfl oM oM)) <| Qa rfl (Qc (v := (i64 ((((mG (Kr (Q8 (Q8 (Q8 a))) n) j).getD j 0) / 65536) % 2))) rfl) ?_
    refine rN (sR ?_)
    refine rM rfl s5 <| rM rfl s5 <| Qa rfl (Qd (r := (j + 1)) oM Xx Dq s1 rfl oM sD) <| Qa (v := (i64 ((Kr (Q8 (Q8 (Q8 a))) n).getD (j + 1) 0))) rfl (Qn uT2 rfl rfl m18.h1 (Qx _ _ 0 sD)) <| Qa rfl (Qb (v := (i64 32767)) rfl) <| Qa rfl (Zp (b := 32767) rfl rfl oM oM) <| Qa rfl (Qb (v := (i64 ((((mG (Kr (Q8 (Q8 (Q8 a))) n) j).getD j 0) / 65536) % 2))) rfl) <| Qa rfl (Zp rfl rfl oM oM) <| Qa rfl (Qd (r := (j + 1)) oM Xx Dq s4 rfl oM sD) <| Zw (Xn (f := i64) Xm Dq rfl rfl m18.h0 sD (.inl (Nat.zero_le _))) ?_
    rintro _ w21 uq21
    have m21 := m18.upd0 uq21
    refine rN ?_
    have hq : ((mG (Kr (Q8 (Q8 (Q8 a))) n) j).set (j + 1) ((((Kr (Q8 (Q8 (Q8 a))) n).getD (j + 1) 0) - 32767) - ((((mG (Kr (Q8 (Q8 (Q8 a))) n) j).getD j 0) / 65536) % 2))).getD j 0 = (mG (Kr (Q8 (Q8 (Q8 a))) n) j).getD j 0 := Je oM
    refine Qe <| rM rfl s5 <| Qa rfl (Jf.cast (congrArg i64 (show ((j + 1 : Nat) : Int) - 1 = ((j : Nat) : Int) by omega)) (Zp (b := 1) rfl rfl oM oM)) <| rM rfl s5 <| Qa rfl (Jf.cast (congrArg i64 (show ((j + 1 : Nat) : Int) - 1 = ((j : Nat) : Int) by omega)) (Zp (b := 1) rfl rfl oM oM)) <| Qa rfl (Qd (r := j) oM Xx Dq s4 rfl oM sD) <| Qa rfl (Qn uT2 rfl rfl m21.h0 (Qx _ _ 0 sD)) <| Qa rfl (Jf.cast (congrArg i64 (show (((BitVec.ofInt 64 (((mG (Kr (Q8 (Q8 (Q8 a))) n) j).set (j + 1) ((((Kr (Q8 (Q8 (Q8 a))) n).getD (j + 1) 0) - 32767) - ((((mG (Kr (Q8 (Q8 (Q8 a))) n) j).getD j 0) / 65536) % 2))).getD j 0)).toNat &&& (65535 : Int).toNat : Nat) : Int) = (((mG (Kr (Q8 (Q8 (Q8 a))) n) j).set (j + 1) ((((Kr (Q8 (Q8 (Q8 a))) n).getD (j + 1) 0) - 32767) - ((((mG (Kr (Q8 (Q8 (Q8 a))) n) j).getD j 0) / 65536) % 2))).getD j 0) % 65536 by have hand := Qds (((mG (Kr (Q8 (Q8 (Q8 a))) n) j).set (j + 1) ((((Kr (Q8 (Q8 (Q8 a))) n).getD (j + 1) 0) - 32767) - ((((mG (Kr (Q8 (Q8 (Q8 a))) n) j).getD j 0) / 65536) % 2))).getD j 0); omega)) (Va (b := 65535) rfl rfl oM oM)) <| Qa rfl (Qd (r := j) oM Xx Dq s4 rfl oM sD) <| Zw (Xn (f := i64) Xm Dq rfl rfl m21.h0 sD (.inl (Nat.zero_le _))) ?_
    rintro _ w22 uq22
    have m22 := m21.upd0 uq22
    refine Zr (Qi (Qe ?_))
    refine rM rfl s5 <| Qa rfl (Qk (b := 1) rfl rfl oM oM) <| Qa rfl (Qc (v := (i64 (((j + 1 : Nat) : Int) + 1))) rfl) <| rN ?_
    have hcn : ((mG (Kr (Q8 (Q8 (Q8 a))) n) j).set (j + 1) ((((Kr (Q8 (Q8 (Q8 a))) n).getD (j + 1) 0) - 32767) - ((((mG (Kr (Q8 (Q8 (Q8 a))) n) j).getD j 0) / 65536) % 2))).set j ((((mG (Kr (Q8 (Q8 (Q8 a))) n) j).set (j + 1) ((((Kr (Q8 (Q8 (Q8 a))) n).getD (j + 1) 0) - 32767) - ((((mG (Kr (Q8 (Q8 (Q8 a))) n) j).getD j 0) / 65536) % 2))).getD j 0) % 65536) = mG (Kr (Q8 (Q8 (Q8 a))) n) (j + 1) := by show _ = Rz _ _ _; unfold Rz; rw [if_pos oM]
    exact ⟨⟨j + 1, oM, s0, s1, s2, s3, s4, rfl, s15, (by rw [← hcn]; exact m22)⟩, Gl rfl z5 oM oM⟩
   ·
    have hc20p := ne_of_beq_false hc20
    refine Q7 (Qh (sR ?_))
    refine rM rfl s5 <| Qa rfl (Jf.cast (congrArg i64 (show ((j + 1 : Nat) : Int) - 1 = ((j : Nat) : Int) by omega)) (Zp (b := 1) rfl rfl oM oM)) <| Qa rfl (Qd (r := j) oM Xx Dq s4 rfl oM sD) <| Qa rfl (Qn uT2 rfl rfl m18.h0 (Qx _ _ 0 sD)) <| Qa rfl (En (p := 65536) (b := 16) rfl rfl rfl (by decide) (by decide)) <| Qa rfl (Jf.cast (congrArg i64 (show (((BitVec.ofInt 64 (((mG (Kr (Q8 (Q8 (Q8 a))) n) j).getD j 0) / 65536)).toNat &&& (1 : Int).toNat : Nat) : Int) = (((mG (Kr (Q8 (Q8 (Q8 a))) n) j).getD j 0) / 65536) % 2 by have hand := Qkw (((mG (Kr (Q8 (Q8 (Q8 a))) n) j).getD j 0) / 65536); omega)) (Va (b := 1) rfl rfl oM oM)) <| Qa rfl (Qc (v := (i64 ((((mG (Kr (Q8 (Q8 (Q8 a))) n) j).getD j 0) / 65536) % 2))) rfl) ?_
    refine rN (sR ?_)
    refine rM rfl s5 <| rM rfl s5 <| Qa rfl (Qd (r := (j + 1)) oM Xx Dq s1 rfl oM sD) <| Qa (v := (i64 ((Kr (Q8 (Q8 (Q8 a))) n).getD (j + 1) 0))) rfl (Qn uT2 rfl rfl m18.h1 (Qx _ _ 0 sD)) <| Qa rfl (Qb (v := (i64 65535)) rfl) <| Qa rfl (Zp (b := 65535) rfl rfl oM oM) <| Qa rfl (Qb (v := (i64 ((((mG (Kr (Q8 (Q8 (Q8 a))) n) j).getD j 0) / 65536) % 2))) rfl) <| Qa rfl (Zp rfl rfl oM oM) <| Qa rfl (Qd (r := (j + 1)) oM Xx Dq s4 rfl oM sD) <| Zw (Xn (f := i64) Xm Dq rfl rfl m18.h0 sD (.inl (Nat.zero_le _))) ?_
    rintro _ w23 uq23
    have m23 := m18.upd0 uq23
    refine rN ?_
    have hq : ((mG (Kr (Q8 (Q8 (Q8 a))) n) j).set (j + 1) ((((Kr (Q8 (Q8 (Q8 a))) n).getD (j + 1) 0) - 65535) - ((((mG (Kr (Q8 (Q8 (Q8 a))) n) j).getD j 0) / 65536) % 2))).getD j 0 = (mG (Kr (Q8 (Q8 (Q8 a))) n) j).getD j 0 := Je oM
    refine Qe <| rM rfl s5 <| Qa rfl (Jf.cast (congrArg i64 (show ((j + 1 : Nat) : Int) - 1 = ((j : Nat) : Int) by omega)) (Zp (b := 1) rfl rfl oM oM)) <| rM rfl s5 <| Qa rfl (Jf.cast (congrArg i64 (show ((j + 1 : Nat) : Int) - 1 = ((j : Nat) : Int) by omega)) (Zp (b := 1) rfl rfl oM oM)) <| Qa rfl (Qd (r := j) oM Xx Dq s4 rfl oM sD) <| Qa rfl (Qn uT2 rfl rfl m23.h0 (Qx _ _ 0 sD)) <| Qa rfl (Jf.cast (congrArg i64 (show (((BitVec.ofInt 64 (((mG (Kr (Q8 (Q8 (Q8 a))) n) j).set (j + 1) ((((Kr (Q8 (Q8 (Q8 a))) n).getD (j + 1) 0) - 65535) - ((((mG (Kr (Q8 (Q8 (Q8 a))) n) j).getD j 0) / 65536) % 2))).getD j 0)).toNat &&& (65535 : Int).toNat : Nat) : Int) = (((mG (Kr (Q8 (Q8 (Q8 a))) n) j).set (j + 1) ((((Kr (Q8 (Q8 (Q8 a))) n).getD (j + 1) 0) - 65535) - ((((mG (Kr (Q8 (Q8 (Q8 a))) n) j).getD j 0) / 65536) % 2))).getD j 0) % 65536 by have hand := Qds (((mG (Kr (Q8 (Q8 (Q8 a))) n) j).set (j + 1) ((((Kr (Q8 (Q8 (Q8 a))) n).getD (j + 1) 0) - 65535) - ((((mG (Kr (Q8 (Q8 (Q8 a))) n) j).getD j 0) / 65536) % 2))).getD j 0); omega)) (Va (b := 65535) rfl rfl oM oM)) <| Qa rfl (Qd (r := j) oM Xx Dq s4 rfl oM sD) <| Zw (Xn (f := i64) Xm Dq rfl rfl m23.h0 sD (.inl (Nat.zero_le _))) ?_
    rintro _ w24 uq24
    have m24 := m23.upd0 uq24
    refine Zr (Qi (Qe ?_))
    refine rM rfl s5 <| Qa rfl (Qk (b := 1) rfl rfl oM oM) <| Qa rfl (Qc (v := (i64 (((j + 1 : Nat) : Int) + 1))) rfl) <| rN ?_
    have hcn : ((mG (Kr (Q8 (Q8 (Q8 a))) n) j).set (j + 1) ((((Kr (Q8 (Q8 (Q8 a))) n).getD (j + 1) 0) - 65535) - ((((mG (Kr (Q8 (Q8 (Q8 a))) n) j).getD j 0) / 65536) % 2))).set j ((((mG (Kr (Q8 (Q8 (Q8 a))) n) j).set (j + 1) ((((Kr (Q8 (Q8 (Q8 a))) n).getD (j + 1) 0) - 65535) - ((((mG (Kr (Q8 (Q8 (Q8 a))) n) j).getD j 0) / 65536) % 2))).getD j 0) % 65536) = mG (Kr (Q8 (Q8 (Q8 a))) n) (j + 1) := by show _ = Rz _ _ _; unfold Rz; rw [if_neg oM]
    exact ⟨⟨j + 1, oM, s0, s1, s2, s3, s4, rfl, s15, (by rw [← hcn]; exact m24)⟩, Gl rfl z5 oM oM⟩
  ·
   have hc19p := of_decide_eq_false hc19
   obtain rfl : j = 15 := by omega
   have hmi := Qld hgn 15 oM
   have hml := F6 (Kr (Q8 (Q8 (Q8 a))) n) 15
   refine X0 ?_
   refine Qr (Qr (Xf ?_))
   refine sR <| Qa rfl (Qd (r := 15) (i := 15) oM Xx Dq s4 rfl oM oM) <| Qa rfl (Qn uT2 rfl rfl m18.h0 (Qx _ _ 0 sD)) <| Qa rfl (X5 (b := 0) rfl rfl) <| rN ?_
   refine Xv rfl (fun hc25 => ?_) (fun hc25 => ?_)
   ·
    have hc25p := of_decide_eq_true hc25
    refine Qe <| Qa rfl (Qw Xx rfl Zz s4 m18.h0 sZ) <| Zw (Qm (f := i64) (l := mG (Kr (Q8 (Q8 (Q8 a))) n) 15) Xm Zz s1 rfl sD m18.h1 sZ rfl) ?_
    rintro _ w26 uq26
    have m26 := m18.upd1 uq26
    refine Zr (Qi (Qe ?_))
    refine rM rfl s3 <| Qa rfl (Qk (b := 1) rfl rfl oM oM) <| Qa rfl (Qc (v := (i64 ((n : Int) + 1))) rfl) <| rN ?_
    have hcr : mG (Kr (Q8 (Q8 (Q8 a))) n) 15 = Kr (Q8 (Q8 (Q8 a))) (n + 1) := by show _ = Qez _; unfold Qez; rw [if_pos oM]
    have m27 := Mem.drop [_] _ m26
    exact ⟨⟨n + 1, oM, s0, s1, s2, rfl, (by rw [← hcr]; exact m27)⟩, Gl rfl z3 oM oM⟩
   ·
    have hc25p := of_decide_eq_false hc25
    refine Q7 (Qi (Qe ?_))
    refine rM rfl s3 <| Qa rfl (Qk (b := 1) rfl rfl oM oM) <| Qa rfl (Qc (v := (i64 ((n : Int) + 1))) rfl) <| rN ?_
    have hcr : Kr (Q8 (Q8 (Q8 a))) n = Kr (Q8 (Q8 (Q8 a))) (n + 1) := by show _ = Qez _; unfold Qez; rw [if_neg oM]
    have m28 := Mem.drop [_] _ m18
    exact ⟨⟨n + 1, oM, s0, s1, s2, rfl, (by rw [← hcr]; exact m28)⟩, Gl rfl z3 oM oM⟩
 ·
  have hc13p := of_decide_eq_false hc13
  obtain rfl : n = 2 := by omega
  refine X0 ?_
  refine Qr (Qr (Xf ?_))
  refine sR <| Qa rfl (Jp (ps := []) (c := (cl u8 (List.replicate 32 0))) Z9 X3 X6 (by simp) rfl) <| Za rfl (Zg m12 Z9) ?_
  rintro _ w29 ⟨b8, rfl, e29, m29⟩
  refine Zw (Qm (f := u8) (l := List.replicate 32 0) Qu Z9 rfl rfl sD m29.h0 sZ rfl) ?_
  rintro _ w30 uq30
  have m30 := m29.upd0 uq30
  refine rN (Qg (sR ?_))
  refine Qa rfl (Qc (v := (i64 0)) rfl) ?_
  refine rN (Qo ?_)
  refine Yo (fun g wv => ∃ (i : Nat), (i ≤ 16) ∧ g 0 = (agg i64 a) ∧ g 1 = (ptr b1 0) ∧ g 2 = (ptr b2 0) ∧ g 3 = (i64 (2 : Int)) ∧ g 8 = (ptr b8 0) ∧ g 9 = (i64 (i : Int)) ∧ g 15 = (bl (decide ((2 : Int) < 2))) ∧ Mem wv (Qy w0) [(b8, .cells (cl u8 (Qew (Kr (Q8 (Q8 (Q8 a))) 2) i)) 23 (0, 0)), (b1, .cells (cl i64 (Kr (Q8 (Q8 (Q8 a))) 2)) 109 (0, 0)), (b2, .cells (cl u8 (List.replicate 32 0)) 23 (0, 0))]) (fun g wv => (16 - RowKit.intOf (g 9)).toNat) ?_ ?_
  ·exact ⟨0, oM, s0, s1, s2, s3, rfl, rfl, rfl, (by rw [Qnc]; exact m30)⟩
  rintro fr31 w32 ⟨i, hi, s0, s1, s2, s3, s8, s9, s15, m32⟩
  have z9 := s9
  have hwl := D8 (Kr (Q8 (Q8 (Q8 a))) 2) i
  refine Qg (sR ?_)
  refine rM rfl s9 <| Qa rfl (Qs (b := 16) rfl rfl) <| rN ?_
  refine Xv rfl (fun hc33 => ?_) (fun hc33 => ?_)
  ·
   have hc33p := of_decide_eq_true hc33
   have hab := hgn.bd i oM
   refine Q7 (Qh (Qg (Qo (sR ?_))))
   refine rM rfl s9 <| Qa rfl (Jf.cast (congrArg i64 (show 2 * (i : Int) = ((2 * i : Nat) : Int) by omega)) (Z7 (a := 2) rfl rfl oM oM)) <| rM rfl s9 <| Qa rfl (Qd (r := i) oM Xx Dq s1 rfl oM sD) <| Qa rfl (Qn uT2 rfl rfl m32.h1 (Qx _ _ 0 sD)) <| Qa rfl (Wn ⟨_, uT2⟩ Vm rfl) <| Qa rfl (Qd (r := (2 * i)) oM X3 X6 s8 rfl oM sD) <| Zw (Xn (f := u8) (a := BitVec.ofInt 8 ((Kr (Q8 (Q8 (Q8 a))) 2).getD i 0)) Qu X6 rfl rfl m32.h0 sD (.inl (Nat.zero_le _))) ?_
   rintro _ w34 uq34
   have m34 := m32.upd0 uq34
   refine rN (Qe ?_)
   refine rM rfl s9 <| Qa rfl (Z7 (a := 2) rfl rfl oM oM) <| Qa rfl (Jf.cast (congrArg i64 (show (2 * (i : Int)) + 1 = ((2 * i + 1 : Nat) : Int) by omega)) (Qk (b := 1) rfl rfl oM oM)) <| rM rfl s9 <| Qa rfl (Qd (r := i) oM Xx Dq s1 rfl oM sD) <| Qa rfl (Qn uT2 rfl rfl m34.h1 (Qx _ _ 0 sD)) <| Qa rfl (En (p := 256) (b := 8) rfl rfl rfl (by decide) (by decide)) <| Qa rfl (Wn ⟨_, uT2⟩ Vm rfl) <| Qa rfl (Qd (r := (2 * i + 1)) oM X3 X6 s8 rfl oM sD) <| Zw (Xn (f := u8) (a := BitVec.ofInt 8 (((Kr (Q8 (Q8 (Q8 a))) 2).getD i 0) / 256)) Qu X6 rfl rfl m34.h0 sD (.inl (Nat.zero_le _))) ?_
   rintro _ w35 uq35
   have m35 := m34.upd0 uq35
   refine Zr (Qi (Qe ?_))
   refine rM rfl s9 <| Qa rfl (Qk (b := 1) rfl rfl oM oM) <| Qa rfl (Qc (v := (i64 ((i : Int) + 1))) rfl) <| rN ?_
   exact ⟨⟨i + 1, oM, s0, s1, s2, s3, s8, rfl, s15, (by rw [Qhd]; exact m35)⟩, Gl rfl z9 oM oM⟩
  ·
   have hc33p := of_decide_eq_false hc33
   obtain rfl : i = 16 := by omega
   have hwl := D8 (Kr (Q8 (Q8 (Q8 a))) 2) 16
   refine X0 ?_
   refine Qr (Qr (Xf ?_))
   refine sR <| Qa rfl (Qw X3 rfl Z9 s8 m32.h0 sZ) <| Zw (Qm (f := u8) (l := Qew (Kr (Q8 (Q8 (Q8 a))) 2) 16) Qu Z9 s2 rfl sD m32.h2 sZ rfl) ?_
   rintro _ w36 uq36
   have m36 := m32.upd2 uq36
   refine rN (Xt ?_)
   refine Ze [(agg u8 (Qew (Kr (Q8 (Q8 (Q8 a))) 2) 16))] ⟨⟨_, s2, Xo X3 rfl Z9 m36.h2 sZ⟩, trivial⟩ ?_
   exact ⟨by unfold Qab; rfl, m36.toExt⟩
end Go.Proofs.YtkmiemlpfkfiiaaDoor
