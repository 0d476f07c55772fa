/- Contracts: the document's numbers. Conditions: none beyond those that each theorem states. -/
import Derived.Test.YtkmiemlpfkfiiaaDoorCu2
import Derived.Test.YtkmiemlpfkfiiaaDoorCuN
namespace Go.Proofs.YtkmiemlpfkfiiaaDoor
open Tryd
set_option linter.unusedVariables false
set_option linter.unusedSimpArgs false
set_option maxHeartbeats 1000000 in
theorem Qa1 (l : List Int) (w0 : World)  (hl : l.length = 16) (hb : Bd (-1000000000000000) 1000000000000000 l) : X0 prog 90 #[(agg i64 l)] w0 (fun r w1 => r = (agg i64 (Qw l)) ∧ Ext w0 w1) := by
 refine Qy (args := [(agg i64 l)]) func90 rfl ntmps90 results90 rfl ?_
 have m0 : Mem w0 (Qr w0) [] := Mem.of_world w0
 refine sR <| Y9 (Xc (f := i64) (l := l) m0 rfl) fun w1 b1 m1 => Y9 (Q7 m1 Z7) fun w2 b2 m2 => ?_
 refine rN (Qa (sR ?_))
 refine Zx (i64 0) ?_
 refine rN (Qh ?_)
 refine Y1 (fun g wv => ∃ (i : Nat), (i ≤ 16) ∧ g 0 = (agg i64 l) ∧ g 1 = (ptr b1 0) ∧ g 2 = (ptr b2 0) ∧ g 3 = (i64 (i : Int)) ∧ Mem wv (Qr w0) [(b2, .cells (cl i64 (List.replicate 16 0)) 109 (0, 0)), (b1, .cells (cl i64 (Ua l i)) 109 (0, 0))]) (fun g wv => (16 - RowKit.intOf (g 3)).toNat) ?_ ?_
 ·exact ⟨0, oM, rfl, rfl, rfl, rfl, m2⟩
 rintro fr3 w4 ⟨i, hi, s0, s1, s2, s3, m4⟩
 have z3 := s3
 have hgl := Qbi l i
 refine Qa (sR ?_)
 refine Yb s3 <| Qd (Xa (b := 16) rfl rfl) <| rN ?_
 refine Zy rfl (fun hc5 => ?_) (fun hc5 => ?_)
 ·
  have hc5p := of_decide_eq_true hc5
  obtain ⟨hI1, hI2, hI3, hI4⟩ := crGo_inv hl hb i oM
  refine Qn (Qc (Qa (Qh (sR ?_))))
  refine Yb s3 <| Qd (Zl (r := i) oM X8 Ll s1 rfl oM sD) <| Qd (Qi uT2 rfl rfl m4.h1 (Qu _ _ 0 sD)) <| Qd (Aq (p := 65536) (b := 16) rfl rfl rfl Jb Jb) <| Zx (i64 (((Ua l i).getD i 0) / 65536)) ?_
  refine rN (sR ?_)
  refine Yb s3 <| Qd (Zl (r := i) oM X8 Ll s1 rfl oM sD) <| Qd (Qi uT2 rfl rfl m4.h1 (Qu _ _ 0 sD)) <| Zm (i64 (((Ua l i).getD i 0) / 65536)) <| Qd (Qbg (p := 65536) (b := 16) rfl rfl rfl Jb Jb oM oM) <| Qd (Yf rfl rfl oM oM) <| Qd (Zl (r := i) oM X8 Ll s1 rfl oM sD) <| Vu m4 (Xx (f := i64) Zv Ll rfl rfl m4.h1 sD (.inl (Nat.zero_le _))) fun w6 m6 => ?_
  refine rN (sR ?_)
  refine Yb s3 <| Qd (Xa (b := 15) rfl rfl) <| rN ?_
  refine Zy rfl (fun hc7 => ?_) (fun hc7 => ?_)
  ·
   have hc7p := of_decide_eq_true hc7
   have hq : ((Ua l i).set i (((Ua l i).getD i 0) - ((((Ua l i).getD i 0) / 65536) * 65536))).getD (i + 1) 0 = l.getD (i + 1) 0 := by rw [Kq oM]; exact hI2 (i + 1) oM
   have hq2 := hb (i + 1) oM
   refine Qb <| Yb s3 <| Qd (Jy.cast (congrArg i64 (show (i : Int) + 1 = ((i + 1 : Nat) : Int) by omega)) (Zf (b := 1) rfl rfl oM oM)) <| Qd (Zl (r := (i + 1)) oM X8 Ll s1 rfl oM sD) <| Qd (v := (i64 (((Ua l i).set i (((Ua l i).getD i 0) - ((((Ua l i).getD i 0) / 65536) * 65536))).getD (i + 1) 0))) (Qi uT2 rfl rfl m6.h1 (Qu _ _ 0 sD)) <| Zm (i64 (((Ua l i).getD i 0) / 65536)) <| Qd (Zf rfl rfl oM oM) <| Qd (Zl (r := (i + 1)) oM X8 Ll s1 rfl oM sD) <| Vu m6 (Xx (f := i64) Zv Ll rfl rfl m6.h1 sD (.inl (Nat.zero_le _))) fun w8 m8 => ?_
   refine Zp (Qe (Qb ?_))
   refine Yb s3 <| Qd (Zf (b := 1) rfl rfl oM oM) <| Zx (i64 ((i : Int) + 1)) <| rN ?_
   have hcn : ((Ua l i).set i (((Ua l i).getD i 0) - ((((Ua l i).getD i 0) / 65536) * 65536))).set (i + 1) ((((Ua l i).set i (((Ua l i).getD i 0) - ((((Ua l i).getD i 0) / 65536) * 65536))).getD (i + 1) 0) + (((Ua l i).getD i 0) / 65536)) = Ua l (i + 1) := by show _ = Ri _ _; unfold Ri; rw [if_pos oM]
   exact ⟨⟨i + 1, oM, s0, s1, s2, rfl, (by rw [← hcn]; exact m8)⟩, Ue rfl z3 oM oM⟩
  ·
   have hc7p := of_decide_eq_false hc7
   have hq : ((Ua l i).set i (((Ua l i).getD i 0) - ((((Ua l i).getD i 0) / 65536) * 65536))).getD 0 0 = (Ua l i).getD 0 0 := Kq oM
   have hq2 := hI1 0 oM
   refine Qb <| Qd (Xu 0 0 X8 Ll s1) <| Qd (Qi uT2 rfl rfl m6.h1 (Qu _ _ 0 sD)) <| Zm (i64 (((Ua l i).getD i 0) / 65536)) <| Qd (Kv (a := 38) rfl rfl oM oM) <| Qd (Zf rfl rfl oM oM) <| Qd (Xu 0 0 X8 Ll s1) <| Vu m6 (Xx (f := i64) Zv Ll rfl rfl m6.h1 sD (.inl (Nat.zero_le _))) fun w9 m9 => ?_
   refine Zp (Qe (Qb ?_))
   refine Yb s3 <| Qd (Zf (b := 1) rfl rfl oM oM) <| Zx (i64 ((i : Int) + 1)) <| rN ?_
   have hcn : ((Ua l i).set i (((Ua l i).getD i 0) - ((((Ua l i).getD i 0) / 65536) * 65536))).set 0 ((((Ua l i).set i (((Ua l i).getD i 0) - ((((Ua l i).getD i 0) / 65536) * 65536))).getD 0 0) + (38 * (((Ua l i).getD i 0) / 65536))) = Ua l (i + 1) := by show _ = Ri _ _; unfold Ri; rw [if_neg oM]
   exact ⟨⟨i + 1, oM, s0, s1, s2, rfl, (by rw [← hcn]; exact m9)⟩, Ue rfl z3 oM oM⟩
 ·
  have hc5p := of_decide_eq_false hc5
  obtain rfl : i = 16 := by omega
  have hgl := Qbi l 16
  refine X4 ?_
  refine Qj (Qj (Xi ?_))
  refine sR <| Qd (Qo X8 rfl Z7 s1 m4.h1 sZ) <| Ye m4 (Qg (f := i64) (l := Ua l 16) Zv Z7 s2 rfl sD m4.h0 sZ rfl) fun w10 m10 => ?_
  refine rN (Zz ?_)
  refine Qp [(agg i64 (Ua l 16))] ⟨⟨_, s2, Xn X8 rfl Z7 m10.h0 sZ⟩, trivial⟩ ?_
  exact ⟨by unfold Qw; rfl, m10.toExt⟩
set_option maxHeartbeats 1000000 in
theorem Qbs (a b : List Int) (w0 : World)  (ha : GoodR a) (hb : GoodR b) : X0 prog 64 #[(agg i64 a), (agg i64 b)] w0 (fun r w1 => r = (agg i64 (J3 a b)) ∧ Ext w0 w1) := by
 refine Qy (args := [(agg i64 a), (agg i64 b)]) func64 rfl ntmps64 results64 rfl ?_
 have m0 : Mem w0 (Qr w0) [] := Mem.of_world w0
 have hal := ha.len; have hbl := hb.len
 refine sR <| Y9 (Xc (f := i64) (l := a) m0 rfl) fun w1 b2 m1 => Y9 (Xc (f := i64) (l := b) m1 rfl) fun w2 b3 m2 => Y9 (Q7 m2 Z7) fun w3 b4 m3 => ?_
 refine rN (Qa (sR ?_))
 refine Zx (i64 0) ?_
 refine rN (Qh ?_)
 refine Y1 (fun g wv => ∃ (i : Nat), (i ≤ 16) ∧ g 0 = (agg i64 a) ∧ g 1 = (agg i64 b) ∧ g 2 = (ptr b2 0) ∧ g 3 = (ptr b3 0) ∧ g 4 = (ptr b4 0) ∧ g 5 = (i64 (i : Int)) ∧ Mem wv (Qr w0) [(b4, .cells (cl i64 (List.replicate 16 0)) 109 (0, 0)), (b3, .cells (cl i64 b) 109 (0, 0)), (b2, .cells (cl i64 (Af (· + ·) a b i)) 109 (0, 0))]) (fun g wv => (16 - RowKit.intOf (g 5)).toNat) ?_ ?_
 ·exact ⟨0, oM, rfl, rfl, rfl, rfl, rfl, rfl, m3⟩
 rintro fr4 w5 ⟨i, hi, s0, s1, s2, s3, s4, s5, m5⟩
 have z5 := s5
 have hgl := Wy (· + ·) a b i
 refine Qa (sR ?_)
 refine Yb s5 <| Qd (Xa (b := 16) rfl rfl) <| rN ?_
 refine Zy rfl (fun hc6 => ?_) (fun hc6 => ?_)
 ·
  have hc6p := of_decide_eq_true hc6
  have hg : (Af (· + ·) a b i).getD i 0 = a.getD i 0 := by rw [Qd8, if_neg oM]
  have hg1 := ha.bd i oM
  have hg2 := hb.bd i oM
  refine Qn (Qc (Qa (Qh ?_)))
  refine Xg (dl 6) 6 Xo <| Uh rfl s5 <| X6 rfl (Zl (r := i) oM X8 Ll s2 rfl oM sD) <| Ym rfl (fun _ e' => Qi uT2 rfl rfl (m5.ext e').h2 (Qu _ _ 0 sD)) <| Uh rfl s5 <| X6 rfl (Zl (r := i) oM X8 Ll s3 rfl oM sD) <| Ym rfl (fun _ e' => Qi uT2 rfl rfl (m5.ext e').h1 (Qu _ _ 0 sD)) <| Gf m5 fun w7 m7 => Qd (Zf rfl rfl oM oM) <| Qd (Zl (r := i) oM X8 Ll s2 rfl oM sD) <| Aa m7 (Xx (f := i64) Zv Ll rfl rfl m7.h2 sD (.inl (Nat.zero_le _))) fun w8 m8 => ?_
  refine Zp (Qe (Qb ?_))
  refine Yb s5 <| Qd (Zf (b := 1) rfl rfl oM oM) <| Zx (i64 ((i : Int) + 1)) <| rN ?_
  exact ⟨⟨i + 1, oM, s0, s1, s2, s3, s4, rfl, m8⟩, Ue rfl z5 oM oM⟩
 ·
  have hc6p := of_decide_eq_false hc6
  obtain rfl : i = 16 := by omega
  have hgl := Wy (· + ·) a b 16
  refine X4 ?_
  refine Qj (Qj (Xi ?_))
  refine sR <| Qd (Qo X8 rfl Z7 s2 m5.h2 sZ) <| U3 m5 (oc90 (Jv rfl) (Qa1 _ _ (by rw [Wy, hal]) (Qj5 ha hb (by intro x y hx hy; show -1000000000000000 ≤ x + y ∧ x + y ≤ 1000000000000000; omega)))) fun w9 m9 => Ye m9 (Qg (f := i64) (l := Qw (Af (· + ·) a b 16)) Zv Z7 s4 rfl sD m9.h0 sZ rfl) fun w11 m11 => ?_
  refine rN (Zz ?_)
  refine Qp [(agg i64 (Qw (Af (· + ·) a b 16)))] ⟨⟨_, s4, Xn X8 rfl Z7 m11.h0 sZ⟩, trivial⟩ ?_
  exact ⟨by unfold J3; rfl, m11.toExt⟩
set_option maxHeartbeats 1000000 in
theorem Ru (a b : List Int) (w0 : World)  (ha : GoodR a) (hb : GoodR b) : X0 prog 65 #[(agg i64 a), (agg i64 b)] w0 (fun r w1 => r = (agg i64 (Yy a b)) ∧ Ext w0 w1) := by
 refine Qy (args := [(agg i64 a), (agg i64 b)]) func65 rfl ntmps65 results65 rfl ?_
 have m0 : Mem w0 (Qr w0) [] := Mem.of_world w0
 have hal := ha.len; have hbl := hb.len
 refine sR <| Y9 (Xc (f := i64) (l := a) m0 rfl) fun w1 b2 m1 => Y9 (Xc (f := i64) (l := b) m1 rfl) fun w2 b3 m2 => Y9 (Q7 m2 Z7) fun w3 b4 m3 => ?_
 refine rN (Qa (sR ?_))
 refine Zx (i64 0) ?_
 refine rN (Qh ?_)
 refine Y1 (fun g wv => ∃ (i : Nat), (i ≤ 16) ∧ g 0 = (agg i64 a) ∧ g 1 = (agg i64 b) ∧ g 2 = (ptr b2 0) ∧ g 3 = (ptr b3 0) ∧ g 4 = (ptr b4 0) ∧ g 5 = (i64 (i : Int)) ∧ Mem wv (Qr w0) [(b4, .cells (cl i64 (List.replicate 16 0)) 109 (0, 0)), (b3, .cells (cl i64 b) 109 (0, 0)), (b2, .cells (cl i64 (Af (· - ·) a b i)) 109 (0, 0))]) (fun g wv => (16 - RowKit.intOf (g 5)).toNat) ?_ ?_
 ·exact ⟨0, oM, rfl, rfl, rfl, rfl, rfl, rfl, m3⟩
 rintro fr4 w5 ⟨i, hi, s0, s1, s2, s3, s4, s5, m5⟩
 have z5 := s5
 have hgl := Wy (· - ·) a b i
 refine Qa (sR ?_)
 refine Yb s5 <| Qd (Xa (b := 16) rfl rfl) <| rN ?_
 refine Zy rfl (fun hc6 => ?_) (fun hc6 => ?_)
 ·
  have hc6p := of_decide_eq_true hc6
  have hg : (Af (· - ·) a b i).getD i 0 = a.getD i 0 := by rw [Qd8, if_neg oM]
  have hg1 := ha.bd i oM
  have hg2 := hb.bd i oM
  refine Qn (Qc (Qa (Qh ?_)))
  refine Xg (dl 6) 6 Xo <| Uh rfl s5 <| X6 rfl (Zl (r := i) oM X8 Ll s2 rfl oM sD) <| Ym rfl (fun _ e' => Qi uT2 rfl rfl (m5.ext e').h2 (Qu _ _ 0 sD)) <| Uh rfl s5 <| X6 rfl (Zl (r := i) oM X8 Ll s3 rfl oM sD) <| Ym rfl (fun _ e' => Qi uT2 rfl rfl (m5.ext e').h1 (Qu _ _ 0 sD)) <| Gf m5 fun w7 m7 => Qd (Yf rfl rfl oM oM) <| Qd (Zl (r := i) oM X8 Ll s2 rfl oM sD) <| Aa m7 (Xx (f := i64) Zv Ll rfl rfl m7.h2 sD (.inl (Nat.zero_le _))) fun w8 m8 => ?_
  refine Zp (Qe (Qb ?_))
  refine Yb s5 <| Qd (Zf (b := 1) rfl rfl oM oM) <| Zx (i64 ((i : Int) + 1)) <| rN ?_
  exact ⟨⟨i + 1, oM, s0, s1, s2, s3, s4, rfl, m8⟩, Ue rfl z5 oM oM⟩
 ·
  have hc6p := of_decide_eq_false hc6
  obtain rfl : i = 16 := by omega
  have hgl := Wy (· - ·) a b 16
  refine X4 ?_
  refine Qj (Qj (Xi ?_))
  refine sR <| Qd (Qo X8 rfl Z7 s2 m5.h2 sZ) <| U3 m5 (oc90 (Jv rfl) (Qa1 _ _ (by rw [Wy, hal]) (Qj5 ha hb (by intro x y hx hy; show -1000000000000000 ≤ x - y ∧ x - y ≤ 1000000000000000; omega)))) fun w9 m9 => Ye m9 (Qg (f := i64) (l := Qw (Af (· - ·) a b 16)) Zv Z7 s4 rfl sD m9.h0 sZ rfl) fun w11 m11 => ?_
  refine rN (Zz ?_)
  refine Qp [(agg i64 (Qw (Af (· - ·) a b 16)))] ⟨⟨_, s4, Xn X8 rfl Z7 m11.h0 sZ⟩, trivial⟩ ?_
  exact ⟨by unfold Yy; rfl, m11.toExt⟩
set_option maxHeartbeats 1000000 in
theorem V3 (a b : List Int) (w0 : World)  (ha : GoodR a) (hb : GoodR b) : X0 prog 66 #[(agg i64 a), (agg i64 b)] w0 (fun r w1 => r = (agg i64 (Xh a b)) ∧ Ext w0 w1) := by
 refine Qy (args := [(agg i64 a), (agg i64 b)]) func66 rfl ntmps66 results66 rfl ?_
 have m0 : Mem w0 (Qr w0) [] := Mem.of_world w0
 have hal := ha.len; have hbl := hb.len
 refine sR <| Y9 (Xc (f := i64) (l := a) m0 rfl) fun w1 b2 m1 => Y9 (Xc (f := i64) (l := b) m1 rfl) fun w2 b3 m2 => Y9 (Q7 m2 Z7) fun w3 b4 m3 => ?_
 refine rN (sR ?_)
 refine Qd (Kw (ps := []) (c := (cl i64 (List.replicate 31 0))) ti141 Qm1 Ll Ya rfl) <| Y9 (Q7 m3 ti141) fun w4 b5 m4 => Ye m4 (Qg (f := i64) (l := List.replicate 31 0) Zv ti141 rfl rfl sD m4.h0 sZ rfl) fun w5 m5 => ?_
 refine rN (Qa (sR ?_))
 refine Zx (i64 0) ?_
 refine rN (Qh ?_)
 refine Y1 (fun g wv => ∃ (i : Nat), (i ≤ 16) ∧ g 0 = (agg i64 a) ∧ g 1 = (agg i64 b) ∧ g 2 = (ptr b2 0) ∧ g 3 = (ptr b3 0) ∧ g 4 = (ptr b4 0) ∧ g 5 = (ptr b5 0) ∧ g 6 = (i64 (i : Int)) ∧ Mem wv (Qr w0) [(b5, .cells (cl i64 (Ey a b i)) 141 (0, 0)), (b4, .cells (cl i64 (List.replicate 16 0)) 109 (0, 0)), (b3, .cells (cl i64 b) 109 (0, 0)), (b2, .cells (cl i64 a) 109 (0, 0))]) (fun g wv => (16 - RowKit.intOf (g 6)).toNat) ?_ ?_
 ·exact ⟨0, oM, rfl, rfl, rfl, rfl, rfl, rfl, rfl, m5⟩
 rintro fr6 w7 ⟨i, hi, s0, s1, s2, s3, s4, s5, s6, m7⟩
 have z6 := s6
 have htl := Nh a b i
 refine Qa (sR ?_)
 refine Yb s6 <| Qd (Xa (b := 16) rfl rfl) <| rN ?_
 refine Zy rfl (fun hc8 => ?_) (fun hc8 => ?_)
 ·
  have hc8p := of_decide_eq_true hc8
  refine Qn (Qc (Qa (Qh (sR ?_))))
  refine Zx (i64 0) ?_
  refine rN (V8 ?_)
  refine Y1 (fun g wv => ∃ (k : Nat), (k ≤ 16) ∧ g 0 = (agg i64 a) ∧ g 1 = (agg i64 b) ∧ g 2 = (ptr b2 0) ∧ g 3 = (ptr b3 0) ∧ g 4 = (ptr b4 0) ∧ g 5 = (ptr b5 0) ∧ g 6 = (i64 (i : Int)) ∧ g 7 = (i64 (k : Int)) ∧ g 12 = (bl (decide ((i : Int) < 16))) ∧ Mem wv (Qr w0) [(b5, .cells (cl i64 (Qew a b i (Ey a b i) k)) 141 (0, 0)), (b4, .cells (cl i64 (List.replicate 16 0)) 109 (0, 0)), (b3, .cells (cl i64 b) 109 (0, 0)), (b2, .cells (cl i64 a) 109 (0, 0))]) (fun g wv => (16 - RowKit.intOf (g 7)).toNat) ?_ ?_
  ·exact ⟨0, oM, s0, s1, s2, s3, s4, s5, s6, rfl, rfl, m7⟩
  rintro fr9 w10 ⟨k, hk, s0, s1, s2, s3, s4, s5, s6, s7, s12, m10⟩
  have z7 := s7
  have hrl := Qa9 a b i (Ey a b i) k
  refine Qa (sR ?_)
  refine Yb s7 <| Qd (Xa (b := 16) rfl rfl) <| rN ?_
  refine Zy rfl (fun hc11 => ?_) (fun hc11 => ?_)
  ·
   have hc11p := of_decide_eq_true hc11
   have m1 := mul_bd (ha.bd i oM) (hb.bd k oM)
   have m2 := Qqc ha hb (show i < 16 by omega) (Nh a b i) (Qfg ha hb i oM) k oM (i + k)
   refine Qn (Qc (Qa (Qh ?_)))
   refine Xg (dl 12) 12 Xo <| Uh rfl s6 <| Uh rfl s7 <| X6 rfl (Jy.cast (congrArg i64 (show (i : Int) + (k : Int) = ((i + k : Nat) : Int) by omega)) (Zf rfl rfl oM oM)) <| X6 rfl (Zl (r := (i + k)) oM Qm1 Ll s5 rfl oM sD) <| Ym (v := (i64 ((Qew a b i (Ey a b i) k).getD (i + k) 0))) rfl (fun _ e' => Qi uT2 rfl rfl (m10.ext e').h0 (Qu _ _ 0 sD)) <| Uh rfl s6 <| X6 rfl (Zl (r := i) oM X8 Ll s2 rfl oM sD) <| Ym rfl (fun _ e' => Qi uT2 rfl rfl (m10.ext e').h3 (Qu _ _ 0 sD)) <| Uh rfl s7 <| X6 rfl (Zl (r := k) oM X8 Ll s3 rfl oM sD) <| Ym rfl (fun _ e' => Qi uT2 rfl rfl (m10.ext e').h2 (Qu _ _ 0 sD)) ?_
   refine X6 rfl (Kv rfl rfl oM oM) <| Gf m10 fun w12 m12 => Qd (Zf rfl rfl oM oM) <| Qd (Zl (r := (i + k)) oM Qm1 Ll s5 rfl oM sD) <| Ye m12 (Xx (f := i64) Zv Ll rfl rfl m12.h0 sD (.inl (Nat.zero_le _))) fun w13 m13 => ?_
   refine Zp (Qe (Qb ?_))
   refine Yb s7 <| Qd (Zf (b := 1) rfl rfl oM oM) <| Zx (i64 ((k : Int) + 1)) <| rN ?_
   exact ⟨⟨k + 1, oM, s0, s1, s2, s3, s4, s5, s6, rfl, s12, m13⟩, Ue rfl z7 oM oM⟩
  ·
   have hc11p := of_decide_eq_false hc11
   obtain rfl : k = 16 := by omega
   refine X4 ?_
   refine Qj (Qj (Xi ?_))
   refine Qe (Qb ?_)
   refine Yb s6 <| Qd (Zf (b := 1) rfl rfl oM oM) <| Zx (i64 ((i : Int) + 1)) <| rN ?_
   exact ⟨⟨i + 1, oM, s0, s1, s2, s3, s4, s5, rfl, m10⟩, Ue rfl z6 oM oM⟩
 ·
  have hc8p := of_decide_eq_false hc8
  obtain rfl : i = 16 := by omega
  have htl := Nh a b 16
  refine X4 ?_
  refine Qj (Qj (Xi ?_))
  refine sR <| Qd (Kw (ps := []) (c := (cl i64 (List.replicate 16 0))) Z7 X8 Ll Ya rfl) <| Y9 (Q7 m7 Z7) fun w14 b8 m14 => Ye m14 (Qg (f := i64) (l := List.replicate 16 0) Zv Z7 rfl rfl sD m14.h0 sZ rfl) fun w15 m15 => ?_
  refine rN (Qa (sR ?_))
  refine Zx (i64 0) ?_
  refine rN (Qh ?_)
  refine Y1 (fun g wv => ∃ (i : Nat), (i ≤ 16) ∧ g 0 = (agg i64 a) ∧ g 1 = (agg i64 b) ∧ g 2 = (ptr b2 0) ∧ g 3 = (ptr b3 0) ∧ g 4 = (ptr b4 0) ∧ g 5 = (ptr b5 0) ∧ g 6 = (i64 (16 : Int)) ∧ g 8 = (ptr b8 0) ∧ g 9 = (i64 (i : Int)) ∧ g 12 = (bl (decide ((16 : Int) < 16))) ∧ Mem wv (Qr w0) [(b8, .cells (cl i64 (Y0 (Rz (Ey a b 16)) 0 16 i)) 109 (0, 0)), (b5, .cells (cl i64 (Ey a b 16)) 141 (0, 0)), (b4, .cells (cl i64 (List.replicate 16 0)) 109 (0, 0)), (b3, .cells (cl i64 b) 109 (0, 0)), (b2, .cells (cl i64 a) 109 (0, 0))]) (fun g wv => (16 - RowKit.intOf (g 9)).toNat) ?_ ?_
  ·exact ⟨0, oM, s0, s1, s2, s3, s4, s5, s6, rfl, rfl, rfl, (by rw [En]; exact m15)⟩
  rintro fr16 w17 ⟨i, hi, s0, s1, s2, s3, s4, s5, s6, s8, s9, s12, m17⟩
  have z9 := s9
  have hfl : (Y0 (Rz (Ey a b 16)) (0 : Int) 16 i).length = 16 := J9 _ _ _ _ hi
  refine Qa (sR ?_)
  refine Yb s9 <| Qd (Xa (b := 16) rfl rfl) <| rN ?_
  refine Zy rfl (fun hc18 => ?_) (fun hc18 => ?_)
  ·
   have hc18p := of_decide_eq_true hc18
   have ht1 := Qfg ha hb 16 oM i
   have ht2 := Qfg ha hb 16 oM (i + 16)
   refine Qn (Qc (Qa (Qh (sR ?_))))
   refine Yb s9 <| Yb s9 <| Qd (Zl (r := i) oM Qm1 Ll s5 rfl oM sD) <| Qd (Qi uT2 rfl rfl m17.h1 (Qu _ _ 0 sD)) <| Qd (Zl (r := i) oM X8 Ll s8 rfl oM sD) <| Ye m17 (Xx (f := i64) Zv Ll rfl rfl m17.h0 sD (.inl (Nat.zero_le _))) fun w19 m19 => ?_
   refine rN (sR ?_)
   refine Yb s9 <| Qd (Xa (b := 15) rfl rfl) <| rN ?_
   refine Zy rfl (fun hc20 => ?_) (fun hc20 => ?_)
   ·
    have hc20p := of_decide_eq_true hc20
    have hq : ((Y0 (Rz (Ey a b 16)) 0 16 i).set i ((Ey a b 16).getD i 0)).getD i 0 = (Ey a b 16).getD i 0 := Uf oM
    refine Xg (dl 8) 8 Xo <| Uh rfl s9 <| X6 rfl (Zl (r := i) oM X8 Ll s8 rfl oM sD) <| Ym rfl (fun _ e' => Qi uT2 rfl rfl (m19.ext e').h0 (Qu _ _ 0 sD)) <| Uh rfl s9 <| X6 rfl (Jy.cast (congrArg i64 (show (i : Int) + 16 = ((i + 16 : Nat) : Int) by omega)) (Zf (b := 16) rfl rfl oM oM)) <| X6 rfl (Zl (r := (i + 16)) oM Qm1 Ll s5 rfl oM sD) <| Ym (v := (i64 ((Ey a b 16).getD (i + 16) 0))) rfl (fun _ e' => Qi uT2 rfl rfl (m19.ext e').h1 (Qu _ _ 0 sD)) <| X6 rfl (Kv (a := 38) rfl rfl oM oM) <| Gf m19 fun w21 m21 => Qd (Zf rfl rfl oM oM) <| Qd (Zl (r := i) oM X8 Ll s8 rfl oM sD) <| Ye m21 (Xx (f := i64) Zv Ll rfl rfl m21.h0 sD (.inl (Nat.zero_le _))) fun w22 m22 => ?_
    refine Zp (Qe (Qb ?_))
    refine Yb s9 <| Qd (Zf (b := 1) rfl rfl oM oM) <| Zx (i64 ((i : Int) + 1)) <| rN ?_
    have hcn : ((Y0 (Rz (Ey a b 16)) 0 16 i).set i ((Ey a b 16).getD i 0)).set i ((((Y0 (Rz (Ey a b 16)) 0 16 i).set i ((Ey a b 16).getD i 0)).getD i 0) + (38 * ((Ey a b 16).getD (i + 16) 0))) = Y0 (Rz (Ey a b 16)) 0 16 (i + 1) := by rw [List.set_set, hq]; exact E5 (Rz (Ey a b 16)) 0 oM _ (by unfold Rz; rw [if_pos oM])
    exact ⟨⟨i + 1, oM, s0, s1, s2, s3, s4, s5, s6, s8, rfl, s12, (by rw [← hcn]; exact m22)⟩, Ue rfl z9 oM oM⟩
   ·
    have hc20p := of_decide_eq_false hc20
    refine Qn (Qe (Qb ?_))
    refine Yb s9 <| Qd (Zf (b := 1) rfl rfl oM oM) <| Zx (i64 ((i : Int) + 1)) <| rN ?_
    have hcn : (Y0 (Rz (Ey a b 16)) 0 16 i).set i ((Ey a b 16).getD i 0) = Y0 (Rz (Ey a b 16)) 0 16 (i + 1) := E5 (Rz (Ey a b 16)) 0 oM _ (by unfold Rz; rw [if_neg oM])
    exact ⟨⟨i + 1, oM, s0, s1, s2, s3, s4, s5, s6, s8, rfl, s12, (by rw [← hcn]; exact m19)⟩, Ue rfl z9 oM oM⟩
  ·
   have hc18p := of_decide_eq_false hc18
   obtain rfl : i = 16 := by omega
   refine X4 ?_
   refine Qj (Qj (Xi ?_))
   refine sR <| Qd (Qo X8 rfl Z7 s8 m17.h0 sZ) <| U3 m17 (oc90 (Jv rfl) (Qa1 _ _ sD (bd_carry ha hb))) fun w23 m23 => U3 m23 (oc90 (Jv rfl) (Qa1 _ _ sD (Qsv ha hb))) fun w25 m25 => Aa m25 (Qg (f := i64) (l := Qw (Qw (Y0 (Rz (Ey a b 16)) 0 16 16))) Zv Z7 s4 rfl sD m25.h2 sZ rfl) fun w27 m27 => ?_
   refine rN (Zz ?_)
   refine Qp [(agg i64 (Qw (Qw (Y0 (Rz (Ey a b 16)) 0 16 16))))] ⟨⟨_, s4, Xn X8 rfl Z7 m27.h2 sZ⟩, trivial⟩ ?_
   exact ⟨by unfold Xh; rfl, m27.toExt⟩
set_option maxHeartbeats 1000000 in
theorem c_rinv (x : List Int) (w0 : World)  (hx : GoodR x) : X0 prog 68 #[(agg i64 x)] w0 (fun r w1 => r = (agg i64 (Vt x 255)) ∧ Ext w0 w1) := by
 refine Qy (args := [(agg i64 x)]) func68 rfl ntmps68 results68 rfl ?_
 have m0 : Mem w0 (Qr w0) [] := Mem.of_world w0
 have hxl := hx.len
 refine sR <| Y9 (Xc (f := i64) (l := x) m0 rfl) fun w1 b1 m1 => Y9 (Q7 m1 Z7) fun w2 b2 m2 => ?_
 refine rN (sR ?_)
 refine Qd (Gs (c := (cl i64 ([1, 0, 0, 0, 0, 0, 0, 0, 0, 0, 0, 0, 0, 0, 0, 0]))) Z7 X8 Ll (Jq (i := 0) (v := (i64 1)) (cs := #[(i64 1)]) rfl rfl Vq) Xo) <| Y9 (Q7 m2 Z7) fun w3 b3 m3 => Ye m3 (Qg (f := i64) (l := [1, 0, 0, 0, 0, 0, 0, 0, 0, 0, 0, 0, 0, 0, 0, 0]) Zv Z7 rfl rfl sD m3.h0 sZ rfl) fun w4 m4 => ?_
 refine rN (Qa (sR ?_))
 refine Zx (i64 254) ?_
 refine rN (Qh ?_)
 refine Y1 (fun g wv => ∃ (j : Nat), (j ≤ 255) ∧ g 0 = (agg i64 x) ∧ g 1 = (ptr b1 0) ∧ g 2 = (ptr b2 0) ∧ g 3 = (ptr b3 0) ∧ g 4 = (i64 (254 - (j : Int))) ∧ Mem wv (Qr w0) [(b3, .cells (cl i64 (Vt x j)) 109 (0, 0)), (b2, .cells (cl i64 (List.replicate 16 0)) 109 (0, 0)), (b1, .cells (cl i64 x) 109 (0, 0))]) (fun g wv => (RowKit.intOf (g 4) + 1).toNat) ?_ ?_
 ·exact ⟨0, oM, rfl, rfl, rfl, rfl, rfl, (by rw [Qnw]; exact m4)⟩
 rintro fr5 w6 ⟨j, hj, s0, s1, s2, s3, s4, m6⟩
 have z4 := s4
 have hgj := P8 hx j
 have hgl := hgj.len
 have hgk := Zh hgj hgj
 have hgl2 := hgk.len
 have hgl3 := (Zh hgk hx).len
 refine Qa (sR ?_)
 refine Yb s4 <| Qd (F5 (b := 0) rfl rfl) <| rN ?_
 refine Zy rfl (fun hc7 => ?_) (fun hc7 => ?_)
 ·
  have hc7p := of_decide_eq_true hc7
  refine Qn (Qc (Qa (Qh (sR ?_))))
  refine Qd (Qo X8 rfl Z7 s3 m6.h0 sZ) <| Qd (Qo X8 rfl Z7 s3 m6.h0 sZ) <| U3 m6 (Qar (Xm rfl rfl) (V3 _ _ _ hgj hgj)) fun w8 m8 => Ye m8 (Qg (f := i64) (l := Xh (Vt x j) (Vt x j)) Zv Z7 s3 rfl sD m8.h0 sZ rfl) fun w10 m10 => ?_
  refine rN (sR ?_)
  refine Yb s4 <| Qd (We (b := 2) rfl rfl) <| Zm (bl ((254 - (j : Int)) != 2)) ?_
  rcases Bool.eq_false_or_eq_true ((254 - (j : Int)) != 2) with hb11 | hb11
  ·
   have hb11p := bne_iff_ne.1 hb11
   refine Zj (s := 15) rfl rfl hb11 rfl (Yh s4) <| Zj (s := 15) rfl rfl hb11 rfl (We (b := 4) rfl rfl) <| Qd (Jg rfl hb11 rfl) <| rN ?_
   refine Zy rfl (fun hc12 => ?_) (fun hc12 => ?_)
   ·
    have hc12p := bne_iff_ne.1 hc12
    refine Qb <| Qd (Qo X8 rfl Z7 s3 m10.h0 sZ) <| Qd (Qo X8 rfl Z7 s1 m10.h2 sZ) <| U3 m10 (Qar (Xm rfl rfl) (V3 _ _ _ hgk hx)) fun w13 m13 => Ye m13 (Qg (f := i64) (l := Xh (Xh (Vt x j) (Vt x j)) x) Zv Z7 s3 rfl sD m13.h0 sZ rfl) fun w15 m15 => ?_
    refine Zp (Qe (Qb ?_))
    refine Yb s4 <| Qd (Yf (b := 1) rfl rfl oM oM) <| Zx (i64 ((254 - (j : Int)) - 1)) <| rN ?_
    have hin : Xh (Xh (Vt x j) (Vt x j)) x = Vt x (j + 1) := Qo6 (by clear hxl; omega)
    exact ⟨⟨j + 1, oM, s0, s1, s2, s3, (show i64 (254 - (j : Int) - 1) = i64 (254 - ((j + 1 : Nat) : Int)) from congrArg i64 oM), (by rw [← hin]; exact m15)⟩, (by show (RowKit.intOf (i64 (254 - (j : Int) - 1)) + 1).toNat < (RowKit.intOf _ + 1).toNat; rw [z4]; simp only [RowKit.intOf, i64]; omega)⟩
   ·
    have hc12p := X3 hc12
    refine Qn (Qe (Qb ?_))
    refine Yb s4 <| Qd (Yf (b := 1) rfl rfl oM oM) <| Zx (i64 ((254 - (j : Int)) - 1)) <| rN ?_
    have hin : Xh (Vt x j) (Vt x j) = Vt x (j + 1) := Qk8 (by clear hxl; omega)
    exact ⟨⟨j + 1, oM, s0, s1, s2, s3, (show i64 (254 - (j : Int) - 1) = i64 (254 - ((j + 1 : Nat) : Int)) from congrArg i64 oM), (by rw [← hin]; exact m10)⟩, (by show (RowKit.intOf (i64 (254 - (j : Int) - 1)) + 1).toNat < (RowKit.intOf _ + 1).toNat; rw [z4]; simp only [RowKit.intOf, i64]; omega)⟩
  ·
   have hb11p := X3 hb11
   refine Yg (s := 15) rfl rfl hb11 rfl <| Yg (s := 15) rfl rfl hb11 rfl <| Qd (Yz rfl hb11 rfl) <| rN <| Ja rfl Jb ?_
   refine Qn (Qe (Qb ?_))
   refine Yb s4 <| Qd (Yf (b := 1) rfl rfl oM oM) <| Zx (i64 ((254 - (j : Int)) - 1)) <| rN ?_
   have hin : Xh (Vt x j) (Vt x j) = Vt x (j + 1) := Qk8 (by clear hxl; omega)
   exact ⟨⟨j + 1, oM, s0, s1, s2, s3, (show i64 (254 - (j : Int) - 1) = i64 (254 - ((j + 1 : Nat) : Int)) from congrArg i64 oM), (by rw [← hin]; exact m10)⟩, (by show (RowKit.intOf (i64 (254 - (j : Int) - 1)) + 1).toNat < (RowKit.intOf _ + 1).toNat; rw [z4]; simp only [RowKit.intOf, i64]; omega)⟩
 ·
  have hc7p := of_decide_eq_false hc7
  obtain rfl : j = 255 := by omega
  refine X4 ?_
  refine Qj (Qj (Xi ?_))
  refine sR <| Qd (Qo X8 rfl Z7 s3 m6.h0 sZ) <| Vu m6 (Qg (f := i64) (l := Vt x 255) Zv Z7 s2 rfl sD m6.h1 sZ rfl) fun w16 m16 => ?_
  refine rN (Zz ?_)
  refine Qp [(agg i64 (Vt x 255))] ⟨⟨_, s2, Xn X8 rfl Z7 m16.h1 sZ⟩, trivial⟩ ?_
  exact ⟨rfl, m16.toExt⟩
set_option maxHeartbeats 1000000 in
theorem c_rread (u : Z8) (w0 : World)  (hu : u.length = 32) : X0 prog 63 #[(agg u8 u)] w0 (fun r w1 => r = (agg i64 (Qx u)) ∧ Ext w0 w1) := by
 refine Qy (args := [(agg u8 u)]) func63 rfl ntmps63 results63 rfl ?_
 have m0 : Mem w0 (Qr w0) [] := Mem.of_world w0
 refine sR <| Y9 (Xc (f := u8) (l := u) m0 rfl) fun w1 b1 m1 => Y9 (Q7 m1 Z7) fun w2 b2 m2 => ?_
 refine rN (sR ?_)
 refine Qd (Kw (ps := []) (c := (cl i64 (List.replicate 16 0))) Z7 X8 Ll Ya rfl) <| Y9 (Q7 m2 Z7) fun w3 b3 m3 => Ye m3 (Qg (f := i64) (l := List.replicate 16 0) Zv Z7 rfl rfl sD m3.h0 sZ rfl) fun w4 m4 => ?_
 refine rN (Qa (sR ?_))
 refine Zx (i64 0) ?_
 refine rN (Qh ?_)
 refine Y1 (fun g wv => ∃ (i : Nat), (i ≤ 16) ∧ g 0 = (agg u8 u) ∧ g 1 = (ptr b1 0) ∧ g 2 = (ptr b2 0) ∧ g 3 = (ptr b3 0) ∧ g 4 = (i64 (i : Int)) ∧ Mem wv (Qr w0) [(b3, .cells (cl i64 (Y0 (fun q => ((u.getD (2 * q) 0).toNat : Int) + 256 * ((u.getD (2 * q + 1) 0).toNat : Int)) 0 16 i)) 109 (0, 0)), (b2, .cells (cl i64 (List.replicate 16 0)) 109 (0, 0)), (b1, .cells (cl u8 u) 23 (0, 0))]) (fun g wv => (16 - RowKit.intOf (g 4)).toNat) ?_ ?_
 ·exact ⟨0, oM, rfl, rfl, rfl, rfl, rfl, (by rw [En]; exact m4)⟩
 rintro fr5 w6 ⟨i, hi, s0, s1, s2, s3, s4, m6⟩
 have z4 := s4
 have hfl : (Y0 (fun q => ((u.getD (2 * q) 0).toNat : Int) + 256 * ((u.getD (2 * q + 1) 0).toNat : Int)) (0 : Int) 16 i).length = 16 := J9 _ _ _ _ hi
 refine Qa (sR ?_)
 refine Yb s4 <| Qd (Xa (b := 16) rfl rfl) <| rN ?_
 refine Zy rfl (fun hc7 => ?_) (fun hc7 => ?_)
 ·
  have hc7p := of_decide_eq_true hc7
  have hu1 := (u.getD (2 * i) 0).isLt
  have hu2 := (u.getD (2 * i + 1) 0).isLt
  refine Qn (Qc (Qa (Qh ?_)))
  refine Xg (dl 14) 14 Xo <| Uh rfl s4 <| Uh rfl s4 <| X6 rfl (Jy.cast (congrArg i64 (show 2 * (i : Int) = ((2 * i : Nat) : Int) by omega)) (Kv (a := 2) rfl rfl oM oM)) <| X6 rfl (Zl (r := (2 * i)) oM Xl Yw s1 rfl oM sD) <| Ym (v := (u8 (u.getD (2 * i) 0))) rfl (fun _ e' => Qi Vs rfl rfl (m6.ext e').h2 (Qu _ _ 0 sD)) <| X6 rfl (Gn ⟨_, Vs⟩ uT2 rfl) <| Uh rfl s4 <| X6 rfl (Kv (a := 2) rfl rfl oM oM) <| X6 rfl (Jy.cast (congrArg i64 (show (2 * (i : Int)) + 1 = ((2 * i + 1 : Nat) : Int) by omega)) (Zf (b := 1) rfl rfl oM oM)) <| X6 rfl (Zl (r := (2 * i + 1)) oM Xl Yw s1 rfl oM sD) <| Ym (v := (u8 (u.getD (2 * i + 1) 0))) rfl (fun _ e' => Qi Vs rfl rfl (m6.ext e').h2 (Qu _ _ 0 sD)) ?_
  refine X6 rfl (Gn ⟨_, Vs⟩ uT2 rfl) <| X6 rfl (Kv (a := 256) rfl rfl oM oM) <| X6 rfl (Zf rfl rfl oM oM) <| Gf m6 fun w8 m8 => Qd (Zl (r := i) oM X8 Ll s3 rfl oM sD) <| Ye m8 (Xx (f := i64) Zv Ll rfl rfl m8.h0 sD (.inl (Nat.zero_le _))) fun w9 m9 => ?_
  refine Zp (Qe (Qb ?_))
  refine Yb s4 <| Qd (Zf (b := 1) rfl rfl oM oM) <| Zx (i64 ((i : Int) + 1)) <| rN ?_
  exact ⟨⟨i + 1, oM, s0, s1, s2, s3, rfl, (by rw [← E5 (fun q => ((u.getD (2 * q) 0).toNat : Int) + 256 * ((u.getD (2 * q + 1) 0).toNat : Int)) (0 : Int) (n := 16) (k := i) oM _ rfl]; exact m9)⟩, Ue rfl z4 oM oM⟩
 ·
  have hc7p := of_decide_eq_false hc7
  obtain rfl : i = 16 := by omega
  have h15 := Qqj u
  refine X4 ?_
  refine Qj (Qj (Xi ?_))
  refine sR <| Qd (Xu 15 15 X8 Ll s3) <| Qd (Qi uT2 rfl rfl m6.h0 (Qu _ _ 0 sD)) <| Qd (W9 (b := 32768) rfl rfl oM oM oM) <| Qd (Xu 15 15 X8 Ll s3) <| Ye m6 (Xx (f := i64) Zv Ll rfl rfl m6.h0 sD (.inl (Nat.zero_le _))) fun w10 m10 => ?_
  refine rN (Qa ?_)
  have hsl : ((Y0 (fun q => ((u.getD (2 * q) 0).toNat : Int) + 256 * ((u.getD (2 * q + 1) 0).toNat : Int)) 0 16 16).set 15 (((Y0 (fun q => ((u.getD (2 * q) 0).toNat : Int) + 256 * ((u.getD (2 * q + 1) 0).toNat : Int)) 0 16 16).getD 15 0) % 32768)).length = 16 := by rw [List.length_set]; exact hfl
  refine Qb <| Qd (Qo X8 rfl Z7 s3 m10.h0 sZ) <| Vu m10 (Qg (f := i64) (l := (Y0 (fun q => ((u.getD (2 * q) 0).toNat : Int) + 256 * ((u.getD (2 * q + 1) 0).toNat : Int)) 0 16 16).set 15 (((Y0 (fun q => ((u.getD (2 * q) 0).toNat : Int) + 256 * ((u.getD (2 * q + 1) 0).toNat : Int)) 0 16 16).getD 15 0) % 32768)) Zv Z7 s2 rfl sD m10.h1 sZ rfl) fun w11 m11 => ?_
  refine rN (Zz ?_)
  refine Qp [(agg i64 ((Y0 (fun q => ((u.getD (2 * q) 0).toNat : Int) + 256 * ((u.getD (2 * q + 1) 0).toNat : Int)) 0 16 16).set 15 (((Y0 (fun q => ((u.getD (2 * q) 0).toNat : Int) + 256 * ((u.getD (2 * q + 1) 0).toNat : Int)) 0 16 16).getD 15 0) % 32768)))] ⟨⟨_, s2, Xn X8 rfl Z7 m11.h1 sZ⟩, trivial⟩ ?_
  exact ⟨by unfold Qx; rfl, m11.toExt⟩
set_option maxHeartbeats 2000000 in
theorem c_rwrite (a : List Int) (w0 : World)  (ha : GoodR a) : X0 prog 67 #[(agg i64 a)] w0 (fun r w1 => r = (agg u8 (Qct a)) ∧ Ext w0 w1) := by
 refine Qy (args := [(agg i64 a)]) func67 rfl ntmps67 results67 rfl ?_
 have m0 : Mem w0 (Qr w0) [] := Mem.of_world w0
 have hal := ha.len; have hg1 := Hw ha; have hg2 := Hw hg1; have hg3 := Hw hg2; have hgl := hg3.len
 refine sR <| Y9 (Xc (f := i64) (l := a) m0 rfl) fun w1 b1 m1 => Y9 (Q7 m1 Zg) fun w2 b2 m2 => ?_
 refine rN (sR ?_)
 refine Qd (Qo X8 rfl Z7 rfl m2.h1 sZ) <| U3 m2 (oc90 (Jv rfl) (Qa1 _ _ hal ha.wide)) fun w3 m3 => U3 m3 (oc90 (Jv rfl) (Qa1 _ _ hg1.len hg1.wide)) fun w5 m5 => U3 m5 (oc90 (Jv rfl) (Qa1 _ _ hg2.len hg2.wide)) fun w7 m7 => Vu m7 (Qg (f := i64) (l := Qw (Qw (Qw a))) Zv Z7 rfl rfl sD m7.h1 sZ rfl) fun w9 m9 => ?_
 refine rN (Qa (sR ?_))
 refine Zx (i64 0) ?_
 refine rN (Qh ?_)
 refine Y1 (fun g wv => ∃ (n : Nat), (n ≤ 2) ∧ g 0 = (agg i64 a) ∧ g 1 = (ptr b1 0) ∧ g 2 = (ptr b2 0) ∧ g 3 = (i64 (n : Int)) ∧ Mem wv (Qr w0) [(b1, .cells (cl i64 (Vj (Qw (Qw (Qw a))) n)) 109 (0, 0)), (b2, .cells (cl u8 (List.replicate 32 0)) 23 (0, 0))]) (fun g wv => (2 - RowKit.intOf (g 3)).toNat) ?_ ?_
 have m10 := (Mem.pick [_] [_] _ m9)
 ·exact ⟨0, oM, rfl, rfl, rfl, rfl, (by rw [Qrs]; exact m10)⟩
 rintro fr11 w12 ⟨n, hn, s0, s1, s2, s3, m12⟩
 have z3 := s3
 have hgn := Qla hg3 n
 have hgnl := hgn.len
 refine Qa (sR ?_)
 refine Yb s3 <| Qd (Xa (b := 2) rfl rfl) <| rN ?_
 refine Zy rfl (fun hc13 => ?_) (fun hc13 => ?_)
 ·
  have hc13p := of_decide_eq_true hc13
  refine Qn (Qc (Qa (Qh (sR ?_))))
  refine Qd (Kw (ps := []) (c := (cl i64 (List.replicate 16 0))) Z7 X8 Ll Ya rfl) <| Y9 (Q7 m12 Z7) fun w14 b4 m14 => Ye m14 (Qg (f := i64) (l := List.replicate 16 0) Zv Z7 rfl rfl sD m14.h0 sZ rfl) fun w15 m15 => ?_
  refine rN (Qa ?_)
  have ha0 := hgn.bd 0 oM
  refine Qb <| Qd (Xu 0 0 X8 Ll s1) <| Qd (Qi uT2 rfl rfl m15.h1 (Qu _ _ 0 sD)) <| Qd (Yf (b := 65517) rfl rfl oM oM) <| Qd (Xu 0 0 X8 Ll rfl) <| Ye m15 (Zk (f := i64) (l' := [((Vj (Qw (Qw (Qw a))) n).getD 0 0) - 65517, 0, 0, 0, 0, 0, 0, 0, 0, 0, 0, 0, 0, 0, 0, 0]) rfl Zv Ll rfl rfl m15.h0 Ya (.inl (Nat.zero_le _))) fun w16 m16 => ?_
  refine rN (Qa (sR ?_))
  refine Zx (i64 1) ?_
  refine rN (Qh ?_)
  refine Y1 (fun g wv => ∃ (j : Nat), (j ≤ 15) ∧ g 0 = (agg i64 a) ∧ g 1 = (ptr b1 0) ∧ g 2 = (ptr b2 0) ∧ g 3 = (i64 (n : Int)) ∧ g 4 = (ptr b4 0) ∧ g 5 = (i64 ((j + 1 : Nat) : Int)) ∧ g 15 = (bl (decide ((n : Int) < 2))) ∧ Mem wv (Qr w0) [(b4, .cells (cl i64 (mG (Vj (Qw (Qw (Qw a))) n) j)) 109 (0, 0)), (b1, .cells (cl i64 (Vj (Qw (Qw (Qw a))) n)) 109 (0, 0)), (b2, .cells (cl u8 (List.replicate 32 0)) 23 (0, 0))]) (fun g wv => (16 - RowKit.intOf (g 5)).toNat) ?_ ?_
  ·exact ⟨0, oM, s0, s1, s2, s3, rfl, rfl, rfl, (by rw [mG_zero]; exact m16)⟩
  rintro fr17 w18 ⟨j, hj, s0, s1, s2, s3, s4, s5, s15, m18⟩
  have z5 := s5
  have hml := Bo (Vj (Qw (Qw (Qw a))) n) j
  refine Qa (sR ?_)
  refine Yb s5 <| Qd (Xa (b := 16) rfl rfl) <| rN ?_
  refine Zy rfl (fun hc19 => ?_) (fun hc19 => ?_)
  ·
   have hc19p := of_decide_eq_true hc19
   have hmi := Qo1 hgn j oM
   have hab := hgn.bd (j + 1) oM
   refine Qn (Qc (Qa (Qh (sR ?_))))
   refine Zx (i64 65535) ?_
   refine rN (Qa (sR ?_))
   refine Yb s5 <| Qd (Gq (b := 15) rfl rfl) <| rN ?_
   refine Zy rfl (fun hc20 => ?_) (fun hc20 => ?_)
   ·
    have hc20p := eq_of_beq hc20
    refine Qb <| Zx (i64 32767) ?_
    refine rN (sR ?_)
    refine Yb s5 <| Qd (Jy.cast (congrArg i64 (show ((j + 1 : Nat) : Int) - 1 = ((j : Nat) : Int) by omega)) (Yf (b := 1) rfl rfl oM oM)) <| Qd (Zl (r := j) oM X8 Ll s4 rfl oM sD) <| Qd (Qi uT2 rfl rfl m18.h0 (Qu _ _ 0 sD)) <| Qd (Aq (p := 65536) (b := 16) rfl rfl rfl Jb Jb) <| Qd (Jy.cast (congrArg i64 (show (((BitVec.ofInt 64 (((mG (Vj (Qw (Qw (Qw a))) n) j).getD j 0) / 65536)).toNat &&& (1 : Int).toNat : Nat) : Int) = (((mG (Vj (Qw (Qw (Qw a))) n) j).getD j 0) / 65536) % 2 by have hand := Qoi (((mG (Vj (Qw (Qw (Qw a))) n) j).getD j 0) / 65536); omega)) (Gg (b := 1) rfl rfl oM oM)) <| Zx (i64 ((((mG (Vj (Qw (Qw (Qw a))) n) j).getD j 0) / 65536) % 2)) ?_
    refine rN (sR ?_)
    refine Yb s5 <| Yb s5 <| Qd (Zl (r := (j + 1)) oM X8 Ll s1 rfl oM sD) <| Qd (v := (i64 ((Vj (Qw (Qw (Qw a))) n).getD (j + 1) 0))) (Qi uT2 rfl rfl m18.h1 (Qu _ _ 0 sD)) <| Zm (i64 32767) <| Qd (Yf (b := 32767) rfl rfl oM oM) <| Zm (i64 ((((mG (Vj (Qw (Qw (Qw a))) n) j).getD j 0) / 65536) % 2)) <| Qd (Yf rfl rfl oM oM) <| Qd (Zl (r := (j + 1)) oM X8 Ll s4 rfl oM sD) <| Ye m18 (Xx (f := i64) Zv Ll rfl rfl m18.h0 sD (.inl (Nat.zero_le _))) fun w21 m21 => rN ?_
    have hq : ((mG (Vj (Qw (Qw (Qw a))) n) j).set (j + 1) ((((Vj (Qw (Qw (Qw a))) n).getD (j + 1) 0) - 32767) - ((((mG (Vj (Qw (Qw (Qw a))) n) j).getD j 0) / 65536) % 2))).getD j 0 = (mG (Vj (Qw (Qw (Qw a))) n) j).getD j 0 := Kq oM
    refine Qb <| Yb s5 <| Qd (Jy.cast (congrArg i64 (show ((j + 1 : Nat) : Int) - 1 = ((j : Nat) : Int) by omega)) (Yf (b := 1) rfl rfl oM oM)) <| Yb s5 <| Qd (Jy.cast (congrArg i64 (show ((j + 1 : Nat) : Int) - 1 = ((j : Nat) : Int) by omega)) (Yf (b := 1) rfl rfl oM oM)) <| Qd (Zl (r := j) oM X8 Ll s4 rfl oM sD) <| Qd (Qi uT2 rfl rfl m21.h0 (Qu _ _ 0 sD)) <| Qd (Jy.cast (congrArg i64 (show (((BitVec.ofInt 64 (((mG (Vj (Qw (Qw (Qw a))) n) j).set (j + 1) ((((Vj (Qw (Qw (Qw a))) n).getD (j + 1) 0) - 32767) - ((((mG (Vj (Qw (Qw (Qw a))) n) j).getD j 0) / 65536) % 2))).getD j 0)).toNat &&& (65535 : Int).toNat : Nat) : Int) = (((mG (Vj (Qw (Qw (Qw a))) n) j).set (j + 1) ((((Vj (Qw (Qw (Qw a))) n).getD (j + 1) 0) - 32767) - ((((mG (Vj (Qw (Qw (Qw a))) n) j).getD j 0) / 65536) % 2))).getD j 0) % 65536 by have hand := Qgf (((mG (Vj (Qw (Qw (Qw a))) n) j).set (j + 1) ((((Vj (Qw (Qw (Qw a))) n).getD (j + 1) 0) - 32767) - ((((mG (Vj (Qw (Qw (Qw a))) n) j).getD j 0) / 65536) % 2))).getD j 0); omega)) (Gg (b := 65535) rfl rfl oM oM)) <| Qd (Zl (r := j) oM X8 Ll s4 rfl oM sD) <| Ye m21 (Xx (f := i64) Zv Ll rfl rfl m21.h0 sD (.inl (Nat.zero_le _))) fun w22 m22 => ?_
    refine Zp (Qe (Qb ?_))
    refine Yb s5 <| Qd (Zf (b := 1) rfl rfl oM oM) <| Zx (i64 (((j + 1 : Nat) : Int) + 1)) <| rN ?_
    have hcn : ((mG (Vj (Qw (Qw (Qw a))) n) j).set (j + 1) ((((Vj (Qw (Qw (Qw a))) n).getD (j + 1) 0) - 32767) - ((((mG (Vj (Qw (Qw (Qw a))) n) j).getD j 0) / 65536) % 2))).set j ((((mG (Vj (Qw (Qw (Qw a))) n) j).set (j + 1) ((((Vj (Qw (Qw (Qw a))) n).getD (j + 1) 0) - 32767) - ((((mG (Vj (Qw (Qw (Qw a))) n) j).getD j 0) / 65536) % 2))).getD j 0) % 65536) = mG (Vj (Qw (Qw (Qw a))) n) (j + 1) := by show _ = Qb1 _ _ _; unfold Qb1; rw [if_pos oM]
    exact ⟨⟨j + 1, oM, s0, s1, s2, s3, s4, rfl, s15, (by rw [← hcn]; exact m22)⟩, Ue rfl z5 oM oM⟩
   ·
    have hc20p := ne_of_beq_false hc20
    refine Qn (Qc (sR ?_))
    refine Yb s5 <| Qd (Jy.cast (congrArg i64 (show ((j + 1 : Nat) : Int) - 1 = ((j : Nat) : Int) by omega)) (Yf (b := 1) rfl rfl oM oM)) <| Qd (Zl (r := j) oM X8 Ll s4 rfl oM sD) <| Qd (Qi uT2 rfl rfl m18.h0 (Qu _ _ 0 sD)) <| Qd (Aq (p := 65536) (b := 16) rfl rfl rfl Jb Jb) <| Qd (Jy.cast (congrArg i64 (show (((BitVec.ofInt 64 (((mG (Vj (Qw (Qw (Qw a))) n) j).getD j 0) / 65536)).toNat &&& (1 : Int).toNat : Nat) : Int) = (((mG (Vj (Qw (Qw (Qw a))) n) j).getD j 0) / 65536) % 2 by have hand := Qoi (((mG (Vj (Qw (Qw (Qw a))) n) j).getD j 0) / 65536); omega)) (Gg (b := 1) rfl rfl oM oM)) <| Zx (i64 ((((mG (Vj (Qw (Qw (Qw a))) n) j).getD j 0) / 65536) % 2)) ?_
    refine rN (sR ?_)
    refine Yb s5 <| Yb s5 <| Qd (Zl (r := (j + 1)) oM X8 Ll s1 rfl oM sD) <| Qd (v := (i64 ((Vj (Qw (Qw (Qw a))) n).getD (j + 1) 0))) (Qi uT2 rfl rfl m18.h1 (Qu _ _ 0 sD)) <| Zm (i64 65535) <| Qd (Yf (b := 65535) rfl rfl oM oM) <| Zm (i64 ((((mG (Vj (Qw (Qw (Qw a))) n) j).getD j 0) / 65536) % 2)) <| Qd (Yf rfl rfl oM oM) <| Qd (Zl (r := (j + 1)) oM X8 Ll s4 rfl oM sD) <| Ye m18 (Xx (f := i64) Zv Ll rfl rfl m18.h0 sD (.inl (Nat.zero_le _))) fun w23 m23 => rN ?_
    have hq : ((mG (Vj (Qw (Qw (Qw a))) n) j).set (j + 1) ((((Vj (Qw (Qw (Qw a))) n).getD (j + 1) 0) - 65535) - ((((mG (Vj (Qw (Qw (Qw a))) n) j).getD j 0) / 65536) % 2))).getD j 0 = (mG (Vj (Qw (Qw (Qw a))) n) j).getD j 0 := Kq oM
    refine Qb <| Yb s5 <| Qd (Jy.cast (congrArg i64 (show ((j + 1 : Nat) : Int) - 1 = ((j : Nat) : Int) by omega)) (Yf (b := 1) rfl rfl oM oM)) <| Yb s5 <| Qd (Jy.cast (congrArg i64 (show ((j + 1 : Nat) : Int) - 1 = ((j : Nat) : Int) by omega)) (Yf (b := 1) rfl rfl oM oM)) <| Qd (Zl (r := j) oM X8 Ll s4 rfl oM sD) <| Qd (Qi uT2 rfl rfl m23.h0 (Qu _ _ 0 sD)) <| Qd (Jy.cast (congrArg i64 (show (((BitVec.ofInt 64 (((mG (Vj (Qw (Qw (Qw a))) n) j).set (j + 1) ((((Vj (Qw (Qw (Qw a))) n).getD (j + 1) 0) - 65535) - ((((mG (Vj (Qw (Qw (Qw a))) n) j).getD j 0) / 65536) % 2))).getD j 0)).toNat &&& (65535 : Int).toNat : Nat) : Int) = (((mG (Vj (Qw (Qw (Qw a))) n) j).set (j + 1) ((((Vj (Qw (Qw (Qw a))) n).getD (j + 1) 0) - 65535) - ((((mG (Vj (Qw (Qw (Qw a))) n) j).getD j 0) / 65536) % 2))).getD j 0) % 65536 by have hand := Qgf (((mG (Vj (Qw (Qw (Qw a))) n) j).set (j + 1) ((((Vj (Qw (Qw (Qw a))) n).getD (j + 1) 0) - 65535) - ((((mG (Vj (Qw (Qw (Qw a))) n) j).getD j 0) / 65536) % 2))).getD j 0); omega)) (Gg (b := 65535) rfl rfl oM oM)) <| Qd (Zl (r := j) oM X8 Ll s4 rfl oM sD) <| Ye m23 (Xx (f := i64) Zv Ll rfl rfl m23.h0 sD (.inl (Nat.zero_le _))) fun w24 m24 => ?_
    refine Zp (Qe (Qb ?_))
    refine Yb s5 <| Qd (Zf (b := 1) rfl rfl oM oM) <| Zx (i64 (((j + 1 : Nat) : Int) + 1)) <| rN ?_
    have hcn : ((mG (Vj (Qw (Qw (Qw a))) n) j).set (j + 1) ((((Vj (Qw (Qw (Qw a))) n).getD (j + 1) 0) - 65535) - ((((mG (Vj (Qw (Qw (Qw a))) n) j).getD j 0) / 65536) % 2))).set j ((((mG (Vj (Qw (Qw (Qw a))) n) j).set (j + 1) ((((Vj (Qw (Qw (Qw a))) n).getD (j + 1) 0) - 65535) - ((((mG (Vj (Qw (Qw (Qw a))) n) j).getD j 0) / 65536) % 2))).getD j 0) % 65536) = mG (Vj (Qw (Qw (Qw a))) n) (j + 1) := by show _ = Qb1 _ _ _; unfold Qb1; rw [if_neg oM]
    exact ⟨⟨j + 1, oM, s0, s1, s2, s3, s4, rfl, s15, (by rw [← hcn]; exact m24)⟩, Ue rfl z5 oM oM⟩
  ·
   have hc19p := of_decide_eq_false hc19
   obtain rfl : j = 15 := by omega
   have hmi := Qo1 hgn 15 oM
   have hml := Bo (Vj (Qw (Qw (Qw a))) n) 15
   refine X4 ?_
   refine Qj (Qj (Xi ?_))
   refine sR <| Qd (Xu 15 15 X8 Ll s4) <| Qd (Qi uT2 rfl rfl m18.h0 (Qu _ _ 0 sD)) <| Qd (F5 (b := 0) rfl rfl) <| rN ?_
   refine Zy rfl (fun hc25 => ?_) (fun hc25 => ?_)
   ·
    have hc25p := of_decide_eq_true hc25
    refine Qb <| Qd (Qo X8 rfl Z7 s4 m18.h0 sZ) <| Vu m18 (Qg (f := i64) (l := mG (Vj (Qw (Qw (Qw a))) n) 15) Zv Z7 s1 rfl sD m18.h1 sZ rfl) fun w26 m26 => ?_
    refine Zp (Qe (Qb ?_))
    refine Yb s3 <| Qd (Zf (b := 1) rfl rfl oM oM) <| Zx (i64 ((n : Int) + 1)) <| rN ?_
    have hcr : mG (Vj (Qw (Qw (Qw a))) n) 15 = Vj (Qw (Qw (Qw a))) (n + 1) := by show _ = Qh0 _; unfold Qh0; rw [if_pos oM]
    have m27 := Mem.drop [_] _ m26
    exact ⟨⟨n + 1, oM, s0, s1, s2, rfl, (by rw [← hcr]; exact m27)⟩, Ue rfl z3 oM oM⟩
   ·
    have hc25p := of_decide_eq_false hc25
    refine Qn (Qe (Qb ?_))
    refine Yb s3 <| Qd (Zf (b := 1) rfl rfl oM oM) <| Zx (i64 ((n : Int) + 1)) <| rN ?_
    have hcr : Vj (Qw (Qw (Qw a))) n = Vj (Qw (Qw (Qw a))) (n + 1) := by show _ = Qh0 _; unfold Qh0; rw [if_neg oM]
    have m28 := Mem.drop [_] _ m18
    exact ⟨⟨n + 1, oM, s0, s1, s2, rfl, (by rw [← hcr]; exact m28)⟩, Ue rfl z3 oM oM⟩
 ·
  have hc13p := of_decide_eq_false hc13
  obtain rfl : n = 2 := by omega
  refine X4 ?_
  refine Qj (Qj (Xi ?_))
  refine sR <| Qd (Kw (ps := []) (c := (cl u8 (List.replicate 32 0))) Zg Xl Yw Ya rfl) <| Y9 (Q7 m12 Zg) fun w29 b8 m29 => Ye m29 (Qg (f := u8) (l := List.replicate 32 0) Qs Zg rfl rfl sD m29.h0 sZ rfl) fun w30 m30 => ?_
  refine rN (Qa (sR ?_))
  refine Zx (i64 0) ?_
  refine rN (Qh ?_)
  refine Y1 (fun g wv => ∃ (i : Nat), (i ≤ 16) ∧ g 0 = (agg i64 a) ∧ g 1 = (ptr b1 0) ∧ g 2 = (ptr b2 0) ∧ g 3 = (i64 (2 : Int)) ∧ g 8 = (ptr b8 0) ∧ g 9 = (i64 (i : Int)) ∧ g 15 = (bl (decide ((2 : Int) < 2))) ∧ Mem wv (Qr w0) [(b8, .cells (cl u8 (Qhy (Vj (Qw (Qw (Qw a))) 2) i)) 23 (0, 0)), (b1, .cells (cl i64 (Vj (Qw (Qw (Qw a))) 2)) 109 (0, 0)), (b2, .cells (cl u8 (List.replicate 32 0)) 23 (0, 0))]) (fun g wv => (16 - RowKit.intOf (g 9)).toNat) ?_ ?_
  ·exact ⟨0, oM, s0, s1, s2, s3, rfl, rfl, rfl, (by rw [Qrf]; exact m30)⟩
  rintro fr31 w32 ⟨i, hi, s0, s1, s2, s3, s8, s9, s15, m32⟩
  have z9 := s9
  have hwl := Nc (Vj (Qw (Qw (Qw a))) 2) i
  refine Qa (sR ?_)
  refine Yb s9 <| Qd (Xa (b := 16) rfl rfl) <| rN ?_
  refine Zy rfl (fun hc33 => ?_) (fun hc33 => ?_)
  ·
   have hc33p := of_decide_eq_true hc33
   have hab := hgn.bd i oM
   refine Qn (Qc (Qa (Qh (sR ?_))))
   refine Yb s9 <| Qd (Jy.cast (congrArg i64 (show 2 * (i : Int) = ((2 * i : Nat) : Int) by omega)) (Kv (a := 2) rfl rfl oM oM)) <| Yb s9 <| Qd (Zl (r := i) oM X8 Ll s1 rfl oM sD) <| Qd (Qi uT2 rfl rfl m32.h1 (Qu _ _ 0 sD)) <| Qd (F7 ⟨_, uT2⟩ Vs rfl) <| Qd (Zl (r := (2 * i)) oM Xl Yw s8 rfl oM sD) <| Ye m32 (Xx (f := u8) (a := BitVec.ofInt 8 ((Vj (Qw (Qw (Qw a))) 2).getD i 0)) Qs Yw rfl rfl m32.h0 sD (.inl (Nat.zero_le _))) fun w34 m34 => ?_
   refine rN (Qb ?_)
   refine Yb s9 <| Qd (Kv (a := 2) rfl rfl oM oM) <| Qd (Jy.cast (congrArg i64 (show (2 * (i : Int)) + 1 = ((2 * i + 1 : Nat) : Int) by omega)) (Zf (b := 1) rfl rfl oM oM)) <| Yb s9 <| Qd (Zl (r := i) oM X8 Ll s1 rfl oM sD) <| Qd (Qi uT2 rfl rfl m34.h1 (Qu _ _ 0 sD)) <| Qd (Aq (p := 256) (b := 8) rfl rfl rfl Jb Jb) <| Qd (F7 ⟨_, uT2⟩ Vs rfl) <| Qd (Zl (r := (2 * i + 1)) oM Xl Yw s8 rfl oM sD) <| Ye m34 (Xx (f := u8) (a := BitVec.ofInt 8 (((Vj (Qw (Qw (Qw a))) 2).getD i 0) / 256)) Qs Yw rfl rfl m34.h0 sD (.inl (Nat.zero_le _))) fun w35 m35 => ?_
   refine Zp (Qe (Qb ?_))
   refine Yb s9 <| Qd (Zf (b := 1) rfl rfl oM oM) <| Zx (i64 ((i : Int) + 1)) <| rN ?_
   exact ⟨⟨i + 1, oM, s0, s1, s2, s3, s8, rfl, s15, (by rw [Qks]; exact m35)⟩, Ue rfl z9 oM oM⟩
  ·
   have hc33p := of_decide_eq_false hc33
   obtain rfl : i = 16 := by omega
   have hwl := Nc (Vj (Qw (Qw (Qw a))) 2) 16
   refine X4 ?_
   refine Qj (Qj (Xi ?_))
   refine sR <| Qd (Qo Xl rfl Zg s8 m32.h0 sZ) <| Aa m32 (Qg (f := u8) (l := Qhy (Vj (Qw (Qw (Qw a))) 2) 16) Qs Zg s2 rfl sD m32.h2 sZ rfl) fun w36 m36 => ?_
   refine rN (Zz ?_)
   refine Qp [(agg u8 (Qhy (Vj (Qw (Qw (Qw a))) 2) 16))] ⟨⟨_, s2, Xn Xl rfl Zg m36.h2 sZ⟩, trivial⟩ ?_
   exact ⟨by unfold Qct; rfl, m36.toExt⟩
end Go.Proofs.YtkmiemlpfkfiiaaDoor
