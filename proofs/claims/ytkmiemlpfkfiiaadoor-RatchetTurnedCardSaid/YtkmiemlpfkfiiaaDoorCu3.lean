/- Contracts: the document's numbers. Conditions: none beyond those that each theorem states. -/
import Derived.Test.YtkmiemlpfkfiiaaDoorCu2
import Derived.Test.YtkmiemlpfkfiiaaDoorCuN
namespace Go.Proofs.YtkmiemlpfkfiiaaDoor
open BitVec renaming ofInt → aB
open List renaming replicate → aA
open Mem renaming of_world → aY
open Nat renaming zero_le → aJ
open RowKit renaming intOf → aT
open Tryd
set_option linter.unusedVariables false
set_option linter.unusedSimpArgs false
set_option maxHeartbeats 1000000 in
theorem Qau (l : List Int) (w0 : World)  (hl : l.length = 16) (hb : Bd (-1000000000000000) 1000000000000000 l) : Xz prog 90 #[(agg i64 l)] w0 (fun r w1 => r = (agg i64 (Qw l)) ∧ Ext w0 w1) := by
 refine Qz (args := [(agg i64 l)]) func90 rfl ntmps90 results90 rfl ?_
 have m0 : Mem w0 (Qs w0) [] := aY w0
 refine sR <| Y5 (Z5 (f := i64) (l := l) m0 rfl) fun w1 b1 m1 => Y5 (Q7 m1 Z7) fun w2 b2 m2 => ?_
 refine rN (Qa (sR ?_))
 refine Zx (i64 0) ?_
 refine rN (Qh ?_)
 refine Y1 (fun g wv => ∃ (i : Nat), (i ≤ 16) ∧ g 0 = (agg i64 l) ∧ g 1 = (ptr b1 0) ∧ g 2 = (ptr b2 0) ∧ g 3 = (i64 (i : Int)) ∧ Mem wv (Qs w0) [(b2, .cells (cl i64 (aA 16 0)) 109 (0, 0)), (b1, .cells (cl i64 (Ua l i)) 109 (0, 0))]) (fun g wv => (16 - aT (g 3)).toNat) ?_ ?_
 ·exact ⟨0, oM, rfl, rfl, rfl, rfl, m2⟩
 rintro fr3 w4 ⟨i, hi, s0, s1, s2, s3, m4⟩
 have z3 := s3
 have hgl := Qa8 l i
 refine Qa (sR ?_)
 refine X9 s3 <| Qd (Xd (b := 16) rfl rfl) <| rN ?_
 refine Zz rfl (fun hc5 => ?_) (fun hc5 => ?_)
 ·
  have hc5p := of_decide_eq_true hc5
  obtain ⟨hI1, hI2, hI3, hI4⟩ := crGo_inv hl hb i oM
  refine Qo (Qc (Qa (Qh (sR ?_))))
  refine X9 s3 <| Qd (Zj (r := i) oM X6 Hz s1 rfl oM sD) <| Qd (Qi uT2 rfl rfl m4.h1 (Qu _ _ 0 sD)) <| Qd (Ai (p := 65536) (b := 16) rfl rfl rfl Yx Yx) <| Zx (i64 (((Ua l i).getD i 0) / 65536)) ?_
  refine rN (sR ?_)
  refine X9 s3 <| Qd (Zj (r := i) oM X6 Hz s1 rfl oM sD) <| Qd (Qi uT2 rfl rfl m4.h1 (Qu _ _ 0 sD)) <| Zm (i64 (((Ua l i).getD i 0) / 65536)) <| Qd (Qa6 (p := 65536) (b := 16) rfl rfl rfl Yx Yx oM oM) <| Qd (Yg rfl rfl oM oM) <| Qd (Zj (r := i) oM X6 Hz s1 rfl oM sD) <| Vs m4 (Xw (f := i64) Zw Hz rfl rfl m4.h1 sD (.inl (aJ _))) fun w6 m6 => ?_
  refine rN (sR ?_)
  refine X9 s3 <| Qd (Xd (b := 15) rfl rfl) <| rN ?_
  refine Zz rfl (fun hc7 => ?_) (fun hc7 => ?_)
  ·
   have hc7p := of_decide_eq_true hc7
   have hq : ((Ua l i).set i (((Ua l i).getD i 0) - ((((Ua l i).getD i 0) / 65536) * 65536))).getD (i + 1) 0 = l.getD (i + 1) 0 := by rw [Kq oM]; exact hI2 (i + 1) oM
   have hq2 := hb (i + 1) oM
   refine Qb <| X9 s3 <| Qd (Jv.cast (congrArg i64 (show (i : Int) + 1 = ((i + 1 : Nat) : Int) by omega)) (Zg (b := 1) rfl rfl oM oM)) <| Qd (Zj (r := (i + 1)) oM X6 Hz s1 rfl oM sD) <| Qd (v := (i64 (((Ua l i).set i (((Ua l i).getD i 0) - ((((Ua l i).getD i 0) / 65536) * 65536))).getD (i + 1) 0))) (Qi uT2 rfl rfl m6.h1 (Qu _ _ 0 sD)) <| Zm (i64 (((Ua l i).getD i 0) / 65536)) <| Qd (Zg rfl rfl oM oM) <| Qd (Zj (r := (i + 1)) oM X6 Hz s1 rfl oM sD) <| Vs m6 (Xw (f := i64) Zw Hz rfl rfl m6.h1 sD (.inl (aJ _))) fun w8 m8 => ?_
   refine Zp (Qe (Qb ?_))
   refine X9 s3 <| Qd (Zg (b := 1) rfl rfl oM oM) <| Zx (i64 ((i : Int) + 1)) <| rN ?_
   have hcn : ((Ua l i).set i (((Ua l i).getD i 0) - ((((Ua l i).getD i 0) / 65536) * 65536))).set (i + 1) ((((Ua l i).set i (((Ua l i).getD i 0) - ((((Ua l i).getD i 0) / 65536) * 65536))).getD (i + 1) 0) + (((Ua l i).getD i 0) / 65536)) = Ua l (i + 1) := by show _ = P5 _ _; unfold P5; rw [if_pos oM]
   exact ⟨⟨i + 1, oM, s0, s1, s2, rfl, (by rw [← hcn]; exact m8)⟩, Uj rfl z3 oM oM⟩
  ·
   have hc7p := of_decide_eq_false hc7
   have hq : ((Ua l i).set i (((Ua l i).getD i 0) - ((((Ua l i).getD i 0) / 65536) * 65536))).getD 0 0 = (Ua l i).getD 0 0 := Kq oM
   have hq2 := hI1 0 oM
   refine Qb <| Qd (Xr 0 0 X6 Hz s1) <| Qd (Qi uT2 rfl rfl m6.h1 (Qu _ _ 0 sD)) <| Zm (i64 (((Ua l i).getD i 0) / 65536)) <| Qd (Ku (a := 38) rfl rfl oM oM) <| Qd (Zg rfl rfl oM oM) <| Qd (Xr 0 0 X6 Hz s1) <| Vs m6 (Xw (f := i64) Zw Hz rfl rfl m6.h1 sD (.inl (aJ _))) fun w9 m9 => ?_
   refine Zp (Qe (Qb ?_))
   refine X9 s3 <| Qd (Zg (b := 1) rfl rfl oM oM) <| Zx (i64 ((i : Int) + 1)) <| rN ?_
   have hcn : ((Ua l i).set i (((Ua l i).getD i 0) - ((((Ua l i).getD i 0) / 65536) * 65536))).set 0 ((((Ua l i).set i (((Ua l i).getD i 0) - ((((Ua l i).getD i 0) / 65536) * 65536))).getD 0 0) + (38 * (((Ua l i).getD i 0) / 65536))) = Ua l (i + 1) := by show _ = P5 _ _; unfold P5; rw [if_neg oM]
   exact ⟨⟨i + 1, oM, s0, s1, s2, rfl, (by rw [← hcn]; exact m9)⟩, Uj rfl z3 oM oM⟩
 ·
  have hc5p := of_decide_eq_false hc5
  obtain rfl : i = 16 := by omega
  have hgl := Qa8 l 16
  refine X3 ?_
  refine Qj (Qj (Xk ?_))
  refine sR <| Qd (Qn X6 rfl Z7 s1 m4.h1 sZ) <| Ye m4 (Qg (f := i64) (l := Ua l 16) Zw Z7 s2 rfl sD m4.h0 sZ rfl) fun w10 m10 => ?_
  refine rN (Z8 ?_)
  refine Qq [(agg i64 (Ua l 16))] ⟨⟨_, s2, Xm X6 rfl Z7 m10.h0 sZ⟩, trivial⟩ ?_
  exact ⟨by unfold Qw; rfl, m10.toExt⟩
set_option maxHeartbeats 1000000 in
theorem Qbi (a b : List Int) (w0 : World)  (ha : GoodR a) (hb : GoodR b) : Xz prog 64 #[(agg i64 a), (agg i64 b)] w0 (fun r w1 => r = (agg i64 (Jw a b)) ∧ Ext w0 w1) := by
 refine Qz (args := [(agg i64 a), (agg i64 b)]) func64 rfl ntmps64 results64 rfl ?_
 have m0 : Mem w0 (Qs w0) [] := aY w0
 have hal := ha.len; have hbl := hb.len
 refine sR <| Y5 (Z5 (f := i64) (l := a) m0 rfl) fun w1 b2 m1 => Y5 (Z5 (f := i64) (l := b) m1 rfl) fun w2 b3 m2 => Y5 (Q7 m2 Z7) fun w3 b4 m3 => ?_
 refine rN (Qa (sR ?_))
 refine Zx (i64 0) ?_
 refine rN (Qh ?_)
 refine Y1 (fun g wv => ∃ (i : Nat), (i ≤ 16) ∧ g 0 = (agg i64 a) ∧ g 1 = (agg i64 b) ∧ g 2 = (ptr b2 0) ∧ g 3 = (ptr b3 0) ∧ g 4 = (ptr b4 0) ∧ g 5 = (i64 (i : Int)) ∧ Mem wv (Qs w0) [(b4, .cells (cl i64 (aA 16 0)) 109 (0, 0)), (b3, .cells (cl i64 b) 109 (0, 0)), (b2, .cells (cl i64 (Aa (· + ·) a b i)) 109 (0, 0))]) (fun g wv => (16 - aT (g 5)).toNat) ?_ ?_
 ·exact ⟨0, oM, rfl, rfl, rfl, rfl, rfl, rfl, m3⟩
 rintro fr4 w5 ⟨i, hi, s0, s1, s2, s3, s4, s5, m5⟩
 have z5 := s5
 have hgl := Wx (· + ·) a b i
 refine Qa (sR ?_)
 refine X9 s5 <| Qd (Xd (b := 16) rfl rfl) <| rN ?_
 refine Zz rfl (fun hc6 => ?_) (fun hc6 => ?_)
 ·
  have hc6p := of_decide_eq_true hc6
  have hg : (Aa (· + ·) a b i).getD i 0 = a.getD i 0 := by rw [Qee, if_neg oM]
  have hg1 := ha.bd i oM
  have hg2 := hb.bd i oM
  refine Qo (Qc (Qa (Qh ?_)))
  refine Xi (dl 6) 6 Xv <| Uh rfl s5 <| X4 rfl (Zj (r := i) oM X6 Hz s2 rfl oM sD) <| Yj rfl (fun _ e' => Qi uT2 rfl rfl (m5.ext e').h2 (Qu _ _ 0 sD)) <| Uh rfl s5 <| X4 rfl (Zj (r := i) oM X6 Hz s3 rfl oM sD) <| Yj rfl (fun _ e' => Qi uT2 rfl rfl (m5.ext e').h1 (Qu _ _ 0 sD)) <| Gf m5 fun w7 m7 => Qd (Zg rfl rfl oM oM) <| Qd (Zj (r := i) oM X6 Hz s2 rfl oM sD) <| Bj m7 (Xw (f := i64) Zw Hz rfl rfl m7.h2 sD (.inl (aJ _))) fun w8 m8 => ?_
  refine Zp (Qe (Qb ?_))
  refine X9 s5 <| Qd (Zg (b := 1) rfl rfl oM oM) <| Zx (i64 ((i : Int) + 1)) <| rN ?_
  exact ⟨⟨i + 1, oM, s0, s1, s2, s3, s4, rfl, m8⟩, Uj rfl z5 oM oM⟩
 ·
  have hc6p := of_decide_eq_false hc6
  obtain rfl : i = 16 := by omega
  have hgl := Wx (· + ·) a b 16
  refine X3 ?_
  refine Qj (Qj (Xk ?_))
  refine sR <| Qd (Qn X6 rfl Z7 s2 m5.h2 sZ) <| U5 m5 (oc90 (Jz rfl) (Qau _ _ (by rw [Wx, hal]) (Qkr ha hb (by intro x y hx hy; show -1000000000000000 ≤ x + y ∧ x + y ≤ 1000000000000000; omega)))) fun w9 m9 => Ye m9 (Qg (f := i64) (l := Qw (Aa (· + ·) a b 16)) Zw Z7 s4 rfl sD m9.h0 sZ rfl) fun w11 m11 => ?_
  refine rN (Z8 ?_)
  refine Qq [(agg i64 (Qw (Aa (· + ·) a b 16)))] ⟨⟨_, s4, Xm X6 rfl Z7 m11.h0 sZ⟩, trivial⟩ ?_
  exact ⟨by unfold Jw; rfl, m11.toExt⟩
set_option maxHeartbeats 1000000 in
theorem Rl (a b : List Int) (w0 : World)  (ha : GoodR a) (hb : GoodR b) : Xz prog 65 #[(agg i64 a), (agg i64 b)] w0 (fun r w1 => r = (agg i64 (Yt a b)) ∧ Ext w0 w1) := by
 refine Qz (args := [(agg i64 a), (agg i64 b)]) func65 rfl ntmps65 results65 rfl ?_
 have m0 : Mem w0 (Qs w0) [] := aY w0
 have hal := ha.len; have hbl := hb.len
 refine sR <| Y5 (Z5 (f := i64) (l := a) m0 rfl) fun w1 b2 m1 => Y5 (Z5 (f := i64) (l := b) m1 rfl) fun w2 b3 m2 => Y5 (Q7 m2 Z7) fun w3 b4 m3 => ?_
 refine rN (Qa (sR ?_))
 refine Zx (i64 0) ?_
 refine rN (Qh ?_)
 refine Y1 (fun g wv => ∃ (i : Nat), (i ≤ 16) ∧ g 0 = (agg i64 a) ∧ g 1 = (agg i64 b) ∧ g 2 = (ptr b2 0) ∧ g 3 = (ptr b3 0) ∧ g 4 = (ptr b4 0) ∧ g 5 = (i64 (i : Int)) ∧ Mem wv (Qs w0) [(b4, .cells (cl i64 (aA 16 0)) 109 (0, 0)), (b3, .cells (cl i64 b) 109 (0, 0)), (b2, .cells (cl i64 (Aa (· - ·) a b i)) 109 (0, 0))]) (fun g wv => (16 - aT (g 5)).toNat) ?_ ?_
 ·exact ⟨0, oM, rfl, rfl, rfl, rfl, rfl, rfl, m3⟩
 rintro fr4 w5 ⟨i, hi, s0, s1, s2, s3, s4, s5, m5⟩
 have z5 := s5
 have hgl := Wx (· - ·) a b i
 refine Qa (sR ?_)
 refine X9 s5 <| Qd (Xd (b := 16) rfl rfl) <| rN ?_
 refine Zz rfl (fun hc6 => ?_) (fun hc6 => ?_)
 ·
  have hc6p := of_decide_eq_true hc6
  have hg : (Aa (· - ·) a b i).getD i 0 = a.getD i 0 := by rw [Qee, if_neg oM]
  have hg1 := ha.bd i oM
  have hg2 := hb.bd i oM
  refine Qo (Qc (Qa (Qh ?_)))
  refine Xi (dl 6) 6 Xv <| Uh rfl s5 <| X4 rfl (Zj (r := i) oM X6 Hz s2 rfl oM sD) <| Yj rfl (fun _ e' => Qi uT2 rfl rfl (m5.ext e').h2 (Qu _ _ 0 sD)) <| Uh rfl s5 <| X4 rfl (Zj (r := i) oM X6 Hz s3 rfl oM sD) <| Yj rfl (fun _ e' => Qi uT2 rfl rfl (m5.ext e').h1 (Qu _ _ 0 sD)) <| Gf m5 fun w7 m7 => Qd (Yg rfl rfl oM oM) <| Qd (Zj (r := i) oM X6 Hz s2 rfl oM sD) <| Bj m7 (Xw (f := i64) Zw Hz rfl rfl m7.h2 sD (.inl (aJ _))) fun w8 m8 => ?_
  refine Zp (Qe (Qb ?_))
  refine X9 s5 <| Qd (Zg (b := 1) rfl rfl oM oM) <| Zx (i64 ((i : Int) + 1)) <| rN ?_
  exact ⟨⟨i + 1, oM, s0, s1, s2, s3, s4, rfl, m8⟩, Uj rfl z5 oM oM⟩
 ·
  have hc6p := of_decide_eq_false hc6
  obtain rfl : i = 16 := by omega
  have hgl := Wx (· - ·) a b 16
  refine X3 ?_
  refine Qj (Qj (Xk ?_))
  refine sR <| Qd (Qn X6 rfl Z7 s2 m5.h2 sZ) <| U5 m5 (oc90 (Jz rfl) (Qau _ _ (by rw [Wx, hal]) (Qkr ha hb (by intro x y hx hy; show -1000000000000000 ≤ x - y ∧ x - y ≤ 1000000000000000; omega)))) fun w9 m9 => Ye m9 (Qg (f := i64) (l := Qw (Aa (· - ·) a b 16)) Zw Z7 s4 rfl sD m9.h0 sZ rfl) fun w11 m11 => ?_
  refine rN (Z8 ?_)
  refine Qq [(agg i64 (Qw (Aa (· - ·) a b 16)))] ⟨⟨_, s4, Xm X6 rfl Z7 m11.h0 sZ⟩, trivial⟩ ?_
  exact ⟨by unfold Yt; rfl, m11.toExt⟩
set_option maxHeartbeats 1000000 in
theorem Vz (a b : List Int) (w0 : World)  (ha : GoodR a) (hb : GoodR b) : Xz prog 66 #[(agg i64 a), (agg i64 b)] w0 (fun r w1 => r = (agg i64 (Xg a b)) ∧ Ext w0 w1) := by
 refine Qz (args := [(agg i64 a), (agg i64 b)]) func66 rfl ntmps66 results66 rfl ?_
 have m0 : Mem w0 (Qs w0) [] := aY w0
 have hal := ha.len; have hbl := hb.len
 refine sR <| Y5 (Z5 (f := i64) (l := a) m0 rfl) fun w1 b2 m1 => Y5 (Z5 (f := i64) (l := b) m1 rfl) fun w2 b3 m2 => Y5 (Q7 m2 Z7) fun w3 b4 m3 => ?_
 refine rN (sR ?_)
 refine Qd (Ve (ps := []) (c := (cl i64 (aA 31 0))) ti141 Qn4 Hz Ya rfl) <| Y5 (Q7 m3 ti141) fun w4 b5 m4 => Ye m4 (Qg (f := i64) (l := aA 31 0) Zw ti141 rfl rfl sD m4.h0 sZ rfl) fun w5 m5 => ?_
 refine rN (Qa (sR ?_))
 refine Zx (i64 0) ?_
 refine rN (Qh ?_)
 refine Y1 (fun g wv => ∃ (i : Nat), (i ≤ 16) ∧ g 0 = (agg i64 a) ∧ g 1 = (agg i64 b) ∧ g 2 = (ptr b2 0) ∧ g 3 = (ptr b3 0) ∧ g 4 = (ptr b4 0) ∧ g 5 = (ptr b5 0) ∧ g 6 = (i64 (i : Int)) ∧ Mem wv (Qs w0) [(b5, .cells (cl i64 (Eo a b i)) 141 (0, 0)), (b4, .cells (cl i64 (aA 16 0)) 109 (0, 0)), (b3, .cells (cl i64 b) 109 (0, 0)), (b2, .cells (cl i64 a) 109 (0, 0))]) (fun g wv => (16 - aT (g 6)).toNat) ?_ ?_
 ·exact ⟨0, oM, rfl, rfl, rfl, rfl, rfl, rfl, rfl, m5⟩
 rintro fr6 w7 ⟨i, hi, s0, s1, s2, s3, s4, s5, s6, m7⟩
 have z6 := s6
 have htl := L9 a b i
 refine Qa (sR ?_)
 refine X9 s6 <| Qd (Xd (b := 16) rfl rfl) <| rN ?_
 refine Zz rfl (fun hc8 => ?_) (fun hc8 => ?_)
 ·
  have hc8p := of_decide_eq_true hc8
  refine Qo (Qc (Qa (Qh (sR ?_))))
  refine Zx (i64 0) ?_
  refine rN (Gh ?_)
  refine Y1 (fun g wv => ∃ (k : Nat), (k ≤ 16) ∧ g 0 = (agg i64 a) ∧ g 1 = (agg i64 b) ∧ g 2 = (ptr b2 0) ∧ g 3 = (ptr b3 0) ∧ g 4 = (ptr b4 0) ∧ g 5 = (ptr b5 0) ∧ g 6 = (i64 (i : Int)) ∧ g 7 = (i64 (k : Int)) ∧ g 12 = (bl (decide ((i : Int) < 16))) ∧ Mem wv (Qs w0) [(b5, .cells (cl i64 (Qe2 a b i (Eo a b i) k)) 141 (0, 0)), (b4, .cells (cl i64 (aA 16 0)) 109 (0, 0)), (b3, .cells (cl i64 b) 109 (0, 0)), (b2, .cells (cl i64 a) 109 (0, 0))]) (fun g wv => (16 - aT (g 7)).toNat) ?_ ?_
  ·exact ⟨0, oM, s0, s1, s2, s3, s4, s5, s6, rfl, rfl, m7⟩
  rintro fr9 w10 ⟨k, hk, s0, s1, s2, s3, s4, s5, s6, s7, s12, m10⟩
  have z7 := s7
  have hrl := Qa1 a b i (Eo a b i) k
  refine Qa (sR ?_)
  refine X9 s7 <| Qd (Xd (b := 16) rfl rfl) <| rN ?_
  refine Zz rfl (fun hc11 => ?_) (fun hc11 => ?_)
  ·
   have hc11p := of_decide_eq_true hc11
   have m1 := mul_bd (ha.bd i oM) (hb.bd k oM)
   have m2 := Qr4 ha hb (show i < 16 by omega) (L9 a b i) (Qfs ha hb i oM) k oM (i + k)
   refine Qo (Qc (Qa (Qh ?_)))
   refine Xi (dl 12) 12 Xv <| Uh rfl s6 <| Uh rfl s7 <| X4 rfl (Jv.cast (congrArg i64 (show (i : Int) + (k : Int) = ((i + k : Nat) : Int) by omega)) (Zg rfl rfl oM oM)) <| X4 rfl (Zj (r := (i + k)) oM Qn4 Hz s5 rfl oM sD) <| Yj (v := (i64 ((Qe2 a b i (Eo a b i) k).getD (i + k) 0))) rfl (fun _ e' => Qi uT2 rfl rfl (m10.ext e').h0 (Qu _ _ 0 sD)) <| Uh rfl s6 <| X4 rfl (Zj (r := i) oM X6 Hz s2 rfl oM sD) <| Yj rfl (fun _ e' => Qi uT2 rfl rfl (m10.ext e').h3 (Qu _ _ 0 sD)) <| Uh rfl s7 <| X4 rfl (Zj (r := k) oM X6 Hz s3 rfl oM sD) <| Yj rfl (fun _ e' => Qi uT2 rfl rfl (m10.ext e').h2 (Qu _ _ 0 sD)) ?_
   refine X4 rfl (Ku rfl rfl oM oM) <| Gf m10 fun w12 m12 => Qd (Zg rfl rfl oM oM) <| Qd (Zj (r := (i + k)) oM Qn4 Hz s5 rfl oM sD) <| Ye m12 (Xw (f := i64) Zw Hz rfl rfl m12.h0 sD (.inl (aJ _))) fun w13 m13 => ?_
   refine Zp (Qe (Qb ?_))
   refine X9 s7 <| Qd (Zg (b := 1) rfl rfl oM oM) <| Zx (i64 ((k : Int) + 1)) <| rN ?_
   exact ⟨⟨k + 1, oM, s0, s1, s2, s3, s4, s5, s6, rfl, s12, m13⟩, Uj rfl z7 oM oM⟩
  ·
   have hc11p := of_decide_eq_false hc11
   obtain rfl : k = 16 := by omega
   refine X3 ?_
   refine Qj (Qj (Xk ?_))
   refine Qe (Qb ?_)
   refine X9 s6 <| Qd (Zg (b := 1) rfl rfl oM oM) <| Zx (i64 ((i : Int) + 1)) <| rN ?_
   exact ⟨⟨i + 1, oM, s0, s1, s2, s3, s4, s5, rfl, m10⟩, Uj rfl z6 oM oM⟩
 ·
  have hc8p := of_decide_eq_false hc8
  obtain rfl : i = 16 := by omega
  have htl := L9 a b 16
  refine X3 ?_
  refine Qj (Qj (Xk ?_))
  refine sR <| Qd (Ve (ps := []) (c := (cl i64 (aA 16 0))) Z7 X6 Hz Ya rfl) <| Y5 (Q7 m7 Z7) fun w14 b8 m14 => Ye m14 (Qg (f := i64) (l := aA 16 0) Zw Z7 rfl rfl sD m14.h0 sZ rfl) fun w15 m15 => ?_
  refine rN (Qa (sR ?_))
  refine Zx (i64 0) ?_
  refine rN (Qh ?_)
  refine Y1 (fun g wv => ∃ (i : Nat), (i ≤ 16) ∧ g 0 = (agg i64 a) ∧ g 1 = (agg i64 b) ∧ g 2 = (ptr b2 0) ∧ g 3 = (ptr b3 0) ∧ g 4 = (ptr b4 0) ∧ g 5 = (ptr b5 0) ∧ g 6 = (i64 (16 : Int)) ∧ g 8 = (ptr b8 0) ∧ g 9 = (i64 (i : Int)) ∧ g 12 = (bl (decide ((16 : Int) < 16))) ∧ Mem wv (Qs w0) [(b8, .cells (cl i64 (Yv (Rq (Eo a b 16)) 0 16 i)) 109 (0, 0)), (b5, .cells (cl i64 (Eo a b 16)) 141 (0, 0)), (b4, .cells (cl i64 (aA 16 0)) 109 (0, 0)), (b3, .cells (cl i64 b) 109 (0, 0)), (b2, .cells (cl i64 a) 109 (0, 0))]) (fun g wv => (16 - aT (g 9)).toNat) ?_ ?_
  ·exact ⟨0, oM, s0, s1, s2, s3, s4, s5, s6, rfl, rfl, rfl, (by rw [Ei]; exact m15)⟩
  rintro fr16 w17 ⟨i, hi, s0, s1, s2, s3, s4, s5, s6, s8, s9, s12, m17⟩
  have z9 := s9
  have hfl : (Yv (Rq (Eo a b 16)) (0 : Int) 16 i).length = 16 := J8 _ _ _ _ hi
  refine Qa (sR ?_)
  refine X9 s9 <| Qd (Xd (b := 16) rfl rfl) <| rN ?_
  refine Zz rfl (fun hc18 => ?_) (fun hc18 => ?_)
  ·
   have hc18p := of_decide_eq_true hc18
   have ht1 := Qfs ha hb 16 oM i
   have ht2 := Qfs ha hb 16 oM (i + 16)
   refine Qo (Qc (Qa (Qh (sR ?_))))
   refine X9 s9 <| X9 s9 <| Qd (Zj (r := i) oM Qn4 Hz s5 rfl oM sD) <| Qd (Qi uT2 rfl rfl m17.h1 (Qu _ _ 0 sD)) <| Qd (Zj (r := i) oM X6 Hz s8 rfl oM sD) <| Ye m17 (Xw (f := i64) Zw Hz rfl rfl m17.h0 sD (.inl (aJ _))) fun w19 m19 => ?_
   refine rN (sR ?_)
   refine X9 s9 <| Qd (Xd (b := 15) rfl rfl) <| rN ?_
   refine Zz rfl (fun hc20 => ?_) (fun hc20 => ?_)
   ·
    have hc20p := of_decide_eq_true hc20
    have hq : ((Yv (Rq (Eo a b 16)) 0 16 i).set i ((Eo a b 16).getD i 0)).getD i 0 = (Eo a b 16).getD i 0 := Uc oM
    refine Xi (dl 8) 8 Xv <| Uh rfl s9 <| X4 rfl (Zj (r := i) oM X6 Hz s8 rfl oM sD) <| Yj rfl (fun _ e' => Qi uT2 rfl rfl (m19.ext e').h0 (Qu _ _ 0 sD)) <| Uh rfl s9 <| X4 rfl (Jv.cast (congrArg i64 (show (i : Int) + 16 = ((i + 16 : Nat) : Int) by omega)) (Zg (b := 16) rfl rfl oM oM)) <| X4 rfl (Zj (r := (i + 16)) oM Qn4 Hz s5 rfl oM sD) <| Yj (v := (i64 ((Eo a b 16).getD (i + 16) 0))) rfl (fun _ e' => Qi uT2 rfl rfl (m19.ext e').h1 (Qu _ _ 0 sD)) <| X4 rfl (Ku (a := 38) rfl rfl oM oM) <| Gf m19 fun w21 m21 => Qd (Zg rfl rfl oM oM) <| Qd (Zj (r := i) oM X6 Hz s8 rfl oM sD) <| Ye m21 (Xw (f := i64) Zw Hz rfl rfl m21.h0 sD (.inl (aJ _))) fun w22 m22 => ?_
    refine Zp (Qe (Qb ?_))
    refine X9 s9 <| Qd (Zg (b := 1) rfl rfl oM oM) <| Zx (i64 ((i : Int) + 1)) <| rN ?_
    have hcn : ((Yv (Rq (Eo a b 16)) 0 16 i).set i ((Eo a b 16).getD i 0)).set i ((((Yv (Rq (Eo a b 16)) 0 16 i).set i ((Eo a b 16).getD i 0)).getD i 0) + (38 * ((Eo a b 16).getD (i + 16) 0))) = Yv (Rq (Eo a b 16)) 0 16 (i + 1) := by rw [List.set_set, hq]; exact Ep (Rq (Eo a b 16)) 0 oM _ (by unfold Rq; rw [if_pos oM])
    exact ⟨⟨i + 1, oM, s0, s1, s2, s3, s4, s5, s6, s8, rfl, s12, (by rw [← hcn]; exact m22)⟩, Uj rfl z9 oM oM⟩
   ·
    have hc20p := of_decide_eq_false hc20
    refine Qo (Qe (Qb ?_))
    refine X9 s9 <| Qd (Zg (b := 1) rfl rfl oM oM) <| Zx (i64 ((i : Int) + 1)) <| rN ?_
    have hcn : (Yv (Rq (Eo a b 16)) 0 16 i).set i ((Eo a b 16).getD i 0) = Yv (Rq (Eo a b 16)) 0 16 (i + 1) := Ep (Rq (Eo a b 16)) 0 oM _ (by unfold Rq; rw [if_neg oM])
    exact ⟨⟨i + 1, oM, s0, s1, s2, s3, s4, s5, s6, s8, rfl, s12, (by rw [← hcn]; exact m19)⟩, Uj rfl z9 oM oM⟩
  ·
   have hc18p := of_decide_eq_false hc18
   obtain rfl : i = 16 := by omega
   refine X3 ?_
   refine Qj (Qj (Xk ?_))
   refine sR <| Qd (Qn X6 rfl Z7 s8 m17.h0 sZ) <| U5 m17 (oc90 (Jz rfl) (Qau _ _ sD (bd_carry ha hb))) fun w23 m23 => U5 m23 (oc90 (Jz rfl) (Qau _ _ sD (Quz ha hb))) fun w25 m25 => Bj m25 (Qg (f := i64) (l := Qw (Qw (Yv (Rq (Eo a b 16)) 0 16 16))) Zw Z7 s4 rfl sD m25.h2 sZ rfl) fun w27 m27 => ?_
   refine rN (Z8 ?_)
   refine Qq [(agg i64 (Qw (Qw (Yv (Rq (Eo a b 16)) 0 16 16))))] ⟨⟨_, s4, Xm X6 rfl Z7 m27.h2 sZ⟩, trivial⟩ ?_
   exact ⟨by unfold Xg; rfl, m27.toExt⟩
set_option maxHeartbeats 1000000 in
theorem c_rinv (x : List Int) (w0 : World)  (hx : GoodR x) : Xz prog 68 #[(agg i64 x)] w0 (fun r w1 => r = (agg i64 (Vu x 255)) ∧ Ext w0 w1) := by
 refine Qz (args := [(agg i64 x)]) func68 rfl ntmps68 results68 rfl ?_
 have m0 : Mem w0 (Qs w0) [] := aY w0
 have hxl := hx.len
 refine sR <| Y5 (Z5 (f := i64) (l := x) m0 rfl) fun w1 b1 m1 => Y5 (Q7 m1 Z7) fun w2 b2 m2 => ?_
 refine rN (sR ?_)
 refine Qd (Gq (c := (cl i64 ([1, 0, 0, 0, 0, 0, 0, 0, 0, 0, 0, 0, 0, 0, 0, 0]))) Z7 X6 Hz (Jp (i := 0) (v := (i64 1)) (cs := #[(i64 1)]) rfl rfl Vt) Xv) <| Y5 (Q7 m2 Z7) fun w3 b3 m3 => Ye m3 (Qg (f := i64) (l := [1, 0, 0, 0, 0, 0, 0, 0, 0, 0, 0, 0, 0, 0, 0, 0]) Zw Z7 rfl rfl sD m3.h0 sZ rfl) fun w4 m4 => ?_
 refine rN (Qa (sR ?_))
 refine Zx (i64 254) ?_
 refine rN (Qh ?_)
 refine Y1 (fun g wv => ∃ (j : Nat), (j ≤ 255) ∧ g 0 = (agg i64 x) ∧ g 1 = (ptr b1 0) ∧ g 2 = (ptr b2 0) ∧ g 3 = (ptr b3 0) ∧ g 4 = (i64 (254 - (j : Int))) ∧ Mem wv (Qs w0) [(b3, .cells (cl i64 (Vu x j)) 109 (0, 0)), (b2, .cells (cl i64 (aA 16 0)) 109 (0, 0)), (b1, .cells (cl i64 x) 109 (0, 0))]) (fun g wv => (aT (g 4) + 1).toNat) ?_ ?_
 ·exact ⟨0, oM, rfl, rfl, rfl, rfl, rfl, (by rw [Qo7]; exact m4)⟩
 rintro fr5 w6 ⟨j, hj, s0, s1, s2, s3, s4, m6⟩
 have z4 := s4
 have hgj := Py hx j
 have hgl := hgj.len
 have hgk := Zf hgj hgj
 have hgl2 := hgk.len
 have hgl3 := (Zf hgk hx).len
 refine Qa (sR ?_)
 refine X9 s4 <| Qd (Ey (b := 0) rfl rfl) <| rN ?_
 refine Zz rfl (fun hc7 => ?_) (fun hc7 => ?_)
 ·
  have hc7p := of_decide_eq_true hc7
  refine Qo (Qc (Qa (Qh (sR ?_))))
  refine Qd (Qn X6 rfl Z7 s3 m6.h0 sZ) <| Qd (Qn X6 rfl Z7 s3 m6.h0 sZ) <| U5 m6 (Qao (Xl rfl rfl) (Vz _ _ _ hgj hgj)) fun w8 m8 => Ye m8 (Qg (f := i64) (l := Xg (Vu x j) (Vu x j)) Zw Z7 s3 rfl sD m8.h0 sZ rfl) fun w10 m10 => ?_
  refine rN (sR ?_)
  refine X9 s4 <| Qd (Kz (b := 2) rfl rfl) <| Zm (bl ((254 - (j : Int)) != 2)) ?_
  rcases Bool.eq_false_or_eq_true ((254 - (j : Int)) != 2) with hb11 | hb11
  ·
   have hb11p := bne_iff_ne.1 hb11
   refine Yf (s := 15) rfl rfl hb11 rfl (Jb s4) <| Yf (s := 15) rfl rfl hb11 rfl (Kz (b := 4) rfl rfl) <| Qd (G6 rfl hb11 rfl) <| rN ?_
   refine Zz rfl (fun hc12 => ?_) (fun hc12 => ?_)
   ·
    have hc12p := bne_iff_ne.1 hc12
    refine Qb <| Qd (Qn X6 rfl Z7 s3 m10.h0 sZ) <| Qd (Qn X6 rfl Z7 s1 m10.h2 sZ) <| U5 m10 (Qao (Xl rfl rfl) (Vz _ _ _ hgk hx)) fun w13 m13 => Ye m13 (Qg (f := i64) (l := Xg (Xg (Vu x j) (Vu x j)) x) Zw Z7 s3 rfl sD m13.h0 sZ rfl) fun w15 m15 => ?_
    refine Zp (Qe (Qb ?_))
    refine X9 s4 <| Qd (Yg (b := 1) rfl rfl oM oM) <| Zx (i64 ((254 - (j : Int)) - 1)) <| rN ?_
    have hin : Xg (Xg (Vu x j) (Vu x j)) x = Vu x (j + 1) := Qqo (by clear hxl; omega)
    exact ⟨⟨j + 1, oM, s0, s1, s2, s3, (show i64 (254 - (j : Int) - 1) = i64 (254 - ((j + 1 : Nat) : Int)) from congrArg i64 oM), (by rw [← hin]; exact m15)⟩, (by show (aT (i64 (254 - (j : Int) - 1)) + 1).toNat < (aT _ + 1).toNat; rw [z4]; simp only [aT, i64]; omega)⟩
   ·
    have hc12p := Yd hc12
    refine Qo (Qe (Qb ?_))
    refine X9 s4 <| Qd (Yg (b := 1) rfl rfl oM oM) <| Zx (i64 ((254 - (j : Int)) - 1)) <| rN ?_
    have hin : Xg (Vu x j) (Vu x j) = Vu x (j + 1) := Qlw (by clear hxl; omega)
    exact ⟨⟨j + 1, oM, s0, s1, s2, s3, (show i64 (254 - (j : Int) - 1) = i64 (254 - ((j + 1 : Nat) : Int)) from congrArg i64 oM), (by rw [← hin]; exact m10)⟩, (by show (aT (i64 (254 - (j : Int) - 1)) + 1).toNat < (aT _ + 1).toNat; rw [z4]; simp only [aT, i64]; omega)⟩
  ·
   have hb11p := Yd hb11
   refine Fe (s := 15) rfl rfl hb11 rfl <| Fe (s := 15) rfl rfl hb11 rfl <| Qd (Wn rfl hb11 rfl) <| rN <| Ja rfl Yx ?_
   refine Qo (Qe (Qb ?_))
   refine X9 s4 <| Qd (Yg (b := 1) rfl rfl oM oM) <| Zx (i64 ((254 - (j : Int)) - 1)) <| rN ?_
   have hin : Xg (Vu x j) (Vu x j) = Vu x (j + 1) := Qlw (by clear hxl; omega)
   exact ⟨⟨j + 1, oM, s0, s1, s2, s3, (show i64 (254 - (j : Int) - 1) = i64 (254 - ((j + 1 : Nat) : Int)) from congrArg i64 oM), (by rw [← hin]; exact m10)⟩, (by show (aT (i64 (254 - (j : Int) - 1)) + 1).toNat < (aT _ + 1).toNat; rw [z4]; simp only [aT, i64]; omega)⟩
 ·
  have hc7p := of_decide_eq_false hc7
  obtain rfl : j = 255 := by omega
  refine X3 ?_
  refine Qj (Qj (Xk ?_))
  refine sR <| Qd (Qn X6 rfl Z7 s3 m6.h0 sZ) <| Vs m6 (Qg (f := i64) (l := Vu x 255) Zw Z7 s2 rfl sD m6.h1 sZ rfl) fun w16 m16 => ?_
  refine rN (Z8 ?_)
  refine Qq [(agg i64 (Vu x 255))] ⟨⟨_, s2, Xm X6 rfl Z7 m16.h1 sZ⟩, trivial⟩ ?_
  exact ⟨rfl, m16.toExt⟩
set_option maxHeartbeats 1000000 in
theorem c_rread (u : Z4) (w0 : World)  (hu : u.length = 32) : Xz prog 63 #[(agg u8 u)] w0 (fun r w1 => r = (agg i64 (Qx u)) ∧ Ext w0 w1) := by
 refine Qz (args := [(agg u8 u)]) func63 rfl ntmps63 results63 rfl ?_
 have m0 : Mem w0 (Qs w0) [] := aY w0
 refine sR <| Y5 (Z5 (f := u8) (l := u) m0 rfl) fun w1 b1 m1 => Y5 (Q7 m1 Z7) fun w2 b2 m2 => ?_
 refine rN (sR ?_)
 refine Qd (Ve (ps := []) (c := (cl i64 (aA 16 0))) Z7 X6 Hz Ya rfl) <| Y5 (Q7 m2 Z7) fun w3 b3 m3 => Ye m3 (Qg (f := i64) (l := aA 16 0) Zw Z7 rfl rfl sD m3.h0 sZ rfl) fun w4 m4 => ?_
 refine rN (Qa (sR ?_))
 refine Zx (i64 0) ?_
 refine rN (Qh ?_)
 refine Y1 (fun g wv => ∃ (i : Nat), (i ≤ 16) ∧ g 0 = (agg u8 u) ∧ g 1 = (ptr b1 0) ∧ g 2 = (ptr b2 0) ∧ g 3 = (ptr b3 0) ∧ g 4 = (i64 (i : Int)) ∧ Mem wv (Qs w0) [(b3, .cells (cl i64 (Yv (fun q => ((u.getD (2 * q) 0).toNat : Int) + 256 * ((u.getD (2 * q + 1) 0).toNat : Int)) 0 16 i)) 109 (0, 0)), (b2, .cells (cl i64 (aA 16 0)) 109 (0, 0)), (b1, .cells (cl u8 u) 23 (0, 0))]) (fun g wv => (16 - aT (g 4)).toNat) ?_ ?_
 ·exact ⟨0, oM, rfl, rfl, rfl, rfl, rfl, (by rw [Ei]; exact m4)⟩
 rintro fr5 w6 ⟨i, hi, s0, s1, s2, s3, s4, m6⟩
 have z4 := s4
 have hfl : (Yv (fun q => ((u.getD (2 * q) 0).toNat : Int) + 256 * ((u.getD (2 * q + 1) 0).toNat : Int)) (0 : Int) 16 i).length = 16 := J8 _ _ _ _ hi
 refine Qa (sR ?_)
 refine X9 s4 <| Qd (Xd (b := 16) rfl rfl) <| rN ?_
 refine Zz rfl (fun hc7 => ?_) (fun hc7 => ?_)
 ·
  have hc7p := of_decide_eq_true hc7
  have hu1 := (u.getD (2 * i) 0).isLt
  have hu2 := (u.getD (2 * i + 1) 0).isLt
  refine Qo (Qc (Qa (Qh ?_)))
  refine Xi (dl 14) 14 Xv <| Uh rfl s4 <| Uh rfl s4 <| X4 rfl (Jv.cast (congrArg i64 (show 2 * (i : Int) = ((2 * i : Nat) : Int) by omega)) (Ku (a := 2) rfl rfl oM oM)) <| X4 rfl (Zj (r := (2 * i)) oM Xn Yr s1 rfl oM sD) <| Yj (v := (u8 (u.getD (2 * i) 0))) rfl (fun _ e' => Qi V3 rfl rfl (m6.ext e').h2 (Qu _ _ 0 sD)) <| X4 rfl (Gm ⟨_, V3⟩ uT2 rfl) <| Uh rfl s4 <| X4 rfl (Ku (a := 2) rfl rfl oM oM) <| X4 rfl (Jv.cast (congrArg i64 (show (2 * (i : Int)) + 1 = ((2 * i + 1 : Nat) : Int) by omega)) (Zg (b := 1) rfl rfl oM oM)) <| X4 rfl (Zj (r := (2 * i + 1)) oM Xn Yr s1 rfl oM sD) <| Yj (v := (u8 (u.getD (2 * i + 1) 0))) rfl (fun _ e' => Qi V3 rfl rfl (m6.ext e').h2 (Qu _ _ 0 sD)) ?_
  refine X4 rfl (Gm ⟨_, V3⟩ uT2 rfl) <| X4 rfl (Ku (a := 256) rfl rfl oM oM) <| X4 rfl (Zg rfl rfl oM oM) <| Gf m6 fun w8 m8 => Qd (Zj (r := i) oM X6 Hz s3 rfl oM sD) <| Ye m8 (Xw (f := i64) Zw Hz rfl rfl m8.h0 sD (.inl (aJ _))) fun w9 m9 => ?_
  refine Zp (Qe (Qb ?_))
  refine X9 s4 <| Qd (Zg (b := 1) rfl rfl oM oM) <| Zx (i64 ((i : Int) + 1)) <| rN ?_
  exact ⟨⟨i + 1, oM, s0, s1, s2, s3, rfl, (by rw [← Ep (fun q => ((u.getD (2 * q) 0).toNat : Int) + 256 * ((u.getD (2 * q + 1) 0).toNat : Int)) (0 : Int) (n := 16) (k := i) oM _ rfl]; exact m9)⟩, Uj rfl z4 oM oM⟩
 ·
  have hc7p := of_decide_eq_false hc7
  obtain rfl : i = 16 := by omega
  have h15 := Qsb u
  refine X3 ?_
  refine Qj (Qj (Xk ?_))
  refine sR <| Qd (Xr 15 15 X6 Hz s3) <| Qd (Qi uT2 rfl rfl m6.h0 (Qu _ _ 0 sD)) <| Qd (Wp (b := 32768) rfl rfl oM oM oM) <| Qd (Xr 15 15 X6 Hz s3) <| Ye m6 (Xw (f := i64) Zw Hz rfl rfl m6.h0 sD (.inl (aJ _))) fun w10 m10 => ?_
  refine rN (Qa ?_)
  have hsl : ((Yv (fun q => ((u.getD (2 * q) 0).toNat : Int) + 256 * ((u.getD (2 * q + 1) 0).toNat : Int)) 0 16 16).set 15 (((Yv (fun q => ((u.getD (2 * q) 0).toNat : Int) + 256 * ((u.getD (2 * q + 1) 0).toNat : Int)) 0 16 16).getD 15 0) % 32768)).length = 16 := by rw [List.length_set]; exact hfl
  refine Qb <| Qd (Qn X6 rfl Z7 s3 m10.h0 sZ) <| Vs m10 (Qg (f := i64) (l := (Yv (fun q => ((u.getD (2 * q) 0).toNat : Int) + 256 * ((u.getD (2 * q + 1) 0).toNat : Int)) 0 16 16).set 15 (((Yv (fun q => ((u.getD (2 * q) 0).toNat : Int) + 256 * ((u.getD (2 * q + 1) 0).toNat : Int)) 0 16 16).getD 15 0) % 32768)) Zw Z7 s2 rfl sD m10.h1 sZ rfl) fun w11 m11 => ?_
  refine rN (Z8 ?_)
  refine Qq [(agg i64 ((Yv (fun q => ((u.getD (2 * q) 0).toNat : Int) + 256 * ((u.getD (2 * q + 1) 0).toNat : Int)) 0 16 16).set 15 (((Yv (fun q => ((u.getD (2 * q) 0).toNat : Int) + 256 * ((u.getD (2 * q + 1) 0).toNat : Int)) 0 16 16).getD 15 0) % 32768)))] ⟨⟨_, s2, Xm X6 rfl Z7 m11.h1 sZ⟩, trivial⟩ ?_
  exact ⟨by unfold Qx; rfl, m11.toExt⟩
set_option maxHeartbeats 2000000 in
theorem c_rwrite (a : List Int) (w0 : World)  (ha : GoodR a) : Xz prog 67 #[(agg i64 a)] w0 (fun r w1 => r = (agg u8 (Qcq a)) ∧ Ext w0 w1) := by
 refine Qz (args := [(agg i64 a)]) func67 rfl ntmps67 results67 rfl ?_
 have m0 : Mem w0 (Qs w0) [] := aY w0
 have hal := ha.len; have hg1 := Hf ha; have hg2 := Hf hg1; have hg3 := Hf hg2; have hgl := hg3.len
 refine sR <| Y5 (Z5 (f := i64) (l := a) m0 rfl) fun w1 b1 m1 => Y5 (Q7 m1 Zh) fun w2 b2 m2 => ?_
 refine rN (sR ?_)
 refine Qd (Qn X6 rfl Z7 rfl m2.h1 sZ) <| U5 m2 (oc90 (Jz rfl) (Qau _ _ hal ha.wide)) fun w3 m3 => U5 m3 (oc90 (Jz rfl) (Qau _ _ hg1.len hg1.wide)) fun w5 m5 => U5 m5 (oc90 (Jz rfl) (Qau _ _ hg2.len hg2.wide)) fun w7 m7 => Vs m7 (Qg (f := i64) (l := Qw (Qw (Qw a))) Zw Z7 rfl rfl sD m7.h1 sZ rfl) fun w9 m9 => ?_
 refine rN (Qa (sR ?_))
 refine Zx (i64 0) ?_
 refine rN (Qh ?_)
 refine Y1 (fun g wv => ∃ (n : Nat), (n ≤ 2) ∧ g 0 = (agg i64 a) ∧ g 1 = (ptr b1 0) ∧ g 2 = (ptr b2 0) ∧ g 3 = (i64 (n : Int)) ∧ Mem wv (Qs w0) [(b1, .cells (cl i64 (Vh (Qw (Qw (Qw a))) n)) 109 (0, 0)), (b2, .cells (cl u8 (aA 32 0)) 23 (0, 0))]) (fun g wv => (2 - aT (g 3)).toNat) ?_ ?_
 have m10 := (Mem.pick [_] [_] _ m9)
 ·exact ⟨0, oM, rfl, rfl, rfl, rfl, (by rw [Qtr]; exact m10)⟩
 rintro fr11 w12 ⟨n, hn, s0, s1, s2, s3, m12⟩
 have z3 := s3
 have hgn := Qlx hg3 n
 have hgnl := hgn.len
 refine Qa (sR ?_)
 refine X9 s3 <| Qd (Xd (b := 2) rfl rfl) <| rN ?_
 refine Zz rfl (fun hc13 => ?_) (fun hc13 => ?_)
 ·
  have hc13p := of_decide_eq_true hc13
  refine Qo (Qc (Qa (Qh (sR ?_))))
  refine Qd (Ve (ps := []) (c := (cl i64 (aA 16 0))) Z7 X6 Hz Ya rfl) <| Y5 (Q7 m12 Z7) fun w14 b4 m14 => Ye m14 (Qg (f := i64) (l := aA 16 0) Zw Z7 rfl rfl sD m14.h0 sZ rfl) fun w15 m15 => ?_
  refine rN (Qa ?_)
  have ha0 := hgn.bd 0 oM
  refine Qb <| Qd (Xr 0 0 X6 Hz s1) <| Qd (Qi uT2 rfl rfl m15.h1 (Qu _ _ 0 sD)) <| Qd (Yg (b := 65517) rfl rfl oM oM) <| Qd (Xr 0 0 X6 Hz rfl) <| Ye m15 (Zi (f := i64) (l' := [((Vh (Qw (Qw (Qw a))) n).getD 0 0) - 65517, 0, 0, 0, 0, 0, 0, 0, 0, 0, 0, 0, 0, 0, 0, 0]) rfl Zw Hz rfl rfl m15.h0 Ya (.inl (aJ _))) fun w16 m16 => ?_
  refine rN (Qa (sR ?_))
  refine Zx (i64 1) ?_
  refine rN (Qh ?_)
  refine Y1 (fun g wv => ∃ (j : Nat), (j ≤ 15) ∧ g 0 = (agg i64 a) ∧ g 1 = (ptr b1 0) ∧ g 2 = (ptr b2 0) ∧ g 3 = (i64 (n : Int)) ∧ g 4 = (ptr b4 0) ∧ g 5 = (i64 ((j + 1 : Nat) : Int)) ∧ g 15 = (bl (decide ((n : Int) < 2))) ∧ Mem wv (Qs w0) [(b4, .cells (cl i64 (mG (Vh (Qw (Qw (Qw a))) n) j)) 109 (0, 0)), (b1, .cells (cl i64 (Vh (Qw (Qw (Qw a))) n)) 109 (0, 0)), (b2, .cells (cl u8 (aA 32 0)) 23 (0, 0))]) (fun g wv => (16 - aT (g 5)).toNat) ?_ ?_
  ·exact ⟨0, oM, s0, s1, s2, s3, rfl, rfl, rfl, (by rw [mG_zero]; exact m16)⟩
  rintro fr17 w18 ⟨j, hj, s0, s1, s2, s3, s4, s5, s15, m18⟩
  have z5 := s5
  have hml := Bf (Vh (Qw (Qw (Qw a))) n) j
  refine Qa (sR ?_)
  refine X9 s5 <| Qd (Xd (b := 16) rfl rfl) <| rN ?_
  refine Zz rfl (fun hc19 => ?_) (fun hc19 => ?_)
  ·
   have hc19p := of_decide_eq_true hc19
   have hmi := Qqj hgn j oM
   have hab := hgn.bd (j + 1) oM
   refine Qo (Qc (Qa (Qh (sR ?_))))
   refine Zx (i64 65535) ?_
   refine rN (Qa (sR ?_))
   refine X9 s5 <| Qd (G8 (b := 15) rfl rfl) <| rN ?_
   refine Zz rfl (fun hc20 => ?_) (fun hc20 => ?_)
   ·
    have hc20p := eq_of_beq hc20
    refine Qb <| Zx (i64 32767) ?_
    refine rN (sR ?_)
    refine X9 s5 <| Qd (Jv.cast (congrArg i64 (show ((j + 1 : Nat) : Int) - 1 = ((j : Nat) : Int) by omega)) (Yg (b := 1) rfl rfl oM oM)) <| Qd (Zj (r := j) oM X6 Hz s4 rfl oM sD) <| Qd (Qi uT2 rfl rfl m18.h0 (Qu _ _ 0 sD)) <| Qd (Ai (p := 65536) (b := 16) rfl rfl rfl Yx Yx) <| Qd (Jv.cast (congrArg i64 (show (((aB 64 (((mG (Vh (Qw (Qw (Qw a))) n) j).getD j 0) / 65536)).toNat &&& (1 : Int).toNat : Nat) : Int) = (((mG (Vh (Qw (Qw (Qw a))) n) j).getD j 0) / 65536) % 2 by have hand := Qpy (((mG (Vh (Qw (Qw (Qw a))) n) j).getD j 0) / 65536); omega)) (Vy (b := 1) rfl rfl oM oM)) <| Zx (i64 ((((mG (Vh (Qw (Qw (Qw a))) n) j).getD j 0) / 65536) % 2)) ?_
    refine rN (sR ?_)
    refine X9 s5 <| X9 s5 <| Qd (Zj (r := (j + 1)) oM X6 Hz s1 rfl oM sD) <| Qd (v := (i64 ((Vh (Qw (Qw (Qw a))) n).getD (j + 1) 0))) (Qi uT2 rfl rfl m18.h1 (Qu _ _ 0 sD)) <| Zm (i64 32767) <| Qd (Yg (b := 32767) rfl rfl oM oM) <| Zm (i64 ((((mG (Vh (Qw (Qw (Qw a))) n) j).getD j 0) / 65536) % 2)) <| Qd (Yg rfl rfl oM oM) <| Qd (Zj (r := (j + 1)) oM X6 Hz s4 rfl oM sD) <| Ye m18 (Xw (f := i64) Zw Hz rfl rfl m18.h0 sD (.inl (aJ _))) fun w21 m21 => rN ?_
    have hq : ((mG (Vh (Qw (Qw (Qw a))) n) j).set (j + 1) ((((Vh (Qw (Qw (Qw a))) n).getD (j + 1) 0) - 32767) - ((((mG (Vh (Qw (Qw (Qw a))) n) j).getD j 0) / 65536) % 2))).getD j 0 = (mG (Vh (Qw (Qw (Qw a))) n) j).getD j 0 := Kq oM
    refine Qb <| X9 s5 <| Qd (Jv.cast (congrArg i64 (show ((j + 1 : Nat) : Int) - 1 = ((j : Nat) : Int) by omega)) (Yg (b := 1) rfl rfl oM oM)) <| X9 s5 <| Qd (Jv.cast (congrArg i64 (show ((j + 1 : Nat) : Int) - 1 = ((j : Nat) : Int) by omega)) (Yg (b := 1) rfl rfl oM oM)) <| Qd (Zj (r := j) oM X6 Hz s4 rfl oM sD) <| Qd (Qi uT2 rfl rfl m21.h0 (Qu _ _ 0 sD)) <| Qd (Jv.cast (congrArg i64 (show (((aB 64 (((mG (Vh (Qw (Qw (Qw a))) n) j).set (j + 1) ((((Vh (Qw (Qw (Qw a))) n).getD (j + 1) 0) - 32767) - ((((mG (Vh (Qw (Qw (Qw a))) n) j).getD j 0) / 65536) % 2))).getD j 0)).toNat &&& (65535 : Int).toNat : Nat) : Int) = (((mG (Vh (Qw (Qw (Qw a))) n) j).set (j + 1) ((((Vh (Qw (Qw (Qw a))) n).getD (j + 1) 0) - 32767) - ((((mG (Vh (Qw (Qw (Qw a))) n) j).getD j 0) / 65536) % 2))).getD j 0) % 65536 by have hand := Qgz (((mG (Vh (Qw (Qw (Qw a))) n) j).set (j + 1) ((((Vh (Qw (Qw (Qw a))) n).getD (j + 1) 0) - 32767) - ((((mG (Vh (Qw (Qw (Qw a))) n) j).getD j 0) / 65536) % 2))).getD j 0); omega)) (Vy (b := 65535) rfl rfl oM oM)) <| Qd (Zj (r := j) oM X6 Hz s4 rfl oM sD) <| Ye m21 (Xw (f := i64) Zw Hz rfl rfl m21.h0 sD (.inl (aJ _))) fun w22 m22 => ?_
    refine Zp (Qe (Qb ?_))
    refine X9 s5 <| Qd (Zg (b := 1) rfl rfl oM oM) <| Zx (i64 (((j + 1 : Nat) : Int) + 1)) <| rN ?_
    have hcn : ((mG (Vh (Qw (Qw (Qw a))) n) j).set (j + 1) ((((Vh (Qw (Qw (Qw a))) n).getD (j + 1) 0) - 32767) - ((((mG (Vh (Qw (Qw (Qw a))) n) j).getD j 0) / 65536) % 2))).set j ((((mG (Vh (Qw (Qw (Qw a))) n) j).set (j + 1) ((((Vh (Qw (Qw (Qw a))) n).getD (j + 1) 0) - 32767) - ((((mG (Vh (Qw (Qw (Qw a))) n) j).getD j 0) / 65536) % 2))).getD j 0) % 65536) = mG (Vh (Qw (Qw (Qw a))) n) (j + 1) := by show _ = Qbu _ _ _; unfold Qbu; rw [if_pos oM]
    exact ⟨⟨j + 1, oM, s0, s1, s2, s3, s4, rfl, s15, (by rw [← hcn]; exact m22)⟩, Uj rfl z5 oM oM⟩
   ·
    have hc20p := ne_of_beq_false hc20
    refine Qo (Qc (sR ?_))
    refine X9 s5 <| Qd (Jv.cast (congrArg i64 (show ((j + 1 : Nat) : Int) - 1 = ((j : Nat) : Int) by omega)) (Yg (b := 1) rfl rfl oM oM)) <| Qd (Zj (r := j) oM X6 Hz s4 rfl oM sD) <| Qd (Qi uT2 rfl rfl m18.h0 (Qu _ _ 0 sD)) <| Qd (Ai (p := 65536) (b := 16) rfl rfl rfl Yx Yx) <| Qd (Jv.cast (congrArg i64 (show (((aB 64 (((mG (Vh (Qw (Qw (Qw a))) n) j).getD j 0) / 65536)).toNat &&& (1 : Int).toNat : Nat) : Int) = (((mG (Vh (Qw (Qw (Qw a))) n) j).getD j 0) / 65536) % 2 by have hand := Qpy (((mG (Vh (Qw (Qw (Qw a))) n) j).getD j 0) / 65536); omega)) (Vy (b := 1) rfl rfl oM oM)) <| Zx (i64 ((((mG (Vh (Qw (Qw (Qw a))) n) j).getD j 0) / 65536) % 2)) ?_
    refine rN (sR ?_)
    refine X9 s5 <| X9 s5 <| Qd (Zj (r := (j + 1)) oM X6 Hz s1 rfl oM sD) <| Qd (v := (i64 ((Vh (Qw (Qw (Qw a))) n).getD (j + 1) 0))) (Qi uT2 rfl rfl m18.h1 (Qu _ _ 0 sD)) <| Zm (i64 65535) <| Qd (Yg (b := 65535) rfl rfl oM oM) <| Zm (i64 ((((mG (Vh (Qw (Qw (Qw a))) n) j).getD j 0) / 65536) % 2)) <| Qd (Yg rfl rfl oM oM) <| Qd (Zj (r := (j + 1)) oM X6 Hz s4 rfl oM sD) <| Ye m18 (Xw (f := i64) Zw Hz rfl rfl m18.h0 sD (.inl (aJ _))) fun w23 m23 => rN ?_
    have hq : ((mG (Vh (Qw (Qw (Qw a))) n) j).set (j + 1) ((((Vh (Qw (Qw (Qw a))) n).getD (j + 1) 0) - 65535) - ((((mG (Vh (Qw (Qw (Qw a))) n) j).getD j 0) / 65536) % 2))).getD j 0 = (mG (Vh (Qw (Qw (Qw a))) n) j).getD j 0 := Kq oM
    refine Qb <| X9 s5 <| Qd (Jv.cast (congrArg i64 (show ((j + 1 : Nat) : Int) - 1 = ((j : Nat) : Int) by omega)) (Yg (b := 1) rfl rfl oM oM)) <| X9 s5 <| Qd (Jv.cast (congrArg i64 (show ((j + 1 : Nat) : Int) - 1 = ((j : Nat) : Int) by omega)) (Yg (b := 1) rfl rfl oM oM)) <| Qd (Zj (r := j) oM X6 Hz s4 rfl oM sD) <| Qd (Qi uT2 rfl rfl m23.h0 (Qu _ _ 0 sD)) <| Qd (Jv.cast (congrArg i64 (show (((aB 64 (((mG (Vh (Qw (Qw (Qw a))) n) j).set (j + 1) ((((Vh (Qw (Qw (Qw a))) n).getD (j + 1) 0) - 65535) - ((((mG (Vh (Qw (Qw (Qw a))) n) j).getD j 0) / 65536) % 2))).getD j 0)).toNat &&& (65535 : Int).toNat : Nat) : Int) = (((mG (Vh (Qw (Qw (Qw a))) n) j).set (j + 1) ((((Vh (Qw (Qw (Qw a))) n).getD (j + 1) 0) - 65535) - ((((mG (Vh (Qw (Qw (Qw a))) n) j).getD j 0) / 65536) % 2))).getD j 0) % 65536 by have hand := Qgz (((mG (Vh (Qw (Qw (Qw a))) n) j).set (j + 1) ((((Vh (Qw (Qw (Qw a))) n).getD (j + 1) 0) - 65535) - ((((mG (Vh (Qw (Qw (Qw a))) n) j).getD j 0) / 65536) % 2))).getD j 0); omega)) (Vy (b := 65535) rfl rfl oM oM)) <| Qd (Zj (r := j) oM X6 Hz s4 rfl oM sD) <| Ye m23 (Xw (f := i64) Zw Hz rfl rfl m23.h0 sD (.inl (aJ _))) fun w24 m24 => ?_
    refine Zp (Qe (Qb ?_))
    refine X9 s5 <| Qd (Zg (b := 1) rfl rfl oM oM) <| Zx (i64 (((j + 1 : Nat) : Int) + 1)) <| rN ?_
    have hcn : ((mG (Vh (Qw (Qw (Qw a))) n) j).set (j + 1) ((((Vh (Qw (Qw (Qw a))) n).getD (j + 1) 0) - 65535) - ((((mG (Vh (Qw (Qw (Qw a))) n) j).getD j 0) / 65536) % 2))).set j ((((mG (Vh (Qw (Qw (Qw a))) n) j).set (j + 1) ((((Vh (Qw (Qw (Qw a))) n).getD (j + 1) 0) - 65535) - ((((mG (Vh (Qw (Qw (Qw a))) n) j).getD j 0) / 65536) % 2))).getD j 0) % 65536) = mG (Vh (Qw (Qw (Qw a))) n) (j + 1) := by show _ = Qbu _ _ _; unfold Qbu; rw [if_neg oM]
    exact ⟨⟨j + 1, oM, s0, s1, s2, s3, s4, rfl, s15, (by rw [← hcn]; exact m24)⟩, Uj rfl z5 oM oM⟩
  ·
   have hc19p := of_decide_eq_false hc19
   obtain rfl : j = 15 := by omega
   have hmi := Qqj hgn 15 oM
   have hml := Bf (Vh (Qw (Qw (Qw a))) n) 15
   refine X3 ?_
   refine Qj (Qj (Xk ?_))
   refine sR <| Qd (Xr 15 15 X6 Hz s4) <| Qd (Qi uT2 rfl rfl m18.h0 (Qu _ _ 0 sD)) <| Qd (Ey (b := 0) rfl rfl) <| rN ?_
   refine Zz rfl (fun hc25 => ?_) (fun hc25 => ?_)
   ·
    have hc25p := of_decide_eq_true hc25
    refine Qb <| Qd (Qn X6 rfl Z7 s4 m18.h0 sZ) <| Vs m18 (Qg (f := i64) (l := mG (Vh (Qw (Qw (Qw a))) n) 15) Zw Z7 s1 rfl sD m18.h1 sZ rfl) fun w26 m26 => ?_
    refine Zp (Qe (Qb ?_))
    refine X9 s3 <| Qd (Zg (b := 1) rfl rfl oM oM) <| Zx (i64 ((n : Int) + 1)) <| rN ?_
    have hcr : mG (Vh (Qw (Qw (Qw a))) n) 15 = Vh (Qw (Qw (Qw a))) (n + 1) := by show _ = Qim _; unfold Qim; rw [if_pos oM]
    have m27 := Mem.drop [_] _ m26
    exact ⟨⟨n + 1, oM, s0, s1, s2, rfl, (by rw [← hcr]; exact m27)⟩, Uj rfl z3 oM oM⟩
   ·
    have hc25p := of_decide_eq_false hc25
    refine Qo (Qe (Qb ?_))
    refine X9 s3 <| Qd (Zg (b := 1) rfl rfl oM oM) <| Zx (i64 ((n : Int) + 1)) <| rN ?_
    have hcr : Vh (Qw (Qw (Qw a))) n = Vh (Qw (Qw (Qw a))) (n + 1) := by show _ = Qim _; unfold Qim; rw [if_neg oM]
    have m28 := Mem.drop [_] _ m18
    exact ⟨⟨n + 1, oM, s0, s1, s2, rfl, (by rw [← hcr]; exact m28)⟩, Uj rfl z3 oM oM⟩
 ·
  have hc13p := of_decide_eq_false hc13
  obtain rfl : n = 2 := by omega
  refine X3 ?_
  refine Qj (Qj (Xk ?_))
  refine sR <| Qd (Ve (ps := []) (c := (cl u8 (aA 32 0))) Zh Xn Yr Ya rfl) <| Y5 (Q7 m12 Zh) fun w29 b8 m29 => Ye m29 (Qg (f := u8) (l := aA 32 0) Qr Zh rfl rfl sD m29.h0 sZ rfl) fun w30 m30 => ?_
  refine rN (Qa (sR ?_))
  refine Zx (i64 0) ?_
  refine rN (Qh ?_)
  refine Y1 (fun g wv => ∃ (i : Nat), (i ≤ 16) ∧ g 0 = (agg i64 a) ∧ g 1 = (ptr b1 0) ∧ g 2 = (ptr b2 0) ∧ g 3 = (i64 (2 : Int)) ∧ g 8 = (ptr b8 0) ∧ g 9 = (i64 (i : Int)) ∧ g 15 = (bl (decide ((2 : Int) < 2))) ∧ Mem wv (Qs w0) [(b8, .cells (cl u8 (Qij (Vh (Qw (Qw (Qw a))) 2) i)) 23 (0, 0)), (b1, .cells (cl i64 (Vh (Qw (Qw (Qw a))) 2)) 109 (0, 0)), (b2, .cells (cl u8 (aA 32 0)) 23 (0, 0))]) (fun g wv => (16 - aT (g 9)).toNat) ?_ ?_
  ·exact ⟨0, oM, s0, s1, s2, s3, rfl, rfl, rfl, (by rw [Qtd]; exact m30)⟩
  rintro fr31 w32 ⟨i, hi, s0, s1, s2, s3, s8, s9, s15, m32⟩
  have z9 := s9
  have hwl := L6 (Vh (Qw (Qw (Qw a))) 2) i
  refine Qa (sR ?_)
  refine X9 s9 <| Qd (Xd (b := 16) rfl rfl) <| rN ?_
  refine Zz rfl (fun hc33 => ?_) (fun hc33 => ?_)
  ·
   have hc33p := of_decide_eq_true hc33
   have hab := hgn.bd i oM
   refine Qo (Qc (Qa (Qh (sR ?_))))
   refine X9 s9 <| Qd (Jv.cast (congrArg i64 (show 2 * (i : Int) = ((2 * i : Nat) : Int) by omega)) (Ku (a := 2) rfl rfl oM oM)) <| X9 s9 <| Qd (Zj (r := i) oM X6 Hz s1 rfl oM sD) <| Qd (Qi uT2 rfl rfl m32.h1 (Qu _ _ 0 sD)) <| Qd (Fq ⟨_, uT2⟩ V3 rfl) <| Qd (Zj (r := (2 * i)) oM Xn Yr s8 rfl oM sD) <| Ye m32 (Xw (f := u8) (a := aB 8 ((Vh (Qw (Qw (Qw a))) 2).getD i 0)) Qr Yr rfl rfl m32.h0 sD (.inl (aJ _))) fun w34 m34 => ?_
   refine rN (Qb ?_)
   refine X9 s9 <| Qd (Ku (a := 2) rfl rfl oM oM) <| Qd (Jv.cast (congrArg i64 (show (2 * (i : Int)) + 1 = ((2 * i + 1 : Nat) : Int) by omega)) (Zg (b := 1) rfl rfl oM oM)) <| X9 s9 <| Qd (Zj (r := i) oM X6 Hz s1 rfl oM sD) <| Qd (Qi uT2 rfl rfl m34.h1 (Qu _ _ 0 sD)) <| Qd (Ai (p := 256) (b := 8) rfl rfl rfl Yx Yx) <| Qd (Fq ⟨_, uT2⟩ V3 rfl) <| Qd (Zj (r := (2 * i + 1)) oM Xn Yr s8 rfl oM sD) <| Ye m34 (Xw (f := u8) (a := aB 8 (((Vh (Qw (Qw (Qw a))) 2).getD i 0) / 256)) Qr Yr rfl rfl m34.h0 sD (.inl (aJ _))) fun w35 m35 => ?_
   refine Zp (Qe (Qb ?_))
   refine X9 s9 <| Qd (Zg (b := 1) rfl rfl oM oM) <| Zx (i64 ((i : Int) + 1)) <| rN ?_
   exact ⟨⟨i + 1, oM, s0, s1, s2, s3, s8, rfl, s15, (by rw [Qld]; exact m35)⟩, Uj rfl z9 oM oM⟩
  ·
   have hc33p := of_decide_eq_false hc33
   obtain rfl : i = 16 := by omega
   have hwl := L6 (Vh (Qw (Qw (Qw a))) 2) 16
   refine X3 ?_
   refine Qj (Qj (Xk ?_))
   refine sR <| Qd (Qn Xn rfl Zh s8 m32.h0 sZ) <| Bj m32 (Qg (f := u8) (l := Qij (Vh (Qw (Qw (Qw a))) 2) 16) Qr Zh s2 rfl sD m32.h2 sZ rfl) fun w36 m36 => ?_
   refine rN (Z8 ?_)
   refine Qq [(agg u8 (Qij (Vh (Qw (Qw (Qw a))) 2) 16))] ⟨⟨_, s2, Xm Xn rfl Zh m36.h2 sZ⟩, trivial⟩ ?_
   exact ⟨by unfold Qcq; rfl, m36.toExt⟩
end Go.Proofs.YtkmiemlpfkfiiaaDoor
