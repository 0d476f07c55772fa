/- Contracts: the document's numbers. Conditions: none beyond those that each theorem states. -/
import Derived.Test.YtkmiemlpfkfiiaaDoorCu2
import Derived.Test.YtkmiemlpfkfiiaaDoorCuN
namespace Go.Proofs.YtkmiemlpfkfiiaaDoor
open Tryd
set_option linter.unusedVariables false
set_option linter.unusedSimpArgs false
set_option maxHeartbeats 1000000 in
theorem Qat (l : List Int) (w0 : World)  (hl : l.length = 16) (hb : Bd (-1000000000000000) 1000000000000000 l) : X9 prog 90 #[(agg i64 l)] w0 (fun r w1 => r = (agg i64 (Q7 l)) ∧ Ext w0 w1) := by
 refine Zb (args := [(agg i64 l)]) func90 rfl ntmps90 results90 rfl ?_
 have m0 : Mem w0 (Qu w0) [] := Mem.of_world w0
 refine sR <| Y9 (Xa (f := i64) (l := l) m0 rfl) fun w1 b1 m1 => Y9 (Zc m1 Xc) fun w2 b2 m2 => ?_
 refine rN (Qa (sR ?_))
 refine Zz (i64 0) ?_
 refine rN (Qk ?_)
 refine Y7 (fun g wv => ∃ (i : Nat), (i ≤ 16) ∧ g 0 = (agg i64 l) ∧ g 1 = (ptr b1 0) ∧ g 2 = (ptr b2 0) ∧ g 3 = (i64 (i : Int)) ∧ Mem wv (Qu w0) [(b2, .cells (cl i64 (List.replicate 16 0)) 109 (0, 0)), (b1, .cells (cl i64 (Ue l i)) 109 (0, 0))]) (fun g wv => (16 - RowKit.intOf (g 3)).toNat) ?_ ?_
 ·exact ⟨0, oM, rfl, rfl, rfl, rfl, m2⟩
 rintro fr3 w4 ⟨i, hi, s0, s1, s2, s3, m4⟩
 have z3 := s3
 have hgl := Qa7 l i
 refine Qa (sR ?_)
 refine Ya s3 <| Qd (Z9 (b := 16) rfl rfl) <| rN ?_
 refine Z8 rfl (fun hc5 => ?_) (fun hc5 => ?_)
 ·
  have hc5p := of_decide_eq_true hc5
  obtain ⟨hI1, hI2, hI3, hI4⟩ := crGo_inv hl hb i oM
  refine Qs (Qc (Qa (Qk (sR ?_))))
  refine Ya s3 <| Qd (Zo (r := i) oM Yd H6 s1 rfl oM sD) <| Qd (Ql uT2 rfl rfl m4.h1 (Qx _ _ 0 sD)) <| Qd (Ai (p := 65536) (b := 16) rfl rfl rfl Jg Jg) <| Zz (i64 (((Ue l i).getD i 0) / 65536)) ?_
  refine rN (sR ?_)
  refine Ya s3 <| Qd (Zo (r := i) oM Yd H6 s1 rfl oM sD) <| Qd (Ql uT2 rfl rfl m4.h1 (Qx _ _ 0 sD)) <| Zp (i64 (((Ue l i).getD i 0) / 65536)) <| Qd (Qa5 (p := 65536) (b := 16) rfl rfl rfl Jg Jg oM oM) <| Qd (Yk rfl rfl oM oM) <| Qd (Zo (r := i) oM Yd H6 s1 rfl oM sD) <| Vz m4 (Xz (f := i64) Z4 H6 rfl rfl m4.h1 sD (.inl (Nat.zero_le _))) fun w6 m6 => ?_
  refine rN (sR ?_)
  refine Ya s3 <| Qd (Z9 (b := 15) rfl rfl) <| rN ?_
  refine Z8 rfl (fun hc7 => ?_) (fun hc7 => ?_)
  ·
   have hc7p := of_decide_eq_true hc7
   have hq : ((Ue l i).set i (((Ue l i).getD i 0) - ((((Ue l i).getD i 0) / 65536) * 65536))).getD (i + 1) 0 = l.getD (i + 1) 0 := by rw [Wh oM]; exact hI2 (i + 1) oM
   have hq2 := hb (i + 1) oM
   refine Qb <| Ya s3 <| Qd (Ko.cast (congrArg i64 (show (i : Int) + 1 = ((i + 1 : Nat) : Int) by omega)) (Zg (b := 1) rfl rfl oM oM)) <| Qd (Zo (r := (i + 1)) oM Yd H6 s1 rfl oM sD) <| Qd (v := (i64 (((Ue l i).set i (((Ue l i).getD i 0) - ((((Ue l i).getD i 0) / 65536) * 65536))).getD (i + 1) 0))) (Ql uT2 rfl rfl m6.h1 (Qx _ _ 0 sD)) <| Zp (i64 (((Ue l i).getD i 0) / 65536)) <| Qd (Zg rfl rfl oM oM) <| Qd (Zo (r := (i + 1)) oM Yd H6 s1 rfl oM sD) <| Vz m6 (Xz (f := i64) Z4 H6 rfl rfl m6.h1 sD (.inl (Nat.zero_le _))) fun w8 m8 => ?_
   refine Zv (Qh (Qb ?_))
   refine Ya s3 <| Qd (Zg (b := 1) rfl rfl oM oM) <| Zz (i64 ((i : Int) + 1)) <| rN ?_
   have hcn : ((Ue l i).set i (((Ue l i).getD i 0) - ((((Ue l i).getD i 0) / 65536) * 65536))).set (i + 1) ((((Ue l i).set i (((Ue l i).getD i 0) - ((((Ue l i).getD i 0) / 65536) * 65536))).getD (i + 1) 0) + (((Ue l i).getD i 0) / 65536)) = Ue l (i + 1) := by show _ = P7 _ _; unfold P7; rw [if_pos oM]
   exact ⟨⟨i + 1, oM, s0, s1, s2, rfl, (by rw [← hcn]; exact m8)⟩, Uo rfl z3 oM oM⟩
  ·
   have hc7p := of_decide_eq_false hc7
   have hq : ((Ue l i).set i (((Ue l i).getD i 0) - ((((Ue l i).getD i 0) / 65536) * 65536))).getD 0 0 = (Ue l i).getD 0 0 := Wh oM
   have hq2 := hI1 0 oM
   refine Qb <| Qd (Xv 0 0 Yd H6 s1) <| Qd (Ql uT2 rfl rfl m6.h1 (Qx _ _ 0 sD)) <| Zp (i64 (((Ue l i).getD i 0) / 65536)) <| Qd (Wl (a := 38) rfl rfl oM oM) <| Qd (Zg rfl rfl oM oM) <| Qd (Xv 0 0 Yd H6 s1) <| Vz m6 (Xz (f := i64) Z4 H6 rfl rfl m6.h1 sD (.inl (Nat.zero_le _))) fun w9 m9 => ?_
   refine Zv (Qh (Qb ?_))
   refine Ya s3 <| Qd (Zg (b := 1) rfl rfl oM oM) <| Zz (i64 ((i : Int) + 1)) <| rN ?_
   have hcn : ((Ue l i).set i (((Ue l i).getD i 0) - ((((Ue l i).getD i 0) / 65536) * 65536))).set 0 ((((Ue l i).set i (((Ue l i).getD i 0) - ((((Ue l i).getD i 0) / 65536) * 65536))).getD 0 0) + (38 * (((Ue l i).getD i 0) / 65536))) = Ue l (i + 1) := by show _ = P7 _ _; unfold P7; rw [if_neg oM]
   exact ⟨⟨i + 1, oM, s0, s1, s2, rfl, (by rw [← hcn]; exact m9)⟩, Uo rfl z3 oM oM⟩
 ·
  have hc5p := of_decide_eq_false hc5
  obtain rfl : i = 16 := by omega
  have hgl := Qa7 l 16
  refine X6 ?_
  refine Qm (Qm (Xi ?_))
  refine sR <| Qd (Qp Yd rfl Xc s1 m4.h1 sZ) <| Ye m4 (Qj (f := i64) (l := Ue l 16) Z4 Xc s2 rfl sD m4.h0 sZ rfl) fun w10 m10 => ?_
  refine rN (Xb ?_)
  refine Qv [(agg i64 (Ue l 16))] ⟨⟨_, s2, Xr Yd rfl Xc m10.h0 sZ⟩, trivial⟩ ?_
  exact ⟨by unfold Q7; rfl, m10.toExt⟩
set_option maxHeartbeats 1000000 in
theorem Qbg (a b : List Int) (w0 : World)  (ha : GoodR a) (hb : GoodR b) : X9 prog 64 #[(agg i64 a), (agg i64 b)] w0 (fun r w1 => r = (agg i64 (Kq a b)) ∧ Ext w0 w1) := by
 refine Zb (args := [(agg i64 a), (agg i64 b)]) func64 rfl ntmps64 results64 rfl ?_
 have m0 : Mem w0 (Qu w0) [] := Mem.of_world w0
 have hal := ha.len; have hbl := hb.len
 refine sR <| Y9 (Xa (f := i64) (l := a) m0 rfl) fun w1 b2 m1 => Y9 (Xa (f := i64) (l := b) m1 rfl) fun w2 b3 m2 => Y9 (Zc m2 Xc) fun w3 b4 m3 => ?_
 refine rN (Qa (sR ?_))
 refine Zz (i64 0) ?_
 refine rN (Qk ?_)
 refine Y7 (fun g wv => ∃ (i : Nat), (i ≤ 16) ∧ g 0 = (agg i64 a) ∧ g 1 = (agg i64 b) ∧ g 2 = (ptr b2 0) ∧ g 3 = (ptr b3 0) ∧ g 4 = (ptr b4 0) ∧ g 5 = (i64 (i : Int)) ∧ Mem wv (Qu w0) [(b4, .cells (cl i64 (List.replicate 16 0)) 109 (0, 0)), (b3, .cells (cl i64 b) 109 (0, 0)), (b2, .cells (cl i64 (Bv (· + ·) a b i)) 109 (0, 0))]) (fun g wv => (16 - RowKit.intOf (g 5)).toNat) ?_ ?_
 ·exact ⟨0, oM, rfl, rfl, rfl, rfl, rfl, rfl, m3⟩
 rintro fr4 w5 ⟨i, hi, s0, s1, s2, s3, s4, s5, m5⟩
 have z5 := s5
 have hgl := Ve (· + ·) a b i
 refine Qa (sR ?_)
 refine Ya s5 <| Qd (Z9 (b := 16) rfl rfl) <| rN ?_
 refine Z8 rfl (fun hc6 => ?_) (fun hc6 => ?_)
 ·
  have hc6p := of_decide_eq_true hc6
  have hg : (Bv (· + ·) a b i).getD i 0 = a.getD i 0 := by rw [Qdy, if_neg oM]
  have hg1 := ha.bd i oM
  have hg2 := hb.bd i oM
  refine Qs (Qc (Qa (Qk ?_)))
  refine Xl (dl 6) 6 Xw <| Um rfl s5 <| Yb rfl (Zo (r := i) oM Yd H6 s2 rfl oM sD) <| Yn rfl (fun _ e' => Ql uT2 rfl rfl (m5.ext e').h2 (Qx _ _ 0 sD)) <| Um rfl s5 <| Yb rfl (Zo (r := i) oM Yd H6 s3 rfl oM sD) <| Yn rfl (fun _ e' => Ql uT2 rfl rfl (m5.ext e').h1 (Qx _ _ 0 sD)) <| Gs m5 fun w7 m7 => Qd (Zg rfl rfl oM oM) <| Qd (Zo (r := i) oM Yd H6 s2 rfl oM sD) <| Bh m7 (Xz (f := i64) Z4 H6 rfl rfl m7.h2 sD (.inl (Nat.zero_le _))) fun w8 m8 => ?_
  refine Zv (Qh (Qb ?_))
  refine Ya s5 <| Qd (Zg (b := 1) rfl rfl oM oM) <| Zz (i64 ((i : Int) + 1)) <| rN ?_
  exact ⟨⟨i + 1, oM, s0, s1, s2, s3, s4, rfl, m8⟩, Uo rfl z5 oM oM⟩
 ·
  have hc6p := of_decide_eq_false hc6
  obtain rfl : i = 16 := by omega
  have hgl := Ve (· + ·) a b 16
  refine X6 ?_
  refine Qm (Qm (Xi ?_))
  refine sR <| Qd (Qp Yd rfl Xc s2 m5.h2 sZ) <| U9 m5 (oc90 (Kt rfl) (Qat _ _ (by rw [Ve, hal]) (Qjv ha hb (by intro x y hx hy; show -1000000000000000 ≤ x + y ∧ x + y ≤ 1000000000000000; omega)))) fun w9 m9 => Ye m9 (Qj (f := i64) (l := Q7 (Bv (· + ·) a b 16)) Z4 Xc s4 rfl sD m9.h0 sZ rfl) fun w11 m11 => ?_
  refine rN (Xb ?_)
  refine Qv [(agg i64 (Q7 (Bv (· + ·) a b 16)))] ⟨⟨_, s4, Xr Yd rfl Xc m11.h0 sZ⟩, trivial⟩ ?_
  exact ⟨by unfold Kq; rfl, m11.toExt⟩
set_option maxHeartbeats 1000000 in
theorem Rl (a b : List Int) (w0 : World)  (ha : GoodR a) (hb : GoodR b) : X9 prog 65 #[(agg i64 a), (agg i64 b)] w0 (fun r w1 => r = (agg i64 (Yx a b)) ∧ Ext w0 w1) := by
 refine Zb (args := [(agg i64 a), (agg i64 b)]) func65 rfl ntmps65 results65 rfl ?_
 have m0 : Mem w0 (Qu w0) [] := Mem.of_world w0
 have hal := ha.len; have hbl := hb.len
 refine sR <| Y9 (Xa (f := i64) (l := a) m0 rfl) fun w1 b2 m1 => Y9 (Xa (f := i64) (l := b) m1 rfl) fun w2 b3 m2 => Y9 (Zc m2 Xc) fun w3 b4 m3 => ?_
 refine rN (Qa (sR ?_))
 refine Zz (i64 0) ?_
 refine rN (Qk ?_)
 refine Y7 (fun g wv => ∃ (i : Nat), (i ≤ 16) ∧ g 0 = (agg i64 a) ∧ g 1 = (agg i64 b) ∧ g 2 = (ptr b2 0) ∧ g 3 = (ptr b3 0) ∧ g 4 = (ptr b4 0) ∧ g 5 = (i64 (i : Int)) ∧ Mem wv (Qu w0) [(b4, .cells (cl i64 (List.replicate 16 0)) 109 (0, 0)), (b3, .cells (cl i64 b) 109 (0, 0)), (b2, .cells (cl i64 (Bv (· - ·) a b i)) 109 (0, 0))]) (fun g wv => (16 - RowKit.intOf (g 5)).toNat) ?_ ?_
 ·exact ⟨0, oM, rfl, rfl, rfl, rfl, rfl, rfl, m3⟩
 rintro fr4 w5 ⟨i, hi, s0, s1, s2, s3, s4, s5, m5⟩
 have z5 := s5
 have hgl := Ve (· - ·) a b i
 refine Qa (sR ?_)
 refine Ya s5 <| Qd (Z9 (b := 16) rfl rfl) <| rN ?_
 refine Z8 rfl (fun hc6 => ?_) (fun hc6 => ?_)
 ·
  have hc6p := of_decide_eq_true hc6
  have hg : (Bv (· - ·) a b i).getD i 0 = a.getD i 0 := by rw [Qdy, if_neg oM]
  have hg1 := ha.bd i oM
  have hg2 := hb.bd i oM
  refine Qs (Qc (Qa (Qk ?_)))
  refine Xl (dl 6) 6 Xw <| Um rfl s5 <| Yb rfl (Zo (r := i) oM Yd H6 s2 rfl oM sD) <| Yn rfl (fun _ e' => Ql uT2 rfl rfl (m5.ext e').h2 (Qx _ _ 0 sD)) <| Um rfl s5 <| Yb rfl (Zo (r := i) oM Yd H6 s3 rfl oM sD) <| Yn rfl (fun _ e' => Ql uT2 rfl rfl (m5.ext e').h1 (Qx _ _ 0 sD)) <| Gs m5 fun w7 m7 => Qd (Yk rfl rfl oM oM) <| Qd (Zo (r := i) oM Yd H6 s2 rfl oM sD) <| Bh m7 (Xz (f := i64) Z4 H6 rfl rfl m7.h2 sD (.inl (Nat.zero_le _))) fun w8 m8 => ?_
  refine Zv (Qh (Qb ?_))
  refine Ya s5 <| Qd (Zg (b := 1) rfl rfl oM oM) <| Zz (i64 ((i : Int) + 1)) <| rN ?_
  exact ⟨⟨i + 1, oM, s0, s1, s2, s3, s4, rfl, m8⟩, Uo rfl z5 oM oM⟩
 ·
  have hc6p := of_decide_eq_false hc6
  obtain rfl : i = 16 := by omega
  have hgl := Ve (· - ·) a b 16
  refine X6 ?_
  refine Qm (Qm (Xi ?_))
  refine sR <| Qd (Qp Yd rfl Xc s2 m5.h2 sZ) <| U9 m5 (oc90 (Kt rfl) (Qat _ _ (by rw [Ve, hal]) (Qjv ha hb (by intro x y hx hy; show -1000000000000000 ≤ x - y ∧ x - y ≤ 1000000000000000; omega)))) fun w9 m9 => Ye m9 (Qj (f := i64) (l := Q7 (Bv (· - ·) a b 16)) Z4 Xc s4 rfl sD m9.h0 sZ rfl) fun w11 m11 => ?_
  refine rN (Xb ?_)
  refine Qv [(agg i64 (Q7 (Bv (· - ·) a b 16)))] ⟨⟨_, s4, Xr Yd rfl Xc m11.h0 sZ⟩, trivial⟩ ?_
  exact ⟨by unfold Yx; rfl, m11.toExt⟩
set_option maxHeartbeats 1000000 in
theorem Gf (a b : List Int) (w0 : World)  (ha : GoodR a) (hb : GoodR b) : X9 prog 66 #[(agg i64 a), (agg i64 b)] w0 (fun r w1 => r = (agg i64 (Xj a b)) ∧ Ext w0 w1) := by
 refine Zb (args := [(agg i64 a), (agg i64 b)]) func66 rfl ntmps66 results66 rfl ?_
 have m0 : Mem w0 (Qu w0) [] := Mem.of_world w0
 have hal := ha.len; have hbl := hb.len
 refine sR <| Y9 (Xa (f := i64) (l := a) m0 rfl) fun w1 b2 m1 => Y9 (Xa (f := i64) (l := b) m1 rfl) fun w2 b3 m2 => Y9 (Zc m2 Xc) fun w3 b4 m3 => ?_
 refine rN (sR ?_)
 refine Qd (Vo (ps := []) (c := (cl i64 (List.replicate 31 0))) ti141 Qmt H6 X7 rfl) <| Y9 (Zc m3 ti141) fun w4 b5 m4 => Ye m4 (Qj (f := i64) (l := List.replicate 31 0) Z4 ti141 rfl rfl sD m4.h0 sZ rfl) fun w5 m5 => ?_
 refine rN (Qa (sR ?_))
 refine Zz (i64 0) ?_
 refine rN (Qk ?_)
 refine Y7 (fun g wv => ∃ (i : Nat), (i ≤ 16) ∧ g 0 = (agg i64 a) ∧ g 1 = (agg i64 b) ∧ g 2 = (ptr b2 0) ∧ g 3 = (ptr b3 0) ∧ g 4 = (ptr b4 0) ∧ g 5 = (ptr b5 0) ∧ g 6 = (i64 (i : Int)) ∧ Mem wv (Qu w0) [(b5, .cells (cl i64 (Et a b i)) 141 (0, 0)), (b4, .cells (cl i64 (List.replicate 16 0)) 109 (0, 0)), (b3, .cells (cl i64 b) 109 (0, 0)), (b2, .cells (cl i64 a) 109 (0, 0))]) (fun g wv => (16 - RowKit.intOf (g 6)).toNat) ?_ ?_
 ·exact ⟨0, oM, rfl, rfl, rfl, rfl, rfl, rfl, rfl, m5⟩
 rintro fr6 w7 ⟨i, hi, s0, s1, s2, s3, s4, s5, s6, m7⟩
 have z6 := s6
 have htl := L9 a b i
 refine Qa (sR ?_)
 refine Ya s6 <| Qd (Z9 (b := 16) rfl rfl) <| rN ?_
 refine Z8 rfl (fun hc8 => ?_) (fun hc8 => ?_)
 ·
  have hc8p := of_decide_eq_true hc8
  refine Qs (Qc (Qa (Qk (sR ?_))))
  refine Zz (i64 0) ?_
  refine rN (V5 ?_)
  refine Y7 (fun g wv => ∃ (k : Nat), (k ≤ 16) ∧ g 0 = (agg i64 a) ∧ g 1 = (agg i64 b) ∧ g 2 = (ptr b2 0) ∧ g 3 = (ptr b3 0) ∧ g 4 = (ptr b4 0) ∧ g 5 = (ptr b5 0) ∧ g 6 = (i64 (i : Int)) ∧ g 7 = (i64 (k : Int)) ∧ g 12 = (bl (decide ((i : Int) < 16))) ∧ Mem wv (Qu w0) [(b5, .cells (cl i64 (Qek a b i (Et a b i) k)) 141 (0, 0)), (b4, .cells (cl i64 (List.replicate 16 0)) 109 (0, 0)), (b3, .cells (cl i64 b) 109 (0, 0)), (b2, .cells (cl i64 a) 109 (0, 0))]) (fun g wv => (16 - RowKit.intOf (g 7)).toNat) ?_ ?_
  ·exact ⟨0, oM, s0, s1, s2, s3, s4, s5, s6, rfl, rfl, m7⟩
  rintro fr9 w10 ⟨k, hk, s0, s1, s2, s3, s4, s5, s6, s7, s12, m10⟩
  have z7 := s7
  have hrl := Qa0 a b i (Et a b i) k
  refine Qa (sR ?_)
  refine Ya s7 <| Qd (Z9 (b := 16) rfl rfl) <| rN ?_
  refine Z8 rfl (fun hc11 => ?_) (fun hc11 => ?_)
  ·
   have hc11p := of_decide_eq_true hc11
   have m1 := mul_bd (ha.bd i oM) (hb.bd k oM)
   have m2 := Qp8 ha hb (show i < 16 by omega) (L9 a b i) (Qe4 ha hb i oM) k oM (i + k)
   refine Qs (Qc (Qa (Qk ?_)))
   refine Xl (dl 12) 12 Xw <| Um rfl s6 <| Um rfl s7 <| Yb rfl (Ko.cast (congrArg i64 (show (i : Int) + (k : Int) = ((i + k : Nat) : Int) by omega)) (Zg rfl rfl oM oM)) <| Yb rfl (Zo (r := (i + k)) oM Qmt H6 s5 rfl oM sD) <| Yn (v := (i64 ((Qek a b i (Et a b i) k).getD (i + k) 0))) rfl (fun _ e' => Ql uT2 rfl rfl (m10.ext e').h0 (Qx _ _ 0 sD)) <| Um rfl s6 <| Yb rfl (Zo (r := i) oM Yd H6 s2 rfl oM sD) <| Yn rfl (fun _ e' => Ql uT2 rfl rfl (m10.ext e').h3 (Qx _ _ 0 sD)) <| Um rfl s7 <| Yb rfl (Zo (r := k) oM Yd H6 s3 rfl oM sD) <| Yn rfl (fun _ e' => Ql uT2 rfl rfl (m10.ext e').h2 (Qx _ _ 0 sD)) ?_
   refine Yb rfl (Wl rfl rfl oM oM) <| Gs m10 fun w12 m12 => Qd (Zg rfl rfl oM oM) <| Qd (Zo (r := (i + k)) oM Qmt H6 s5 rfl oM sD) <| Ye m12 (Xz (f := i64) Z4 H6 rfl rfl m12.h0 sD (.inl (Nat.zero_le _))) fun w13 m13 => ?_
   refine Zv (Qh (Qb ?_))
   refine Ya s7 <| Qd (Zg (b := 1) rfl rfl oM oM) <| Zz (i64 ((k : Int) + 1)) <| rN ?_
   exact ⟨⟨k + 1, oM, s0, s1, s2, s3, s4, s5, s6, rfl, s12, m13⟩, Uo rfl z7 oM oM⟩
  ·
   have hc11p := of_decide_eq_false hc11
   obtain rfl : k = 16 := by omega
   refine X6 ?_
   refine Qm (Qm (Xi ?_))
   refine Qh (Qb ?_)
   refine Ya s6 <| Qd (Zg (b := 1) rfl rfl oM oM) <| Zz (i64 ((i : Int) + 1)) <| rN ?_
   exact ⟨⟨i + 1, oM, s0, s1, s2, s3, s4, s5, rfl, m10⟩, Uo rfl z6 oM oM⟩
 ·
  have hc8p := of_decide_eq_false hc8
  obtain rfl : i = 16 := by omega
  have htl := L9 a b 16
  refine X6 ?_
  refine Qm (Qm (Xi ?_))
  refine sR <| Qd (Vo (ps := []) (c := (cl i64 (List.replicate 16 0))) Xc Yd H6 X7 rfl) <| Y9 (Zc m7 Xc) fun w14 b8 m14 => Ye m14 (Qj (f := i64) (l := List.replicate 16 0) Z4 Xc rfl rfl sD m14.h0 sZ rfl) fun w15 m15 => ?_
  refine rN (Qa (sR ?_))
  refine Zz (i64 0) ?_
  refine rN (Qk ?_)
  refine Y7 (fun g wv => ∃ (i : Nat), (i ≤ 16) ∧ g 0 = (agg i64 a) ∧ g 1 = (agg i64 b) ∧ g 2 = (ptr b2 0) ∧ g 3 = (ptr b3 0) ∧ g 4 = (ptr b4 0) ∧ g 5 = (ptr b5 0) ∧ g 6 = (i64 (16 : Int)) ∧ g 8 = (ptr b8 0) ∧ g 9 = (i64 (i : Int)) ∧ g 12 = (bl (decide ((16 : Int) < 16))) ∧ Mem wv (Qu w0) [(b8, .cells (cl i64 (Y1 (Rt (Et a b 16)) 0 16 i)) 109 (0, 0)), (b5, .cells (cl i64 (Et a b 16)) 141 (0, 0)), (b4, .cells (cl i64 (List.replicate 16 0)) 109 (0, 0)), (b3, .cells (cl i64 b) 109 (0, 0)), (b2, .cells (cl i64 a) 109 (0, 0))]) (fun g wv => (16 - RowKit.intOf (g 9)).toNat) ?_ ?_
  ·exact ⟨0, oM, s0, s1, s2, s3, s4, s5, s6, rfl, rfl, rfl, (by rw [Em]; exact m15)⟩
  rintro fr16 w17 ⟨i, hi, s0, s1, s2, s3, s4, s5, s6, s8, s9, s12, m17⟩
  have z9 := s9
  have hfl : (Y1 (Rt (Et a b 16)) (0 : Int) 16 i).length = 16 := Kz _ _ _ _ hi
  refine Qa (sR ?_)
  refine Ya s9 <| Qd (Z9 (b := 16) rfl rfl) <| rN ?_
  refine Z8 rfl (fun hc18 => ?_) (fun hc18 => ?_)
  ·
   have hc18p := of_decide_eq_true hc18
   have ht1 := Qe4 ha hb 16 oM i
   have ht2 := Qe4 ha hb 16 oM (i + 16)
   refine Qs (Qc (Qa (Qk (sR ?_))))
   refine Ya s9 <| Ya s9 <| Qd (Zo (r := i) oM Qmt H6 s5 rfl oM sD) <| Qd (Ql uT2 rfl rfl m17.h1 (Qx _ _ 0 sD)) <| Qd (Zo (r := i) oM Yd H6 s8 rfl oM sD) <| Ye m17 (Xz (f := i64) Z4 H6 rfl rfl m17.h0 sD (.inl (Nat.zero_le _))) fun w19 m19 => ?_
   refine rN (sR ?_)
   refine Ya s9 <| Qd (Z9 (b := 15) rfl rfl) <| rN ?_
   refine Z8 rfl (fun hc20 => ?_) (fun hc20 => ?_)
   ·
    have hc20p := of_decide_eq_true hc20
    have hq : ((Y1 (Rt (Et a b 16)) 0 16 i).set i ((Et a b 16).getD i 0)).getD i 0 = (Et a b 16).getD i 0 := Uh oM
    refine Xl (dl 8) 8 Xw <| Um rfl s9 <| Yb rfl (Zo (r := i) oM Yd H6 s8 rfl oM sD) <| Yn rfl (fun _ e' => Ql uT2 rfl rfl (m19.ext e').h0 (Qx _ _ 0 sD)) <| Um rfl s9 <| Yb rfl (Ko.cast (congrArg i64 (show (i : Int) + 16 = ((i + 16 : Nat) : Int) by omega)) (Zg (b := 16) rfl rfl oM oM)) <| Yb rfl (Zo (r := (i + 16)) oM Qmt H6 s5 rfl oM sD) <| Yn (v := (i64 ((Et a b 16).getD (i + 16) 0))) rfl (fun _ e' => Ql uT2 rfl rfl (m19.ext e').h1 (Qx _ _ 0 sD)) <| Yb rfl (Wl (a := 38) rfl rfl oM oM) <| Gs m19 fun w21 m21 => Qd (Zg rfl rfl oM oM) <| Qd (Zo (r := i) oM Yd H6 s8 rfl oM sD) <| Ye m21 (Xz (f := i64) Z4 H6 rfl rfl m21.h0 sD (.inl (Nat.zero_le _))) fun w22 m22 => ?_
    refine Zv (Qh (Qb ?_))
    refine Ya s9 <| Qd (Zg (b := 1) rfl rfl oM oM) <| Zz (i64 ((i : Int) + 1)) <| rN ?_
    have hcn : ((Y1 (Rt (Et a b 16)) 0 16 i).set i ((Et a b 16).getD i 0)).set i ((((Y1 (Rt (Et a b 16)) 0 16 i).set i ((Et a b 16).getD i 0)).getD i 0) + (38 * ((Et a b 16).getD (i + 16) 0))) = Y1 (Rt (Et a b 16)) 0 16 (i + 1) := by rw [List.set_set, hq]; exact Ew (Rt (Et a b 16)) 0 oM _ (by unfold Rt; rw [if_pos oM])
    exact ⟨⟨i + 1, oM, s0, s1, s2, s3, s4, s5, s6, s8, rfl, s12, (by rw [← hcn]; exact m22)⟩, Uo rfl z9 oM oM⟩
   ·
    have hc20p := of_decide_eq_false hc20
    refine Qs (Qh (Qb ?_))
    refine Ya s9 <| Qd (Zg (b := 1) rfl rfl oM oM) <| Zz (i64 ((i : Int) + 1)) <| rN ?_
    have hcn : (Y1 (Rt (Et a b 16)) 0 16 i).set i ((Et a b 16).getD i 0) = Y1 (Rt (Et a b 16)) 0 16 (i + 1) := Ew (Rt (Et a b 16)) 0 oM _ (by unfold Rt; rw [if_neg oM])
    exact ⟨⟨i + 1, oM, s0, s1, s2, s3, s4, s5, s6, s8, rfl, s12, (by rw [← hcn]; exact m19)⟩, Uo rfl z9 oM oM⟩
  ·
   have hc18p := of_decide_eq_false hc18
   obtain rfl : i = 16 := by omega
   refine X6 ?_
   refine Qm (Qm (Xi ?_))
   refine sR <| Qd (Qp Yd rfl Xc s8 m17.h0 sZ) <| U9 m17 (oc90 (Kt rfl) (Qat _ _ sD (bd_carry ha hb))) fun w23 m23 => U9 m23 (oc90 (Kt rfl) (Qat _ _ sD (Qsg ha hb))) fun w25 m25 => Bh m25 (Qj (f := i64) (l := Q7 (Q7 (Y1 (Rt (Et a b 16)) 0 16 16))) Z4 Xc s4 rfl sD m25.h2 sZ rfl) fun w27 m27 => ?_
   refine rN (Xb ?_)
   refine Qv [(agg i64 (Q7 (Q7 (Y1 (Rt (Et a b 16)) 0 16 16))))] ⟨⟨_, s4, Xr Yd rfl Xc m27.h2 sZ⟩, trivial⟩ ?_
   exact ⟨by unfold Xj; rfl, m27.toExt⟩
set_option maxHeartbeats 1000000 in
theorem c_rinv (x : List Int) (w0 : World)  (hx : GoodR x) : X9 prog 68 #[(agg i64 x)] w0 (fun r w1 => r = (agg i64 (V4 x 255)) ∧ Ext w0 w1) := by
 refine Zb (args := [(agg i64 x)]) func68 rfl ntmps68 results68 rfl ?_
 have m0 : Mem w0 (Qu w0) [] := Mem.of_world w0
 have hxl := hx.len
 refine sR <| Y9 (Xa (f := i64) (l := x) m0 rfl) fun w1 b1 m1 => Y9 (Zc m1 Xc) fun w2 b2 m2 => ?_
 refine rN (sR ?_)
 refine Qd (G5 (c := (cl i64 ([1, 0, 0, 0, 0, 0, 0, 0, 0, 0, 0, 0, 0, 0, 0, 0]))) Xc Yd H6 (J3 (i := 0) (v := (i64 1)) (cs := #[(i64 1)]) rfl rfl V3) Xw) <| Y9 (Zc m2 Xc) fun w3 b3 m3 => Ye m3 (Qj (f := i64) (l := [1, 0, 0, 0, 0, 0, 0, 0, 0, 0, 0, 0, 0, 0, 0, 0]) Z4 Xc rfl rfl sD m3.h0 sZ rfl) fun w4 m4 => ?_
 refine rN (Qa (sR ?_))
 refine Zz (i64 254) ?_
 refine rN (Qk ?_)
 refine Y7 (fun g wv => ∃ (j : Nat), (j ≤ 255) ∧ g 0 = (agg i64 x) ∧ g 1 = (ptr b1 0) ∧ g 2 = (ptr b2 0) ∧ g 3 = (ptr b3 0) ∧ g 4 = (i64 (254 - (j : Int))) ∧ Mem wv (Qu w0) [(b3, .cells (cl i64 (V4 x j)) 109 (0, 0)), (b2, .cells (cl i64 (List.replicate 16 0)) 109 (0, 0)), (b1, .cells (cl i64 x) 109 (0, 0))]) (fun g wv => (RowKit.intOf (g 4) + 1).toNat) ?_ ?_
 ·exact ⟨0, oM, rfl, rfl, rfl, rfl, rfl, (by rw [Qno]; exact m4)⟩
 rintro fr5 w6 ⟨j, hj, s0, s1, s2, s3, s4, m6⟩
 have z4 := s4
 have hgj := Py hx j
 have hgl := hgj.len
 have hgk := Zk hgj hgj
 have hgl2 := hgk.len
 have hgl3 := (Zk hgk hx).len
 refine Qa (sR ?_)
 refine Ya s4 <| Qd (E8 (b := 0) rfl rfl) <| rN ?_
 refine Z8 rfl (fun hc7 => ?_) (fun hc7 => ?_)
 ·
  have hc7p := of_decide_eq_true hc7
  refine Qs (Qc (Qa (Qk (sR ?_))))
  refine Qd (Qp Yd rfl Xc s3 m6.h0 sZ) <| Qd (Qp Yd rfl Xc s3 m6.h0 sZ) <| U9 m6 (Qao (Xm rfl rfl) (Gf _ _ _ hgj hgj)) fun w8 m8 => Ye m8 (Qj (f := i64) (l := Xj (V4 x j) (V4 x j)) Z4 Xc s3 rfl sD m8.h0 sZ rfl) fun w10 m10 => ?_
  refine rN (sR ?_)
  refine Ya s4 <| Qd (Jw (b := 2) rfl rfl) <| Zp (bl ((254 - (j : Int)) != 2)) ?_
  rcases Bool.eq_false_or_eq_true ((254 - (j : Int)) != 2) with hb11 | hb11
  ·
   have hb11p := bne_iff_ne.1 hb11
   refine Z5 (s := 15) rfl rfl hb11 rfl (Yp s4) <| Z5 (s := 15) rfl rfl hb11 rfl (Jw (b := 4) rfl rfl) <| Qd (Vm rfl hb11 rfl) <| rN ?_
   refine Z8 rfl (fun hc12 => ?_) (fun hc12 => ?_)
   ·
    have hc12p := bne_iff_ne.1 hc12
    refine Qb <| Qd (Qp Yd rfl Xc s3 m10.h0 sZ) <| Qd (Qp Yd rfl Xc s1 m10.h2 sZ) <| U9 m10 (Qao (Xm rfl rfl) (Gf _ _ _ hgk hx)) fun w13 m13 => Ye m13 (Qj (f := i64) (l := Xj (Xj (V4 x j) (V4 x j)) x) Z4 Xc s3 rfl sD m13.h0 sZ rfl) fun w15 m15 => ?_
    refine Zv (Qh (Qb ?_))
    refine Ya s4 <| Qd (Yk (b := 1) rfl rfl oM oM) <| Zz (i64 ((254 - (j : Int)) - 1)) <| rN ?_
    have hin : Xj (Xj (V4 x j) (V4 x j)) x = V4 x (j + 1) := Qoz (by clear hxl; omega)
    exact ⟨⟨j + 1, oM, s0, s1, s2, s3, (show i64 (254 - (j : Int) - 1) = i64 (254 - ((j + 1 : Nat) : Int)) from congrArg i64 oM), (by rw [← hin]; exact m15)⟩, (by show (RowKit.intOf (i64 (254 - (j : Int) - 1)) + 1).toNat < (RowKit.intOf _ + 1).toNat; rw [z4]; simp only [RowKit.intOf, i64]; omega)⟩
   ·
    have hc12p := X0 hc12
    refine Qs (Qh (Qb ?_))
    refine Ya s4 <| Qd (Yk (b := 1) rfl rfl oM oM) <| Zz (i64 ((254 - (j : Int)) - 1)) <| rN ?_
    have hin : Xj (V4 x j) (V4 x j) = V4 x (j + 1) := Qky (by clear hxl; omega)
    exact ⟨⟨j + 1, oM, s0, s1, s2, s3, (show i64 (254 - (j : Int) - 1) = i64 (254 - ((j + 1 : Nat) : Int)) from congrArg i64 oM), (by rw [← hin]; exact m10)⟩, (by show (RowKit.intOf (i64 (254 - (j : Int) - 1)) + 1).toNat < (RowKit.intOf _ + 1).toNat; rw [z4]; simp only [RowKit.intOf, i64]; omega)⟩
  ·
   have hb11p := X0 hb11
   refine W9 (s := 15) rfl rfl hb11 rfl <| W9 (s := 15) rfl rfl hb11 rfl <| Qd (Y4 rfl hb11 rfl) <| rN <| Yy rfl Jg ?_
   refine Qs (Qh (Qb ?_))
   refine Ya s4 <| Qd (Yk (b := 1) rfl rfl oM oM) <| Zz (i64 ((254 - (j : Int)) - 1)) <| rN ?_
   have hin : Xj (V4 x j) (V4 x j) = V4 x (j + 1) := Qky (by clear hxl; omega)
   exact ⟨⟨j + 1, oM, s0, s1, s2, s3, (show i64 (254 - (j : Int) - 1) = i64 (254 - ((j + 1 : Nat) : Int)) from congrArg i64 oM), (by rw [← hin]; exact m10)⟩, (by show (RowKit.intOf (i64 (254 - (j : Int) - 1)) + 1).toNat < (RowKit.intOf _ + 1).toNat; rw [z4]; simp only [RowKit.intOf, i64]; omega)⟩
 ·
  have hc7p := of_decide_eq_false hc7
  obtain rfl : j = 255 := by omega
  refine X6 ?_
  refine Qm (Qm (Xi ?_))
  refine sR <| Qd (Qp Yd rfl Xc s3 m6.h0 sZ) <| Vz m6 (Qj (f := i64) (l := V4 x 255) Z4 Xc s2 rfl sD m6.h1 sZ rfl) fun w16 m16 => ?_
  refine rN (Xb ?_)
  refine Qv [(agg i64 (V4 x 255))] ⟨⟨_, s2, Xr Yd rfl Xc m16.h1 sZ⟩, trivial⟩ ?_
  exact ⟨rfl, m16.toExt⟩
set_option maxHeartbeats 1000000 in
theorem c_rread (u : Xg) (w0 : World)  (hu : u.length = 32) : X9 prog 63 #[(agg u8 u)] w0 (fun r w1 => r = (agg i64 (Q8 u)) ∧ Ext w0 w1) := by
 refine Zb (args := [(agg u8 u)]) func63 rfl ntmps63 results63 rfl ?_
 have m0 : Mem w0 (Qu w0) [] := Mem.of_world w0
 refine sR <| Y9 (Xa (f := u8) (l := u) m0 rfl) fun w1 b1 m1 => Y9 (Zc m1 Xc) fun w2 b2 m2 => ?_
 refine rN (sR ?_)
 refine Qd (Vo (ps := []) (c := (cl i64 (List.replicate 16 0))) Xc Yd H6 X7 rfl) <| Y9 (Zc m2 Xc) fun w3 b3 m3 => Ye m3 (Qj (f := i64) (l := List.replicate 16 0) Z4 Xc rfl rfl sD m3.h0 sZ rfl) fun w4 m4 => ?_
 refine rN (Qa (sR ?_))
 refine Zz (i64 0) ?_
 refine rN (Qk ?_)
 refine Y7 (fun g wv => ∃ (i : Nat), (i ≤ 16) ∧ g 0 = (agg u8 u) ∧ g 1 = (ptr b1 0) ∧ g 2 = (ptr b2 0) ∧ g 3 = (ptr b3 0) ∧ g 4 = (i64 (i : Int)) ∧ Mem wv (Qu w0) [(b3, .cells (cl i64 (Y1 (fun q => ((u.getD (2 * q) 0).toNat : Int) + 256 * ((u.getD (2 * q + 1) 0).toNat : Int)) 0 16 i)) 109 (0, 0)), (b2, .cells (cl i64 (List.replicate 16 0)) 109 (0, 0)), (b1, .cells (cl u8 u) 23 (0, 0))]) (fun g wv => (16 - RowKit.intOf (g 4)).toNat) ?_ ?_
 ·exact ⟨0, oM, rfl, rfl, rfl, rfl, rfl, (by rw [Em]; exact m4)⟩
 rintro fr5 w6 ⟨i, hi, s0, s1, s2, s3, s4, m6⟩
 have z4 := s4
 have hfl : (Y1 (fun q => ((u.getD (2 * q) 0).toNat : Int) + 256 * ((u.getD (2 * q + 1) 0).toNat : Int)) (0 : Int) 16 i).length = 16 := Kz _ _ _ _ hi
 refine Qa (sR ?_)
 refine Ya s4 <| Qd (Z9 (b := 16) rfl rfl) <| rN ?_
 refine Z8 rfl (fun hc7 => ?_) (fun hc7 => ?_)
 ·
  have hc7p := of_decide_eq_true hc7
  have hu1 := (u.getD (2 * i) 0).isLt
  have hu2 := (u.getD (2 * i + 1) 0).isLt
  refine Qs (Qc (Qa (Qk ?_)))
  refine Xl (dl 14) 14 Xw <| Um rfl s4 <| Um rfl s4 <| Yb rfl (Ko.cast (congrArg i64 (show 2 * (i : Int) = ((2 * i : Nat) : Int) by omega)) (Wl (a := 2) rfl rfl oM oM)) <| Yb rfl (Zo (r := (2 * i)) oM Xq Y0 s1 rfl oM sD) <| Yn (v := (u8 (u.getD (2 * i) 0))) rfl (fun _ e' => Ql Gl rfl rfl (m6.ext e').h2 (Qx _ _ 0 sD)) <| Yb rfl (Gy ⟨_, Gl⟩ uT2 rfl) <| Um rfl s4 <| Yb rfl (Wl (a := 2) rfl rfl oM oM) <| Yb rfl (Ko.cast (congrArg i64 (show (2 * (i : Int)) + 1 = ((2 * i + 1 : Nat) : Int) by omega)) (Zg (b := 1) rfl rfl oM oM)) <| Yb rfl (Zo (r := (2 * i + 1)) oM Xq Y0 s1 rfl oM sD) <| Yn (v := (u8 (u.getD (2 * i + 1) 0))) rfl (fun _ e' => Ql Gl rfl rfl (m6.ext e').h2 (Qx _ _ 0 sD)) ?_
  refine Yb rfl (Gy ⟨_, Gl⟩ uT2 rfl) <| Yb rfl (Wl (a := 256) rfl rfl oM oM) <| Yb rfl (Zg rfl rfl oM oM) <| Gs m6 fun w8 m8 => Qd (Zo (r := i) oM Yd H6 s3 rfl oM sD) <| Ye m8 (Xz (f := i64) Z4 H6 rfl rfl m8.h0 sD (.inl (Nat.zero_le _))) fun w9 m9 => ?_
  refine Zv (Qh (Qb ?_))
  refine Ya s4 <| Qd (Zg (b := 1) rfl rfl oM oM) <| Zz (i64 ((i : Int) + 1)) <| rN ?_
  exact ⟨⟨i + 1, oM, s0, s1, s2, s3, rfl, (by rw [← Ew (fun q => ((u.getD (2 * q) 0).toNat : Int) + 256 * ((u.getD (2 * q + 1) 0).toNat : Int)) (0 : Int) (n := 16) (k := i) oM _ rfl]; exact m9)⟩, Uo rfl z4 oM oM⟩
 ·
  have hc7p := of_decide_eq_false hc7
  obtain rfl : i = 16 := by omega
  have h15 := Qqe u
  refine X6 ?_
  refine Qm (Qm (Xi ?_))
  refine sR <| Qd (Xv 15 15 Yd H6 s3) <| Qd (Ql uT2 rfl rfl m6.h0 (Qx _ _ 0 sD)) <| Qd (Vf (b := 32768) rfl rfl oM oM oM) <| Qd (Xv 15 15 Yd H6 s3) <| Ye m6 (Xz (f := i64) Z4 H6 rfl rfl m6.h0 sD (.inl (Nat.zero_le _))) fun w10 m10 => ?_
  refine rN (Qa ?_)
  have hsl : ((Y1 (fun q => ((u.getD (2 * q) 0).toNat : Int) + 256 * ((u.getD (2 * q + 1) 0).toNat : Int)) 0 16 16).set 15 (((Y1 (fun q => ((u.getD (2 * q) 0).toNat : Int) + 256 * ((u.getD (2 * q + 1) 0).toNat : Int)) 0 16 16).getD 15 0) % 32768)).length = 16 := by rw [List.length_set]; exact hfl
  refine Qb <| Qd (Qp Yd rfl Xc s3 m10.h0 sZ) <| Vz m10 (Qj (f := i64) (l := (Y1 (fun q => ((u.getD (2 * q) 0).toNat : Int) + 256 * ((u.getD (2 * q + 1) 0).toNat : Int)) 0 16 16).set 15 (((Y1 (fun q => ((u.getD (2 * q) 0).toNat : Int) + 256 * ((u.getD (2 * q + 1) 0).toNat : Int)) 0 16 16).getD 15 0) % 32768)) Z4 Xc s2 rfl sD m10.h1 sZ rfl) fun w11 m11 => ?_
  refine rN (Xb ?_)
  refine Qv [(agg i64 ((Y1 (fun q => ((u.getD (2 * q) 0).toNat : Int) + 256 * ((u.getD (2 * q + 1) 0).toNat : Int)) 0 16 16).set 15 (((Y1 (fun q => ((u.getD (2 * q) 0).toNat : Int) + 256 * ((u.getD (2 * q + 1) 0).toNat : Int)) 0 16 16).getD 15 0) % 32768)))] ⟨⟨_, s2, Xr Yd rfl Xc m11.h1 sZ⟩, trivial⟩ ?_
  exact ⟨by unfold Q8; rfl, m11.toExt⟩
set_option maxHeartbeats 2000000 in
theorem c_rwrite (a : List Int) (w0 : World)  (ha : GoodR a) : X9 prog 67 #[(agg i64 a)] w0 (fun r w1 => r = (agg u8 (Qci a)) ∧ Ext w0 w1) := by
 refine Zb (args := [(agg i64 a)]) func67 rfl ntmps67 results67 rfl ?_
 have m0 : Mem w0 (Qu w0) [] := Mem.of_world w0
 have hal := ha.len; have hg1 := Ha ha; have hg2 := Ha hg1; have hg3 := Ha hg2; have hgl := hg3.len
 refine sR <| Y9 (Xa (f := i64) (l := a) m0 rfl) fun w1 b1 m1 => Y9 (Zc m1 Zl) fun w2 b2 m2 => ?_
 refine rN (sR ?_)
 refine Qd (Qp Yd rfl Xc rfl m2.h1 sZ) <| U9 m2 (oc90 (Kt rfl) (Qat _ _ hal ha.wide)) fun w3 m3 => U9 m3 (oc90 (Kt rfl) (Qat _ _ hg1.len hg1.wide)) fun w5 m5 => U9 m5 (oc90 (Kt rfl) (Qat _ _ hg2.len hg2.wide)) fun w7 m7 => Vz m7 (Qj (f := i64) (l := Q7 (Q7 (Q7 a))) Z4 Xc rfl rfl sD m7.h1 sZ rfl) fun w9 m9 => ?_
 refine rN (Qa (sR ?_))
 refine Zz (i64 0) ?_
 refine rN (Qk ?_)
 refine Y7 (fun g wv => ∃ (n : Nat), (n ≤ 2) ∧ g 0 = (agg i64 a) ∧ g 1 = (ptr b1 0) ∧ g 2 = (ptr b2 0) ∧ g 3 = (i64 (n : Int)) ∧ Mem wv (Qu w0) [(b1, .cells (cl i64 (Vr (Q7 (Q7 (Q7 a))) n)) 109 (0, 0)), (b2, .cells (cl u8 (List.replicate 32 0)) 23 (0, 0))]) (fun g wv => (2 - RowKit.intOf (g 3)).toNat) ?_ ?_
 have m10 := (Mem.pick [_] [_] _ m9)
 ·exact ⟨0, oM, rfl, rfl, rfl, rfl, (by rw [Qri]; exact m10)⟩
 rintro fr11 w12 ⟨n, hn, s0, s1, s2, s3, m12⟩
 have z3 := s3
 have hgn := Qk0 hg3 n
 have hgnl := hgn.len
 refine Qa (sR ?_)
 refine Ya s3 <| Qd (Z9 (b := 2) rfl rfl) <| rN ?_
 refine Z8 rfl (fun hc13 => ?_) (fun hc13 => ?_)
 ·
  have hc13p := of_decide_eq_true hc13
  refine Qs (Qc (Qa (Qk (sR ?_))))
  refine Qd (Vo (ps := []) (c := (cl i64 (List.replicate 16 0))) Xc Yd H6 X7 rfl) <| Y9 (Zc m12 Xc) fun w14 b4 m14 => Ye m14 (Qj (f := i64) (l := List.replicate 16 0) Z4 Xc rfl rfl sD m14.h0 sZ rfl) fun w15 m15 => ?_
  refine rN (Qa ?_)
  have ha0 := hgn.bd 0 oM
  refine Qb <| Qd (Xv 0 0 Yd H6 s1) <| Qd (Ql uT2 rfl rfl m15.h1 (Qx _ _ 0 sD)) <| Qd (Yk (b := 65517) rfl rfl oM oM) <| Qd (Xv 0 0 Yd H6 rfl) <| Ye m15 (Zn (f := i64) (l' := [((Vr (Q7 (Q7 (Q7 a))) n).getD 0 0) - 65517, 0, 0, 0, 0, 0, 0, 0, 0, 0, 0, 0, 0, 0, 0, 0]) rfl Z4 H6 rfl rfl m15.h0 X7 (.inl (Nat.zero_le _))) fun w16 m16 => ?_
  refine rN (Qa (sR ?_))
  refine Zz (i64 1) ?_
  refine rN (Qk ?_)
  refine Y7 (fun g wv => ∃ (j : Nat), (j ≤ 15) ∧ g 0 = (agg i64 a) ∧ g 1 = (ptr b1 0) ∧ g 2 = (ptr b2 0) ∧ g 3 = (i64 (n : Int)) ∧ g 4 = (ptr b4 0) ∧ g 5 = (i64 ((j + 1 : Nat) : Int)) ∧ g 15 = (bl (decide ((n : Int) < 2))) ∧ Mem wv (Qu w0) [(b4, .cells (cl i64 (mG (Vr (Q7 (Q7 (Q7 a))) n) j)) 109 (0, 0)), (b1, .cells (cl i64 (Vr (Q7 (Q7 (Q7 a))) n)) 109 (0, 0)), (b2, .cells (cl u8 (List.replicate 32 0)) 23 (0, 0))]) (fun g wv => (16 - RowKit.intOf (g 5)).toNat) ?_ ?_
  ·exact ⟨0, oM, s0, s1, s2, s3, rfl, rfl, rfl, (by rw [mG_zero]; exact m16)⟩
  rintro fr17 w18 ⟨j, hj, s0, s1, s2, s3, s4, s5, s15, m18⟩
  have z5 := s5
  have hml := Bc (Vr (Q7 (Q7 (Q7 a))) n) j
  refine Qa (sR ?_)
  refine Ya s5 <| Qd (Z9 (b := 16) rfl rfl) <| rN ?_
  refine Z8 rfl (fun hc19 => ?_) (fun hc19 => ?_)
  ·
   have hc19p := of_decide_eq_true hc19
   have hmi := Qot hgn j oM
   have hab := hgn.bd (j + 1) oM
   refine Qs (Qc (Qa (Qk (sR ?_))))
   refine Zz (i64 65535) ?_
   refine rN (Qa (sR ?_))
   refine Ya s5 <| Qd (Fb (b := 15) rfl rfl) <| rN ?_
   refine Z8 rfl (fun hc20 => ?_) (fun hc20 => ?_)
   ·
    have hc20p := eq_of_beq hc20
    refine Qb <| Zz (i64 32767) ?_
    refine rN (sR ?_)
    refine Ya s5 <| Qd (Ko.cast (congrArg i64 (show ((j + 1 : Nat) : Int) - 1 = ((j : Nat) : Int) by omega)) (Yk (b := 1) rfl rfl oM oM)) <| Qd (Zo (r := j) oM Yd H6 s4 rfl oM sD) <| Qd (Ql uT2 rfl rfl m18.h0 (Qx _ _ 0 sD)) <| Qd (Ai (p := 65536) (b := 16) rfl rfl rfl Jg Jg) <| Qd (Ko.cast (congrArg i64 (show (((BitVec.ofInt 64 (((mG (Vr (Q7 (Q7 (Q7 a))) n) j).getD j 0) / 65536)).toNat &&& (1 : Int).toNat : Nat) : Int) = (((mG (Vr (Q7 (Q7 (Q7 a))) n) j).getD j 0) / 65536) % 2 by have hand := Qoa (((mG (Vr (Q7 (Q7 (Q7 a))) n) j).getD j 0) / 65536); omega)) (Gn (b := 1) rfl rfl oM oM)) <| Zz (i64 ((((mG (Vr (Q7 (Q7 (Q7 a))) n) j).getD j 0) / 65536) % 2)) ?_
    refine rN (sR ?_)
    refine Ya s5 <| Ya s5 <| Qd (Zo (r := (j + 1)) oM Yd H6 s1 rfl oM sD) <| Qd (v := (i64 ((Vr (Q7 (Q7 (Q7 a))) n).getD (j + 1) 0))) (Ql uT2 rfl rfl m18.h1 (Qx _ _ 0 sD)) <| Zp (i64 32767) <| Qd (Yk (b := 32767) rfl rfl oM oM) <| Zp (i64 ((((mG (Vr (Q7 (Q7 (Q7 a))) n) j).getD j 0) / 65536) % 2)) <| Qd (Yk rfl rfl oM oM) <| Qd (Zo (r := (j + 1)) oM Yd H6 s4 rfl oM sD) <| Ye m18 (Xz (f := i64) Z4 H6 rfl rfl m18.h0 sD (.inl (Nat.zero_le _))) fun w21 m21 => rN ?_
    have hq : ((mG (Vr (Q7 (Q7 (Q7 a))) n) j).set (j + 1) ((((Vr (Q7 (Q7 (Q7 a))) n).getD (j + 1) 0) - 32767) - ((((mG (Vr (Q7 (Q7 (Q7 a))) n) j).getD j 0) / 65536) % 2))).getD j 0 = (mG (Vr (Q7 (Q7 (Q7 a))) n) j).getD j 0 := Wh oM
    refine Qb <| Ya s5 <| Qd (Ko.cast (congrArg i64 (show ((j + 1 : Nat) : Int) - 1 = ((j : Nat) : Int) by omega)) (Yk (b := 1) rfl rfl oM oM)) <| Ya s5 <| Qd (Ko.cast (congrArg i64 (show ((j + 1 : Nat) : Int) - 1 = ((j : Nat) : Int) by omega)) (Yk (b := 1) rfl rfl oM oM)) <| Qd (Zo (r := j) oM Yd H6 s4 rfl oM sD) <| Qd (Ql uT2 rfl rfl m21.h0 (Qx _ _ 0 sD)) <| Qd (Ko.cast (congrArg i64 (show (((BitVec.ofInt 64 (((mG (Vr (Q7 (Q7 (Q7 a))) n) j).set (j + 1) ((((Vr (Q7 (Q7 (Q7 a))) n).getD (j + 1) 0) - 32767) - ((((mG (Vr (Q7 (Q7 (Q7 a))) n) j).getD j 0) / 65536) % 2))).getD j 0)).toNat &&& (65535 : Int).toNat : Nat) : Int) = (((mG (Vr (Q7 (Q7 (Q7 a))) n) j).set (j + 1) ((((Vr (Q7 (Q7 (Q7 a))) n).getD (j + 1) 0) - 32767) - ((((mG (Vr (Q7 (Q7 (Q7 a))) n) j).getD j 0) / 65536) % 2))).getD j 0) % 65536 by have hand := Qf2 (((mG (Vr (Q7 (Q7 (Q7 a))) n) j).set (j + 1) ((((Vr (Q7 (Q7 (Q7 a))) n).getD (j + 1) 0) - 32767) - ((((mG (Vr (Q7 (Q7 (Q7 a))) n) j).getD j 0) / 65536) % 2))).getD j 0); omega)) (Gn (b := 65535) rfl rfl oM oM)) <| Qd (Zo (r := j) oM Yd H6 s4 rfl oM sD) <| Ye m21 (Xz (f := i64) Z4 H6 rfl rfl m21.h0 sD (.inl (Nat.zero_le _))) fun w22 m22 => ?_
    refine Zv (Qh (Qb ?_))
    refine Ya s5 <| Qd (Zg (b := 1) rfl rfl oM oM) <| Zz (i64 (((j + 1 : Nat) : Int) + 1)) <| rN ?_
    have hcn : ((mG (Vr (Q7 (Q7 (Q7 a))) n) j).set (j + 1) ((((Vr (Q7 (Q7 (Q7 a))) n).getD (j + 1) 0) - 32767) - ((((mG (Vr (Q7 (Q7 (Q7 a))) n) j).getD j 0) / 65536) % 2))).set j ((((mG (Vr (Q7 (Q7 (Q7 a))) n) j).set (j + 1) ((((Vr (Q7 (Q7 (Q7 a))) n).getD (j + 1) 0) - 32767) - ((((mG (Vr (Q7 (Q7 (Q7 a))) n) j).getD j 0) / 65536) % 2))).getD j 0) % 65536) = mG (Vr (Q7 (Q7 (Q7 a))) n) (j + 1) := by show _ = Qbr _ _ _; unfold Qbr; rw [if_pos oM]
    exact ⟨⟨j + 1, oM, s0, s1, s2, s3, s4, rfl, s15, (by rw [← hcn]; exact m22)⟩, Uo rfl z5 oM oM⟩
   ·
    have hc20p := ne_of_beq_false hc20
    refine Qs (Qc (sR ?_))
    refine Ya s5 <| Qd (Ko.cast (congrArg i64 (show ((j + 1 : Nat) : Int) - 1 = ((j : Nat) : Int) by omega)) (Yk (b := 1) rfl rfl oM oM)) <| Qd (Zo (r := j) oM Yd H6 s4 rfl oM sD) <| Qd (Ql uT2 rfl rfl m18.h0 (Qx _ _ 0 sD)) <| Qd (Ai (p := 65536) (b := 16) rfl rfl rfl Jg Jg) <| Qd (Ko.cast (congrArg i64 (show (((BitVec.ofInt 64 (((mG (Vr (Q7 (Q7 (Q7 a))) n) j).getD j 0) / 65536)).toNat &&& (1 : Int).toNat : Nat) : Int) = (((mG (Vr (Q7 (Q7 (Q7 a))) n) j).getD j 0) / 65536) % 2 by have hand := Qoa (((mG (Vr (Q7 (Q7 (Q7 a))) n) j).getD j 0) / 65536); omega)) (Gn (b := 1) rfl rfl oM oM)) <| Zz (i64 ((((mG (Vr (Q7 (Q7 (Q7 a))) n) j).getD j 0) / 65536) % 2)) ?_
    refine rN (sR ?_)
    refine Ya s5 <| Ya s5 <| Qd (Zo (r := (j + 1)) oM Yd H6 s1 rfl oM sD) <| Qd (v := (i64 ((Vr (Q7 (Q7 (Q7 a))) n).getD (j + 1) 0))) (Ql uT2 rfl rfl m18.h1 (Qx _ _ 0 sD)) <| Zp (i64 65535) <| Qd (Yk (b := 65535) rfl rfl oM oM) <| Zp (i64 ((((mG (Vr (Q7 (Q7 (Q7 a))) n) j).getD j 0) / 65536) % 2)) <| Qd (Yk rfl rfl oM oM) <| Qd (Zo (r := (j + 1)) oM Yd H6 s4 rfl oM sD) <| Ye m18 (Xz (f := i64) Z4 H6 rfl rfl m18.h0 sD (.inl (Nat.zero_le _))) fun w23 m23 => rN ?_
    have hq : ((mG (Vr (Q7 (Q7 (Q7 a))) n) j).set (j + 1) ((((Vr (Q7 (Q7 (Q7 a))) n).getD (j + 1) 0) - 65535) - ((((mG (Vr (Q7 (Q7 (Q7 a))) n) j).getD j 0) / 65536) % 2))).getD j 0 = (mG (Vr (Q7 (Q7 (Q7 a))) n) j).getD j 0 := Wh oM
    refine Qb <| Ya s5 <| Qd (Ko.cast (congrArg i64 (show ((j + 1 : Nat) : Int) - 1 = ((j : Nat) : Int) by omega)) (Yk (b := 1) rfl rfl oM oM)) <| Ya s5 <| Qd (Ko.cast (congrArg i64 (show ((j + 1 : Nat) : Int) - 1 = ((j : Nat) : Int) by omega)) (Yk (b := 1) rfl rfl oM oM)) <| Qd (Zo (r := j) oM Yd H6 s4 rfl oM sD) <| Qd (Ql uT2 rfl rfl m23.h0 (Qx _ _ 0 sD)) <| Qd (Ko.cast (congrArg i64 (show (((BitVec.ofInt 64 (((mG (Vr (Q7 (Q7 (Q7 a))) n) j).set (j + 1) ((((Vr (Q7 (Q7 (Q7 a))) n).getD (j + 1) 0) - 65535) - ((((mG (Vr (Q7 (Q7 (Q7 a))) n) j).getD j 0) / 65536) % 2))).getD j 0)).toNat &&& (65535 : Int).toNat : Nat) : Int) = (((mG (Vr (Q7 (Q7 (Q7 a))) n) j).set (j + 1) ((((Vr (Q7 (Q7 (Q7 a))) n).getD (j + 1) 0) - 65535) - ((((mG (Vr (Q7 (Q7 (Q7 a))) n) j).getD j 0) / 65536) % 2))).getD j 0) % 65536 by have hand := Qf2 (((mG (Vr (Q7 (Q7 (Q7 a))) n) j).set (j + 1) ((((Vr (Q7 (Q7 (Q7 a))) n).getD (j + 1) 0) - 65535) - ((((mG (Vr (Q7 (Q7 (Q7 a))) n) j).getD j 0) / 65536) % 2))).getD j 0); omega)) (Gn (b := 65535) rfl rfl oM oM)) <| Qd (Zo (r := j) oM Yd H6 s4 rfl oM sD) <| Ye m23 (Xz (f := i64) Z4 H6 rfl rfl m23.h0 sD (.inl (Nat.zero_le _))) fun w24 m24 => ?_
    refine Zv (Qh (Qb ?_))
    refine Ya s5 <| Qd (Zg (b := 1) rfl rfl oM oM) <| Zz (i64 (((j + 1 : Nat) : Int) + 1)) <| rN ?_
    have hcn : ((mG (Vr (Q7 (Q7 (Q7 a))) n) j).set (j + 1) ((((Vr (Q7 (Q7 (Q7 a))) n).getD (j + 1) 0) - 65535) - ((((mG (Vr (Q7 (Q7 (Q7 a))) n) j).getD j 0) / 65536) % 2))).set j ((((mG (Vr (Q7 (Q7 (Q7 a))) n) j).set (j + 1) ((((Vr (Q7 (Q7 (Q7 a))) n).getD (j + 1) 0) - 65535) - ((((mG (Vr (Q7 (Q7 (Q7 a))) n) j).getD j 0) / 65536) % 2))).getD j 0) % 65536) = mG (Vr (Q7 (Q7 (Q7 a))) n) (j + 1) := by show _ = Qbr _ _ _; unfold Qbr; rw [if_neg oM]
    exact ⟨⟨j + 1, oM, s0, s1, s2, s3, s4, rfl, s15, (by rw [← hcn]; exact m24)⟩, Uo rfl z5 oM oM⟩
  ·
   have hc19p := of_decide_eq_false hc19
   obtain rfl : j = 15 := by omega
   have hmi := Qot hgn 15 oM
   have hml := Bc (Vr (Q7 (Q7 (Q7 a))) n) 15
   refine X6 ?_
   refine Qm (Qm (Xi ?_))
   refine sR <| Qd (Xv 15 15 Yd H6 s4) <| Qd (Ql uT2 rfl rfl m18.h0 (Qx _ _ 0 sD)) <| Qd (E8 (b := 0) rfl rfl) <| rN ?_
   refine Z8 rfl (fun hc25 => ?_) (fun hc25 => ?_)
   ·
    have hc25p := of_decide_eq_true hc25
    refine Qb <| Qd (Qp Yd rfl Xc s4 m18.h0 sZ) <| Vz m18 (Qj (f := i64) (l := mG (Vr (Q7 (Q7 (Q7 a))) n) 15) Z4 Xc s1 rfl sD m18.h1 sZ rfl) fun w26 m26 => ?_
    refine Zv (Qh (Qb ?_))
    refine Ya s3 <| Qd (Zg (b := 1) rfl rfl oM oM) <| Zz (i64 ((n : Int) + 1)) <| rN ?_
    have hcr : mG (Vr (Q7 (Q7 (Q7 a))) n) 15 = Vr (Q7 (Q7 (Q7 a))) (n + 1) := by show _ = Qhq _; unfold Qhq; rw [if_pos oM]
    have m27 := Mem.drop [_] _ m26
    exact ⟨⟨n + 1, oM, s0, s1, s2, rfl, (by rw [← hcr]; exact m27)⟩, Uo rfl z3 oM oM⟩
   ·
    have hc25p := of_decide_eq_false hc25
    refine Qs (Qh (Qb ?_))
    refine Ya s3 <| Qd (Zg (b := 1) rfl rfl oM oM) <| Zz (i64 ((n : Int) + 1)) <| rN ?_
    have hcr : Vr (Q7 (Q7 (Q7 a))) n = Vr (Q7 (Q7 (Q7 a))) (n + 1) := by show _ = Qhq _; unfold Qhq; rw [if_neg oM]
    have m28 := Mem.drop [_] _ m18
    exact ⟨⟨n + 1, oM, s0, s1, s2, rfl, (by rw [← hcr]; exact m28)⟩, Uo rfl z3 oM oM⟩
 ·
  have hc13p := of_decide_eq_false hc13
  obtain rfl : n = 2 := by omega
  refine X6 ?_
  refine Qm (Qm (Xi ?_))
  refine sR <| Qd (Vo (ps := []) (c := (cl u8 (List.replicate 32 0))) Zl Xq Y0 X7 rfl) <| Y9 (Zc m12 Zl) fun w29 b8 m29 => Ye m29 (Qj (f := u8) (l := List.replicate 32 0) Qy Zl rfl rfl sD m29.h0 sZ rfl) fun w30 m30 => ?_
  refine rN (Qa (sR ?_))
  refine Zz (i64 0) ?_
  refine rN (Qk ?_)
  refine Y7 (fun g wv => ∃ (i : Nat), (i ≤ 16) ∧ g 0 = (agg i64 a) ∧ g 1 = (ptr b1 0) ∧ g 2 = (ptr b2 0) ∧ g 3 = (i64 (2 : Int)) ∧ g 8 = (ptr b8 0) ∧ g 9 = (i64 (i : Int)) ∧ g 15 = (bl (decide ((2 : Int) < 2))) ∧ Mem wv (Qu w0) [(b8, .cells (cl u8 (Qho (Vr (Q7 (Q7 (Q7 a))) 2) i)) 23 (0, 0)), (b1, .cells (cl i64 (Vr (Q7 (Q7 (Q7 a))) 2)) 109 (0, 0)), (b2, .cells (cl u8 (List.replicate 32 0)) 23 (0, 0))]) (fun g wv => (16 - RowKit.intOf (g 9)).toNat) ?_ ?_
  ·exact ⟨0, oM, s0, s1, s2, s3, rfl, rfl, rfl, (by rw [Qq6]; exact m30)⟩
  rintro fr31 w32 ⟨i, hi, s0, s1, s2, s3, s8, s9, s15, m32⟩
  have z9 := s9
  have hwl := L8 (Vr (Q7 (Q7 (Q7 a))) 2) i
  refine Qa (sR ?_)
  refine Ya s9 <| Qd (Z9 (b := 16) rfl rfl) <| rN ?_
  refine Z8 rfl (fun hc33 => ?_) (fun hc33 => ?_)
  ·
   have hc33p := of_decide_eq_true hc33
   have hab := hgn.bd i oM
   refine Qs (Qc (Qa (Qk (sR ?_))))
   refine Ya s9 <| Qd (Ko.cast (congrArg i64 (show 2 * (i : Int) = ((2 * i : Nat) : Int) by omega)) (Wl (a := 2) rfl rfl oM oM)) <| Ya s9 <| Qd (Zo (r := i) oM Yd H6 s1 rfl oM sD) <| Qd (Ql uT2 rfl rfl m32.h1 (Qx _ _ 0 sD)) <| Qd (F5 ⟨_, uT2⟩ Gl rfl) <| Qd (Zo (r := (2 * i)) oM Xq Y0 s8 rfl oM sD) <| Ye m32 (Xz (f := u8) (a := BitVec.ofInt 8 ((Vr (Q7 (Q7 (Q7 a))) 2).getD i 0)) Qy Y0 rfl rfl m32.h0 sD (.inl (Nat.zero_le _))) fun w34 m34 => ?_
   refine rN (Qb ?_)
   refine Ya s9 <| Qd (Wl (a := 2) rfl rfl oM oM) <| Qd (Ko.cast (congrArg i64 (show (2 * (i : Int)) + 1 = ((2 * i + 1 : Nat) : Int) by omega)) (Zg (b := 1) rfl rfl oM oM)) <| Ya s9 <| Qd (Zo (r := i) oM Yd H6 s1 rfl oM sD) <| Qd (Ql uT2 rfl rfl m34.h1 (Qx _ _ 0 sD)) <| Qd (Ai (p := 256) (b := 8) rfl rfl rfl Jg Jg) <| Qd (F5 ⟨_, uT2⟩ Gl rfl) <| Qd (Zo (r := (2 * i + 1)) oM Xq Y0 s8 rfl oM sD) <| Ye m34 (Xz (f := u8) (a := BitVec.ofInt 8 (((Vr (Q7 (Q7 (Q7 a))) 2).getD i 0) / 256)) Qy Y0 rfl rfl m34.h0 sD (.inl (Nat.zero_le _))) fun w35 m35 => ?_
   refine Zv (Qh (Qb ?_))
   refine Ya s9 <| Qd (Zg (b := 1) rfl rfl oM oM) <| Zz (i64 ((i : Int) + 1)) <| rN ?_
   exact ⟨⟨i + 1, oM, s0, s1, s2, s3, s8, rfl, s15, (by rw [Qki]; exact m35)⟩, Uo rfl z9 oM oM⟩
  ·
   have hc33p := of_decide_eq_false hc33
   obtain rfl : i = 16 := by omega
   have hwl := L8 (Vr (Q7 (Q7 (Q7 a))) 2) 16
   refine X6 ?_
   refine Qm (Qm (Xi ?_))
   refine sR <| Qd (Qp Xq rfl Zl s8 m32.h0 sZ) <| Bh m32 (Qj (f := u8) (l := Qho (Vr (Q7 (Q7 (Q7 a))) 2) 16) Qy Zl s2 rfl sD m32.h2 sZ rfl) fun w36 m36 => ?_
   refine rN (Xb ?_)
   refine Qv [(agg u8 (Qho (Vr (Q7 (Q7 (Q7 a))) 2) 16))] ⟨⟨_, s2, Xr Xq rfl Zl m36.h2 sZ⟩, trivial⟩ ?_
   exact ⟨by unfold Qci; rfl, m36.toExt⟩
end Go.Proofs.YtkmiemlpfkfiiaaDoor
