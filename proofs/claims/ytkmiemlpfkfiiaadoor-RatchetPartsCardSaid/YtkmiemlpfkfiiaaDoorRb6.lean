/- The ratchet: keys that are left out (the document). Conditions: none beyond those that each theorem states. -/
import Derived.Test.YtkmiemlpfkfiiaaDoorRb4
namespace Go.Proofs.YtkmiemlpfkfiiaaDoor
open Tryd
set_option linter.unusedVariables false
set_option linter.unusedSimpArgs false
attribute [local irreducible] Qc5 Wu Eh Yg Jj Tc Wp Vd Wn Xk Ae F6 Qe Qi
set_option maxHeartbeats 2000000 in
theorem Qjr (S : Sn) (vk : Value) (to : Int) (w0 : World)  (hk : RdK (Jl w0) Jt 65 vk S.ks) (hto : 0 ≤ to ∧ to ≤ 2147483647) (hn2 : 0 ≤ S.n2 ∧ S.n2 ≤ 2147483648) (hkl : S.ks.length ≤ 100000) (hfar : Qcb S to = true) : X9 prog 56 #[(Value.agg (Qo (sS S vk))), (i64 to)] w0 (fun r w1 => r = (Value.tuple #[(Value.agg (Qo (sS S vk))), (bl false)]) ∧ Ext w0 w1) := by
 refine Zb (args := [(Value.agg (Qo (sS S vk))), (i64 to)]) func56 rfl ntmps56 results56 rfl ?_
 have m0 : Mem w0 (Qu w0) [] := Mem.of_world w0
 refine sR <| Y9 (F8 (cs := (Qo (sS S vk))) m0 rfl) fun w1 b2 m1 => Y9 (Ji m1 Ja) fun w2 b4 m2 => Zz (bl false) ?_
 refine rN (Qa (sR ?_))
 refine Zp (i64 to) <| Qd (Zr (r := 163) X3 rfl Jr U0 rfl rfl) <| Qd (Y8 8 Fj rfl m2.h1 rfl) <| Qd (Yk rfl rfl oM oM) <| Qd (Gm (b := 1000) rfl rfl) <| rN ?_
 have hd3 : (decide (1000 < (to - S.n2))) = true := hfar
 refine Za rfl hd3 <| sR <| Qd (Jk X3 Ja rfl m2.h1) <| Ye m2 (J8 Ja rfl rfl m2.h0 (Gx (RdK.one (RdK.ofRest hk m2)))) fun w4 m4 => Zz (bl false) ?_
 refine rN (Xb (Y3 ?_))
 refine Qv [(Value.agg (Qo (sS S vk))), (bl false)] ⟨⟨_, rfl, J4 X3 Ja m4.h0⟩, rfl, trivial⟩ ?_
 exact ⟨rfl, m4.toExt⟩
set_option maxHeartbeats 2000000 in
theorem Qn2 (S : Sn) (vk : Value) (to : Int) (w0 : World)  (hk : RdK (Jl w0) Jt 65 vk S.ks) (hto : 0 ≤ to ∧ to ≤ 2147483647) (hn2 : 0 ≤ S.n2 ∧ S.n2 ≤ 2147483648) (hkl : S.ks.length ≤ 100000) (hfar : Qcb S to = false) : X9 prog 56 #[(Value.agg (Qo (sS S vk))), (i64 to)] w0 (fun r w1 => ∃ vq Hq, r = Value.tuple #[(Value.agg (Qo (sS (Ze S to) vq))), bl true] ∧ Yz Jt 65 69 vq (Ze S to).ks Hq ∧ Mem w1 (Qu w0) Hq) := by
 refine Zb (args := [(Value.agg (Qo (sS S vk))), (i64 to)]) func56 rfl ntmps56 results56 rfl ?_
 have hm0 : Mem w0 (Qu w0) [] := Mem.of_world w0
 have hfr : ¬ 1000 < to - S.n2 := of_decide_eq_false hfar
 refine sR <| Y9 (F8 (cs := (Qo (sS S vk))) hm0 rfl) fun w1 b2 hm1 => Y9 (Ji hm1 Ja) fun w2 b4 hm2 => Zz (bl false) ?_
 refine rN (Qa (sR ?_))
 refine Zp (i64 to) <| Qd (Zr (r := 163) X3 rfl Jr U0 rfl rfl) <| Qd (Y8 8 Fj rfl hm2.h1 rfl) <| Qd (Yk rfl rfl oM oM) <| Qd (Gm (b := 1000) rfl rfl) <| rN ?_
 have hd3 : (decide (1000 < (to - S.n2))) = false := hfar
 refine Yy rfl hd3 ?_
 refine Qs (Qc (sR ?_))
 refine Y9 (Ee (c := #[]) hm2 Gu Bz rfl V3 Xw) fun w4 b15 hm4 => ?_
 have hm4 : Mem w4 (Qu w0) [(b15, .cells #[] 69 (0, 0)), (b4, .cells (Qo (sE (List.replicate 32 0) (List.replicate 32 0) (List.replicate 32 0) false false (List.replicate 32 0) (List.replicate 32 0) 0 0 0 Yj)) 26 (0, 0)), (b2, .cells (Qo (sS S vk)) 26 (0, 0))] := hm4
 refine Qd (Zr (r := 165) X3 rfl Jr Aq rfl rfl) <| Qd (Y8 10 Gu rfl hm4.h2 rfl) <| Vy (Ad (enc := Jt) (k := 65) (Hs := [(b15, .cells #[] 69 (0, 0))]) (H := [_, _]) hm4 (Yz.of Jt 65 69 b15 [] rfl X7) rfl rfl (RdK.ofRest hk hm4) Gu Gu Bz rfl rfl (fun a _ => P6 a) sL sL) ?_
 rintro sv5 w5 ⟨Hs5, hm5, g5⟩
 replace g5 : Yz Jt 65 69 sv5 S.ks Hs5 := g5
 refine Zz sv5 ?_
 refine rN (Qa (Qk ?_))
 refine Y7 (fun g wv => ∃ (k : Nat) (vj : Value) (Hj : List (Nat × Obj)), (k ≤ (to - S.n2).toNat) ∧ (Yz Jt 65 69 vj (Zx S k).ks Hj) ∧ g 0 = (Value.agg (Qo (sS S vk))) ∧ g 1 = (i64 to) ∧ g 2 = (ptr b2 0) ∧ g 4 = (ptr b4 0) ∧ g 5 = (bl false) ∧ g 6 = vj ∧ g 13 = (bl (decide (1000 < (to - S.n2)))) ∧ Mem wv (Qu w0) ([(b2, .cells (Qo (sS (Zx S k) vk)) 26 (0, 0))] ++ (Hj ++ ([(b4, .cells (Qo (sE (List.replicate 32 0) (List.replicate 32 0) (List.replicate 32 0) false false (List.replicate 32 0) (List.replicate 32 0) 0 0 0 Yj)) 26 (0, 0))])))) (fun g wv => (to - Qco wv b2 163).toNat) ?_ ?_
 have hm6 := (Mem.pick Hs5 [_] _ hm5)
 have hm7 := (Mem.pick [_] Hs5 _ hm6)
 have hm8 := (Mem.pick2 Hs5 [_] [_] _ hm7)
 ·exact ⟨0, sv5, Hs5, (Nat.zero_le _), (Yz.cast g5 (by first | rfl | simp [Zx])), rfl, rfl, rfl, rfl, rfl, rfl, rfl, (by
  have hT := hm8
  try simp only [List.append_assoc, List.cons_append, List.nil_append, List.append_nil] at hT ⊢
  exact hT)⟩
 rintro fr9 w10 ⟨k, vj, Hj, hk1, gj, s0, s1, s2, s4, s5, s6, s13, hm10⟩
 have z6 := s6
 have hz0 : Qco w10 b2 163 = (Zx S k).n2 := Qdv 8 hm10.h0 rfl
 have hk2 := Qh2 S k
 have hkn := Qip S k
 refine Qa (sR ?_)
 refine Qd (Zr (r := 163) X3 rfl Jr U0 rfl s2) <| Qd (Y8 8 Fj rfl hm10.h0 rfl) <| Ya s1 <| Qd (Z9 rfl rfl) <| rN ?_
 refine Z8 rfl (fun hc11 => ?_) (fun hc11 => ?_)
 ·
  have hc11p := of_decide_eq_true hc11
  refine Qs (Qc (V5 (sR ?_)))
  refine Qd (Zr (r := 130) X3 rfl Jr Zl rfl s2) <| Qd (Jv 6 Xq Zl rfl hm10.h0 rfl) <| U9 hm10 (oc37 (Kt rfl) (Qqv _ _ sL)) fun w12 hm12 => Ya rfl <| Qd (v := (agg u8 (Xk ((Zx S k).t) [2#8]))) (Zm rfl rfl) <| Qd (v := (agg u8 (Xk ((Zx S k).t) [1#8]))) (Zm rfl rfl) <| Y9 (Zc hm12 Zl) fun w14 b7 hm14 => Y9 (Zc hm14 Zl) fun w15 b8 hm15 => Vz hm15 (Qj (f := u8) (l := Xk ((Zx S k).t) [2#8]) Qy Zl rfl rfl sL hm15.h1 Nj rfl) fun w16 hm16 => Ye hm16 (Qj (f := u8) (l := Xk ((Zx S k).t) [1#8]) Qy Zl rfl rfl sL hm16.h0 Nj rfl) fun w17 hm17 => ?_
  refine rN (sR ?_)
  refine Ya s6 <| Qd (Zr (r := 64) X3 rfl Jr Zl rfl s2) <| Qd (Jv 2 Xq Zl rfl hm17.h2 rfl) <| Qd (Zr (r := 163) X3 rfl Jr U0 rfl s2) <| Qd (Y8 8 Fj rfl hm17.h2 rfl) <| Qd (Qp Xq rfl Zl rfl hm17.h0 Nj) <| Qd (Va (c := (Qo (sK ((Zx S k).o) ((Zx S k).n2) (Xk ((Zx S k).t) [1#8])))) (pl := [(0, 32), (32, 1), (33, 32)]) Bz Qei Xw (J3 (i := 0) (v := (agg u8 ((Zx S k).o))) (cs := (cl u8 ((Zx S k).o))) rfl rfl (J3 (i := 1) (v := (i64 ((Zx S k).n2))) (cs := #[(i64 ((Zx S k).n2))]) rfl rfl (J3 (i := 2) (v := (agg u8 (Xk ((Zx S k).t) [1#8]))) (cs := (cl u8 (Xk ((Zx S k).t) [1#8]))) rfl rfl V3))) (V9 (L := (sK (List.replicate 32 0) 0 (List.replicate 32 0))) 0 (sK ((Zx S k).o) 0 (List.replicate 32 0)) rfl (Gt u8 _).symm rfl (V9 1 (sK ((Zx S k).o) ((Zx S k).n2) (List.replicate 32 0)) rfl rfl rfl (V9 2 (sK ((Zx S k).o) ((Zx S k).n2) (Xk ((Zx S k).t) [1#8])) rfl (Gt u8 _).symm rfl Dq)))) <| Y9 (Az (cs := (Qo (sK ((Zx S k).o) ((Zx S k).n2) (Xk ((Zx S k).t) [1#8])))) hm17 Gu Bz rfl rfl rfl (by rw [U5]; first | (simp; done) | (simp; omega))) fun w18 b36 hm18 => ?_
  have hm18 : Mem w18 (Qu w0) ([(b36, .cells (Qo (sK ((Zx S k).o) ((Zx S k).n2) (Xk ((Zx S k).t) [1#8]))) 69 (0, 0)), (b8, .cells (cl u8 (Xk ((Zx S k).t) [1#8])) 23 (0, 0)), (b7, .cells (cl u8 (Xk ((Zx S k).t) [2#8])) 23 (0, 0)), (b2, .cells (Qo (sS (Zx S k) vk)) 26 (0, 0))] ++ (Hj ++ ([(b4, .cells (Qo (sE (List.replicate 32 0) (List.replicate 32 0) (List.replicate 32 0) false false (List.replicate 32 0) (List.replicate 32 0) 0 0 0 Yj)) 26 (0, 0))]))) := hm18
  refine Vy (Ad (enc := Jt) (k := 65) (Hs := Hj) (H := [_, _, _, _, _]) (Mem.pick [_, _, _, _] Hj _ hm18) gj rfl rfl (RdK.ofOne (enc := Jt) (k := 65) (a := (Kp.mk ((Zx S k).o) ((Zx S k).n2) (Xk ((Zx S k).t) [1#8]) sD sD)) hm18.h0 rfl (Qgt _)) Gu Gu Bz rfl rfl (fun a _ => P6 a) sL sL) ?_
  rintro sv19 w19 ⟨Hs19, hm19, g19⟩
  replace g19 : Yz Jt 65 69 sv19 (((Zx S k).ks) ++ ([(Kp.mk ((Zx S k).o) ((Zx S k).n2) (Xk ((Zx S k).t) [1#8]) sD sD)])) Hs19 := g19
  refine Zz sv19 <| rN ?_
  have hm20 := Mem.drop [_] _ (Mem.pick Hs19 [_] _ hm19)
  refine sR <| Qd (Qp Xq rfl Zl rfl ((Mem.pick2 Hs19 [_] [_] _ hm20)).h0 Nj) <| Qd (Zr (r := 130) X3 rfl Jr Zl rfl s2) <| Vk (Uj 6 (sE ((Zx S k).r) ((Zx S k).w) ((Zx S k).o) ((Zx S k).sb) ((Zx S k).tb) ((Zx S k).s) (Xk ((Zx S k).t) [2#8]) ((Zx S k).n1) ((Zx S k).n2) ((Zx S k).n3) vk) Qy Zl rfl rfl ((Mem.pick2 Hs19 [_, _] [_] _ hm20)).h0 rfl) ?_
  rintro _ w21 uq21
  have hm21 : Mem _ _ ([_] ++ (Hs19 ++ ([_, _, _]))) := Mem.upd0 (Mem.pick2 Hs19 [_, _] [_] _ hm20) uq21
  refine rN (Qb ?_)
  refine Qd (Zr (r := 163) X3 rfl Jr U0 rfl s2) <| Qd (Y8 8 Fj rfl hm21.h0 rfl) <| Qd (Zg (b := 1) rfl rfl oM oM) <| Qd (Zr (r := 163) X3 rfl Jr U0 rfl s2) <| Ye hm21 (Ui 8 (sE ((Zx S k).r) ((Zx S k).w) ((Zx S k).o) ((Zx S k).sb) ((Zx S k).tb) ((Zx S k).s) (Xk ((Zx S k).t) [2#8]) ((Zx S k).n1) (((Zx S k).n2) + 1) ((Zx S k).n3) vk) U0 rfl rfl (Z4 _) hm21.h0 rfl rfl) fun w22 hm22 => ?_
  refine Zv (Qh (Qc ?_))
  have hm23 := Mem.drop [_] _ (Mem.pick2 [_] Hs19 [_] _ hm22)
  have hm24 := Mem.drop [_] _ (Mem.pick2 [_] Hs19 [_] _ hm23)
  exact ⟨⟨(k + 1), sv19, Hs19, oM, (Yz.cast g19 rfl), s0, s1, s2, s4, s5, rfl, s13, (by
   have hT := hm24
   try simp only [List.append_assoc, List.cons_append, List.nil_append, List.append_nil] at hT ⊢
   exact hT)⟩, (by have hz1 : Qco w22 b2 163 = (Zx S k).n2 + 1 := Qdv 8 hm24.h0 rfl; show (to - Qco _ _ 163).toNat < (to - Qco _ _ 163).toNat; rw [hz0, hz1]; omega)⟩
 ·
  have hc11p := of_decide_eq_false hc11
  obtain rfl : k = (to - S.n2).toNat := by omega
  obtain ⟨m2, hm2⟩ : ∃ m, m = (Zx S (to - S.n2).toNat).ks.length - 2000 := ⟨_, rfl⟩
  refine X6 ?_
  refine Qm (Qm (Xi ?_))
  refine Qa (Qk ?_)
  refine Y7 (fun g wv => ∃ (j : Nat) (vj2 : Value), (j ≤ m2) ∧ (Yz Jt 65 69 vj2 ((Zx S (to - S.n2).toNat).ks.drop j) Hj) ∧ g 0 = (Value.agg (Qo (sS S vk))) ∧ g 1 = (i64 to) ∧ g 2 = (ptr b2 0) ∧ g 4 = (ptr b4 0) ∧ g 5 = (bl false) ∧ g 6 = vj2 ∧ g 13 = (bl (decide (1000 < (to - S.n2)))) ∧ g 22 = (bl (decide (((Zx S (to - S.n2).toNat).n2) < to))) ∧ Mem wv (Qu w0) ([(b2, .cells (Qo (sS (Zx S (to - S.n2).toNat) vk)) 26 (0, 0))] ++ (Hj ++ ([(b4, .cells (Qo (sE (List.replicate 32 0) (List.replicate 32 0) (List.replicate 32 0) false false (List.replicate 32 0) (List.replicate 32 0) 0 0 0 Yj)) 26 (0, 0))])))) (fun g wv => (sllen (g 6))) ?_ ?_
  ·exact ⟨0, vj, (Nat.zero_le _), (Yz.cast gj (by first | rfl | simp)), s0, s1, s2, s4, s5, s6, s13, rfl, hm10⟩
  rintro fr25 w26 ⟨j, vj2, hj, gj2, s0, s1, s2, s4, s5, s6, s13, s22, hm26⟩
  have z6 := s6
  have hjl : ((Zx S (to - S.n2).toNat).ks.drop j).length = (Zx S (to - S.n2).toNat).ks.length - j := by simp
  refine Qa (sR ?_)
  refine Ya s6 <| Qd (Be (gj2.rd (Mem.pick [_] Hj _ hm26)) Gu rfl) <| Qd (Gm (b := 2000) rfl rfl) <| rN ?_
  refine Z8 rfl (fun hc27 => ?_) (fun hc27 => ?_)
  ·
   have hc27p := of_decide_eq_true hc27
   refine Qs (Qc (V5 (Qb ?_)))
   refine Ya s6 <| Qd (Rx (i := 1) (j := (((Zx S (to - S.n2).toNat).ks.drop j).length : Int)) (gj2.rd (Mem.pick [_] Hj _ hm26)) Gu Bz rfl (Yh (k := .i64) (i := 1) rfl) (Zi _ _) oM sL sL) <| Zz (Ph vj2 1 (((Zx S (to - S.n2).toNat).ks.drop j).length : Int) 65) ?_
   refine Zv (Qh (Qc ?_))
   exact ⟨⟨(j + 1), (Ph vj2 1 (((Zx S (to - S.n2).toNat).ks.drop j).length : Int) 65), (by rw [hjl] at hc27p; omega), (Yz.cast (Yz.cast (Yz.sub (i := 1) (j := (((Zx S (to - S.n2).toNat).ks.drop j).length : Int)) gj2 oM oM oM) (Qnz _)) (by rw [List.drop_drop])), s0, s1, s2, s4, s5, rfl, s13, s22, hm26⟩, (by show sllen (Ph vj2 1 (((Zx S (to - S.n2).toNat).ks.drop j).length : Int) 65) < sllen _; rw [z6, Yz.sllen gj2, Yz.sllen (Yz.cast (Yz.sub (i := 1) (j := (((Zx S (to - S.n2).toNat).ks.drop j).length : Int)) gj2 oM oM oM) (Qnz _)), List.length_drop, hjl]; rw [hjl] at hc27p; omega)⟩
  ·
   have hc27p := of_decide_eq_false hc27
   have hjl : ((Zx S (to - S.n2).toNat).ks.drop j).length = (Zx S (to - S.n2).toNat).ks.length - j := by simp
   have hje : j = m2 := by rw [hjl] at hc27p; omega
   subst hje
   refine X6 ?_
   refine Qm (Qm (Xi ?_))
   refine sR <| Ya s6 <| Qd (Zr (r := 165) X3 rfl Jr Aq rfl s2) <| Ye hm26 (Ui 10 (sS (Zx S (to - S.n2).toNat) vj2) Aq rfl rfl gj2.one hm26.h0 rfl rfl) fun w28 hm28 => ?_
   refine rN (sR ?_)
   refine Qd (Jk X3 Ja s2 hm28.h0) <| Vk (J8 Ja s4 rfl ((Mem.pick2 [_] Hj [_] _ hm28)).h0 (Gx gj2.one)) ?_
   rintro _ w29 uq29
   have hm29 : Mem _ _ ([_, _] ++ (Hj ++ ([]))) := Mem.upd0 (Mem.pick2 [_] Hj [_] _ hm28) uq29
   refine Zz (bl true) ?_
   refine rN (Xb ?_)
   refine Qv [(Value.agg (Qo (sS (Zx S (to - S.n2).toNat) vj2))), (bl true)] ⟨⟨_, s4, J4 X3 Ja hm29.h0⟩, rfl, trivial⟩ ?_
   have hm30 := Mem.drop [_] _ hm29
   have hm31 := Mem.drop [_] _ hm30
   have hlv : Ze S to = (Zx S (to - S.n2).toNat).trim j := by rw [hm2]; unfold Ze Qi5; rw [hfar]; rfl
   rw [hlv]
   exact ⟨vj2, Hj, congrArg (fun x => Value.tuple #[Value.agg (Qo x), bl true]) (Qik (S := (Zx S (to - S.n2).toNat)) (k := j) (v := vj2)).symm, Yz.cast gj2 (Qhz _ _), (by
    have hT := hm31
    try simp only [List.append_assoc, List.cons_append, List.nil_append, List.append_nil] at hT ⊢
    exact hT)⟩
end Go.Proofs.YtkmiemlpfkfiiaaDoor
