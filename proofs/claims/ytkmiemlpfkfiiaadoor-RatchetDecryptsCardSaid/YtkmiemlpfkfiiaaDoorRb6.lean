/- The ratchet: keys that are left out (the document). Conditions: none beyond those that each theorem states. -/
import Derived.Test.YtkmiemlpfkfiiaaDoorRb4
namespace Go.Proofs.YtkmiemlpfkfiiaaDoor
open Tryd
set_option linter.unusedVariables false
set_option linter.unusedSimpArgs false
attribute [local irreducible] Qee Pq Wn Dh Yc Jf Qaz Wh Vb Kz Xj Lc Ef Xr V5 Ac
set_option maxHeartbeats 2000000 in
theorem Qj2 (S : Sn) (vk : Value) (to : Int) (w0 : World)  (hk : RdK (Y8 w0) Y3 65 vk S.ks) (hto : 0 ≤ to ∧ to ≤ 2147483647) (hn2 : 0 ≤ S.n2 ∧ S.n2 ≤ 2147483648) (hkl : S.ks.length ≤ 100000) (hfar : Qco S to = true) : X0 prog 56 #[(Value.agg (Qz (sS S vk))), (i64 to)] w0 (fun r w1 => r = (Value.tuple #[(Value.agg (Qz (sS S vk))), (bl false)]) ∧ Ext w0 w1) := by
 refine Qy (args := [(Value.agg (Qz (sS S vk))), (i64 to)]) func56 rfl ntmps56 results56 rfl ?_
 have m0 : Mem w0 (Qr w0) [] := Mem.of_world w0
 refine sR <| Y9 (Us (cs := (Qz (sS S vk))) m0 rfl) fun w1 b2 m1 => Y9 (Jw m1 J6) fun w2 b4 m2 => Zx (bl false) ?_
 refine rN (Qa (sR ?_))
 refine Zm (i64 to) <| Qd (Zi (r := 163) Xt rfl Je Ui rfl rfl) <| Qd (Yi 8 Uu rfl m2.h1 rfl) <| Qd (Yf rfl rfl oM oM) <| Qd (Vz (b := 1000) rfl rfl) <| rN ?_
 have hd3 : (decide (1000 < (to - S.n2))) = true := hfar
 refine Q9 rfl hd3 <| sR <| Qd (J7 Xt J6 rfl m2.h1) <| Ye m2 (Kt J6 rfl rfl m2.h0 (Fa (RdK.one (RdK.ofRest hk m2)))) fun w4 m4 => Zx (bl false) ?_
 refine rN (Zz (Yv ?_))
 refine Qp [(Value.agg (Qz (sS S vk))), (bl false)] ⟨⟨_, rfl, Jr Xt J6 m4.h0⟩, rfl, trivial⟩ ?_
 exact ⟨rfl, m4.toExt⟩
set_option maxHeartbeats 2000000 in
theorem Qoa (S : Sn) (vk : Value) (to : Int) (w0 : World)  (hk : RdK (Y8 w0) Y3 65 vk S.ks) (hto : 0 ≤ to ∧ to ≤ 2147483647) (hn2 : 0 ≤ S.n2 ∧ S.n2 ≤ 2147483648) (hkl : S.ks.length ≤ 100000) (hfar : Qco S to = false) : X0 prog 56 #[(Value.agg (Qz (sS S vk))), (i64 to)] w0 (fun r w1 => ∃ vq Hq, r = Value.tuple #[(Value.agg (Qz (sS (Za S to) vq))), bl true] ∧ Yx Y3 65 69 vq (Za S to).ks Hq ∧ Mem w1 (Qr w0) Hq) := by
 refine Qy (args := [(Value.agg (Qz (sS S vk))), (i64 to)]) func56 rfl ntmps56 results56 rfl ?_
 have hm0 : Mem w0 (Qr w0) [] := Mem.of_world w0
 have hfr : ¬ 1000 < to - S.n2 := of_decide_eq_false hfar
 refine sR <| Y9 (Us (cs := (Qz (sS S vk))) hm0 rfl) fun w1 b2 hm1 => Y9 (Jw hm1 J6) fun w2 b4 hm2 => Zx (bl false) ?_
 refine rN (Qa (sR ?_))
 refine Zm (i64 to) <| Qd (Zi (r := 163) Xt rfl Je Ui rfl rfl) <| Qd (Yi 8 Uu rfl hm2.h1 rfl) <| Qd (Yf rfl rfl oM oM) <| Qd (Vz (b := 1000) rfl rfl) <| rN ?_
 have hd3 : (decide (1000 < (to - S.n2))) = false := hfar
 refine Ja rfl hd3 ?_
 refine Qn (Qc (sR ?_))
 refine Y9 (Ei (c := #[]) hm2 Wq Dj rfl Vq Xo) fun w4 b15 hm4 => ?_
 have hm4 : Mem w4 (Qr w0) [(b15, .cells #[] 69 (0, 0)), (b4, .cells (Qz (sE (List.replicate 32 0) (List.replicate 32 0) (List.replicate 32 0) false false (List.replicate 32 0) (List.replicate 32 0) 0 0 0 Wl)) 26 (0, 0)), (b2, .cells (Qz (sS S vk)) 26 (0, 0))] := hm4
 refine Qd (Zi (r := 165) Xt rfl Je Ec rfl rfl) <| Qd (Yi 10 Wq rfl hm4.h2 rfl) <| Vw (C9 (enc := Y3) (k := 65) (Hs := [(b15, .cells #[] 69 (0, 0))]) (H := [_, _]) hm4 (Yx.of Y3 65 69 b15 [] rfl Ya) rfl rfl (RdK.ofRest hk hm4) Wq Wq Dj rfl rfl (fun a _ => Nq a) sL sL) ?_
 rintro sv5 w5 ⟨Hs5, hm5, g5⟩
 replace g5 : Yx Y3 65 69 sv5 S.ks Hs5 := g5
 refine Zx sv5 ?_
 refine rN (Qa (Qh ?_))
 refine Y1 (fun g wv => ∃ (k : Nat) (vj : Value) (Hj : List (Nat × Obj)), (k ≤ (to - S.n2).toNat) ∧ (Yx Y3 65 69 vj (Zu S k).ks Hj) ∧ g 0 = (Value.agg (Qz (sS S vk))) ∧ g 1 = (i64 to) ∧ g 2 = (ptr b2 0) ∧ g 4 = (ptr b4 0) ∧ g 5 = (bl false) ∧ g 6 = vj ∧ g 13 = (bl (decide (1000 < (to - S.n2)))) ∧ Mem wv (Qr w0) ([(b2, .cells (Qz (sS (Zu S k) vk)) 26 (0, 0))] ++ (Hj ++ ([(b4, .cells (Qz (sE (List.replicate 32 0) (List.replicate 32 0) (List.replicate 32 0) false false (List.replicate 32 0) (List.replicate 32 0) 0 0 0 Wl)) 26 (0, 0))])))) (fun g wv => (to - Qcx wv b2 163).toNat) ?_ ?_
 have hm6 := (Mem.pick Hs5 [_] _ hm5)
 have hm7 := (Mem.pick [_] Hs5 _ hm6)
 have hm8 := (Mem.pick2 Hs5 [_] [_] _ hm7)
 ·exact ⟨0, sv5, Hs5, (Nat.zero_le _), (Yx.cast g5 (by first | rfl | simp [Zu])), rfl, rfl, rfl, rfl, rfl, rfl, rfl, (by
  have hT := hm8
  try simp only [List.append_assoc, List.cons_append, List.nil_append, List.append_nil] at hT ⊢
  exact hT)⟩
 rintro fr9 w10 ⟨k, vj, Hj, hk1, gj, s0, s1, s2, s4, s5, s6, s13, hm10⟩
 have z6 := s6
 have hz0 : Qcx w10 b2 163 = (Zu S k).n2 := Qd5 8 hm10.h0 rfl
 have hk2 := Qic S k
 have hkn := Qiv S k
 refine Qa (sR ?_)
 refine Qd (Zi (r := 163) Xt rfl Je Ui rfl s2) <| Qd (Yi 8 Uu rfl hm10.h0 rfl) <| Yb s1 <| Qd (Xa rfl rfl) <| rN ?_
 refine Zy rfl (fun hc11 => ?_) (fun hc11 => ?_)
 ·
  have hc11p := of_decide_eq_true hc11
  refine Qn (Qc (V8 (sR ?_)))
  refine Qd (Zi (r := 130) Xt rfl Je Zg rfl s2) <| Qd (Jk 6 Xl Zg rfl hm10.h0 rfl) <| U3 hm10 (oc37 (Jv rfl) (Qq4 _ _ sL)) fun w12 hm12 => Yb rfl <| Qd (v := (agg u8 (Xj ((Zu S k).t) [2#8]))) (Zr rfl rfl) <| Qd (v := (agg u8 (Xj ((Zu S k).t) [1#8]))) (Zr rfl rfl) <| Y9 (Q7 hm12 Zg) fun w14 b7 hm14 => Y9 (Q7 hm14 Zg) fun w15 b8 hm15 => Vu hm15 (Qg (f := u8) (l := Xj ((Zu S k).t) [2#8]) Qs Zg rfl rfl sL hm15.h1 Sv rfl) fun w16 hm16 => Ye hm16 (Qg (f := u8) (l := Xj ((Zu S k).t) [1#8]) Qs Zg rfl rfl sL hm16.h0 Sv rfl) fun w17 hm17 => ?_
  refine rN (sR ?_)
  refine Yb s6 <| Qd (Zi (r := 64) Xt rfl Je Zg rfl s2) <| Qd (Jk 2 Xl Zg rfl hm17.h2 rfl) <| Qd (Zi (r := 163) Xt rfl Je Ui rfl s2) <| Qd (Yi 8 Uu rfl hm17.h2 rfl) <| Qd (Qo Xl rfl Zg rfl hm17.h0 Sv) <| Qd (Wv (c := (Qz (sK ((Zu S k).o) ((Zu S k).n2) (Xj ((Zu S k).t) [1#8])))) (pl := [(0, 32), (32, 1), (33, 32)]) Dj Qbk Xo (Jq (i := 0) (v := (agg u8 ((Zu S k).o))) (cs := (cl u8 ((Zu S k).o))) rfl rfl (Jq (i := 1) (v := (i64 ((Zu S k).n2))) (cs := #[(i64 ((Zu S k).n2))]) rfl rfl (Jq (i := 2) (v := (agg u8 (Xj ((Zu S k).t) [1#8]))) (cs := (cl u8 (Xj ((Zu S k).t) [1#8]))) rfl rfl Vq))) (Vy (L := (sK (List.replicate 32 0) 0 (List.replicate 32 0))) 0 (sK ((Zu S k).o) 0 (List.replicate 32 0)) rfl (Gj u8 _).symm rfl (Vy 1 (sK ((Zu S k).o) ((Zu S k).n2) (List.replicate 32 0)) rfl rfl rfl (Vy 2 (sK ((Zu S k).o) ((Zu S k).n2) (Xj ((Zu S k).t) [1#8])) rfl (Gj u8 _).symm rfl Bq)))) <| Y9 (Hu (cs := (Qz (sK ((Zu S k).o) ((Zu S k).n2) (Xj ((Zu S k).t) [1#8])))) hm17 Wq Dj rfl rfl rfl (by rw [U5]; first | (simp; done) | (simp; omega))) fun w18 b36 hm18 => ?_
  have hm18 : Mem w18 (Qr w0) ([(b36, .cells (Qz (sK ((Zu S k).o) ((Zu S k).n2) (Xj ((Zu S k).t) [1#8]))) 69 (0, 0)), (b8, .cells (cl u8 (Xj ((Zu S k).t) [1#8])) 23 (0, 0)), (b7, .cells (cl u8 (Xj ((Zu S k).t) [2#8])) 23 (0, 0)), (b2, .cells (Qz (sS (Zu S k) vk)) 26 (0, 0))] ++ (Hj ++ ([(b4, .cells (Qz (sE (List.replicate 32 0) (List.replicate 32 0) (List.replicate 32 0) false false (List.replicate 32 0) (List.replicate 32 0) 0 0 0 Wl)) 26 (0, 0))]))) := hm18
  refine Vw (C9 (enc := Y3) (k := 65) (Hs := Hj) (H := [_, _, _, _, _]) (Mem.pick [_, _, _, _] Hj _ hm18) gj rfl rfl (RdK.ofOne (enc := Y3) (k := 65) (a := (Kp.mk ((Zu S k).o) ((Zu S k).n2) (Xj ((Zu S k).t) [1#8]) sD sD)) hm18.h0 rfl (Qd3 _)) Wq Wq Dj rfl rfl (fun a _ => Nq a) sL sL) ?_
  rintro sv19 w19 ⟨Hs19, hm19, g19⟩
  replace g19 : Yx Y3 65 69 sv19 (((Zu S k).ks) ++ ([(Kp.mk ((Zu S k).o) ((Zu S k).n2) (Xj ((Zu S k).t) [1#8]) sD sD)])) Hs19 := g19
  refine Zx sv19 <| rN ?_
  have hm20 := Mem.drop [_] _ (Mem.pick Hs19 [_] _ hm19)
  refine sR <| Qd (Qo Xl rfl Zg rfl ((Mem.pick2 Hs19 [_] [_] _ hm20)).h0 Sv) <| Qd (Zi (r := 130) Xt rfl Je Zg rfl s2) <| Vf (Ug 6 (sE ((Zu S k).r) ((Zu S k).w) ((Zu S k).o) ((Zu S k).sb) ((Zu S k).tb) ((Zu S k).s) (Xj ((Zu S k).t) [2#8]) ((Zu S k).n1) ((Zu S k).n2) ((Zu S k).n3) vk) Qs Zg rfl rfl ((Mem.pick2 Hs19 [_, _] [_] _ hm20)).h0 rfl) ?_
  rintro _ w21 uq21
  have hm21 : Mem _ _ ([_] ++ (Hs19 ++ ([_, _, _]))) := Mem.upd0 (Mem.pick2 Hs19 [_, _] [_] _ hm20) uq21
  refine rN (Qb ?_)
  refine Qd (Zi (r := 163) Xt rfl Je Ui rfl s2) <| Qd (Yi 8 Uu rfl hm21.h0 rfl) <| Qd (Zf (b := 1) rfl rfl oM oM) <| Qd (Zi (r := 163) Xt rfl Je Ui rfl s2) <| Ye hm21 (G5 8 (sE ((Zu S k).r) ((Zu S k).w) ((Zu S k).o) ((Zu S k).sb) ((Zu S k).tb) ((Zu S k).s) (Xj ((Zu S k).t) [2#8]) ((Zu S k).n1) (((Zu S k).n2) + 1) ((Zu S k).n3) vk) Ui rfl rfl (Zv _) hm21.h0 rfl rfl) fun w22 hm22 => ?_
  refine Zp (Qe (Qc ?_))
  have hm23 := Mem.drop [_] _ (Mem.pick2 [_] Hs19 [_] _ hm22)
  have hm24 := Mem.drop [_] _ (Mem.pick2 [_] Hs19 [_] _ hm23)
  exact ⟨⟨(k + 1), sv19, Hs19, oM, (Yx.cast g19 rfl), s0, s1, s2, s4, s5, rfl, s13, (by
   have hT := hm24
   try simp only [List.append_assoc, List.cons_append, List.nil_append, List.append_nil] at hT ⊢
   exact hT)⟩, (by have hz1 : Qcx w22 b2 163 = (Zu S k).n2 + 1 := Qd5 8 hm24.h0 rfl; show (to - Qcx _ _ 163).toNat < (to - Qcx _ _ 163).toNat; rw [hz0, hz1]; omega)⟩
 ·
  have hc11p := of_decide_eq_false hc11
  obtain rfl : k = (to - S.n2).toNat := by omega
  obtain ⟨m2, hm2⟩ : ∃ m, m = (Zu S (to - S.n2).toNat).ks.length - 2000 := ⟨_, rfl⟩
  refine X4 ?_
  refine Qj (Qj (Xi ?_))
  refine Qa (Qh ?_)
  refine Y1 (fun g wv => ∃ (j : Nat) (vj2 : Value), (j ≤ m2) ∧ (Yx Y3 65 69 vj2 ((Zu S (to - S.n2).toNat).ks.drop j) Hj) ∧ g 0 = (Value.agg (Qz (sS S vk))) ∧ g 1 = (i64 to) ∧ g 2 = (ptr b2 0) ∧ g 4 = (ptr b4 0) ∧ g 5 = (bl false) ∧ g 6 = vj2 ∧ g 13 = (bl (decide (1000 < (to - S.n2)))) ∧ g 22 = (bl (decide (((Zu S (to - S.n2).toNat).n2) < to))) ∧ Mem wv (Qr w0) ([(b2, .cells (Qz (sS (Zu S (to - S.n2).toNat) vk)) 26 (0, 0))] ++ (Hj ++ ([(b4, .cells (Qz (sE (List.replicate 32 0) (List.replicate 32 0) (List.replicate 32 0) false false (List.replicate 32 0) (List.replicate 32 0) 0 0 0 Wl)) 26 (0, 0))])))) (fun g wv => (sllen (g 6))) ?_ ?_
  ·exact ⟨0, vj, (Nat.zero_le _), (Yx.cast gj (by first | rfl | simp)), s0, s1, s2, s4, s5, s6, s13, rfl, hm10⟩
  rintro fr25 w26 ⟨j, vj2, hj, gj2, s0, s1, s2, s4, s5, s6, s13, s22, hm26⟩
  have z6 := s6
  have hjl : ((Zu S (to - S.n2).toNat).ks.drop j).length = (Zu S (to - S.n2).toNat).ks.length - j := by simp
  refine Qa (sR ?_)
  refine Yb s6 <| Qd (Fp (gj2.rd (Mem.pick [_] Hj _ hm26)) Wq rfl) <| Qd (Vz (b := 2000) rfl rfl) <| rN ?_
  refine Zy rfl (fun hc27 => ?_) (fun hc27 => ?_)
  ·
   have hc27p := of_decide_eq_true hc27
   refine Qn (Qc (V8 (Qb ?_)))
   refine Yb s6 <| Qd (Sl (i := 1) (j := (((Zu S (to - S.n2).toNat).ks.drop j).length : Int)) (gj2.rd (Mem.pick [_] Hj _ hm26)) Wq Dj rfl (Yd (k := .i64) (i := 1) rfl) (Zd _ _) oM sL sL) <| Zx (Pm vj2 1 (((Zu S (to - S.n2).toNat).ks.drop j).length : Int) 65) ?_
   refine Zp (Qe (Qc ?_))
   exact ⟨⟨(j + 1), (Pm vj2 1 (((Zu S (to - S.n2).toNat).ks.drop j).length : Int) 65), (by rw [hjl] at hc27p; omega), (Yx.cast (Yx.cast (Yx.sub (i := 1) (j := (((Zu S (to - S.n2).toNat).ks.drop j).length : Int)) gj2 oM oM oM) (Qn7 _)) (by rw [List.drop_drop])), s0, s1, s2, s4, s5, rfl, s13, s22, hm26⟩, (by show sllen (Pm vj2 1 (((Zu S (to - S.n2).toNat).ks.drop j).length : Int) 65) < sllen _; rw [z6, Yx.sllen gj2, Yx.sllen (Yx.cast (Yx.sub (i := 1) (j := (((Zu S (to - S.n2).toNat).ks.drop j).length : Int)) gj2 oM oM oM) (Qn7 _)), List.length_drop, hjl]; rw [hjl] at hc27p; omega)⟩
  ·
   have hc27p := of_decide_eq_false hc27
   have hjl : ((Zu S (to - S.n2).toNat).ks.drop j).length = (Zu S (to - S.n2).toNat).ks.length - j := by simp
   have hje : j = m2 := by rw [hjl] at hc27p; omega
   subst hje
   refine X4 ?_
   refine Qj (Qj (Xi ?_))
   refine sR <| Yb s6 <| Qd (Zi (r := 165) Xt rfl Je Ec rfl s2) <| Ye hm26 (G5 10 (sS (Zu S (to - S.n2).toNat) vj2) Ec rfl rfl gj2.one hm26.h0 rfl rfl) fun w28 hm28 => ?_
   refine rN (sR ?_)
   refine Qd (J7 Xt J6 s2 hm28.h0) <| Vf (Kt J6 s4 rfl ((Mem.pick2 [_] Hj [_] _ hm28)).h0 (Fa gj2.one)) ?_
   rintro _ w29 uq29
   have hm29 : Mem _ _ ([_, _] ++ (Hj ++ ([]))) := Mem.upd0 (Mem.pick2 [_] Hj [_] _ hm28) uq29
   refine Zx (bl true) ?_
   refine rN (Zz ?_)
   refine Qp [(Value.agg (Qz (sS (Zu S (to - S.n2).toNat) vj2))), (bl true)] ⟨⟨_, s4, Jr Xt J6 hm29.h0⟩, rfl, trivial⟩ ?_
   have hm30 := Mem.drop [_] _ hm29
   have hm31 := Mem.drop [_] _ hm30
   have hlv : Za S to = (Zu S (to - S.n2).toNat).trim j := by rw [hm2]; unfold Za Qjc; rw [hfar]; rfl
   rw [hlv]
   exact ⟨vj2, Hj, congrArg (fun x => Value.tuple #[Value.agg (Qz x), bl true]) (Qiq (S := (Zu S (to - S.n2).toNat)) (k := j) (v := vj2)).symm, Yx.cast gj2 (Qh9 _ _), (by
    have hT := hm31
    try simp only [List.append_assoc, List.cons_append, List.nil_append, List.append_nil] at hT ⊢
    exact hT)⟩
end Go.Proofs.YtkmiemlpfkfiiaaDoor
