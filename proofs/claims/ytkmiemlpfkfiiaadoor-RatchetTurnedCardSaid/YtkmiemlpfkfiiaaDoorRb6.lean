/- The ratchet: keys that are left out (the document). Conditions: none beyond those that each theorem states. -/
import Derived.Test.YtkmiemlpfkfiiaaDoorRb4
namespace Go.Proofs.YtkmiemlpfkfiiaaDoor
open List renaming append_assoc → aQ, append_nil → aZ, cons_append → aW, nil_append → aX, replicate → aA
open Mem renaming drop → aF, of_world → aY, pick → aC, pick2 → aN
open Value renaming agg → aO, tuple → ak
open Tryd
set_option linter.unusedVariables false
set_option linter.unusedSimpArgs false
attribute [local irreducible] Si We Eg X8 Y7 Ba Wh Wv Kw Xc Gv Gn Zu Yy
set_option maxHeartbeats 2000000 in
theorem Qkn (S : Sn) (vk : Value) (to : Int) (w0 : World)  (hk : RdK (Jd w0) Jl 65 vk S.ks) (hto : 0 ≤ to ∧ to ≤ 2147483647) (hn2 : 0 ≤ S.n2 ∧ S.n2 ≤ 2147483648) (hkl : S.ks.length ≤ 100000) (hfar : Qar S to = true) : Xz prog 56 #[(aO (Qy (sS S vk))), (i64 to)] w0 (fun r w1 => r = (ak #[(aO (Qy (sS S vk))), (bl false)]) ∧ Ext w0 w1) := by
 refine Qz (args := [(aO (Qy (sS S vk))), (i64 to)]) func56 rfl ntmps56 results56 rfl ?_
 have m0 : Mem w0 (Qs w0) [] := aY w0
 refine sR <| Y5 (Fz (cs := (Qy (sS S vk))) m0 rfl) fun w1 b2 m1 => Y5 (Ju m1 J5) fun w2 b4 m2 => Zx (bl false) ?_
 refine rN (Qa (sR ?_))
 refine Zm (i64 to) <| Qd (Zl (r := 163) Yc rfl Jj Uw rfl rfl) <| Qd (Y2 8 Fa rfl m2.h1 rfl) <| Qd (Yg rfl rfl oM oM) <| Qd (G7 (b := 1000) rfl rfl) <| rN ?_
 have hd3 : (decide (1000 < (to - S.n2))) = true := hfar
 refine Za rfl hd3 <| sR <| Qd (Ky Yc J5 rfl m2.h1) <| Ye m2 (Ko J5 rfl rfl m2.h0 (Ur (RdK.one (RdK.ofRest hk m2)))) fun w4 m4 => Zx (bl false) ?_
 refine rN (Z8 (Yz ?_))
 refine Qq [(aO (Qy (sS S vk))), (bl false)] ⟨⟨_, rfl, Jq Yc J5 m4.h0⟩, rfl, trivial⟩ ?_
 exact ⟨rfl, m4.toExt⟩
set_option maxHeartbeats 2000000 in
theorem Qpq (S : Sn) (vk : Value) (to : Int) (w0 : World)  (hk : RdK (Jd w0) Jl 65 vk S.ks) (hto : 0 ≤ to ∧ to ≤ 2147483647) (hn2 : 0 ≤ S.n2 ∧ S.n2 ≤ 2147483648) (hkl : S.ks.length ≤ 100000) (hfar : Qar S to = false) : Xz prog 56 #[(aO (Qy (sS S vk))), (i64 to)] w0 (fun r w1 => ∃ vq Hq, r = ak #[(aO (Qy (sS (Q9 S to) vq))), bl true] ∧ Yu Jl 65 69 vq (Q9 S to).ks Hq ∧ Mem w1 (Qs w0) Hq) := by
 refine Qz (args := [(aO (Qy (sS S vk))), (i64 to)]) func56 rfl ntmps56 results56 rfl ?_
 have hm0 : Mem w0 (Qs w0) [] := aY w0
 have hfr : ¬ 1000 < to - S.n2 := of_decide_eq_false hfar
 refine sR <| Y5 (Fz (cs := (Qy (sS S vk))) hm0 rfl) fun w1 b2 hm1 => Y5 (Ju hm1 J5) fun w2 b4 hm2 => Zx (bl false) ?_
 refine rN (Qa (sR ?_))
 refine Zm (i64 to) <| Qd (Zl (r := 163) Yc rfl Jj Uw rfl rfl) <| Qd (Y2 8 Fa rfl hm2.h1 rfl) <| Qd (Yg rfl rfl oM oM) <| Qd (G7 (b := 1000) rfl rfl) <| rN ?_
 have hd3 : (decide (1000 < (to - S.n2))) = false := hfar
 refine Ja rfl hd3 ?_
 refine Qo (Qc (sR ?_))
 refine Y5 (Cj (c := #[]) hm2 Gi Ac rfl Vt Xv) fun w4 b15 hm4 => ?_
 have hm4 : Mem w4 (Qs w0) [(b15, .cells #[] 69 (0, 0)), (b4, .cells (Qy (sE (aA 32 0) (aA 32 0) (aA 32 0) false false (aA 32 0) (aA 32 0) 0 0 0 J3)) 26 (0, 0)), (b2, .cells (Qy (sS S vk)) 26 (0, 0))] := hm4
 refine Qd (Zl (r := 165) Yc rfl Jj Ar rfl rfl) <| Qd (Y2 10 Gi rfl hm4.h2 rfl) <| Vr (Ae (enc := Jl) (k := 65) (Hs := [(b15, .cells #[] 69 (0, 0))]) (H := [_, _]) hm4 (Yu.of Jl 65 69 b15 [] rfl Ya) rfl rfl (RdK.ofRest hk hm4) Gi Gi Ac rfl rfl (fun a _ => Pz a) sL sL) ?_
 rintro sv5 w5 ⟨Hs5, hm5, g5⟩
 replace g5 : Yu Jl 65 69 sv5 S.ks Hs5 := g5
 refine Zx sv5 ?_
 refine rN (Qa (Qh ?_))
 refine Y1 (fun g wv => ∃ (k : Nat) (vj : Value) (Hj : List (Nat × Obj)), (k ≤ (to - S.n2).toNat) ∧ (Yu Jl 65 69 vj (Zt S k).ks Hj) ∧ g 0 = (aO (Qy (sS S vk))) ∧ g 1 = (i64 to) ∧ g 2 = (ptr b2 0) ∧ g 4 = (ptr b4 0) ∧ g 5 = (bl false) ∧ g 6 = vj ∧ g 13 = (bl (decide (1000 < (to - S.n2)))) ∧ Mem wv (Qs w0) ([(b2, .cells (Qy (sS (Zt S k) vk)) 26 (0, 0))] ++ (Hj ++ ([(b4, .cells (Qy (sE (aA 32 0) (aA 32 0) (aA 32 0) false false (aA 32 0) (aA 32 0) 0 0 0 J3)) 26 (0, 0))])))) (fun g wv => (to - Qcv wv b2 163).toNat) ?_ ?_
 have hm6 := (aC Hs5 [_] _ hm5)
 have hm7 := (aC [_] Hs5 _ hm6)
 have hm8 := (aN Hs5 [_] [_] _ hm7)
 ·exact ⟨0, sv5, Hs5, (Nat.zero_le _), (Yu.cast g5 (by first | rfl | simp [Zt])), rfl, rfl, rfl, rfl, rfl, rfl, rfl, (by
  have hT := hm8
  try simp only [aQ, aW, aX, aZ] at hT ⊢
  exact hT)⟩
 rintro fr9 w10 ⟨k, vj, Hj, hk1, gj, s0, s1, s2, s4, s5, s6, s13, hm10⟩
 have z6 := s6
 have hz0 : Qcv w10 b2 163 = (Zt S k).n2 := Qeb 8 hm10.h0 rfl
 have hk2 := Qft S k
 have hkn := Qfu S k
 refine Qa (sR ?_)
 refine Qd (Zl (r := 163) Yc rfl Jj Uw rfl s2) <| Qd (Y2 8 Fa rfl hm10.h0 rfl) <| X9 s1 <| Qd (Xd rfl rfl) <| rN ?_
 refine Zz rfl (fun hc11 => ?_) (fun hc11 => ?_)
 ·
  have hc11p := of_decide_eq_true hc11
  refine Qo (Qc (Gh (sR ?_)))
  refine Qd (Zl (r := 130) Yc rfl Jj Zh rfl s2) <| Qd (Jn 6 Xn Zh rfl hm10.h0 rfl) <| U5 hm10 (oc37 (Jz rfl) (Qsz _ _ sL)) fun w12 hm12 => X9 rfl <| Qd (v := (agg u8 (Xc ((Zt S k).t) [2#8]))) (Zr rfl rfl) <| Qd (v := (agg u8 (Xc ((Zt S k).t) [1#8]))) (Zr rfl rfl) <| Y5 (Q7 hm12 Zh) fun w14 b7 hm14 => Y5 (Q7 hm14 Zh) fun w15 b8 hm15 => Vs hm15 (Qg (f := u8) (l := Xc ((Zt S k).t) [2#8]) Qr Zh rfl rfl sL hm15.h1 Ph rfl) fun w16 hm16 => Ye hm16 (Qg (f := u8) (l := Xc ((Zt S k).t) [1#8]) Qr Zh rfl rfl sL hm16.h0 Ph rfl) fun w17 hm17 => ?_
  refine rN (sR ?_)
  refine X9 s6 <| Qd (Zl (r := 64) Yc rfl Jj Zh rfl s2) <| Qd (Jn 2 Xn Zh rfl hm17.h2 rfl) <| Qd (Zl (r := 163) Yc rfl Jj Uw rfl s2) <| Qd (Y2 8 Fa rfl hm17.h2 rfl) <| Qd (Qn Xn rfl Zh rfl hm17.h0 Ph) <| Qd (Ws (c := (Qy (sK ((Zt S k).o) ((Zt S k).n2) (Xc ((Zt S k).t) [1#8])))) (pl := [(0, 32), (32, 1), (33, 32)]) Ac Qez Xv (Jp (i := 0) (v := (agg u8 ((Zt S k).o))) (cs := (cl u8 ((Zt S k).o))) rfl rfl (Jp (i := 1) (v := (i64 ((Zt S k).n2))) (cs := #[(i64 ((Zt S k).n2))]) rfl rfl (Jp (i := 2) (v := (agg u8 (Xc ((Zt S k).t) [1#8]))) (cs := (cl u8 (Xc ((Zt S k).t) [1#8]))) rfl rfl Vt))) (Vx (L := (sK (aA 32 0) 0 (aA 32 0))) 0 (sK ((Zt S k).o) 0 (aA 32 0)) rfl (Gg u8 _).symm rfl (Vx 1 (sK ((Zt S k).o) ((Zt S k).n2) (aA 32 0)) rfl rfl rfl (Vx 2 (sK ((Zt S k).o) ((Zt S k).n2) (Xc ((Zt S k).t) [1#8])) rfl (Gg u8 _).symm rfl Bg)))) <| Y5 (Ha (cs := (Qy (sK ((Zt S k).o) ((Zt S k).n2) (Xc ((Zt S k).t) [1#8])))) hm17 Gi Ac rfl rfl rfl (by rw [U2]; first | (simp; done) | (simp; omega))) fun w18 b36 hm18 => ?_
  have hm18 : Mem w18 (Qs w0) ([(b36, .cells (Qy (sK ((Zt S k).o) ((Zt S k).n2) (Xc ((Zt S k).t) [1#8]))) 69 (0, 0)), (b8, .cells (cl u8 (Xc ((Zt S k).t) [1#8])) 23 (0, 0)), (b7, .cells (cl u8 (Xc ((Zt S k).t) [2#8])) 23 (0, 0)), (b2, .cells (Qy (sS (Zt S k) vk)) 26 (0, 0))] ++ (Hj ++ ([(b4, .cells (Qy (sE (aA 32 0) (aA 32 0) (aA 32 0) false false (aA 32 0) (aA 32 0) 0 0 0 J3)) 26 (0, 0))]))) := hm18
  refine Vr (Ae (enc := Jl) (k := 65) (Hs := Hj) (H := [_, _, _, _, _]) (aC [_, _, _, _] Hj _ hm18) gj rfl rfl (RdK.ofOne (enc := Jl) (k := 65) (a := (Kp.mk ((Zt S k).o) ((Zt S k).n2) (Xc ((Zt S k).t) [1#8]) sD sD)) hm18.h0 rfl (Qhm _)) Gi Gi Ac rfl rfl (fun a _ => Pz a) sL sL) ?_
  rintro sv19 w19 ⟨Hs19, hm19, g19⟩
  replace g19 : Yu Jl 65 69 sv19 (((Zt S k).ks) ++ ([(Kp.mk ((Zt S k).o) ((Zt S k).n2) (Xc ((Zt S k).t) [1#8]) sD sD)])) Hs19 := g19
  refine Zx sv19 <| rN ?_
  have hm20 := aF [_] _ (aC Hs19 [_] _ hm19)
  refine sR <| Qd (Qn Xn rfl Zh rfl ((aN Hs19 [_] [_] _ hm20)).h0 Ph) <| Qd (Zl (r := 130) Yc rfl Jj Zh rfl s2) <| Vd (Ue 6 (sE ((Zt S k).r) ((Zt S k).w) ((Zt S k).o) ((Zt S k).sb) ((Zt S k).tb) ((Zt S k).s) (Xc ((Zt S k).t) [2#8]) ((Zt S k).n1) ((Zt S k).n2) ((Zt S k).n3) vk) Qr Zh rfl rfl ((aN Hs19 [_, _] [_] _ hm20)).h0 rfl) ?_
  rintro _ w21 uq21
  have hm21 : Mem _ _ ([_] ++ (Hs19 ++ ([_, _, _]))) := Mem.upd0 (aN Hs19 [_, _] [_] _ hm20) uq21
  refine rN (Qb ?_)
  refine Qd (Zl (r := 163) Yc rfl Jj Uw rfl s2) <| Qd (Y2 8 Fa rfl hm21.h0 rfl) <| Qd (Zg (b := 1) rfl rfl oM oM) <| Qd (Zl (r := 163) Yc rfl Jj Uw rfl s2) <| Ye hm21 (Ud 8 (sE ((Zt S k).r) ((Zt S k).w) ((Zt S k).o) ((Zt S k).sb) ((Zt S k).tb) ((Zt S k).s) (Xc ((Zt S k).t) [2#8]) ((Zt S k).n1) (((Zt S k).n2) + 1) ((Zt S k).n3) vk) Uw rfl rfl (Zw _) hm21.h0 rfl rfl) fun w22 hm22 => ?_
  refine Zp (Qe (Qc ?_))
  have hm23 := aF [_] _ (aN [_] Hs19 [_] _ hm22)
  have hm24 := aF [_] _ (aN [_] Hs19 [_] _ hm23)
  exact ⟨⟨(k + 1), sv19, Hs19, oM, (Yu.cast g19 rfl), s0, s1, s2, s4, s5, rfl, s13, (by
   have hT := hm24
   try simp only [aQ, aW, aX, aZ] at hT ⊢
   exact hT)⟩, (by have hz1 : Qcv w22 b2 163 = (Zt S k).n2 + 1 := Qeb 8 hm24.h0 rfl; show (to - Qcv _ _ 163).toNat < (to - Qcv _ _ 163).toNat; rw [hz0, hz1]; omega)⟩
 ·
  have hc11p := of_decide_eq_false hc11
  obtain rfl : k = (to - S.n2).toNat := by omega
  obtain ⟨m2, hm2⟩ : ∃ m, m = (Zt S (to - S.n2).toNat).ks.length - 2000 := ⟨_, rfl⟩
  refine X3 ?_
  refine Qj (Qj (Xk ?_))
  refine Qa (Qh ?_)
  refine Y1 (fun g wv => ∃ (j : Nat) (vj2 : Value), (j ≤ m2) ∧ (Yu Jl 65 69 vj2 ((Zt S (to - S.n2).toNat).ks.drop j) Hj) ∧ g 0 = (aO (Qy (sS S vk))) ∧ g 1 = (i64 to) ∧ g 2 = (ptr b2 0) ∧ g 4 = (ptr b4 0) ∧ g 5 = (bl false) ∧ g 6 = vj2 ∧ g 13 = (bl (decide (1000 < (to - S.n2)))) ∧ g 22 = (bl (decide (((Zt S (to - S.n2).toNat).n2) < to))) ∧ Mem wv (Qs w0) ([(b2, .cells (Qy (sS (Zt S (to - S.n2).toNat) vk)) 26 (0, 0))] ++ (Hj ++ ([(b4, .cells (Qy (sE (aA 32 0) (aA 32 0) (aA 32 0) false false (aA 32 0) (aA 32 0) 0 0 0 J3)) 26 (0, 0))])))) (fun g wv => (sllen (g 6))) ?_ ?_
  ·exact ⟨0, vj, (Nat.zero_le _), (Yu.cast gj (by first | rfl | simp)), s0, s1, s2, s4, s5, s6, s13, rfl, hm10⟩
  rintro fr25 w26 ⟨j, vj2, hj, gj2, s0, s1, s2, s4, s5, s6, s13, s22, hm26⟩
  have z6 := s6
  have hjl : ((Zt S (to - S.n2).toNat).ks.drop j).length = (Zt S (to - S.n2).toNat).ks.length - j := by simp
  refine Qa (sR ?_)
  refine X9 s6 <| Qd (Bh (gj2.rd (aC [_] Hj _ hm26)) Gi rfl) <| Qd (G7 (b := 2000) rfl rfl) <| rN ?_
  refine Zz rfl (fun hc27 => ?_) (fun hc27 => ?_)
  ·
   have hc27p := of_decide_eq_true hc27
   refine Qo (Qc (Gh (Qb ?_)))
   refine X9 s6 <| Qd (Ru (i := 1) (j := (((Zt S (to - S.n2).toNat).ks.drop j).length : Int)) (gj2.rd (aC [_] Hj _ hm26)) Gi Ac rfl (Yb (k := .i64) (i := 1) rfl) (Zd _ _) oM sL sL) <| Zx (Pi vj2 1 (((Zt S (to - S.n2).toNat).ks.drop j).length : Int) 65) ?_
   refine Zp (Qe (Qc ?_))
   exact ⟨⟨(j + 1), (Pi vj2 1 (((Zt S (to - S.n2).toNat).ks.drop j).length : Int) 65), (by rw [hjl] at hc27p; omega), (Yu.cast (Yu.cast (Yu.sub (i := 1) (j := (((Zt S (to - S.n2).toNat).ks.drop j).length : Int)) gj2 oM oM oM) (Qpn _)) (by rw [List.drop_drop])), s0, s1, s2, s4, s5, rfl, s13, s22, hm26⟩, (by show sllen (Pi vj2 1 (((Zt S (to - S.n2).toNat).ks.drop j).length : Int) 65) < sllen _; rw [z6, Yu.sllen gj2, Yu.sllen (Yu.cast (Yu.sub (i := 1) (j := (((Zt S (to - S.n2).toNat).ks.drop j).length : Int)) gj2 oM oM oM) (Qpn _)), List.length_drop, hjl]; rw [hjl] at hc27p; omega)⟩
  ·
   have hc27p := of_decide_eq_false hc27
   have hjl : ((Zt S (to - S.n2).toNat).ks.drop j).length = (Zt S (to - S.n2).toNat).ks.length - j := by simp
   have hje : j = m2 := by rw [hjl] at hc27p; omega
   subst hje
   refine X3 ?_
   refine Qj (Qj (Xk ?_))
   refine sR <| X9 s6 <| Qd (Zl (r := 165) Yc rfl Jj Ar rfl s2) <| Ye hm26 (Ud 10 (sS (Zt S (to - S.n2).toNat) vj2) Ar rfl rfl gj2.one hm26.h0 rfl rfl) fun w28 hm28 => ?_
   refine rN (sR ?_)
   refine Qd (Ky Yc J5 s2 hm28.h0) <| Vd (Ko J5 s4 rfl ((aN [_] Hj [_] _ hm28)).h0 (Ur gj2.one)) ?_
   rintro _ w29 uq29
   have hm29 : Mem _ _ ([_, _] ++ (Hj ++ ([]))) := Mem.upd0 (aN [_] Hj [_] _ hm28) uq29
   refine Zx (bl true) ?_
   refine rN (Z8 ?_)
   refine Qq [(aO (Qy (sS (Zt S (to - S.n2).toNat) vj2))), (bl true)] ⟨⟨_, s4, Jq Yc J5 hm29.h0⟩, rfl, trivial⟩ ?_
   have hm30 := aF [_] _ hm29
   have hm31 := aF [_] _ hm30
   have hlv : Q9 S to = (Zt S (to - S.n2).toNat).trim j := by rw [hm2]; unfold Q9 Qga; rw [hfar]; rfl
   rw [hlv]
   exact ⟨vj2, Hj, congrArg (fun x => ak #[aO (Qy x), bl true]) (Qjf (S := (Zt S (to - S.n2).toNat)) (k := j) (v := vj2)).symm, Yu.cast gj2 (Qfm _ _), (by
    have hT := hm31
    try simp only [aQ, aW, aX, aZ] at hT ⊢
    exact hT)⟩
end Go.Proofs.YtkmiemlpfkfiiaaDoor
