/- Contracts: hash, third part. Conditions: none beyond those that each theorem states. -/
import Derived.Test.YtkmiemlpfkfiiaaDoorHa2
namespace Go.Proofs.YtkmiemlpfkfiiaaDoor
open Tryd
set_option linter.unusedVariables false
set_option linter.unusedSimpArgs false
set_option maxHeartbeats 2000000 in
theorem c_dsum (bd : Nat) (x0 x1 x2 x3 x4 x5 x6 x7 : BitVec 32) (sv : Value) (ll : Xg) (n : BitVec 64) (w0 : World)  (hT : Tabs (Jl w0)) (hd : Jl w0 bd = some (.cells #[(u32 x0), (u32 x1), (u32 x2), (u32 x3), (u32 x4), (u32 x5), (u32 x6), (u32 x7), sv, (u64 n)] 154 (0, 0))) (hrl : Rd (Jl w0) u8 sv ll) (hll : ll.length < 64) : X9 prog 87 #[(ptr bd 0)] w0 (fun r w1 => r = (agg u8 (Df [x0, x1, x2, x3, x4, x5, x6, x7] ll n)) ∧ Ext w0 w1) := by
 refine Zb (args := [(ptr bd 0)]) func87 rfl ntmps87 results87 rfl ?_
 have m0 : Mem w0 (Qu w0) [] := Mem.of_world w0
 obtain ⟨Es, fzs, hTs⟩ := hT.start
 obtain ⟨Er, fzr, hTr⟩ := hT.round
 refine sR <| Y9 (Zc m0 Zl) fun w1 b2 m1 => ?_
 refine rN (Qa ?_)
 refine Bq (J := fun g wv => ∃ (be : Nat) (svc : Value) (Hsc : List (Nat × Obj)), (Xe u8 5 svc ll Hsc) ∧ g 0 = (ptr bd 0) ∧ g 2 = (ptr b2 0) ∧ g 3 = (ptr be 0) ∧ Mem wv (Qu w0) ([(be, .cells #[(u32 x0), (u32 x1), (u32 x2), (u32 x3), (u32 x4), (u32 x5), (u32 x6), (u32 x7), svc, (u64 n)] 154 (0, 0))] ++ (Hsc ++ ([(b2, .cells (cl u8 (List.replicate 32 0)) 23 (0, 0))])))) ?_ ?_
 ·skip
  refine Kr Xw ?_
  refine Qiy 8 14 rfl rfl ?_ ?_
  ·
   refine Ar [(0, false), (1, false), (2, false), (3, false), (4, false), (5, false), (6, false), (7, false), (9, false), (10, false), (11, false), (12, false), (8, true), (13, false), (14, true)] 15 rfl Xw <| Ky rfl (ptr bd 0) <| Yb rfl (Zh rfl) <| Yb rfl (Zr (r := 0) Vq rfl Jr Uk rfl rfl) <| Yn (v := (agg u32 ([x0, x1, x2, x3, x4, x5, x6, x7]))) rfl (fun _ e' => Qnw (c' := (cl u32 ([x0, x1, x2, x3, x4, x5, x6, x7]))) Jc rfl Uk rfl ((m1.ext e').rest _ _ hd) Xw Xw) <| Ky rfl (ptr bd 0) <| Yb rfl (Zh rfl) <| Yb rfl (Zr (r := 8) Vq rfl Jr Pg rfl rfl) <| Yn (v := sv) rfl (fun _ e' => Ql Zu rfl rfl ((m1.ext e').rest _ _ hd) rfl) <| Ky rfl (ptr bd 0) <| Yb rfl (Zh rfl) <| Yb rfl (Zr (r := 9) Vq rfl Jr Xu rfl rfl) ?_
   refine Yn (v := (u64 n)) rfl (fun _ e' => Ql Ym rfl rfl ((m1.ext e').rest _ _ hd) rfl) ?_
   refine Cj rfl rfl (fun w2 e2 => ?_)
   have m2 := m1.ext e2
   refine Vp.mono (oc34 (Kt rfl) (Qcg sv ll _ (Rd.ofRest hrl m2) sD)) ?_
   rintro rq4 w3 ⟨Hsq4, grq4, k_w3⟩
   refine ⟨k_w3.toExt, ?_⟩
   have m3 : Mem _ _ (Hsq4 ++ ([_])) := Mem.new (H := [_]) (H' := Hsq4) m2 k_w3
   refine Yb rfl (Va (c := #[(u32 x0), (u32 x1), (u32 x2), (u32 x3), (u32 x4), (u32 x5), (u32 x6), (u32 x7), rq4, (u64 n)]) (pl := [(0, 8), (8, 1), (9, 1)]) Qil Vq Xw (J3 (i := 0) (v := (agg u32 ([x0, x1, x2, x3, x4, x5, x6, x7]))) (cs := (cl u32 ([x0, x1, x2, x3, x4, x5, x6, x7]))) rfl rfl (J3 (i := 1) (v := rq4) (cs := #[rq4]) rfl (Qgj grq4.one) (J3 (i := 2) (v := (u64 n)) (cs := #[(u64 n)]) rfl rfl V3))) Xw) ?_
   refine Cj rfl rfl (fun w5 e5 => ?_)
   have m5 := m3.ext e5
   refine Vp.mono (Ji m5 Qil) ?_
   rintro _ w6 ⟨b3, rfl, e6, m6⟩
   refine ⟨e6, ?_⟩
   refine Gs m6 fun w7 m7 => Vk (Qgf (cs := #[(u32 x0), (u32 x1), (u32 x2), (u32 x3), (u32 x4), (u32 x5), (u32 x6), (u32 x7), rq4, (u64 n)]) Qil rfl rfl Xw (Ql1 (X4 (Xf _) (X4 (Xf _) (X4 (Xf _) (X4 (Xf _) (X4 (Xf _) (X4 (Xf _) (X4 (Xf _) (X4 (Xf _) (X4 grq4.one (X4 (Xy _) Kw))))))))))) m7.h0 Xw rfl) ?_
   rintro _ w8 uq8
   have m8 : Mem _ _ ([(b3, .cells #[(u32 x0), (u32 x1), (u32 x2), (u32 x3), (u32 x4), (u32 x5), (u32 x6), (u32 x7), rq4, (u64 n)] 154 (0, 0))] ++ (Hsq4 ++ ([_]))) := m7.upd0 uq8
   refine rN ?_
   exact ⟨b3, rq4, Hsq4, grq4, rfl, rfl, rfl, m8⟩
  ·
   refine Ar [(0, false), (1, false), (2, false), (3, false), (4, false), (5, false), (6, false), (7, false), (9, false), (10, false), (11, false), (12, false), (14, true), (8, true), (13, false)] 15 rfl Xw <| Ky rfl (ptr bd 0) <| Yb rfl (Zh rfl) <| Yb rfl (Zr (r := 0) Vq rfl Jr Uk rfl rfl) <| Yn (v := (agg u32 ([x0, x1, x2, x3, x4, x5, x6, x7]))) rfl (fun _ e' => Qnw (c' := (cl u32 ([x0, x1, x2, x3, x4, x5, x6, x7]))) Jc rfl Uk rfl ((m1.ext e').rest _ _ hd) Xw Xw) <| Ky rfl (ptr bd 0) <| Yb rfl (Zh rfl) <| Yb rfl (Zr (r := 8) Vq rfl Jr Pg rfl rfl) <| Yn (v := sv) rfl (fun _ e' => Ql Zu rfl rfl ((m1.ext e').rest _ _ hd) rfl) <| Ky rfl (ptr bd 0) <| Yb rfl (Zh rfl) <| Yb rfl (Zr (r := 9) Vq rfl Jr Xu rfl rfl) ?_
   refine Yn (v := (u64 n)) rfl (fun _ e' => Ql Ym rfl rfl ((m1.ext e').rest _ _ hd) rfl) ?_
   refine Cj rfl rfl (fun w9 e9 => ?_)
   have m9 := m1.ext e9
   refine Vp.mono (Ji m9 Qil) ?_
   rintro _ w10 ⟨b3_1, rfl, e10, m10⟩
   refine ⟨e10, ?_⟩
   refine Cj rfl rfl (fun w11 e11 => ?_)
   have m11 := m10.ext e11
   refine Vp.mono (oc34 (Kt rfl) (Qcg sv ll _ (Rd.ofRest hrl m11) sD)) ?_
   rintro rq13 w12 ⟨Hsq13, grq13, k_w12⟩
   refine ⟨k_w12.toExt, ?_⟩
   have m12 : Mem _ _ (Hsq13 ++ ([_, _])) := Mem.new (H := [_, _]) (H' := Hsq13) m11 k_w12
   refine Yb rfl (Va (c := #[(u32 x0), (u32 x1), (u32 x2), (u32 x3), (u32 x4), (u32 x5), (u32 x6), (u32 x7), rq13, (u64 n)]) (pl := [(0, 8), (8, 1), (9, 1)]) Qil Vq Xw (J3 (i := 0) (v := (agg u32 ([x0, x1, x2, x3, x4, x5, x6, x7]))) (cs := (cl u32 ([x0, x1, x2, x3, x4, x5, x6, x7]))) rfl rfl (J3 (i := 1) (v := rq13) (cs := #[rq13]) rfl (Qgj grq13.one) (J3 (i := 2) (v := (u64 n)) (cs := #[(u64 n)]) rfl rfl V3))) Xw) <| Gs m12 fun w14 m14 => Vk (Qgf (cs := #[(u32 x0), (u32 x1), (u32 x2), (u32 x3), (u32 x4), (u32 x5), (u32 x6), (u32 x7), rq13, (u64 n)]) Qil rfl rfl Xw (Ql1 (X4 (Xf _) (X4 (Xf _) (X4 (Xf _) (X4 (Xf _) (X4 (Xf _) (X4 (Xf _) (X4 (Xf _) (X4 (Xf _) (X4 grq13.one (X4 (Xy _) Kw))))))))))) ((Mem.pick Hsq13 [_] _ m14)).h0 Xw rfl) ?_
   rintro _ w15 uq15
   have m15 : Mem _ _ ([(b3_1, .cells #[(u32 x0), (u32 x1), (u32 x2), (u32 x3), (u32 x4), (u32 x5), (u32 x6), (u32 x7), rq13, (u64 n)] 154 (0, 0))] ++ (Hsq13 ++ ([_]))) := Mem.upd0 (Mem.pick Hsq13 [_] _ m14) uq15
   refine rN ?_
   exact ⟨b3_1, rq13, Hsq13, grq13, rfl, rfl, rfl, m15⟩
 rintro fr16 w17 ⟨be, svc, Hsc, gc, s0, s2, s3, m17⟩
 refine sR <| Y9 (Qw u8 [128#8] Qy m17 Zu Y0 rfl rfl rfl) fun w18 b21 m18 => Zz (Wq b21 0 1 1) ?_
 refine rN (Qa (Qk ?_))
 refine Y7 (fun g wv => ∃ (k : Nat) (pl : Xg) (sp : Value) (Hp : List (Nat × Obj)), (k ≤ (119 - ll.length) % 64) ∧ (pl = 128#8 :: List.replicate k 0#8) ∧ (Xe u8 5 sp pl Hp) ∧ g 0 = (ptr bd 0) ∧ g 2 = (ptr b2 0) ∧ g 3 = (ptr be 0) ∧ g 4 = sp ∧ Mem wv (Qu w0) (Hp ++ ([(be, .cells #[(u32 x0), (u32 x1), (u32 x2), (u32 x3), (u32 x4), (u32 x5), (u32 x6), (u32 x7), svc, (u64 n)] 154 (0, 0))] ++ (Hsc ++ ([(b2, .cells (cl u8 (List.replicate 32 0)) 23 (0, 0))]))))) (fun g wv => (119 - ll.length) % 64 + 2 - sllen (g 4)) ?_ ?_
 ·exact ⟨0, [128#8], (Wq b21 0 1 1), [(b21, .cells (cl u8 ([128#8])) 5 (0, 0))], oM, rfl, (Xe.of u8 5 b21 [128#8]), s0, s2, s3, rfl, m18⟩
 rintro fr19 w20 ⟨k, pl, sp, Hp, hk, hpl, gp, s0, s2, s3, s4, m20⟩
 have z4 := s4
 have hpn : pl.length = k + 1 := by rw [hpl]; simp
 refine Qa (sR ?_)
 refine Qd (Zr (r := 8) Vq rfl Jr Pg rfl s3) <| Qd (v := svc) (Ql Zu rfl rfl ((Mem.pick Hp [_] _ m20)).h0 rfl) <| Qd (Yl (gc.rd (Mem.pick2 Hp [_] Hsc _ m20)) Zu rfl) <| Ya s4 <| Qd (Yl (gp.rd m20) Zu rfl) <| Qd (Zg rfl rfl oM oM) <| Qd (Zg (b := 8) rfl rfl oM oM) <| Qd (Vf (b := 64) rfl rfl oM oM oM) <| Qd (Jw (b := 0) rfl rfl) <| rN ?_
 refine Z8 rfl (fun hc21 => ?_) (fun hc21 => ?_)
 ·
  have hc21p := bne_iff_ne.1 hc21
  refine Qs (Qc (V5 (Qb ?_)))
  refine Ya s4 <| Y9 (Qw u8 [0#8] Qy m20 Zu Y0 rfl rfl rfl) fun w22 b32 m22 => Vy (Xp (f := u8) (Hs := Hp) (H := [_, _] ++ (Hsc ++ ([_]))) (Mem.pick [_] Hp _ m22) gp rfl rfl (Rd.mkA m22.h0) Zu Zu Y0 rfl Qy sD sD) ?_
  rintro sv23 w23 ⟨Hs23, m23, g23⟩
  replace g23 : Xe u8 5 sv23 (pl ++ ([0#8])) Hs23 := g23
  refine Zz sv23 ?_
  refine Zv (Qh (Qc ?_))
  have m24 := Mem.drop [_] _ (Mem.pick Hs23 [_] _ m23)
  exact ⟨⟨k + 1, pl ++ ([0#8]), sv23, Hs23, oM, (by rw [hpl, List.replicate_succ']; rfl), g23, s0, s2, s3, rfl, m24⟩, (by show (119 - ll.length) % 64 + 2 - sllen sv23 < (119 - ll.length) % 64 + 2 - sllen _; rw [z4, gp.sllen, Xe.sllen g23]; simp [hpn]; omega)⟩
 ·
  have hc21p := X0 hc21
  have hpn : pl.length = k + 1 := by rw [hpl]; simp
  obtain rfl : k = (119 - ll.length) % 64 := by omega
  subst hpl
  refine X6 ?_
  refine Qm (Qm (Xi ?_))
  refine Qa (sR ?_)
  refine Zz (i64 7) ?_
  refine rN (Qk ?_)
  refine Wx 9 ?_
  refine Zt (Qa (sR ?_))
  refine Zp (i64 7) <| Qd (Ux 7 0) <| rN <| Za rfl Jg ?_
  refine Qs (Qc (Qa (Qk (Qb ?_))))
  refine Ya s4 <| Ya s0 <| Qd (Zh rfl) <| Qd (Zr (r := 9) Vq rfl Jr Xu rfl rfl) <| Qd (v := (u64 n)) (Ql Ym rfl rfl (m20.rest _ _ hd) rfl) <| Qd (Ey (b := 3) rfl rfl oM) <| Zp (i64 7) <| Qd (v := (i64 56)) (V7 8 7) <| Qd (Yf (b := 56) rfl rfl oM) <| Qd (Yc ⟨_, Ym⟩ Gl rfl) <| Y9 (Qw u8 [((n <<< 3) >>> 56).setWidth 8] Qy m20 Zu Y0 rfl rfl rfl) fun w25 b48 m25 => Vy (Xp (f := u8) (Hs := Hp) (H := [_, _] ++ (Hsc ++ ([_]))) (Mem.pick [_] Hp _ m25) gp rfl rfl (Rd.mkA m25.h0) Zu Zu Y0 rfl Qy sD sD) ?_
  rintro sv26 w26 ⟨Hs26, m26, g26⟩
  replace g26 : Xe u8 5 sv26 ((128#8 :: List.replicate ((119 - ll.length) % 64) 0#8) ++ ([((n <<< 3) >>> 56).setWidth 8])) Hs26 := g26
  refine Zz sv26 ?_
  refine Zv (Qh ?_)
  have m27 := Mem.drop [_] _ (Mem.pick Hs26 [_] _ m26)
  refine Qb <| Zp (i64 7) <| Qd (v := (i64 6)) (Gg 7 1) <| Zz (i64 6) ?_
  refine rN (Zt (Qa (sR ?_)))
  refine Zp (i64 6) <| Qd (Ux 6 0) <| rN <| Za rfl Jg ?_
  refine Qs (Qc (Qa (Qk (Qb ?_))))
  refine Zp sv26 <| Ya s0 <| Qd (Zh rfl) <| Qd (Zr (r := 9) Vq rfl Jr Xu rfl rfl) <| Qd (v := (u64 n)) (Ql Ym rfl rfl (m27.rest _ _ hd) rfl) <| Qd (Ey (b := 3) rfl rfl oM) <| Zp (i64 6) <| Qd (v := (i64 48)) (V7 8 6) <| Qd (Yf (b := 48) rfl rfl oM) <| Qd (Yc ⟨_, Ym⟩ Gl rfl) <| Y9 (Qw u8 [((n <<< 3) >>> 48).setWidth 8] Qy m27 Zu Y0 rfl rfl rfl) fun w28 b48_1 m28 => Vy (Xp (f := u8) (Hs := Hs26) (H := [_, _] ++ (Hsc ++ ([_]))) (Mem.pick [_] Hs26 _ m28) g26 rfl rfl (Rd.mkA m28.h0) Zu Zu Y0 rfl Qy sD sD) ?_
  rintro sv29 w29 ⟨Hs29, m29, g29⟩
  replace g29 : Xe u8 5 sv29 (((128#8 :: List.replicate ((119 - ll.length) % 64) 0#8) ++ ([((n <<< 3) >>> 56).setWidth 8])) ++ ([((n <<< 3) >>> 48).setWidth 8])) Hs29 := g29
  refine Zz sv29 ?_
  refine Zv (Qh ?_)
  have m30 := Mem.drop [_] _ (Mem.pick Hs29 [_] _ m29)
  refine Qb <| Zp (i64 6) <| Qd (v := (i64 5)) (Gg 6 1) <| Zz (i64 5) ?_
  refine rN (Zt (Qa (sR ?_)))
  refine Zp (i64 5) <| Qd (Ux 5 0) <| rN <| Za rfl Jg ?_
  refine Qs (Qc (Qa (Qk (Qb ?_))))
  refine Zp sv29 <| Ya s0 <| Qd (Zh rfl) <| Qd (Zr (r := 9) Vq rfl Jr Xu rfl rfl) <| Qd (v := (u64 n)) (Ql Ym rfl rfl (m30.rest _ _ hd) rfl) <| Qd (Ey (b := 3) rfl rfl oM) <| Zp (i64 5) <| Qd (v := (i64 40)) (V7 8 5) <| Qd (Yf (b := 40) rfl rfl oM) <| Qd (Yc ⟨_, Ym⟩ Gl rfl) <| Y9 (Qw u8 [((n <<< 3) >>> 40).setWidth 8] Qy m30 Zu Y0 rfl rfl rfl) fun w31 b48_2 m31 => Vy (Xp (f := u8) (Hs := Hs29) (H := [_, _] ++ (Hsc ++ ([_]))) (Mem.pick [_] Hs29 _ m31) g29 rfl rfl (Rd.mkA m31.h0) Zu Zu Y0 rfl Qy sD sD) ?_
  rintro sv32 w32 ⟨Hs32, m32, g32⟩
  replace g32 : Xe u8 5 sv32 ((((128#8 :: List.replicate ((119 - ll.length) % 64) 0#8) ++ ([((n <<< 3) >>> 56).setWidth 8])) ++ ([((n <<< 3) >>> 48).setWidth 8])) ++ ([((n <<< 3) >>> 40).setWidth 8])) Hs32 := g32
  refine Zz sv32 ?_
  refine Zv (Qh ?_)
  have m33 := Mem.drop [_] _ (Mem.pick Hs32 [_] _ m32)
  refine Qb <| Zp (i64 5) <| Qd (v := (i64 4)) (Gg 5 1) <| Zz (i64 4) ?_
  refine rN (Zt (Qa (sR ?_)))
  refine Zp (i64 4) <| Qd (Ux 4 0) <| rN <| Za rfl Jg ?_
  refine Qs (Qc (Qa (Qk (Qb ?_))))
  refine Zp sv32 <| Ya s0 <| Qd (Zh rfl) <| Qd (Zr (r := 9) Vq rfl Jr Xu rfl rfl) <| Qd (v := (u64 n)) (Ql Ym rfl rfl (m33.rest _ _ hd) rfl) <| Qd (Ey (b := 3) rfl rfl oM) <| Zp (i64 4) <| Qd (v := (i64 32)) (V7 8 4) <| Qd (Yf (b := 32) rfl rfl oM) <| Qd (Yc ⟨_, Ym⟩ Gl rfl) <| Y9 (Qw u8 [((n <<< 3) >>> 32).setWidth 8] Qy m33 Zu Y0 rfl rfl rfl) fun w34 b48_3 m34 => Vy (Xp (f := u8) (Hs := Hs32) (H := [_, _] ++ (Hsc ++ ([_]))) (Mem.pick [_] Hs32 _ m34) g32 rfl rfl (Rd.mkA m34.h0) Zu Zu Y0 rfl Qy sD sD) ?_
  rintro sv35 w35 ⟨Hs35, m35, g35⟩
  replace g35 : Xe u8 5 sv35 (((((128#8 :: List.replicate ((119 - ll.length) % 64) 0#8) ++ ([((n <<< 3) >>> 56).setWidth 8])) ++ ([((n <<< 3) >>> 48).setWidth 8])) ++ ([((n <<< 3) >>> 40).setWidth 8])) ++ ([((n <<< 3) >>> 32).setWidth 8])) Hs35 := g35
  refine Zz sv35 ?_
  refine Zv (Qh ?_)
  have m36 := Mem.drop [_] _ (Mem.pick Hs35 [_] _ m35)
  refine Qb <| Zp (i64 4) <| Qd (v := (i64 3)) (Gg 4 1) <| Zz (i64 3) <| rN ?_
  refine CR.abs (fun g => g 0 = (ptr bd 0) ∧ g 2 = (ptr b2 0) ∧ g 3 = (ptr be 0) ∧ g 4 = sv35 ∧ g 5 = (i64 3) ∧ g 30 = (bl (((((ll.length : Int) + ((128#8 :: List.replicate ((119 - ll.length) % 64) 0#8).length : Int)) + 8) % 64) != 0)) ∧ g 35 = (bl true) ∧ True) ⟨s0, s2, s3, rfl, rfl, rfl, rfl, trivial⟩ ?_
  rintro fr37 ⟨s0, s2, s3, s4, s5, s30, s35, _⟩
  refine Zt (Qa (sR ?_))
  refine Ya s5 <| Qd (Ux 3 0) <| rN <| Za rfl Jg ?_
  refine Qs (Qc (Qa (Qk (Qb ?_))))
  refine Ya s4 <| Ya s0 <| Qd (Zh rfl) <| Qd (Zr (r := 9) Vq rfl Jr Xu rfl rfl) <| Qd (v := (u64 n)) (Ql Ym rfl rfl (m36.rest _ _ hd) rfl) <| Qd (Ey (b := 3) rfl rfl oM) <| Ya s5 <| Qd (v := (i64 24)) (V7 8 3) <| Qd (Yf (b := 24) rfl rfl oM) <| Qd (Yc ⟨_, Ym⟩ Gl rfl) <| Y9 (Qw u8 [((n <<< 3) >>> 24).setWidth 8] Qy m36 Zu Y0 rfl rfl rfl) fun w38 b48_4 m38 => Vy (Xp (f := u8) (Hs := Hs35) (H := [_, _] ++ (Hsc ++ ([_]))) (Mem.pick [_] Hs35 _ m38) g35 rfl rfl (Rd.mkA m38.h0) Zu Zu Y0 rfl Qy sD sD) ?_
  rintro sv39 w39 ⟨Hs39, m39, g39⟩
  replace g39 : Xe u8 5 sv39 ((((((128#8 :: List.replicate ((119 - ll.length) % 64) 0#8) ++ ([((n <<< 3) >>> 56).setWidth 8])) ++ ([((n <<< 3) >>> 48).setWidth 8])) ++ ([((n <<< 3) >>> 40).setWidth 8])) ++ ([((n <<< 3) >>> 32).setWidth 8])) ++ ([((n <<< 3) >>> 24).setWidth 8])) Hs39 := g39
  refine Zz sv39 ?_
  refine Zv (Qh ?_)
  have m40 := Mem.drop [_] _ (Mem.pick Hs39 [_] _ m39)
  refine Qb <| Ya s5 <| Qd (v := (i64 2)) (Gg 3 1) <| Zz (i64 2) ?_
  refine rN (Zt (Qa (sR ?_)))
  refine Zp (i64 2) <| Qd (Ux 2 0) <| rN <| Za rfl Jg ?_
  refine Qs (Qc (Qa (Qk (Qb ?_))))
  refine Zp sv39 <| Ya s0 <| Qd (Zh rfl) <| Qd (Zr (r := 9) Vq rfl Jr Xu rfl rfl) <| Qd (v := (u64 n)) (Ql Ym rfl rfl (m40.rest _ _ hd) rfl) <| Qd (Ey (b := 3) rfl rfl oM) <| Zp (i64 2) <| Qd (v := (i64 16)) (V7 8 2) <| Qd (Yf (b := 16) rfl rfl oM) <| Qd (Yc ⟨_, Ym⟩ Gl rfl) <| Y9 (Qw u8 [((n <<< 3) >>> 16).setWidth 8] Qy m40 Zu Y0 rfl rfl rfl) fun w41 b48_5 m41 => Vy (Xp (f := u8) (Hs := Hs39) (H := [_, _] ++ (Hsc ++ ([_]))) (Mem.pick [_] Hs39 _ m41) g39 rfl rfl (Rd.mkA m41.h0) Zu Zu Y0 rfl Qy sD sD) ?_
  rintro sv42 w42 ⟨Hs42, m42, g42⟩
  replace g42 : Xe u8 5 sv42 (((((((128#8 :: List.replicate ((119 - ll.length) % 64) 0#8) ++ ([((n <<< 3) >>> 56).setWidth 8])) ++ ([((n <<< 3) >>> 48).setWidth 8])) ++ ([((n <<< 3) >>> 40).setWidth 8])) ++ ([((n <<< 3) >>> 32).setWidth 8])) ++ ([((n <<< 3) >>> 24).setWidth 8])) ++ ([((n <<< 3) >>> 16).setWidth 8])) Hs42 := g42
  refine Zz sv42 ?_
  refine Zv (Qh ?_)
  have m43 := Mem.drop [_] _ (Mem.pick Hs42 [_] _ m42)
  refine Qb <| Zp (i64 2) <| Qd (v := (i64 1)) (Gg 2 1) <| Zz (i64 1) ?_
  refine rN (Zt (Qa (sR ?_)))
  refine Zp (i64 1) <| Qd (Ux 1 0) <| rN <| Za rfl Jg ?_
  refine Qs (Qc (Qa (Qk (Qb ?_))))
  refine Zp sv42 <| Ya s0 <| Qd (Zh rfl) <| Qd (Zr (r := 9) Vq rfl Jr Xu rfl rfl) <| Qd (v := (u64 n)) (Ql Ym rfl rfl (m43.rest _ _ hd) rfl) <| Qd (Ey (b := 3) rfl rfl oM) <| Zp (i64 1) <| Qd (v := (i64 8)) (V7 8 1) <| Qd (Yf (b := 8) rfl rfl oM) <| Qd (Yc ⟨_, Ym⟩ Gl rfl) <| Y9 (Qw u8 [((n <<< 3) >>> 8).setWidth 8] Qy m43 Zu Y0 rfl rfl rfl) fun w44 b48_6 m44 => Vy (Xp (f := u8) (Hs := Hs42) (H := [_, _] ++ (Hsc ++ ([_]))) (Mem.pick [_] Hs42 _ m44) g42 rfl rfl (Rd.mkA m44.h0) Zu Zu Y0 rfl Qy sD sD) ?_
  rintro sv45 w45 ⟨Hs45, m45, g45⟩
  replace g45 : Xe u8 5 sv45 ((((((((128#8 :: List.replicate ((119 - ll.length) % 64) 0#8) ++ ([((n <<< 3) >>> 56).setWidth 8])) ++ ([((n <<< 3) >>> 48).setWidth 8])) ++ ([((n <<< 3) >>> 40).setWidth 8])) ++ ([((n <<< 3) >>> 32).setWidth 8])) ++ ([((n <<< 3) >>> 24).setWidth 8])) ++ ([((n <<< 3) >>> 16).setWidth 8])) ++ ([((n <<< 3) >>> 8).setWidth 8])) Hs45 := g45
  refine Zz sv45 ?_
  refine Zv (Qh ?_)
  have m46 := Mem.drop [_] _ (Mem.pick Hs45 [_] _ m45)
  refine Qb <| Zp (i64 1) <| Qd (v := (i64 0)) (Gg 1 1) <| Zz (i64 0) ?_
  refine rN (Zt (Qa (sR ?_)))
  refine Zp (i64 0) <| Qd (Ux 0 0) <| rN <| Za rfl Jg ?_
  refine Qs (Qc (Qa (Qk (Qb ?_))))
  refine Zp sv45 <| Ya s0 <| Qd (Zh rfl) <| Qd (Zr (r := 9) Vq rfl Jr Xu rfl rfl) <| Qd (v := (u64 n)) (Ql Ym rfl rfl (m46.rest _ _ hd) rfl) <| Qd (Ey (b := 3) rfl rfl oM) <| Zp (i64 0) <| Qd (v := (i64 0)) (V7 8 0) <| Qd (Yf (b := 0) rfl rfl oM) <| Qd (Yc ⟨_, Ym⟩ Gl rfl) <| Y9 (Qw u8 [((n <<< 3) >>> 0).setWidth 8] Qy m46 Zu Y0 rfl rfl rfl) fun w47 b48_7 m47 => Vy (Xp (f := u8) (Hs := Hs45) (H := [_, _] ++ (Hsc ++ ([_]))) (Mem.pick [_] Hs45 _ m47) g45 rfl rfl (Rd.mkA m47.h0) Zu Zu Y0 rfl Qy sD sD) ?_
  rintro sv48 w48 ⟨Hs48, m48, g48⟩
  replace g48 : Xe u8 5 sv48 (((((((((128#8 :: List.replicate ((119 - ll.length) % 64) 0#8) ++ ([((n <<< 3) >>> 56).setWidth 8])) ++ ([((n <<< 3) >>> 48).setWidth 8])) ++ ([((n <<< 3) >>> 40).setWidth 8])) ++ ([((n <<< 3) >>> 32).setWidth 8])) ++ ([((n <<< 3) >>> 24).setWidth 8])) ++ ([((n <<< 3) >>> 16).setWidth 8])) ++ ([((n <<< 3) >>> 8).setWidth 8])) ++ ([((n <<< 3) >>> 0).setWidth 8])) Hs48 := g48
  refine Zz sv48 ?_
  refine Zv (Qh ?_)
  have m49 := Mem.drop [_] _ (Mem.pick Hs48 [_] _ m48)
  refine Qb <| Zp (i64 0) <| Qd (v := (i64 (-1))) (Gg 0 1) <| Zz (i64 (-1)) ?_
  refine rN (Zt (Qa (sR ?_)))
  refine Zp (i64 (-1)) <| Qd (Ux (-1) 0) <| rN <| Yy rfl Jg <| X6 ?_
  refine Qm (Qm (Xi ?_))
  refine Qa ?_
  have hpad : ((((((((128#8 :: List.replicate ((119 - ll.length) % 64) 0#8) ++ ([((n <<< 3) >>> 56).setWidth 8])) ++ ([((n <<< 3) >>> 48).setWidth 8])) ++ ([((n <<< 3) >>> 40).setWidth 8])) ++ ([((n <<< 3) >>> 32).setWidth 8])) ++ ([((n <<< 3) >>> 24).setWidth 8])) ++ ([((n <<< 3) >>> 16).setWidth 8])) ++ ([((n <<< 3) >>> 8).setWidth 8])) ++ ([((n <<< 3) >>> 0).setWidth 8]) = padP n ll.length := by simp [padP, lenB]
  refine Qb <| Zp sv48 ?_
  have hF51 : Mem w48 (Qu w0) (([(be, .cells #[(u32 x0), (u32 x1), (u32 x2), (u32 x3), (u32 x4), (u32 x5), (u32 x6), (u32 x7), svc, (u64 n)] 154 (0, 0))] ++ (Hsc ++ ([]))) ++ (Hs48 ++ ([(b2, .cells (cl u8 (List.replicate 32 0)) 23 (0, 0))]))) := by
   have hT := (Mem.pick2 Hsc Hs48 [_] _ (Mem.pick2 Hs48 [_] Hsc _ m49))
   try simp only [List.append_assoc, List.cons_append, List.nil_append, List.append_nil] at hT ⊢
   exact hT
  refine Vy (oc85 (Xm s3 rfl) (Qh8 be x0 x1 x2 x3 x4 x5 x6 x7 svc ll Hsc n sv48 (((((((((128#8 :: List.replicate ((119 - ll.length) % 64) 0#8) ++ ([((n <<< 3) >>> 56).setWidth 8])) ++ ([((n <<< 3) >>> 48).setWidth 8])) ++ ([((n <<< 3) >>> 40).setWidth 8])) ++ ([((n <<< 3) >>> 32).setWidth 8])) ++ ([((n <<< 3) >>> 24).setWidth 8])) ++ ([((n <<< 3) >>> 16).setWidth 8])) ++ ([((n <<< 3) >>> 8).setWidth 8])) ++ ([((n <<< 3) >>> 0).setWidth 8])) _ _ (Mem.give hF51) (hT.mono fun b o e => Mem.addRest hF51 e) (g48.rdAdd hF51 (fun p hp => (List.mem_append_left _ hp))) gc sD)) ?_
  rintro _ w50 ⟨y0q52, y1q52, y2q52, y3q52, y4q52, y5q52, y6q52, y7q52, sv2q52, Hs2q52, hyq52, gl2q52, k_w50⟩
  have m50 : Mem w50 (Qu w0) ([(be, .cells #[(u32 y0q52), (u32 y1q52), (u32 y2q52), (u32 y3q52), (u32 y4q52), (u32 y5q52), (u32 y6q52), (u32 y7q52), sv2q52, (u64 (n + BitVec.ofInt 64 ((((((((((128#8 :: List.replicate ((119 - ll.length) % 64) 0#8) ++ ([((n <<< 3) >>> 56).setWidth 8])) ++ ([((n <<< 3) >>> 48).setWidth 8])) ++ ([((n <<< 3) >>> 40).setWidth 8])) ++ ([((n <<< 3) >>> 32).setWidth 8])) ++ ([((n <<< 3) >>> 24).setWidth 8])) ++ ([((n <<< 3) >>> 16).setWidth 8])) ++ ([((n <<< 3) >>> 8).setWidth 8])) ++ ([((n <<< 3) >>> 0).setWidth 8])).length : Int)))] 154 (0, 0))] ++ (Hs2q52 ++ (Hs48 ++ ([(b2, .cells (cl u8 (List.replicate 32 0)) 23 (0, 0))])))) := ymA (Mem.back hF51 k_w50)
  rw [hpad] at hyq52
  refine rN (Qa (sR ?_))
  refine Zp (i64 0) ?_
  refine rN (Qk ?_)
  refine Y7 (fun g wv => ∃ (e : Nat), (e ≤ 32) ∧ g 0 = (ptr bd 0) ∧ g 2 = (ptr b2 0) ∧ g 3 = (ptr be 0) ∧ g 4 = sv48 ∧ g 5 = (i64 (-1)) ∧ g 30 = (bl (((((ll.length : Int) + ((128#8 :: List.replicate ((119 - ll.length) % 64) 0#8).length : Int)) + 8) % 64) != 0)) ∧ g 35 = (bl false) ∧ g 52 = (i64 (e : Int)) ∧ Mem wv (Qu w0) ([(be, .cells #[(u32 y0q52), (u32 y1q52), (u32 y2q52), (u32 y3q52), (u32 y4q52), (u32 y5q52), (u32 y6q52), (u32 y7q52), sv2q52, (u64 (n + BitVec.ofInt 64 ((((((((((128#8 :: List.replicate ((119 - ll.length) % 64) 0#8) ++ ([((n <<< 3) >>> 56).setWidth 8])) ++ ([((n <<< 3) >>> 48).setWidth 8])) ++ ([((n <<< 3) >>> 40).setWidth 8])) ++ ([((n <<< 3) >>> 32).setWidth 8])) ++ ([((n <<< 3) >>> 24).setWidth 8])) ++ ([((n <<< 3) >>> 16).setWidth 8])) ++ ([((n <<< 3) >>> 8).setWidth 8])) ++ ([((n <<< 3) >>> 0).setWidth 8])).length : Int)))] 154 (0, 0))] ++ (Hs2q52 ++ (Hs48 ++ ([(b2, .cells (cl u8 (Y1 (fun q => ([y0q52, y1q52, y2q52, y3q52, y4q52, y5q52, y6q52, y7q52].getD (q / 4) 0 >>> (24 - 8 * (q % 4))).setWidth 8) 0 32 e)) 23 (0, 0))]))))) (fun g wv => (32 - RowKit.intOf (g 52)).toNat) ?_ ?_
  ·exact ⟨0, oM, s0, s2, s3, rfl, rfl, s30, rfl, rfl, (by rw [Em]; exact m50)⟩
  rintro fr53 w54 ⟨e, he, s0, s2, s3, s4, s5, s30, s35, s52, m54⟩
  have z52 := s52
  have hfl : (Y1 (fun q => ([y0q52, y1q52, y2q52, y3q52, y4q52, y5q52, y6q52, y7q52].getD (q / 4) 0 >>> (24 - 8 * (q % 4))).setWidth 8) (0 : BitVec 8) 32 e).length = 32 := Kz _ _ _ _ he
  refine sR <| Qd (Z9 (b := 32) s52 rfl) ?_
  refine rN (Qa ?_)
  refine Z8 rfl (fun hc55 => ?_) (fun hc55 => ?_)
  ·
   have hc55p := of_decide_eq_true hc55
   refine Qs (Qc (Qa (Qk (sR ?_))))
   refine Ya s52 <| Zz (i64 (e : Int)) ?_
   refine rN (Qb ?_)
   refine Zp (i64 (e : Int)) <| Zp (i64 (e : Int)) <| Qd (Ko.cast (congrArg i64 (show (e : Int) / 4 = ((e / 4 : Nat) : Int) by omega)) (Uu (b := 4) rfl rfl oM oM oM)) <| Qd (Zr (r := 0) Vq rfl Jr Uk rfl s3) <| Qd (Zo (r := (e / 4)) oM Jc Zj rfl rfl oM sD) <| Qd (v := (u32 ([y0q52, y1q52, y2q52, y3q52, y4q52, y5q52, y6q52, y7q52].getD (e / 4) 0))) (Ql (v := u32 ([y0q52, y1q52, y2q52, y3q52, y4q52, y5q52, y6q52, y7q52].getD (e / 4) 0)) Xx rfl rfl m54.h0 (Qo5 u32 [y0q52, y1q52, y2q52, y3q52, y4q52, y5q52, y6q52, y7q52] [sv2q52, (u64 (n + BitVec.ofInt 64 ((((((((((128#8 :: List.replicate ((119 - ll.length) % 64) 0#8) ++ ([((n <<< 3) >>> 56).setWidth 8])) ++ ([((n <<< 3) >>> 48).setWidth 8])) ++ ([((n <<< 3) >>> 40).setWidth 8])) ++ ([((n <<< 3) >>> 32).setWidth 8])) ++ ([((n <<< 3) >>> 24).setWidth 8])) ++ ([((n <<< 3) >>> 16).setWidth 8])) ++ ([((n <<< 3) >>> 8).setWidth 8])) ++ ([((n <<< 3) >>> 0).setWidth 8])).length : Int)))] 0 sD)) <| Zp (i64 (e : Int)) <| Qd (Vf (b := 4) rfl rfl oM oM oM) <| Qd (Wl (a := 8) rfl rfl oM oM) <| Qd (Ko.cast (congrArg i64 (show 24 - (8 * ((e : Int) % 4)) = ((24 - 8 * (e % 4) : Nat) : Int) by omega)) (Yk (a := 24) rfl rfl oM oM)) <| Qd (Us rfl rfl oM) <| Qd (Fz ⟨_, Xx⟩ Gl rfl) ?_
   refine Qd (Zo (r := e) oM Xq Y0 s2 rfl oM sD) <| Vk (Xz (f := u8) (a := (([y0q52, y1q52, y2q52, y3q52, y4q52, y5q52, y6q52, y7q52].getD (e / 4) 0) >>> ((24 - 8 * (e % 4) : Nat) : Int).toNat).setWidth 8) Qy Y0 rfl rfl ((Mem.pick3 [_] Hs2q52 Hs48 [_] _ m54)).h0 sD (.inl (Nat.zero_le _))) ?_
   rintro _ w56 uq56
   have m56 : Mem _ _ ([_, _] ++ (Hs2q52 ++ (Hs48 ++ ([])))) := Mem.upd0 (Mem.pick3 [_] Hs2q52 Hs48 [_] _ m54) uq56
   refine Zv (Qh (Qb ?_))
   refine Qd (Zg (b := 1) s52 rfl oM oM) <| Zp (i64 ((e : Int) + 1)) <| rN ?_
   have m57 := (Mem.pick2 [_, _] Hs2q52 Hs48 _ m56)
   have m58 := (Mem.pick2 Hs48 [_, _] Hs2q52 _ m57)
   have m59 := (Mem.pick3 Hs2q52 Hs48 [_] [_] _ m58)
   exact ⟨⟨e + 1, oM, s0, s2, s3, s4, s5, s30, s35, rfl, (by rw [← Ew (fun q => ([y0q52, y1q52, y2q52, y3q52, y4q52, y5q52, y6q52, y7q52].getD (q / 4) 0 >>> (24 - 8 * (q % 4))).setWidth 8) (0 : BitVec 8) (n := 32) (k := e) oM _ rfl]; exact m59)⟩, Uo rfl z52 oM oM⟩
  ·
   have hc55p := of_decide_eq_false hc55
   obtain rfl : e = 32 := by omega
   have hfl := Kz (fun q => ([y0q52, y1q52, y2q52, y3q52, y4q52, y5q52, y6q52, y7q52].getD (q / 4) 0 >>> (24 - 8 * (q % 4))).setWidth 8) (0 : BitVec 8) 32 32 oM
   refine X6 ?_
   refine Qm (Qm (Xi ?_))
   refine sR <| Qd (Qp Xq rfl Zl s2 ((Mem.pick3 [_] Hs2q52 Hs48 [_] _ m54)).h0 sZ) <| Vk (Qj (f := u8) (l := Y1 (fun q => ([y0q52, y1q52, y2q52, y3q52, y4q52, y5q52, y6q52, y7q52].getD (q / 4) 0 >>> (24 - 8 * (q % 4))).setWidth 8) 0 32 32) Qy Zl s2 rfl sD ((Mem.pick3 [_] Hs2q52 Hs48 [_] _ m54)).h0 sZ rfl) ?_
   rintro _ w60 uq60
   have m60 : Mem _ _ ([_, _] ++ (Hs2q52 ++ (Hs48 ++ ([])))) := Mem.upd0 (Mem.pick3 [_] Hs2q52 Hs48 [_] _ m54) uq60
   refine rN (Xb ?_)
   refine Qv [(agg u8 (Y1 (fun q => ([y0q52, y1q52, y2q52, y3q52, y4q52, y5q52, y6q52, y7q52].getD (q / 4) 0 >>> (24 - 8 * (q % 4))).setWidth 8) 0 32 32))] ⟨⟨_, s2, Xr Xq rfl Zl m60.h0 sZ⟩, trivial⟩ ?_
   exact ⟨congrArg (agg u8) ((show Y1 (fun q => ([y0q52, y1q52, y2q52, y3q52, y4q52, y5q52, y6q52, y7q52].getD (q / 4) 0 >>> (24 - 8 * (q % 4))).setWidth 8) 0 32 32 = Qch [y0q52, y1q52, y2q52, y3q52, y4q52, y5q52, y6q52, y7q52] from rfl).trans (congrArg Qch hyq52)), m60.toExt⟩
end Go.Proofs.YtkmiemlpfkfiiaaDoor
