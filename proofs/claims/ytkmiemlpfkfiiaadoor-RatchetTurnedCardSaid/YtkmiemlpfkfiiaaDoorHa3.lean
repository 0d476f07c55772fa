/- Contracts: hash, third part. Conditions: none beyond those that each theorem states. -/
import Derived.Test.YtkmiemlpfkfiiaaDoorHa2
namespace Go.Proofs.YtkmiemlpfkfiiaaDoor
open List renaming replicate → aA
open Mem renaming drop → aF, pick → aC, pick2 → aN, pick3 → ai, upd0 → bM
open Rd renaming mkA → bG
open Tryd
set_option linter.unusedVariables false
set_option linter.unusedSimpArgs false
set_option maxHeartbeats 2000000 in
theorem c_dsum (bd : Nat) (x0 x1 x2 x3 x4 x5 x6 x7 : BitVec 32) (sv : Value) (ll : Z4) (n : BitVec 64) (w0 : World)  (hT : Tabs (Jd w0)) (hd : Jd w0 bd = some (.cells #[(u32 x0), (u32 x1), (u32 x2), (u32 x3), (u32 x4), (u32 x5), (u32 x6), (u32 x7), sv, (u64 n)] 154 (0, 0))) (hrl : Rd (Jd w0) u8 sv ll) (hll : ll.length < 64) : Xz prog 87 #[(ptr bd 0)] w0 (fun r w1 => r = (agg u8 (Dc [x0, x1, x2, x3, x4, x5, x6, x7] ll n)) ∧ Ext w0 w1) := by
 refine Qz (args := [(ptr bd 0)]) func87 rfl ntmps87 results87 rfl ?_
 have m0 : Mem w0 (Qs w0) [] := Mem.of_world w0
 obtain ⟨Es, fzs, hTs⟩ := hT.start
 obtain ⟨Er, fzr, hTr⟩ := hT.round
 refine sR <| Y5 (Q7 m0 Zh) fun w1 b2 m1 => ?_
 refine rN (Qa ?_)
 refine Ri (J := fun g wv => ∃ (be : Nat) (svc : Value) (Hsc : List (Nat × Obj)), (Z9 u8 5 svc ll Hsc) ∧ g 0 = (ptr bd 0) ∧ g 2 = (ptr b2 0) ∧ g 3 = (ptr be 0) ∧ Mem wv (Qs w0) ([(be, .cells #[(u32 x0), (u32 x1), (u32 x2), (u32 x3), (u32 x4), (u32 x5), (u32 x6), (u32 x7), svc, (u64 n)] 154 (0, 0))] ++ (Hsc ++ ([(b2, .cells (cl u8 (aA 32 0)) 23 (0, 0))])))) ?_ ?_
 ·skip
  refine Jy Xv ?_
  refine Qjr 8 14 rfl rfl ?_ ?_
  ·
   refine Au [(0, false), (1, false), (2, false), (3, false), (4, false), (5, false), (6, false), (7, false), (9, false), (10, false), (11, false), (12, false), (8, true), (13, false), (14, true)] 15 rfl Xv <| J7 rfl (ptr bd 0) <| X4 rfl (Zc rfl) <| X4 rfl (Zl (r := 0) Vg rfl Jj Uf rfl rfl) <| Yj (v := (agg u32 ([x0, x1, x2, x3, x4, x5, x6, x7]))) rfl (fun _ e' => Qpi (c' := (cl u32 ([x0, x1, x2, x3, x4, x5, x6, x7]))) Y6 rfl Uf rfl ((m1.ext e').rest _ _ hd) Xv Xv) <| J7 rfl (ptr bd 0) <| X4 rfl (Zc rfl) <| X4 rfl (Zl (r := 8) Vg rfl Jj Qay rfl rfl) <| Yj (v := sv) rfl (fun _ e' => Qi Zn rfl rfl ((m1.ext e').rest _ _ hd) rfl) <| J7 rfl (ptr bd 0) <| X4 rfl (Zc rfl) <| X4 rfl (Zl (r := 9) Vg rfl Jj Xq rfl rfl) ?_
   refine Yj (v := (u64 n)) rfl (fun _ e' => Qi Yh rfl rfl ((m1.ext e').rest _ _ hd) rfl) ?_
   refine C9 rfl rfl (fun w2 e2 => ?_)
   have m2 := m1.ext e2
   refine Vf.mono (oc34 (Jz rfl) (Qco sv ll _ (Rd.ofRest hrl m2) sD)) ?_
   rintro rq4 w3 ⟨Hsq4, grq4, k_w3⟩
   refine ⟨k_w3.toExt, ?_⟩
   have m3 : Mem _ _ (Hsq4 ++ ([_])) := Mem.new (H := [_]) (H' := Hsq4) m2 k_w3
   refine X4 rfl (Ws (c := #[(u32 x0), (u32 x1), (u32 x2), (u32 x3), (u32 x4), (u32 x5), (u32 x6), (u32 x7), rq4, (u64 n)]) (pl := [(0, 8), (8, 1), (9, 1)]) Qjg Vg Xv (Jp (i := 0) (v := (agg u32 ([x0, x1, x2, x3, x4, x5, x6, x7]))) (cs := (cl u32 ([x0, x1, x2, x3, x4, x5, x6, x7]))) rfl rfl (Jp (i := 1) (v := rq4) (cs := #[rq4]) rfl (Qhe grq4.one) (Jp (i := 2) (v := (u64 n)) (cs := #[(u64 n)]) rfl rfl Vt))) Xv) ?_
   refine C9 rfl rfl (fun w5 e5 => ?_)
   have m5 := m3.ext e5
   refine Vf.mono (Ju m5 Qjg) ?_
   rintro _ w6 ⟨b3, rfl, e6, m6⟩
   refine ⟨e6, ?_⟩
   refine Gf m6 fun w7 m7 => Vd (Qhb (cs := #[(u32 x0), (u32 x1), (u32 x2), (u32 x3), (u32 x4), (u32 x5), (u32 x6), (u32 x7), rq4, (u64 n)]) Qjg rfl rfl Xv (Qm6 (X0 (Xb _) (X0 (Xb _) (X0 (Xb _) (X0 (Xb _) (X0 (Xb _) (X0 (Xb _) (X0 (Xb _) (X0 (Xb _) (X0 grq4.one (X0 (Xu _) J6))))))))))) m7.h0 Xv rfl) ?_
   rintro _ w8 uq8
   have m8 : Mem _ _ ([(b3, .cells #[(u32 x0), (u32 x1), (u32 x2), (u32 x3), (u32 x4), (u32 x5), (u32 x6), (u32 x7), rq4, (u64 n)] 154 (0, 0))] ++ (Hsq4 ++ ([_]))) := m7.upd0 uq8
   refine rN ?_
   exact ⟨b3, rq4, Hsq4, grq4, rfl, rfl, rfl, m8⟩
  ·
   refine Au [(0, false), (1, false), (2, false), (3, false), (4, false), (5, false), (6, false), (7, false), (9, false), (10, false), (11, false), (12, false), (14, true), (8, true), (13, false)] 15 rfl Xv <| J7 rfl (ptr bd 0) <| X4 rfl (Zc rfl) <| X4 rfl (Zl (r := 0) Vg rfl Jj Uf rfl rfl) <| Yj (v := (agg u32 ([x0, x1, x2, x3, x4, x5, x6, x7]))) rfl (fun _ e' => Qpi (c' := (cl u32 ([x0, x1, x2, x3, x4, x5, x6, x7]))) Y6 rfl Uf rfl ((m1.ext e').rest _ _ hd) Xv Xv) <| J7 rfl (ptr bd 0) <| X4 rfl (Zc rfl) <| X4 rfl (Zl (r := 8) Vg rfl Jj Qay rfl rfl) <| Yj (v := sv) rfl (fun _ e' => Qi Zn rfl rfl ((m1.ext e').rest _ _ hd) rfl) <| J7 rfl (ptr bd 0) <| X4 rfl (Zc rfl) <| X4 rfl (Zl (r := 9) Vg rfl Jj Xq rfl rfl) ?_
   refine Yj (v := (u64 n)) rfl (fun _ e' => Qi Yh rfl rfl ((m1.ext e').rest _ _ hd) rfl) ?_
   refine C9 rfl rfl (fun w9 e9 => ?_)
   have m9 := m1.ext e9
   refine Vf.mono (Ju m9 Qjg) ?_
   rintro _ w10 ⟨b3_1, rfl, e10, m10⟩
   refine ⟨e10, ?_⟩
   refine C9 rfl rfl (fun w11 e11 => ?_)
   have m11 := m10.ext e11
   refine Vf.mono (oc34 (Jz rfl) (Qco sv ll _ (Rd.ofRest hrl m11) sD)) ?_
   rintro rq13 w12 ⟨Hsq13, grq13, k_w12⟩
   refine ⟨k_w12.toExt, ?_⟩
   have m12 : Mem _ _ (Hsq13 ++ ([_, _])) := Mem.new (H := [_, _]) (H' := Hsq13) m11 k_w12
   refine X4 rfl (Ws (c := #[(u32 x0), (u32 x1), (u32 x2), (u32 x3), (u32 x4), (u32 x5), (u32 x6), (u32 x7), rq13, (u64 n)]) (pl := [(0, 8), (8, 1), (9, 1)]) Qjg Vg Xv (Jp (i := 0) (v := (agg u32 ([x0, x1, x2, x3, x4, x5, x6, x7]))) (cs := (cl u32 ([x0, x1, x2, x3, x4, x5, x6, x7]))) rfl rfl (Jp (i := 1) (v := rq13) (cs := #[rq13]) rfl (Qhe grq13.one) (Jp (i := 2) (v := (u64 n)) (cs := #[(u64 n)]) rfl rfl Vt))) Xv) <| Gf m12 fun w14 m14 => Vd (Qhb (cs := #[(u32 x0), (u32 x1), (u32 x2), (u32 x3), (u32 x4), (u32 x5), (u32 x6), (u32 x7), rq13, (u64 n)]) Qjg rfl rfl Xv (Qm6 (X0 (Xb _) (X0 (Xb _) (X0 (Xb _) (X0 (Xb _) (X0 (Xb _) (X0 (Xb _) (X0 (Xb _) (X0 (Xb _) (X0 grq13.one (X0 (Xu _) J6))))))))))) ((aC Hsq13 [_] _ m14)).h0 Xv rfl) ?_
   rintro _ w15 uq15
   have m15 : Mem _ _ ([(b3_1, .cells #[(u32 x0), (u32 x1), (u32 x2), (u32 x3), (u32 x4), (u32 x5), (u32 x6), (u32 x7), rq13, (u64 n)] 154 (0, 0))] ++ (Hsq13 ++ ([_]))) := bM (aC Hsq13 [_] _ m14) uq15
   refine rN ?_
   exact ⟨b3_1, rq13, Hsq13, grq13, rfl, rfl, rfl, m15⟩
 rintro fr16 w17 ⟨be, svc, Hsc, gc, s0, s2, s3, m17⟩
 refine sR <| Y5 (Qp u8 [128#8] Qr m17 Zn Yr rfl rfl rfl) fun w18 b21 m18 => Zx (Wi b21 0 1 1) ?_
 refine rN (Qa (Qh ?_))
 refine Y1 (fun g wv => ∃ (k : Nat) (pl : Z4) (sp : Value) (Hp : List (Nat × Obj)), (k ≤ (119 - ll.length) % 64) ∧ (pl = 128#8 :: aA k 0#8) ∧ (Z9 u8 5 sp pl Hp) ∧ g 0 = (ptr bd 0) ∧ g 2 = (ptr b2 0) ∧ g 3 = (ptr be 0) ∧ g 4 = sp ∧ Mem wv (Qs w0) (Hp ++ ([(be, .cells #[(u32 x0), (u32 x1), (u32 x2), (u32 x3), (u32 x4), (u32 x5), (u32 x6), (u32 x7), svc, (u64 n)] 154 (0, 0))] ++ (Hsc ++ ([(b2, .cells (cl u8 (aA 32 0)) 23 (0, 0))]))))) (fun g wv => (119 - ll.length) % 64 + 2 - sllen (g 4)) ?_ ?_
 ·exact ⟨0, [128#8], (Wi b21 0 1 1), [(b21, .cells (cl u8 ([128#8])) 5 (0, 0))], oM, rfl, (Z9.of u8 5 b21 [128#8]), s0, s2, s3, rfl, m18⟩
 rintro fr19 w20 ⟨k, pl, sp, Hp, hk, hpl, gp, s0, s2, s3, s4, m20⟩
 have z4 := s4
 have hpn : pl.length = k + 1 := by rw [hpl]; simp
 refine Qa (sR ?_)
 refine Qd (Zl (r := 8) Vg rfl Jj Qay rfl s3) <| Qd (v := svc) (Qi Zn rfl rfl ((aC Hp [_] _ m20)).h0 rfl) <| Qd (Yi (gc.rd (aN Hp [_] Hsc _ m20)) Zn rfl) <| X9 s4 <| Qd (Yi (gp.rd m20) Zn rfl) <| Qd (Zg rfl rfl oM oM) <| Qd (Zg (b := 8) rfl rfl oM oM) <| Qd (Wp (b := 64) rfl rfl oM oM oM) <| Qd (Kz (b := 0) rfl rfl) <| rN ?_
 refine Zz rfl (fun hc21 => ?_) (fun hc21 => ?_)
 ·
  have hc21p := bne_iff_ne.1 hc21
  refine Qo (Qc (Gh (Qb ?_)))
  refine X9 s4 <| Y5 (Qp u8 [0#8] Qr m20 Zn Yr rfl rfl rfl) fun w22 b32 m22 => Vr (Xh (f := u8) (Hs := Hp) (H := [_, _] ++ (Hsc ++ ([_]))) (aC [_] Hp _ m22) gp rfl rfl (bG m22.h0) Zn Zn Yr rfl Qr sD sD) ?_
  rintro sv23 w23 ⟨Hs23, m23, g23⟩
  replace g23 : Z9 u8 5 sv23 (pl ++ ([0#8])) Hs23 := g23
  refine Zx sv23 ?_
  refine Zp (Qe (Qc ?_))
  have m24 := aF [_] _ (aC Hs23 [_] _ m23)
  exact ⟨⟨k + 1, pl ++ ([0#8]), sv23, Hs23, oM, (by rw [hpl, List.replicate_succ']; rfl), g23, s0, s2, s3, rfl, m24⟩, (by show (119 - ll.length) % 64 + 2 - sllen sv23 < (119 - ll.length) % 64 + 2 - sllen _; rw [z4, gp.sllen, Z9.sllen g23]; simp [hpn]; omega)⟩
 ·
  have hc21p := Yd hc21
  have hpn : pl.length = k + 1 := by rw [hpl]; simp
  obtain rfl : k = (119 - ll.length) % 64 := by omega
  subst hpl
  refine X3 ?_
  refine Qj (Qj (Xk ?_))
  refine Qa (sR ?_)
  refine Zx (i64 7) ?_
  refine rN (Qh ?_)
  refine Vk 9 ?_
  refine Zq (Qa (sR ?_))
  refine Zm (i64 7) <| Qd (Uo 7 0) <| rN <| Za rfl Yx ?_
  refine Qo (Qc (Qa (Qh (Qb ?_))))
  refine X9 s4 <| X9 s0 <| Qd (Zc rfl) <| Qd (Zl (r := 9) Vg rfl Jj Xq rfl rfl) <| Qd (v := (u64 n)) (Qi Yh rfl rfl (m20.rest _ _ hd) rfl) <| Qd (Et (b := 3) rfl rfl oM) <| Zm (i64 7) <| Qd (v := (i64 56)) (Vw 8 7) <| Qd (X7 (b := 56) rfl rfl oM) <| Qd (X5 ⟨_, Yh⟩ V3 rfl) <| Y5 (Qp u8 [((n <<< 3) >>> 56).setWidth 8] Qr m20 Zn Yr rfl rfl rfl) fun w25 b48 m25 => Vr (Xh (f := u8) (Hs := Hp) (H := [_, _] ++ (Hsc ++ ([_]))) (aC [_] Hp _ m25) gp rfl rfl (bG m25.h0) Zn Zn Yr rfl Qr sD sD) ?_
  rintro sv26 w26 ⟨Hs26, m26, g26⟩
  replace g26 : Z9 u8 5 sv26 ((128#8 :: aA ((119 - ll.length) % 64) 0#8) ++ ([((n <<< 3) >>> 56).setWidth 8])) Hs26 := g26
  refine Zx sv26 ?_
  refine Zp (Qe ?_)
  have m27 := aF [_] _ (aC Hs26 [_] _ m26)
  refine Qb <| Zm (i64 7) <| Qd (v := (i64 6)) (V4 7 1) <| Zx (i64 6) ?_
  refine rN (Zq (Qa (sR ?_)))
  refine Zm (i64 6) <| Qd (Uo 6 0) <| rN <| Za rfl Yx ?_
  refine Qo (Qc (Qa (Qh (Qb ?_))))
  refine Zm sv26 <| X9 s0 <| Qd (Zc rfl) <| Qd (Zl (r := 9) Vg rfl Jj Xq rfl rfl) <| Qd (v := (u64 n)) (Qi Yh rfl rfl (m27.rest _ _ hd) rfl) <| Qd (Et (b := 3) rfl rfl oM) <| Zm (i64 6) <| Qd (v := (i64 48)) (Vw 8 6) <| Qd (X7 (b := 48) rfl rfl oM) <| Qd (X5 ⟨_, Yh⟩ V3 rfl) <| Y5 (Qp u8 [((n <<< 3) >>> 48).setWidth 8] Qr m27 Zn Yr rfl rfl rfl) fun w28 b48_1 m28 => Vr (Xh (f := u8) (Hs := Hs26) (H := [_, _] ++ (Hsc ++ ([_]))) (aC [_] Hs26 _ m28) g26 rfl rfl (bG m28.h0) Zn Zn Yr rfl Qr sD sD) ?_
  rintro sv29 w29 ⟨Hs29, m29, g29⟩
  replace g29 : Z9 u8 5 sv29 (((128#8 :: aA ((119 - ll.length) % 64) 0#8) ++ ([((n <<< 3) >>> 56).setWidth 8])) ++ ([((n <<< 3) >>> 48).setWidth 8])) Hs29 := g29
  refine Zx sv29 ?_
  refine Zp (Qe ?_)
  have m30 := aF [_] _ (aC Hs29 [_] _ m29)
  refine Qb <| Zm (i64 6) <| Qd (v := (i64 5)) (V4 6 1) <| Zx (i64 5) ?_
  refine rN (Zq (Qa (sR ?_)))
  refine Zm (i64 5) <| Qd (Uo 5 0) <| rN <| Za rfl Yx ?_
  refine Qo (Qc (Qa (Qh (Qb ?_))))
  refine Zm sv29 <| X9 s0 <| Qd (Zc rfl) <| Qd (Zl (r := 9) Vg rfl Jj Xq rfl rfl) <| Qd (v := (u64 n)) (Qi Yh rfl rfl (m30.rest _ _ hd) rfl) <| Qd (Et (b := 3) rfl rfl oM) <| Zm (i64 5) <| Qd (v := (i64 40)) (Vw 8 5) <| Qd (X7 (b := 40) rfl rfl oM) <| Qd (X5 ⟨_, Yh⟩ V3 rfl) <| Y5 (Qp u8 [((n <<< 3) >>> 40).setWidth 8] Qr m30 Zn Yr rfl rfl rfl) fun w31 b48_2 m31 => Vr (Xh (f := u8) (Hs := Hs29) (H := [_, _] ++ (Hsc ++ ([_]))) (aC [_] Hs29 _ m31) g29 rfl rfl (bG m31.h0) Zn Zn Yr rfl Qr sD sD) ?_
  rintro sv32 w32 ⟨Hs32, m32, g32⟩
  replace g32 : Z9 u8 5 sv32 ((((128#8 :: aA ((119 - ll.length) % 64) 0#8) ++ ([((n <<< 3) >>> 56).setWidth 8])) ++ ([((n <<< 3) >>> 48).setWidth 8])) ++ ([((n <<< 3) >>> 40).setWidth 8])) Hs32 := g32
  refine Zx sv32 ?_
  refine Zp (Qe ?_)
  have m33 := aF [_] _ (aC Hs32 [_] _ m32)
  refine Qb <| Zm (i64 5) <| Qd (v := (i64 4)) (V4 5 1) <| Zx (i64 4) ?_
  refine rN (Zq (Qa (sR ?_)))
  refine Zm (i64 4) <| Qd (Uo 4 0) <| rN <| Za rfl Yx ?_
  refine Qo (Qc (Qa (Qh (Qb ?_))))
  refine Zm sv32 <| X9 s0 <| Qd (Zc rfl) <| Qd (Zl (r := 9) Vg rfl Jj Xq rfl rfl) <| Qd (v := (u64 n)) (Qi Yh rfl rfl (m33.rest _ _ hd) rfl) <| Qd (Et (b := 3) rfl rfl oM) <| Zm (i64 4) <| Qd (v := (i64 32)) (Vw 8 4) <| Qd (X7 (b := 32) rfl rfl oM) <| Qd (X5 ⟨_, Yh⟩ V3 rfl) <| Y5 (Qp u8 [((n <<< 3) >>> 32).setWidth 8] Qr m33 Zn Yr rfl rfl rfl) fun w34 b48_3 m34 => Vr (Xh (f := u8) (Hs := Hs32) (H := [_, _] ++ (Hsc ++ ([_]))) (aC [_] Hs32 _ m34) g32 rfl rfl (bG m34.h0) Zn Zn Yr rfl Qr sD sD) ?_
  rintro sv35 w35 ⟨Hs35, m35, g35⟩
  replace g35 : Z9 u8 5 sv35 (((((128#8 :: aA ((119 - ll.length) % 64) 0#8) ++ ([((n <<< 3) >>> 56).setWidth 8])) ++ ([((n <<< 3) >>> 48).setWidth 8])) ++ ([((n <<< 3) >>> 40).setWidth 8])) ++ ([((n <<< 3) >>> 32).setWidth 8])) Hs35 := g35
  refine Zx sv35 ?_
  refine Zp (Qe ?_)
  have m36 := aF [_] _ (aC Hs35 [_] _ m35)
  refine Qb <| Zm (i64 4) <| Qd (v := (i64 3)) (V4 4 1) <| Zx (i64 3) <| rN ?_
  refine CR.abs (fun g => g 0 = (ptr bd 0) ∧ g 2 = (ptr b2 0) ∧ g 3 = (ptr be 0) ∧ g 4 = sv35 ∧ g 5 = (i64 3) ∧ g 30 = (bl (((((ll.length : Int) + ((128#8 :: aA ((119 - ll.length) % 64) 0#8).length : Int)) + 8) % 64) != 0)) ∧ g 35 = (bl true) ∧ True) ⟨s0, s2, s3, rfl, rfl, rfl, rfl, trivial⟩ ?_
  rintro fr37 ⟨s0, s2, s3, s4, s5, s30, s35, _⟩
  refine Zq (Qa (sR ?_))
  refine X9 s5 <| Qd (Uo 3 0) <| rN <| Za rfl Yx ?_
  refine Qo (Qc (Qa (Qh (Qb ?_))))
  refine X9 s4 <| X9 s0 <| Qd (Zc rfl) <| Qd (Zl (r := 9) Vg rfl Jj Xq rfl rfl) <| Qd (v := (u64 n)) (Qi Yh rfl rfl (m36.rest _ _ hd) rfl) <| Qd (Et (b := 3) rfl rfl oM) <| X9 s5 <| Qd (v := (i64 24)) (Vw 8 3) <| Qd (X7 (b := 24) rfl rfl oM) <| Qd (X5 ⟨_, Yh⟩ V3 rfl) <| Y5 (Qp u8 [((n <<< 3) >>> 24).setWidth 8] Qr m36 Zn Yr rfl rfl rfl) fun w38 b48_4 m38 => Vr (Xh (f := u8) (Hs := Hs35) (H := [_, _] ++ (Hsc ++ ([_]))) (aC [_] Hs35 _ m38) g35 rfl rfl (bG m38.h0) Zn Zn Yr rfl Qr sD sD) ?_
  rintro sv39 w39 ⟨Hs39, m39, g39⟩
  replace g39 : Z9 u8 5 sv39 ((((((128#8 :: aA ((119 - ll.length) % 64) 0#8) ++ ([((n <<< 3) >>> 56).setWidth 8])) ++ ([((n <<< 3) >>> 48).setWidth 8])) ++ ([((n <<< 3) >>> 40).setWidth 8])) ++ ([((n <<< 3) >>> 32).setWidth 8])) ++ ([((n <<< 3) >>> 24).setWidth 8])) Hs39 := g39
  refine Zx sv39 ?_
  refine Zp (Qe ?_)
  have m40 := aF [_] _ (aC Hs39 [_] _ m39)
  refine Qb <| X9 s5 <| Qd (v := (i64 2)) (V4 3 1) <| Zx (i64 2) ?_
  refine rN (Zq (Qa (sR ?_)))
  refine Zm (i64 2) <| Qd (Uo 2 0) <| rN <| Za rfl Yx ?_
  refine Qo (Qc (Qa (Qh (Qb ?_))))
  refine Zm sv39 <| X9 s0 <| Qd (Zc rfl) <| Qd (Zl (r := 9) Vg rfl Jj Xq rfl rfl) <| Qd (v := (u64 n)) (Qi Yh rfl rfl (m40.rest _ _ hd) rfl) <| Qd (Et (b := 3) rfl rfl oM) <| Zm (i64 2) <| Qd (v := (i64 16)) (Vw 8 2) <| Qd (X7 (b := 16) rfl rfl oM) <| Qd (X5 ⟨_, Yh⟩ V3 rfl) <| Y5 (Qp u8 [((n <<< 3) >>> 16).setWidth 8] Qr m40 Zn Yr rfl rfl rfl) fun w41 b48_5 m41 => Vr (Xh (f := u8) (Hs := Hs39) (H := [_, _] ++ (Hsc ++ ([_]))) (aC [_] Hs39 _ m41) g39 rfl rfl (bG m41.h0) Zn Zn Yr rfl Qr sD sD) ?_
  rintro sv42 w42 ⟨Hs42, m42, g42⟩
  replace g42 : Z9 u8 5 sv42 (((((((128#8 :: aA ((119 - ll.length) % 64) 0#8) ++ ([((n <<< 3) >>> 56).setWidth 8])) ++ ([((n <<< 3) >>> 48).setWidth 8])) ++ ([((n <<< 3) >>> 40).setWidth 8])) ++ ([((n <<< 3) >>> 32).setWidth 8])) ++ ([((n <<< 3) >>> 24).setWidth 8])) ++ ([((n <<< 3) >>> 16).setWidth 8])) Hs42 := g42
  refine Zx sv42 ?_
  refine Zp (Qe ?_)
  have m43 := aF [_] _ (aC Hs42 [_] _ m42)
  refine Qb <| Zm (i64 2) <| Qd (v := (i64 1)) (V4 2 1) <| Zx (i64 1) ?_
  refine rN (Zq (Qa (sR ?_)))
  refine Zm (i64 1) <| Qd (Uo 1 0) <| rN <| Za rfl Yx ?_
  refine Qo (Qc (Qa (Qh (Qb ?_))))
  refine Zm sv42 <| X9 s0 <| Qd (Zc rfl) <| Qd (Zl (r := 9) Vg rfl Jj Xq rfl rfl) <| Qd (v := (u64 n)) (Qi Yh rfl rfl (m43.rest _ _ hd) rfl) <| Qd (Et (b := 3) rfl rfl oM) <| Zm (i64 1) <| Qd (v := (i64 8)) (Vw 8 1) <| Qd (X7 (b := 8) rfl rfl oM) <| Qd (X5 ⟨_, Yh⟩ V3 rfl) <| Y5 (Qp u8 [((n <<< 3) >>> 8).setWidth 8] Qr m43 Zn Yr rfl rfl rfl) fun w44 b48_6 m44 => Vr (Xh (f := u8) (Hs := Hs42) (H := [_, _] ++ (Hsc ++ ([_]))) (aC [_] Hs42 _ m44) g42 rfl rfl (bG m44.h0) Zn Zn Yr rfl Qr sD sD) ?_
  rintro sv45 w45 ⟨Hs45, m45, g45⟩
  replace g45 : Z9 u8 5 sv45 ((((((((128#8 :: aA ((119 - ll.length) % 64) 0#8) ++ ([((n <<< 3) >>> 56).setWidth 8])) ++ ([((n <<< 3) >>> 48).setWidth 8])) ++ ([((n <<< 3) >>> 40).setWidth 8])) ++ ([((n <<< 3) >>> 32).setWidth 8])) ++ ([((n <<< 3) >>> 24).setWidth 8])) ++ ([((n <<< 3) >>> 16).setWidth 8])) ++ ([((n <<< 3) >>> 8).setWidth 8])) Hs45 := g45
  refine Zx sv45 ?_
  refine Zp (Qe ?_)
  have m46 := aF [_] _ (aC Hs45 [_] _ m45)
  refine Qb <| Zm (i64 1) <| Qd (v := (i64 0)) (V4 1 1) <| Zx (i64 0) ?_
  refine rN (Zq (Qa (sR ?_)))
  refine Zm (i64 0) <| Qd (Uo 0 0) <| rN <| Za rfl Yx ?_
  refine Qo (Qc (Qa (Qh (Qb ?_))))
  refine Zm sv45 <| X9 s0 <| Qd (Zc rfl) <| Qd (Zl (r := 9) Vg rfl Jj Xq rfl rfl) <| Qd (v := (u64 n)) (Qi Yh rfl rfl (m46.rest _ _ hd) rfl) <| Qd (Et (b := 3) rfl rfl oM) <| Zm (i64 0) <| Qd (v := (i64 0)) (Vw 8 0) <| Qd (X7 (b := 0) rfl rfl oM) <| Qd (X5 ⟨_, Yh⟩ V3 rfl) <| Y5 (Qp u8 [((n <<< 3) >>> 0).setWidth 8] Qr m46 Zn Yr rfl rfl rfl) fun w47 b48_7 m47 => Vr (Xh (f := u8) (Hs := Hs45) (H := [_, _] ++ (Hsc ++ ([_]))) (aC [_] Hs45 _ m47) g45 rfl rfl (bG m47.h0) Zn Zn Yr rfl Qr sD sD) ?_
  rintro sv48 w48 ⟨Hs48, m48, g48⟩
  replace g48 : Z9 u8 5 sv48 (((((((((128#8 :: aA ((119 - ll.length) % 64) 0#8) ++ ([((n <<< 3) >>> 56).setWidth 8])) ++ ([((n <<< 3) >>> 48).setWidth 8])) ++ ([((n <<< 3) >>> 40).setWidth 8])) ++ ([((n <<< 3) >>> 32).setWidth 8])) ++ ([((n <<< 3) >>> 24).setWidth 8])) ++ ([((n <<< 3) >>> 16).setWidth 8])) ++ ([((n <<< 3) >>> 8).setWidth 8])) ++ ([((n <<< 3) >>> 0).setWidth 8])) Hs48 := g48
  refine Zx sv48 ?_
  refine Zp (Qe ?_)
  have m49 := aF [_] _ (aC Hs48 [_] _ m48)
  refine Qb <| Zm (i64 0) <| Qd (v := (i64 (-1))) (V4 0 1) <| Zx (i64 (-1)) ?_
  refine rN (Zq (Qa (sR ?_)))
  refine Zm (i64 (-1)) <| Qd (Uo (-1) 0) <| rN <| Ja rfl Yx <| X3 ?_
  refine Qj (Qj (Xk ?_))
  refine Qa ?_
  have hpad : ((((((((128#8 :: aA ((119 - ll.length) % 64) 0#8) ++ ([((n <<< 3) >>> 56).setWidth 8])) ++ ([((n <<< 3) >>> 48).setWidth 8])) ++ ([((n <<< 3) >>> 40).setWidth 8])) ++ ([((n <<< 3) >>> 32).setWidth 8])) ++ ([((n <<< 3) >>> 24).setWidth 8])) ++ ([((n <<< 3) >>> 16).setWidth 8])) ++ ([((n <<< 3) >>> 8).setWidth 8])) ++ ([((n <<< 3) >>> 0).setWidth 8]) = padP n ll.length := by simp [padP, lenB]
  refine Qb <| Zm sv48 ?_
  have hF51 : Mem w48 (Qs w0) (([(be, .cells #[(u32 x0), (u32 x1), (u32 x2), (u32 x3), (u32 x4), (u32 x5), (u32 x6), (u32 x7), svc, (u64 n)] 154 (0, 0))] ++ (Hsc ++ ([]))) ++ (Hs48 ++ ([(b2, .cells (cl u8 (aA 32 0)) 23 (0, 0))]))) := by
   have hT := (aN Hsc Hs48 [_] _ (aN Hs48 [_] Hsc _ m49))
   try simp only [List.append_assoc, List.cons_append, List.nil_append, List.append_nil] at hT ⊢
   exact hT
  refine Vr (oc85 (Xl s3 rfl) (Qi4 be x0 x1 x2 x3 x4 x5 x6 x7 svc ll Hsc n sv48 (((((((((128#8 :: aA ((119 - ll.length) % 64) 0#8) ++ ([((n <<< 3) >>> 56).setWidth 8])) ++ ([((n <<< 3) >>> 48).setWidth 8])) ++ ([((n <<< 3) >>> 40).setWidth 8])) ++ ([((n <<< 3) >>> 32).setWidth 8])) ++ ([((n <<< 3) >>> 24).setWidth 8])) ++ ([((n <<< 3) >>> 16).setWidth 8])) ++ ([((n <<< 3) >>> 8).setWidth 8])) ++ ([((n <<< 3) >>> 0).setWidth 8])) _ _ (Mem.give hF51) (hT.mono fun b o e => Mem.addRest hF51 e) (g48.rdAdd hF51 (fun p hp => (List.mem_append_left _ hp))) gc sD)) ?_
  rintro _ w50 ⟨y0q52, y1q52, y2q52, y3q52, y4q52, y5q52, y6q52, y7q52, sv2q52, Hs2q52, hyq52, gl2q52, k_w50⟩
  have m50 : Mem w50 (Qs w0) ([(be, .cells #[(u32 y0q52), (u32 y1q52), (u32 y2q52), (u32 y3q52), (u32 y4q52), (u32 y5q52), (u32 y6q52), (u32 y7q52), sv2q52, (u64 (n + BitVec.ofInt 64 ((((((((((128#8 :: aA ((119 - ll.length) % 64) 0#8) ++ ([((n <<< 3) >>> 56).setWidth 8])) ++ ([((n <<< 3) >>> 48).setWidth 8])) ++ ([((n <<< 3) >>> 40).setWidth 8])) ++ ([((n <<< 3) >>> 32).setWidth 8])) ++ ([((n <<< 3) >>> 24).setWidth 8])) ++ ([((n <<< 3) >>> 16).setWidth 8])) ++ ([((n <<< 3) >>> 8).setWidth 8])) ++ ([((n <<< 3) >>> 0).setWidth 8])).length : Int)))] 154 (0, 0))] ++ (Hs2q52 ++ (Hs48 ++ ([(b2, .cells (cl u8 (aA 32 0)) 23 (0, 0))])))) := ymA (Mem.back hF51 k_w50)
  rw [hpad] at hyq52
  refine rN (Qa (sR ?_))
  refine Zm (i64 0) ?_
  refine rN (Qh ?_)
  refine Y1 (fun g wv => ∃ (e : Nat), (e ≤ 32) ∧ g 0 = (ptr bd 0) ∧ g 2 = (ptr b2 0) ∧ g 3 = (ptr be 0) ∧ g 4 = sv48 ∧ g 5 = (i64 (-1)) ∧ g 30 = (bl (((((ll.length : Int) + ((128#8 :: aA ((119 - ll.length) % 64) 0#8).length : Int)) + 8) % 64) != 0)) ∧ g 35 = (bl false) ∧ g 52 = (i64 (e : Int)) ∧ Mem wv (Qs w0) ([(be, .cells #[(u32 y0q52), (u32 y1q52), (u32 y2q52), (u32 y3q52), (u32 y4q52), (u32 y5q52), (u32 y6q52), (u32 y7q52), sv2q52, (u64 (n + BitVec.ofInt 64 ((((((((((128#8 :: aA ((119 - ll.length) % 64) 0#8) ++ ([((n <<< 3) >>> 56).setWidth 8])) ++ ([((n <<< 3) >>> 48).setWidth 8])) ++ ([((n <<< 3) >>> 40).setWidth 8])) ++ ([((n <<< 3) >>> 32).setWidth 8])) ++ ([((n <<< 3) >>> 24).setWidth 8])) ++ ([((n <<< 3) >>> 16).setWidth 8])) ++ ([((n <<< 3) >>> 8).setWidth 8])) ++ ([((n <<< 3) >>> 0).setWidth 8])).length : Int)))] 154 (0, 0))] ++ (Hs2q52 ++ (Hs48 ++ ([(b2, .cells (cl u8 (Yv (fun q => ([y0q52, y1q52, y2q52, y3q52, y4q52, y5q52, y6q52, y7q52].getD (q / 4) 0 >>> (24 - 8 * (q % 4))).setWidth 8) 0 32 e)) 23 (0, 0))]))))) (fun g wv => (32 - RowKit.intOf (g 52)).toNat) ?_ ?_
  ·exact ⟨0, oM, s0, s2, s3, rfl, rfl, s30, rfl, rfl, (by rw [Ei]; exact m50)⟩
  rintro fr53 w54 ⟨e, he, s0, s2, s3, s4, s5, s30, s35, s52, m54⟩
  have z52 := s52
  have hfl : (Yv (fun q => ([y0q52, y1q52, y2q52, y3q52, y4q52, y5q52, y6q52, y7q52].getD (q / 4) 0 >>> (24 - 8 * (q % 4))).setWidth 8) (0 : BitVec 8) 32 e).length = 32 := J8 _ _ _ _ he
  refine sR <| Qd (Xd (b := 32) s52 rfl) ?_
  refine rN (Qa ?_)
  refine Zz rfl (fun hc55 => ?_) (fun hc55 => ?_)
  ·
   have hc55p := of_decide_eq_true hc55
   refine Qo (Qc (Qa (Qh (sR ?_))))
   refine X9 s52 <| Zx (i64 (e : Int)) ?_
   refine rN (Qb ?_)
   refine Zm (i64 (e : Int)) <| Zm (i64 (e : Int)) <| Qd (Jv.cast (congrArg i64 (show (e : Int) / 4 = ((e / 4 : Nat) : Int) by omega)) (Um (b := 4) rfl rfl oM oM oM)) <| Qd (Zl (r := 0) Vg rfl Jj Uf rfl s3) <| Qd (Zj (r := (e / 4)) oM Y6 Ze rfl rfl oM sD) <| Qd (v := (u32 ([y0q52, y1q52, y2q52, y3q52, y4q52, y5q52, y6q52, y7q52].getD (e / 4) 0))) (Qi (v := u32 ([y0q52, y1q52, y2q52, y3q52, y4q52, y5q52, y6q52, y7q52].getD (e / 4) 0)) Xt rfl rfl m54.h0 (Qqu u32 [y0q52, y1q52, y2q52, y3q52, y4q52, y5q52, y6q52, y7q52] [sv2q52, (u64 (n + BitVec.ofInt 64 ((((((((((128#8 :: aA ((119 - ll.length) % 64) 0#8) ++ ([((n <<< 3) >>> 56).setWidth 8])) ++ ([((n <<< 3) >>> 48).setWidth 8])) ++ ([((n <<< 3) >>> 40).setWidth 8])) ++ ([((n <<< 3) >>> 32).setWidth 8])) ++ ([((n <<< 3) >>> 24).setWidth 8])) ++ ([((n <<< 3) >>> 16).setWidth 8])) ++ ([((n <<< 3) >>> 8).setWidth 8])) ++ ([((n <<< 3) >>> 0).setWidth 8])).length : Int)))] 0 sD)) <| Zm (i64 (e : Int)) <| Qd (Wp (b := 4) rfl rfl oM oM oM) <| Qd (Ku (a := 8) rfl rfl oM oM) <| Qd (Jv.cast (congrArg i64 (show 24 - (8 * ((e : Int) % 4)) = ((24 - 8 * (e % 4) : Nat) : Int) by omega)) (Yg (a := 24) rfl rfl oM oM)) <| Qd (Ul rfl rfl oM) <| Qd (Fj ⟨_, Xt⟩ V3 rfl) ?_
   refine Qd (Zj (r := e) oM Xn Yr s2 rfl oM sD) <| Vd (Xw (f := u8) (a := (([y0q52, y1q52, y2q52, y3q52, y4q52, y5q52, y6q52, y7q52].getD (e / 4) 0) >>> ((24 - 8 * (e % 4) : Nat) : Int).toNat).setWidth 8) Qr Yr rfl rfl ((ai [_] Hs2q52 Hs48 [_] _ m54)).h0 sD (.inl (Nat.zero_le _))) ?_
   rintro _ w56 uq56
   have m56 : Mem _ _ ([_, _] ++ (Hs2q52 ++ (Hs48 ++ ([])))) := bM (ai [_] Hs2q52 Hs48 [_] _ m54) uq56
   refine Zp (Qe (Qb ?_))
   refine Qd (Zg (b := 1) s52 rfl oM oM) <| Zm (i64 ((e : Int) + 1)) <| rN ?_
   have m57 := (aN [_, _] Hs2q52 Hs48 _ m56)
   have m58 := (aN Hs48 [_, _] Hs2q52 _ m57)
   have m59 := (ai Hs2q52 Hs48 [_] [_] _ m58)
   exact ⟨⟨e + 1, oM, s0, s2, s3, s4, s5, s30, s35, rfl, (by rw [← Ep (fun q => ([y0q52, y1q52, y2q52, y3q52, y4q52, y5q52, y6q52, y7q52].getD (q / 4) 0 >>> (24 - 8 * (q % 4))).setWidth 8) (0 : BitVec 8) (n := 32) (k := e) oM _ rfl]; exact m59)⟩, Uj rfl z52 oM oM⟩
  ·
   have hc55p := of_decide_eq_false hc55
   obtain rfl : e = 32 := by omega
   have hfl := J8 (fun q => ([y0q52, y1q52, y2q52, y3q52, y4q52, y5q52, y6q52, y7q52].getD (q / 4) 0 >>> (24 - 8 * (q % 4))).setWidth 8) (0 : BitVec 8) 32 32 oM
   refine X3 ?_
   refine Qj (Qj (Xk ?_))
   refine sR <| Qd (Qn Xn rfl Zh s2 ((ai [_] Hs2q52 Hs48 [_] _ m54)).h0 sZ) <| Vd (Qg (f := u8) (l := Yv (fun q => ([y0q52, y1q52, y2q52, y3q52, y4q52, y5q52, y6q52, y7q52].getD (q / 4) 0 >>> (24 - 8 * (q % 4))).setWidth 8) 0 32 32) Qr Zh s2 rfl sD ((ai [_] Hs2q52 Hs48 [_] _ m54)).h0 sZ rfl) ?_
   rintro _ w60 uq60
   have m60 : Mem _ _ ([_, _] ++ (Hs2q52 ++ (Hs48 ++ ([])))) := bM (ai [_] Hs2q52 Hs48 [_] _ m54) uq60
   refine rN (Z8 ?_)
   refine Qq [(agg u8 (Yv (fun q => ([y0q52, y1q52, y2q52, y3q52, y4q52, y5q52, y6q52, y7q52].getD (q / 4) 0 >>> (24 - 8 * (q % 4))).setWidth 8) 0 32 32))] ⟨⟨_, s2, Xm Xn rfl Zh m60.h0 sZ⟩, trivial⟩ ?_
   exact ⟨congrArg (agg u8) ((show Yv (fun q => ([y0q52, y1q52, y2q52, y3q52, y4q52, y5q52, y6q52, y7q52].getD (q / 4) 0 >>> (24 - 8 * (q % 4))).setWidth 8) 0 32 32 = Qcp [y0q52, y1q52, y2q52, y3q52, y4q52, y5q52, y6q52, y7q52] from rfl).trans (congrArg Qcp hyq52)), m60.toExt⟩
end Go.Proofs.YtkmiemlpfkfiiaaDoor
