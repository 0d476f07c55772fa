/- Contracts: hash, third part. Conditions: none beyond those that each theorem states. -/
import Derived.Test.YtkmiemlpfkfiiaaDoorHa2
namespace Go.Proofs.YtkmiemlpfkfiiaaDoor
open Tryd
set_option linter.unusedVariables false
set_option linter.unusedSimpArgs false
set_option maxHeartbeats 2000000 in
theorem c_dsum (bd : Nat) (x0 x1 x2 x3 x4 x5 x6 x7 : BitVec 32) (sv : Value) (ll : Z8) (n : BitVec 64) (w0 : World)  (hT : Tabs (Y8 w0)) (hd : Y8 w0 bd = some (.cells #[(u32 x0), (u32 x1), (u32 x2), (u32 x3), (u32 x4), (u32 x5), (u32 x6), (u32 x7), sv, (u64 n)] 154 (0, 0))) (hrl : Rd (Y8 w0) u8 sv ll) (hll : ll.length < 64) : X0 prog 87 #[(ptr bd 0)] w0 (fun r w1 => r = (agg u8 (Dn [x0, x1, x2, x3, x4, x5, x6, x7] ll n)) ∧ Ext w0 w1) := by
 refine Qy (args := [(ptr bd 0)]) func87 rfl ntmps87 results87 rfl ?_
 have m0 : Mem w0 (Qr w0) [] := Mem.of_world w0
 obtain ⟨Es, fzs, hTs⟩ := hT.start
 obtain ⟨Er, fzr, hTr⟩ := hT.round
 refine sR <| Y9 (Q7 m0 Zg) fun w1 b2 m1 => ?_
 refine rN (Qa ?_)
 refine H5 (J := fun g wv => ∃ (be : Nat) (svc : Value) (Hsc : List (Nat × Obj)), (Z5 u8 5 svc ll Hsc) ∧ g 0 = (ptr bd 0) ∧ g 2 = (ptr b2 0) ∧ g 3 = (ptr be 0) ∧ Mem wv (Qr w0) ([(be, .cells #[(u32 x0), (u32 x1), (u32 x2), (u32 x3), (u32 x4), (u32 x5), (u32 x6), (u32 x7), svc, (u64 n)] 154 (0, 0))] ++ (Hsc ++ ([(b2, .cells (cl u8 (List.replicate 32 0)) 23 (0, 0))])))) ?_ ?_
 ·skip
  refine J4 Xo ?_
  refine Qi4 8 14 rfl rfl ?_ ?_
  ·
   refine Hf [(0, false), (1, false), (2, false), (3, false), (4, false), (5, false), (6, false), (7, false), (9, false), (10, false), (11, false), (12, false), (8, true), (13, false), (14, true)] 15 rfl Xo <| J8 rfl (ptr bd 0) <| X6 rfl (Zc rfl) <| X6 rfl (Zi (r := 0) Vh rfl Je Uj rfl rfl) <| Ym (v := (agg u32 ([x0, x1, x2, x3, x4, x5, x6, x7]))) rfl (fun _ e' => Qn4 (c' := (cl u32 ([x0, x1, x2, x3, x4, x5, x6, x7]))) Y5 rfl Uj rfl ((m1.ext e').rest _ _ hd) Xo Xo) <| J8 rfl (ptr bd 0) <| X6 rfl (Zc rfl) <| X6 rfl (Zi (r := 8) Vh rfl Je Qa6 rfl rfl) <| Ym (v := sv) rfl (fun _ e' => Qi Zo rfl rfl ((m1.ext e').rest _ _ hd) rfl) <| J8 rfl (ptr bd 0) <| X6 rfl (Zc rfl) <| X6 rfl (Zi (r := 9) Vh rfl Je Xq rfl rfl) ?_
   refine Ym (v := (u64 n)) rfl (fun _ e' => Qi Yj rfl rfl ((m1.ext e').rest _ _ hd) rfl) ?_
   refine Bi rfl rfl (fun w2 e2 => ?_)
   have m2 := m1.ext e2
   refine Wu.mono (oc34 (Jv rfl) (Qcr sv ll _ (Rd.ofRest hrl m2) sD)) ?_
   rintro rq4 w3 ⟨Hsq4, grq4, k_w3⟩
   refine ⟨k_w3.toExt, ?_⟩
   have m3 : Mem _ _ (Hsq4 ++ ([_])) := Mem.new (H := [_]) (H' := Hsq4) m2 k_w3
   refine X6 rfl (Wv (c := #[(u32 x0), (u32 x1), (u32 x2), (u32 x3), (u32 x4), (u32 x5), (u32 x6), (u32 x7), rq4, (u64 n)]) (pl := [(0, 8), (8, 1), (9, 1)]) Qir Vh Xo (Jq (i := 0) (v := (agg u32 ([x0, x1, x2, x3, x4, x5, x6, x7]))) (cs := (cl u32 ([x0, x1, x2, x3, x4, x5, x6, x7]))) rfl rfl (Jq (i := 1) (v := rq4) (cs := #[rq4]) rfl (Qgt grq4.one) (Jq (i := 2) (v := (u64 n)) (cs := #[(u64 n)]) rfl rfl Vq))) Xo) ?_
   refine Bi rfl rfl (fun w5 e5 => ?_)
   have m5 := m3.ext e5
   refine Wu.mono (Jw m5 Qir) ?_
   rintro _ w6 ⟨b3, rfl, e6, m6⟩
   refine ⟨e6, ?_⟩
   refine Gf m6 fun w7 m7 => Vf (Qgq (cs := #[(u32 x0), (u32 x1), (u32 x2), (u32 x3), (u32 x4), (u32 x5), (u32 x6), (u32 x7), rq4, (u64 n)]) Qir rfl rfl Xo (Ql6 (Xy (Xb _) (Xy (Xb _) (Xy (Xb _) (Xy (Xb _) (Xy (Xb _) (Xy (Xb _) (Xy (Xb _) (Xy (Xb _) (Xy grq4.one (Xy (Xw _) Jz))))))))))) m7.h0 Xo rfl) ?_
   rintro _ w8 uq8
   have m8 : Mem _ _ ([(b3, .cells #[(u32 x0), (u32 x1), (u32 x2), (u32 x3), (u32 x4), (u32 x5), (u32 x6), (u32 x7), rq4, (u64 n)] 154 (0, 0))] ++ (Hsq4 ++ ([_]))) := m7.upd0 uq8
   refine rN ?_
   exact ⟨b3, rq4, Hsq4, grq4, rfl, rfl, rfl, m8⟩
  ·
   refine Hf [(0, false), (1, false), (2, false), (3, false), (4, false), (5, false), (6, false), (7, false), (9, false), (10, false), (11, false), (12, false), (14, true), (8, true), (13, false)] 15 rfl Xo <| J8 rfl (ptr bd 0) <| X6 rfl (Zc rfl) <| X6 rfl (Zi (r := 0) Vh rfl Je Uj rfl rfl) <| Ym (v := (agg u32 ([x0, x1, x2, x3, x4, x5, x6, x7]))) rfl (fun _ e' => Qn4 (c' := (cl u32 ([x0, x1, x2, x3, x4, x5, x6, x7]))) Y5 rfl Uj rfl ((m1.ext e').rest _ _ hd) Xo Xo) <| J8 rfl (ptr bd 0) <| X6 rfl (Zc rfl) <| X6 rfl (Zi (r := 8) Vh rfl Je Qa6 rfl rfl) <| Ym (v := sv) rfl (fun _ e' => Qi Zo rfl rfl ((m1.ext e').rest _ _ hd) rfl) <| J8 rfl (ptr bd 0) <| X6 rfl (Zc rfl) <| X6 rfl (Zi (r := 9) Vh rfl Je Xq rfl rfl) ?_
   refine Ym (v := (u64 n)) rfl (fun _ e' => Qi Yj rfl rfl ((m1.ext e').rest _ _ hd) rfl) ?_
   refine Bi rfl rfl (fun w9 e9 => ?_)
   have m9 := m1.ext e9
   refine Wu.mono (Jw m9 Qir) ?_
   rintro _ w10 ⟨b3_1, rfl, e10, m10⟩
   refine ⟨e10, ?_⟩
   refine Bi rfl rfl (fun w11 e11 => ?_)
   have m11 := m10.ext e11
   refine Wu.mono (oc34 (Jv rfl) (Qcr sv ll _ (Rd.ofRest hrl m11) sD)) ?_
   rintro rq13 w12 ⟨Hsq13, grq13, k_w12⟩
   refine ⟨k_w12.toExt, ?_⟩
   have m12 : Mem _ _ (Hsq13 ++ ([_, _])) := Mem.new (H := [_, _]) (H' := Hsq13) m11 k_w12
   refine X6 rfl (Wv (c := #[(u32 x0), (u32 x1), (u32 x2), (u32 x3), (u32 x4), (u32 x5), (u32 x6), (u32 x7), rq13, (u64 n)]) (pl := [(0, 8), (8, 1), (9, 1)]) Qir Vh Xo (Jq (i := 0) (v := (agg u32 ([x0, x1, x2, x3, x4, x5, x6, x7]))) (cs := (cl u32 ([x0, x1, x2, x3, x4, x5, x6, x7]))) rfl rfl (Jq (i := 1) (v := rq13) (cs := #[rq13]) rfl (Qgt grq13.one) (Jq (i := 2) (v := (u64 n)) (cs := #[(u64 n)]) rfl rfl Vq))) Xo) <| Gf m12 fun w14 m14 => Vf (Qgq (cs := #[(u32 x0), (u32 x1), (u32 x2), (u32 x3), (u32 x4), (u32 x5), (u32 x6), (u32 x7), rq13, (u64 n)]) Qir rfl rfl Xo (Ql6 (Xy (Xb _) (Xy (Xb _) (Xy (Xb _) (Xy (Xb _) (Xy (Xb _) (Xy (Xb _) (Xy (Xb _) (Xy (Xb _) (Xy grq13.one (Xy (Xw _) Jz))))))))))) ((Mem.pick Hsq13 [_] _ m14)).h0 Xo rfl) ?_
   rintro _ w15 uq15
   have m15 : Mem _ _ ([(b3_1, .cells #[(u32 x0), (u32 x1), (u32 x2), (u32 x3), (u32 x4), (u32 x5), (u32 x6), (u32 x7), rq13, (u64 n)] 154 (0, 0))] ++ (Hsq13 ++ ([_]))) := Mem.upd0 (Mem.pick Hsq13 [_] _ m14) uq15
   refine rN ?_
   exact ⟨b3_1, rq13, Hsq13, grq13, rfl, rfl, rfl, m15⟩
 rintro fr16 w17 ⟨be, svc, Hsc, gc, s0, s2, s3, m17⟩
 refine sR <| Y9 (Qq u8 [128#8] Qs m17 Zo Yw rfl rfl rfl) fun w18 b21 m18 => Zx (Wp b21 0 1 1) ?_
 refine rN (Qa (Qh ?_))
 refine Y1 (fun g wv => ∃ (k : Nat) (pl : Z8) (sp : Value) (Hp : List (Nat × Obj)), (k ≤ (119 - ll.length) % 64) ∧ (pl = 128#8 :: List.replicate k 0#8) ∧ (Z5 u8 5 sp pl Hp) ∧ g 0 = (ptr bd 0) ∧ g 2 = (ptr b2 0) ∧ g 3 = (ptr be 0) ∧ g 4 = sp ∧ Mem wv (Qr w0) (Hp ++ ([(be, .cells #[(u32 x0), (u32 x1), (u32 x2), (u32 x3), (u32 x4), (u32 x5), (u32 x6), (u32 x7), svc, (u64 n)] 154 (0, 0))] ++ (Hsc ++ ([(b2, .cells (cl u8 (List.replicate 32 0)) 23 (0, 0))]))))) (fun g wv => (119 - ll.length) % 64 + 2 - sllen (g 4)) ?_ ?_
 ·exact ⟨0, [128#8], (Wp b21 0 1 1), [(b21, .cells (cl u8 ([128#8])) 5 (0, 0))], oM, rfl, (Z5.of u8 5 b21 [128#8]), s0, s2, s3, rfl, m18⟩
 rintro fr19 w20 ⟨k, pl, sp, Hp, hk, hpl, gp, s0, s2, s3, s4, m20⟩
 have z4 := s4
 have hpn : pl.length = k + 1 := by rw [hpl]; simp
 refine Qa (sR ?_)
 refine Qd (Zi (r := 8) Vh rfl Je Qa6 rfl s3) <| Qd (v := svc) (Qi Zo rfl rfl ((Mem.pick Hp [_] _ m20)).h0 rfl) <| Qd (Yk (gc.rd (Mem.pick2 Hp [_] Hsc _ m20)) Zo rfl) <| Yb s4 <| Qd (Yk (gp.rd m20) Zo rfl) <| Qd (Zf rfl rfl oM oM) <| Qd (Zf (b := 8) rfl rfl oM oM) <| Qd (W9 (b := 64) rfl rfl oM oM oM) <| Qd (We (b := 0) rfl rfl) <| rN ?_
 refine Zy rfl (fun hc21 => ?_) (fun hc21 => ?_)
 ·
  have hc21p := bne_iff_ne.1 hc21
  refine Qn (Qc (V8 (Qb ?_)))
  refine Yb s4 <| Y9 (Qq u8 [0#8] Qs m20 Zo Yw rfl rfl rfl) fun w22 b32 m22 => Vw (Xf (f := u8) (Hs := Hp) (H := [_, _] ++ (Hsc ++ ([_]))) (Mem.pick [_] Hp _ m22) gp rfl rfl (Rd.mkA m22.h0) Zo Zo Yw rfl Qs sD sD) ?_
  rintro sv23 w23 ⟨Hs23, m23, g23⟩
  replace g23 : Z5 u8 5 sv23 (pl ++ ([0#8])) Hs23 := g23
  refine Zx sv23 ?_
  refine Zp (Qe (Qc ?_))
  have m24 := Mem.drop [_] _ (Mem.pick Hs23 [_] _ m23)
  exact ⟨⟨k + 1, pl ++ ([0#8]), sv23, Hs23, oM, (by rw [hpl, List.replicate_succ']; rfl), g23, s0, s2, s3, rfl, m24⟩, (by show (119 - ll.length) % 64 + 2 - sllen sv23 < (119 - ll.length) % 64 + 2 - sllen _; rw [z4, gp.sllen, Z5.sllen g23]; simp [hpn]; omega)⟩
 ·
  have hc21p := X3 hc21
  have hpn : pl.length = k + 1 := by rw [hpl]; simp
  obtain rfl : k = (119 - ll.length) % 64 := by omega
  subst hpl
  refine X4 ?_
  refine Qj (Qj (Xi ?_))
  refine Qa (sR ?_)
  refine Zx (i64 7) ?_
  refine rN (Qh ?_)
  refine Vo 9 ?_
  refine Zq (Qa (sR ?_))
  refine Zm (i64 7) <| Qd (Ur 7 0) <| rN <| Q9 rfl Jb ?_
  refine Qn (Qc (Qa (Qh (Qb ?_))))
  refine Yb s4 <| Yb s0 <| Qd (Zc rfl) <| Qd (Zi (r := 9) Vh rfl Je Xq rfl rfl) <| Qd (v := (u64 n)) (Qi Yj rfl rfl (m20.rest _ _ hd) rfl) <| Qd (E8 (b := 3) rfl rfl oM) <| Zm (i64 7) <| Qd (v := (i64 56)) (Vx 8 7) <| Qd (X9 (b := 56) rfl rfl oM) <| Qd (X7 ⟨_, Yj⟩ Vs rfl) <| Y9 (Qq u8 [((n <<< 3) >>> 56).setWidth 8] Qs m20 Zo Yw rfl rfl rfl) fun w25 b48 m25 => Vw (Xf (f := u8) (Hs := Hp) (H := [_, _] ++ (Hsc ++ ([_]))) (Mem.pick [_] Hp _ m25) gp rfl rfl (Rd.mkA m25.h0) Zo Zo Yw rfl Qs sD sD) ?_
  rintro sv26 w26 ⟨Hs26, m26, g26⟩
  replace g26 : Z5 u8 5 sv26 ((128#8 :: List.replicate ((119 - ll.length) % 64) 0#8) ++ ([((n <<< 3) >>> 56).setWidth 8])) Hs26 := g26
  refine Zx sv26 ?_
  refine Zp (Qe ?_)
  have m27 := Mem.drop [_] _ (Mem.pick Hs26 [_] _ m26)
  refine Qb <| Zm (i64 7) <| Qd (v := (i64 6)) (V4 7 1) <| Zx (i64 6) ?_
  refine rN (Zq (Qa (sR ?_)))
  refine Zm (i64 6) <| Qd (Ur 6 0) <| rN <| Q9 rfl Jb ?_
  refine Qn (Qc (Qa (Qh (Qb ?_))))
  refine Zm sv26 <| Yb s0 <| Qd (Zc rfl) <| Qd (Zi (r := 9) Vh rfl Je Xq rfl rfl) <| Qd (v := (u64 n)) (Qi Yj rfl rfl (m27.rest _ _ hd) rfl) <| Qd (E8 (b := 3) rfl rfl oM) <| Zm (i64 6) <| Qd (v := (i64 48)) (Vx 8 6) <| Qd (X9 (b := 48) rfl rfl oM) <| Qd (X7 ⟨_, Yj⟩ Vs rfl) <| Y9 (Qq u8 [((n <<< 3) >>> 48).setWidth 8] Qs m27 Zo Yw rfl rfl rfl) fun w28 b48_1 m28 => Vw (Xf (f := u8) (Hs := Hs26) (H := [_, _] ++ (Hsc ++ ([_]))) (Mem.pick [_] Hs26 _ m28) g26 rfl rfl (Rd.mkA m28.h0) Zo Zo Yw rfl Qs sD sD) ?_
  rintro sv29 w29 ⟨Hs29, m29, g29⟩
  replace g29 : Z5 u8 5 sv29 (((128#8 :: List.replicate ((119 - ll.length) % 64) 0#8) ++ ([((n <<< 3) >>> 56).setWidth 8])) ++ ([((n <<< 3) >>> 48).setWidth 8])) Hs29 := g29
  refine Zx sv29 ?_
  refine Zp (Qe ?_)
  have m30 := Mem.drop [_] _ (Mem.pick Hs29 [_] _ m29)
  refine Qb <| Zm (i64 6) <| Qd (v := (i64 5)) (V4 6 1) <| Zx (i64 5) ?_
  refine rN (Zq (Qa (sR ?_)))
  refine Zm (i64 5) <| Qd (Ur 5 0) <| rN <| Q9 rfl Jb ?_
  refine Qn (Qc (Qa (Qh (Qb ?_))))
  refine Zm sv29 <| Yb s0 <| Qd (Zc rfl) <| Qd (Zi (r := 9) Vh rfl Je Xq rfl rfl) <| Qd (v := (u64 n)) (Qi Yj rfl rfl (m30.rest _ _ hd) rfl) <| Qd (E8 (b := 3) rfl rfl oM) <| Zm (i64 5) <| Qd (v := (i64 40)) (Vx 8 5) <| Qd (X9 (b := 40) rfl rfl oM) <| Qd (X7 ⟨_, Yj⟩ Vs rfl) <| Y9 (Qq u8 [((n <<< 3) >>> 40).setWidth 8] Qs m30 Zo Yw rfl rfl rfl) fun w31 b48_2 m31 => Vw (Xf (f := u8) (Hs := Hs29) (H := [_, _] ++ (Hsc ++ ([_]))) (Mem.pick [_] Hs29 _ m31) g29 rfl rfl (Rd.mkA m31.h0) Zo Zo Yw rfl Qs sD sD) ?_
  rintro sv32 w32 ⟨Hs32, m32, g32⟩
  replace g32 : Z5 u8 5 sv32 ((((128#8 :: List.replicate ((119 - ll.length) % 64) 0#8) ++ ([((n <<< 3) >>> 56).setWidth 8])) ++ ([((n <<< 3) >>> 48).setWidth 8])) ++ ([((n <<< 3) >>> 40).setWidth 8])) Hs32 := g32
  refine Zx sv32 ?_
  refine Zp (Qe ?_)
  have m33 := Mem.drop [_] _ (Mem.pick Hs32 [_] _ m32)
  refine Qb <| Zm (i64 5) <| Qd (v := (i64 4)) (V4 5 1) <| Zx (i64 4) ?_
  refine rN (Zq (Qa (sR ?_)))
  refine Zm (i64 4) <| Qd (Ur 4 0) <| rN <| Q9 rfl Jb ?_
  refine Qn (Qc (Qa (Qh (Qb ?_))))
  refine Zm sv32 <| Yb s0 <| Qd (Zc rfl) <| Qd (Zi (r := 9) Vh rfl Je Xq rfl rfl) <| Qd (v := (u64 n)) (Qi Yj rfl rfl (m33.rest _ _ hd) rfl) <| Qd (E8 (b := 3) rfl rfl oM) <| Zm (i64 4) <| Qd (v := (i64 32)) (Vx 8 4) <| Qd (X9 (b := 32) rfl rfl oM) <| Qd (X7 ⟨_, Yj⟩ Vs rfl) <| Y9 (Qq u8 [((n <<< 3) >>> 32).setWidth 8] Qs m33 Zo Yw rfl rfl rfl) fun w34 b48_3 m34 => Vw (Xf (f := u8) (Hs := Hs32) (H := [_, _] ++ (Hsc ++ ([_]))) (Mem.pick [_] Hs32 _ m34) g32 rfl rfl (Rd.mkA m34.h0) Zo Zo Yw rfl Qs sD sD) ?_
  rintro sv35 w35 ⟨Hs35, m35, g35⟩
  replace g35 : Z5 u8 5 sv35 (((((128#8 :: List.replicate ((119 - ll.length) % 64) 0#8) ++ ([((n <<< 3) >>> 56).setWidth 8])) ++ ([((n <<< 3) >>> 48).setWidth 8])) ++ ([((n <<< 3) >>> 40).setWidth 8])) ++ ([((n <<< 3) >>> 32).setWidth 8])) Hs35 := g35
  refine Zx sv35 ?_
  refine Zp (Qe ?_)
  have m36 := Mem.drop [_] _ (Mem.pick Hs35 [_] _ m35)
  refine Qb <| Zm (i64 4) <| Qd (v := (i64 3)) (V4 4 1) <| Zx (i64 3) <| rN ?_
  refine CR.abs (fun g => g 0 = (ptr bd 0) ∧ g 2 = (ptr b2 0) ∧ g 3 = (ptr be 0) ∧ g 4 = sv35 ∧ g 5 = (i64 3) ∧ g 30 = (bl (((((ll.length : Int) + ((128#8 :: List.replicate ((119 - ll.length) % 64) 0#8).length : Int)) + 8) % 64) != 0)) ∧ g 35 = (bl true) ∧ True) ⟨s0, s2, s3, rfl, rfl, rfl, rfl, trivial⟩ ?_
  rintro fr37 ⟨s0, s2, s3, s4, s5, s30, s35, _⟩
  refine Zq (Qa (sR ?_))
  refine Yb s5 <| Qd (Ur 3 0) <| rN <| Q9 rfl Jb ?_
  refine Qn (Qc (Qa (Qh (Qb ?_))))
  refine Yb s4 <| Yb s0 <| Qd (Zc rfl) <| Qd (Zi (r := 9) Vh rfl Je Xq rfl rfl) <| Qd (v := (u64 n)) (Qi Yj rfl rfl (m36.rest _ _ hd) rfl) <| Qd (E8 (b := 3) rfl rfl oM) <| Yb s5 <| Qd (v := (i64 24)) (Vx 8 3) <| Qd (X9 (b := 24) rfl rfl oM) <| Qd (X7 ⟨_, Yj⟩ Vs rfl) <| Y9 (Qq u8 [((n <<< 3) >>> 24).setWidth 8] Qs m36 Zo Yw rfl rfl rfl) fun w38 b48_4 m38 => Vw (Xf (f := u8) (Hs := Hs35) (H := [_, _] ++ (Hsc ++ ([_]))) (Mem.pick [_] Hs35 _ m38) g35 rfl rfl (Rd.mkA m38.h0) Zo Zo Yw rfl Qs sD sD) ?_
  rintro sv39 w39 ⟨Hs39, m39, g39⟩
  replace g39 : Z5 u8 5 sv39 ((((((128#8 :: List.replicate ((119 - ll.length) % 64) 0#8) ++ ([((n <<< 3) >>> 56).setWidth 8])) ++ ([((n <<< 3) >>> 48).setWidth 8])) ++ ([((n <<< 3) >>> 40).setWidth 8])) ++ ([((n <<< 3) >>> 32).setWidth 8])) ++ ([((n <<< 3) >>> 24).setWidth 8])) Hs39 := g39
  refine Zx sv39 ?_
  refine Zp (Qe ?_)
  have m40 := Mem.drop [_] _ (Mem.pick Hs39 [_] _ m39)
  refine Qb <| Yb s5 <| Qd (v := (i64 2)) (V4 3 1) <| Zx (i64 2) ?_
  refine rN (Zq (Qa (sR ?_)))
  refine Zm (i64 2) <| Qd (Ur 2 0) <| rN <| Q9 rfl Jb ?_
  refine Qn (Qc (Qa (Qh (Qb ?_))))
  refine Zm sv39 <| Yb s0 <| Qd (Zc rfl) <| Qd (Zi (r := 9) Vh rfl Je Xq rfl rfl) <| Qd (v := (u64 n)) (Qi Yj rfl rfl (m40.rest _ _ hd) rfl) <| Qd (E8 (b := 3) rfl rfl oM) <| Zm (i64 2) <| Qd (v := (i64 16)) (Vx 8 2) <| Qd (X9 (b := 16) rfl rfl oM) <| Qd (X7 ⟨_, Yj⟩ Vs rfl) <| Y9 (Qq u8 [((n <<< 3) >>> 16).setWidth 8] Qs m40 Zo Yw rfl rfl rfl) fun w41 b48_5 m41 => Vw (Xf (f := u8) (Hs := Hs39) (H := [_, _] ++ (Hsc ++ ([_]))) (Mem.pick [_] Hs39 _ m41) g39 rfl rfl (Rd.mkA m41.h0) Zo Zo Yw rfl Qs sD sD) ?_
  rintro sv42 w42 ⟨Hs42, m42, g42⟩
  replace g42 : Z5 u8 5 sv42 (((((((128#8 :: List.replicate ((119 - ll.length) % 64) 0#8) ++ ([((n <<< 3) >>> 56).setWidth 8])) ++ ([((n <<< 3) >>> 48).setWidth 8])) ++ ([((n <<< 3) >>> 40).setWidth 8])) ++ ([((n <<< 3) >>> 32).setWidth 8])) ++ ([((n <<< 3) >>> 24).setWidth 8])) ++ ([((n <<< 3) >>> 16).setWidth 8])) Hs42 := g42
  refine Zx sv42 ?_
  refine Zp (Qe ?_)
  have m43 := Mem.drop [_] _ (Mem.pick Hs42 [_] _ m42)
  refine Qb <| Zm (i64 2) <| Qd (v := (i64 1)) (V4 2 1) <| Zx (i64 1) ?_
  refine rN (Zq (Qa (sR ?_)))
  refine Zm (i64 1) <| Qd (Ur 1 0) <| rN <| Q9 rfl Jb ?_
  refine Qn (Qc (Qa (Qh (Qb ?_))))
  refine Zm sv42 <| Yb s0 <| Qd (Zc rfl) <| Qd (Zi (r := 9) Vh rfl Je Xq rfl rfl) <| Qd (v := (u64 n)) (Qi Yj rfl rfl (m43.rest _ _ hd) rfl) <| Qd (E8 (b := 3) rfl rfl oM) <| Zm (i64 1) <| Qd (v := (i64 8)) (Vx 8 1) <| Qd (X9 (b := 8) rfl rfl oM) <| Qd (X7 ⟨_, Yj⟩ Vs rfl) <| Y9 (Qq u8 [((n <<< 3) >>> 8).setWidth 8] Qs m43 Zo Yw rfl rfl rfl) fun w44 b48_6 m44 => Vw (Xf (f := u8) (Hs := Hs42) (H := [_, _] ++ (Hsc ++ ([_]))) (Mem.pick [_] Hs42 _ m44) g42 rfl rfl (Rd.mkA m44.h0) Zo Zo Yw rfl Qs sD sD) ?_
  rintro sv45 w45 ⟨Hs45, m45, g45⟩
  replace g45 : Z5 u8 5 sv45 ((((((((128#8 :: List.replicate ((119 - ll.length) % 64) 0#8) ++ ([((n <<< 3) >>> 56).setWidth 8])) ++ ([((n <<< 3) >>> 48).setWidth 8])) ++ ([((n <<< 3) >>> 40).setWidth 8])) ++ ([((n <<< 3) >>> 32).setWidth 8])) ++ ([((n <<< 3) >>> 24).setWidth 8])) ++ ([((n <<< 3) >>> 16).setWidth 8])) ++ ([((n <<< 3) >>> 8).setWidth 8])) Hs45 := g45
  refine Zx sv45 ?_
  refine Zp (Qe ?_)
  have m46 := Mem.drop [_] _ (Mem.pick Hs45 [_] _ m45)
  refine Qb <| Zm (i64 1) <| Qd (v := (i64 0)) (V4 1 1) <| Zx (i64 0) ?_
  refine rN (Zq (Qa (sR ?_)))
  refine Zm (i64 0) <| Qd (Ur 0 0) <| rN <| Q9 rfl Jb ?_
  refine Qn (Qc (Qa (Qh (Qb ?_))))
  refine Zm sv45 <| Yb s0 <| Qd (Zc rfl) <| Qd (Zi (r := 9) Vh rfl Je Xq rfl rfl) <| Qd (v := (u64 n)) (Qi Yj rfl rfl (m46.rest _ _ hd) rfl) <| Qd (E8 (b := 3) rfl rfl oM) <| Zm (i64 0) <| Qd (v := (i64 0)) (Vx 8 0) <| Qd (X9 (b := 0) rfl rfl oM) <| Qd (X7 ⟨_, Yj⟩ Vs rfl) <| Y9 (Qq u8 [((n <<< 3) >>> 0).setWidth 8] Qs m46 Zo Yw rfl rfl rfl) fun w47 b48_7 m47 => Vw (Xf (f := u8) (Hs := Hs45) (H := [_, _] ++ (Hsc ++ ([_]))) (Mem.pick [_] Hs45 _ m47) g45 rfl rfl (Rd.mkA m47.h0) Zo Zo Yw rfl Qs sD sD) ?_
  rintro sv48 w48 ⟨Hs48, m48, g48⟩
  replace g48 : Z5 u8 5 sv48 (((((((((128#8 :: List.replicate ((119 - ll.length) % 64) 0#8) ++ ([((n <<< 3) >>> 56).setWidth 8])) ++ ([((n <<< 3) >>> 48).setWidth 8])) ++ ([((n <<< 3) >>> 40).setWidth 8])) ++ ([((n <<< 3) >>> 32).setWidth 8])) ++ ([((n <<< 3) >>> 24).setWidth 8])) ++ ([((n <<< 3) >>> 16).setWidth 8])) ++ ([((n <<< 3) >>> 8).setWidth 8])) ++ ([((n <<< 3) >>> 0).setWidth 8])) Hs48 := g48
  refine Zx sv48 ?_
  refine Zp (Qe ?_)
  have m49 := Mem.drop [_] _ (Mem.pick Hs48 [_] _ m48)
  refine Qb <| Zm (i64 0) <| Qd (v := (i64 (-1))) (V4 0 1) <| Zx (i64 (-1)) ?_
  refine rN (Zq (Qa (sR ?_)))
  refine Zm (i64 (-1)) <| Qd (Ur (-1) 0) <| rN <| Ja rfl Jb <| X4 ?_
  refine Qj (Qj (Xi ?_))
  refine Qa ?_
  have hpad : ((((((((128#8 :: List.replicate ((119 - ll.length) % 64) 0#8) ++ ([((n <<< 3) >>> 56).setWidth 8])) ++ ([((n <<< 3) >>> 48).setWidth 8])) ++ ([((n <<< 3) >>> 40).setWidth 8])) ++ ([((n <<< 3) >>> 32).setWidth 8])) ++ ([((n <<< 3) >>> 24).setWidth 8])) ++ ([((n <<< 3) >>> 16).setWidth 8])) ++ ([((n <<< 3) >>> 8).setWidth 8])) ++ ([((n <<< 3) >>> 0).setWidth 8]) = padP n ll.length := by simp [padP, lenB]
  refine Qb <| Zm sv48 ?_
  have hF51 : Mem w48 (Qr w0) (([(be, .cells #[(u32 x0), (u32 x1), (u32 x2), (u32 x3), (u32 x4), (u32 x5), (u32 x6), (u32 x7), svc, (u64 n)] 154 (0, 0))] ++ (Hsc ++ ([]))) ++ (Hs48 ++ ([(b2, .cells (cl u8 (List.replicate 32 0)) 23 (0, 0))]))) := by
   have hT := (Mem.pick2 Hsc Hs48 [_] _ (Mem.pick2 Hs48 [_] Hsc _ m49))
   try simp only [List.append_assoc, List.cons_append, List.nil_append, List.append_nil] at hT ⊢
   exact hT
  refine Vw (oc85 (Xm s3 rfl) (Qih be x0 x1 x2 x3 x4 x5 x6 x7 svc ll Hsc n sv48 (((((((((128#8 :: List.replicate ((119 - ll.length) % 64) 0#8) ++ ([((n <<< 3) >>> 56).setWidth 8])) ++ ([((n <<< 3) >>> 48).setWidth 8])) ++ ([((n <<< 3) >>> 40).setWidth 8])) ++ ([((n <<< 3) >>> 32).setWidth 8])) ++ ([((n <<< 3) >>> 24).setWidth 8])) ++ ([((n <<< 3) >>> 16).setWidth 8])) ++ ([((n <<< 3) >>> 8).setWidth 8])) ++ ([((n <<< 3) >>> 0).setWidth 8])) _ _ (Mem.give hF51) (hT.mono fun b o e => Mem.addRest hF51 e) (g48.rdAdd hF51 (fun p hp => (List.mem_append_left _ hp))) gc sD)) ?_
  rintro _ w50 ⟨y0q52, y1q52, y2q52, y3q52, y4q52, y5q52, y6q52, y7q52, sv2q52, Hs2q52, hyq52, gl2q52, k_w50⟩
  have m50 : Mem w50 (Qr w0) ([(be, .cells #[(u32 y0q52), (u32 y1q52), (u32 y2q52), (u32 y3q52), (u32 y4q52), (u32 y5q52), (u32 y6q52), (u32 y7q52), sv2q52, (u64 (n + BitVec.ofInt 64 ((((((((((128#8 :: List.replicate ((119 - ll.length) % 64) 0#8) ++ ([((n <<< 3) >>> 56).setWidth 8])) ++ ([((n <<< 3) >>> 48).setWidth 8])) ++ ([((n <<< 3) >>> 40).setWidth 8])) ++ ([((n <<< 3) >>> 32).setWidth 8])) ++ ([((n <<< 3) >>> 24).setWidth 8])) ++ ([((n <<< 3) >>> 16).setWidth 8])) ++ ([((n <<< 3) >>> 8).setWidth 8])) ++ ([((n <<< 3) >>> 0).setWidth 8])).length : Int)))] 154 (0, 0))] ++ (Hs2q52 ++ (Hs48 ++ ([(b2, .cells (cl u8 (List.replicate 32 0)) 23 (0, 0))])))) := ymA (Mem.back hF51 k_w50)
  rw [hpad] at hyq52
  refine rN (Qa (sR ?_))
  refine Zm (i64 0) ?_
  refine rN (Qh ?_)
  refine Y1 (fun g wv => ∃ (e : Nat), (e ≤ 32) ∧ g 0 = (ptr bd 0) ∧ g 2 = (ptr b2 0) ∧ g 3 = (ptr be 0) ∧ g 4 = sv48 ∧ g 5 = (i64 (-1)) ∧ g 30 = (bl (((((ll.length : Int) + ((128#8 :: List.replicate ((119 - ll.length) % 64) 0#8).length : Int)) + 8) % 64) != 0)) ∧ g 35 = (bl false) ∧ g 52 = (i64 (e : Int)) ∧ Mem wv (Qr w0) ([(be, .cells #[(u32 y0q52), (u32 y1q52), (u32 y2q52), (u32 y3q52), (u32 y4q52), (u32 y5q52), (u32 y6q52), (u32 y7q52), sv2q52, (u64 (n + BitVec.ofInt 64 ((((((((((128#8 :: List.replicate ((119 - ll.length) % 64) 0#8) ++ ([((n <<< 3) >>> 56).setWidth 8])) ++ ([((n <<< 3) >>> 48).setWidth 8])) ++ ([((n <<< 3) >>> 40).setWidth 8])) ++ ([((n <<< 3) >>> 32).setWidth 8])) ++ ([((n <<< 3) >>> 24).setWidth 8])) ++ ([((n <<< 3) >>> 16).setWidth 8])) ++ ([((n <<< 3) >>> 8).setWidth 8])) ++ ([((n <<< 3) >>> 0).setWidth 8])).length : Int)))] 154 (0, 0))] ++ (Hs2q52 ++ (Hs48 ++ ([(b2, .cells (cl u8 (Y0 (fun q => ([y0q52, y1q52, y2q52, y3q52, y4q52, y5q52, y6q52, y7q52].getD (q / 4) 0 >>> (24 - 8 * (q % 4))).setWidth 8) 0 32 e)) 23 (0, 0))]))))) (fun g wv => (32 - RowKit.intOf (g 52)).toNat) ?_ ?_
  ·exact ⟨0, oM, s0, s2, s3, rfl, rfl, s30, rfl, rfl, (by rw [En]; exact m50)⟩
  rintro fr53 w54 ⟨e, he, s0, s2, s3, s4, s5, s30, s35, s52, m54⟩
  have z52 := s52
  have hfl : (Y0 (fun q => ([y0q52, y1q52, y2q52, y3q52, y4q52, y5q52, y6q52, y7q52].getD (q / 4) 0 >>> (24 - 8 * (q % 4))).setWidth 8) (0 : BitVec 8) 32 e).length = 32 := J9 _ _ _ _ he
  refine sR <| Qd (Xa (b := 32) s52 rfl) ?_
  refine rN (Qa ?_)
  refine Zy rfl (fun hc55 => ?_) (fun hc55 => ?_)
  ·
   have hc55p := of_decide_eq_true hc55
   refine Qn (Qc (Qa (Qh (sR ?_))))
   refine Yb s52 <| Zx (i64 (e : Int)) ?_
   refine rN (Qb ?_)
   refine Zm (i64 (e : Int)) <| Zm (i64 (e : Int)) <| Qd (Jy.cast (congrArg i64 (show (e : Int) / 4 = ((e / 4 : Nat) : Int) by omega)) (Uo (b := 4) rfl rfl oM oM oM)) <| Qd (Zi (r := 0) Vh rfl Je Uj rfl s3) <| Qd (Zl (r := (e / 4)) oM Y5 Ze rfl rfl oM sD) <| Qd (v := (u32 ([y0q52, y1q52, y2q52, y3q52, y4q52, y5q52, y6q52, y7q52].getD (e / 4) 0))) (Qi (v := u32 ([y0q52, y1q52, y2q52, y3q52, y4q52, y5q52, y6q52, y7q52].getD (e / 4) 0)) Xv rfl rfl m54.h0 (Qpc u32 [y0q52, y1q52, y2q52, y3q52, y4q52, y5q52, y6q52, y7q52] [sv2q52, (u64 (n + BitVec.ofInt 64 ((((((((((128#8 :: List.replicate ((119 - ll.length) % 64) 0#8) ++ ([((n <<< 3) >>> 56).setWidth 8])) ++ ([((n <<< 3) >>> 48).setWidth 8])) ++ ([((n <<< 3) >>> 40).setWidth 8])) ++ ([((n <<< 3) >>> 32).setWidth 8])) ++ ([((n <<< 3) >>> 24).setWidth 8])) ++ ([((n <<< 3) >>> 16).setWidth 8])) ++ ([((n <<< 3) >>> 8).setWidth 8])) ++ ([((n <<< 3) >>> 0).setWidth 8])).length : Int)))] 0 sD)) <| Zm (i64 (e : Int)) <| Qd (W9 (b := 4) rfl rfl oM oM oM) <| Qd (Kv (a := 8) rfl rfl oM oM) <| Qd (Jy.cast (congrArg i64 (show 24 - (8 * ((e : Int) % 4)) = ((24 - 8 * (e % 4) : Nat) : Int) by omega)) (Yf (a := 24) rfl rfl oM oM)) <| Qd (Un rfl rfl oM) <| Qd (F6 ⟨_, Xv⟩ Vs rfl) ?_
   refine Qd (Zl (r := e) oM Xl Yw s2 rfl oM sD) <| Vf (Xx (f := u8) (a := (([y0q52, y1q52, y2q52, y3q52, y4q52, y5q52, y6q52, y7q52].getD (e / 4) 0) >>> ((24 - 8 * (e % 4) : Nat) : Int).toNat).setWidth 8) Qs Yw rfl rfl ((Mem.pick3 [_] Hs2q52 Hs48 [_] _ m54)).h0 sD (.inl (Nat.zero_le _))) ?_
   rintro _ w56 uq56
   have m56 : Mem _ _ ([_, _] ++ (Hs2q52 ++ (Hs48 ++ ([])))) := Mem.upd0 (Mem.pick3 [_] Hs2q52 Hs48 [_] _ m54) uq56
   refine Zp (Qe (Qb ?_))
   refine Qd (Zf (b := 1) s52 rfl oM oM) <| Zm (i64 ((e : Int) + 1)) <| rN ?_
   have m57 := (Mem.pick2 [_, _] Hs2q52 Hs48 _ m56)
   have m58 := (Mem.pick2 Hs48 [_, _] Hs2q52 _ m57)
   have m59 := (Mem.pick3 Hs2q52 Hs48 [_] [_] _ m58)
   exact ⟨⟨e + 1, oM, s0, s2, s3, s4, s5, s30, s35, rfl, (by rw [← E5 (fun q => ([y0q52, y1q52, y2q52, y3q52, y4q52, y5q52, y6q52, y7q52].getD (q / 4) 0 >>> (24 - 8 * (q % 4))).setWidth 8) (0 : BitVec 8) (n := 32) (k := e) oM _ rfl]; exact m59)⟩, Ue rfl z52 oM oM⟩
  ·
   have hc55p := of_decide_eq_false hc55
   obtain rfl : e = 32 := by omega
   have hfl := J9 (fun q => ([y0q52, y1q52, y2q52, y3q52, y4q52, y5q52, y6q52, y7q52].getD (q / 4) 0 >>> (24 - 8 * (q % 4))).setWidth 8) (0 : BitVec 8) 32 32 oM
   refine X4 ?_
   refine Qj (Qj (Xi ?_))
   refine sR <| Qd (Qo Xl rfl Zg s2 ((Mem.pick3 [_] Hs2q52 Hs48 [_] _ m54)).h0 sZ) <| Vf (Qg (f := u8) (l := Y0 (fun q => ([y0q52, y1q52, y2q52, y3q52, y4q52, y5q52, y6q52, y7q52].getD (q / 4) 0 >>> (24 - 8 * (q % 4))).setWidth 8) 0 32 32) Qs Zg s2 rfl sD ((Mem.pick3 [_] Hs2q52 Hs48 [_] _ m54)).h0 sZ rfl) ?_
   rintro _ w60 uq60
   have m60 : Mem _ _ ([_, _] ++ (Hs2q52 ++ (Hs48 ++ ([])))) := Mem.upd0 (Mem.pick3 [_] Hs2q52 Hs48 [_] _ m54) uq60
   refine rN (Zz ?_)
   refine Qp [(agg u8 (Y0 (fun q => ([y0q52, y1q52, y2q52, y3q52, y4q52, y5q52, y6q52, y7q52].getD (q / 4) 0 >>> (24 - 8 * (q % 4))).setWidth 8) 0 32 32))] ⟨⟨_, s2, Xn Xl rfl Zg m60.h0 sZ⟩, trivial⟩ ?_
   exact ⟨congrArg (agg u8) ((show Y0 (fun q => ([y0q52, y1q52, y2q52, y3q52, y4q52, y5q52, y6q52, y7q52].getD (q / 4) 0 >>> (24 - 8 * (q % 4))).setWidth 8) 0 32 32 = Qcs [y0q52, y1q52, y2q52, y3q52, y4q52, y5q52, y6q52, y7q52] from rfl).trans (congrArg Qcs hyq52)), m60.toExt⟩
end Go.Proofs.YtkmiemlpfkfiiaaDoor
