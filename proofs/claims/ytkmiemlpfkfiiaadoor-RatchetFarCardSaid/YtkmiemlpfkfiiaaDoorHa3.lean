/- Contracts: hash, third part. Conditions: none beyond those that each theorem states. -/
import Derived.Test.YtkmiemlpfkfiiaaDoorHa2
namespace Go.Proofs.YtkmiemlpfkfiiaaDoor
open Tryd
set_option linter.unusedVariables false
set_option linter.unusedSimpArgs false
set_option maxHeartbeats 2000000 in
theorem c_dsum (bd : Nat) (x0 x1 x2 x3 x4 x5 x6 x7 : BitVec 32) (sv : Value) (ll : Zj) (n : BitVec 64) (w0 : World)  (hT : Tabs (Yn w0)) (hd : Yn w0 bd = some (.cells #[(u32 x0), (u32 x1), (u32 x2), (u32 x3), (u32 x4), (u32 x5), (u32 x6), (u32 x7), sv, (u64 n)] 154 (0, 0))) (hrl : Rd (Yn w0) u8 sv ll) (hll : ll.length < 64) : Xm prog 87 #[(ptr bd 0)] w0 (fun r w1 => r = (agg u8 (Un [x0, x1, x2, x3, x4, x5, x6, x7] ll n)) ∧ Ext w0 w1) := by
 refine Qy (args := [(ptr bd 0)]) func87 rfl ntmps87 results87 rfl ?_
 have m0 : Mem w0 (Qu w0) [] := Mem.of_world w0
 obtain ⟨Es, fzs, hTs⟩ := hT.start
 obtain ⟨Er, fzr, hTr⟩ := hT.round
 refine sR <| Y5 (Zf m0 Zi) fun w1 b2 m1 => ?_
 refine rN (Qc ?_)
 refine Qa2 (J := fun g wv => ∃ (be : Nat) (svc : Value) (Hsc : List (Nat × Obj)), (Xl u8 5 svc ll Hsc) ∧ g 0 = (ptr bd 0) ∧ g 2 = (ptr b2 0) ∧ g 3 = (ptr be 0) ∧ Mem wv (Qu w0) ([(be, .cells #[(u32 x0), (u32 x1), (u32 x2), (u32 x3), (u32 x4), (u32 x5), (u32 x6), (u32 x7), svc, (u64 n)] 154 (0, 0))] ++ (Hsc ++ ([(b2, .cells (cl u8 (List.replicate 32 0)) 23 (0, 0))])))) ?_ ?_
 ·skip
  refine Ju Xh ?_
  refine Qju 8 14 rfl rfl ?_ ?_
  ·
   refine Hg [(0, false), (1, false), (2, false), (3, false), (4, false), (5, false), (6, false), (7, false), (9, false), (10, false), (11, false), (12, false), (8, true), (13, false), (14, true)] 15 rfl Xh <| Jj rfl (ptr bd 0) <| Xq rfl (Qm rfl) <| Xq rfl (Zd (r := 0) Jf rfl Yy V3 rfl rfl) <| Y6 (v := (agg u32 ([x0, x1, x2, x3, x4, x5, x6, x7]))) rfl (fun _ e' => Qko (c' := (cl u32 ([x0, x1, x2, x3, x4, x5, x6, x7]))) W9 rfl V3 rfl ((m1.ext e').rest _ _ hd) Xh Xh) <| Jj rfl (ptr bd 0) <| Xq rfl (Qm rfl) <| Xq rfl (Zd (r := 8) Jf rfl Yy Mc rfl rfl) <| Y6 (v := sv) rfl (fun _ e' => Ql Zx rfl rfl ((m1.ext e').rest _ _ hd) rfl) <| Jj rfl (ptr bd 0) <| Xq rfl (Qm rfl) <| Xq rfl (Zd (r := 9) Jf rfl Yy Zl rfl rfl) ?_
   refine Y6 (v := (u64 n)) rfl (fun _ e' => Ql Xg rfl rfl ((m1.ext e').rest _ _ hd) rfl) ?_
   refine Ba rfl rfl (fun w2 e2 => ?_)
   have m2 := m1.ext e2
   refine J8.mono (oc34 (Jb rfl) (Rt sv ll _ (Rd.ofRest hrl m2) sD)) ?_
   rintro rq4 w3 ⟨Hsq4, grq4, k_w3⟩
   refine ⟨k_w3.toExt, ?_⟩
   have m3 : Mem _ _ (Hsq4 ++ ([_])) := Mem.new (H := [_]) (H' := Hsq4) m2 k_w3
   refine Xq rfl (Ky (c := #[(u32 x0), (u32 x1), (u32 x2), (u32 x3), (u32 x4), (u32 x5), (u32 x6), (u32 x7), rq4, (u64 n)]) (pl := [(0, 8), (8, 1), (9, 1)]) Qe8 Jf Xh (Yx (i := 0) (v := (agg u32 ([x0, x1, x2, x3, x4, x5, x6, x7]))) (cs := (cl u32 ([x0, x1, x2, x3, x4, x5, x6, x7]))) rfl rfl (Yx (i := 1) (v := rq4) (cs := #[rq4]) rfl (Qdg grq4.one) (Yx (i := 2) (v := (u64 n)) (cs := #[(u64 n)]) rfl rfl V5))) Xh) ?_
   refine Ba rfl rfl (fun w5 e5 => ?_)
   have m5 := m3.ext e5
   refine J8.mono (Yu m5 Qe8) ?_
   rintro _ w6 ⟨b3, rfl, e6, m6⟩
   refine ⟨e6, ?_⟩
   refine Ug m6 fun w7 m7 => Ve (Qdd (cs := #[(u32 x0), (u32 x1), (u32 x2), (u32 x3), (u32 x4), (u32 x5), (u32 x6), (u32 x7), rq4, (u64 n)]) Qe8 rfl rfl Xh (Qig (Zz (Xa _) (Zz (Xa _) (Zz (Xa _) (Zz (Xa _) (Zz (Xa _) (Zz (Xa _) (Zz (Xa _) (Zz (Xa _) (Zz grq4.one (Zz (Zm _) Jm))))))))))) m7.h0 Xh rfl) ?_
   rintro _ w8 uq8
   have m8 : Mem _ _ ([(b3, .cells #[(u32 x0), (u32 x1), (u32 x2), (u32 x3), (u32 x4), (u32 x5), (u32 x6), (u32 x7), rq4, (u64 n)] 154 (0, 0))] ++ (Hsq4 ++ ([_]))) := m7.upd0 uq8
   refine rN ?_
   exact ⟨b3, rq4, Hsq4, grq4, rfl, rfl, rfl, m8⟩
  ·
   refine Hg [(0, false), (1, false), (2, false), (3, false), (4, false), (5, false), (6, false), (7, false), (9, false), (10, false), (11, false), (12, false), (14, true), (8, true), (13, false)] 15 rfl Xh <| Jj rfl (ptr bd 0) <| Xq rfl (Qm rfl) <| Xq rfl (Zd (r := 0) Jf rfl Yy V3 rfl rfl) <| Y6 (v := (agg u32 ([x0, x1, x2, x3, x4, x5, x6, x7]))) rfl (fun _ e' => Qko (c' := (cl u32 ([x0, x1, x2, x3, x4, x5, x6, x7]))) W9 rfl V3 rfl ((m1.ext e').rest _ _ hd) Xh Xh) <| Jj rfl (ptr bd 0) <| Xq rfl (Qm rfl) <| Xq rfl (Zd (r := 8) Jf rfl Yy Mc rfl rfl) <| Y6 (v := sv) rfl (fun _ e' => Ql Zx rfl rfl ((m1.ext e').rest _ _ hd) rfl) <| Jj rfl (ptr bd 0) <| Xq rfl (Qm rfl) <| Xq rfl (Zd (r := 9) Jf rfl Yy Zl rfl rfl) ?_
   refine Y6 (v := (u64 n)) rfl (fun _ e' => Ql Xg rfl rfl ((m1.ext e').rest _ _ hd) rfl) ?_
   refine Ba rfl rfl (fun w9 e9 => ?_)
   have m9 := m1.ext e9
   refine J8.mono (Yu m9 Qe8) ?_
   rintro _ w10 ⟨b3_1, rfl, e10, m10⟩
   refine ⟨e10, ?_⟩
   refine Ba rfl rfl (fun w11 e11 => ?_)
   have m11 := m10.ext e11
   refine J8.mono (oc34 (Jb rfl) (Rt sv ll _ (Rd.ofRest hrl m11) sD)) ?_
   rintro rq13 w12 ⟨Hsq13, grq13, k_w12⟩
   refine ⟨k_w12.toExt, ?_⟩
   have m12 : Mem _ _ (Hsq13 ++ ([_, _])) := Mem.new (H := [_, _]) (H' := Hsq13) m11 k_w12
   refine Xq rfl (Ky (c := #[(u32 x0), (u32 x1), (u32 x2), (u32 x3), (u32 x4), (u32 x5), (u32 x6), (u32 x7), rq13, (u64 n)]) (pl := [(0, 8), (8, 1), (9, 1)]) Qe8 Jf Xh (Yx (i := 0) (v := (agg u32 ([x0, x1, x2, x3, x4, x5, x6, x7]))) (cs := (cl u32 ([x0, x1, x2, x3, x4, x5, x6, x7]))) rfl rfl (Yx (i := 1) (v := rq13) (cs := #[rq13]) rfl (Qdg grq13.one) (Yx (i := 2) (v := (u64 n)) (cs := #[(u64 n)]) rfl rfl V5))) Xh) <| Ug m12 fun w14 m14 => Ve (Qdd (cs := #[(u32 x0), (u32 x1), (u32 x2), (u32 x3), (u32 x4), (u32 x5), (u32 x6), (u32 x7), rq13, (u64 n)]) Qe8 rfl rfl Xh (Qig (Zz (Xa _) (Zz (Xa _) (Zz (Xa _) (Zz (Xa _) (Zz (Xa _) (Zz (Xa _) (Zz (Xa _) (Zz (Xa _) (Zz grq13.one (Zz (Zm _) Jm))))))))))) ((Mem.pick Hsq13 [_] _ m14)).h0 Xh rfl) ?_
   rintro _ w15 uq15
   have m15 : Mem _ _ ([(b3_1, .cells #[(u32 x0), (u32 x1), (u32 x2), (u32 x3), (u32 x4), (u32 x5), (u32 x6), (u32 x7), rq13, (u64 n)] 154 (0, 0))] ++ (Hsq13 ++ ([_]))) := Mem.upd0 (Mem.pick Hsq13 [_] _ m14) uq15
   refine rN ?_
   exact ⟨b3_1, rq13, Hsq13, grq13, rfl, rfl, rfl, m15⟩
 rintro fr16 w17 ⟨be, svc, Hsc, gc, s0, s2, s3, m17⟩
 refine sR <| Y5 (Zr u8 [128#8] Q9 m17 Zx Yw rfl rfl rfl) fun w18 b21 m18 => Zv (Kq b21 0 1 1) ?_
 refine rN (Qc (Qj ?_))
 refine Jq (fun g wv => ∃ (k : Nat) (pl : Zj) (sp : Value) (Hp : List (Nat × Obj)), (k ≤ (119 - ll.length) % 64) ∧ (pl = 128#8 :: List.replicate k 0#8) ∧ (Xl u8 5 sp pl Hp) ∧ g 0 = (ptr bd 0) ∧ g 2 = (ptr b2 0) ∧ g 3 = (ptr be 0) ∧ g 4 = sp ∧ Mem wv (Qu w0) (Hp ++ ([(be, .cells #[(u32 x0), (u32 x1), (u32 x2), (u32 x3), (u32 x4), (u32 x5), (u32 x6), (u32 x7), svc, (u64 n)] 154 (0, 0))] ++ (Hsc ++ ([(b2, .cells (cl u8 (List.replicate 32 0)) 23 (0, 0))]))))) (fun g wv => (119 - ll.length) % 64 + 2 - sllen (g 4)) ?_ ?_
 ·exact ⟨0, [128#8], (Kq b21 0 1 1), [(b21, .cells (cl u8 ([128#8])) 5 (0, 0))], oM, rfl, (Xl.of u8 5 b21 [128#8]), s0, s2, s3, rfl, m18⟩
 rintro fr19 w20 ⟨k, pl, sp, Hp, hk, hpl, gp, s0, s2, s3, s4, m20⟩
 have z4 := s4
 have hpn : pl.length = k + 1 := by rw [hpl]; simp
 refine Qc (sR ?_)
 refine Qd (Zd (r := 8) Jf rfl Yy Mc rfl s3) <| Qd (v := svc) (Ql Zx rfl rfl ((Mem.pick Hp [_] _ m20)).h0 rfl) <| Qd (Yg (gc.rd (Mem.pick2 Hp [_] Hsc _ m20)) Zx rfl) <| Yk s4 <| Qd (Yg (gp.rd m20) Zx rfl) <| Qd (Z9 rfl rfl oM oM) <| Qd (Z9 (b := 8) rfl rfl oM oM) <| Qd (J4 (b := 64) rfl rfl oM oM oM) <| Qd (Je (b := 0) rfl rfl) <| rN ?_
 refine Xb rfl (fun hc21 => ?_) (fun hc21 => ?_)
 ·
  have hc21p := bne_iff_ne.1 hc21
  refine Qo (Qa (Df (Qb ?_)))
  refine Yk s4 <| Y5 (Zr u8 [0#8] Q9 m20 Zx Yw rfl rfl rfl) fun w22 b32 m22 => G5 (Yl (f := u8) (Hs := Hp) (H := [_, _] ++ (Hsc ++ ([_]))) (Mem.pick [_] Hp _ m22) gp rfl rfl (Rd.mkA m22.h0) Zx Zx Yw rfl Q9 sD sD) ?_
  rintro sv23 w23 ⟨Hs23, m23, g23⟩
  replace g23 : Xl u8 5 sv23 (pl ++ ([0#8])) Hs23 := g23
  refine Zv sv23 ?_
  refine Zo (Qh (Qa ?_))
  have m24 := Mem.drop [_] _ (Mem.pick Hs23 [_] _ m23)
  exact ⟨⟨k + 1, pl ++ ([0#8]), sv23, Hs23, oM, (by rw [hpl, List.replicate_succ']; rfl), g23, s0, s2, s3, rfl, m24⟩, (by show (119 - ll.length) % 64 + 2 - sllen sv23 < (119 - ll.length) % 64 + 2 - sllen _; rw [z4, gp.sllen, Xl.sllen g23]; simp [hpn]; omega)⟩
 ·
  have hc21p := Xz hc21
  have hpn : pl.length = k + 1 := by rw [hpl]; simp
  obtain rfl : k = (119 - ll.length) % 64 := by omega
  subst hpl
  refine Yc ?_
  refine Qr (Qr (Xp ?_))
  refine Qc (sR ?_)
  refine Zv (i64 7) ?_
  refine rN (Qj ?_)
  refine Wu 9 ?_
  refine Zh (Qc (sR ?_))
  refine Zb (i64 7) <| Qd (D6 7 0) <| rN <| Qx rfl Yh ?_
  refine Qo (Qa (Qc (Qj (Qb ?_))))
  refine Yk s4 <| Yk s0 <| Qd (Qm rfl) <| Qd (Zd (r := 9) Jf rfl Yy Zl rfl rfl) <| Qd (v := (u64 n)) (Ql Xg rfl rfl (m20.rest _ _ hd) rfl) <| Qd (Gv (b := 3) rfl rfl oM) <| Zb (i64 7) <| Qd (v := (i64 56)) (Vy 8 7) <| Qd (Xn (b := 56) rfl rfl oM) <| Qd (Yd ⟨_, Xg⟩ Uu rfl) <| Y5 (Zr u8 [((n <<< 3) >>> 56).setWidth 8] Q9 m20 Zx Yw rfl rfl rfl) fun w25 b48 m25 => G5 (Yl (f := u8) (Hs := Hp) (H := [_, _] ++ (Hsc ++ ([_]))) (Mem.pick [_] Hp _ m25) gp rfl rfl (Rd.mkA m25.h0) Zx Zx Yw rfl Q9 sD sD) ?_
  rintro sv26 w26 ⟨Hs26, m26, g26⟩
  replace g26 : Xl u8 5 sv26 ((128#8 :: List.replicate ((119 - ll.length) % 64) 0#8) ++ ([((n <<< 3) >>> 56).setWidth 8])) Hs26 := g26
  refine Zv sv26 ?_
  refine Zo (Qh ?_)
  have m27 := Mem.drop [_] _ (Mem.pick Hs26 [_] _ m26)
  refine Qb <| Zb (i64 7) <| Qd (v := (i64 6)) (A8 7 1) <| Zv (i64 6) ?_
  refine rN (Zh (Qc (sR ?_)))
  refine Zb (i64 6) <| Qd (D6 6 0) <| rN <| Qx rfl Yh ?_
  refine Qo (Qa (Qc (Qj (Qb ?_))))
  refine Zb sv26 <| Yk s0 <| Qd (Qm rfl) <| Qd (Zd (r := 9) Jf rfl Yy Zl rfl rfl) <| Qd (v := (u64 n)) (Ql Xg rfl rfl (m27.rest _ _ hd) rfl) <| Qd (Gv (b := 3) rfl rfl oM) <| Zb (i64 6) <| Qd (v := (i64 48)) (Vy 8 6) <| Qd (Xn (b := 48) rfl rfl oM) <| Qd (Yd ⟨_, Xg⟩ Uu rfl) <| Y5 (Zr u8 [((n <<< 3) >>> 48).setWidth 8] Q9 m27 Zx Yw rfl rfl rfl) fun w28 b48_1 m28 => G5 (Yl (f := u8) (Hs := Hs26) (H := [_, _] ++ (Hsc ++ ([_]))) (Mem.pick [_] Hs26 _ m28) g26 rfl rfl (Rd.mkA m28.h0) Zx Zx Yw rfl Q9 sD sD) ?_
  rintro sv29 w29 ⟨Hs29, m29, g29⟩
  replace g29 : Xl u8 5 sv29 (((128#8 :: List.replicate ((119 - ll.length) % 64) 0#8) ++ ([((n <<< 3) >>> 56).setWidth 8])) ++ ([((n <<< 3) >>> 48).setWidth 8])) Hs29 := g29
  refine Zv sv29 ?_
  refine Zo (Qh ?_)
  have m30 := Mem.drop [_] _ (Mem.pick Hs29 [_] _ m29)
  refine Qb <| Zb (i64 6) <| Qd (v := (i64 5)) (A8 6 1) <| Zv (i64 5) ?_
  refine rN (Zh (Qc (sR ?_)))
  refine Zb (i64 5) <| Qd (D6 5 0) <| rN <| Qx rfl Yh ?_
  refine Qo (Qa (Qc (Qj (Qb ?_))))
  refine Zb sv29 <| Yk s0 <| Qd (Qm rfl) <| Qd (Zd (r := 9) Jf rfl Yy Zl rfl rfl) <| Qd (v := (u64 n)) (Ql Xg rfl rfl (m30.rest _ _ hd) rfl) <| Qd (Gv (b := 3) rfl rfl oM) <| Zb (i64 5) <| Qd (v := (i64 40)) (Vy 8 5) <| Qd (Xn (b := 40) rfl rfl oM) <| Qd (Yd ⟨_, Xg⟩ Uu rfl) <| Y5 (Zr u8 [((n <<< 3) >>> 40).setWidth 8] Q9 m30 Zx Yw rfl rfl rfl) fun w31 b48_2 m31 => G5 (Yl (f := u8) (Hs := Hs29) (H := [_, _] ++ (Hsc ++ ([_]))) (Mem.pick [_] Hs29 _ m31) g29 rfl rfl (Rd.mkA m31.h0) Zx Zx Yw rfl Q9 sD sD) ?_
  rintro sv32 w32 ⟨Hs32, m32, g32⟩
  replace g32 : Xl u8 5 sv32 ((((128#8 :: List.replicate ((119 - ll.length) % 64) 0#8) ++ ([((n <<< 3) >>> 56).setWidth 8])) ++ ([((n <<< 3) >>> 48).setWidth 8])) ++ ([((n <<< 3) >>> 40).setWidth 8])) Hs32 := g32
  refine Zv sv32 ?_
  refine Zo (Qh ?_)
  have m33 := Mem.drop [_] _ (Mem.pick Hs32 [_] _ m32)
  refine Qb <| Zb (i64 5) <| Qd (v := (i64 4)) (A8 5 1) <| Zv (i64 4) ?_
  refine rN (Zh (Qc (sR ?_)))
  refine Zb (i64 4) <| Qd (D6 4 0) <| rN <| Qx rfl Yh ?_
  refine Qo (Qa (Qc (Qj (Qb ?_))))
  refine Zb sv32 <| Yk s0 <| Qd (Qm rfl) <| Qd (Zd (r := 9) Jf rfl Yy Zl rfl rfl) <| Qd (v := (u64 n)) (Ql Xg rfl rfl (m33.rest _ _ hd) rfl) <| Qd (Gv (b := 3) rfl rfl oM) <| Zb (i64 4) <| Qd (v := (i64 32)) (Vy 8 4) <| Qd (Xn (b := 32) rfl rfl oM) <| Qd (Yd ⟨_, Xg⟩ Uu rfl) <| Y5 (Zr u8 [((n <<< 3) >>> 32).setWidth 8] Q9 m33 Zx Yw rfl rfl rfl) fun w34 b48_3 m34 => G5 (Yl (f := u8) (Hs := Hs32) (H := [_, _] ++ (Hsc ++ ([_]))) (Mem.pick [_] Hs32 _ m34) g32 rfl rfl (Rd.mkA m34.h0) Zx Zx Yw rfl Q9 sD sD) ?_
  rintro sv35 w35 ⟨Hs35, m35, g35⟩
  replace g35 : Xl u8 5 sv35 (((((128#8 :: List.replicate ((119 - ll.length) % 64) 0#8) ++ ([((n <<< 3) >>> 56).setWidth 8])) ++ ([((n <<< 3) >>> 48).setWidth 8])) ++ ([((n <<< 3) >>> 40).setWidth 8])) ++ ([((n <<< 3) >>> 32).setWidth 8])) Hs35 := g35
  refine Zv sv35 ?_
  refine Zo (Qh ?_)
  have m36 := Mem.drop [_] _ (Mem.pick Hs35 [_] _ m35)
  refine Qb <| Zb (i64 4) <| Qd (v := (i64 3)) (A8 4 1) <| Zv (i64 3) <| rN ?_
  refine CR.abs (fun g => g 0 = (ptr bd 0) ∧ g 2 = (ptr b2 0) ∧ g 3 = (ptr be 0) ∧ g 4 = sv35 ∧ g 5 = (i64 3) ∧ g 30 = (bl (((((ll.length : Int) + ((128#8 :: List.replicate ((119 - ll.length) % 64) 0#8).length : Int)) + 8) % 64) != 0)) ∧ g 35 = (bl true) ∧ True) ⟨s0, s2, s3, rfl, rfl, rfl, rfl, trivial⟩ ?_
  rintro fr37 ⟨s0, s2, s3, s4, s5, s30, s35, _⟩
  refine Zh (Qc (sR ?_))
  refine Yk s5 <| Qd (D6 3 0) <| rN <| Qx rfl Yh ?_
  refine Qo (Qa (Qc (Qj (Qb ?_))))
  refine Yk s4 <| Yk s0 <| Qd (Qm rfl) <| Qd (Zd (r := 9) Jf rfl Yy Zl rfl rfl) <| Qd (v := (u64 n)) (Ql Xg rfl rfl (m36.rest _ _ hd) rfl) <| Qd (Gv (b := 3) rfl rfl oM) <| Yk s5 <| Qd (v := (i64 24)) (Vy 8 3) <| Qd (Xn (b := 24) rfl rfl oM) <| Qd (Yd ⟨_, Xg⟩ Uu rfl) <| Y5 (Zr u8 [((n <<< 3) >>> 24).setWidth 8] Q9 m36 Zx Yw rfl rfl rfl) fun w38 b48_4 m38 => G5 (Yl (f := u8) (Hs := Hs35) (H := [_, _] ++ (Hsc ++ ([_]))) (Mem.pick [_] Hs35 _ m38) g35 rfl rfl (Rd.mkA m38.h0) Zx Zx Yw rfl Q9 sD sD) ?_
  rintro sv39 w39 ⟨Hs39, m39, g39⟩
  replace g39 : Xl u8 5 sv39 ((((((128#8 :: List.replicate ((119 - ll.length) % 64) 0#8) ++ ([((n <<< 3) >>> 56).setWidth 8])) ++ ([((n <<< 3) >>> 48).setWidth 8])) ++ ([((n <<< 3) >>> 40).setWidth 8])) ++ ([((n <<< 3) >>> 32).setWidth 8])) ++ ([((n <<< 3) >>> 24).setWidth 8])) Hs39 := g39
  refine Zv sv39 ?_
  refine Zo (Qh ?_)
  have m40 := Mem.drop [_] _ (Mem.pick Hs39 [_] _ m39)
  refine Qb <| Yk s5 <| Qd (v := (i64 2)) (A8 3 1) <| Zv (i64 2) ?_
  refine rN (Zh (Qc (sR ?_)))
  refine Zb (i64 2) <| Qd (D6 2 0) <| rN <| Qx rfl Yh ?_
  refine Qo (Qa (Qc (Qj (Qb ?_))))
  refine Zb sv39 <| Yk s0 <| Qd (Qm rfl) <| Qd (Zd (r := 9) Jf rfl Yy Zl rfl rfl) <| Qd (v := (u64 n)) (Ql Xg rfl rfl (m40.rest _ _ hd) rfl) <| Qd (Gv (b := 3) rfl rfl oM) <| Zb (i64 2) <| Qd (v := (i64 16)) (Vy 8 2) <| Qd (Xn (b := 16) rfl rfl oM) <| Qd (Yd ⟨_, Xg⟩ Uu rfl) <| Y5 (Zr u8 [((n <<< 3) >>> 16).setWidth 8] Q9 m40 Zx Yw rfl rfl rfl) fun w41 b48_5 m41 => G5 (Yl (f := u8) (Hs := Hs39) (H := [_, _] ++ (Hsc ++ ([_]))) (Mem.pick [_] Hs39 _ m41) g39 rfl rfl (Rd.mkA m41.h0) Zx Zx Yw rfl Q9 sD sD) ?_
  rintro sv42 w42 ⟨Hs42, m42, g42⟩
  replace g42 : Xl u8 5 sv42 (((((((128#8 :: List.replicate ((119 - ll.length) % 64) 0#8) ++ ([((n <<< 3) >>> 56).setWidth 8])) ++ ([((n <<< 3) >>> 48).setWidth 8])) ++ ([((n <<< 3) >>> 40).setWidth 8])) ++ ([((n <<< 3) >>> 32).setWidth 8])) ++ ([((n <<< 3) >>> 24).setWidth 8])) ++ ([((n <<< 3) >>> 16).setWidth 8])) Hs42 := g42
  refine Zv sv42 ?_
  refine Zo (Qh ?_)
  have m43 := Mem.drop [_] _ (Mem.pick Hs42 [_] _ m42)
  refine Qb <| Zb (i64 2) <| Qd (v := (i64 1)) (A8 2 1) <| Zv (i64 1) ?_
  refine rN (Zh (Qc (sR ?_)))
  refine Zb (i64 1) <| Qd (D6 1 0) <| rN <| Qx rfl Yh ?_
  refine Qo (Qa (Qc (Qj (Qb ?_))))
  refine Zb sv42 <| Yk s0 <| Qd (Qm rfl) <| Qd (Zd (r := 9) Jf rfl Yy Zl rfl rfl) <| Qd (v := (u64 n)) (Ql Xg rfl rfl (m43.rest _ _ hd) rfl) <| Qd (Gv (b := 3) rfl rfl oM) <| Zb (i64 1) <| Qd (v := (i64 8)) (Vy 8 1) <| Qd (Xn (b := 8) rfl rfl oM) <| Qd (Yd ⟨_, Xg⟩ Uu rfl) <| Y5 (Zr u8 [((n <<< 3) >>> 8).setWidth 8] Q9 m43 Zx Yw rfl rfl rfl) fun w44 b48_6 m44 => G5 (Yl (f := u8) (Hs := Hs42) (H := [_, _] ++ (Hsc ++ ([_]))) (Mem.pick [_] Hs42 _ m44) g42 rfl rfl (Rd.mkA m44.h0) Zx Zx Yw rfl Q9 sD sD) ?_
  rintro sv45 w45 ⟨Hs45, m45, g45⟩
  replace g45 : Xl u8 5 sv45 ((((((((128#8 :: List.replicate ((119 - ll.length) % 64) 0#8) ++ ([((n <<< 3) >>> 56).setWidth 8])) ++ ([((n <<< 3) >>> 48).setWidth 8])) ++ ([((n <<< 3) >>> 40).setWidth 8])) ++ ([((n <<< 3) >>> 32).setWidth 8])) ++ ([((n <<< 3) >>> 24).setWidth 8])) ++ ([((n <<< 3) >>> 16).setWidth 8])) ++ ([((n <<< 3) >>> 8).setWidth 8])) Hs45 := g45
  refine Zv sv45 ?_
  refine Zo (Qh ?_)
  have m46 := Mem.drop [_] _ (Mem.pick Hs45 [_] _ m45)
  refine Qb <| Zb (i64 1) <| Qd (v := (i64 0)) (A8 1 1) <| Zv (i64 0) ?_
  refine rN (Zh (Qc (sR ?_)))
  refine Zb (i64 0) <| Qd (D6 0 0) <| rN <| Qx rfl Yh ?_
  refine Qo (Qa (Qc (Qj (Qb ?_))))
  refine Zb sv45 <| Yk s0 <| Qd (Qm rfl) <| Qd (Zd (r := 9) Jf rfl Yy Zl rfl rfl) <| Qd (v := (u64 n)) (Ql Xg rfl rfl (m46.rest _ _ hd) rfl) <| Qd (Gv (b := 3) rfl rfl oM) <| Zb (i64 0) <| Qd (v := (i64 0)) (Vy 8 0) <| Qd (Xn (b := 0) rfl rfl oM) <| Qd (Yd ⟨_, Xg⟩ Uu rfl) <| Y5 (Zr u8 [((n <<< 3) >>> 0).setWidth 8] Q9 m46 Zx Yw rfl rfl rfl) fun w47 b48_7 m47 => G5 (Yl (f := u8) (Hs := Hs45) (H := [_, _] ++ (Hsc ++ ([_]))) (Mem.pick [_] Hs45 _ m47) g45 rfl rfl (Rd.mkA m47.h0) Zx Zx Yw rfl Q9 sD sD) ?_
  rintro sv48 w48 ⟨Hs48, m48, g48⟩
  replace g48 : Xl u8 5 sv48 (((((((((128#8 :: List.replicate ((119 - ll.length) % 64) 0#8) ++ ([((n <<< 3) >>> 56).setWidth 8])) ++ ([((n <<< 3) >>> 48).setWidth 8])) ++ ([((n <<< 3) >>> 40).setWidth 8])) ++ ([((n <<< 3) >>> 32).setWidth 8])) ++ ([((n <<< 3) >>> 24).setWidth 8])) ++ ([((n <<< 3) >>> 16).setWidth 8])) ++ ([((n <<< 3) >>> 8).setWidth 8])) ++ ([((n <<< 3) >>> 0).setWidth 8])) Hs48 := g48
  refine Zv sv48 ?_
  refine Zo (Qh ?_)
  have m49 := Mem.drop [_] _ (Mem.pick Hs48 [_] _ m48)
  refine Qb <| Zb (i64 0) <| Qd (v := (i64 (-1))) (A8 0 1) <| Zv (i64 (-1)) ?_
  refine rN (Zh (Qc (sR ?_)))
  refine Zb (i64 (-1)) <| Qd (D6 (-1) 0) <| rN <| Ym rfl Yh <| Yc ?_
  refine Qr (Qr (Xp ?_))
  refine Qc ?_
  have hpad : ((((((((128#8 :: List.replicate ((119 - ll.length) % 64) 0#8) ++ ([((n <<< 3) >>> 56).setWidth 8])) ++ ([((n <<< 3) >>> 48).setWidth 8])) ++ ([((n <<< 3) >>> 40).setWidth 8])) ++ ([((n <<< 3) >>> 32).setWidth 8])) ++ ([((n <<< 3) >>> 24).setWidth 8])) ++ ([((n <<< 3) >>> 16).setWidth 8])) ++ ([((n <<< 3) >>> 8).setWidth 8])) ++ ([((n <<< 3) >>> 0).setWidth 8]) = padP n ll.length := by simp [padP, lenB]
  refine Qb <| Zb sv48 ?_
  have hF51 : Mem w48 (Qu w0) (([(be, .cells #[(u32 x0), (u32 x1), (u32 x2), (u32 x3), (u32 x4), (u32 x5), (u32 x6), (u32 x7), svc, (u64 n)] 154 (0, 0))] ++ (Hsc ++ ([]))) ++ (Hs48 ++ ([(b2, .cells (cl u8 (List.replicate 32 0)) 23 (0, 0))]))) := by
   have hT := (Mem.pick2 Hsc Hs48 [_] _ (Mem.pick2 Hs48 [_] Hsc _ m49))
   try simp only [List.append_assoc, List.cons_append, List.nil_append, List.append_nil] at hT ⊢
   exact hT
  refine G5 (oc85 (X3 s3 rfl) (Qew be x0 x1 x2 x3 x4 x5 x6 x7 svc ll Hsc n sv48 (((((((((128#8 :: List.replicate ((119 - ll.length) % 64) 0#8) ++ ([((n <<< 3) >>> 56).setWidth 8])) ++ ([((n <<< 3) >>> 48).setWidth 8])) ++ ([((n <<< 3) >>> 40).setWidth 8])) ++ ([((n <<< 3) >>> 32).setWidth 8])) ++ ([((n <<< 3) >>> 24).setWidth 8])) ++ ([((n <<< 3) >>> 16).setWidth 8])) ++ ([((n <<< 3) >>> 8).setWidth 8])) ++ ([((n <<< 3) >>> 0).setWidth 8])) _ _ (Mem.give hF51) (hT.mono fun b o e => Mem.addRest hF51 e) (g48.rdAdd hF51 (fun p hp => (List.mem_append_left _ hp))) gc sD)) ?_
  rintro _ w50 ⟨y0q52, y1q52, y2q52, y3q52, y4q52, y5q52, y6q52, y7q52, sv2q52, Hs2q52, hyq52, gl2q52, k_w50⟩
  have m50 : Mem w50 (Qu w0) ([(be, .cells #[(u32 y0q52), (u32 y1q52), (u32 y2q52), (u32 y3q52), (u32 y4q52), (u32 y5q52), (u32 y6q52), (u32 y7q52), sv2q52, (u64 (n + BitVec.ofInt 64 ((((((((((128#8 :: List.replicate ((119 - ll.length) % 64) 0#8) ++ ([((n <<< 3) >>> 56).setWidth 8])) ++ ([((n <<< 3) >>> 48).setWidth 8])) ++ ([((n <<< 3) >>> 40).setWidth 8])) ++ ([((n <<< 3) >>> 32).setWidth 8])) ++ ([((n <<< 3) >>> 24).setWidth 8])) ++ ([((n <<< 3) >>> 16).setWidth 8])) ++ ([((n <<< 3) >>> 8).setWidth 8])) ++ ([((n <<< 3) >>> 0).setWidth 8])).length : Int)))] 154 (0, 0))] ++ (Hs2q52 ++ (Hs48 ++ ([(b2, .cells (cl u8 (List.replicate 32 0)) 23 (0, 0))])))) := ymA (Mem.back hF51 k_w50)
  rw [hpad] at hyq52
  refine rN (Qc (sR ?_))
  refine Zb (i64 0) ?_
  refine rN (Qj ?_)
  refine Jq (fun g wv => ∃ (e : Nat), (e ≤ 32) ∧ g 0 = (ptr bd 0) ∧ g 2 = (ptr b2 0) ∧ g 3 = (ptr be 0) ∧ g 4 = sv48 ∧ g 5 = (i64 (-1)) ∧ g 30 = (bl (((((ll.length : Int) + ((128#8 :: List.replicate ((119 - ll.length) % 64) 0#8).length : Int)) + 8) % 64) != 0)) ∧ g 35 = (bl false) ∧ g 52 = (i64 (e : Int)) ∧ Mem wv (Qu w0) ([(be, .cells #[(u32 y0q52), (u32 y1q52), (u32 y2q52), (u32 y3q52), (u32 y4q52), (u32 y5q52), (u32 y6q52), (u32 y7q52), sv2q52, (u64 (n + BitVec.ofInt 64 ((((((((((128#8 :: List.replicate ((119 - ll.length) % 64) 0#8) ++ ([((n <<< 3) >>> 56).setWidth 8])) ++ ([((n <<< 3) >>> 48).setWidth 8])) ++ ([((n <<< 3) >>> 40).setWidth 8])) ++ ([((n <<< 3) >>> 32).setWidth 8])) ++ ([((n <<< 3) >>> 24).setWidth 8])) ++ ([((n <<< 3) >>> 16).setWidth 8])) ++ ([((n <<< 3) >>> 8).setWidth 8])) ++ ([((n <<< 3) >>> 0).setWidth 8])).length : Int)))] 154 (0, 0))] ++ (Hs2q52 ++ (Hs48 ++ ([(b2, .cells (cl u8 (Wy (fun q => ([y0q52, y1q52, y2q52, y3q52, y4q52, y5q52, y6q52, y7q52].getD (q / 4) 0 >>> (24 - 8 * (q % 4))).setWidth 8) 0 32 e)) 23 (0, 0))]))))) (fun g wv => (32 - RowKit.intOf (g 52)).toNat) ?_ ?_
  ·exact ⟨0, oM, s0, s2, s3, rfl, rfl, s30, rfl, rfl, (by rw [Nc]; exact m50)⟩
  rintro fr53 w54 ⟨e, he, s0, s2, s3, s4, s5, s30, s35, s52, m54⟩
  have z52 := s52
  have hfl : (Wy (fun q => ([y0q52, y1q52, y2q52, y3q52, y4q52, y5q52, y6q52, y7q52].getD (q / 4) 0 >>> (24 - 8 * (q % 4))).setWidth 8) (0 : BitVec 8) 32 e).length = 32 := Bl _ _ _ _ he
  refine sR <| Qd (Xy (b := 32) s52 rfl) ?_
  refine rN (Qc ?_)
  refine Xb rfl (fun hc55 => ?_) (fun hc55 => ?_)
  ·
   have hc55p := of_decide_eq_true hc55
   refine Qo (Qa (Qc (Qj (sR ?_))))
   refine Yk s52 <| Zv (i64 (e : Int)) ?_
   refine rN (Qb ?_)
   refine Zb (i64 (e : Int)) <| Zb (i64 (e : Int)) <| Qd (Yt.cast (congrArg i64 (show (e : Int) / 4 = ((e / 4 : Nat) : Int) by omega)) (Gw (b := 4) rfl rfl oM oM oM)) <| Qd (Zd (r := 0) Jf rfl Yy V3 rfl s3) <| Qd (Xc (r := (e / 4)) oM W9 Zn rfl rfl oM sD) <| Qd (v := (u32 ([y0q52, y1q52, y2q52, y3q52, y4q52, y5q52, y6q52, y7q52].getD (e / 4) 0))) (Ql (v := u32 ([y0q52, y1q52, y2q52, y3q52, y4q52, y5q52, y6q52, y7q52].getD (e / 4) 0)) Yi rfl rfl m54.h0 (Qlf u32 [y0q52, y1q52, y2q52, y3q52, y4q52, y5q52, y6q52, y7q52] [sv2q52, (u64 (n + BitVec.ofInt 64 ((((((((((128#8 :: List.replicate ((119 - ll.length) % 64) 0#8) ++ ([((n <<< 3) >>> 56).setWidth 8])) ++ ([((n <<< 3) >>> 48).setWidth 8])) ++ ([((n <<< 3) >>> 40).setWidth 8])) ++ ([((n <<< 3) >>> 32).setWidth 8])) ++ ([((n <<< 3) >>> 24).setWidth 8])) ++ ([((n <<< 3) >>> 16).setWidth 8])) ++ ([((n <<< 3) >>> 8).setWidth 8])) ++ ([((n <<< 3) >>> 0).setWidth 8])).length : Int)))] 0 sD)) <| Zb (i64 (e : Int)) <| Qd (J4 (b := 4) rfl rfl oM oM oM) <| Qd (Cj (a := 8) rfl rfl oM oM) <| Qd (Yt.cast (congrArg i64 (show 24 - (8 * ((e : Int) % 4)) = ((24 - 8 * (e % 4) : Nat) : Int) by omega)) (Kw (a := 24) rfl rfl oM oM)) <| Qd (Lp rfl rfl oM) <| Qd (Qag ⟨_, Yi⟩ Uu rfl) ?_
   refine Qd (Xc (r := e) oM Xf Yw s2 rfl oM sD) <| Ve (X9 (f := u8) (a := (([y0q52, y1q52, y2q52, y3q52, y4q52, y5q52, y6q52, y7q52].getD (e / 4) 0) >>> ((24 - 8 * (e % 4) : Nat) : Int).toNat).setWidth 8) Q9 Yw rfl rfl ((Mem.pick3 [_] Hs2q52 Hs48 [_] _ m54)).h0 sD (.inl (Nat.zero_le _))) ?_
   rintro _ w56 uq56
   have m56 : Mem _ _ ([_, _] ++ (Hs2q52 ++ (Hs48 ++ ([])))) := Mem.upd0 (Mem.pick3 [_] Hs2q52 Hs48 [_] _ m54) uq56
   refine Zo (Qh (Qb ?_))
   refine Qd (Z9 (b := 1) s52 rfl oM oM) <| Zb (i64 ((e : Int) + 1)) <| rN ?_
   have m57 := (Mem.pick2 [_, _] Hs2q52 Hs48 _ m56)
   have m58 := (Mem.pick2 Hs48 [_, _] Hs2q52 _ m57)
   have m59 := (Mem.pick3 Hs2q52 Hs48 [_] [_] _ m58)
   exact ⟨⟨e + 1, oM, s0, s2, s3, s4, s5, s30, s35, rfl, (by rw [← Ri (fun q => ([y0q52, y1q52, y2q52, y3q52, y4q52, y5q52, y6q52, y7q52].getD (q / 4) 0 >>> (24 - 8 * (q % 4))).setWidth 8) (0 : BitVec 8) (n := 32) (k := e) oM _ rfl]; exact m59)⟩, Am rfl z52 oM oM⟩
  ·
   have hc55p := of_decide_eq_false hc55
   obtain rfl : e = 32 := by omega
   have hfl := Bl (fun q => ([y0q52, y1q52, y2q52, y3q52, y4q52, y5q52, y6q52, y7q52].getD (q / 4) 0 >>> (24 - 8 * (q % 4))).setWidth 8) (0 : BitVec 8) 32 32 oM
   refine Yc ?_
   refine Qr (Qr (Xp ?_))
   refine sR <| Qd (Qw Xf rfl Zi s2 ((Mem.pick3 [_] Hs2q52 Hs48 [_] _ m54)).h0 sZ) <| Ve (Qq (f := u8) (l := Wy (fun q => ([y0q52, y1q52, y2q52, y3q52, y4q52, y5q52, y6q52, y7q52].getD (q / 4) 0 >>> (24 - 8 * (q % 4))).setWidth 8) 0 32 32) Q9 Zi s2 rfl sD ((Mem.pick3 [_] Hs2q52 Hs48 [_] _ m54)).h0 sZ rfl) ?_
   rintro _ w60 uq60
   have m60 : Mem _ _ ([_, _] ++ (Hs2q52 ++ (Hs48 ++ ([])))) := Mem.upd0 (Mem.pick3 [_] Hs2q52 Hs48 [_] _ m54) uq60
   refine rN (Zy ?_)
   refine Qs [(agg u8 (Wy (fun q => ([y0q52, y1q52, y2q52, y3q52, y4q52, y5q52, y6q52, y7q52].getD (q / 4) 0 >>> (24 - 8 * (q % 4))).setWidth 8) 0 32 32))] ⟨⟨_, s2, Xi Xf rfl Zi m60.h0 sZ⟩, trivial⟩ ?_
   exact ⟨congrArg (agg u8) ((show Wy (fun q => ([y0q52, y1q52, y2q52, y3q52, y4q52, y5q52, y6q52, y7q52].getD (q / 4) 0 >>> (24 - 8 * (q % 4))).setWidth 8) 0 32 32 = Qcy [y0q52, y1q52, y2q52, y3q52, y4q52, y5q52, y6q52, y7q52] from rfl).trans (congrArg Qcy hyq52)), m60.toExt⟩
end Go.Proofs.YtkmiemlpfkfiiaaDoor
