/- Contracts: hash, third part. Conditions: none beyond those that each theorem states. -/
import Derived.Test.YtkmiemlpfkfiiaaDoorHa2
namespace Go.Proofs.YtkmiemlpfkfiiaaDoor
set_option linter.unusedVariables false
set_option linter.unusedSimpArgs false
set_option maxHeartbeats 2000000 in
theorem c_dsum (bd : Nat) (x0 x1 x2 x3 x4 x5 x6 x7 : BitVec 32) (sv : Value) (ll : List (BitVec 8)) (n : BitVec 64) (w0 : World)  (hT : Tabs (Yq w0)) (hd : Yq w0 bd = some (.cells #[(u32 x0), (u32 x1), (u32 x2), (u32 x3), (u32 x4), (u32 x5), (u32 x6), (u32 x7), sv, (u64 n)] 154 (0, 0))) (hrl : Rd (Yq w0) u8 sv ll) (hll : ll.length < 64) : Xz Tryd.prog 87 #[(ptr bd 0)] w0 (fun r w1 => r = (agg u8 (Uu [x0, x1, x2, x3, x4, x5, x6, x7] ll n)) ∧ Ext w0 w1) := by
 refine Zd (args := [(ptr bd 0)]) Tryd.func87 rfl Tryd.ntmps87 Tryd.results87 rfl ?_
 have m0 : Mem w0 (Qy w0) [] := Mem.of_world w0
 obtain ⟨Es, fzs, hTs⟩ := hT.start
 obtain ⟨Er, fzr, hTr⟩ := hT.round
 refine sR <| Za rfl (Zg m0 Z9) ?_
 rintro _ w1 ⟨b2, rfl, e1, m1⟩
 refine rN (Qg ?_)
 refine Pv (J := fun g wv => ∃ (be : Nat) (svc : Value) (Hsc : List (Nat × Obj)), (Zv u8 5 svc ll Hsc) ∧ g 0 = (ptr bd 0) ∧ g 2 = (ptr b2 0) ∧ g 3 = (ptr be 0) ∧ Mem wv (Qy w0) ([(be, .cells #[(u32 x0), (u32 x1), (u32 x2), (u32 x3), (u32 x4), (u32 x5), (u32 x6), (u32 x7), svc, (u64 n)] 154 (0, 0))] ++ (Hsc ++ ([(b2, .cells (cl u8 (List.replicate 32 0)) 23 (0, 0))])))) ?_ ?_
 ·skip
  refine Jz (by kernel_rfl) ?_
  refine Di 8 14 rfl rfl ?_ ?_
  ·
   refine Aq [(0, false), (1, false), (2, false), (3, false), (4, false), (5, false), (6, false), (7, false), (9, false), (10, false), (11, false), (12, false), (8, true), (13, false), (14, true)] 15 rfl (by kernel_rfl) <| Qj rfl rfl (fun _ _hx => Qb (v := (ptr bd 0)) rfl) <| Qj rfl rfl (fun _ _hx => Xb rfl) <| Qj rfl rfl (fun _ _hx => Xi (r := 0) Kq rfl (by first | rfl | omega) V5 rfl rfl) <| Qj (v := (agg u32 ([x0, x1, x2, x3, x4, x5, x6, x7]))) rfl rfl (fun _ _hx => Qkg (c' := (cl u32 ([x0, x1, x2, x3, x4, x5, x6, x7]))) Yh rfl V5 rfl ((m1.ext _hx).rest _ _ hd) (by kernel_rfl) (by kernel_rfl)) <| Qj rfl rfl (fun _ _hx => Qb (v := (ptr bd 0)) rfl) <| Qj rfl rfl (fun _ _hx => Xb rfl) <| Qj rfl rfl (fun _ _hx => Xi (r := 8) Kq rfl (by first | rfl | omega) Td rfl rfl) <| Qj (v := sv) rfl rfl (fun _ _hx => Qn Zi rfl rfl ((m1.ext _hx).rest _ _ hd) rfl) <| Qj rfl rfl (fun _ _hx => Qb (v := (ptr bd 0)) rfl) <| Qj rfl rfl (fun _ _hx => Xb rfl) <| Qj rfl rfl (fun _ _hx => Xi (r := 9) Kq rfl (by first | rfl | omega) Xh rfl rfl) ?_
   refine Qj (v := (u64 n)) rfl rfl (fun _ _hx => Qn X4 rfl rfl ((m1.ext _hx).rest _ _ hd) rfl) ?_
   refine Bf rfl rfl (fun w2 e2 => ?_)
   have m2 := m1.ext e2
   refine Yz.mono (oc34 (Jj rfl) (Qdn sv ll _ (Rd.ofRest hrl m2) sD)) ?_
   rintro rq4 w3 ⟨Hsq4, grq4, k_w3⟩
   refine ⟨k_w3.toExt, ?_⟩
   have m3 : Mem _ _ (Hsq4 ++ ([_])) := Mem.new (H := [_]) (H' := Hsq4) m2 k_w3
   refine Qj rfl rfl (fun _ _hx => Vd (c := #[(u32 x0), (u32 x1), (u32 x2), (u32 x3), (u32 x4), (u32 x5), (u32 x6), (u32 x7), rq4, (u64 n)]) (pl := [(0, 8), (8, 1), (9, 1)]) Qfn Kq (by kernel_rfl) (Y2 (i := 0) (v := (agg u32 ([x0, x1, x2, x3, x4, x5, x6, x7]))) (cs := (cl u32 ([x0, x1, x2, x3, x4, x5, x6, x7]))) rfl rfl (Y2 (i := 1) (v := rq4) (cs := #[rq4]) rfl (Qd3 grq4.one) (Y2 (i := 2) (v := (u64 n)) (cs := #[(u64 n)]) rfl rfl Vo))) (by kernel_rfl)) ?_
   refine Bf rfl rfl (fun w5 e5 => ?_)
   have m5 := m3.ext e5
   refine Yz.mono (Yj m5 Qfn) ?_
   rintro _ w6 ⟨b3, rfl, e6, m6⟩
   refine ⟨e6, ?_⟩
   refine Xd (fun w7 e7 => ?_)
   have m7 := m6.ext e7
   refine Zw (Qd1 (cs := #[(u32 x0), (u32 x1), (u32 x2), (u32 x3), (u32 x4), (u32 x5), (u32 x6), (u32 x7), rq4, (u64 n)]) Qfn rfl rfl (by kernel_rfl) (Qiv (Yr (Z5 _) (Yr (Z5 _) (Yr (Z5 _) (Yr (Z5 _) (Yr (Z5 _) (Yr (Z5 _) (Yr (Z5 _) (Yr (Z5 _) (Yr grq4.one (Yr (Xl _) Fg))))))))))) m7.h0 (by kernel_rfl) rfl) ?_
   rintro _ w8 uq8
   have m8 : Mem _ _ ([(b3, .cells #[(u32 x0), (u32 x1), (u32 x2), (u32 x3), (u32 x4), (u32 x5), (u32 x6), (u32 x7), rq4, (u64 n)] 154 (0, 0))] ++ (Hsq4 ++ ([_]))) := m7.upd0 uq8
   refine rN ?_
   exact ⟨b3, rq4, Hsq4, grq4, rfl, rfl, rfl, m8⟩
  ·
   refine Aq [(0, false), (1, false), (2, false), (3, false), (4, false), (5, false), (6, false), (7, false), (9, false), (10, false), (11, false), (12, false), (14, true), (8, true), (13, false)] 15 rfl (by kernel_rfl) <| Qj rfl rfl (fun _ _hx => Qb (v := (ptr bd 0)) rfl) <| Qj rfl rfl (fun _ _hx => Xb rfl) <| Qj rfl rfl (fun _ _hx => Xi (r := 0) Kq rfl (by first | rfl | omega) V5 rfl rfl) <| Qj (v := (agg u32 ([x0, x1, x2, x3, x4, x5, x6, x7]))) rfl rfl (fun _ _hx => Qkg (c' := (cl u32 ([x0, x1, x2, x3, x4, x5, x6, x7]))) Yh rfl V5 rfl ((m1.ext _hx).rest _ _ hd) (by kernel_rfl) (by kernel_rfl)) <| Qj rfl rfl (fun _ _hx => Qb (v := (ptr bd 0)) rfl) <| Qj rfl rfl (fun _ _hx => Xb rfl) <| Qj rfl rfl (fun _ _hx => Xi (r := 8) Kq rfl (by first | rfl | omega) Td rfl rfl) <| Qj (v := sv) rfl rfl (fun _ _hx => Qn Zi rfl rfl ((m1.ext _hx).rest _ _ hd) rfl) <| Qj rfl rfl (fun _ _hx => Qb (v := (ptr bd 0)) rfl) <| Qj rfl rfl (fun _ _hx => Xb rfl) <| Qj rfl rfl (fun _ _hx => Xi (r := 9) Kq rfl (by first | rfl | omega) Xh rfl rfl) ?_
   refine Qj (v := (u64 n)) rfl rfl (fun _ _hx => Qn X4 rfl rfl ((m1.ext _hx).rest _ _ hd) rfl) ?_
   refine Bf rfl rfl (fun w9 e9 => ?_)
   have m9 := m1.ext e9
   refine Yz.mono (Yj m9 Qfn) ?_
   rintro _ w10 ⟨b3_1, rfl, e10, m10⟩
   refine ⟨e10, ?_⟩
   refine Bf rfl rfl (fun w11 e11 => ?_)
   have m11 := m10.ext e11
   refine Yz.mono (oc34 (Jj rfl) (Qdn sv ll _ (Rd.ofRest hrl m11) sD)) ?_
   rintro rq13 w12 ⟨Hsq13, grq13, k_w12⟩
   refine ⟨k_w12.toExt, ?_⟩
   have m12 : Mem _ _ (Hsq13 ++ ([_, _])) := Mem.new (H := [_, _]) (H' := Hsq13) m11 k_w12
   refine Qj rfl rfl (fun _ _hx => Vd (c := #[(u32 x0), (u32 x1), (u32 x2), (u32 x3), (u32 x4), (u32 x5), (u32 x6), (u32 x7), rq13, (u64 n)]) (pl := [(0, 8), (8, 1), (9, 1)]) Qfn Kq (by kernel_rfl) (Y2 (i := 0) (v := (agg u32 ([x0, x1, x2, x3, x4, x5, x6, x7]))) (cs := (cl u32 ([x0, x1, x2, x3, x4, x5, x6, x7]))) rfl rfl (Y2 (i := 1) (v := rq13) (cs := #[rq13]) rfl (Qd3 grq13.one) (Y2 (i := 2) (v := (u64 n)) (cs := #[(u64 n)]) rfl rfl Vo))) (by kernel_rfl)) ?_
   refine Xd (fun w14 e14 => ?_)
   have m14 := m12.ext e14
   refine Zw (Qd1 (cs := #[(u32 x0), (u32 x1), (u32 x2), (u32 x3), (u32 x4), (u32 x5), (u32 x6), (u32 x7), rq13, (u64 n)]) Qfn rfl rfl (by kernel_rfl) (Qiv (Yr (Z5 _) (Yr (Z5 _) (Yr (Z5 _) (Yr (Z5 _) (Yr (Z5 _) (Yr (Z5 _) (Yr (Z5 _) (Yr (Z5 _) (Yr grq13.one (Yr (Xl _) Fg))))))))))) ((Mem.pick Hsq13 [_] _ m14)).h0 (by kernel_rfl) rfl) ?_
   rintro _ w15 uq15
   have m15 : Mem _ _ ([(b3_1, .cells #[(u32 x0), (u32 x1), (u32 x2), (u32 x3), (u32 x4), (u32 x5), (u32 x6), (u32 x7), rq13, (u64 n)] 154 (0, 0))] ++ (Hsq13 ++ ([_]))) := Mem.upd0 (Mem.pick Hsq13 [_] _ m14) uq15
   refine rN ?_
   exact ⟨b3_1, rq13, Hsq13, grq13, rfl, rfl, rfl, m15⟩
 rintro fr16 w17 ⟨be, svc, Hsc, gc, s0, s2, s3, m17⟩
 refine sR <| Za rfl (Ql u8 [128#8] Qu m17 Zi X6 rfl rfl rfl) ?_
 rintro _ w18 ⟨b21, rfl, e18, m18⟩
 refine Qa rfl (Qc (v := (Ko b21 0 1 1)) rfl) ?_
 refine rN (Qg (Qo ?_))
 refine Yo (fun g wv => ∃ (k : Nat) (pl : List (BitVec 8)) (sp : Value) (Hp : List (Nat × Obj)), (k ≤ (119 - ll.length) % 64) ∧ (pl = 128#8 :: List.replicate k 0#8) ∧ (Zv u8 5 sp pl Hp) ∧ g 0 = (ptr bd 0) ∧ g 2 = (ptr b2 0) ∧ g 3 = (ptr be 0) ∧ g 4 = sp ∧ Mem wv (Qy w0) (Hp ++ ([(be, .cells #[(u32 x0), (u32 x1), (u32 x2), (u32 x3), (u32 x4), (u32 x5), (u32 x6), (u32 x7), svc, (u64 n)] 154 (0, 0))] ++ (Hsc ++ ([(b2, .cells (cl u8 (List.replicate 32 0)) 23 (0, 0))]))))) (fun g wv => (119 - ll.length) % 64 + 2 - sllen (g 4)) ?_ ?_
 ·exact ⟨0, [128#8], (Ko b21 0 1 1), [(b21, .cells (cl u8 ([128#8])) 5 (0, 0))], oM, rfl, (Zv.of u8 5 b21 [128#8]), s0, s2, s3, rfl, m18⟩
 rintro fr19 w20 ⟨k, pl, sp, Hp, hk, hpl, gp, s0, s2, s3, s4, m20⟩
 have z4 := s4
 have hpn : pl.length = k + 1 := by rw [hpl]; simp
 refine Qg (sR ?_)
 refine Qa rfl (Xi (r := 8) Kq rfl (by first | rfl | omega) Td rfl s3) <| Qa (v := svc) rfl (Qn Zi rfl rfl ((Mem.pick Hp [_] _ m20)).h0 rfl) <| Qa rfl (Ye (gc.rd (Mem.pick2 Hp [_] Hsc _ m20)) Zi rfl) <| rM rfl s4 <| Qa rfl (Ye (gp.rd m20) Zi rfl) <| Qa rfl (Qk rfl rfl oM oM) <| Qa rfl (Qk (b := 8) rfl rfl oM oM) <| Qa rfl (Jy (b := 64) rfl rfl oM oM oM) <| Qa rfl (Gu (b := 0) rfl rfl) <| rN ?_
 refine Xv rfl (fun hc21 => ?_) (fun hc21 => ?_)
 ·
  have hc21p := bne_iff_ne.1 hc21
  refine Q7 (Qh (Vq (Qe ?_)))
  refine rM rfl s4 <| Za rfl (Ql u8 [0#8] Qu m20 Zi X6 rfl rfl rfl) ?_
  rintro _ w22 ⟨b32, rfl, e22, m22⟩
  refine Za rfl (Zk (f := u8) (Hs := Hp) (H := [_, _] ++ (Hsc ++ ([_]))) (Mem.pick [_] Hp _ m22) gp rfl rfl (Rd.mkA m22.h0) Zi Zi X6 rfl Qu sD sD) ?_
  rintro sv23 w23 ⟨Hs23, m23, g23⟩
  replace g23 : Zv u8 5 sv23 (pl ++ ([0#8])) Hs23 := g23
  refine rA rfl (v := sv23) rfl ?_
  refine Zr (Qi (Qh ?_))
  have m24 := Mem.drop [_] _ (Mem.pick Hs23 [_] _ m23)
  exact ⟨⟨k + 1, pl ++ ([0#8]), sv23, Hs23, oM, (by rw [hpl, List.replicate_succ']; rfl), g23, s0, s2, s3, rfl, m24⟩, (by show (119 - ll.length) % 64 + 2 - sllen sv23 < (119 - ll.length) % 64 + 2 - sllen _; rw [z4, gp.sllen, Zv.sllen g23]; simp [hpn]; omega)⟩
 ·
  have hc21p := Kt hc21
  have hpn : pl.length = k + 1 := by rw [hpl]; simp
  obtain rfl : k = (119 - ll.length) % 64 := by omega
  subst hpl
  refine X0 ?_
  refine Qr (Qr (Xf ?_))
  refine Qg (sR ?_)
  refine Qa rfl (Qc (v := (i64 7)) rfl) ?_
  refine rN (Qo ?_)
  refine Kw 9 ?_
  refine Zq (Qg (sR ?_))
  refine Qa rfl (Qb (v := (i64 7)) rfl) <| Qa rfl (X5 (a := 7) (b := 0) rfl rfl) <| rN <| Zc rfl (by decide) ?_
  refine Q7 (Qh (Qg (Qo (Qe ?_))))
  refine rM rfl s4 <| rM rfl s0 <| Qa rfl (Xb rfl) <| Qa rfl (Xi (r := 9) Kq rfl (by first | rfl | omega) Xh rfl rfl) <| Qa (v := (u64 n)) rfl (Qn X4 rfl rfl (m20.rest _ _ hd) rfl) <| Qa rfl (Um (b := 3) rfl rfl oM) <| Qa rfl (Qb (v := (i64 7)) rfl) <| Qa (v := (i64 56)) rfl (Z7 (a := 8) (b := 7) rfl rfl oM oM) <| Qa rfl (Xy (b := 56) rfl rfl oM) <| Qa rfl (Xw ⟨_, X4⟩ Vm rfl) <| Za rfl (Ql u8 [((n <<< 3) >>> 56).setWidth 8] Qu m20 Zi X6 rfl rfl rfl) ?_
  rintro _ w25 ⟨b48, rfl, e25, m25⟩
  refine Za rfl (Zk (f := u8) (Hs := Hp) (H := [_, _] ++ (Hsc ++ ([_]))) (Mem.pick [_] Hp _ m25) gp rfl rfl (Rd.mkA m25.h0) Zi Zi X6 rfl Qu sD sD) ?_
  rintro sv26 w26 ⟨Hs26, m26, g26⟩
  replace g26 : Zv u8 5 sv26 ((128#8 :: List.replicate ((119 - ll.length) % 64) 0#8) ++ ([((n <<< 3) >>> 56).setWidth 8])) Hs26 := g26
  refine rA rfl (v := sv26) rfl ?_
  refine Zr (Qi ?_)
  have m27 := Mem.drop [_] _ (Mem.pick Hs26 [_] _ m26)
  refine Qe <| Qa rfl (Qb (v := (i64 7)) rfl) <| Qa (v := (i64 6)) rfl (Zp (a := 7) (b := 1) rfl rfl oM oM) <| Qa rfl (Qc (v := (i64 6)) rfl) ?_
  refine rN (Zq (Qg (sR ?_)))
  refine Qa rfl (Qb (v := (i64 6)) rfl) <| Qa rfl (X5 (a := 6) (b := 0) rfl rfl) <| rN <| Zc rfl (by decide) ?_
  refine Q7 (Qh (Qg (Qo (Qe ?_))))
  refine rM rfl (v := sv26) rfl <| rM rfl s0 <| Qa rfl (Xb rfl) <| Qa rfl (Xi (r := 9) Kq rfl (by first | rfl | omega) Xh rfl rfl) <| Qa (v := (u64 n)) rfl (Qn X4 rfl rfl (m27.rest _ _ hd) rfl) <| Qa rfl (Um (b := 3) rfl rfl oM) <| Qa rfl (Qb (v := (i64 6)) rfl) <| Qa (v := (i64 48)) rfl (Z7 (a := 8) (b := 6) rfl rfl oM oM) <| Qa rfl (Xy (b := 48) rfl rfl oM) <| Qa rfl (Xw ⟨_, X4⟩ Vm rfl) <| Za rfl (Ql u8 [((n <<< 3) >>> 48).setWidth 8] Qu m27 Zi X6 rfl rfl rfl) ?_
  rintro _ w28 ⟨b48_1, rfl, e28, m28⟩
  refine Za rfl (Zk (f := u8) (Hs := Hs26) (H := [_, _] ++ (Hsc ++ ([_]))) (Mem.pick [_] Hs26 _ m28) g26 rfl rfl (Rd.mkA m28.h0) Zi Zi X6 rfl Qu sD sD) ?_
  rintro sv29 w29 ⟨Hs29, m29, g29⟩
  replace g29 : Zv u8 5 sv29 (((128#8 :: List.replicate ((119 - ll.length) % 64) 0#8) ++ ([((n <<< 3) >>> 56).setWidth 8])) ++ ([((n <<< 3) >>> 48).setWidth 8])) Hs29 := g29
  refine rA rfl (v := sv29) rfl ?_
  refine Zr (Qi ?_)
  have m30 := Mem.drop [_] _ (Mem.pick Hs29 [_] _ m29)
  refine Qe <| Qa rfl (Qb (v := (i64 6)) rfl) <| Qa (v := (i64 5)) rfl (Zp (a := 6) (b := 1) rfl rfl oM oM) <| Qa rfl (Qc (v := (i64 5)) rfl) ?_
  refine rN (Zq (Qg (sR ?_)))
  refine Qa rfl (Qb (v := (i64 5)) rfl) <| Qa rfl (X5 (a := 5) (b := 0) rfl rfl) <| rN <| Zc rfl (by decide) ?_
  refine Q7 (Qh (Qg (Qo (Qe ?_))))
  refine rM rfl (v := sv29) rfl <| rM rfl s0 <| Qa rfl (Xb rfl) <| Qa rfl (Xi (r := 9) Kq rfl (by first | rfl | omega) Xh rfl rfl) <| Qa (v := (u64 n)) rfl (Qn X4 rfl rfl (m30.rest _ _ hd) rfl) <| Qa rfl (Um (b := 3) rfl rfl oM) <| Qa rfl (Qb (v := (i64 5)) rfl) <| Qa (v := (i64 40)) rfl (Z7 (a := 8) (b := 5) rfl rfl oM oM) <| Qa rfl (Xy (b := 40) rfl rfl oM) <| Qa rfl (Xw ⟨_, X4⟩ Vm rfl) <| Za rfl (Ql u8 [((n <<< 3) >>> 40).setWidth 8] Qu m30 Zi X6 rfl rfl rfl) ?_
  rintro _ w31 ⟨b48_2, rfl, e31, m31⟩
  refine Za rfl (Zk (f := u8) (Hs := Hs29) (H := [_, _] ++ (Hsc ++ ([_]))) (Mem.pick [_] Hs29 _ m31) g29 rfl rfl (Rd.mkA m31.h0) Zi Zi X6 rfl Qu sD sD) ?_
  rintro sv32 w32 ⟨Hs32, m32, g32⟩
  replace g32 : Zv u8 5 sv32 ((((128#8 :: List.replicate ((119 - ll.length) % 64) 0#8) ++ ([((n <<< 3) >>> 56).setWidth 8])) ++ ([((n <<< 3) >>> 48).setWidth 8])) ++ ([((n <<< 3) >>> 40).setWidth 8])) Hs32 := g32
  refine rA rfl (v := sv32) rfl ?_
  refine Zr (Qi ?_)
  have m33 := Mem.drop [_] _ (Mem.pick Hs32 [_] _ m32)
  refine Qe <| Qa rfl (Qb (v := (i64 5)) rfl) <| Qa (v := (i64 4)) rfl (Zp (a := 5) (b := 1) rfl rfl oM oM) <| Qa rfl (Qc (v := (i64 4)) rfl) ?_
  refine rN (Zq (Qg (sR ?_)))
  refine Qa rfl (Qb (v := (i64 4)) rfl) <| Qa rfl (X5 (a := 4) (b := 0) rfl rfl) <| rN <| Zc rfl (by decide) ?_
  refine Q7 (Qh (Qg (Qo (Qe ?_))))
  refine rM rfl (v := sv32) rfl <| rM rfl s0 <| Qa rfl (Xb rfl) <| Qa rfl (Xi (r := 9) Kq rfl (by first | rfl | omega) Xh rfl rfl) <| Qa (v := (u64 n)) rfl (Qn X4 rfl rfl (m33.rest _ _ hd) rfl) <| Qa rfl (Um (b := 3) rfl rfl oM) <| Qa rfl (Qb (v := (i64 4)) rfl) <| Qa (v := (i64 32)) rfl (Z7 (a := 8) (b := 4) rfl rfl oM oM) <| Qa rfl (Xy (b := 32) rfl rfl oM) <| Qa rfl (Xw ⟨_, X4⟩ Vm rfl) <| Za rfl (Ql u8 [((n <<< 3) >>> 32).setWidth 8] Qu m33 Zi X6 rfl rfl rfl) ?_
  rintro _ w34 ⟨b48_3, rfl, e34, m34⟩
  refine Za rfl (Zk (f := u8) (Hs := Hs32) (H := [_, _] ++ (Hsc ++ ([_]))) (Mem.pick [_] Hs32 _ m34) g32 rfl rfl (Rd.mkA m34.h0) Zi Zi X6 rfl Qu sD sD) ?_
  rintro sv35 w35 ⟨Hs35, m35, g35⟩
  replace g35 : Zv u8 5 sv35 (((((128#8 :: List.replicate ((119 - ll.length) % 64) 0#8) ++ ([((n <<< 3) >>> 56).setWidth 8])) ++ ([((n <<< 3) >>> 48).setWidth 8])) ++ ([((n <<< 3) >>> 40).setWidth 8])) ++ ([((n <<< 3) >>> 32).setWidth 8])) Hs35 := g35
  refine rA rfl (v := sv35) rfl ?_
  refine Zr (Qi ?_)
  have m36 := Mem.drop [_] _ (Mem.pick Hs35 [_] _ m35)
  refine Qe <| Qa rfl (Qb (v := (i64 4)) rfl) <| Qa (v := (i64 3)) rfl (Zp (a := 4) (b := 1) rfl rfl oM oM) <| Qa rfl (Qc (v := (i64 3)) rfl) <| rN ?_
  refine CR.abs (fun g => g 0 = (ptr bd 0) ∧ g 2 = (ptr b2 0) ∧ g 3 = (ptr be 0) ∧ g 4 = sv35 ∧ g 5 = (i64 3) ∧ g 30 = (bl (((((ll.length : Int) + ((128#8 :: List.replicate ((119 - ll.length) % 64) 0#8).length : Int)) + 8) % 64) != 0)) ∧ g 35 = (bl true) ∧ True) ⟨s0, s2, s3, rfl, rfl, rfl, rfl, trivial⟩ ?_
  rintro fr37 ⟨s0, s2, s3, s4, s5, s30, s35, _⟩
  refine Zq (Qg (sR ?_))
  refine rM rfl s5 <| Qa rfl (X5 (a := 3) (b := 0) rfl rfl) <| rN <| Zc rfl (by decide) ?_
  refine Q7 (Qh (Qg (Qo (Qe ?_))))
  refine rM rfl s4 <| rM rfl s0 <| Qa rfl (Xb rfl) <| Qa rfl (Xi (r := 9) Kq rfl (by first | rfl | omega) Xh rfl rfl) <| Qa (v := (u64 n)) rfl (Qn X4 rfl rfl (m36.rest _ _ hd) rfl) <| Qa rfl (Um (b := 3) rfl rfl oM) <| rM rfl s5 <| Qa (v := (i64 24)) rfl (Z7 (a := 8) (b := 3) rfl rfl oM oM) <| Qa rfl (Xy (b := 24) rfl rfl oM) <| Qa rfl (Xw ⟨_, X4⟩ Vm rfl) <| Za rfl (Ql u8 [((n <<< 3) >>> 24).setWidth 8] Qu m36 Zi X6 rfl rfl rfl) ?_
  rintro _ w38 ⟨b48_4, rfl, e38, m38⟩
  refine Za rfl (Zk (f := u8) (Hs := Hs35) (H := [_, _] ++ (Hsc ++ ([_]))) (Mem.pick [_] Hs35 _ m38) g35 rfl rfl (Rd.mkA m38.h0) Zi Zi X6 rfl Qu sD sD) ?_
  rintro sv39 w39 ⟨Hs39, m39, g39⟩
  replace g39 : Zv u8 5 sv39 ((((((128#8 :: List.replicate ((119 - ll.length) % 64) 0#8) ++ ([((n <<< 3) >>> 56).setWidth 8])) ++ ([((n <<< 3) >>> 48).setWidth 8])) ++ ([((n <<< 3) >>> 40).setWidth 8])) ++ ([((n <<< 3) >>> 32).setWidth 8])) ++ ([((n <<< 3) >>> 24).setWidth 8])) Hs39 := g39
  refine rA rfl (v := sv39) rfl ?_
  refine Zr (Qi ?_)
  have m40 := Mem.drop [_] _ (Mem.pick Hs39 [_] _ m39)
  refine Qe <| rM rfl s5 <| Qa (v := (i64 2)) rfl (Zp (a := 3) (b := 1) rfl rfl oM oM) <| Qa rfl (Qc (v := (i64 2)) rfl) ?_
  refine rN (Zq (Qg (sR ?_)))
  refine Qa rfl (Qb (v := (i64 2)) rfl) <| Qa rfl (X5 (a := 2) (b := 0) rfl rfl) <| rN <| Zc rfl (by decide) ?_
  refine Q7 (Qh (Qg (Qo (Qe ?_))))
  refine rM rfl (v := sv39) rfl <| rM rfl s0 <| Qa rfl (Xb rfl) <| Qa rfl (Xi (r := 9) Kq rfl (by first | rfl | omega) Xh rfl rfl) <| Qa (v := (u64 n)) rfl (Qn X4 rfl rfl (m40.rest _ _ hd) rfl) <| Qa rfl (Um (b := 3) rfl rfl oM) <| Qa rfl (Qb (v := (i64 2)) rfl) <| Qa (v := (i64 16)) rfl (Z7 (a := 8) (b := 2) rfl rfl oM oM) <| Qa rfl (Xy (b := 16) rfl rfl oM) <| Qa rfl (Xw ⟨_, X4⟩ Vm rfl) <| Za rfl (Ql u8 [((n <<< 3) >>> 16).setWidth 8] Qu m40 Zi X6 rfl rfl rfl) ?_
  rintro _ w41 ⟨b48_5, rfl, e41, m41⟩
  refine Za rfl (Zk (f := u8) (Hs := Hs39) (H := [_, _] ++ (Hsc ++ ([_]))) (Mem.pick [_] Hs39 _ m41) g39 rfl rfl (Rd.mkA m41.h0) Zi Zi X6 rfl Qu sD sD) ?_
  rintro sv42 w42 ⟨Hs42, m42, g42⟩
  replace g42 : Zv u8 5 sv42 (((((((128#8 :: List.replicate ((119 - ll.length) % 64) 0#8) ++ ([((n <<< 3) >>> 56).setWidth 8])) ++ ([((n <<< 3) >>> 48).setWidth 8])) ++ ([((n <<< 3) >>> 40).setWidth 8])) ++ ([((n <<< 3) >>> 32).setWidth 8])) ++ ([((n <<< 3) >>> 24).setWidth 8])) ++ ([((n <<< 3) >>> 16).setWidth 8])) Hs42 := g42
  refine rA rfl (v := sv42) rfl ?_
  refine Zr (Qi ?_)
  have m43 := Mem.drop [_] _ (Mem.pick Hs42 [_] _ m42)
  refine Qe <| Qa rfl (Qb (v := (i64 2)) rfl) <| Qa (v := (i64 1)) rfl (Zp (a := 2) (b := 1) rfl rfl oM oM) <| Qa rfl (Qc (v := (i64 1)) rfl) ?_
  refine rN (Zq (Qg (sR ?_)))
  refine Qa rfl (Qb (v := (i64 1)) rfl) <| Qa rfl (X5 (a := 1) (b := 0) rfl rfl) <| rN <| Zc rfl (by decide) ?_
  refine Q7 (Qh (Qg (Qo (Qe ?_))))
  refine rM rfl (v := sv42) rfl <| rM rfl s0 <| Qa rfl (Xb rfl) <| Qa rfl (Xi (r := 9) Kq rfl (by first | rfl | omega) Xh rfl rfl) <| Qa (v := (u64 n)) rfl (Qn X4 rfl rfl (m43.rest _ _ hd) rfl) <| Qa rfl (Um (b := 3) rfl rfl oM) <| Qa rfl (Qb (v := (i64 1)) rfl) <| Qa (v := (i64 8)) rfl (Z7 (a := 8) (b := 1) rfl rfl oM oM) <| Qa rfl (Xy (b := 8) rfl rfl oM) <| Qa rfl (Xw ⟨_, X4⟩ Vm rfl) <| Za rfl (Ql u8 [((n <<< 3) >>> 8).setWidth 8] Qu m43 Zi X6 rfl rfl rfl) ?_
  rintro _ w44 ⟨b48_6, rfl, e44, m44⟩
  refine Za rfl (Zk (f := u8) (Hs := Hs42) (H := [_, _] ++ (Hsc ++ ([_]))) (Mem.pick [_] Hs42 _ m44) g42 rfl rfl (Rd.mkA m44.h0) Zi Zi X6 rfl Qu sD sD) ?_
  rintro sv45 w45 ⟨Hs45, m45, g45⟩
  replace g45 : Zv u8 5 sv45 ((((((((128#8 :: List.replicate ((119 - ll.length) % 64) 0#8) ++ ([((n <<< 3) >>> 56).setWidth 8])) ++ ([((n <<< 3) >>> 48).setWidth 8])) ++ ([((n <<< 3) >>> 40).setWidth 8])) ++ ([((n <<< 3) >>> 32).setWidth 8])) ++ ([((n <<< 3) >>> 24).setWidth 8])) ++ ([((n <<< 3) >>> 16).setWidth 8])) ++ ([((n <<< 3) >>> 8).setWidth 8])) Hs45 := g45
  refine rA rfl (v := sv45) rfl ?_
  refine Zr (Qi ?_)
  have m46 := Mem.drop [_] _ (Mem.pick Hs45 [_] _ m45)
  refine Qe <| Qa rfl (Qb (v := (i64 1)) rfl) <| Qa (v := (i64 0)) rfl (Zp (a := 1) (b := 1) rfl rfl oM oM) <| Qa rfl (Qc (v := (i64 0)) rfl) ?_
  refine rN (Zq (Qg (sR ?_)))
  refine Qa rfl (Qb (v := (i64 0)) rfl) <| Qa rfl (X5 (a := 0) (b := 0) rfl rfl) <| rN <| Zc rfl (by decide) ?_
  refine Q7 (Qh (Qg (Qo (Qe ?_))))
  refine rM rfl (v := sv45) rfl <| rM rfl s0 <| Qa rfl (Xb rfl) <| Qa rfl (Xi (r := 9) Kq rfl (by first | rfl | omega) Xh rfl rfl) <| Qa (v := (u64 n)) rfl (Qn X4 rfl rfl (m46.rest _ _ hd) rfl) <| Qa rfl (Um (b := 3) rfl rfl oM) <| Qa rfl (Qb (v := (i64 0)) rfl) <| Qa (v := (i64 0)) rfl (Z7 (a := 8) (b := 0) rfl rfl oM oM) <| Qa rfl (Xy (b := 0) rfl rfl oM) <| Qa rfl (Xw ⟨_, X4⟩ Vm rfl) <| Za rfl (Ql u8 [((n <<< 3) >>> 0).setWidth 8] Qu m46 Zi X6 rfl rfl rfl) ?_
  rintro _ w47 ⟨b48_7, rfl, e47, m47⟩
  refine Za rfl (Zk (f := u8) (Hs := Hs45) (H := [_, _] ++ (Hsc ++ ([_]))) (Mem.pick [_] Hs45 _ m47) g45 rfl rfl (Rd.mkA m47.h0) Zi Zi X6 rfl Qu sD sD) ?_
  rintro sv48 w48 ⟨Hs48, m48, g48⟩
  replace g48 : Zv u8 5 sv48 (((((((((128#8 :: List.replicate ((119 - ll.length) % 64) 0#8) ++ ([((n <<< 3) >>> 56).setWidth 8])) ++ ([((n <<< 3) >>> 48).setWidth 8])) ++ ([((n <<< 3) >>> 40).setWidth 8])) ++ ([((n <<< 3) >>> 32).setWidth 8])) ++ ([((n <<< 3) >>> 24).setWidth 8])) ++ ([((n <<< 3) >>> 16).setWidth 8])) ++ ([((n <<< 3) >>> 8).setWidth 8])) ++ ([((n <<< 3) >>> 0).setWidth 8])) Hs48 := g48
  refine rA rfl (v := sv48) rfl ?_
  refine Zr (Qi ?_)
  have m49 := Mem.drop [_] _ (Mem.pick Hs48 [_] _ m48)
  refine Qe <| Qa rfl (Qb (v := (i64 0)) rfl) <| Qa (v := (i64 (-1))) rfl (Zp (a := 0) (b := 1) rfl rfl oM oM) <| Qa rfl (Qc (v := (i64 (-1))) rfl) ?_
  refine rN (Zq (Qg (sR ?_)))
  refine Qa rfl (Qb (v := (i64 (-1))) rfl) <| Qa rfl (X5 (a := (-1)) (b := 0) rfl rfl) <| rN <| Yp rfl (by decide) <| X0 ?_
  refine Qr (Qr (Xf ?_))
  refine Qg ?_
  have hpad : ((((((((128#8 :: List.replicate ((119 - ll.length) % 64) 0#8) ++ ([((n <<< 3) >>> 56).setWidth 8])) ++ ([((n <<< 3) >>> 48).setWidth 8])) ++ ([((n <<< 3) >>> 40).setWidth 8])) ++ ([((n <<< 3) >>> 32).setWidth 8])) ++ ([((n <<< 3) >>> 24).setWidth 8])) ++ ([((n <<< 3) >>> 16).setWidth 8])) ++ ([((n <<< 3) >>> 8).setWidth 8])) ++ ([((n <<< 3) >>> 0).setWidth 8]) = padP n ll.length := by simp [padP, lenB]
  refine Qe <| rM rfl (v := sv48) rfl ?_
  have hF51 : Mem w48 (Qy w0) (([(be, .cells #[(u32 x0), (u32 x1), (u32 x2), (u32 x3), (u32 x4), (u32 x5), (u32 x6), (u32 x7), svc, (u64 n)] 154 (0, 0))] ++ (Hsc ++ ([]))) ++ (Hs48 ++ ([(b2, .cells (cl u8 (List.replicate 32 0)) 23 (0, 0))]))) := by
   have hT := (Mem.pick2 Hsc Hs48 [_] _ (Mem.pick2 Hs48 [_] Hsc _ m49))
   try simp only [List.append_assoc, List.cons_append, List.nil_append, List.append_nil] at hT ⊢
   exact hT
  refine Za rfl (oc85 (Xr s3 rfl) (Qff be x0 x1 x2 x3 x4 x5 x6 x7 svc ll Hsc n sv48 (((((((((128#8 :: List.replicate ((119 - ll.length) % 64) 0#8) ++ ([((n <<< 3) >>> 56).setWidth 8])) ++ ([((n <<< 3) >>> 48).setWidth 8])) ++ ([((n <<< 3) >>> 40).setWidth 8])) ++ ([((n <<< 3) >>> 32).setWidth 8])) ++ ([((n <<< 3) >>> 24).setWidth 8])) ++ ([((n <<< 3) >>> 16).setWidth 8])) ++ ([((n <<< 3) >>> 8).setWidth 8])) ++ ([((n <<< 3) >>> 0).setWidth 8])) _ _ (Mem.give hF51) (hT.mono fun b o e => Mem.addRest hF51 e) (g48.rdAdd hF51 (fun p hp => (List.mem_append_left _ hp))) gc sD)) ?_
  rintro _ w50 ⟨y0q52, y1q52, y2q52, y3q52, y4q52, y5q52, y6q52, y7q52, sv2q52, Hs2q52, hyq52, gl2q52, k_w50⟩
  have m50 : Mem w50 (Qy w0) ([(be, .cells #[(u32 y0q52), (u32 y1q52), (u32 y2q52), (u32 y3q52), (u32 y4q52), (u32 y5q52), (u32 y6q52), (u32 y7q52), sv2q52, (u64 (n + BitVec.ofInt 64 ((((((((((128#8 :: List.replicate ((119 - ll.length) % 64) 0#8) ++ ([((n <<< 3) >>> 56).setWidth 8])) ++ ([((n <<< 3) >>> 48).setWidth 8])) ++ ([((n <<< 3) >>> 40).setWidth 8])) ++ ([((n <<< 3) >>> 32).setWidth 8])) ++ ([((n <<< 3) >>> 24).setWidth 8])) ++ ([((n <<< 3) >>> 16).setWidth 8])) ++ ([((n <<< 3) >>> 8).setWidth 8])) ++ ([((n <<< 3) >>> 0).setWidth 8])).length : Int)))] 154 (0, 0))] ++ (Hs2q52 ++ (Hs48 ++ ([(b2, .cells (cl u8 (List.replicate 32 0)) 23 (0, 0))])))) := (by
   have hT := Mem.back hF51 k_w50
   try simp only [List.append_assoc, List.cons_append, List.nil_append, List.append_nil] at hT ⊢
   exact hT)
  rw [hpad] at hyq52
  refine rN (Qg (sR ?_))
  refine Qa rfl (Qb (v := (i64 0)) rfl) ?_
  refine rN (Qo ?_)
  refine Yo (fun g wv => ∃ (e : Nat), (e ≤ 32) ∧ g 0 = (ptr bd 0) ∧ g 2 = (ptr b2 0) ∧ g 3 = (ptr be 0) ∧ g 4 = sv48 ∧ g 5 = (i64 (-1)) ∧ g 30 = (bl (((((ll.length : Int) + ((128#8 :: List.replicate ((119 - ll.length) % 64) 0#8).length : Int)) + 8) % 64) != 0)) ∧ g 35 = (bl false) ∧ g 52 = (i64 (e : Int)) ∧ Mem wv (Qy w0) ([(be, .cells #[(u32 y0q52), (u32 y1q52), (u32 y2q52), (u32 y3q52), (u32 y4q52), (u32 y5q52), (u32 y6q52), (u32 y7q52), sv2q52, (u64 (n + BitVec.ofInt 64 ((((((((((128#8 :: List.replicate ((119 - ll.length) % 64) 0#8) ++ ([((n <<< 3) >>> 56).setWidth 8])) ++ ([((n <<< 3) >>> 48).setWidth 8])) ++ ([((n <<< 3) >>> 40).setWidth 8])) ++ ([((n <<< 3) >>> 32).setWidth 8])) ++ ([((n <<< 3) >>> 24).setWidth 8])) ++ ([((n <<< 3) >>> 16).setWidth 8])) ++ ([((n <<< 3) >>> 8).setWidth 8])) ++ ([((n <<< 3) >>> 0).setWidth 8])).length : Int)))] 154 (0, 0))] ++ (Hs2q52 ++ (Hs48 ++ ([(b2, .cells (cl u8 (Yk (fun q => ([y0q52, y1q52, y2q52, y3q52, y4q52, y5q52, y6q52, y7q52].getD (q / 4) 0 >>> (24 - 8 * (q % 4))).setWidth 8) 0 32 e)) 23 (0, 0))]))))) (fun g wv => (32 - RowKit.intOf (g 52)).toNat) ?_ ?_
  ·exact ⟨0, oM, s0, s2, s3, rfl, rfl, s30, rfl, rfl, (by rw [Fa]; exact m50)⟩
  rintro fr53 w54 ⟨e, he, s0, s2, s3, s4, s5, s30, s35, s52, m54⟩
  have z52 := s52
  have hfl : (Yk (fun q => ([y0q52, y1q52, y2q52, y3q52, y4q52, y5q52, y6q52, y7q52].getD (q / 4) 0 >>> (24 - 8 * (q % 4))).setWidth 8) (0 : BitVec 8) 32 e).length = 32 := Jl _ _ _ _ he
  refine sR <| Qa rfl (Qs (b := 32) s52 rfl) ?_
  refine rN (Qg ?_)
  refine Xv rfl (fun hc55 => ?_) (fun hc55 => ?_)
  ·
   have hc55p := of_decide_eq_true hc55
   refine Q7 (Qh (Qg (Qo (sR ?_))))
   refine rM rfl s52 <| Qa rfl (Qc (v := (i64 (e : Int))) rfl) ?_
   refine rN (Qe ?_)
   refine Qa rfl (Qb (v := (i64 (e : Int))) rfl) <| Qa rfl (Qb (v := (i64 (e : Int))) rfl) <| Qa rfl (Jf.cast (congrArg i64 (show (e : Int) / 4 = ((e / 4 : Nat) : Int) by omega)) (Wy (b := 4) rfl rfl oM oM oM)) <| Qa rfl (Xi (r := 0) Kq rfl (by first | rfl | omega) V5 rfl s3) <| Qa rfl (Qd (r := (e / 4)) oM Yh Zh rfl rfl oM sD) <| Qa (v := (u32 ([y0q52, y1q52, y2q52, y3q52, y4q52, y5q52, y6q52, y7q52].getD (e / 4) 0))) rfl (Qn (v := u32 ([y0q52, y1q52, y2q52, y3q52, y4q52, y5q52, y6q52, y7q52].getD (e / 4) 0)) Xk rfl rfl m54.h0 (Qlm u32 [y0q52, y1q52, y2q52, y3q52, y4q52, y5q52, y6q52, y7q52] [sv2q52, (u64 (n + BitVec.ofInt 64 ((((((((((128#8 :: List.replicate ((119 - ll.length) % 64) 0#8) ++ ([((n <<< 3) >>> 56).setWidth 8])) ++ ([((n <<< 3) >>> 48).setWidth 8])) ++ ([((n <<< 3) >>> 40).setWidth 8])) ++ ([((n <<< 3) >>> 32).setWidth 8])) ++ ([((n <<< 3) >>> 24).setWidth 8])) ++ ([((n <<< 3) >>> 16).setWidth 8])) ++ ([((n <<< 3) >>> 8).setWidth 8])) ++ ([((n <<< 3) >>> 0).setWidth 8])).length : Int)))] 0 sD)) <| Qa rfl (Qb (v := (i64 (e : Int))) rfl) <| Qa rfl (Jy (b := 4) rfl rfl oM oM oM) <| Qa rfl (Z7 (a := 8) rfl rfl oM oM) <| Qa rfl (Jf.cast (congrArg i64 (show 24 - (8 * ((e : Int) % 4)) = ((24 - 8 * (e % 4) : Nat) : Int) by omega)) (Zp (a := 24) rfl rfl oM oM)) <| Qa rfl (V8 rfl rfl oM) <| Qa rfl (Ua ⟨_, Xk⟩ Vm rfl) ?_
   refine Qa rfl (Qd (r := e) oM X3 X6 s2 rfl oM sD) <| Zw (Xn (f := u8) (a := (([y0q52, y1q52, y2q52, y3q52, y4q52, y5q52, y6q52, y7q52].getD (e / 4) 0) >>> ((24 - 8 * (e % 4) : Nat) : Int).toNat).setWidth 8) Qu X6 rfl rfl ((Mem.pick3 [_] Hs2q52 Hs48 [_] _ m54)).h0 sD (.inl (Nat.zero_le _))) ?_
   rintro _ w56 uq56
   have m56 : Mem _ _ ([_, _] ++ (Hs2q52 ++ (Hs48 ++ ([])))) := Mem.upd0 (Mem.pick3 [_] Hs2q52 Hs48 [_] _ m54) uq56
   refine Zr (Qi (Qe ?_))
   refine Qa rfl (Qk (b := 1) s52 rfl oM oM) <| Qa rfl (Qb (v := (i64 ((e : Int) + 1))) rfl) <| rN ?_
   have m57 := (Mem.pick2 [_, _] Hs2q52 Hs48 _ m56)
   have m58 := (Mem.pick2 Hs48 [_, _] Hs2q52 _ m57)
   have m59 := (Mem.pick3 Hs2q52 Hs48 [_] [_] _ m58)
   exact ⟨⟨e + 1, oM, s0, s2, s3, s4, s5, s30, s35, rfl, (by rw [← Fh (fun q => ([y0q52, y1q52, y2q52, y3q52, y4q52, y5q52, y6q52, y7q52].getD (q / 4) 0 >>> (24 - 8 * (q % 4))).setWidth 8) (0 : BitVec 8) (n := 32) (k := e) oM _ rfl]; exact m59)⟩, Gl rfl z52 oM oM⟩
  ·
   have hc55p := of_decide_eq_false hc55
   obtain rfl : e = 32 := by omega
   have hfl := Jl (fun q => ([y0q52, y1q52, y2q52, y3q52, y4q52, y5q52, y6q52, y7q52].getD (q / 4) 0 >>> (24 - 8 * (q % 4))).setWidth 8) (0 : BitVec 8) 32 32 oM
   refine X0 ?_
   refine Qr (Qr (Xf ?_))
   refine sR <| Qa rfl (Qw X3 rfl Z9 s2 ((Mem.pick3 [_] Hs2q52 Hs48 [_] _ m54)).h0 sZ) <| Zw (Qm (f := u8) (l := Yk (fun q => ([y0q52, y1q52, y2q52, y3q52, y4q52, y5q52, y6q52, y7q52].getD (q / 4) 0 >>> (24 - 8 * (q % 4))).setWidth 8) 0 32 32) Qu Z9 s2 rfl sD ((Mem.pick3 [_] Hs2q52 Hs48 [_] _ m54)).h0 sZ rfl) ?_
   rintro _ w60 uq60
   have m60 : Mem _ _ ([_, _] ++ (Hs2q52 ++ (Hs48 ++ ([])))) := Mem.upd0 (Mem.pick3 [_] Hs2q52 Hs48 [_] _ m54) uq60
   refine rN (Xt ?_)
   refine Ze [(agg u8 (Yk (fun q => ([y0q52, y1q52, y2q52, y3q52, y4q52, y5q52, y6q52, y7q52].getD (q / 4) 0 >>> (24 - 8 * (q % 4))).setWidth 8) 0 32 32))] ⟨⟨_, s2, Xo X3 rfl Z9 m60.h0 sZ⟩, trivial⟩ ?_
   exact ⟨congrArg (agg u8) ((show Yk (fun q => ([y0q52, y1q52, y2q52, y3q52, y4q52, y5q52, y6q52, y7q52].getD (q / 4) 0 >>> (24 - 8 * (q % 4))).setWidth 8) 0 32 32 = Qaa [y0q52, y1q52, y2q52, y3q52, y4q52, y5q52, y6q52, y7q52] from rfl).trans (congrArg Qaa hyq52)), m60.toExt⟩
end Go.Proofs.YtkmiemlpfkfiiaaDoor
