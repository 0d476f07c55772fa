/- Contracts: hash, third part. Conditions: none beyond those that each theorem states. -/
import Derived.Test.YtkmiemlpfkfiiaaDoorHa2
namespace Go.Proofs.YtkmiemlpfkfiiaaDoor
set_option linter.unusedVariables false
set_option linter.unusedSimpArgs false
set_option maxHeartbeats 2000000 in
theorem c_dsum (bd : Nat) (x0 x1 x2 x3 x4 x5 x6 x7 : BitVec 32) (sv : Value) (ll : List (BitVec 8)) (n : BitVec 64) (w0 : World)  (hT : Tabs (Y3 w0)) (hd : Y3 w0 bd = some (.cells #[(u32 x0), (u32 x1), (u32 x2), (u32 x3), (u32 x4), (u32 x5), (u32 x6), (u32 x7), sv, (u64 n)] 154 (0, 0))) (hrl : Rd (Y3 w0) u8 sv ll) (hll : ll.length < 64) : X8 Tryd.prog 87 #[(ptr bd 0)] w0 (fun r w1 => r = (agg u8 (Vb [x0, x1, x2, x3, x4, x5, x6, x7] ll n)) ∧ Ext w0 w1) := by
 refine Zp (args := [(ptr bd 0)]) Tryd.func87 rfl Tryd.ntmps87 Tryd.results87 rfl ?_
 have hm0 : Mem w0 (Qo w0) [] := Mem.of_world w0
 obtain ⟨Es, fzs, hTs⟩ := hT.start
 obtain ⟨Er, fzr, hTr⟩ := hT.round
 refine sR <| Zo rfl (Zy hm0 Z5) ?_
 rintro _ w1 ⟨b2, rfl, _ew1, hm1⟩
 refine rN (Qh ?_)
 refine G8 (J := fun g wv => ∃ (be : Nat) (svc : Value) (Hsc : List (Nat × Obj)), (Xx u8 5 svc ll Hsc) ∧ g 0 = (ptr bd 0) ∧ g 2 = (ptr b2 0) ∧ g 3 = (ptr be 0) ∧ Mem wv (Qo w0) ([(be, .cells #[(u32 x0), (u32 x1), (u32 x2), (u32 x3), (u32 x4), (u32 x5), (u32 x6), (u32 x7), svc, (u64 n)] 154 (0, 0))] ++ (Hsc ++ ([(b2, .cells (cl u8 (List.replicate 32 0)) 23 (0, 0))])))) ?_ ?_
 · skip
   refine Kz (by kernel_rfl) ?_
   refine re_or 8 14 rfl rfl ?_ ?_
   ·
     refine Nr [(0, false), (1, false), (2, false), (3, false), (4, false), (5, false), (6, false), (7, false), (9, false), (10, false), (11, false), (12, false), (8, true), (13, false), (14, true)] 15 rfl (by kernel_rfl) <| Qw rfl rfl (fun _ _hx => Qc (v := (ptr bd 0)) rfl) <| Qw rfl rfl (fun _ _hx => Zv rfl) <| Qw rfl rfl (fun _ _hx => Zr (r := 0) Jk rfl (by first | rfl | omega) Vw rfl rfl) <| Qw (v := (agg u32 ([x0, x1, x2, x3, x4, x5, x6, x7]))) rfl rfl (fun _ _hx => Qfm (c' := (cl u32 ([x0, x1, x2, x3, x4, x5, x6, x7]))) Wu rfl Vw rfl ((hm1.ext _hx).rest _ _ hd) (by kernel_rfl) (by kernel_rfl)) <| Qw rfl rfl (fun _ _hx => Qc (v := (ptr bd 0)) rfl) <| Qw rfl rfl (fun _ _hx => Zv rfl) <| Qw rfl rfl (fun _ _hx => Zr (r := 8) Jk rfl (by first | rfl | omega) Aj rfl rfl) <| Qw (v := sv) rfl rfl (fun _ _hx => Qy Z4 rfl rfl ((hm1.ext _hx).rest _ _ hd) rfl) <| Qw rfl rfl (fun _ _hx => Qc (v := (ptr bd 0)) rfl) <| Qw rfl rfl (fun _ _hx => Zv rfl) <| Qw rfl rfl (fun _ _hx => Zr (r := 9) Jk rfl (by first | rfl | omega) Z8 rfl rfl) ?_
     refine Qw (v := (u64 n)) rfl rfl (fun _ _hx => Qy X0 rfl rfl ((hm1.ext _hx).rest _ _ hd) rfl) ?_
     refine Lc rfl rfl (fun w2 _ew2 => ?_)
     have hm2 := hm1.ext _ew2
     refine Jr.mono (Qx Tryd.func34 bd34 nm34 (Ye rfl) (Qam sv ll _ (Rd.ofRest hrl hm2) sD)) ?_
     rintro rq4 w3 ⟨Hsq4, grq4, k_w3⟩
     refine ⟨k_w3.toExt, ?_⟩
     have hm3 : Mem w3 (Qo w0) (Hsq4 ++ ([(b2, .cells (cl u8 (List.replicate 32 0)) 23 (0, 0))])) := Mem.new (H := [(b2, .cells (cl u8 (List.replicate 32 0)) 23 (0, 0))]) (H' := Hsq4) hm2 k_w3
     refine Qw rfl rfl (fun _ _hx => Jh (c := #[(u32 x0), (u32 x1), (u32 x2), (u32 x3), (u32 x4), (u32 x5), (u32 x6), (u32 x7), rq4, (u64 n)]) (pl := [(0, 8), (8, 1), (9, 1)]) Qch Jk (by kernel_rfl) (Yh (i := 0) (v := (agg u32 ([x0, x1, x2, x3, x4, x5, x6, x7]))) (cs := (cl u32 ([x0, x1, x2, x3, x4, x5, x6, x7]))) rfl rfl (Yh (i := 1) (v := rq4) (cs := #[rq4]) rfl (Nu grq4.one) (Yh (i := 2) (v := (u64 n)) (cs := #[(u64 n)]) rfl rfl Wy))) (by kernel_rfl)) ?_
     refine Lc rfl rfl (fun w5 _ew5 => ?_)
     have hm5 := hm3.ext _ew5
     refine Jr.mono (Jc hm5 Qch) ?_
     rintro _ w6 ⟨b3, rfl, _ew6, hm6⟩
     refine ⟨_ew6, ?_⟩
     refine X3 (fun w7 _ew7 => ?_)
     have hm7 := hm6.ext _ew7
     refine Xf (Qa1 (cs := #[(u32 x0), (u32 x1), (u32 x2), (u32 x3), (u32 x4), (u32 x5), (u32 x6), (u32 x7), rq4, (u64 n)]) Qch rfl rfl (by kernel_rfl) (Qej (Q9 (Xq _) (Q9 (Xq _) (Q9 (Xq _) (Q9 (Xq _) (Q9 (Xq _) (Q9 (Xq _) (Q9 (Xq _) (Q9 (Xq _) (Q9 grq4.one (Q9 (Xa _) Zq))))))))))) hm7.h0 (by kernel_rfl) rfl) ?_
     rintro _ w8 uq8
     have hm8 : Mem w8 (Qo w0) ([(b3, .cells #[(u32 x0), (u32 x1), (u32 x2), (u32 x3), (u32 x4), (u32 x5), (u32 x6), (u32 x7), rq4, (u64 n)] 154 (0, 0))] ++ (Hsq4 ++ ([(b2, .cells (cl u8 (List.replicate 32 0)) 23 (0, 0))]))) := hm7.upd0 uq8
     refine rN ?_
     exact ⟨b3, rq4, Hsq4, grq4, rfl, rfl, rfl, hm8⟩
   ·
     refine Nr [(0, false), (1, false), (2, false), (3, false), (4, false), (5, false), (6, false), (7, false), (9, false), (10, false), (11, false), (12, false), (14, true), (8, true), (13, false)] 15 rfl (by kernel_rfl) <| Qw rfl rfl (fun _ _hx => Qc (v := (ptr bd 0)) rfl) <| Qw rfl rfl (fun _ _hx => Zv rfl) <| Qw rfl rfl (fun _ _hx => Zr (r := 0) Jk rfl (by first | rfl | omega) Vw rfl rfl) <| Qw (v := (agg u32 ([x0, x1, x2, x3, x4, x5, x6, x7]))) rfl rfl (fun _ _hx => Qfm (c' := (cl u32 ([x0, x1, x2, x3, x4, x5, x6, x7]))) Wu rfl Vw rfl ((hm1.ext _hx).rest _ _ hd) (by kernel_rfl) (by kernel_rfl)) <| Qw rfl rfl (fun _ _hx => Qc (v := (ptr bd 0)) rfl) <| Qw rfl rfl (fun _ _hx => Zv rfl) <| Qw rfl rfl (fun _ _hx => Zr (r := 8) Jk rfl (by first | rfl | omega) Aj rfl rfl) <| Qw (v := sv) rfl rfl (fun _ _hx => Qy Z4 rfl rfl ((hm1.ext _hx).rest _ _ hd) rfl) <| Qw rfl rfl (fun _ _hx => Qc (v := (ptr bd 0)) rfl) <| Qw rfl rfl (fun _ _hx => Zv rfl) <| Qw rfl rfl (fun _ _hx => Zr (r := 9) Jk rfl (by first | rfl | omega) Z8 rfl rfl) ?_
     refine Qw (v := (u64 n)) rfl rfl (fun _ _hx => Qy X0 rfl rfl ((hm1.ext _hx).rest _ _ hd) rfl) ?_
     refine Lc rfl rfl (fun w9 _ew9 => ?_)
     have hm9 := hm1.ext _ew9
     refine Jr.mono (Jc hm9 Qch) ?_
     rintro _ w10 ⟨b3_1, rfl, _ew10, hm10⟩
     refine ⟨_ew10, ?_⟩
     refine Lc rfl rfl (fun w11 _ew11 => ?_)
     have hm11 := hm10.ext _ew11
     refine Jr.mono (Qx Tryd.func34 bd34 nm34 (Ye rfl) (Qam sv ll _ (Rd.ofRest hrl hm11) sD)) ?_
     rintro rq13 w12 ⟨Hsq13, grq13, k_w12⟩
     refine ⟨k_w12.toExt, ?_⟩
     have hm12 : Mem w12 (Qo w0) (Hsq13 ++ ([(b3_1, .cells #[(u32 0), (u32 0), (u32 0), (u32 0), (u32 0), (u32 0), (u32 0), (u32 0), (Value.slice none 0 0), (u64 0)] 154 (0, 0)), (b2, .cells (cl u8 (List.replicate 32 0)) 23 (0, 0))])) := Mem.new (H := [(b3_1, .cells #[(u32 0), (u32 0), (u32 0), (u32 0), (u32 0), (u32 0), (u32 0), (u32 0), (Value.slice none 0 0), (u64 0)] 154 (0, 0)), (b2, .cells (cl u8 (List.replicate 32 0)) 23 (0, 0))]) (H' := Hsq13) hm11 k_w12
     refine Qw rfl rfl (fun _ _hx => Jh (c := #[(u32 x0), (u32 x1), (u32 x2), (u32 x3), (u32 x4), (u32 x5), (u32 x6), (u32 x7), rq13, (u64 n)]) (pl := [(0, 8), (8, 1), (9, 1)]) Qch Jk (by kernel_rfl) (Yh (i := 0) (v := (agg u32 ([x0, x1, x2, x3, x4, x5, x6, x7]))) (cs := (cl u32 ([x0, x1, x2, x3, x4, x5, x6, x7]))) rfl rfl (Yh (i := 1) (v := rq13) (cs := #[rq13]) rfl (Nu grq13.one) (Yh (i := 2) (v := (u64 n)) (cs := #[(u64 n)]) rfl rfl Wy))) (by kernel_rfl)) ?_
     refine X3 (fun w14 _ew14 => ?_)
     have hm14 := hm12.ext _ew14
     refine Xf (Qa1 (cs := #[(u32 x0), (u32 x1), (u32 x2), (u32 x3), (u32 x4), (u32 x5), (u32 x6), (u32 x7), rq13, (u64 n)]) Qch rfl rfl (by kernel_rfl) (Qej (Q9 (Xq _) (Q9 (Xq _) (Q9 (Xq _) (Q9 (Xq _) (Q9 (Xq _) (Q9 (Xq _) (Q9 (Xq _) (Q9 (Xq _) (Q9 grq13.one (Q9 (Xa _) Zq))))))))))) ((Mem.pick Hsq13 [_] _ hm14)).h0 (by kernel_rfl) rfl) ?_
     rintro _ w15 uq15
     have hm15 : Mem w15 (Qo w0) ([(b3_1, .cells #[(u32 x0), (u32 x1), (u32 x2), (u32 x3), (u32 x4), (u32 x5), (u32 x6), (u32 x7), rq13, (u64 n)] 154 (0, 0))] ++ (Hsq13 ++ ([(b2, .cells (cl u8 (List.replicate 32 0)) 23 (0, 0))]))) := Mem.upd0 (Mem.pick Hsq13 [_] _ hm14) uq15
     refine rN ?_
     exact ⟨b3_1, rq13, Hsq13, grq13, rfl, rfl, rfl, hm15⟩
 · rintro fr16 w17 ⟨be, svc, Hsc, gc, s0, s2, s3, hm17⟩
   refine sR <| Zo rfl (Xd u8 [128#8] Q8 hm17 Z4 Yq rfl rfl rfl) ?_
   rintro _ w18 ⟨b21, rfl, _ew18, hm18⟩
   refine Qb rfl (Qd (v := (Jt b21 0 1 1)) rfl) ?_
   refine rN (Qh (Qv ?_))
   refine Jg (fun g wv => ∃ (k : Nat) (pl : List (BitVec 8)) (sp : Value) (Hp : List (Nat × Obj)), (k ≤ (119 - ll.length) % 64) ∧ (pl = 128#8 :: List.replicate k 0#8) ∧ (Xx u8 5 sp pl Hp) ∧ g 0 = (ptr bd 0) ∧ g 2 = (ptr b2 0) ∧ g 3 = (ptr be 0) ∧ g 4 = sp ∧ Mem wv (Qo w0) (Hp ++ ([(be, .cells #[(u32 x0), (u32 x1), (u32 x2), (u32 x3), (u32 x4), (u32 x5), (u32 x6), (u32 x7), svc, (u64 n)] 154 (0, 0))] ++ (Hsc ++ ([(b2, .cells (cl u8 (List.replicate 32 0)) 23 (0, 0))]))))) (fun g wv => (119 - ll.length) % 64 + 2 - sllen (g 4)) ?_ ?_
   · exact ⟨0, [128#8], (Jt b21 0 1 1), [(b21, .cells (cl u8 ([128#8])) 5 (0, 0))], oM, rfl, (Xx.of u8 5 b21 [128#8]), s0, s2, s3, rfl, hm18⟩
   · rintro fr19 w20 ⟨k, pl, sp, Hp, hk, hpl, gp, s0, s2, s3, s4, hm20⟩
     have z4 := s4
     have hpn : pl.length = k + 1 := by rw [hpl]; simp
     refine Qh (sR ?_)
     refine Qb rfl (Zr (r := 8) Jk rfl (by first | rfl | omega) Aj rfl s3) <| Qb (v := svc) rfl (Qy Z4 rfl rfl ((Mem.pick Hp [_] _ hm20)).h0 rfl) <| Qb (v := (i64 (ll.length : Int))) rfl (Yi (gc.rd (Mem.pick2 Hp [_] Hsc _ hm20)) Z4 rfl) <| rM rfl s4 <| Qb (v := (i64 (pl.length : Int))) rfl (Yi (gp.rd hm20) Z4 rfl) <| Qb rfl (Qk rfl rfl oM oM) <| Qb rfl (Qk (b := 8) rfl rfl oM oM) <| Qb rfl (Jz (b := 64) rfl rfl oM oM oM) <| Qb rfl (Wn (b := 0) rfl rfl) <| rN ?_
     refine Xy rfl (fun hc21 => ?_) (fun hc21 => ?_)
     ·
       have hc21p := bne_iff_ne.1 hc21
       refine Zc (Qi (Uo (Qg ?_)))
       refine rM rfl s4 <| Zo rfl (Xd u8 [0#8] Q8 hm20 Z4 Yq rfl rfl rfl) ?_
       rintro _ w22 ⟨b32, rfl, _ew22, hm22⟩
       refine Zo rfl (Xt (f := u8) (Hs := Hp) (H := [(b32, .cells (cl u8 ([0#8])) 5 (0, 0)), (be, .cells #[(u32 x0), (u32 x1), (u32 x2), (u32 x3), (u32 x4), (u32 x5), (u32 x6), (u32 x7), svc, (u64 n)] 154 (0, 0))] ++ (Hsc ++ ([(b2, .cells (cl u8 (List.replicate 32 0)) 23 (0, 0))]))) (Mem.pick [_] Hp _ hm22) gp rfl rfl (Rd.mkA hm22.h0) Z4 Z4 Yq rfl Q8 sD sD) ?_
       rintro sv23 w23 ⟨Hs23, hm23, g23⟩
       replace g23 : Xx u8 5 sv23 (pl ++ ([0#8])) Hs23 := g23
       refine rA rfl (v := sv23) rfl ?_
       refine Zz (Qn (Qi ?_))
       have hm24 := Mem.drop ([(b32, .cells (cl u8 ([0#8])) 5 (0, 0))]) _ (Mem.pick Hs23 [_] _ hm23)
       exact ⟨⟨k + 1, pl ++ ([0#8]), sv23, Hs23, oM, (by rw [hpl, List.replicate_succ']; rfl), g23, s0, s2, s3, rfl, hm24⟩, (by show (119 - ll.length) % 64 + 2 - sllen sv23 < (119 - ll.length) % 64 + 2 - sllen _; rw [z4, gp.sllen, Xx.sllen g23]; simp [hpn]; omega)⟩
     ·
       have hc21p := Kr hc21
       have hpn : pl.length = k + 1 := by rw [hpl]; simp
       obtain rfl : k = (119 - ll.length) % 64 := by omega
       subst hpl
       refine Yb ?_
       refine Zb (Zb (Xw ?_))
       refine Qh (sR ?_)
       refine Qb rfl (Qd (v := (i64 7)) rfl) ?_
       refine rN (Qv ?_)
       refine Jw 9 ?_
       refine Zu (Qh (sR ?_))
       refine Qb rfl (Qc (v := (i64 7)) rfl) <| Qb rfl (Y2 (a := 7) (b := 0) rfl rfl) <| rN ?_
       refine CW.abs (fun g => g 0 = (ptr bd 0) ∧ g 2 = (ptr b2 0) ∧ g 3 = (ptr be 0) ∧ g 4 = sp ∧ g 5 = (i64 7) ∧ g 30 = (bl (((((ll.length : Int) + ((128#8 :: List.replicate ((119 - ll.length) % 64) 0#8).length : Int)) + 8) % 64) != 0)) ∧ g 35 = (bl true) ∧ True) ⟨s0, s2, s3, s4, rfl, rfl, rfl, trivial⟩ ?_
       rintro fr25 ⟨s0, s2, s3, s4, s5, s30, s35, _⟩
       refine Zf s35 (by decide) ?_
       refine Zc (Qi (Qh (Qv (Qg ?_))))
       refine rM rfl s4 <| rM rfl s0 <| Qb rfl (Zv rfl) <| Qb rfl (Zr (r := 9) Jk rfl (by first | rfl | omega) Z8 rfl rfl) <| Qb (v := (u64 n)) rfl (Qy X0 rfl rfl (hm20.rest _ _ hd) rfl) <| Qb rfl (V5 (b := 3) rfl rfl oM) <| rM rfl s5 <| Qb (v := (i64 56)) rfl (Xj (a := 8) (b := 7) rfl rfl oM oM) <| Qb rfl (X7 (b := 56) rfl rfl oM) <| Qb rfl (Yv ⟨_, X0⟩ Vh rfl) <| Zo rfl (Xd u8 [((n <<< 3) >>> 56).setWidth 8] Q8 hm20 Z4 Yq rfl rfl rfl) ?_
       rintro _ w26 ⟨b48, rfl, _ew26, hm26⟩
       refine Zo rfl (Xt (f := u8) (Hs := Hp) (H := [(b48, .cells (cl u8 ([((n <<< 3) >>> 56).setWidth 8])) 5 (0, 0)), (be, .cells #[(u32 x0), (u32 x1), (u32 x2), (u32 x3), (u32 x4), (u32 x5), (u32 x6), (u32 x7), svc, (u64 n)] 154 (0, 0))] ++ (Hsc ++ ([(b2, .cells (cl u8 (List.replicate 32 0)) 23 (0, 0))]))) (Mem.pick [_] Hp _ hm26) gp rfl rfl (Rd.mkA hm26.h0) Z4 Z4 Yq rfl Q8 sD sD) ?_
       rintro sv27 w27 ⟨Hs27, hm27, g27⟩
       replace g27 : Xx u8 5 sv27 ((128#8 :: List.replicate ((119 - ll.length) % 64) 0#8) ++ ([((n <<< 3) >>> 56).setWidth 8])) Hs27 := g27
       refine rA rfl (v := sv27) rfl ?_
       refine Zz (Qn ?_)
       have hm28 := Mem.drop ([(b48, .cells (cl u8 ([((n <<< 3) >>> 56).setWidth 8])) 5 (0, 0))]) _ (Mem.pick Hs27 [_] _ hm27)
       refine CW.abs (fun g => g 0 = (ptr bd 0) ∧ g 2 = (ptr b2 0) ∧ g 3 = (ptr be 0) ∧ g 4 = sv27 ∧ g 5 = (i64 7) ∧ g 30 = (bl (((((ll.length : Int) + ((128#8 :: List.replicate ((119 - ll.length) % 64) 0#8).length : Int)) + 8) % 64) != 0)) ∧ g 35 = (bl true) ∧ True) ⟨s0, s2, s3, rfl, s5, s30, s35, trivial⟩ ?_
       rintro fr29 ⟨s0, s2, s3, s4, s5, s30, s35, _⟩
       refine Qg <| rM rfl s5 <| Qb (v := (i64 6)) rfl (Yo (a := 7) (b := 1) rfl rfl oM oM) <| Qb rfl (Qd (v := (i64 6)) rfl) ?_
       refine rN (Zu (Qh (sR ?_)))
       refine Qb rfl (Qc (v := (i64 6)) rfl) <| Qb rfl (Y2 (a := 6) (b := 0) rfl rfl) <| rN <| Zf rfl (by decide) ?_
       refine Zc (Qi (Qh (Qv (Qg ?_))))
       refine rM rfl s4 <| rM rfl s0 <| Qb rfl (Zv rfl) <| Qb rfl (Zr (r := 9) Jk rfl (by first | rfl | omega) Z8 rfl rfl) <| Qb (v := (u64 n)) rfl (Qy X0 rfl rfl (hm28.rest _ _ hd) rfl) <| Qb rfl (V5 (b := 3) rfl rfl oM) <| Qb rfl (Qc (v := (i64 6)) rfl) <| Qb (v := (i64 48)) rfl (Xj (a := 8) (b := 6) rfl rfl oM oM) <| Qb rfl (X7 (b := 48) rfl rfl oM) <| Qb rfl (Yv ⟨_, X0⟩ Vh rfl) <| Zo rfl (Xd u8 [((n <<< 3) >>> 48).setWidth 8] Q8 hm28 Z4 Yq rfl rfl rfl) ?_
       rintro _ w30 ⟨b48_1, rfl, _ew30, hm30⟩
       refine Zo rfl (Xt (f := u8) (Hs := Hs27) (H := [(b48_1, .cells (cl u8 ([((n <<< 3) >>> 48).setWidth 8])) 5 (0, 0)), (be, .cells #[(u32 x0), (u32 x1), (u32 x2), (u32 x3), (u32 x4), (u32 x5), (u32 x6), (u32 x7), svc, (u64 n)] 154 (0, 0))] ++ (Hsc ++ ([(b2, .cells (cl u8 (List.replicate 32 0)) 23 (0, 0))]))) (Mem.pick [_] Hs27 _ hm30) g27 rfl rfl (Rd.mkA hm30.h0) Z4 Z4 Yq rfl Q8 sD sD) ?_
       rintro sv31 w31 ⟨Hs31, hm31, g31⟩
       replace g31 : Xx u8 5 sv31 (((128#8 :: List.replicate ((119 - ll.length) % 64) 0#8) ++ ([((n <<< 3) >>> 56).setWidth 8])) ++ ([((n <<< 3) >>> 48).setWidth 8])) Hs31 := g31
       refine rA rfl (v := sv31) rfl ?_
       refine Zz (Qn ?_)
       have hm32 := Mem.drop ([(b48_1, .cells (cl u8 ([((n <<< 3) >>> 48).setWidth 8])) 5 (0, 0))]) _ (Mem.pick Hs31 [_] _ hm31)
       refine CW.abs (fun g => g 0 = (ptr bd 0) ∧ g 2 = (ptr b2 0) ∧ g 3 = (ptr be 0) ∧ g 4 = sv31 ∧ g 5 = (i64 6) ∧ g 30 = (bl (((((ll.length : Int) + ((128#8 :: List.replicate ((119 - ll.length) % 64) 0#8).length : Int)) + 8) % 64) != 0)) ∧ g 35 = (bl true) ∧ True) ⟨s0, s2, s3, rfl, rfl, s30, rfl, trivial⟩ ?_
       rintro fr33 ⟨s0, s2, s3, s4, s5, s30, s35, _⟩
       refine Qg <| rM rfl s5 <| Qb (v := (i64 5)) rfl (Yo (a := 6) (b := 1) rfl rfl oM oM) <| Qb rfl (Qd (v := (i64 5)) rfl) ?_
       refine rN (Zu (Qh (sR ?_)))
       refine Qb rfl (Qc (v := (i64 5)) rfl) <| Qb rfl (Y2 (a := 5) (b := 0) rfl rfl) <| rN <| Zf rfl (by decide) ?_
       refine Zc (Qi (Qh (Qv (Qg ?_))))
       refine rM rfl s4 <| rM rfl s0 <| Qb rfl (Zv rfl) <| Qb rfl (Zr (r := 9) Jk rfl (by first | rfl | omega) Z8 rfl rfl) <| Qb (v := (u64 n)) rfl (Qy X0 rfl rfl (hm32.rest _ _ hd) rfl) <| Qb rfl (V5 (b := 3) rfl rfl oM) <| Qb rfl (Qc (v := (i64 5)) rfl) <| Qb (v := (i64 40)) rfl (Xj (a := 8) (b := 5) rfl rfl oM oM) <| Qb rfl (X7 (b := 40) rfl rfl oM) <| Qb rfl (Yv ⟨_, X0⟩ Vh rfl) <| Zo rfl (Xd u8 [((n <<< 3) >>> 40).setWidth 8] Q8 hm32 Z4 Yq rfl rfl rfl) ?_
       rintro _ w34 ⟨b48_2, rfl, _ew34, hm34⟩
       refine Zo rfl (Xt (f := u8) (Hs := Hs31) (H := [(b48_2, .cells (cl u8 ([((n <<< 3) >>> 40).setWidth 8])) 5 (0, 0)), (be, .cells #[(u32 x0), (u32 x1), (u32 x2), (u32 x3), (u32 x4), (u32 x5), (u32 x6), (u32 x7), svc, (u64 n)] 154 (0, 0))] ++ (Hsc ++ ([(b2, .cells (cl u8 (List.replicate 32 0)) 23 (0, 0))]))) (Mem.pick [_] Hs31 _ hm34) g31 rfl rfl (Rd.mkA hm34.h0) Z4 Z4 Yq rfl Q8 sD sD) ?_
       rintro sv35 w35 ⟨Hs35, hm35, g35⟩
       replace g35 : Xx u8 5 sv35 ((((128#8 :: List.replicate ((119 - ll.length) % 64) 0#8) ++ ([((n <<< 3) >>> 56).setWidth 8])) ++ ([((n <<< 3) >>> 48).setWidth 8])) ++ ([((n <<< 3) >>> 40).setWidth 8])) Hs35 := g35
       refine rA rfl (v := sv35) rfl ?_
       refine Zz (Qn ?_)
       have hm36 := Mem.drop ([(b48_2, .cells (cl u8 ([((n <<< 3) >>> 40).setWidth 8])) 5 (0, 0))]) _ (Mem.pick Hs35 [_] _ hm35)
       refine CW.abs (fun g => g 0 = (ptr bd 0) ∧ g 2 = (ptr b2 0) ∧ g 3 = (ptr be 0) ∧ g 4 = sv35 ∧ g 5 = (i64 5) ∧ g 30 = (bl (((((ll.length : Int) + ((128#8 :: List.replicate ((119 - ll.length) % 64) 0#8).length : Int)) + 8) % 64) != 0)) ∧ g 35 = (bl true) ∧ True) ⟨s0, s2, s3, rfl, rfl, s30, rfl, trivial⟩ ?_
       rintro fr37 ⟨s0, s2, s3, s4, s5, s30, s35, _⟩
       refine Qg <| rM rfl s5 <| Qb (v := (i64 4)) rfl (Yo (a := 5) (b := 1) rfl rfl oM oM) <| Qb rfl (Qd (v := (i64 4)) rfl) ?_
       refine rN (Zu (Qh (sR ?_)))
       refine Qb rfl (Qc (v := (i64 4)) rfl) <| Qb rfl (Y2 (a := 4) (b := 0) rfl rfl) <| rN <| Zf rfl (by decide) ?_
       refine Zc (Qi (Qh (Qv (Qg ?_))))
       refine rM rfl s4 <| rM rfl s0 <| Qb rfl (Zv rfl) <| Qb rfl (Zr (r := 9) Jk rfl (by first | rfl | omega) Z8 rfl rfl) <| Qb (v := (u64 n)) rfl (Qy X0 rfl rfl (hm36.rest _ _ hd) rfl) <| Qb rfl (V5 (b := 3) rfl rfl oM) <| Qb rfl (Qc (v := (i64 4)) rfl) <| Qb (v := (i64 32)) rfl (Xj (a := 8) (b := 4) rfl rfl oM oM) <| Qb rfl (X7 (b := 32) rfl rfl oM) <| Qb rfl (Yv ⟨_, X0⟩ Vh rfl) <| Zo rfl (Xd u8 [((n <<< 3) >>> 32).setWidth 8] Q8 hm36 Z4 Yq rfl rfl rfl) ?_
       rintro _ w38 ⟨b48_3, rfl, _ew38, hm38⟩
       refine Zo rfl (Xt (f := u8) (Hs := Hs35) (H := [(b48_3, .cells (cl u8 ([((n <<< 3) >>> 32).setWidth 8])) 5 (0, 0)), (be, .cells #[(u32 x0), (u32 x1), (u32 x2), (u32 x3), (u32 x4), (u32 x5), (u32 x6), (u32 x7), svc, (u64 n)] 154 (0, 0))] ++ (Hsc ++ ([(b2, .cells (cl u8 (List.replicate 32 0)) 23 (0, 0))]))) (Mem.pick [_] Hs35 _ hm38) g35 rfl rfl (Rd.mkA hm38.h0) Z4 Z4 Yq rfl Q8 sD sD) ?_
       rintro sv39 w39 ⟨Hs39, hm39, g39⟩
       replace g39 : Xx u8 5 sv39 (((((128#8 :: List.replicate ((119 - ll.length) % 64) 0#8) ++ ([((n <<< 3) >>> 56).setWidth 8])) ++ ([((n <<< 3) >>> 48).setWidth 8])) ++ ([((n <<< 3) >>> 40).setWidth 8])) ++ ([((n <<< 3) >>> 32).setWidth 8])) Hs39 := g39
       refine rA rfl (v := sv39) rfl ?_
       refine Zz (Qn ?_)
       have hm40 := Mem.drop ([(b48_3, .cells (cl u8 ([((n <<< 3) >>> 32).setWidth 8])) 5 (0, 0))]) _ (Mem.pick Hs39 [_] _ hm39)
       refine CW.abs (fun g => g 0 = (ptr bd 0) ∧ g 2 = (ptr b2 0) ∧ g 3 = (ptr be 0) ∧ g 4 = sv39 ∧ g 5 = (i64 4) ∧ g 30 = (bl (((((ll.length : Int) + ((128#8 :: List.replicate ((119 - ll.length) % 64) 0#8).length : Int)) + 8) % 64) != 0)) ∧ g 35 = (bl true) ∧ True) ⟨s0, s2, s3, rfl, rfl, s30, rfl, trivial⟩ ?_
       rintro fr41 ⟨s0, s2, s3, s4, s5, s30, s35, _⟩
       refine Qg <| rM rfl s5 <| Qb (v := (i64 3)) rfl (Yo (a := 4) (b := 1) rfl rfl oM oM) <| Qb rfl (Qd (v := (i64 3)) rfl) ?_
       refine rN (Zu (Qh (sR ?_)))
       refine Qb rfl (Qc (v := (i64 3)) rfl) <| Qb rfl (Y2 (a := 3) (b := 0) rfl rfl) <| rN <| Zf rfl (by decide) ?_
       refine Zc (Qi (Qh (Qv (Qg ?_))))
       refine rM rfl s4 <| rM rfl s0 <| Qb rfl (Zv rfl) <| Qb rfl (Zr (r := 9) Jk rfl (by first | rfl | omega) Z8 rfl rfl) <| Qb (v := (u64 n)) rfl (Qy X0 rfl rfl (hm40.rest _ _ hd) rfl) <| Qb rfl (V5 (b := 3) rfl rfl oM) <| Qb rfl (Qc (v := (i64 3)) rfl) <| Qb (v := (i64 24)) rfl (Xj (a := 8) (b := 3) rfl rfl oM oM) <| Qb rfl (X7 (b := 24) rfl rfl oM) <| Qb rfl (Yv ⟨_, X0⟩ Vh rfl) <| Zo rfl (Xd u8 [((n <<< 3) >>> 24).setWidth 8] Q8 hm40 Z4 Yq rfl rfl rfl) ?_
       rintro _ w42 ⟨b48_4, rfl, _ew42, hm42⟩
       refine Zo rfl (Xt (f := u8) (Hs := Hs39) (H := [(b48_4, .cells (cl u8 ([((n <<< 3) >>> 24).setWidth 8])) 5 (0, 0)), (be, .cells #[(u32 x0), (u32 x1), (u32 x2), (u32 x3), (u32 x4), (u32 x5), (u32 x6), (u32 x7), svc, (u64 n)] 154 (0, 0))] ++ (Hsc ++ ([(b2, .cells (cl u8 (List.replicate 32 0)) 23 (0, 0))]))) (Mem.pick [_] Hs39 _ hm42) g39 rfl rfl (Rd.mkA hm42.h0) Z4 Z4 Yq rfl Q8 sD sD) ?_
       rintro sv43 w43 ⟨Hs43, hm43, g43⟩
       replace g43 : Xx u8 5 sv43 ((((((128#8 :: List.replicate ((119 - ll.length) % 64) 0#8) ++ ([((n <<< 3) >>> 56).setWidth 8])) ++ ([((n <<< 3) >>> 48).setWidth 8])) ++ ([((n <<< 3) >>> 40).setWidth 8])) ++ ([((n <<< 3) >>> 32).setWidth 8])) ++ ([((n <<< 3) >>> 24).setWidth 8])) Hs43 := g43
       refine rA rfl (v := sv43) rfl ?_
       refine Zz (Qn ?_)
       have hm44 := Mem.drop ([(b48_4, .cells (cl u8 ([((n <<< 3) >>> 24).setWidth 8])) 5 (0, 0))]) _ (Mem.pick Hs43 [_] _ hm43)
       refine CW.abs (fun g => g 0 = (ptr bd 0) ∧ g 2 = (ptr b2 0) ∧ g 3 = (ptr be 0) ∧ g 4 = sv43 ∧ g 5 = (i64 3) ∧ g 30 = (bl (((((ll.length : Int) + ((128#8 :: List.replicate ((119 - ll.length) % 64) 0#8).length : Int)) + 8) % 64) != 0)) ∧ g 35 = (bl true) ∧ True) ⟨s0, s2, s3, rfl, rfl, s30, rfl, trivial⟩ ?_
       rintro fr45 ⟨s0, s2, s3, s4, s5, s30, s35, _⟩
       refine Qg <| rM rfl s5 <| Qb (v := (i64 2)) rfl (Yo (a := 3) (b := 1) rfl rfl oM oM) <| Qb rfl (Qd (v := (i64 2)) rfl) ?_
       refine rN (Zu (Qh (sR ?_)))
       refine Qb rfl (Qc (v := (i64 2)) rfl) <| Qb rfl (Y2 (a := 2) (b := 0) rfl rfl) <| rN <| Zf rfl (by decide) ?_
       refine Zc (Qi (Qh (Qv (Qg ?_))))
       refine rM rfl s4 <| rM rfl s0 <| Qb rfl (Zv rfl) <| Qb rfl (Zr (r := 9) Jk rfl (by first | rfl | omega) Z8 rfl rfl) <| Qb (v := (u64 n)) rfl (Qy X0 rfl rfl (hm44.rest _ _ hd) rfl) <| Qb rfl (V5 (b := 3) rfl rfl oM) <| Qb rfl (Qc (v := (i64 2)) rfl) <| Qb (v := (i64 16)) rfl (Xj (a := 8) (b := 2) rfl rfl oM oM) <| Qb rfl (X7 (b := 16) rfl rfl oM) <| Qb rfl (Yv ⟨_, X0⟩ Vh rfl) <| Zo rfl (Xd u8 [((n <<< 3) >>> 16).setWidth 8] Q8 hm44 Z4 Yq rfl rfl rfl) ?_
       rintro _ w46 ⟨b48_5, rfl, _ew46, hm46⟩
       refine Zo rfl (Xt (f := u8) (Hs := Hs43) (H := [(b48_5, .cells (cl u8 ([((n <<< 3) >>> 16).setWidth 8])) 5 (0, 0)), (be, .cells #[(u32 x0), (u32 x1), (u32 x2), (u32 x3), (u32 x4), (u32 x5), (u32 x6), (u32 x7), svc, (u64 n)] 154 (0, 0))] ++ (Hsc ++ ([(b2, .cells (cl u8 (List.replicate 32 0)) 23 (0, 0))]))) (Mem.pick [_] Hs43 _ hm46) g43 rfl rfl (Rd.mkA hm46.h0) Z4 Z4 Yq rfl Q8 sD sD) ?_
       rintro sv47 w47 ⟨Hs47, hm47, g47⟩
       replace g47 : Xx u8 5 sv47 (((((((128#8 :: List.replicate ((119 - ll.length) % 64) 0#8) ++ ([((n <<< 3) >>> 56).setWidth 8])) ++ ([((n <<< 3) >>> 48).setWidth 8])) ++ ([((n <<< 3) >>> 40).setWidth 8])) ++ ([((n <<< 3) >>> 32).setWidth 8])) ++ ([((n <<< 3) >>> 24).setWidth 8])) ++ ([((n <<< 3) >>> 16).setWidth 8])) Hs47 := g47
       refine rA rfl (v := sv47) rfl ?_
       refine Zz (Qn ?_)
       have hm48 := Mem.drop ([(b48_5, .cells (cl u8 ([((n <<< 3) >>> 16).setWidth 8])) 5 (0, 0))]) _ (Mem.pick Hs47 [_] _ hm47)
       refine CW.abs (fun g => g 0 = (ptr bd 0) ∧ g 2 = (ptr b2 0) ∧ g 3 = (ptr be 0) ∧ g 4 = sv47 ∧ g 5 = (i64 2) ∧ g 30 = (bl (((((ll.length : Int) + ((128#8 :: List.replicate ((119 - ll.length) % 64) 0#8).length : Int)) + 8) % 64) != 0)) ∧ g 35 = (bl true) ∧ True) ⟨s0, s2, s3, rfl, rfl, s30, rfl, trivial⟩ ?_
       rintro fr49 ⟨s0, s2, s3, s4, s5, s30, s35, _⟩
       refine Qg <| rM rfl s5 <| Qb (v := (i64 1)) rfl (Yo (a := 2) (b := 1) rfl rfl oM oM) <| Qb rfl (Qd (v := (i64 1)) rfl) ?_
       refine rN (Zu (Qh (sR ?_)))
       refine Qb rfl (Qc (v := (i64 1)) rfl) <| Qb rfl (Y2 (a := 1) (b := 0) rfl rfl) <| rN <| Zf rfl (by decide) ?_
       refine Zc (Qi (Qh (Qv (Qg ?_))))
       refine rM rfl s4 <| rM rfl s0 <| Qb rfl (Zv rfl) <| Qb rfl (Zr (r := 9) Jk rfl (by first | rfl | omega) Z8 rfl rfl) <| Qb (v := (u64 n)) rfl (Qy X0 rfl rfl (hm48.rest _ _ hd) rfl) <| Qb rfl (V5 (b := 3) rfl rfl oM) <| Qb rfl (Qc (v := (i64 1)) rfl) <| Qb (v := (i64 8)) rfl (Xj (a := 8) (b := 1) rfl rfl oM oM) <| Qb rfl (X7 (b := 8) rfl rfl oM) <| Qb rfl (Yv ⟨_, X0⟩ Vh rfl) <| Zo rfl (Xd u8 [((n <<< 3) >>> 8).setWidth 8] Q8 hm48 Z4 Yq rfl rfl rfl) ?_
       rintro _ w50 ⟨b48_6, rfl, _ew50, hm50⟩
       refine Zo rfl (Xt (f := u8) (Hs := Hs47) (H := [(b48_6, .cells (cl u8 ([((n <<< 3) >>> 8).setWidth 8])) 5 (0, 0)), (be, .cells #[(u32 x0), (u32 x1), (u32 x2), (u32 x3), (u32 x4), (u32 x5), (u32 x6), (u32 x7), svc, (u64 n)] 154 (0, 0))] ++ (Hsc ++ ([(b2, .cells (cl u8 (List.replicate 32 0)) 23 (0, 0))]))) (Mem.pick [_] Hs47 _ hm50) g47 rfl rfl (Rd.mkA hm50.h0) Z4 Z4 Yq rfl Q8 sD sD) ?_
       rintro sv51 w51 ⟨Hs51, hm51, g51⟩
       replace g51 : Xx u8 5 sv51 ((((((((128#8 :: List.replicate ((119 - ll.length) % 64) 0#8) ++ ([((n <<< 3) >>> 56).setWidth 8])) ++ ([((n <<< 3) >>> 48).setWidth 8])) ++ ([((n <<< 3) >>> 40).setWidth 8])) ++ ([((n <<< 3) >>> 32).setWidth 8])) ++ ([((n <<< 3) >>> 24).setWidth 8])) ++ ([((n <<< 3) >>> 16).setWidth 8])) ++ ([((n <<< 3) >>> 8).setWidth 8])) Hs51 := g51
       refine rA rfl (v := sv51) rfl ?_
       refine Zz (Qn ?_)
       have hm52 := Mem.drop ([(b48_6, .cells (cl u8 ([((n <<< 3) >>> 8).setWidth 8])) 5 (0, 0))]) _ (Mem.pick Hs51 [_] _ hm51)
       refine CW.abs (fun g => g 0 = (ptr bd 0) ∧ g 2 = (ptr b2 0) ∧ g 3 = (ptr be 0) ∧ g 4 = sv51 ∧ g 5 = (i64 1) ∧ g 30 = (bl (((((ll.length : Int) + ((128#8 :: List.replicate ((119 - ll.length) % 64) 0#8).length : Int)) + 8) % 64) != 0)) ∧ g 35 = (bl true) ∧ True) ⟨s0, s2, s3, rfl, rfl, s30, rfl, trivial⟩ ?_
       rintro fr53 ⟨s0, s2, s3, s4, s5, s30, s35, _⟩
       refine Qg <| rM rfl s5 <| Qb (v := (i64 0)) rfl (Yo (a := 1) (b := 1) rfl rfl oM oM) <| Qb rfl (Qd (v := (i64 0)) rfl) ?_
       refine rN (Zu (Qh (sR ?_)))
       refine Qb rfl (Qc (v := (i64 0)) rfl) <| Qb rfl (Y2 (a := 0) (b := 0) rfl rfl) <| rN <| Zf rfl (by decide) ?_
       refine Zc (Qi (Qh (Qv (Qg ?_))))
       refine rM rfl s4 <| rM rfl s0 <| Qb rfl (Zv rfl) <| Qb rfl (Zr (r := 9) Jk rfl (by first | rfl | omega) Z8 rfl rfl) <| Qb (v := (u64 n)) rfl (Qy X0 rfl rfl (hm52.rest _ _ hd) rfl) <| Qb rfl (V5 (b := 3) rfl rfl oM) <| Qb rfl (Qc (v := (i64 0)) rfl) <| Qb (v := (i64 0)) rfl (Xj (a := 8) (b := 0) rfl rfl oM oM) <| Qb rfl (X7 (b := 0) rfl rfl oM) <| Qb rfl (Yv ⟨_, X0⟩ Vh rfl) <| Zo rfl (Xd u8 [((n <<< 3) >>> 0).setWidth 8] Q8 hm52 Z4 Yq rfl rfl rfl) ?_
       rintro _ w54 ⟨b48_7, rfl, _ew54, hm54⟩
       refine Zo rfl (Xt (f := u8) (Hs := Hs51) (H := [(b48_7, .cells (cl u8 ([((n <<< 3) >>> 0).setWidth 8])) 5 (0, 0)), (be, .cells #[(u32 x0), (u32 x1), (u32 x2), (u32 x3), (u32 x4), (u32 x5), (u32 x6), (u32 x7), svc, (u64 n)] 154 (0, 0))] ++ (Hsc ++ ([(b2, .cells (cl u8 (List.replicate 32 0)) 23 (0, 0))]))) (Mem.pick [_] Hs51 _ hm54) g51 rfl rfl (Rd.mkA hm54.h0) Z4 Z4 Yq rfl Q8 sD sD) ?_
       rintro sv55 w55 ⟨Hs55, hm55, g55⟩
       replace g55 : Xx u8 5 sv55 (((((((((128#8 :: List.replicate ((119 - ll.length) % 64) 0#8) ++ ([((n <<< 3) >>> 56).setWidth 8])) ++ ([((n <<< 3) >>> 48).setWidth 8])) ++ ([((n <<< 3) >>> 40).setWidth 8])) ++ ([((n <<< 3) >>> 32).setWidth 8])) ++ ([((n <<< 3) >>> 24).setWidth 8])) ++ ([((n <<< 3) >>> 16).setWidth 8])) ++ ([((n <<< 3) >>> 8).setWidth 8])) ++ ([((n <<< 3) >>> 0).setWidth 8])) Hs55 := g55
       refine rA rfl (v := sv55) rfl ?_
       refine Zz (Qn ?_)
       have hm56 := Mem.drop ([(b48_7, .cells (cl u8 ([((n <<< 3) >>> 0).setWidth 8])) 5 (0, 0))]) _ (Mem.pick Hs55 [_] _ hm55)
       refine CW.abs (fun g => g 0 = (ptr bd 0) ∧ g 2 = (ptr b2 0) ∧ g 3 = (ptr be 0) ∧ g 4 = sv55 ∧ g 5 = (i64 0) ∧ g 30 = (bl (((((ll.length : Int) + ((128#8 :: List.replicate ((119 - ll.length) % 64) 0#8).length : Int)) + 8) % 64) != 0)) ∧ g 35 = (bl true) ∧ True) ⟨s0, s2, s3, rfl, rfl, s30, rfl, trivial⟩ ?_
       rintro fr57 ⟨s0, s2, s3, s4, s5, s30, s35, _⟩
       refine Qg <| rM rfl s5 <| Qb (v := (i64 (-1))) rfl (Yo (a := 0) (b := 1) rfl rfl oM oM) <| Qb rfl (Qd (v := (i64 (-1))) rfl) ?_
       refine rN (Zu (Qh (sR ?_)))
       refine Qb rfl (Qc (v := (i64 (-1))) rfl) <| Qb rfl (Y2 (a := (-1)) (b := 0) rfl rfl) <| rN <| Yt rfl (by decide) <| Yb ?_
       refine Zb (Zb (Xw ?_))
       refine Qh ?_
       have hpad : ((((((((128#8 :: List.replicate ((119 - ll.length) % 64) 0#8) ++ ([((n <<< 3) >>> 56).setWidth 8])) ++ ([((n <<< 3) >>> 48).setWidth 8])) ++ ([((n <<< 3) >>> 40).setWidth 8])) ++ ([((n <<< 3) >>> 32).setWidth 8])) ++ ([((n <<< 3) >>> 24).setWidth 8])) ++ ([((n <<< 3) >>> 16).setWidth 8])) ++ ([((n <<< 3) >>> 8).setWidth 8])) ++ ([((n <<< 3) >>> 0).setWidth 8]) = padP n ll.length := by simp [padP, lenB]
       refine Qg <| rM rfl s4 ?_
       have hF59 : Mem w55 (Qo w0) (([(be, .cells #[(u32 x0), (u32 x1), (u32 x2), (u32 x3), (u32 x4), (u32 x5), (u32 x6), (u32 x7), svc, (u64 n)] 154 (0, 0))] ++ (Hsc ++ ([]))) ++ (Hs55 ++ ([(b2, .cells (cl u8 (List.replicate 32 0)) 23 (0, 0))]))) := by
         have hT := (Mem.pick2 Hsc Hs55 [_] _ (Mem.pick2 Hs55 [_] Hsc _ hm56))
         try simp only [List.append_assoc, List.cons_append, List.nil_append, List.append_nil] at hT ⊢
         exact hT
       refine Zo rfl (Qx Tryd.func85 bd85 nm85 (Yk s3 rfl) (Qca be x0 x1 x2 x3 x4 x5 x6 x7 svc ll Hsc n sv55 (((((((((128#8 :: List.replicate ((119 - ll.length) % 64) 0#8) ++ ([((n <<< 3) >>> 56).setWidth 8])) ++ ([((n <<< 3) >>> 48).setWidth 8])) ++ ([((n <<< 3) >>> 40).setWidth 8])) ++ ([((n <<< 3) >>> 32).setWidth 8])) ++ ([((n <<< 3) >>> 24).setWidth 8])) ++ ([((n <<< 3) >>> 16).setWidth 8])) ++ ([((n <<< 3) >>> 8).setWidth 8])) ++ ([((n <<< 3) >>> 0).setWidth 8])) _ _ (Mem.give hF59) (hT.mono fun b o e => Mem.addRest hF59 e) (g55.rdAdd hF59 (fun p hp => (List.mem_append_left _ hp))) gc sD)) ?_
       rintro _ w58 ⟨y0q60, y1q60, y2q60, y3q60, y4q60, y5q60, y6q60, y7q60, sv2q60, Hs2q60, hyq60, gl2q60, k_w58⟩
       have hm58 : Mem w58 (Qo w0) ([(be, .cells #[(u32 y0q60), (u32 y1q60), (u32 y2q60), (u32 y3q60), (u32 y4q60), (u32 y5q60), (u32 y6q60), (u32 y7q60), sv2q60, (u64 (n + BitVec.ofInt 64 ((((((((((128#8 :: List.replicate ((119 - ll.length) % 64) 0#8) ++ ([((n <<< 3) >>> 56).setWidth 8])) ++ ([((n <<< 3) >>> 48).setWidth 8])) ++ ([((n <<< 3) >>> 40).setWidth 8])) ++ ([((n <<< 3) >>> 32).setWidth 8])) ++ ([((n <<< 3) >>> 24).setWidth 8])) ++ ([((n <<< 3) >>> 16).setWidth 8])) ++ ([((n <<< 3) >>> 8).setWidth 8])) ++ ([((n <<< 3) >>> 0).setWidth 8])).length : Int)))] 154 (0, 0))] ++ (Hs2q60 ++ (Hs55 ++ ([(b2, .cells (cl u8 (List.replicate 32 0)) 23 (0, 0))])))) := (by
         have hT := Mem.back hF59 k_w58
         try simp only [List.append_assoc, List.cons_append, List.nil_append, List.append_nil] at hT ⊢
         exact hT)
       rw [hpad] at hyq60
       refine rN (Qh (sR ?_))
       refine Qb rfl (Qc (v := (i64 0)) rfl) ?_
       refine rN (Qv ?_)
       refine Jg (fun g wv => ∃ (e : Nat), (e ≤ 32) ∧ g 0 = (ptr bd 0) ∧ g 2 = (ptr b2 0) ∧ g 3 = (ptr be 0) ∧ g 4 = sv55 ∧ g 5 = (i64 (-1)) ∧ g 30 = (bl (((((ll.length : Int) + ((128#8 :: List.replicate ((119 - ll.length) % 64) 0#8).length : Int)) + 8) % 64) != 0)) ∧ g 35 = (bl false) ∧ g 52 = (i64 (e : Int)) ∧ Mem wv (Qo w0) ([(be, .cells #[(u32 y0q60), (u32 y1q60), (u32 y2q60), (u32 y3q60), (u32 y4q60), (u32 y5q60), (u32 y6q60), (u32 y7q60), sv2q60, (u64 (n + BitVec.ofInt 64 ((((((((((128#8 :: List.replicate ((119 - ll.length) % 64) 0#8) ++ ([((n <<< 3) >>> 56).setWidth 8])) ++ ([((n <<< 3) >>> 48).setWidth 8])) ++ ([((n <<< 3) >>> 40).setWidth 8])) ++ ([((n <<< 3) >>> 32).setWidth 8])) ++ ([((n <<< 3) >>> 24).setWidth 8])) ++ ([((n <<< 3) >>> 16).setWidth 8])) ++ ([((n <<< 3) >>> 8).setWidth 8])) ++ ([((n <<< 3) >>> 0).setWidth 8])).length : Int)))] 154 (0, 0))] ++ (Hs2q60 ++ (Hs55 ++ ([(b2, .cells (cl u8 (Jp (fun q => ([y0q60, y1q60, y2q60, y3q60, y4q60, y5q60, y6q60, y7q60].getD (q / 4) 0 >>> (24 - 8 * (q % 4))).setWidth 8) 0 32 e)) 23 (0, 0))]))))) (fun g wv => (32 - RowKit.intOf (g 52)).toNat) ?_ ?_
       · exact ⟨0, oM, s0, s2, s3, s4, rfl, s30, rfl, rfl, (by rw [Ew]; exact hm58)⟩
       · rintro fr61 w62 ⟨e, he, s0, s2, s3, s4, s5, s30, s35, s52, hm62⟩
         have z52 := s52
         have hfl : (Jp (fun q => ([y0q60, y1q60, y2q60, y3q60, y4q60, y5q60, y6q60, y7q60].getD (q / 4) 0 >>> (24 - 8 * (q % 4))).setWidth 8) (0 : BitVec 8) 32 e).length = 32 := Em _ _ _ _ he
         refine sR <| Qb rfl (Qs (b := 32) s52 rfl) ?_
         refine rN (Qh ?_)
         refine Xy rfl (fun hc63 => ?_) (fun hc63 => ?_)
         ·
           have hc63p := of_decide_eq_true hc63
           refine Zc (Qi (Qh (Qv (sR ?_))))
           refine rM rfl s52 <| Qb rfl (Qd (v := (i64 (e : Int))) rfl) ?_
           refine rN (Qg ?_)
           refine Qb rfl (Qc (v := (i64 (e : Int))) rfl) <| Qb rfl (Qc (v := (i64 (e : Int))) rfl) <| Qb rfl (Ja.cast (congrArg i64 (show (e : Int) / 4 = ((e / 4 : Nat) : Int) by omega)) (Wl (b := 4) rfl rfl oM oM oM)) <| Qb rfl (Zr (r := 0) Jk rfl (by first | rfl | omega) Vw rfl s3) <| Qb rfl (Qm (r := (e / 4)) oM Wu Xb rfl rfl oM sD) <| Qb (v := (u32 ([y0q60, y1q60, y2q60, y3q60, y4q60, y5q60, y6q60, y7q60].getD (e / 4) 0))) rfl (Qy (v := u32 ([y0q60, y1q60, y2q60, y3q60, y4q60, y5q60, y6q60, y7q60].getD (e / 4) 0)) Yx rfl rfl hm62.h0 (Qf8 u32 [y0q60, y1q60, y2q60, y3q60, y4q60, y5q60, y6q60, y7q60] [sv2q60, (u64 (n + BitVec.ofInt 64 ((((((((((128#8 :: List.replicate ((119 - ll.length) % 64) 0#8) ++ ([((n <<< 3) >>> 56).setWidth 8])) ++ ([((n <<< 3) >>> 48).setWidth 8])) ++ ([((n <<< 3) >>> 40).setWidth 8])) ++ ([((n <<< 3) >>> 32).setWidth 8])) ++ ([((n <<< 3) >>> 24).setWidth 8])) ++ ([((n <<< 3) >>> 16).setWidth 8])) ++ ([((n <<< 3) >>> 8).setWidth 8])) ++ ([((n <<< 3) >>> 0).setWidth 8])).length : Int)))] 0 sD)) <| Qb rfl (Qc (v := (i64 (e : Int))) rfl) <| Qb rfl (Jz (b := 4) rfl rfl oM oM oM) <| Qb rfl (Xj (a := 8) rfl rfl oM oM) <| Qb rfl (Ja.cast (congrArg i64 (show 24 - (8 * ((e : Int) % 4)) = ((24 - 8 * (e % 4) : Nat) : Int) by omega)) (Yo (a := 24) rfl rfl oM oM)) <| Qb rfl (Dz rfl rfl oM) <| Qb rfl (Nb ⟨_, Yx⟩ Vh rfl) ?_
           refine Qb rfl (Qm (r := e) oM Xo Yq s2 rfl oM sD) <| Xf (Yj (f := u8) (a := (([y0q60, y1q60, y2q60, y3q60, y4q60, y5q60, y6q60, y7q60].getD (e / 4) 0) >>> ((24 - 8 * (e % 4) : Nat) : Int).toNat).setWidth 8) Q8 Yq rfl rfl ((Mem.pick3 [_] Hs2q60 Hs55 [_] _ hm62)).h0 sD (.inl (Nat.zero_le _))) ?_
           rintro _ w64 uq64
           have hm64 : Mem w64 (Qo w0) ([(b2, .cells (cl u8 ((Jp (fun q => ([y0q60, y1q60, y2q60, y3q60, y4q60, y5q60, y6q60, y7q60].getD (q / 4) 0 >>> (24 - 8 * (q % 4))).setWidth 8) 0 32 e).set e ((([y0q60, y1q60, y2q60, y3q60, y4q60, y5q60, y6q60, y7q60].getD (e / 4) 0) >>> ((24 - 8 * (e % 4) : Nat) : Int).toNat).setWidth 8))) 23 (0, 0)), (be, .cells #[(u32 y0q60), (u32 y1q60), (u32 y2q60), (u32 y3q60), (u32 y4q60), (u32 y5q60), (u32 y6q60), (u32 y7q60), sv2q60, (u64 (n + BitVec.ofInt 64 ((((((((((128#8 :: List.replicate ((119 - ll.length) % 64) 0#8) ++ ([((n <<< 3) >>> 56).setWidth 8])) ++ ([((n <<< 3) >>> 48).setWidth 8])) ++ ([((n <<< 3) >>> 40).setWidth 8])) ++ ([((n <<< 3) >>> 32).setWidth 8])) ++ ([((n <<< 3) >>> 24).setWidth 8])) ++ ([((n <<< 3) >>> 16).setWidth 8])) ++ ([((n <<< 3) >>> 8).setWidth 8])) ++ ([((n <<< 3) >>> 0).setWidth 8])).length : Int)))] 154 (0, 0))] ++ (Hs2q60 ++ (Hs55 ++ ([])))) := Mem.upd0 (Mem.pick3 [_] Hs2q60 Hs55 [_] _ hm62) uq64
           refine Zz (Qn ?_)
           refine CW.abs (fun g => g 0 = (ptr bd 0) ∧ g 2 = (ptr b2 0) ∧ g 3 = (ptr be 0) ∧ g 4 = sv55 ∧ g 5 = (i64 (-1)) ∧ g 6 = (i64 (e : Int)) ∧ g 30 = (bl (((((ll.length : Int) + ((128#8 :: List.replicate ((119 - ll.length) % 64) 0#8).length : Int)) + 8) % 64) != 0)) ∧ g 35 = (bl false) ∧ g 52 = (i64 (e : Int)) ∧ g 53 = (bl (decide ((e : Int) < 32))) ∧ True) ⟨s0, s2, s3, s4, s5, rfl, s30, s35, s52, rfl, trivial⟩ ?_
           rintro fr65 ⟨s0, s2, s3, s4, s5, s6, s30, s35, s52, s53, _⟩
           refine Qg <| Qb rfl (Qk (b := 1) s52 rfl oM oM) <| Qb rfl (Qc (v := (i64 ((e : Int) + 1))) rfl) <| rN ?_
           have hm66 := (Mem.pick2 [_, _] Hs2q60 Hs55 _ hm64)
           have hm67 := (Mem.pick2 Hs55 [_, _] Hs2q60 _ hm66)
           have hm68 := (Mem.pick3 Hs2q60 Hs55 [_] [_] _ hm67)
           exact ⟨⟨e + 1, oM, s0, s2, s3, s4, s5, s30, s35, rfl, (by rw [← Dy (fun q => ([y0q60, y1q60, y2q60, y3q60, y4q60, y5q60, y6q60, y7q60].getD (q / 4) 0 >>> (24 - 8 * (q % 4))).setWidth 8) (0 : BitVec 8) (n := 32) (k := e) oM _ rfl]; exact hm68)⟩, Fj rfl z52 oM oM⟩
         ·
           have hc63p := of_decide_eq_false hc63
           obtain rfl : e = 32 := by omega
           have hfl := Em (fun q => ([y0q60, y1q60, y2q60, y3q60, y4q60, y5q60, y6q60, y7q60].getD (q / 4) 0 >>> (24 - 8 * (q % 4))).setWidth 8) (0 : BitVec 8) 32 32 oM
           refine Yb ?_
           refine Zb (Zb (Xw ?_))
           refine sR <| Qb (v := (agg u8 (Jp (fun q => ([y0q60, y1q60, y2q60, y3q60, y4q60, y5q60, y6q60, y7q60].getD (q / 4) 0 >>> (24 - 8 * (q % 4))).setWidth 8) 0 32 32))) rfl (Z9 Xo rfl Z5 s2 ((Mem.pick3 [_] Hs2q60 Hs55 [_] _ hm62)).h0 sZ) <| Xf (Zl (f := u8) (l := Jp (fun q => ([y0q60, y1q60, y2q60, y3q60, y4q60, y5q60, y6q60, y7q60].getD (q / 4) 0 >>> (24 - 8 * (q % 4))).setWidth 8) 0 32 32) Q8 Z5 s2 rfl sD ((Mem.pick3 [_] Hs2q60 Hs55 [_] _ hm62)).h0 sZ rfl) ?_
           rintro _ w69 uq69
           have hm69 : Mem w69 (Qo w0) ([(b2, .cells (cl u8 (Jp (fun q => ([y0q60, y1q60, y2q60, y3q60, y4q60, y5q60, y6q60, y7q60].getD (q / 4) 0 >>> (24 - 8 * (q % 4))).setWidth 8) 0 32 32)) 23 (0, 0)), (be, .cells #[(u32 y0q60), (u32 y1q60), (u32 y2q60), (u32 y3q60), (u32 y4q60), (u32 y5q60), (u32 y6q60), (u32 y7q60), sv2q60, (u64 (n + BitVec.ofInt 64 ((((((((((128#8 :: List.replicate ((119 - ll.length) % 64) 0#8) ++ ([((n <<< 3) >>> 56).setWidth 8])) ++ ([((n <<< 3) >>> 48).setWidth 8])) ++ ([((n <<< 3) >>> 40).setWidth 8])) ++ ([((n <<< 3) >>> 32).setWidth 8])) ++ ([((n <<< 3) >>> 24).setWidth 8])) ++ ([((n <<< 3) >>> 16).setWidth 8])) ++ ([((n <<< 3) >>> 8).setWidth 8])) ++ ([((n <<< 3) >>> 0).setWidth 8])).length : Int)))] 154 (0, 0))] ++ (Hs2q60 ++ (Hs55 ++ ([])))) := Mem.upd0 (Mem.pick3 [_] Hs2q60 Hs55 [_] _ hm62) uq69
           refine rN (Xn ?_)
           refine Zj [(agg u8 (Jp (fun q => ([y0q60, y1q60, y2q60, y3q60, y4q60, y5q60, y6q60, y7q60].getD (q / 4) 0 >>> (24 - 8 * (q % 4))).setWidth 8) 0 32 32))] ⟨⟨_, s2, X6 Xo rfl Z5 hm69.h0 sZ⟩, trivial⟩ ?_
           exact ⟨congrArg (agg u8) ((show Jp (fun q => ([y0q60, y1q60, y2q60, y3q60, y4q60, y5q60, y6q60, y7q60].getD (q / 4) 0 >>> (24 - 8 * (q % 4))).setWidth 8) 0 32 32 = Qan [y0q60, y1q60, y2q60, y3q60, y4q60, y5q60, y6q60, y7q60] from rfl).trans (congrArg Qan hyq60)), hm69.toExt⟩
end Go.Proofs.YtkmiemlpfkfiiaaDoor
