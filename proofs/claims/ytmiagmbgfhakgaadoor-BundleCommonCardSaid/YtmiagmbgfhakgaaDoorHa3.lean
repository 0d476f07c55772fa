/- Contracts: hash, third part. Conditions: none beyond those that each theorem states. -/
import Derived.Test.YtmiagmbgfhakgaaDoorHa2
namespace Go.Proofs.YtmiagmbgfhakgaaDoor
set_option linter.unusedVariables false
set_option linter.unusedSimpArgs false

set_option maxHeartbeats 2000000 in
theorem c_dsum (bd : Nat) (x0 x1 x2 x3 x4 x5 x6 x7 : BitVec 32) (sv : Value) (ll : List (BitVec 8)) (n : BitVec 64) (w0 : World)  (hT : Tabs (blks w0)) (hd : blks w0 bd = some (.cells #[(u32 x0), (u32 x1), (u32 x2), (u32 x3), (u32 x4), (u32 x5), (u32 x6), (u32 x7), sv, (u64 n)] 96 (0, 0))) (hrl : Rd (blks w0) u8 sv ll) (hll : ll.length < 64) : CallsR Tryd.prog 44 #[(ptr bd 0)] w0 (fun r w1 => r = (agg u8 (digestP [x0, x1, x2, x3, x4, x5, x6, x7] ll n)) ∧ Ext w0 w1) := by
 refine callsR_of_cw (args := [(ptr bd 0)]) Tryd.func44 rfl Tryd.ntmps44 Tryd.results44 rfl ?_
 have hm0 : Mem w0 (restOf w0) [] := Mem.of_world w0
 obtain ⟨Es, fzs, hTs⟩ := hT.start
 obtain ⟨Er, fzr, hTr⟩ := hT.round
 refine sR <| rw_c rfl (or_alloc_agg hm0 ti23) ?_
 rintro _ w1 ⟨b2, rfl, _ew1, hm1⟩
 refine rN (cw_seq ?_)
 refine cw_meet (J := fun g wv => ∃ (be : Nat) (svc : Value) (Hsc : List (Nat × Obj)), (Grow u8 5 svc ll Hsc) ∧ g 0 = (ptr bd 0) ∧ g 2 = (ptr b2 0) ∧ g 3 = (ptr be 0) ∧ Mem wv (restOf w0) ([(be, .cells #[(u32 x0), (u32 x1), (u32 x2), (u32 x3), (u32 x4), (u32 x5), (u32 x6), (u32 x7), svc, (u64 n)] 96 (0, 0))] ++ (Hsc ++ ([(b2, .cells (cl u8 (List.replicate 32 0)) 23 (0, 0))])))) ?_ ?_
 · skip
   refine cw_drawE (by kernel_rfl) ?_
   refine re_or 8 14 rfl rfl ?_ ?_
   · -- 8 ahead of 14
     refine re_plan [(0, false), (1, false), (2, false), (3, false), (4, false), (5, false), (6, false), (7, false), (9, false), (10, false), (11, false), (12, false), (8, true), (13, false), (14, true)] 15 rfl (by kernel_rfl) <| dw_q rfl rfl (fun _ _hx => ev_move (v := (ptr bd 0)) rfl) <| dw_q rfl rfl (fun _ _hx => ev_nilCheck rfl) <| dw_q rfl rfl (fun _ _hx => ev_fa (r := 0) uT96 rfl (by first | rfl | omega) ti94 rfl rfl) <| dw_q (v := (agg u32 ([x0, x1, x2, x3, x4, x5, x6, x7]))) rfl rfl (fun _ _hx => ev_loadX (c' := (cl u32 ([x0, x1, x2, x3, x4, x5, x6, x7]))) uT94 rfl ti94 rfl ((hm1.ext _hx).rest _ _ hd) (by kernel_rfl) (by kernel_rfl)) <| dw_q rfl rfl (fun _ _hx => ev_move (v := (ptr bd 0)) rfl) ?_
     refine dw_q rfl rfl (fun _ _hx => ev_nilCheck rfl) <| dw_q rfl rfl (fun _ _hx => ev_fa (r := 8) uT96 rfl (by first | rfl | omega) ti26 rfl rfl) <| dw_q (v := sv) rfl rfl (fun _ _hx => ev_load1 uT26 rfl rfl ((hm1.ext _hx).rest _ _ hd) rfl) <| dw_q rfl rfl (fun _ _hx => ev_move (v := (ptr bd 0)) rfl) <| dw_q rfl rfl (fun _ _hx => ev_nilCheck rfl) <| dw_q rfl rfl (fun _ _hx => ev_fa (r := 9) uT96 rfl (by first | rfl | omega) ti61 rfl rfl) ?_
     refine dw_q (v := (u64 n)) rfl rfl (fun _ _hx => ev_load1 uT61 rfl rfl ((hm1.ext _hx).rest _ _ hd) rfl) ?_
     refine dw_c rfl rfl (fun w2 _ew2 => ?_)
     have hm2 := hm1.ext _ew2
     refine OpR.mono (opR_call Tryd.func32 bd32 nm32 (args1 rfl) (c_clone sv ll _ (Rd.ofRest hrl hm2) sD)) ?_
     rintro rq4 w3 ⟨Hsq4, grq4, k_w3⟩
     refine ⟨k_w3.toExt, ?_⟩
     have hm3 : Mem w3 (restOf w0) (Hsq4 ++ ([(b2, .cells (cl u8 (List.replicate 32 0)) 23 (0, 0))])) := Mem.new (H := [(b2, .cells (cl u8 (List.replicate 32 0)) 23 (0, 0))]) (H' := Hsq4) hm2 k_w3
     refine dw_q rfl rfl (fun _ _hx => ev_build_pt (c := #[(u32 x0), (u32 x1), (u32 x2), (u32 x3), (u32 x4), (u32 x5), (u32 x6), (u32 x7), rq4, (u64 n)]) (pl := [(0, 8), (8, 1), (9, 1)]) ti96 uT96 (by kernel_rfl) (pm_cons (i := 0) (v := (agg u32 ([x0, x1, x2, x3, x4, x5, x6, x7]))) (cs := (cl u32 ([x0, x1, x2, x3, x4, x5, x6, x7]))) rfl rfl (pm_cons (i := 1) (v := rq4) (cs := #[rq4]) rfl (one_cells grq4.one) (pm_cons (i := 2) (v := (u64 n)) (cs := #[(u64 n)]) rfl rfl pm_nil))) (by kernel_rfl)) ?_
     refine dw_c rfl rfl (fun w5 _ew5 => ?_)
     have hm5 := hm3.ext _ew5
     refine OpR.mono (or_allocX hm5 ti96) ?_
     rintro _ w6 ⟨b3, rfl, _ew6, hm6⟩
     refine ⟨_ew6, ?_⟩
     refine dw_nil (fun w7 _ew7 => ?_)
     have hm7 := hm6.ext _ew7
     refine rw_n (or_storeW (cs := #[(u32 x0), (u32 x1), (u32 x2), (u32 x3), (u32 x4), (u32 x5), (u32 x6), (u32 x7), rq4, (u64 n)]) ti96 rfl rfl (by kernel_rfl) (one_arr (one_cons (u32_one _) (one_cons (u32_one _) (one_cons (u32_one _) (one_cons (u32_one _) (one_cons (u32_one _) (one_cons (u32_one _) (one_cons (u32_one _) (one_cons (u32_one _) (one_cons grq4.one (one_cons (u64_one _) one_nil))))))))))) hm7.h0 (by kernel_rfl) rfl) ?_
     rintro _ w8 uq8
     have hm8 : Mem w8 (restOf w0) ([(b3, .cells #[(u32 x0), (u32 x1), (u32 x2), (u32 x3), (u32 x4), (u32 x5), (u32 x6), (u32 x7), rq4, (u64 n)] 96 (0, 0))] ++ (Hsq4 ++ ([(b2, .cells (cl u8 (List.replicate 32 0)) 23 (0, 0))]))) := hm7.upd0 uq8
     refine rN ?_
     exact ⟨b3, rq4, Hsq4, grq4, rfl, rfl, rfl, hm8⟩
   · -- 14 ahead of 8
     refine re_plan [(0, false), (1, false), (2, false), (3, false), (4, false), (5, false), (6, false), (7, false), (9, false), (10, false), (11, false), (12, false), (14, true), (8, true), (13, false)] 15 rfl (by kernel_rfl) <| dw_q rfl rfl (fun _ _hx => ev_move (v := (ptr bd 0)) rfl) <| dw_q rfl rfl (fun _ _hx => ev_nilCheck rfl) <| dw_q rfl rfl (fun _ _hx => ev_fa (r := 0) uT96 rfl (by first | rfl | omega) ti94 rfl rfl) <| dw_q (v := (agg u32 ([x0, x1, x2, x3, x4, x5, x6, x7]))) rfl rfl (fun _ _hx => ev_loadX (c' := (cl u32 ([x0, x1, x2, x3, x4, x5, x6, x7]))) uT94 rfl ti94 rfl ((hm1.ext _hx).rest _ _ hd) (by kernel_rfl) (by kernel_rfl)) <| dw_q rfl rfl (fun _ _hx => ev_move (v := (ptr bd 0)) rfl) ?_
     refine dw_q rfl rfl (fun _ _hx => ev_nilCheck rfl) <| dw_q rfl rfl (fun _ _hx => ev_fa (r := 8) uT96 rfl (by first | rfl | omega) ti26 rfl rfl) <| dw_q (v := sv) rfl rfl (fun _ _hx => ev_load1 uT26 rfl rfl ((hm1.ext _hx).rest _ _ hd) rfl) <| dw_q rfl rfl (fun _ _hx => ev_move (v := (ptr bd 0)) rfl) <| dw_q rfl rfl (fun _ _hx => ev_nilCheck rfl) <| dw_q rfl rfl (fun _ _hx => ev_fa (r := 9) uT96 rfl (by first | rfl | omega) ti61 rfl rfl) ?_
     refine dw_q (v := (u64 n)) rfl rfl (fun _ _hx => ev_load1 uT61 rfl rfl ((hm1.ext _hx).rest _ _ hd) rfl) ?_
     refine dw_c rfl rfl (fun w9 _ew9 => ?_)
     have hm9 := hm1.ext _ew9
     refine OpR.mono (or_allocX hm9 ti96) ?_
     rintro _ w10 ⟨b3_1, rfl, _ew10, hm10⟩
     refine ⟨_ew10, ?_⟩
     refine dw_c rfl rfl (fun w11 _ew11 => ?_)
     have hm11 := hm10.ext _ew11
     refine OpR.mono (opR_call Tryd.func32 bd32 nm32 (args1 rfl) (c_clone sv ll _ (Rd.ofRest hrl hm11) sD)) ?_
     rintro rq13 w12 ⟨Hsq13, grq13, k_w12⟩
     refine ⟨k_w12.toExt, ?_⟩
     have hm12 : Mem w12 (restOf w0) (Hsq13 ++ ([(b3_1, .cells #[(u32 0), (u32 0), (u32 0), (u32 0), (u32 0), (u32 0), (u32 0), (u32 0), (Value.slice none 0 0), (u64 0)] 96 (0, 0)), (b2, .cells (cl u8 (List.replicate 32 0)) 23 (0, 0))])) := Mem.new (H := [(b3_1, .cells #[(u32 0), (u32 0), (u32 0), (u32 0), (u32 0), (u32 0), (u32 0), (u32 0), (Value.slice none 0 0), (u64 0)] 96 (0, 0)), (b2, .cells (cl u8 (List.replicate 32 0)) 23 (0, 0))]) (H' := Hsq13) hm11 k_w12
     refine dw_q rfl rfl (fun _ _hx => ev_build_pt (c := #[(u32 x0), (u32 x1), (u32 x2), (u32 x3), (u32 x4), (u32 x5), (u32 x6), (u32 x7), rq13, (u64 n)]) (pl := [(0, 8), (8, 1), (9, 1)]) ti96 uT96 (by kernel_rfl) (pm_cons (i := 0) (v := (agg u32 ([x0, x1, x2, x3, x4, x5, x6, x7]))) (cs := (cl u32 ([x0, x1, x2, x3, x4, x5, x6, x7]))) rfl rfl (pm_cons (i := 1) (v := rq13) (cs := #[rq13]) rfl (one_cells grq13.one) (pm_cons (i := 2) (v := (u64 n)) (cs := #[(u64 n)]) rfl rfl pm_nil))) (by kernel_rfl)) ?_
     refine dw_nil (fun w14 _ew14 => ?_)
     have hm14 := hm12.ext _ew14
     refine rw_n (or_storeW (cs := #[(u32 x0), (u32 x1), (u32 x2), (u32 x3), (u32 x4), (u32 x5), (u32 x6), (u32 x7), rq13, (u64 n)]) ti96 rfl rfl (by kernel_rfl) (one_arr (one_cons (u32_one _) (one_cons (u32_one _) (one_cons (u32_one _) (one_cons (u32_one _) (one_cons (u32_one _) (one_cons (u32_one _) (one_cons (u32_one _) (one_cons (u32_one _) (one_cons grq13.one (one_cons (u64_one _) one_nil))))))))))) ((Mem.pick Hsq13 [_] _ hm14)).h0 (by kernel_rfl) rfl) ?_
     rintro _ w15 uq15
     have hm15 : Mem w15 (restOf w0) ([(b3_1, .cells #[(u32 x0), (u32 x1), (u32 x2), (u32 x3), (u32 x4), (u32 x5), (u32 x6), (u32 x7), rq13, (u64 n)] 96 (0, 0))] ++ (Hsq13 ++ ([(b2, .cells (cl u8 (List.replicate 32 0)) 23 (0, 0))]))) := Mem.upd0 (Mem.pick Hsq13 [_] _ hm14) uq15
     refine rN ?_
     exact ⟨b3_1, rq13, Hsq13, grq13, rfl, rfl, rfl, hm15⟩
 · rintro fr16 w17 ⟨be, svc, Hsc, gc, s0, s2, s3, hm17⟩
   refine sR <| rw_c rfl (or_buildSlice_cl u8 [128#8] u8_one hm17 uT26 ti5 rfl rfl rfl) ?_
   rintro _ w18 ⟨b21, rfl, _ew18, hm18⟩
   refine rw_q rfl (ev_assign (v := (slc b21 0 1 1)) rfl) ?_
   refine rN (cw_seq (cw_block ?_))
   refine cw_loop (fun g wv => ∃ (k : Nat) (pl : List (BitVec 8)) (sp : Value) (Hp : List (Nat × Obj)), (k ≤ (119 - ll.length) % 64) ∧ (pl = 128#8 :: List.replicate k 0#8) ∧ (Grow u8 5 sp pl Hp) ∧ g 0 = (ptr bd 0) ∧ g 2 = (ptr b2 0) ∧ g 3 = (ptr be 0) ∧ g 4 = sp ∧ Mem wv (restOf w0) (Hp ++ ([(be, .cells #[(u32 x0), (u32 x1), (u32 x2), (u32 x3), (u32 x4), (u32 x5), (u32 x6), (u32 x7), svc, (u64 n)] 96 (0, 0))] ++ (Hsc ++ ([(b2, .cells (cl u8 (List.replicate 32 0)) 23 (0, 0))]))))) (fun g wv => (119 - ll.length) % 64 + 2 - sllen (g 4)) ?_ ?_
   · exact ⟨0, [128#8], (slc b21 0 1 1), [(b21, .cells (cl u8 ([128#8])) 5 (0, 0))], oM, rfl, (Grow.of u8 5 b21 [128#8]), s0, s2, s3, rfl, hm18⟩
   · rintro fr19 w20 ⟨k, pl, sp, Hp, hk, hpl, gp, s0, s2, s3, s4, hm20⟩
     have z4 := s4
     have hpn : pl.length = k + 1 := by rw [hpl]; simp
     refine cw_seq (sR ?_)
     refine rw_q rfl (ev_fa (r := 8) uT96 rfl (by first | rfl | omega) ti26 rfl s3) <| rw_q (v := svc) rfl (ev_load1 uT26 rfl rfl ((Mem.pick Hp [_] _ hm20)).h0 rfl) <| rw_q (v := (i64 (ll.length : Int))) rfl (ev_len_rd (gc.rd (Mem.pick2 Hp [_] Hsc _ hm20)) uT26 rfl) <| rM rfl s4 <| rw_q (v := (i64 (pl.length : Int))) rfl (ev_len_rd (gp.rd hm20) uT26 rfl) <| rw_q rfl (ev_i64_add rfl rfl oM oM) ?_
     refine rw_q rfl (ev_i64_add (b := 8) rfl rfl oM oM) <| rw_q rfl (ev_i64_rem (b := 64) rfl rfl oM oM oM) <| rw_q rfl (ev_i64_neq (b := 0) rfl rfl) <| rN ?_
     refine cw_cond rfl (fun hc21 => ?_) (fun hc21 => ?_)
     · -- true
       have hc21p := bne_iff_ne.1 hc21
       refine cw_skip (kThen_normal (cw_block' (cw_region ?_)))
       refine rM rfl s4 <| rw_c rfl (or_buildSlice_cl u8 [0#8] u8_one hm20 uT26 ti5 rfl rfl rfl) ?_
       rintro _ w22 ⟨b32, rfl, _ew22, hm22⟩
       refine rw_c rfl (or_append (f := u8) (Hs := Hp) (H := [(b32, .cells (cl u8 ([0#8])) 5 (0, 0)), (be, .cells #[(u32 x0), (u32 x1), (u32 x2), (u32 x3), (u32 x4), (u32 x5), (u32 x6), (u32 x7), svc, (u64 n)] 96 (0, 0))] ++ (Hsc ++ ([(b2, .cells (cl u8 (List.replicate 32 0)) 23 (0, 0))]))) (Mem.pick [_] Hp _ hm22) gp rfl rfl (Rd.mkA hm22.h0) uT26 uT26 ti5 rfl u8_one sD sD) ?_
       rintro sv23 w23 ⟨Hs23, hm23, g23⟩
       replace g23 : Grow u8 5 sv23 (pl ++ ([0#8])) Hs23 := g23
       refine rA rfl (v := sv23) rfl ?_
       refine rw_nil (kBlk_normal (kThen_normal ?_))
       have hm24 := Mem.drop ([(b32, .cells (cl u8 ([0#8])) 5 (0, 0))]) _ (Mem.pick Hs23 [_] _ hm23)
       exact ⟨⟨k + 1, pl ++ ([0#8]), sv23, Hs23, oM, (by rw [hpl, List.replicate_succ']; rfl), g23, s0, s2, s3, rfl, hm24⟩, (by show (119 - ll.length) % 64 + 2 - sllen sv23 < (119 - ll.length) % 64 + 2 - sllen _; rw [z4, gp.sllen, Grow.sllen g23]; simp [hpn]; omega)⟩
     · -- false
       have hc21p := eq_of_bne_false hc21
       have hpn : pl.length = k + 1 := by rw [hpl]; simp
       obtain rfl : k = (119 - ll.length) % 64 := by omega
       subst hpl
       refine cw_exit ?_
       refine kThen_exit (kThen_exit (kBlk_hit ?_))
       refine cw_seq (sR ?_)
       refine rw_q rfl (ev_assign (v := (i64 7)) rfl) ?_
       refine rN (cw_block ?_)
       refine cw_rounds 9 ?_
       refine cr_succ (cw_seq (sR ?_))
       refine rw_q rfl (ev_move (v := (i64 7)) rfl) <| rw_q rfl (ev_i64_geq (a := 7) (b := 0) rfl rfl) <| rN ?_
       refine CW.abs (fun g => g 0 = (ptr bd 0) ∧ g 2 = (ptr b2 0) ∧ g 3 = (ptr be 0) ∧ g 4 = sp ∧ g 5 = (i64 7) ∧ g 30 = (bl (((((ll.length : Int) + ((128#8 :: List.replicate ((119 - ll.length) % 64) 0#8).length : Int)) + 8) % 64) != 0)) ∧ g 35 = (bl true) ∧ True) ⟨s0, s2, s3, s4, rfl, rfl, rfl, trivial⟩ ?_
       rintro fr25 ⟨s0, s2, s3, s4, s5, s30, s35, _⟩
       refine cw_cond_t s35 (by decide) ?_
       refine cw_skip (kThen_normal (cw_seq (cw_block (cw_region ?_))))
       refine rM rfl s4 <| rM rfl s0 <| rw_q rfl (ev_nilCheck rfl) <| rw_q rfl (ev_fa (r := 9) uT96 rfl (by first | rfl | omega) ti61 rfl rfl) <| rw_q (v := (u64 n)) rfl (ev_load1 uT61 rfl rfl (hm20.rest _ _ hd) rfl) <| rw_q rfl (ev_u64_shl (b := 3) rfl rfl oM) ?_
       refine rM rfl s5 <| rw_q (v := (i64 56)) rfl (ev_i64_mul (a := 8) (b := 7) rfl rfl oM oM) <| rw_q rfl (ev_u64_shr (b := 56) rfl rfl oM) <| rw_q rfl (ev_conv_u64_u8 ⟨_, uT61⟩ uT5 rfl) <| rw_c rfl (or_buildSlice_cl u8 [((n <<< 3) >>> 56).setWidth 8] u8_one hm20 uT26 ti5 rfl rfl rfl) ?_
       rintro _ w26 ⟨b48, rfl, _ew26, hm26⟩
       refine rw_c rfl (or_append (f := u8) (Hs := Hp) (H := [(b48, .cells (cl u8 ([((n <<< 3) >>> 56).setWidth 8])) 5 (0, 0)), (be, .cells #[(u32 x0), (u32 x1), (u32 x2), (u32 x3), (u32 x4), (u32 x5), (u32 x6), (u32 x7), svc, (u64 n)] 96 (0, 0))] ++ (Hsc ++ ([(b2, .cells (cl u8 (List.replicate 32 0)) 23 (0, 0))]))) (Mem.pick [_] Hp _ hm26) gp rfl rfl (Rd.mkA hm26.h0) uT26 uT26 ti5 rfl u8_one sD sD) ?_
       rintro sv27 w27 ⟨Hs27, hm27, g27⟩
       replace g27 : Grow u8 5 sv27 ((128#8 :: List.replicate ((119 - ll.length) % 64) 0#8) ++ ([((n <<< 3) >>> 56).setWidth 8])) Hs27 := g27
       refine rA rfl (v := sv27) rfl ?_
       refine rw_nil (kBlk_normal ?_)
       have hm28 := Mem.drop ([(b48, .cells (cl u8 ([((n <<< 3) >>> 56).setWidth 8])) 5 (0, 0))]) _ (Mem.pick Hs27 [_] _ hm27)
       refine CW.abs (fun g => g 0 = (ptr bd 0) ∧ g 2 = (ptr b2 0) ∧ g 3 = (ptr be 0) ∧ g 4 = sv27 ∧ g 5 = (i64 7) ∧ g 30 = (bl (((((ll.length : Int) + ((128#8 :: List.replicate ((119 - ll.length) % 64) 0#8).length : Int)) + 8) % 64) != 0)) ∧ g 35 = (bl true) ∧ True) ⟨s0, s2, s3, rfl, s5, s30, s35, trivial⟩ ?_
       rintro fr29 ⟨s0, s2, s3, s4, s5, s30, s35, _⟩
       refine cw_region <| rM rfl s5 <| rw_q (v := (i64 6)) rfl (ev_i64_sub (a := 7) (b := 1) rfl rfl oM oM) <| rw_q rfl (ev_assign (v := (i64 6)) rfl) ?_
       refine rN (cr_succ (cw_seq (sR ?_)))
       refine rw_q rfl (ev_move (v := (i64 6)) rfl) <| rw_q rfl (ev_i64_geq (a := 6) (b := 0) rfl rfl) <| rN <| cw_cond_t rfl (by decide) ?_
       refine cw_skip (kThen_normal (cw_seq (cw_block (cw_region ?_))))
       refine rM rfl s4 <| rM rfl s0 <| rw_q rfl (ev_nilCheck rfl) <| rw_q rfl (ev_fa (r := 9) uT96 rfl (by first | rfl | omega) ti61 rfl rfl) <| rw_q (v := (u64 n)) rfl (ev_load1 uT61 rfl rfl (hm28.rest _ _ hd) rfl) <| rw_q rfl (ev_u64_shl (b := 3) rfl rfl oM) ?_
       refine rw_q rfl (ev_move (v := (i64 6)) rfl) <| rw_q (v := (i64 48)) rfl (ev_i64_mul (a := 8) (b := 6) rfl rfl oM oM) <| rw_q rfl (ev_u64_shr (b := 48) rfl rfl oM) <| rw_q rfl (ev_conv_u64_u8 ⟨_, uT61⟩ uT5 rfl) <| rw_c rfl (or_buildSlice_cl u8 [((n <<< 3) >>> 48).setWidth 8] u8_one hm28 uT26 ti5 rfl rfl rfl) ?_
       rintro _ w30 ⟨b48_1, rfl, _ew30, hm30⟩
       refine rw_c rfl (or_append (f := u8) (Hs := Hs27) (H := [(b48_1, .cells (cl u8 ([((n <<< 3) >>> 48).setWidth 8])) 5 (0, 0)), (be, .cells #[(u32 x0), (u32 x1), (u32 x2), (u32 x3), (u32 x4), (u32 x5), (u32 x6), (u32 x7), svc, (u64 n)] 96 (0, 0))] ++ (Hsc ++ ([(b2, .cells (cl u8 (List.replicate 32 0)) 23 (0, 0))]))) (Mem.pick [_] Hs27 _ hm30) g27 rfl rfl (Rd.mkA hm30.h0) uT26 uT26 ti5 rfl u8_one sD sD) ?_
       rintro sv31 w31 ⟨Hs31, hm31, g31⟩
       replace g31 : Grow u8 5 sv31 (((128#8 :: List.replicate ((119 - ll.length) % 64) 0#8) ++ ([((n <<< 3) >>> 56).setWidth 8])) ++ ([((n <<< 3) >>> 48).setWidth 8])) Hs31 := g31
       refine rA rfl (v := sv31) rfl ?_
       refine rw_nil (kBlk_normal ?_)
       have hm32 := Mem.drop ([(b48_1, .cells (cl u8 ([((n <<< 3) >>> 48).setWidth 8])) 5 (0, 0))]) _ (Mem.pick Hs31 [_] _ hm31)
       refine CW.abs (fun g => g 0 = (ptr bd 0) ∧ g 2 = (ptr b2 0) ∧ g 3 = (ptr be 0) ∧ g 4 = sv31 ∧ g 5 = (i64 6) ∧ g 30 = (bl (((((ll.length : Int) + ((128#8 :: List.replicate ((119 - ll.length) % 64) 0#8).length : Int)) + 8) % 64) != 0)) ∧ g 35 = (bl true) ∧ True) ⟨s0, s2, s3, rfl, rfl, s30, rfl, trivial⟩ ?_
       rintro fr33 ⟨s0, s2, s3, s4, s5, s30, s35, _⟩
       refine cw_region <| rM rfl s5 <| rw_q (v := (i64 5)) rfl (ev_i64_sub (a := 6) (b := 1) rfl rfl oM oM) <| rw_q rfl (ev_assign (v := (i64 5)) rfl) ?_
       refine rN (cr_succ (cw_seq (sR ?_)))
       refine rw_q rfl (ev_move (v := (i64 5)) rfl) <| rw_q rfl (ev_i64_geq (a := 5) (b := 0) rfl rfl) <| rN <| cw_cond_t rfl (by decide) ?_
       refine cw_skip (kThen_normal (cw_seq (cw_block (cw_region ?_))))
       refine rM rfl s4 <| rM rfl s0 <| rw_q rfl (ev_nilCheck rfl) <| rw_q rfl (ev_fa (r := 9) uT96 rfl (by first | rfl | omega) ti61 rfl rfl) <| rw_q (v := (u64 n)) rfl (ev_load1 uT61 rfl rfl (hm32.rest _ _ hd) rfl) <| rw_q rfl (ev_u64_shl (b := 3) rfl rfl oM) ?_
       refine rw_q rfl (ev_move (v := (i64 5)) rfl) <| rw_q (v := (i64 40)) rfl (ev_i64_mul (a := 8) (b := 5) rfl rfl oM oM) <| rw_q rfl (ev_u64_shr (b := 40) rfl rfl oM) <| rw_q rfl (ev_conv_u64_u8 ⟨_, uT61⟩ uT5 rfl) <| rw_c rfl (or_buildSlice_cl u8 [((n <<< 3) >>> 40).setWidth 8] u8_one hm32 uT26 ti5 rfl rfl rfl) ?_
       rintro _ w34 ⟨b48_2, rfl, _ew34, hm34⟩
       refine rw_c rfl (or_append (f := u8) (Hs := Hs31) (H := [(b48_2, .cells (cl u8 ([((n <<< 3) >>> 40).setWidth 8])) 5 (0, 0)), (be, .cells #[(u32 x0), (u32 x1), (u32 x2), (u32 x3), (u32 x4), (u32 x5), (u32 x6), (u32 x7), svc, (u64 n)] 96 (0, 0))] ++ (Hsc ++ ([(b2, .cells (cl u8 (List.replicate 32 0)) 23 (0, 0))]))) (Mem.pick [_] Hs31 _ hm34) g31 rfl rfl (Rd.mkA hm34.h0) uT26 uT26 ti5 rfl u8_one sD sD) ?_
       rintro sv35 w35 ⟨Hs35, hm35, g35⟩
       replace g35 : Grow u8 5 sv35 ((((128#8 :: List.replicate ((119 - ll.length) % 64) 0#8) ++ ([((n <<< 3) >>> 56).setWidth 8])) ++ ([((n <<< 3) >>> 48).setWidth 8])) ++ ([((n <<< 3) >>> 40).setWidth 8])) Hs35 := g35
       refine rA rfl (v := sv35) rfl ?_
       refine rw_nil (kBlk_normal ?_)
       have hm36 := Mem.drop ([(b48_2, .cells (cl u8 ([((n <<< 3) >>> 40).setWidth 8])) 5 (0, 0))]) _ (Mem.pick Hs35 [_] _ hm35)
       refine CW.abs (fun g => g 0 = (ptr bd 0) ∧ g 2 = (ptr b2 0) ∧ g 3 = (ptr be 0) ∧ g 4 = sv35 ∧ g 5 = (i64 5) ∧ g 30 = (bl (((((ll.length : Int) + ((128#8 :: List.replicate ((119 - ll.length) % 64) 0#8).length : Int)) + 8) % 64) != 0)) ∧ g 35 = (bl true) ∧ True) ⟨s0, s2, s3, rfl, rfl, s30, rfl, trivial⟩ ?_
       rintro fr37 ⟨s0, s2, s3, s4, s5, s30, s35, _⟩
       refine cw_region <| rM rfl s5 <| rw_q (v := (i64 4)) rfl (ev_i64_sub (a := 5) (b := 1) rfl rfl oM oM) <| rw_q rfl (ev_assign (v := (i64 4)) rfl) ?_
       refine rN (cr_succ (cw_seq (sR ?_)))
       refine rw_q rfl (ev_move (v := (i64 4)) rfl) <| rw_q rfl (ev_i64_geq (a := 4) (b := 0) rfl rfl) <| rN <| cw_cond_t rfl (by decide) ?_
       refine cw_skip (kThen_normal (cw_seq (cw_block (cw_region ?_))))
       refine rM rfl s4 <| rM rfl s0 <| rw_q rfl (ev_nilCheck rfl) <| rw_q rfl (ev_fa (r := 9) uT96 rfl (by first | rfl | omega) ti61 rfl rfl) <| rw_q (v := (u64 n)) rfl (ev_load1 uT61 rfl rfl (hm36.rest _ _ hd) rfl) <| rw_q rfl (ev_u64_shl (b := 3) rfl rfl oM) ?_
       refine rw_q rfl (ev_move (v := (i64 4)) rfl) <| rw_q (v := (i64 32)) rfl (ev_i64_mul (a := 8) (b := 4) rfl rfl oM oM) <| rw_q rfl (ev_u64_shr (b := 32) rfl rfl oM) <| rw_q rfl (ev_conv_u64_u8 ⟨_, uT61⟩ uT5 rfl) <| rw_c rfl (or_buildSlice_cl u8 [((n <<< 3) >>> 32).setWidth 8] u8_one hm36 uT26 ti5 rfl rfl rfl) ?_
       rintro _ w38 ⟨b48_3, rfl, _ew38, hm38⟩
       refine rw_c rfl (or_append (f := u8) (Hs := Hs35) (H := [(b48_3, .cells (cl u8 ([((n <<< 3) >>> 32).setWidth 8])) 5 (0, 0)), (be, .cells #[(u32 x0), (u32 x1), (u32 x2), (u32 x3), (u32 x4), (u32 x5), (u32 x6), (u32 x7), svc, (u64 n)] 96 (0, 0))] ++ (Hsc ++ ([(b2, .cells (cl u8 (List.replicate 32 0)) 23 (0, 0))]))) (Mem.pick [_] Hs35 _ hm38) g35 rfl rfl (Rd.mkA hm38.h0) uT26 uT26 ti5 rfl u8_one sD sD) ?_
       rintro sv39 w39 ⟨Hs39, hm39, g39⟩
       replace g39 : Grow u8 5 sv39 (((((128#8 :: List.replicate ((119 - ll.length) % 64) 0#8) ++ ([((n <<< 3) >>> 56).setWidth 8])) ++ ([((n <<< 3) >>> 48).setWidth 8])) ++ ([((n <<< 3) >>> 40).setWidth 8])) ++ ([((n <<< 3) >>> 32).setWidth 8])) Hs39 := g39
       refine rA rfl (v := sv39) rfl ?_
       refine rw_nil (kBlk_normal ?_)
       have hm40 := Mem.drop ([(b48_3, .cells (cl u8 ([((n <<< 3) >>> 32).setWidth 8])) 5 (0, 0))]) _ (Mem.pick Hs39 [_] _ hm39)
       refine CW.abs (fun g => g 0 = (ptr bd 0) ∧ g 2 = (ptr b2 0) ∧ g 3 = (ptr be 0) ∧ g 4 = sv39 ∧ g 5 = (i64 4) ∧ g 30 = (bl (((((ll.length : Int) + ((128#8 :: List.replicate ((119 - ll.length) % 64) 0#8).length : Int)) + 8) % 64) != 0)) ∧ g 35 = (bl true) ∧ True) ⟨s0, s2, s3, rfl, rfl, s30, rfl, trivial⟩ ?_
       rintro fr41 ⟨s0, s2, s3, s4, s5, s30, s35, _⟩
       refine cw_region <| rM rfl s5 <| rw_q (v := (i64 3)) rfl (ev_i64_sub (a := 4) (b := 1) rfl rfl oM oM) <| rw_q rfl (ev_assign (v := (i64 3)) rfl) ?_
       refine rN (cr_succ (cw_seq (sR ?_)))
       refine rw_q rfl (ev_move (v := (i64 3)) rfl) <| rw_q rfl (ev_i64_geq (a := 3) (b := 0) rfl rfl) <| rN <| cw_cond_t rfl (by decide) ?_
       refine cw_skip (kThen_normal (cw_seq (cw_block (cw_region ?_))))
       refine rM rfl s4 <| rM rfl s0 <| rw_q rfl (ev_nilCheck rfl) <| rw_q rfl (ev_fa (r := 9) uT96 rfl (by first | rfl | omega) ti61 rfl rfl) <| rw_q (v := (u64 n)) rfl (ev_load1 uT61 rfl rfl (hm40.rest _ _ hd) rfl) <| rw_q rfl (ev_u64_shl (b := 3) rfl rfl oM) ?_
       refine rw_q rfl (ev_move (v := (i64 3)) rfl) <| rw_q (v := (i64 24)) rfl (ev_i64_mul (a := 8) (b := 3) rfl rfl oM oM) <| rw_q rfl (ev_u64_shr (b := 24) rfl rfl oM) <| rw_q rfl (ev_conv_u64_u8 ⟨_, uT61⟩ uT5 rfl) <| rw_c rfl (or_buildSlice_cl u8 [((n <<< 3) >>> 24).setWidth 8] u8_one hm40 uT26 ti5 rfl rfl rfl) ?_
       rintro _ w42 ⟨b48_4, rfl, _ew42, hm42⟩
       refine rw_c rfl (or_append (f := u8) (Hs := Hs39) (H := [(b48_4, .cells (cl u8 ([((n <<< 3) >>> 24).setWidth 8])) 5 (0, 0)), (be, .cells #[(u32 x0), (u32 x1), (u32 x2), (u32 x3), (u32 x4), (u32 x5), (u32 x6), (u32 x7), svc, (u64 n)] 96 (0, 0))] ++ (Hsc ++ ([(b2, .cells (cl u8 (List.replicate 32 0)) 23 (0, 0))]))) (Mem.pick [_] Hs39 _ hm42) g39 rfl rfl (Rd.mkA hm42.h0) uT26 uT26 ti5 rfl u8_one sD sD) ?_
       rintro sv43 w43 ⟨Hs43, hm43, g43⟩
       replace g43 : Grow u8 5 sv43 ((((((128#8 :: List.replicate ((119 - ll.length) % 64) 0#8) ++ ([((n <<< 3) >>> 56).setWidth 8])) ++ ([((n <<< 3) >>> 48).setWidth 8])) ++ ([((n <<< 3) >>> 40).setWidth 8])) ++ ([((n <<< 3) >>> 32).setWidth 8])) ++ ([((n <<< 3) >>> 24).setWidth 8])) Hs43 := g43
       refine rA rfl (v := sv43) rfl ?_
       refine rw_nil (kBlk_normal ?_)
       have hm44 := Mem.drop ([(b48_4, .cells (cl u8 ([((n <<< 3) >>> 24).setWidth 8])) 5 (0, 0))]) _ (Mem.pick Hs43 [_] _ hm43)
       refine CW.abs (fun g => g 0 = (ptr bd 0) ∧ g 2 = (ptr b2 0) ∧ g 3 = (ptr be 0) ∧ g 4 = sv43 ∧ g 5 = (i64 3) ∧ g 30 = (bl (((((ll.length : Int) + ((128#8 :: List.replicate ((119 - ll.length) % 64) 0#8).length : Int)) + 8) % 64) != 0)) ∧ g 35 = (bl true) ∧ True) ⟨s0, s2, s3, rfl, rfl, s30, rfl, trivial⟩ ?_
       rintro fr45 ⟨s0, s2, s3, s4, s5, s30, s35, _⟩
       refine cw_region <| rM rfl s5 <| rw_q (v := (i64 2)) rfl (ev_i64_sub (a := 3) (b := 1) rfl rfl oM oM) <| rw_q rfl (ev_assign (v := (i64 2)) rfl) ?_
       refine rN (cr_succ (cw_seq (sR ?_)))
       refine rw_q rfl (ev_move (v := (i64 2)) rfl) <| rw_q rfl (ev_i64_geq (a := 2) (b := 0) rfl rfl) <| rN <| cw_cond_t rfl (by decide) ?_
       refine cw_skip (kThen_normal (cw_seq (cw_block (cw_region ?_))))
       refine rM rfl s4 <| rM rfl s0 <| rw_q rfl (ev_nilCheck rfl) <| rw_q rfl (ev_fa (r := 9) uT96 rfl (by first | rfl | omega) ti61 rfl rfl) <| rw_q (v := (u64 n)) rfl (ev_load1 uT61 rfl rfl (hm44.rest _ _ hd) rfl) <| rw_q rfl (ev_u64_shl (b := 3) rfl rfl oM) ?_
       refine rw_q rfl (ev_move (v := (i64 2)) rfl) <| rw_q (v := (i64 16)) rfl (ev_i64_mul (a := 8) (b := 2) rfl rfl oM oM) <| rw_q rfl (ev_u64_shr (b := 16) rfl rfl oM) <| rw_q rfl (ev_conv_u64_u8 ⟨_, uT61⟩ uT5 rfl) <| rw_c rfl (or_buildSlice_cl u8 [((n <<< 3) >>> 16).setWidth 8] u8_one hm44 uT26 ti5 rfl rfl rfl) ?_
       rintro _ w46 ⟨b48_5, rfl, _ew46, hm46⟩
       refine rw_c rfl (or_append (f := u8) (Hs := Hs43) (H := [(b48_5, .cells (cl u8 ([((n <<< 3) >>> 16).setWidth 8])) 5 (0, 0)), (be, .cells #[(u32 x0), (u32 x1), (u32 x2), (u32 x3), (u32 x4), (u32 x5), (u32 x6), (u32 x7), svc, (u64 n)] 96 (0, 0))] ++ (Hsc ++ ([(b2, .cells (cl u8 (List.replicate 32 0)) 23 (0, 0))]))) (Mem.pick [_] Hs43 _ hm46) g43 rfl rfl (Rd.mkA hm46.h0) uT26 uT26 ti5 rfl u8_one sD sD) ?_
       rintro sv47 w47 ⟨Hs47, hm47, g47⟩
       replace g47 : Grow u8 5 sv47 (((((((128#8 :: List.replicate ((119 - ll.length) % 64) 0#8) ++ ([((n <<< 3) >>> 56).setWidth 8])) ++ ([((n <<< 3) >>> 48).setWidth 8])) ++ ([((n <<< 3) >>> 40).setWidth 8])) ++ ([((n <<< 3) >>> 32).setWidth 8])) ++ ([((n <<< 3) >>> 24).setWidth 8])) ++ ([((n <<< 3) >>> 16).setWidth 8])) Hs47 := g47
       refine rA rfl (v := sv47) rfl ?_
       refine rw_nil (kBlk_normal ?_)
       have hm48 := Mem.drop ([(b48_5, .cells (cl u8 ([((n <<< 3) >>> 16).setWidth 8])) 5 (0, 0))]) _ (Mem.pick Hs47 [_] _ hm47)
       refine CW.abs (fun g => g 0 = (ptr bd 0) ∧ g 2 = (ptr b2 0) ∧ g 3 = (ptr be 0) ∧ g 4 = sv47 ∧ g 5 = (i64 2) ∧ g 30 = (bl (((((ll.length : Int) + ((128#8 :: List.replicate ((119 - ll.length) % 64) 0#8).length : Int)) + 8) % 64) != 0)) ∧ g 35 = (bl true) ∧ True) ⟨s0, s2, s3, rfl, rfl, s30, rfl, trivial⟩ ?_
       rintro fr49 ⟨s0, s2, s3, s4, s5, s30, s35, _⟩
       refine cw_region <| rM rfl s5 <| rw_q (v := (i64 1)) rfl (ev_i64_sub (a := 2) (b := 1) rfl rfl oM oM) <| rw_q rfl (ev_assign (v := (i64 1)) rfl) ?_
       refine rN (cr_succ (cw_seq (sR ?_)))
       refine rw_q rfl (ev_move (v := (i64 1)) rfl) <| rw_q rfl (ev_i64_geq (a := 1) (b := 0) rfl rfl) <| rN <| cw_cond_t rfl (by decide) ?_
       refine cw_skip (kThen_normal (cw_seq (cw_block (cw_region ?_))))
       refine rM rfl s4 <| rM rfl s0 <| rw_q rfl (ev_nilCheck rfl) <| rw_q rfl (ev_fa (r := 9) uT96 rfl (by first | rfl | omega) ti61 rfl rfl) <| rw_q (v := (u64 n)) rfl (ev_load1 uT61 rfl rfl (hm48.rest _ _ hd) rfl) <| rw_q rfl (ev_u64_shl (b := 3) rfl rfl oM) ?_
       refine rw_q rfl (ev_move (v := (i64 1)) rfl) <| rw_q (v := (i64 8)) rfl (ev_i64_mul (a := 8) (b := 1) rfl rfl oM oM) <| rw_q rfl (ev_u64_shr (b := 8) rfl rfl oM) <| rw_q rfl (ev_conv_u64_u8 ⟨_, uT61⟩ uT5 rfl) <| rw_c rfl (or_buildSlice_cl u8 [((n <<< 3) >>> 8).setWidth 8] u8_one hm48 uT26 ti5 rfl rfl rfl) ?_
       rintro _ w50 ⟨b48_6, rfl, _ew50, hm50⟩
       refine rw_c rfl (or_append (f := u8) (Hs := Hs47) (H := [(b48_6, .cells (cl u8 ([((n <<< 3) >>> 8).setWidth 8])) 5 (0, 0)), (be, .cells #[(u32 x0), (u32 x1), (u32 x2), (u32 x3), (u32 x4), (u32 x5), (u32 x6), (u32 x7), svc, (u64 n)] 96 (0, 0))] ++ (Hsc ++ ([(b2, .cells (cl u8 (List.replicate 32 0)) 23 (0, 0))]))) (Mem.pick [_] Hs47 _ hm50) g47 rfl rfl (Rd.mkA hm50.h0) uT26 uT26 ti5 rfl u8_one sD sD) ?_
       rintro sv51 w51 ⟨Hs51, hm51, g51⟩
       replace g51 : Grow u8 5 sv51 ((((((((128#8 :: List.replicate ((119 - ll.length) % 64) 0#8) ++ ([((n <<< 3) >>> 56).setWidth 8])) ++ ([((n <<< 3) >>> 48).setWidth 8])) ++ ([((n <<< 3) >>> 40).setWidth 8])) ++ ([((n <<< 3) >>> 32).setWidth 8])) ++ ([((n <<< 3) >>> 24).setWidth 8])) ++ ([((n <<< 3) >>> 16).setWidth 8])) ++ ([((n <<< 3) >>> 8).setWidth 8])) Hs51 := g51
       refine rA rfl (v := sv51) rfl ?_
       refine rw_nil (kBlk_normal ?_)
       have hm52 := Mem.drop ([(b48_6, .cells (cl u8 ([((n <<< 3) >>> 8).setWidth 8])) 5 (0, 0))]) _ (Mem.pick Hs51 [_] _ hm51)
       refine CW.abs (fun g => g 0 = (ptr bd 0) ∧ g 2 = (ptr b2 0) ∧ g 3 = (ptr be 0) ∧ g 4 = sv51 ∧ g 5 = (i64 1) ∧ g 30 = (bl (((((ll.length : Int) + ((128#8 :: List.replicate ((119 - ll.length) % 64) 0#8).length : Int)) + 8) % 64) != 0)) ∧ g 35 = (bl true) ∧ True) ⟨s0, s2, s3, rfl, rfl, s30, rfl, trivial⟩ ?_
       rintro fr53 ⟨s0, s2, s3, s4, s5, s30, s35, _⟩
       refine cw_region <| rM rfl s5 <| rw_q (v := (i64 0)) rfl (ev_i64_sub (a := 1) (b := 1) rfl rfl oM oM) <| rw_q rfl (ev_assign (v := (i64 0)) rfl) ?_
       refine rN (cr_succ (cw_seq (sR ?_)))
       refine rw_q rfl (ev_move (v := (i64 0)) rfl) <| rw_q rfl (ev_i64_geq (a := 0) (b := 0) rfl rfl) <| rN <| cw_cond_t rfl (by decide) ?_
       refine cw_skip (kThen_normal (cw_seq (cw_block (cw_region ?_))))
       refine rM rfl s4 <| rM rfl s0 <| rw_q rfl (ev_nilCheck rfl) <| rw_q rfl (ev_fa (r := 9) uT96 rfl (by first | rfl | omega) ti61 rfl rfl) <| rw_q (v := (u64 n)) rfl (ev_load1 uT61 rfl rfl (hm52.rest _ _ hd) rfl) <| rw_q rfl (ev_u64_shl (b := 3) rfl rfl oM) ?_
       refine rw_q rfl (ev_move (v := (i64 0)) rfl) <| rw_q (v := (i64 0)) rfl (ev_i64_mul (a := 8) (b := 0) rfl rfl oM oM) <| rw_q rfl (ev_u64_shr (b := 0) rfl rfl oM) <| rw_q rfl (ev_conv_u64_u8 ⟨_, uT61⟩ uT5 rfl) <| rw_c rfl (or_buildSlice_cl u8 [((n <<< 3) >>> 0).setWidth 8] u8_one hm52 uT26 ti5 rfl rfl rfl) ?_
       rintro _ w54 ⟨b48_7, rfl, _ew54, hm54⟩
       refine rw_c rfl (or_append (f := u8) (Hs := Hs51) (H := [(b48_7, .cells (cl u8 ([((n <<< 3) >>> 0).setWidth 8])) 5 (0, 0)), (be, .cells #[(u32 x0), (u32 x1), (u32 x2), (u32 x3), (u32 x4), (u32 x5), (u32 x6), (u32 x7), svc, (u64 n)] 96 (0, 0))] ++ (Hsc ++ ([(b2, .cells (cl u8 (List.replicate 32 0)) 23 (0, 0))]))) (Mem.pick [_] Hs51 _ hm54) g51 rfl rfl (Rd.mkA hm54.h0) uT26 uT26 ti5 rfl u8_one sD sD) ?_
       rintro sv55 w55 ⟨Hs55, hm55, g55⟩
       replace g55 : Grow u8 5 sv55 (((((((((128#8 :: List.replicate ((119 - ll.length) % 64) 0#8) ++ ([((n <<< 3) >>> 56).setWidth 8])) ++ ([((n <<< 3) >>> 48).setWidth 8])) ++ ([((n <<< 3) >>> 40).setWidth 8])) ++ ([((n <<< 3) >>> 32).setWidth 8])) ++ ([((n <<< 3) >>> 24).setWidth 8])) ++ ([((n <<< 3) >>> 16).setWidth 8])) ++ ([((n <<< 3) >>> 8).setWidth 8])) ++ ([((n <<< 3) >>> 0).setWidth 8])) Hs55 := g55
       refine rA rfl (v := sv55) rfl ?_
       refine rw_nil (kBlk_normal ?_)
       have hm56 := Mem.drop ([(b48_7, .cells (cl u8 ([((n <<< 3) >>> 0).setWidth 8])) 5 (0, 0))]) _ (Mem.pick Hs55 [_] _ hm55)
       refine CW.abs (fun g => g 0 = (ptr bd 0) ∧ g 2 = (ptr b2 0) ∧ g 3 = (ptr be 0) ∧ g 4 = sv55 ∧ g 5 = (i64 0) ∧ g 30 = (bl (((((ll.length : Int) + ((128#8 :: List.replicate ((119 - ll.length) % 64) 0#8).length : Int)) + 8) % 64) != 0)) ∧ g 35 = (bl true) ∧ True) ⟨s0, s2, s3, rfl, rfl, s30, rfl, trivial⟩ ?_
       rintro fr57 ⟨s0, s2, s3, s4, s5, s30, s35, _⟩
       refine cw_region <| rM rfl s5 <| rw_q (v := (i64 (-1))) rfl (ev_i64_sub (a := 0) (b := 1) rfl rfl oM oM) <| rw_q rfl (ev_assign (v := (i64 (-1))) rfl) ?_
       refine rN (cr_succ (cw_seq (sR ?_)))
       refine rw_q rfl (ev_move (v := (i64 (-1))) rfl) <| rw_q rfl (ev_i64_geq (a := (-1)) (b := 0) rfl rfl) <| rN <| cw_cond_f rfl (by decide) <| cw_exit ?_
       refine kThen_exit (kThen_exit (kBlk_hit ?_))
       refine cw_seq ?_
       have hpad : ((((((((128#8 :: List.replicate ((119 - ll.length) % 64) 0#8) ++ ([((n <<< 3) >>> 56).setWidth 8])) ++ ([((n <<< 3) >>> 48).setWidth 8])) ++ ([((n <<< 3) >>> 40).setWidth 8])) ++ ([((n <<< 3) >>> 32).setWidth 8])) ++ ([((n <<< 3) >>> 24).setWidth 8])) ++ ([((n <<< 3) >>> 16).setWidth 8])) ++ ([((n <<< 3) >>> 8).setWidth 8])) ++ ([((n <<< 3) >>> 0).setWidth 8]) = padP n ll.length := by simp [padP, lenB]
       refine cw_region <| rM rfl s4 ?_
       have hF59 : Mem w55 (restOf w0) (([(be, .cells #[(u32 x0), (u32 x1), (u32 x2), (u32 x3), (u32 x4), (u32 x5), (u32 x6), (u32 x7), svc, (u64 n)] 96 (0, 0))] ++ (Hsc ++ ([]))) ++ (Hs55 ++ ([(b2, .cells (cl u8 (List.replicate 32 0)) 23 (0, 0))]))) := by
         have hT := (Mem.pick2 Hsc Hs55 [_] _ (Mem.pick2 Hs55 [_] Hsc _ hm56))
         try simp only [List.append_assoc, List.cons_append, List.nil_append, List.append_nil] at hT ⊢
         exact hT
       refine rw_c rfl (opR_call Tryd.func42 bd42 nm42 (args2 s3 rfl) (c_write be x0 x1 x2 x3 x4 x5 x6 x7 svc ll Hsc n sv55 (((((((((128#8 :: List.replicate ((119 - ll.length) % 64) 0#8) ++ ([((n <<< 3) >>> 56).setWidth 8])) ++ ([((n <<< 3) >>> 48).setWidth 8])) ++ ([((n <<< 3) >>> 40).setWidth 8])) ++ ([((n <<< 3) >>> 32).setWidth 8])) ++ ([((n <<< 3) >>> 24).setWidth 8])) ++ ([((n <<< 3) >>> 16).setWidth 8])) ++ ([((n <<< 3) >>> 8).setWidth 8])) ++ ([((n <<< 3) >>> 0).setWidth 8])) _ _ (Mem.give hF59) (hT.mono fun b o e => Mem.addRest hF59 e) (g55.rdAdd hF59 (fun p hp => (List.mem_append_left _ hp))) gc sD)) ?_
       rintro _ w58 ⟨y0q60, y1q60, y2q60, y3q60, y4q60, y5q60, y6q60, y7q60, sv2q60, Hs2q60, hyq60, gl2q60, k_w58⟩
       have hm58 : Mem w58 (restOf w0) ([(be, .cells #[(u32 y0q60), (u32 y1q60), (u32 y2q60), (u32 y3q60), (u32 y4q60), (u32 y5q60), (u32 y6q60), (u32 y7q60), sv2q60, (u64 (n + BitVec.ofInt 64 ((((((((((128#8 :: List.replicate ((119 - ll.length) % 64) 0#8) ++ ([((n <<< 3) >>> 56).setWidth 8])) ++ ([((n <<< 3) >>> 48).setWidth 8])) ++ ([((n <<< 3) >>> 40).setWidth 8])) ++ ([((n <<< 3) >>> 32).setWidth 8])) ++ ([((n <<< 3) >>> 24).setWidth 8])) ++ ([((n <<< 3) >>> 16).setWidth 8])) ++ ([((n <<< 3) >>> 8).setWidth 8])) ++ ([((n <<< 3) >>> 0).setWidth 8])).length : Int)))] 96 (0, 0))] ++ (Hs2q60 ++ (Hs55 ++ ([(b2, .cells (cl u8 (List.replicate 32 0)) 23 (0, 0))])))) := (by
         have hT := Mem.back hF59 k_w58
         try simp only [List.append_assoc, List.cons_append, List.nil_append, List.append_nil] at hT ⊢
         exact hT)
       rw [hpad] at hyq60
       refine rN (cw_seq (sR ?_))
       refine rw_q rfl (ev_move (v := (i64 0)) rfl) ?_
       refine rN (cw_block ?_)
       refine cw_loop (fun g wv => ∃ (e : Nat), (e ≤ 32) ∧ g 0 = (ptr bd 0) ∧ g 2 = (ptr b2 0) ∧ g 3 = (ptr be 0) ∧ g 4 = sv55 ∧ g 5 = (i64 (-1)) ∧ g 30 = (bl (((((ll.length : Int) + ((128#8 :: List.replicate ((119 - ll.length) % 64) 0#8).length : Int)) + 8) % 64) != 0)) ∧ g 35 = (bl false) ∧ g 52 = (i64 (e : Int)) ∧ Mem wv (restOf w0) ([(be, .cells #[(u32 y0q60), (u32 y1q60), (u32 y2q60), (u32 y3q60), (u32 y4q60), (u32 y5q60), (u32 y6q60), (u32 y7q60), sv2q60, (u64 (n + BitVec.ofInt 64 ((((((((((128#8 :: List.replicate ((119 - ll.length) % 64) 0#8) ++ ([((n <<< 3) >>> 56).setWidth 8])) ++ ([((n <<< 3) >>> 48).setWidth 8])) ++ ([((n <<< 3) >>> 40).setWidth 8])) ++ ([((n <<< 3) >>> 32).setWidth 8])) ++ ([((n <<< 3) >>> 24).setWidth 8])) ++ ([((n <<< 3) >>> 16).setWidth 8])) ++ ([((n <<< 3) >>> 8).setWidth 8])) ++ ([((n <<< 3) >>> 0).setWidth 8])).length : Int)))] 96 (0, 0))] ++ (Hs2q60 ++ (Hs55 ++ ([(b2, .cells (cl u8 (filled (fun q => ([y0q60, y1q60, y2q60, y3q60, y4q60, y5q60, y6q60, y7q60].getD (q / 4) 0 >>> (24 - 8 * (q % 4))).setWidth 8) 0 32 e)) 23 (0, 0))]))))) (fun g wv => (32 - RowKit.intOf (g 52)).toNat) ?_ ?_
       · exact ⟨0, oM, s0, s2, s3, s4, rfl, s30, rfl, rfl, (by rw [filled_zero]; exact hm58)⟩
       · rintro fr61 w62 ⟨e, he, s0, s2, s3, s4, s5, s30, s35, s52, hm62⟩
         have z52 := s52
         have hfl : (filled (fun q => ([y0q60, y1q60, y2q60, y3q60, y4q60, y5q60, y6q60, y7q60].getD (q / 4) 0 >>> (24 - 8 * (q % 4))).setWidth 8) (0 : BitVec 8) 32 e).length = 32 := filled_length _ _ _ _ he
         refine sR <| rw_q rfl (ev_i64_lss (b := 32) s52 rfl) ?_
         refine rN (cw_seq ?_)
         refine cw_cond rfl (fun hc63 => ?_) (fun hc63 => ?_)
         · -- true
           have hc63p := of_decide_eq_true hc63
           refine cw_skip (kThen_normal (cw_seq (cw_block (sR ?_))))
           refine rM rfl s52 <| rw_q rfl (ev_assign (v := (i64 (e : Int))) rfl) ?_
           refine rN (cw_region ?_)
           refine rw_q rfl (ev_move (v := (i64 (e : Int))) rfl) <| rw_q rfl (ev_move (v := (i64 (e : Int))) rfl) <| rw_q rfl (EvQ.cast (congrArg i64 (show (e : Int) / 4 = ((e / 4 : Nat) : Int) by omega)) (ev_i64_quo (b := 4) rfl rfl oM oM oM)) <| rw_q rfl (ev_fa (r := 0) uT96 rfl (by first | rfl | omega) ti94 rfl s3) <| rw_q rfl (ev_ia_arr (r := (e / 4)) oM uT94 ti55 rfl rfl oM sD) <| rw_q (v := (u32 ([y0q60, y1q60, y2q60, y3q60, y4q60, y5q60, y6q60, y7q60].getD (e / 4) 0))) rfl (ev_load1 (v := u32 ([y0q60, y1q60, y2q60, y3q60, y4q60, y5q60, y6q60, y7q60].getD (e / 4) 0)) uT55 rfl rfl hm62.h0 (get_cellsD u32 [y0q60, y1q60, y2q60, y3q60, y4q60, y5q60, y6q60, y7q60] [sv2q60, (u64 (n + BitVec.ofInt 64 ((((((((((128#8 :: List.replicate ((119 - ll.length) % 64) 0#8) ++ ([((n <<< 3) >>> 56).setWidth 8])) ++ ([((n <<< 3) >>> 48).setWidth 8])) ++ ([((n <<< 3) >>> 40).setWidth 8])) ++ ([((n <<< 3) >>> 32).setWidth 8])) ++ ([((n <<< 3) >>> 24).setWidth 8])) ++ ([((n <<< 3) >>> 16).setWidth 8])) ++ ([((n <<< 3) >>> 8).setWidth 8])) ++ ([((n <<< 3) >>> 0).setWidth 8])).length : Int)))] 0 sD)) ?_
           refine rw_q rfl (ev_move (v := (i64 (e : Int))) rfl) <| rw_q rfl (ev_i64_rem (b := 4) rfl rfl oM oM oM) <| rw_q rfl (ev_i64_mul (a := 8) rfl rfl oM oM) <| rw_q rfl (EvQ.cast (congrArg i64 (show 24 - (8 * ((e : Int) % 4)) = ((24 - 8 * (e % 4) : Nat) : Int) by omega)) (ev_i64_sub (a := 24) rfl rfl oM oM)) <| rw_q rfl (ev_u32_shr rfl rfl oM) <| rw_q rfl (ev_conv_u32_u8 ⟨_, uT55⟩ uT5 rfl) ?_
           refine rw_q rfl (ev_ia_arr (r := e) oM uT23 ti5 s2 rfl oM sD) <| rw_n (or_store_cl (f := u8) (a := (([y0q60, y1q60, y2q60, y3q60, y4q60, y5q60, y6q60, y7q60].getD (e / 4) 0) >>> ((24 - 8 * (e % 4) : Nat) : Int).toNat).setWidth 8) u8_one ti5 rfl rfl ((Mem.pick3 [_] Hs2q60 Hs55 [_] _ hm62)).h0 sD (.inl (Nat.zero_le _))) ?_
           rintro _ w64 uq64
           have hm64 : Mem w64 (restOf w0) ([(b2, .cells (cl u8 ((filled (fun q => ([y0q60, y1q60, y2q60, y3q60, y4q60, y5q60, y6q60, y7q60].getD (q / 4) 0 >>> (24 - 8 * (q % 4))).setWidth 8) 0 32 e).set e ((([y0q60, y1q60, y2q60, y3q60, y4q60, y5q60, y6q60, y7q60].getD (e / 4) 0) >>> ((24 - 8 * (e % 4) : Nat) : Int).toNat).setWidth 8))) 23 (0, 0)), (be, .cells #[(u32 y0q60), (u32 y1q60), (u32 y2q60), (u32 y3q60), (u32 y4q60), (u32 y5q60), (u32 y6q60), (u32 y7q60), sv2q60, (u64 (n + BitVec.ofInt 64 ((((((((((128#8 :: List.replicate ((119 - ll.length) % 64) 0#8) ++ ([((n <<< 3) >>> 56).setWidth 8])) ++ ([((n <<< 3) >>> 48).setWidth 8])) ++ ([((n <<< 3) >>> 40).setWidth 8])) ++ ([((n <<< 3) >>> 32).setWidth 8])) ++ ([((n <<< 3) >>> 24).setWidth 8])) ++ ([((n <<< 3) >>> 16).setWidth 8])) ++ ([((n <<< 3) >>> 8).setWidth 8])) ++ ([((n <<< 3) >>> 0).setWidth 8])).length : Int)))] 96 (0, 0))] ++ (Hs2q60 ++ (Hs55 ++ ([])))) := Mem.upd0 (Mem.pick3 [_] Hs2q60 Hs55 [_] _ hm62) uq64
           refine rw_nil (kBlk_normal ?_)
           refine CW.abs (fun g => g 0 = (ptr bd 0) ∧ g 2 = (ptr b2 0) ∧ g 3 = (ptr be 0) ∧ g 4 = sv55 ∧ g 5 = (i64 (-1)) ∧ g 6 = (i64 (e : Int)) ∧ g 30 = (bl (((((ll.length : Int) + ((128#8 :: List.replicate ((119 - ll.length) % 64) 0#8).length : Int)) + 8) % 64) != 0)) ∧ g 35 = (bl false) ∧ g 52 = (i64 (e : Int)) ∧ g 53 = (bl (decide ((e : Int) < 32))) ∧ True) ⟨s0, s2, s3, s4, s5, rfl, s30, s35, s52, rfl, trivial⟩ ?_
           rintro fr65 ⟨s0, s2, s3, s4, s5, s6, s30, s35, s52, s53, _⟩
           refine cw_region <| rw_q rfl (ev_i64_add (b := 1) s52 rfl oM oM) <| rw_q rfl (ev_move (v := (i64 ((e : Int) + 1))) rfl) <| rN ?_
           have hm66 := (Mem.pick2 [_, _] Hs2q60 Hs55 _ hm64)
           have hm67 := (Mem.pick2 Hs55 [_, _] Hs2q60 _ hm66)
           have hm68 := (Mem.pick3 Hs2q60 Hs55 [_] [_] _ hm67)
           exact ⟨⟨e + 1, oM, s0, s2, s3, s4, s5, s30, s35, rfl, (by rw [← filled_set (fun q => ([y0q60, y1q60, y2q60, y3q60, y4q60, y5q60, y6q60, y7q60].getD (q / 4) 0 >>> (24 - 8 * (q % 4))).setWidth 8) (0 : BitVec 8) (n := 32) (k := e) oM _ rfl]; exact hm68)⟩, meas rfl z52 oM oM⟩
         · -- false
           have hc63p := of_decide_eq_false hc63
           obtain rfl : e = 32 := by omega
           have hfl := filled_length (fun q => ([y0q60, y1q60, y2q60, y3q60, y4q60, y5q60, y6q60, y7q60].getD (q / 4) 0 >>> (24 - 8 * (q % 4))).setWidth 8) (0 : BitVec 8) 32 32 oM
           refine cw_exit ?_
           refine kThen_exit (kThen_exit (kBlk_hit ?_))
           refine sR <| rw_q (v := (agg u8 (filled (fun q => ([y0q60, y1q60, y2q60, y3q60, y4q60, y5q60, y6q60, y7q60].getD (q / 4) 0 >>> (24 - 8 * (q % 4))).setWidth 8) 0 32 32))) rfl (ev_loadA uT23 rfl ti23 s2 ((Mem.pick3 [_] Hs2q60 Hs55 [_] _ hm62)).h0 sZ) <| rw_n (or_store_agg (f := u8) (l := filled (fun q => ([y0q60, y1q60, y2q60, y3q60, y4q60, y5q60, y6q60, y7q60].getD (q / 4) 0 >>> (24 - 8 * (q % 4))).setWidth 8) 0 32 32) u8_one ti23 s2 rfl sD ((Mem.pick3 [_] Hs2q60 Hs55 [_] _ hm62)).h0 sZ rfl) ?_
           rintro _ w69 uq69
           have hm69 : Mem w69 (restOf w0) ([(b2, .cells (cl u8 (filled (fun q => ([y0q60, y1q60, y2q60, y3q60, y4q60, y5q60, y6q60, y7q60].getD (q / 4) 0 >>> (24 - 8 * (q % 4))).setWidth 8) 0 32 32)) 23 (0, 0)), (be, .cells #[(u32 y0q60), (u32 y1q60), (u32 y2q60), (u32 y3q60), (u32 y4q60), (u32 y5q60), (u32 y6q60), (u32 y7q60), sv2q60, (u64 (n + BitVec.ofInt 64 ((((((((((128#8 :: List.replicate ((119 - ll.length) % 64) 0#8) ++ ([((n <<< 3) >>> 56).setWidth 8])) ++ ([((n <<< 3) >>> 48).setWidth 8])) ++ ([((n <<< 3) >>> 40).setWidth 8])) ++ ([((n <<< 3) >>> 32).setWidth 8])) ++ ([((n <<< 3) >>> 24).setWidth 8])) ++ ([((n <<< 3) >>> 16).setWidth 8])) ++ ([((n <<< 3) >>> 8).setWidth 8])) ++ ([((n <<< 3) >>> 0).setWidth 8])).length : Int)))] 96 (0, 0))] ++ (Hs2q60 ++ (Hs55 ++ ([])))) := Mem.upd0 (Mem.pick3 [_] Hs2q60 Hs55 [_] _ hm62) uq69
           refine rN (cw_ret ?_)
           refine fnPost_ret [(agg u8 (filled (fun q => ([y0q60, y1q60, y2q60, y3q60, y4q60, y5q60, y6q60, y7q60].getD (q / 4) 0 >>> (24 - 8 * (q % 4))).setWidth 8) 0 32 32))] ⟨⟨_, s2, loadVar_run uT23 rfl ti23 hm69.h0 sZ⟩, trivial⟩ ?_
           exact ⟨congrArg (agg u8) ((show filled (fun q => ([y0q60, y1q60, y2q60, y3q60, y4q60, y5q60, y6q60, y7q60].getD (q / 4) 0 >>> (24 - 8 * (q % 4))).setWidth 8) 0 32 32 = bytesOf [y0q60, y1q60, y2q60, y3q60, y4q60, y5q60, y6q60, y7q60] from rfl).trans (congrArg bytesOf hyq60)), hm69.toExt⟩


end Go.Proofs.YtmiagmbgfhakgaaDoor

