/- Contracts: stream, fifth part. Conditions: none beyond those that each theorem states. -/
import Derived.Test.YtmiagmbgfhakgaaDoorSt4
namespace Go.Proofs.YtmiagmbgfhakgaaDoor
set_option linter.unusedVariables false
set_option linter.unusedSimpArgs false

set_option maxHeartbeats 4000000 in
theorem c_block3 (key : List (BitVec 8)) (counter : BitVec 32) (nonce : List (BitVec 8)) (w0 : World)  (hk : key.length = 32) (hn : nonce.length = 12) : CallsR Tryd.prog 49 #[(agg u8 key), (u32 counter), (agg u8 nonce)] w0 (fun r w1 => ∃ Hs, Grow u8 5 r (blockR key counter nonce) Hs ∧ Mem w1 (restOf w0) Hs) := by
 refine callsR_of_cw (args := [(agg u8 key), (u32 counter), (agg u8 nonce)]) Tryd.func49 rfl Tryd.ntmps49 Tryd.results49 rfl ?_
 have hm0 : Mem w0 (restOf w0) [] := Mem.of_world w0
 refine cw_seq (cw_region ?_)
 refine rw_c rfl (or_box_agg (f := u8) (l := key) hm0 rfl) ?_
 rintro _ w1 ⟨b3, rfl, _ew1, hm1⟩
 refine rw_c rfl (or_box_agg (f := u8) (l := nonce) hm1 rfl) ?_
 rintro _ w2 ⟨b5, rfl, _ew2, hm2⟩
 refine rw_q rfl (ev_assign (v := (Value.slice none 0 0)) rfl) ?_
 refine rw_nil (kThen_normal (cw_seq (cw_region ?_)))
 refine rw_c rfl (or_buildSlice_cl u32 [1634760805#32, 857760878#32, 2036477234#32, 1797285236#32] u32_one hm2 uT101 ti55 rfl rfl rfl) ?_
 rintro _ w3 ⟨b19, rfl, _ew3, hm3⟩
 refine rw_q rfl (ev_assign (v := (slc b19 0 4 4)) rfl) ?_
 refine rw_nil (kThen_normal (cw_seq (cw_seq (cw_region ?_))))
 refine rw_q rfl (ev_assign (v := (i64 0)) rfl) ?_
 refine rw_nil (kThen_normal (cw_block ?_))
 refine cw_rounds 9 ?_
 refine cr_succ (cw_seq (cw_seq (cw_region ?_)))
 refine rw_q rfl (ev_move (v := (i64 0)) rfl) <| rw_q rfl (ev_i64_lss (a := 0) (b := 32) rfl rfl) ?_
 refine rw_nil (kThen_normal ?_)
 refine cw_cond_t rfl (by decide) ?_
 refine cw_skip (kThen_normal (cw_seq (cw_block (cw_region ?_))))
 refine rw_q rfl (ev_move (v := (slc b19 0 4 4)) rfl) <| rw_q rfl (ev_move (v := (i64 0)) rfl) <| rw_q rfl (ev_move (v := (i64 0)) rfl) <| rw_q (v := (i64 4)) rfl (ev_i64_add (a := 0) (b := 4) rfl rfl oM oM) <| rw_q rfl (ev_slice_sla (i := 0) (j := 4) uT23 ti5 rfl (optI_some (k := .i64) (i := 0) rfl) (optI_some (k := .i64) (i := 4) rfl) oM sD sD) <| rw_c rfl (opR_call Tryd.func66 bd66 nm66 (args1 rfl) (c_word3 (sla b3 0 1 0 4 32) ((key.drop 0).take 4) _ (Rd.cast (l' := (key.drop 0).take 4) (Rd.sla hm3.h2 sD oM sD sD) rfl) sD)) ?_
 rintro _ w4 ⟨rfl, _ew4⟩
 have hm4 := hm3.ext _ew4
 refine rw_c rfl (or_buildSlice_cl u32 [wordRL ((key.drop 0).take 4)] u32_one hm4 uT101 ti55 rfl rfl rfl) ?_
 rintro _ w6 ⟨b30, rfl, _ew6, hm6⟩
 refine rw_c rfl (or_append (f := u32) (Hs := [(b19, .cells (cl u32 ([1634760805#32, 857760878#32, 2036477234#32, 1797285236#32])) 55 (0, 0))]) (H := [(b30, .cells (cl u32 ([wordRL ((key.drop 0).take 4)])) 55 (0, 0)), (b5, .cells (cl u8 nonce) 25 (0, 0)), (b3, .cells (cl u8 key) 23 (0, 0))]) (Mem.pick [_] [_] _ hm6) (Grow.of u32 55 b19 ([1634760805#32, 857760878#32, 2036477234#32, 1797285236#32])) rfl rfl (Rd.mkA hm6.h0) uT101 uT101 ti55 rfl u32_one sD sD) ?_
 rintro sv7 w7 ⟨Hs7, hm7, g7⟩
 replace g7 : Grow u32 55 sv7 ([1634760805#32, 857760878#32, 2036477234#32, 1797285236#32, wordRL ((key.drop 0).take 4)]) Hs7 := g7
 refine rA rfl (v := sv7) rfl ?_
 refine rw_nil (kBlk_normal ?_)
 have hm8 := Mem.drop ([(b30, .cells (cl u32 ([wordRL ((key.drop 0).take 4)])) 55 (0, 0))]) _ (Mem.pick Hs7 [_] _ hm7)
 refine CW.abs (fun g => g 0 = (agg u8 key) ∧ g 1 = (u32 counter) ∧ g 2 = (agg u8 nonce) ∧ g 3 = (ptr b3 0) ∧ g 5 = (ptr b5 0) ∧ g 6 = (Value.slice none 0 0) ∧ g 7 = sv7 ∧ g 8 = (i64 0) ∧ g 21 = (bl true) ∧ True) ⟨rfl, rfl, rfl, rfl, rfl, rfl, rfl, rfl, rfl, trivial⟩ ?_
 rintro fr9 ⟨s0, s1, s2, s3, s5, s6, s7, s8, s21, _⟩
 refine cw_region <| rM rfl s8 <| rw_q (v := (i64 4)) rfl (ev_i64_add (a := 0) (b := 4) rfl rfl oM oM) <| rw_q rfl (ev_assign (v := (i64 4)) rfl) ?_
 refine rw_nil (kThen_normal (cr_succ (cw_seq (cw_seq (cw_region ?_)))))
 refine rw_q rfl (ev_move (v := (i64 4)) rfl) <| rw_q rfl (ev_i64_lss (a := 4) (b := 32) rfl rfl) ?_
 refine rw_nil (kThen_normal ?_)
 refine cw_cond_t rfl (by decide) ?_
 refine cw_skip (kThen_normal (cw_seq (cw_block (cw_region ?_))))
 refine rM rfl s7 <| rw_q rfl (ev_move (v := (i64 4)) rfl) <| rw_q rfl (ev_move (v := (i64 4)) rfl) <| rw_q (v := (i64 8)) rfl (ev_i64_add (a := 4) (b := 4) rfl rfl oM oM) <| rw_q rfl (ev_slice_sla (i := 4) (j := 8) uT23 ti5 s3 (optI_some (k := .i64) (i := 4) rfl) (optI_some (k := .i64) (i := 8) rfl) oM sD sD) <| rw_c rfl (opR_call Tryd.func66 bd66 nm66 (args1 rfl) (c_word3 (sla b3 0 1 4 8 32) ((key.drop 4).take 4) _ (Rd.cast (l' := (key.drop 4).take 4) (Rd.sla ((Mem.pick2 Hs7 [_] [_] _ hm8)).h0 sD oM sD sD) rfl) sD)) ?_
 rintro _ w10 ⟨rfl, _ew10⟩
 have hm10 := hm8.ext _ew10
 refine rw_c rfl (or_buildSlice_cl u32 [wordRL ((key.drop 4).take 4)] u32_one hm10 uT101 ti55 rfl rfl rfl) ?_
 rintro _ w12 ⟨b30_1, rfl, _ew12, hm12⟩
 refine rw_c rfl (or_append (f := u32) (Hs := Hs7) (H := [(b30_1, .cells (cl u32 ([wordRL ((key.drop 4).take 4)])) 55 (0, 0)), (b5, .cells (cl u8 nonce) 25 (0, 0)), (b3, .cells (cl u8 key) 23 (0, 0))]) (Mem.pick [_] Hs7 _ hm12) g7 rfl rfl (Rd.mkA hm12.h0) uT101 uT101 ti55 rfl u32_one sD sD) ?_
 rintro sv13 w13 ⟨Hs13, hm13, g13⟩
 replace g13 : Grow u32 55 sv13 ([1634760805#32, 857760878#32, 2036477234#32, 1797285236#32, wordRL ((key.drop 0).take 4), wordRL ((key.drop 4).take 4)]) Hs13 := g13
 refine rA rfl (v := sv13) rfl ?_
 refine rw_nil (kBlk_normal ?_)
 have hm14 := Mem.drop ([(b30_1, .cells (cl u32 ([wordRL ((key.drop 4).take 4)])) 55 (0, 0))]) _ (Mem.pick Hs13 [_] _ hm13)
 refine CW.abs (fun g => g 0 = (agg u8 key) ∧ g 1 = (u32 counter) ∧ g 2 = (agg u8 nonce) ∧ g 3 = (ptr b3 0) ∧ g 5 = (ptr b5 0) ∧ g 6 = (Value.slice none 0 0) ∧ g 7 = sv13 ∧ g 8 = (i64 4) ∧ g 21 = (bl true) ∧ True) ⟨s0, s1, s2, s3, s5, s6, rfl, rfl, rfl, trivial⟩ ?_
 rintro fr15 ⟨s0, s1, s2, s3, s5, s6, s7, s8, s21, _⟩
 refine cw_region <| rM rfl s8 <| rw_q (v := (i64 8)) rfl (ev_i64_add (a := 4) (b := 4) rfl rfl oM oM) <| rw_q rfl (ev_assign (v := (i64 8)) rfl) ?_
 refine rw_nil (kThen_normal (cr_succ (cw_seq (cw_seq (cw_region ?_)))))
 refine rw_q rfl (ev_move (v := (i64 8)) rfl) <| rw_q rfl (ev_i64_lss (a := 8) (b := 32) rfl rfl) ?_
 refine rw_nil (kThen_normal ?_)
 refine cw_cond_t rfl (by decide) ?_
 refine cw_skip (kThen_normal (cw_seq (cw_block (cw_region ?_))))
 refine rM rfl s7 <| rw_q rfl (ev_move (v := (i64 8)) rfl) <| rw_q rfl (ev_move (v := (i64 8)) rfl) <| rw_q (v := (i64 12)) rfl (ev_i64_add (a := 8) (b := 4) rfl rfl oM oM) <| rw_q rfl (ev_slice_sla (i := 8) (j := 12) uT23 ti5 s3 (optI_some (k := .i64) (i := 8) rfl) (optI_some (k := .i64) (i := 12) rfl) oM sD sD) <| rw_c rfl (opR_call Tryd.func66 bd66 nm66 (args1 rfl) (c_word3 (sla b3 0 1 8 12 32) ((key.drop 8).take 4) _ (Rd.cast (l' := (key.drop 8).take 4) (Rd.sla ((Mem.pick2 Hs13 [_] [_] _ hm14)).h0 sD oM sD sD) rfl) sD)) ?_
 rintro _ w16 ⟨rfl, _ew16⟩
 have hm16 := hm14.ext _ew16
 refine rw_c rfl (or_buildSlice_cl u32 [wordRL ((key.drop 8).take 4)] u32_one hm16 uT101 ti55 rfl rfl rfl) ?_
 rintro _ w18 ⟨b30_2, rfl, _ew18, hm18⟩
 refine rw_c rfl (or_append (f := u32) (Hs := Hs13) (H := [(b30_2, .cells (cl u32 ([wordRL ((key.drop 8).take 4)])) 55 (0, 0)), (b5, .cells (cl u8 nonce) 25 (0, 0)), (b3, .cells (cl u8 key) 23 (0, 0))]) (Mem.pick [_] Hs13 _ hm18) g13 rfl rfl (Rd.mkA hm18.h0) uT101 uT101 ti55 rfl u32_one sD sD) ?_
 rintro sv19 w19 ⟨Hs19, hm19, g19⟩
 replace g19 : Grow u32 55 sv19 ([1634760805#32, 857760878#32, 2036477234#32, 1797285236#32, wordRL ((key.drop 0).take 4), wordRL ((key.drop 4).take 4), wordRL ((key.drop 8).take 4)]) Hs19 := g19
 refine rA rfl (v := sv19) rfl ?_
 refine rw_nil (kBlk_normal ?_)
 have hm20 := Mem.drop ([(b30_2, .cells (cl u32 ([wordRL ((key.drop 8).take 4)])) 55 (0, 0))]) _ (Mem.pick Hs19 [_] _ hm19)
 refine CW.abs (fun g => g 0 = (agg u8 key) ∧ g 1 = (u32 counter) ∧ g 2 = (agg u8 nonce) ∧ g 3 = (ptr b3 0) ∧ g 5 = (ptr b5 0) ∧ g 6 = (Value.slice none 0 0) ∧ g 7 = sv19 ∧ g 8 = (i64 8) ∧ g 21 = (bl true) ∧ True) ⟨s0, s1, s2, s3, s5, s6, rfl, rfl, rfl, trivial⟩ ?_
 rintro fr21 ⟨s0, s1, s2, s3, s5, s6, s7, s8, s21, _⟩
 refine cw_region <| rM rfl s8 <| rw_q (v := (i64 12)) rfl (ev_i64_add (a := 8) (b := 4) rfl rfl oM oM) <| rw_q rfl (ev_assign (v := (i64 12)) rfl) ?_
 refine rw_nil (kThen_normal (cr_succ (cw_seq (cw_seq (cw_region ?_)))))
 refine rw_q rfl (ev_move (v := (i64 12)) rfl) <| rw_q rfl (ev_i64_lss (a := 12) (b := 32) rfl rfl) ?_
 refine rw_nil (kThen_normal ?_)
 refine cw_cond_t rfl (by decide) ?_
 refine cw_skip (kThen_normal (cw_seq (cw_block (cw_region ?_))))
 refine rM rfl s7 <| rw_q rfl (ev_move (v := (i64 12)) rfl) <| rw_q rfl (ev_move (v := (i64 12)) rfl) <| rw_q (v := (i64 16)) rfl (ev_i64_add (a := 12) (b := 4) rfl rfl oM oM) <| rw_q rfl (ev_slice_sla (i := 12) (j := 16) uT23 ti5 s3 (optI_some (k := .i64) (i := 12) rfl) (optI_some (k := .i64) (i := 16) rfl) oM sD sD) <| rw_c rfl (opR_call Tryd.func66 bd66 nm66 (args1 rfl) (c_word3 (sla b3 0 1 12 16 32) ((key.drop 12).take 4) _ (Rd.cast (l' := (key.drop 12).take 4) (Rd.sla ((Mem.pick2 Hs19 [_] [_] _ hm20)).h0 sD oM sD sD) rfl) sD)) ?_
 rintro _ w22 ⟨rfl, _ew22⟩
 have hm22 := hm20.ext _ew22
 refine rw_c rfl (or_buildSlice_cl u32 [wordRL ((key.drop 12).take 4)] u32_one hm22 uT101 ti55 rfl rfl rfl) ?_
 rintro _ w24 ⟨b30_3, rfl, _ew24, hm24⟩
 refine rw_c rfl (or_append (f := u32) (Hs := Hs19) (H := [(b30_3, .cells (cl u32 ([wordRL ((key.drop 12).take 4)])) 55 (0, 0)), (b5, .cells (cl u8 nonce) 25 (0, 0)), (b3, .cells (cl u8 key) 23 (0, 0))]) (Mem.pick [_] Hs19 _ hm24) g19 rfl rfl (Rd.mkA hm24.h0) uT101 uT101 ti55 rfl u32_one sD sD) ?_
 rintro sv25 w25 ⟨Hs25, hm25, g25⟩
 replace g25 : Grow u32 55 sv25 ([1634760805#32, 857760878#32, 2036477234#32, 1797285236#32, wordRL ((key.drop 0).take 4), wordRL ((key.drop 4).take 4), wordRL ((key.drop 8).take 4), wordRL ((key.drop 12).take 4)]) Hs25 := g25
 refine rA rfl (v := sv25) rfl ?_
 refine rw_nil (kBlk_normal ?_)
 have hm26 := Mem.drop ([(b30_3, .cells (cl u32 ([wordRL ((key.drop 12).take 4)])) 55 (0, 0))]) _ (Mem.pick Hs25 [_] _ hm25)
 refine CW.abs (fun g => g 0 = (agg u8 key) ∧ g 1 = (u32 counter) ∧ g 2 = (agg u8 nonce) ∧ g 3 = (ptr b3 0) ∧ g 5 = (ptr b5 0) ∧ g 6 = (Value.slice none 0 0) ∧ g 7 = sv25 ∧ g 8 = (i64 12) ∧ g 21 = (bl true) ∧ True) ⟨s0, s1, s2, s3, s5, s6, rfl, rfl, rfl, trivial⟩ ?_
 rintro fr27 ⟨s0, s1, s2, s3, s5, s6, s7, s8, s21, _⟩
 refine cw_region <| rM rfl s8 <| rw_q (v := (i64 16)) rfl (ev_i64_add (a := 12) (b := 4) rfl rfl oM oM) <| rw_q rfl (ev_assign (v := (i64 16)) rfl) ?_
 refine rw_nil (kThen_normal (cr_succ (cw_seq (cw_seq (cw_region ?_)))))
 refine rw_q rfl (ev_move (v := (i64 16)) rfl) <| rw_q rfl (ev_i64_lss (a := 16) (b := 32) rfl rfl) ?_
 refine rw_nil (kThen_normal ?_)
 refine cw_cond_t rfl (by decide) ?_
 refine cw_skip (kThen_normal (cw_seq (cw_block (cw_region ?_))))
 refine rM rfl s7 <| rw_q rfl (ev_move (v := (i64 16)) rfl) <| rw_q rfl (ev_move (v := (i64 16)) rfl) <| rw_q (v := (i64 20)) rfl (ev_i64_add (a := 16) (b := 4) rfl rfl oM oM) <| rw_q rfl (ev_slice_sla (i := 16) (j := 20) uT23 ti5 s3 (optI_some (k := .i64) (i := 16) rfl) (optI_some (k := .i64) (i := 20) rfl) oM sD sD) <| rw_c rfl (opR_call Tryd.func66 bd66 nm66 (args1 rfl) (c_word3 (sla b3 0 1 16 20 32) ((key.drop 16).take 4) _ (Rd.cast (l' := (key.drop 16).take 4) (Rd.sla ((Mem.pick2 Hs25 [_] [_] _ hm26)).h0 sD oM sD sD) rfl) sD)) ?_
 rintro _ w28 ⟨rfl, _ew28⟩
 have hm28 := hm26.ext _ew28
 refine rw_c rfl (or_buildSlice_cl u32 [wordRL ((key.drop 16).take 4)] u32_one hm28 uT101 ti55 rfl rfl rfl) ?_
 rintro _ w30 ⟨b30_4, rfl, _ew30, hm30⟩
 refine rw_c rfl (or_append (f := u32) (Hs := Hs25) (H := [(b30_4, .cells (cl u32 ([wordRL ((key.drop 16).take 4)])) 55 (0, 0)), (b5, .cells (cl u8 nonce) 25 (0, 0)), (b3, .cells (cl u8 key) 23 (0, 0))]) (Mem.pick [_] Hs25 _ hm30) g25 rfl rfl (Rd.mkA hm30.h0) uT101 uT101 ti55 rfl u32_one sD sD) ?_
 rintro sv31 w31 ⟨Hs31, hm31, g31⟩
 replace g31 : Grow u32 55 sv31 ([1634760805#32, 857760878#32, 2036477234#32, 1797285236#32, wordRL ((key.drop 0).take 4), wordRL ((key.drop 4).take 4), wordRL ((key.drop 8).take 4), wordRL ((key.drop 12).take 4), wordRL ((key.drop 16).take 4)]) Hs31 := g31
 refine rA rfl (v := sv31) rfl ?_
 refine rw_nil (kBlk_normal ?_)
 have hm32 := Mem.drop ([(b30_4, .cells (cl u32 ([wordRL ((key.drop 16).take 4)])) 55 (0, 0))]) _ (Mem.pick Hs31 [_] _ hm31)
 refine CW.abs (fun g => g 0 = (agg u8 key) ∧ g 1 = (u32 counter) ∧ g 2 = (agg u8 nonce) ∧ g 3 = (ptr b3 0) ∧ g 5 = (ptr b5 0) ∧ g 6 = (Value.slice none 0 0) ∧ g 7 = sv31 ∧ g 8 = (i64 16) ∧ g 21 = (bl true) ∧ True) ⟨s0, s1, s2, s3, s5, s6, rfl, rfl, rfl, trivial⟩ ?_
 rintro fr33 ⟨s0, s1, s2, s3, s5, s6, s7, s8, s21, _⟩
 refine cw_region <| rM rfl s8 <| rw_q (v := (i64 20)) rfl (ev_i64_add (a := 16) (b := 4) rfl rfl oM oM) <| rw_q rfl (ev_assign (v := (i64 20)) rfl) ?_
 refine rw_nil (kThen_normal (cr_succ (cw_seq (cw_seq (cw_region ?_)))))
 refine rw_q rfl (ev_move (v := (i64 20)) rfl) <| rw_q rfl (ev_i64_lss (a := 20) (b := 32) rfl rfl) ?_
 refine rw_nil (kThen_normal ?_)
 refine cw_cond_t rfl (by decide) ?_
 refine cw_skip (kThen_normal (cw_seq (cw_block (cw_region ?_))))
 refine rM rfl s7 <| rw_q rfl (ev_move (v := (i64 20)) rfl) <| rw_q rfl (ev_move (v := (i64 20)) rfl) <| rw_q (v := (i64 24)) rfl (ev_i64_add (a := 20) (b := 4) rfl rfl oM oM) <| rw_q rfl (ev_slice_sla (i := 20) (j := 24) uT23 ti5 s3 (optI_some (k := .i64) (i := 20) rfl) (optI_some (k := .i64) (i := 24) rfl) oM sD sD) <| rw_c rfl (opR_call Tryd.func66 bd66 nm66 (args1 rfl) (c_word3 (sla b3 0 1 20 24 32) ((key.drop 20).take 4) _ (Rd.cast (l' := (key.drop 20).take 4) (Rd.sla ((Mem.pick2 Hs31 [_] [_] _ hm32)).h0 sD oM sD sD) rfl) sD)) ?_
 rintro _ w34 ⟨rfl, _ew34⟩
 have hm34 := hm32.ext _ew34
 refine rw_c rfl (or_buildSlice_cl u32 [wordRL ((key.drop 20).take 4)] u32_one hm34 uT101 ti55 rfl rfl rfl) ?_
 rintro _ w36 ⟨b30_5, rfl, _ew36, hm36⟩
 refine rw_c rfl (or_append (f := u32) (Hs := Hs31) (H := [(b30_5, .cells (cl u32 ([wordRL ((key.drop 20).take 4)])) 55 (0, 0)), (b5, .cells (cl u8 nonce) 25 (0, 0)), (b3, .cells (cl u8 key) 23 (0, 0))]) (Mem.pick [_] Hs31 _ hm36) g31 rfl rfl (Rd.mkA hm36.h0) uT101 uT101 ti55 rfl u32_one sD sD) ?_
 rintro sv37 w37 ⟨Hs37, hm37, g37⟩
 replace g37 : Grow u32 55 sv37 ([1634760805#32, 857760878#32, 2036477234#32, 1797285236#32, wordRL ((key.drop 0).take 4), wordRL ((key.drop 4).take 4), wordRL ((key.drop 8).take 4), wordRL ((key.drop 12).take 4), wordRL ((key.drop 16).take 4), wordRL ((key.drop 20).take 4)]) Hs37 := g37
 refine rA rfl (v := sv37) rfl ?_
 refine rw_nil (kBlk_normal ?_)
 have hm38 := Mem.drop ([(b30_5, .cells (cl u32 ([wordRL ((key.drop 20).take 4)])) 55 (0, 0))]) _ (Mem.pick Hs37 [_] _ hm37)
 refine CW.abs (fun g => g 0 = (agg u8 key) ∧ g 1 = (u32 counter) ∧ g 2 = (agg u8 nonce) ∧ g 3 = (ptr b3 0) ∧ g 5 = (ptr b5 0) ∧ g 6 = (Value.slice none 0 0) ∧ g 7 = sv37 ∧ g 8 = (i64 20) ∧ g 21 = (bl true) ∧ True) ⟨s0, s1, s2, s3, s5, s6, rfl, rfl, rfl, trivial⟩ ?_
 rintro fr39 ⟨s0, s1, s2, s3, s5, s6, s7, s8, s21, _⟩
 refine cw_region <| rM rfl s8 <| rw_q (v := (i64 24)) rfl (ev_i64_add (a := 20) (b := 4) rfl rfl oM oM) <| rw_q rfl (ev_assign (v := (i64 24)) rfl) ?_
 refine rw_nil (kThen_normal (cr_succ (cw_seq (cw_seq (cw_region ?_)))))
 refine rw_q rfl (ev_move (v := (i64 24)) rfl) <| rw_q rfl (ev_i64_lss (a := 24) (b := 32) rfl rfl) ?_
 refine rw_nil (kThen_normal ?_)
 refine cw_cond_t rfl (by decide) ?_
 refine cw_skip (kThen_normal (cw_seq (cw_block (cw_region ?_))))
 refine rM rfl s7 <| rw_q rfl (ev_move (v := (i64 24)) rfl) <| rw_q rfl (ev_move (v := (i64 24)) rfl) <| rw_q (v := (i64 28)) rfl (ev_i64_add (a := 24) (b := 4) rfl rfl oM oM) <| rw_q rfl (ev_slice_sla (i := 24) (j := 28) uT23 ti5 s3 (optI_some (k := .i64) (i := 24) rfl) (optI_some (k := .i64) (i := 28) rfl) oM sD sD) <| rw_c rfl (opR_call Tryd.func66 bd66 nm66 (args1 rfl) (c_word3 (sla b3 0 1 24 28 32) ((key.drop 24).take 4) _ (Rd.cast (l' := (key.drop 24).take 4) (Rd.sla ((Mem.pick2 Hs37 [_] [_] _ hm38)).h0 sD oM sD sD) rfl) sD)) ?_
 rintro _ w40 ⟨rfl, _ew40⟩
 have hm40 := hm38.ext _ew40
 refine rw_c rfl (or_buildSlice_cl u32 [wordRL ((key.drop 24).take 4)] u32_one hm40 uT101 ti55 rfl rfl rfl) ?_
 rintro _ w42 ⟨b30_6, rfl, _ew42, hm42⟩
 refine rw_c rfl (or_append (f := u32) (Hs := Hs37) (H := [(b30_6, .cells (cl u32 ([wordRL ((key.drop 24).take 4)])) 55 (0, 0)), (b5, .cells (cl u8 nonce) 25 (0, 0)), (b3, .cells (cl u8 key) 23 (0, 0))]) (Mem.pick [_] Hs37 _ hm42) g37 rfl rfl (Rd.mkA hm42.h0) uT101 uT101 ti55 rfl u32_one sD sD) ?_
 rintro sv43 w43 ⟨Hs43, hm43, g43⟩
 replace g43 : Grow u32 55 sv43 ([1634760805#32, 857760878#32, 2036477234#32, 1797285236#32, wordRL ((key.drop 0).take 4), wordRL ((key.drop 4).take 4), wordRL ((key.drop 8).take 4), wordRL ((key.drop 12).take 4), wordRL ((key.drop 16).take 4), wordRL ((key.drop 20).take 4), wordRL ((key.drop 24).take 4)]) Hs43 := g43
 refine rA rfl (v := sv43) rfl ?_
 refine rw_nil (kBlk_normal ?_)
 have hm44 := Mem.drop ([(b30_6, .cells (cl u32 ([wordRL ((key.drop 24).take 4)])) 55 (0, 0))]) _ (Mem.pick Hs43 [_] _ hm43)
 refine CW.abs (fun g => g 0 = (agg u8 key) ∧ g 1 = (u32 counter) ∧ g 2 = (agg u8 nonce) ∧ g 3 = (ptr b3 0) ∧ g 5 = (ptr b5 0) ∧ g 6 = (Value.slice none 0 0) ∧ g 7 = sv43 ∧ g 8 = (i64 24) ∧ g 21 = (bl true) ∧ True) ⟨s0, s1, s2, s3, s5, s6, rfl, rfl, rfl, trivial⟩ ?_
 rintro fr45 ⟨s0, s1, s2, s3, s5, s6, s7, s8, s21, _⟩
 refine cw_region <| rM rfl s8 <| rw_q (v := (i64 28)) rfl (ev_i64_add (a := 24) (b := 4) rfl rfl oM oM) <| rw_q rfl (ev_assign (v := (i64 28)) rfl) ?_
 refine rw_nil (kThen_normal (cr_succ (cw_seq (cw_seq (cw_region ?_)))))
 refine rw_q rfl (ev_move (v := (i64 28)) rfl) <| rw_q rfl (ev_i64_lss (a := 28) (b := 32) rfl rfl) ?_
 refine rw_nil (kThen_normal ?_)
 refine cw_cond_t rfl (by decide) ?_
 refine cw_skip (kThen_normal (cw_seq (cw_block (cw_region ?_))))
 refine rM rfl s7 <| rw_q rfl (ev_move (v := (i64 28)) rfl) <| rw_q rfl (ev_move (v := (i64 28)) rfl) <| rw_q (v := (i64 32)) rfl (ev_i64_add (a := 28) (b := 4) rfl rfl oM oM) <| rw_q rfl (ev_slice_sla (i := 28) (j := 32) uT23 ti5 s3 (optI_some (k := .i64) (i := 28) rfl) (optI_some (k := .i64) (i := 32) rfl) oM sD sD) <| rw_c rfl (opR_call Tryd.func66 bd66 nm66 (args1 rfl) (c_word3 (sla b3 0 1 28 32 32) ((key.drop 28).take 4) _ (Rd.cast (l' := (key.drop 28).take 4) (Rd.sla ((Mem.pick2 Hs43 [_] [_] _ hm44)).h0 sD oM sD sD) rfl) sD)) ?_
 rintro _ w46 ⟨rfl, _ew46⟩
 have hm46 := hm44.ext _ew46
 refine rw_c rfl (or_buildSlice_cl u32 [wordRL ((key.drop 28).take 4)] u32_one hm46 uT101 ti55 rfl rfl rfl) ?_
 rintro _ w48 ⟨b30_7, rfl, _ew48, hm48⟩
 refine rw_c rfl (or_append (f := u32) (Hs := Hs43) (H := [(b30_7, .cells (cl u32 ([wordRL ((key.drop 28).take 4)])) 55 (0, 0)), (b5, .cells (cl u8 nonce) 25 (0, 0)), (b3, .cells (cl u8 key) 23 (0, 0))]) (Mem.pick [_] Hs43 _ hm48) g43 rfl rfl (Rd.mkA hm48.h0) uT101 uT101 ti55 rfl u32_one sD sD) ?_
 rintro sv49 w49 ⟨Hs49, hm49, g49⟩
 replace g49 : Grow u32 55 sv49 ([1634760805#32, 857760878#32, 2036477234#32, 1797285236#32, wordRL ((key.drop 0).take 4), wordRL ((key.drop 4).take 4), wordRL ((key.drop 8).take 4), wordRL ((key.drop 12).take 4), wordRL ((key.drop 16).take 4), wordRL ((key.drop 20).take 4), wordRL ((key.drop 24).take 4), wordRL ((key.drop 28).take 4)]) Hs49 := g49
 refine rA rfl (v := sv49) rfl ?_
 refine rw_nil (kBlk_normal ?_)
 have hm50 := Mem.drop ([(b30_7, .cells (cl u32 ([wordRL ((key.drop 28).take 4)])) 55 (0, 0))]) _ (Mem.pick Hs49 [_] _ hm49)
 refine CW.abs (fun g => g 0 = (agg u8 key) ∧ g 1 = (u32 counter) ∧ g 2 = (agg u8 nonce) ∧ g 3 = (ptr b3 0) ∧ g 5 = (ptr b5 0) ∧ g 6 = (Value.slice none 0 0) ∧ g 7 = sv49 ∧ g 8 = (i64 28) ∧ g 21 = (bl true) ∧ True) ⟨s0, s1, s2, s3, s5, s6, rfl, rfl, rfl, trivial⟩ ?_
 rintro fr51 ⟨s0, s1, s2, s3, s5, s6, s7, s8, s21, _⟩
 refine cw_region <| rM rfl s8 <| rw_q (v := (i64 32)) rfl (ev_i64_add (a := 28) (b := 4) rfl rfl oM oM) <| rw_q rfl (ev_assign (v := (i64 32)) rfl) ?_
 refine rw_nil (kThen_normal (cr_succ (cw_seq (cw_seq (cw_region ?_)))))
 refine rw_q rfl (ev_move (v := (i64 32)) rfl) <| rw_q rfl (ev_i64_lss (a := 32) (b := 32) rfl rfl) ?_
 refine rw_nil (kThen_normal ?_)
 refine cw_cond_f rfl (by decide) <| cw_exit ?_
 refine kThen_exit (kThen_exit (kBlk_hit ?_))
 refine cw_seq (cw_region ?_)
 refine rM rfl s7 <| rM rfl s1 <| rw_c rfl (or_buildSlice_cl u32 [counter] u32_one hm50 uT101 ti55 rfl rfl rfl) ?_
 rintro _ w52 ⟨b34, rfl, _ew52, hm52⟩
 refine rw_c rfl (or_append (f := u32) (Hs := Hs49) (H := [(b34, .cells (cl u32 ([counter])) 55 (0, 0)), (b5, .cells (cl u8 nonce) 25 (0, 0)), (b3, .cells (cl u8 key) 23 (0, 0))]) (Mem.pick [_] Hs49 _ hm52) g49 rfl rfl (Rd.mkA hm52.h0) uT101 uT101 ti55 rfl u32_one sD sD) ?_
 rintro sv53 w53 ⟨Hs53, hm53, g53⟩
 replace g53 : Grow u32 55 sv53 ([1634760805#32, 857760878#32, 2036477234#32, 1797285236#32, wordRL ((key.drop 0).take 4), wordRL ((key.drop 4).take 4), wordRL ((key.drop 8).take 4), wordRL ((key.drop 12).take 4), wordRL ((key.drop 16).take 4), wordRL ((key.drop 20).take 4), wordRL ((key.drop 24).take 4), wordRL ((key.drop 28).take 4), counter]) Hs53 := g53
 refine rA rfl (v := sv53) rfl ?_
 refine rw_nil (kThen_normal (cw_seq (cw_seq (cw_region ?_))))
 refine rw_q rfl (ev_assign (v := (i64 0)) rfl) ?_
 refine rw_nil (kThen_normal ?_)
 have hm54 := Mem.drop ([(b34, .cells (cl u32 ([counter])) 55 (0, 0))]) _ (Mem.pick Hs53 [_] _ hm53)
 refine CW.abs (fun g => g 0 = (agg u8 key) ∧ g 1 = (u32 counter) ∧ g 2 = (agg u8 nonce) ∧ g 3 = (ptr b3 0) ∧ g 5 = (ptr b5 0) ∧ g 6 = (Value.slice none 0 0) ∧ g 7 = sv53 ∧ g 8 = (i64 32) ∧ g 9 = (i64 0) ∧ g 21 = (bl false) ∧ True) ⟨s0, s1, s2, s3, s5, s6, rfl, rfl, rfl, rfl, trivial⟩ ?_
 rintro fr55 ⟨s0, s1, s2, s3, s5, s6, s7, s8, s9, s21, _⟩
 refine cw_block <| cw_rounds 4 ?_
 refine cr_succ (cw_seq (cw_seq (cw_region ?_)))
 refine rM rfl s9 <| rw_q rfl (ev_i64_lss (a := 0) (b := 12) rfl rfl) ?_
 refine rw_nil (kThen_normal ?_)
 refine cw_cond_t rfl (by decide) ?_
 refine cw_skip (kThen_normal (cw_seq (cw_block (cw_region ?_))))
 refine rM rfl s7 <| rM rfl s9 <| rM rfl s9 <| rw_q (v := (i64 4)) rfl (ev_i64_add (a := 0) (b := 4) rfl rfl oM oM) <| rw_q rfl (ev_slice_sla (i := 0) (j := 4) uT25 ti5 s5 (optI_some (k := .i64) (i := 0) rfl) (optI_some (k := .i64) (i := 4) rfl) oM sD sD) <| rw_c rfl (opR_call Tryd.func66 bd66 nm66 (args1 rfl) (c_word3 (sla b5 0 1 0 4 12) ((nonce.drop 0).take 4) _ (Rd.cast (l' := (nonce.drop 0).take 4) (Rd.sla ((Mem.pick Hs53 [_] _ hm54)).h0 sD oM sD sD) rfl) sD)) ?_
 rintro _ w56 ⟨rfl, _ew56⟩
 have hm56 := hm54.ext _ew56
 refine rw_c rfl (or_buildSlice_cl u32 [wordRL ((nonce.drop 0).take 4)] u32_one hm56 uT101 ti55 rfl rfl rfl) ?_
 rintro _ w58 ⟨b46, rfl, _ew58, hm58⟩
 refine rw_c rfl (or_append (f := u32) (Hs := Hs53) (H := [(b46, .cells (cl u32 ([wordRL ((nonce.drop 0).take 4)])) 55 (0, 0)), (b5, .cells (cl u8 nonce) 25 (0, 0)), (b3, .cells (cl u8 key) 23 (0, 0))]) (Mem.pick [_] Hs53 _ hm58) g53 rfl rfl (Rd.mkA hm58.h0) uT101 uT101 ti55 rfl u32_one sD sD) ?_
 rintro sv59 w59 ⟨Hs59, hm59, g59⟩
 replace g59 : Grow u32 55 sv59 ([1634760805#32, 857760878#32, 2036477234#32, 1797285236#32, wordRL ((key.drop 0).take 4), wordRL ((key.drop 4).take 4), wordRL ((key.drop 8).take 4), wordRL ((key.drop 12).take 4), wordRL ((key.drop 16).take 4), wordRL ((key.drop 20).take 4), wordRL ((key.drop 24).take 4), wordRL ((key.drop 28).take 4), counter, wordRL ((nonce.drop 0).take 4)]) Hs59 := g59
 refine rA rfl (v := sv59) rfl ?_
 refine rw_nil (kBlk_normal ?_)
 have hm60 := Mem.drop ([(b46, .cells (cl u32 ([wordRL ((nonce.drop 0).take 4)])) 55 (0, 0))]) _ (Mem.pick Hs59 [_] _ hm59)
 refine CW.abs (fun g => g 0 = (agg u8 key) ∧ g 1 = (u32 counter) ∧ g 2 = (agg u8 nonce) ∧ g 3 = (ptr b3 0) ∧ g 5 = (ptr b5 0) ∧ g 6 = (Value.slice none 0 0) ∧ g 7 = sv59 ∧ g 8 = (i64 32) ∧ g 9 = (i64 0) ∧ g 21 = (bl false) ∧ g 37 = (bl true) ∧ True) ⟨s0, s1, s2, s3, s5, s6, rfl, s8, s9, s21, rfl, trivial⟩ ?_
 rintro fr61 ⟨s0, s1, s2, s3, s5, s6, s7, s8, s9, s21, s37, _⟩
 refine cw_region <| rM rfl s9 <| rw_q (v := (i64 4)) rfl (ev_i64_add (a := 0) (b := 4) rfl rfl oM oM) <| rw_q rfl (ev_assign (v := (i64 4)) rfl) ?_
 refine rw_nil (kThen_normal (cr_succ (cw_seq (cw_seq (cw_region ?_)))))
 refine rw_q rfl (ev_move (v := (i64 4)) rfl) <| rw_q rfl (ev_i64_lss (a := 4) (b := 12) rfl rfl) ?_
 refine rw_nil (kThen_normal ?_)
 refine cw_cond_t rfl (by decide) ?_
 refine cw_skip (kThen_normal (cw_seq (cw_block (cw_region ?_))))
 refine rM rfl s7 <| rw_q rfl (ev_move (v := (i64 4)) rfl) <| rw_q rfl (ev_move (v := (i64 4)) rfl) <| rw_q (v := (i64 8)) rfl (ev_i64_add (a := 4) (b := 4) rfl rfl oM oM) <| rw_q rfl (ev_slice_sla (i := 4) (j := 8) uT25 ti5 s5 (optI_some (k := .i64) (i := 4) rfl) (optI_some (k := .i64) (i := 8) rfl) oM sD sD) <| rw_c rfl (opR_call Tryd.func66 bd66 nm66 (args1 rfl) (c_word3 (sla b5 0 1 4 8 12) ((nonce.drop 4).take 4) _ (Rd.cast (l' := (nonce.drop 4).take 4) (Rd.sla ((Mem.pick Hs59 [_] _ hm60)).h0 sD oM sD sD) rfl) sD)) ?_
 rintro _ w62 ⟨rfl, _ew62⟩
 have hm62 := hm60.ext _ew62
 refine rw_c rfl (or_buildSlice_cl u32 [wordRL ((nonce.drop 4).take 4)] u32_one hm62 uT101 ti55 rfl rfl rfl) ?_
 rintro _ w64 ⟨b46_1, rfl, _ew64, hm64⟩
 refine rw_c rfl (or_append (f := u32) (Hs := Hs59) (H := [(b46_1, .cells (cl u32 ([wordRL ((nonce.drop 4).take 4)])) 55 (0, 0)), (b5, .cells (cl u8 nonce) 25 (0, 0)), (b3, .cells (cl u8 key) 23 (0, 0))]) (Mem.pick [_] Hs59 _ hm64) g59 rfl rfl (Rd.mkA hm64.h0) uT101 uT101 ti55 rfl u32_one sD sD) ?_
 rintro sv65 w65 ⟨Hs65, hm65, g65⟩
 replace g65 : Grow u32 55 sv65 ([1634760805#32, 857760878#32, 2036477234#32, 1797285236#32, wordRL ((key.drop 0).take 4), wordRL ((key.drop 4).take 4), wordRL ((key.drop 8).take 4), wordRL ((key.drop 12).take 4), wordRL ((key.drop 16).take 4), wordRL ((key.drop 20).take 4), wordRL ((key.drop 24).take 4), wordRL ((key.drop 28).take 4), counter, wordRL ((nonce.drop 0).take 4), wordRL ((nonce.drop 4).take 4)]) Hs65 := g65
 refine rA rfl (v := sv65) rfl ?_
 refine rw_nil (kBlk_normal ?_)
 have hm66 := Mem.drop ([(b46_1, .cells (cl u32 ([wordRL ((nonce.drop 4).take 4)])) 55 (0, 0))]) _ (Mem.pick Hs65 [_] _ hm65)
 refine CW.abs (fun g => g 0 = (agg u8 key) ∧ g 1 = (u32 counter) ∧ g 2 = (agg u8 nonce) ∧ g 3 = (ptr b3 0) ∧ g 5 = (ptr b5 0) ∧ g 6 = (Value.slice none 0 0) ∧ g 7 = sv65 ∧ g 8 = (i64 32) ∧ g 9 = (i64 4) ∧ g 21 = (bl false) ∧ g 37 = (bl true) ∧ True) ⟨s0, s1, s2, s3, s5, s6, rfl, s8, rfl, s21, rfl, trivial⟩ ?_
 rintro fr67 ⟨s0, s1, s2, s3, s5, s6, s7, s8, s9, s21, s37, _⟩
 refine cw_region <| rM rfl s9 <| rw_q (v := (i64 8)) rfl (ev_i64_add (a := 4) (b := 4) rfl rfl oM oM) <| rw_q rfl (ev_assign (v := (i64 8)) rfl) ?_
 refine rw_nil (kThen_normal (cr_succ (cw_seq (cw_seq (cw_region ?_)))))
 refine rw_q rfl (ev_move (v := (i64 8)) rfl) <| rw_q rfl (ev_i64_lss (a := 8) (b := 12) rfl rfl) ?_
 refine rw_nil (kThen_normal ?_)
 refine cw_cond_t rfl (by decide) ?_
 refine cw_skip (kThen_normal (cw_seq (cw_block (cw_region ?_))))
 refine rM rfl s7 <| rw_q rfl (ev_move (v := (i64 8)) rfl) <| rw_q rfl (ev_move (v := (i64 8)) rfl) <| rw_q (v := (i64 12)) rfl (ev_i64_add (a := 8) (b := 4) rfl rfl oM oM) <| rw_q rfl (ev_slice_sla (i := 8) (j := 12) uT25 ti5 s5 (optI_some (k := .i64) (i := 8) rfl) (optI_some (k := .i64) (i := 12) rfl) oM sD sD) <| rw_c rfl (opR_call Tryd.func66 bd66 nm66 (args1 rfl) (c_word3 (sla b5 0 1 8 12 12) ((nonce.drop 8).take 4) _ (Rd.cast (l' := (nonce.drop 8).take 4) (Rd.sla ((Mem.pick Hs65 [_] _ hm66)).h0 sD oM sD sD) rfl) sD)) ?_
 rintro _ w68 ⟨rfl, _ew68⟩
 have hm68 := hm66.ext _ew68
 refine rw_c rfl (or_buildSlice_cl u32 [wordRL ((nonce.drop 8).take 4)] u32_one hm68 uT101 ti55 rfl rfl rfl) ?_
 rintro _ w70 ⟨b46_2, rfl, _ew70, hm70⟩
 refine rw_c rfl (or_append (f := u32) (Hs := Hs65) (H := [(b46_2, .cells (cl u32 ([wordRL ((nonce.drop 8).take 4)])) 55 (0, 0)), (b5, .cells (cl u8 nonce) 25 (0, 0)), (b3, .cells (cl u8 key) 23 (0, 0))]) (Mem.pick [_] Hs65 _ hm70) g65 rfl rfl (Rd.mkA hm70.h0) uT101 uT101 ti55 rfl u32_one sD sD) ?_
 rintro sv71 w71 ⟨Hs71, hm71, g71⟩
 replace g71 : Grow u32 55 sv71 ([1634760805#32, 857760878#32, 2036477234#32, 1797285236#32, wordRL ((key.drop 0).take 4), wordRL ((key.drop 4).take 4), wordRL ((key.drop 8).take 4), wordRL ((key.drop 12).take 4), wordRL ((key.drop 16).take 4), wordRL ((key.drop 20).take 4), wordRL ((key.drop 24).take 4), wordRL ((key.drop 28).take 4), counter, wordRL ((nonce.drop 0).take 4), wordRL ((nonce.drop 4).take 4), wordRL ((nonce.drop 8).take 4)]) Hs71 := g71
 refine rA rfl (v := sv71) rfl ?_
 refine rw_nil (kBlk_normal ?_)
 have hm72 := Mem.drop ([(b46_2, .cells (cl u32 ([wordRL ((nonce.drop 8).take 4)])) 55 (0, 0))]) _ (Mem.pick Hs71 [_] _ hm71)
 refine CW.abs (fun g => g 0 = (agg u8 key) ∧ g 1 = (u32 counter) ∧ g 2 = (agg u8 nonce) ∧ g 3 = (ptr b3 0) ∧ g 5 = (ptr b5 0) ∧ g 6 = (Value.slice none 0 0) ∧ g 7 = sv71 ∧ g 8 = (i64 32) ∧ g 9 = (i64 8) ∧ g 21 = (bl false) ∧ g 37 = (bl true) ∧ True) ⟨s0, s1, s2, s3, s5, s6, rfl, s8, rfl, s21, rfl, trivial⟩ ?_
 rintro fr73 ⟨s0, s1, s2, s3, s5, s6, s7, s8, s9, s21, s37, _⟩
 refine cw_region <| rM rfl s9 <| rw_q (v := (i64 12)) rfl (ev_i64_add (a := 8) (b := 4) rfl rfl oM oM) <| rw_q rfl (ev_assign (v := (i64 12)) rfl) ?_
 refine rw_nil (kThen_normal (cr_succ (cw_seq (cw_seq (cw_region ?_)))))
 refine rw_q rfl (ev_move (v := (i64 12)) rfl) <| rw_q rfl (ev_i64_lss (a := 12) (b := 12) rfl rfl) ?_
 refine rw_nil (kThen_normal ?_)
 refine cw_cond_f rfl (by decide) <| cw_exit ?_
 refine kThen_exit (kThen_exit (kBlk_hit ?_))
 refine cw_seq (cw_region ?_)
 refine rw_c rfl (or_buildSlice_cl u32 [] u32_one hm72 uT101 ti55 rfl (by simp [pairs]) rfl) ?_
 rintro _ w74 ⟨b48, rfl, _ew74, hm74⟩
 refine rM rfl s7 <| rw_c rfl (or_append (f := u32) (Hs := [(b48, .cells (cl u32 ([])) 55 (0, 0))]) (H := Hs71 ++ ([(b5, .cells (cl u8 nonce) 25 (0, 0)), (b3, .cells (cl u8 key) 23 (0, 0))])) hm74 (Grow.of u32 55 b48 ([])) rfl rfl (g71.rd (Mem.pick [_] Hs71 _ hm74)) uT101 uT101 ti55 rfl u32_one sD sD) ?_
 rintro sv75 w75 ⟨Hs75, hm75, g75⟩
 replace g75 : Grow u32 55 sv75 ([1634760805#32, 857760878#32, 2036477234#32, 1797285236#32, wordRL ((key.drop 0).take 4), wordRL ((key.drop 4).take 4), wordRL ((key.drop 8).take 4), wordRL ((key.drop 12).take 4), wordRL ((key.drop 16).take 4), wordRL ((key.drop 20).take 4), wordRL ((key.drop 24).take 4), wordRL ((key.drop 28).take 4), counter, wordRL ((nonce.drop 0).take 4), wordRL ((nonce.drop 4).take 4), wordRL ((nonce.drop 8).take 4)]) Hs75 := g75
 refine rA rfl (v := sv75) rfl ?_
 refine rw_nil (kThen_normal (cw_seq (cw_region ?_)))
 refine rw_c rfl (opR_call Tryd.func67 bd67 nm67 (args0) (c_order _)) ?_
 rintro _ w76 ⟨b1q77, b2q77, b3q77, b4q77, b5q77, b6q77, b7q77, b8q77, b9q77, rfl, k_w76⟩
 have hm76 : Mem w76 (restOf w0) ([(b9q77, .cells #[(slc b1q77 0 4 4), (slc b2q77 0 4 4), (slc b3q77 0 4 4), (slc b4q77 0 4 4), (slc b5q77 0 4 4), (slc b6q77 0 4 4), (slc b7q77 0 4 4), (slc b8q77 0 4 4)] 107 (0, 0)), (b8q77, .cells (cl i64 ([3, 4, 9, 14])) 3 (0, 0)), (b7q77, .cells (cl i64 ([2, 7, 8, 13])) 3 (0, 0)), (b6q77, .cells (cl i64 ([1, 6, 11, 12])) 3 (0, 0)), (b5q77, .cells (cl i64 ([0, 5, 10, 15])) 3 (0, 0)), (b4q77, .cells (cl i64 ([3, 7, 11, 15])) 3 (0, 0)), (b3q77, .cells (cl i64 ([2, 6, 10, 14])) 3 (0, 0)), (b2q77, .cells (cl i64 ([1, 5, 9, 13])) 3 (0, 0)), (b1q77, .cells (cl i64 ([0, 4, 8, 12])) 3 (0, 0))] ++ (Hs75 ++ (Hs71 ++ ([(b5, .cells (cl u8 nonce) 25 (0, 0)), (b3, .cells (cl u8 key) 23 (0, 0))])))) := Mem.new (H := Hs75 ++ (Hs71 ++ ([(b5, .cells (cl u8 nonce) 25 (0, 0)), (b3, .cells (cl u8 key) 23 (0, 0))]))) (H' := [(b9q77, .cells #[(slc b1q77 0 4 4), (slc b2q77 0 4 4), (slc b3q77 0 4 4), (slc b4q77 0 4 4), (slc b5q77 0 4 4), (slc b6q77 0 4 4), (slc b7q77 0 4 4), (slc b8q77 0 4 4)] 107 (0, 0)), (b8q77, .cells (cl i64 ([3, 4, 9, 14])) 3 (0, 0)), (b7q77, .cells (cl i64 ([2, 7, 8, 13])) 3 (0, 0)), (b6q77, .cells (cl i64 ([1, 6, 11, 12])) 3 (0, 0)), (b5q77, .cells (cl i64 ([0, 5, 10, 15])) 3 (0, 0)), (b4q77, .cells (cl i64 ([3, 7, 11, 15])) 3 (0, 0)), (b3q77, .cells (cl i64 ([2, 6, 10, 14])) 3 (0, 0)), (b2q77, .cells (cl i64 ([1, 5, 9, 13])) 3 (0, 0)), (b1q77, .cells (cl i64 ([0, 4, 8, 12])) 3 (0, 0))]) hm75 k_w76
 refine rw_q rfl (ev_assign (v := (slc b9q77 0 8 8)) rfl) ?_
 refine rw_nil (kThen_normal ?_)
 refine CW.abs (fun g => g 0 = (agg u8 key) ∧ g 1 = (u32 counter) ∧ g 2 = (agg u8 nonce) ∧ g 3 = (ptr b3 0) ∧ g 5 = (ptr b5 0) ∧ g 6 = (Value.slice none 0 0) ∧ g 7 = sv71 ∧ g 8 = (i64 32) ∧ g 9 = (i64 12) ∧ g 10 = sv75 ∧ g 11 = (slc b9q77 0 8 8) ∧ g 21 = (bl false) ∧ g 37 = (bl false) ∧ True) ⟨s0, s1, s2, s3, s5, s6, s7, s8, rfl, rfl, rfl, s21, rfl, trivial⟩ ?_
 rintro fr78 ⟨s0, s1, s2, s3, s5, s6, s7, s8, s9, s10, s11, s21, s37, _⟩
 refine cw_seq (cw_seq (cw_region ?_))
 refine rw_q rfl (ev_assign (v := (i64 0)) rfl) ?_
 refine rw_nil (kThen_normal (cw_block ?_))
 refine cw_loop (fun g wv => ∃ (k : Nat) (vl : List (BitVec 32)) (sv : Value) (Hv : List (Nat × Obj)), (k ≤ 10) ∧ (vl.length = 16) ∧ (vl = rounds dblR k (beginR wordRL key counter nonce)) ∧ (Grow u32 55 sv vl Hv) ∧ g 0 = (agg u8 key) ∧ g 1 = (u32 counter) ∧ g 2 = (agg u8 nonce) ∧ g 3 = (ptr b3 0) ∧ g 5 = (ptr b5 0) ∧ g 6 = (Value.slice none 0 0) ∧ g 7 = sv71 ∧ g 8 = (i64 32) ∧ g 9 = (i64 12) ∧ g 10 = sv ∧ g 11 = (slc b9q77 0 8 8) ∧ g 12 = (i64 (k : Int)) ∧ g 21 = (bl false) ∧ g 37 = (bl false) ∧ Mem wv (restOf w0) (Hv ++ ([(b9q77, .cells #[(slc b1q77 0 4 4), (slc b2q77 0 4 4), (slc b3q77 0 4 4), (slc b4q77 0 4 4), (slc b5q77 0 4 4), (slc b6q77 0 4 4), (slc b7q77 0 4 4), (slc b8q77 0 4 4)] 107 (0, 0)), (b8q77, .cells (cl i64 ([3, 4, 9, 14])) 3 (0, 0)), (b7q77, .cells (cl i64 ([2, 7, 8, 13])) 3 (0, 0)), (b6q77, .cells (cl i64 ([1, 6, 11, 12])) 3 (0, 0)), (b5q77, .cells (cl i64 ([0, 5, 10, 15])) 3 (0, 0)), (b4q77, .cells (cl i64 ([3, 7, 11, 15])) 3 (0, 0)), (b3q77, .cells (cl i64 ([2, 6, 10, 14])) 3 (0, 0)), (b2q77, .cells (cl i64 ([1, 5, 9, 13])) 3 (0, 0)), (b1q77, .cells (cl i64 ([0, 4, 8, 12])) 3 (0, 0))] ++ (Hs71 ++ ([(b5, .cells (cl u8 nonce) 25 (0, 0)), (b3, .cells (cl u8 key) 23 (0, 0))]))))) (fun g wv => (10 - RowKit.intOf (g 12)).toNat) ?_ ?_
 have hm79 := (Mem.pick4 [_, _, _, _, _, _, _, _, _] Hs75 Hs71 [_] [_] _ hm76)
 have hm80 := (Mem.pick3 [_, _, _, _, _, _, _, _, _, _] Hs75 Hs71 [_] _ hm79)
 have hm81 := (Mem.pick2 [_, _, _, _, _, _, _, _, _, _, _] Hs75 Hs71 _ hm80)
 have hm82 := (Mem.pick2 Hs71 [_, _, _, _, _, _, _, _, _, _] [_] _ hm81)
 have hm83 := (Mem.pick3 [_] Hs71 [_, _, _, _, _, _, _, _, _] [_] _ hm82)
 have hm84 := (Mem.pick3 [_, _] Hs71 [_, _, _, _, _, _, _, _] [_] _ hm83)
 have hm85 := (Mem.pick3 [_, _, _] Hs71 [_, _, _, _, _, _, _] [_] _ hm84)
 have hm86 := (Mem.pick3 [_, _, _, _] Hs71 [_, _, _, _, _, _] [_] _ hm85)
 have hm87 := (Mem.pick3 [_, _, _, _, _] Hs71 [_, _, _, _, _] [_] _ hm86)
 have hm88 := (Mem.pick3 [_, _, _, _, _, _] Hs71 [_, _, _, _] [_] _ hm87)
 have hm89 := (Mem.pick3 [_, _, _, _, _, _, _] Hs71 [_, _, _] [_] _ hm88)
 have hm90 := (Mem.pick3 [_, _, _, _, _, _, _, _] Hs71 [_, _] [_] _ hm89)
 have hm91 := (Mem.pick3 [_, _, _, _, _, _, _, _, _] Hs71 [_, _] Hs75 _ hm90)
 · exact ⟨0, [1634760805#32, 857760878#32, 2036477234#32, 1797285236#32, wordRL ((key.drop 0).take 4), wordRL ((key.drop 4).take 4), wordRL ((key.drop 8).take 4), wordRL ((key.drop 12).take 4), wordRL ((key.drop 16).take 4), wordRL ((key.drop 20).take 4), wordRL ((key.drop 24).take 4), wordRL ((key.drop 28).take 4), counter, wordRL ((nonce.drop 0).take 4), wordRL ((nonce.drop 4).take 4), wordRL ((nonce.drop 8).take 4)], sv75, Hs75, oM, rfl, rfl, g75, s0, s1, s2, s3, s5, s6, s7, s8, s9, s10, s11, rfl, s21, s37, hm91⟩
 · rintro fr92 w93 ⟨k, vl, sv, Hv, hk1, hvl, hv, gv, s0, s1, s2, s3, s5, s6, s7, s8, s9, s10, s11, s12, s21, s37, hm93⟩
   have z12 := s12
   have z10 := s10
   refine cw_seq (cw_seq (cw_region ?_))
   refine rM rfl s12 <| rw_q rfl (ev_i64_lss (b := 10) rfl rfl) ?_
   refine rw_nil (kThen_normal ?_)
   refine cw_cond rfl (fun hc94 => ?_) (fun hc94 => ?_)
   · -- true
     have hc94p := of_decide_eq_true hc94
     obtain ⟨x0, x1, x2, x3, x4, x5, x6, x7, x8, x9, x10, x11, x12, x13, x14, x15, rfl⟩ := list16 vl hvl
     refine cw_skip (kThen_normal (cw_seq (cw_block (cw_seq (cw_region ?_)))))
     refine rw_q rfl (ev_assign (v := (i64 0)) rfl) ?_
     refine rw_nil (kThen_normal (cw_block' ?_))
     refine cw_rounds 9 ?_
     refine cr_succ (cw_seq (cw_seq (cw_region ?_)))
     refine rw_q rfl (ev_move (v := (i64 0)) rfl) <| rw_q rfl (ev_i64_lss (a := 0) (b := 8) rfl rfl) ?_
     refine rw_nil (kThen_normal ?_)
     refine cw_cond_t rfl (by decide) ?_
     refine cw_skip (kThen_normal (cw_seq (cw_block (cw_seq ?_))))
     refine cw_draw [(0, false), (1, false), (2, false), (3, false), (4, false), (5, false), (6, false), (7, false), (8, false), (9, false), (10, false), (11, false), (12, false), (13, false), (14, false), (15, false), (16, false), (17, false), (18, false), (19, false), (20, false), (21, false), (22, false), (23, false), (24, false), (25, false), (26, false), (27, false), (28, false), (29, false), (30, false), (31, false), (32, false), (33, false), (34, false), (35, false), (36, false), (37, false), (38, true)] 39 (by kernel_rfl) <| dM rfl rfl s10 <| dM rfl rfl s11 <| dw_q rfl rfl (fun _ _hx => ev_move (v := (i64 0)) rfl) <| dw_q rfl rfl (fun _ _hx => ev_ia_slc (r := 0) (i := 0) oM uT103 ti107 rfl rfl oM oM) <| dw_q (v := (slc b1q77 0 4 4)) rfl rfl (fun _ _hx => ev_load1 uT107 rfl rfl ((Mem.pick Hv [_] _ (hm93.ext _hx))).h0 rfl) ?_
     refine dw_q rfl rfl (fun _ _hx => ev_ia_slc (r := 0) (i := 0) oM uT107 ti3 rfl rfl oM oM) <| dw_q (v := (i64 0)) rfl rfl (fun _ _hx => ev_load1 uT3 rfl rfl ((Mem.pick2 Hv [_, _, _, _, _, _, _, _] [_] _ (hm93.ext _hx))).h0 (get_clD _ _ 0 (by simp))) <| dw_q rfl rfl (fun _ _hx => ev_indexAddr_rdv (i := 0) (gv.rd (hm93.ext _hx)) uT101 ti55 rfl rfl oM (by simp)) <| dw_q (v := (u32 x0)) rfl rfl (fun _ _hx => ev_load_rdD (l := [x0, x1, x2, x3, x4, x5, x6, x7, x8, x9, x10, x11, x12, x13, x14, x15]) (i := 0) (dflt := 0) (gv.rd (hm93.ext _hx)) uT55 rfl oM (by simp) rfl) <| dM rfl rfl s10 <| dM rfl rfl s11 ?_
     refine dw_q rfl rfl (fun _ _hx => ev_move (v := (i64 0)) rfl) <| dw_q rfl rfl (fun _ _hx => ev_ia_slc (r := 0) (i := 0) oM uT103 ti107 rfl rfl oM oM) <| dw_q (v := (slc b1q77 0 4 4)) rfl rfl (fun _ _hx => ev_load1 uT107 rfl rfl ((Mem.pick Hv [_] _ (hm93.ext _hx))).h0 rfl) <| dw_q rfl rfl (fun _ _hx => ev_ia_slc (r := 1) (i := 1) oM uT107 ti3 rfl rfl oM oM) <| dw_q (v := (i64 4)) rfl rfl (fun _ _hx => ev_load1 uT3 rfl rfl ((Mem.pick2 Hv [_, _, _, _, _, _, _, _] [_] _ (hm93.ext _hx))).h0 (get_clD _ _ 0 (by simp))) <| dw_q rfl rfl (fun _ _hx => ev_indexAddr_rdv (i := 4) (gv.rd (hm93.ext _hx)) uT101 ti55 rfl rfl oM (by simp)) ?_
     refine dw_q (v := (u32 x4)) rfl rfl (fun _ _hx => ev_load_rdD (l := [x0, x1, x2, x3, x4, x5, x6, x7, x8, x9, x10, x11, x12, x13, x14, x15]) (i := 4) (dflt := 0) (gv.rd (hm93.ext _hx)) uT55 rfl oM (by simp) rfl) <| dM rfl rfl s10 <| dM rfl rfl s11 <| dw_q rfl rfl (fun _ _hx => ev_move (v := (i64 0)) rfl) <| dw_q rfl rfl (fun _ _hx => ev_ia_slc (r := 0) (i := 0) oM uT103 ti107 rfl rfl oM oM) <| dw_q (v := (slc b1q77 0 4 4)) rfl rfl (fun _ _hx => ev_load1 uT107 rfl rfl ((Mem.pick Hv [_] _ (hm93.ext _hx))).h0 rfl) ?_
     refine dw_q rfl rfl (fun _ _hx => ev_ia_slc (r := 2) (i := 2) oM uT107 ti3 rfl rfl oM oM) <| dw_q (v := (i64 8)) rfl rfl (fun _ _hx => ev_load1 uT3 rfl rfl ((Mem.pick2 Hv [_, _, _, _, _, _, _, _] [_] _ (hm93.ext _hx))).h0 (get_clD _ _ 0 (by simp))) <| dw_q rfl rfl (fun _ _hx => ev_indexAddr_rdv (i := 8) (gv.rd (hm93.ext _hx)) uT101 ti55 rfl rfl oM (by simp)) <| dw_q (v := (u32 x8)) rfl rfl (fun _ _hx => ev_load_rdD (l := [x0, x1, x2, x3, x4, x5, x6, x7, x8, x9, x10, x11, x12, x13, x14, x15]) (i := 8) (dflt := 0) (gv.rd (hm93.ext _hx)) uT55 rfl oM (by simp) rfl) <| dM rfl rfl s10 <| dM rfl rfl s11 ?_
     refine dw_q rfl rfl (fun _ _hx => ev_move (v := (i64 0)) rfl) <| dw_q rfl rfl (fun _ _hx => ev_ia_slc (r := 0) (i := 0) oM uT103 ti107 rfl rfl oM oM) <| dw_q (v := (slc b1q77 0 4 4)) rfl rfl (fun _ _hx => ev_load1 uT107 rfl rfl ((Mem.pick Hv [_] _ (hm93.ext _hx))).h0 rfl) <| dw_q rfl rfl (fun _ _hx => ev_ia_slc (r := 3) (i := 3) oM uT107 ti3 rfl rfl oM oM) <| dw_q (v := (i64 12)) rfl rfl (fun _ _hx => ev_load1 uT3 rfl rfl ((Mem.pick2 Hv [_, _, _, _, _, _, _, _] [_] _ (hm93.ext _hx))).h0 (get_clD _ _ 0 (by simp))) <| dw_q rfl rfl (fun _ _hx => ev_indexAddr_rdv (i := 12) (gv.rd (hm93.ext _hx)) uT101 ti55 rfl rfl oM (by simp)) ?_
     refine dw_q (v := (u32 x12)) rfl rfl (fun _ _hx => ev_load_rdD (l := [x0, x1, x2, x3, x4, x5, x6, x7, x8, x9, x10, x11, x12, x13, x14, x15]) (i := 12) (dflt := 0) (gv.rd (hm93.ext _hx)) uT55 rfl oM (by simp) rfl) <| dw_q rfl rfl (fun _ _hx => ev_build_cl u32 [x0, x4, x8, x12] u32_one ti105 uT105 ti55 rfl rfl) ?_
     obtain ⟨q97, hq97⟩ : ∃ q, q = quarterL left3 x0 x4 x8 x12 := ⟨_, rfl⟩
     have hq97l : q97.length = 4 := by rw [hq97]; rfl
     refine dw_x (v := (agg u32 q97)) rfl rfl (fun w95 _ew95 => OpR.mono (opR_call Tryd.func68 bd68 nm68 (args1 rfl) (c_quarter3 x0 x4 x8 x12 _)) (by rintro _ w96 ⟨rfl, _ew96⟩; exact ⟨by rw [hq97], _ew96⟩)) ?_
     refine dw_c rfl rfl (fun w98 _ew98 => ?_)
     have hm98 := hm93.ext _ew98
     refine OpR.mono (or_alloc_agg hm98 ti105) ?_
     rintro _ w99 ⟨b14, rfl, _ew99, hm99⟩
     refine ⟨_ew99, ?_⟩
     refine dw_nil (fun w100 _ew100 => ?_)
     have hm100 := hm99.ext _ew100
     refine rw_n (or_store_agg (f := u32) (l := q97) u32_one ti105 rfl rfl sD hm100.h0 sZ rfl) ?_
     rintro _ w101 uq101
     have hm101 := hm100.upd0 uq101
     refine rw_nil (kThen_normal ?_)
     refine CW.abs (fun g => g 0 = (agg u8 key) ∧ g 1 = (u32 counter) ∧ g 2 = (agg u8 nonce) ∧ g 3 = (ptr b3 0) ∧ g 5 = (ptr b5 0) ∧ g 6 = (Value.slice none 0 0) ∧ g 7 = sv71 ∧ g 8 = (i64 32) ∧ g 9 = (i64 12) ∧ g 10 = sv ∧ g 11 = (slc b9q77 0 8 8) ∧ g 12 = (i64 (k : Int)) ∧ g 13 = (i64 0) ∧ g 14 = (ptr b14 0) ∧ g 21 = (bl false) ∧ g 37 = (bl false) ∧ g 53 = (bl (decide ((k : Int) < 10))) ∧ g 57 = (bl true) ∧ True) ⟨s0, s1, s2, s3, s5, s6, s7, s8, s9, s10, s11, s12, rfl, rfl, s21, s37, rfl, rfl, trivial⟩ ?_
     rintro fr102 ⟨s0, s1, s2, s3, s5, s6, s7, s8, s9, s10, s11, s12, s13, s14, s21, s37, s53, s57, _⟩
     refine cw_seq (cw_region ?_)
     refine rw_q rfl (ev_assign (v := (i64 0)) rfl) ?_
     refine rw_nil (kThen_normal (cw_block' ?_))
     refine cw_rounds 5 ?_
     refine cr_succ (cw_seq (cw_seq (cw_region ?_)))
     refine rw_q rfl (ev_move (v := (i64 0)) rfl) <| rw_q rfl (ev_i64_lss (a := 0) (b := 4) rfl rfl) ?_
     refine rw_nil (kThen_normal ?_)
     refine cw_cond_t rfl (by decide) ?_
     refine cw_skip (kThen_normal (cw_seq (cw_block ?_)))
     refine cw_draw [(0, false), (1, false), (2, false), (3, false), (4, false), (5, false), (6, false), (7, false), (8, false), (9, false), (10, false)] 11 (by kernel_rfl) <| dM rfl rfl s10 <| dM rfl rfl s11 <| dM rfl rfl s13 <| dw_q rfl rfl (fun _ _hx => ev_ia_slc (r := 0) (i := 0) oM uT103 ti107 rfl rfl oM oM) <| dw_q (v := (slc b1q77 0 4 4)) rfl rfl (fun _ _hx => ev_load1 uT107 rfl rfl ((Mem.pick2 [_] Hv [_] _ (hm101.ext _hx))).h0 rfl) ?_
     refine dw_q rfl rfl (fun _ _hx => ev_move (v := (i64 0)) rfl) <| dw_q rfl rfl (fun _ _hx => ev_ia_slc (r := 0) (i := 0) oM uT107 ti3 rfl rfl oM oM) <| dw_q (v := (i64 0)) rfl rfl (fun _ _hx => ev_load1 uT3 rfl rfl ((Mem.pick3 [_] Hv [_, _, _, _, _, _, _, _] [_] _ (hm101.ext _hx))).h0 (get_clD _ _ 0 (by simp))) <| dw_q rfl rfl (fun _ _hx => ev_move (v := (i64 0)) rfl) <| dw_q rfl rfl (fun _ _hx => ev_ia_arr (r := 0) (i := 0) oM uT105 ti55 s14 rfl oM oM) <| dw_q (v := (u32 (q97.getD 0 0))) rfl rfl (fun _ _hx => ev_load1 uT55 rfl rfl (hm101.ext _hx).h0 (get_clD _ _ 0 sD)) ?_
     refine dw_nil (fun w103 _ew103 => ?_)
     have hm103 := hm101.ext _ew103
     refine rw_q rfl (ev_indexAddr_rdv (i := 0) (gv.rd (Mem.pick [_] Hv _ hm103)) uT101 ti55 rfl rfl oM (by simp)) <| rw_n (or_store_grow (Hs := Hv) (H := [(b14, .cells (cl u32 q97) 105 (0, 0)), (b9q77, .cells #[(slc b1q77 0 4 4), (slc b2q77 0 4 4), (slc b3q77 0 4 4), (slc b4q77 0 4 4), (slc b5q77 0 4 4), (slc b6q77 0 4 4), (slc b7q77 0 4 4), (slc b8q77 0 4 4)] 107 (0, 0)), (b8q77, .cells (cl i64 ([3, 4, 9, 14])) 3 (0, 0)), (b7q77, .cells (cl i64 ([2, 7, 8, 13])) 3 (0, 0)), (b6q77, .cells (cl i64 ([1, 6, 11, 12])) 3 (0, 0)), (b5q77, .cells (cl i64 ([0, 5, 10, 15])) 3 (0, 0)), (b4q77, .cells (cl i64 ([3, 7, 11, 15])) 3 (0, 0)), (b3q77, .cells (cl i64 ([2, 6, 10, 14])) 3 (0, 0)), (b2q77, .cells (cl i64 ([1, 5, 9, 13])) 3 (0, 0)), (b1q77, .cells (cl i64 ([0, 4, 8, 12])) 3 (0, 0))] ++ (Hs71 ++ ([(b5, .cells (cl u8 nonce) 25 (0, 0)), (b3, .cells (cl u8 key) 23 (0, 0))]))) (i := 0) (a := q97.getD 0 0) (Mem.pick [_] Hv _ hm103) gv u32_one ti55 oM (by simp) rfl rfl) ?_
     rintro _ w104 ⟨Hs104, hm104, g104⟩
     replace g104 : Grow u32 55 sv ([q97.getD 0 0, x1, x2, x3, x4, x5, x6, x7, x8, x9, x10, x11, x12, x13, x14, x15]) Hs104 := g104
     refine rw_nil (kBlk_normal ?_)
     refine CW.abs (fun g => g 0 = (agg u8 key) ∧ g 1 = (u32 counter) ∧ g 2 = (agg u8 nonce) ∧ g 3 = (ptr b3 0) ∧ g 5 = (ptr b5 0) ∧ g 6 = (Value.slice none 0 0) ∧ g 7 = sv71 ∧ g 8 = (i64 32) ∧ g 9 = (i64 12) ∧ g 10 = sv ∧ g 11 = (slc b9q77 0 8 8) ∧ g 12 = (i64 (k : Int)) ∧ g 13 = (i64 0) ∧ g 14 = (ptr b14 0) ∧ g 15 = (i64 0) ∧ g 21 = (bl false) ∧ g 37 = (bl false) ∧ g 53 = (bl (decide ((k : Int) < 10))) ∧ g 57 = (bl true) ∧ g 99 = (bl true) ∧ True) ⟨s0, s1, s2, s3, s5, s6, s7, s8, s9, s10, s11, s12, s13, s14, rfl, s21, s37, s53, s57, rfl, trivial⟩ ?_
     rintro fr105 ⟨s0, s1, s2, s3, s5, s6, s7, s8, s9, s10, s11, s12, s13, s14, s15, s21, s37, s53, s57, s99, _⟩
     refine cw_region <| rM rfl s15 <| rw_q (v := (i64 1)) rfl (ev_i64_add (a := 0) (b := 1) rfl rfl oM oM) <| rw_q rfl (ev_assign (v := (i64 1)) rfl) ?_
     refine rw_nil (kThen_normal (cr_succ (cw_seq (cw_seq (cw_region ?_)))))
     refine rw_q rfl (ev_move (v := (i64 1)) rfl) <| rw_q rfl (ev_i64_lss (a := 1) (b := 4) rfl rfl) ?_
     refine rw_nil (kThen_normal ?_)
     refine cw_cond_t rfl (by decide) ?_
     refine cw_skip (kThen_normal (cw_seq (cw_block ?_)))
     refine cw_draw [(0, false), (1, false), (2, false), (3, false), (4, false), (5, false), (6, false), (7, false), (8, false), (9, false), (10, false)] 11 (by kernel_rfl) <| dM rfl rfl s10 <| dM rfl rfl s11 <| dM rfl rfl s13 <| dw_q rfl rfl (fun _ _hx => ev_ia_slc (r := 0) (i := 0) oM uT103 ti107 rfl rfl oM oM) <| dw_q (v := (slc b1q77 0 4 4)) rfl rfl (fun _ _hx => ev_load1 uT107 rfl rfl ((Mem.pick2 Hs104 [_] [_] _ (hm104.ext _hx))).h0 rfl) ?_
     refine dw_q rfl rfl (fun _ _hx => ev_move (v := (i64 1)) rfl) <| dw_q rfl rfl (fun _ _hx => ev_ia_slc (r := 1) (i := 1) oM uT107 ti3 rfl rfl oM oM) <| dw_q (v := (i64 4)) rfl rfl (fun _ _hx => ev_load1 uT3 rfl rfl ((Mem.pick2 Hs104 [_, _, _, _, _, _, _, _, _] [_] _ (hm104.ext _hx))).h0 (get_clD _ _ 0 (by simp))) <| dw_q rfl rfl (fun _ _hx => ev_move (v := (i64 1)) rfl) <| dw_q rfl rfl (fun _ _hx => ev_ia_arr (r := 1) (i := 1) oM uT105 ti55 s14 rfl oM oM) <| dw_q (v := (u32 (q97.getD 1 0))) rfl rfl (fun _ _hx => ev_load1 uT55 rfl rfl ((Mem.pick Hs104 [_] _ (hm104.ext _hx))).h0 (get_clD _ _ 0 sD)) ?_
     refine dw_nil (fun w106 _ew106 => ?_)
     have hm106 := hm104.ext _ew106
     refine rw_q rfl (ev_indexAddr_rdv (i := 4) (g104.rd hm106) uT101 ti55 rfl rfl oM (by simp)) <| rw_n (or_store_grow (Hs := Hs104) (H := [(b14, .cells (cl u32 q97) 105 (0, 0)), (b9q77, .cells #[(slc b1q77 0 4 4), (slc b2q77 0 4 4), (slc b3q77 0 4 4), (slc b4q77 0 4 4), (slc b5q77 0 4 4), (slc b6q77 0 4 4), (slc b7q77 0 4 4), (slc b8q77 0 4 4)] 107 (0, 0)), (b8q77, .cells (cl i64 ([3, 4, 9, 14])) 3 (0, 0)), (b7q77, .cells (cl i64 ([2, 7, 8, 13])) 3 (0, 0)), (b6q77, .cells (cl i64 ([1, 6, 11, 12])) 3 (0, 0)), (b5q77, .cells (cl i64 ([0, 5, 10, 15])) 3 (0, 0)), (b4q77, .cells (cl i64 ([3, 7, 11, 15])) 3 (0, 0)), (b3q77, .cells (cl i64 ([2, 6, 10, 14])) 3 (0, 0)), (b2q77, .cells (cl i64 ([1, 5, 9, 13])) 3 (0, 0)), (b1q77, .cells (cl i64 ([0, 4, 8, 12])) 3 (0, 0))] ++ (Hs71 ++ ([(b5, .cells (cl u8 nonce) 25 (0, 0)), (b3, .cells (cl u8 key) 23 (0, 0))]))) (i := 4) (a := q97.getD 1 0) hm106 g104 u32_one ti55 oM (by simp) rfl rfl) ?_
     rintro _ w107 ⟨Hs107, hm107, g107⟩
     replace g107 : Grow u32 55 sv ([q97.getD 0 0, x1, x2, x3, q97.getD 1 0, x5, x6, x7, x8, x9, x10, x11, x12, x13, x14, x15]) Hs107 := g107
     refine rw_nil (kBlk_normal ?_)
     refine CW.abs (fun g => g 0 = (agg u8 key) ∧ g 1 = (u32 counter) ∧ g 2 = (agg u8 nonce) ∧ g 3 = (ptr b3 0) ∧ g 5 = (ptr b5 0) ∧ g 6 = (Value.slice none 0 0) ∧ g 7 = sv71 ∧ g 8 = (i64 32) ∧ g 9 = (i64 12) ∧ g 10 = sv ∧ g 11 = (slc b9q77 0 8 8) ∧ g 12 = (i64 (k : Int)) ∧ g 13 = (i64 0) ∧ g 14 = (ptr b14 0) ∧ g 15 = (i64 1) ∧ g 21 = (bl false) ∧ g 37 = (bl false) ∧ g 53 = (bl (decide ((k : Int) < 10))) ∧ g 57 = (bl true) ∧ g 99 = (bl true) ∧ True) ⟨s0, s1, s2, s3, s5, s6, s7, s8, s9, s10, s11, s12, s13, s14, rfl, s21, s37, s53, s57, rfl, trivial⟩ ?_
     rintro fr108 ⟨s0, s1, s2, s3, s5, s6, s7, s8, s9, s10, s11, s12, s13, s14, s15, s21, s37, s53, s57, s99, _⟩
     refine cw_region <| rM rfl s15 <| rw_q (v := (i64 2)) rfl (ev_i64_add (a := 1) (b := 1) rfl rfl oM oM) <| rw_q rfl (ev_assign (v := (i64 2)) rfl) ?_
     refine rw_nil (kThen_normal (cr_succ (cw_seq (cw_seq (cw_region ?_)))))
     refine rw_q rfl (ev_move (v := (i64 2)) rfl) <| rw_q rfl (ev_i64_lss (a := 2) (b := 4) rfl rfl) ?_
     refine rw_nil (kThen_normal ?_)
     refine cw_cond_t rfl (by decide) ?_
     refine cw_skip (kThen_normal (cw_seq (cw_block ?_)))
     refine cw_draw [(0, false), (1, false), (2, false), (3, false), (4, false), (5, false), (6, false), (7, false), (8, false), (9, false), (10, false)] 11 (by kernel_rfl) <| dM rfl rfl s10 <| dM rfl rfl s11 <| dM rfl rfl s13 <| dw_q rfl rfl (fun _ _hx => ev_ia_slc (r := 0) (i := 0) oM uT103 ti107 rfl rfl oM oM) <| dw_q (v := (slc b1q77 0 4 4)) rfl rfl (fun _ _hx => ev_load1 uT107 rfl rfl ((Mem.pick2 Hs107 [_] [_] _ (hm107.ext _hx))).h0 rfl) ?_
     refine dw_q rfl rfl (fun _ _hx => ev_move (v := (i64 2)) rfl) <| dw_q rfl rfl (fun _ _hx => ev_ia_slc (r := 2) (i := 2) oM uT107 ti3 rfl rfl oM oM) <| dw_q (v := (i64 8)) rfl rfl (fun _ _hx => ev_load1 uT3 rfl rfl ((Mem.pick2 Hs107 [_, _, _, _, _, _, _, _, _] [_] _ (hm107.ext _hx))).h0 (get_clD _ _ 0 (by simp))) <| dw_q rfl rfl (fun _ _hx => ev_move (v := (i64 2)) rfl) <| dw_q rfl rfl (fun _ _hx => ev_ia_arr (r := 2) (i := 2) oM uT105 ti55 s14 rfl oM oM) <| dw_q (v := (u32 (q97.getD 2 0))) rfl rfl (fun _ _hx => ev_load1 uT55 rfl rfl ((Mem.pick Hs107 [_] _ (hm107.ext _hx))).h0 (get_clD _ _ 0 sD)) ?_
     refine dw_nil (fun w109 _ew109 => ?_)
     have hm109 := hm107.ext _ew109
     refine rw_q rfl (ev_indexAddr_rdv (i := 8) (g107.rd hm109) uT101 ti55 rfl rfl oM (by simp)) <| rw_n (or_store_grow (Hs := Hs107) (H := [(b14, .cells (cl u32 q97) 105 (0, 0)), (b9q77, .cells #[(slc b1q77 0 4 4), (slc b2q77 0 4 4), (slc b3q77 0 4 4), (slc b4q77 0 4 4), (slc b5q77 0 4 4), (slc b6q77 0 4 4), (slc b7q77 0 4 4), (slc b8q77 0 4 4)] 107 (0, 0)), (b8q77, .cells (cl i64 ([3, 4, 9, 14])) 3 (0, 0)), (b7q77, .cells (cl i64 ([2, 7, 8, 13])) 3 (0, 0)), (b6q77, .cells (cl i64 ([1, 6, 11, 12])) 3 (0, 0)), (b5q77, .cells (cl i64 ([0, 5, 10, 15])) 3 (0, 0)), (b4q77, .cells (cl i64 ([3, 7, 11, 15])) 3 (0, 0)), (b3q77, .cells (cl i64 ([2, 6, 10, 14])) 3 (0, 0)), (b2q77, .cells (cl i64 ([1, 5, 9, 13])) 3 (0, 0)), (b1q77, .cells (cl i64 ([0, 4, 8, 12])) 3 (0, 0))] ++ (Hs71 ++ ([(b5, .cells (cl u8 nonce) 25 (0, 0)), (b3, .cells (cl u8 key) 23 (0, 0))]))) (i := 8) (a := q97.getD 2 0) hm109 g107 u32_one ti55 oM (by simp) rfl rfl) ?_
     rintro _ w110 ⟨Hs110, hm110, g110⟩
     replace g110 : Grow u32 55 sv ([q97.getD 0 0, x1, x2, x3, q97.getD 1 0, x5, x6, x7, q97.getD 2 0, x9, x10, x11, x12, x13, x14, x15]) Hs110 := g110
     refine rw_nil (kBlk_normal ?_)
     refine CW.abs (fun g => g 0 = (agg u8 key) ∧ g 1 = (u32 counter) ∧ g 2 = (agg u8 nonce) ∧ g 3 = (ptr b3 0) ∧ g 5 = (ptr b5 0) ∧ g 6 = (Value.slice none 0 0) ∧ g 7 = sv71 ∧ g 8 = (i64 32) ∧ g 9 = (i64 12) ∧ g 10 = sv ∧ g 11 = (slc b9q77 0 8 8) ∧ g 12 = (i64 (k : Int)) ∧ g 13 = (i64 0) ∧ g 14 = (ptr b14 0) ∧ g 15 = (i64 2) ∧ g 21 = (bl false) ∧ g 37 = (bl false) ∧ g 53 = (bl (decide ((k : Int) < 10))) ∧ g 57 = (bl true) ∧ g 99 = (bl true) ∧ True) ⟨s0, s1, s2, s3, s5, s6, s7, s8, s9, s10, s11, s12, s13, s14, rfl, s21, s37, s53, s57, rfl, trivial⟩ ?_
     rintro fr111 ⟨s0, s1, s2, s3, s5, s6, s7, s8, s9, s10, s11, s12, s13, s14, s15, s21, s37, s53, s57, s99, _⟩
     refine cw_region <| rM rfl s15 <| rw_q (v := (i64 3)) rfl (ev_i64_add (a := 2) (b := 1) rfl rfl oM oM) <| rw_q rfl (ev_assign (v := (i64 3)) rfl) ?_
     refine rw_nil (kThen_normal (cr_succ (cw_seq (cw_seq (cw_region ?_)))))
     refine rw_q rfl (ev_move (v := (i64 3)) rfl) <| rw_q rfl (ev_i64_lss (a := 3) (b := 4) rfl rfl) ?_
     refine rw_nil (kThen_normal ?_)
     refine cw_cond_t rfl (by decide) ?_
     refine cw_skip (kThen_normal (cw_seq (cw_block ?_)))
     refine cw_draw [(0, false), (1, false), (2, false), (3, false), (4, false), (5, false), (6, false), (7, false), (8, false), (9, false), (10, false)] 11 (by kernel_rfl) <| dM rfl rfl s10 <| dM rfl rfl s11 <| dM rfl rfl s13 <| dw_q rfl rfl (fun _ _hx => ev_ia_slc (r := 0) (i := 0) oM uT103 ti107 rfl rfl oM oM) <| dw_q (v := (slc b1q77 0 4 4)) rfl rfl (fun _ _hx => ev_load1 uT107 rfl rfl ((Mem.pick2 Hs110 [_] [_] _ (hm110.ext _hx))).h0 rfl) ?_
     refine dw_q rfl rfl (fun _ _hx => ev_move (v := (i64 3)) rfl) <| dw_q rfl rfl (fun _ _hx => ev_ia_slc (r := 3) (i := 3) oM uT107 ti3 rfl rfl oM oM) <| dw_q (v := (i64 12)) rfl rfl (fun _ _hx => ev_load1 uT3 rfl rfl ((Mem.pick2 Hs110 [_, _, _, _, _, _, _, _, _] [_] _ (hm110.ext _hx))).h0 (get_clD _ _ 0 (by simp))) <| dw_q rfl rfl (fun _ _hx => ev_move (v := (i64 3)) rfl) <| dw_q rfl rfl (fun _ _hx => ev_ia_arr (r := 3) (i := 3) oM uT105 ti55 s14 rfl oM oM) <| dw_q (v := (u32 (q97.getD 3 0))) rfl rfl (fun _ _hx => ev_load1 uT55 rfl rfl ((Mem.pick Hs110 [_] _ (hm110.ext _hx))).h0 (get_clD _ _ 0 sD)) ?_
     refine dw_nil (fun w112 _ew112 => ?_)
     have hm112 := hm110.ext _ew112
     refine rw_q rfl (ev_indexAddr_rdv (i := 12) (g110.rd hm112) uT101 ti55 rfl rfl oM (by simp)) <| rw_n (or_store_grow (Hs := Hs110) (H := [(b14, .cells (cl u32 q97) 105 (0, 0)), (b9q77, .cells #[(slc b1q77 0 4 4), (slc b2q77 0 4 4), (slc b3q77 0 4 4), (slc b4q77 0 4 4), (slc b5q77 0 4 4), (slc b6q77 0 4 4), (slc b7q77 0 4 4), (slc b8q77 0 4 4)] 107 (0, 0)), (b8q77, .cells (cl i64 ([3, 4, 9, 14])) 3 (0, 0)), (b7q77, .cells (cl i64 ([2, 7, 8, 13])) 3 (0, 0)), (b6q77, .cells (cl i64 ([1, 6, 11, 12])) 3 (0, 0)), (b5q77, .cells (cl i64 ([0, 5, 10, 15])) 3 (0, 0)), (b4q77, .cells (cl i64 ([3, 7, 11, 15])) 3 (0, 0)), (b3q77, .cells (cl i64 ([2, 6, 10, 14])) 3 (0, 0)), (b2q77, .cells (cl i64 ([1, 5, 9, 13])) 3 (0, 0)), (b1q77, .cells (cl i64 ([0, 4, 8, 12])) 3 (0, 0))] ++ (Hs71 ++ ([(b5, .cells (cl u8 nonce) 25 (0, 0)), (b3, .cells (cl u8 key) 23 (0, 0))]))) (i := 12) (a := q97.getD 3 0) hm112 g110 u32_one ti55 oM (by simp) rfl rfl) ?_
     rintro _ w113 ⟨Hs113, hm113, g113⟩
     replace g113 : Grow u32 55 sv ([q97.getD 0 0, x1, x2, x3, q97.getD 1 0, x5, x6, x7, q97.getD 2 0, x9, x10, x11, q97.getD 3 0, x13, x14, x15]) Hs113 := g113
     refine rw_nil (kBlk_normal ?_)
     refine CW.abs (fun g => g 0 = (agg u8 key) ∧ g 1 = (u32 counter) ∧ g 2 = (agg u8 nonce) ∧ g 3 = (ptr b3 0) ∧ g 5 = (ptr b5 0) ∧ g 6 = (Value.slice none 0 0) ∧ g 7 = sv71 ∧ g 8 = (i64 32) ∧ g 9 = (i64 12) ∧ g 10 = sv ∧ g 11 = (slc b9q77 0 8 8) ∧ g 12 = (i64 (k : Int)) ∧ g 13 = (i64 0) ∧ g 14 = (ptr b14 0) ∧ g 15 = (i64 3) ∧ g 21 = (bl false) ∧ g 37 = (bl false) ∧ g 53 = (bl (decide ((k : Int) < 10))) ∧ g 57 = (bl true) ∧ g 99 = (bl true) ∧ True) ⟨s0, s1, s2, s3, s5, s6, s7, s8, s9, s10, s11, s12, s13, s14, rfl, s21, s37, s53, s57, rfl, trivial⟩ ?_
     rintro fr114 ⟨s0, s1, s2, s3, s5, s6, s7, s8, s9, s10, s11, s12, s13, s14, s15, s21, s37, s53, s57, s99, _⟩
     refine cw_region <| rM rfl s15 <| rw_q (v := (i64 4)) rfl (ev_i64_add (a := 3) (b := 1) rfl rfl oM oM) <| rw_q rfl (ev_assign (v := (i64 4)) rfl) ?_
     refine rw_nil (kThen_normal (cr_succ (cw_seq (cw_seq (cw_region ?_)))))
     refine rw_q rfl (ev_move (v := (i64 4)) rfl) <| rw_q rfl (ev_i64_lss (a := 4) (b := 4) rfl rfl) ?_
     refine rw_nil (kThen_normal ?_)
     refine cw_cond_f rfl (by decide) <| cw_exit ?_
     refine kThen_exit (kThen_exit (kBlk_hit ?_))
     refine kBlk_normal (cw_region ?_)
     refine rM rfl s13 <| rw_q (v := (i64 1)) rfl (ev_i64_add (a := 0) (b := 1) rfl rfl oM oM) <| rw_q rfl (ev_assign (v := (i64 1)) rfl) ?_
     refine rw_nil (kThen_normal (cr_succ (cw_seq (cw_seq (cw_region ?_)))))
     refine rw_q rfl (ev_move (v := (i64 1)) rfl) <| rw_q rfl (ev_i64_lss (a := 1) (b := 8) rfl rfl) ?_
     refine rw_nil (kThen_normal ?_)
     refine cw_cond_t rfl (by decide) ?_
     refine cw_skip (kThen_normal (cw_seq (cw_block (cw_seq ?_))))
     refine cw_draw [(0, false), (1, false), (2, false), (3, false), (4, false), (5, false), (6, false), (7, false), (8, false), (9, false), (10, false), (11, false), (12, false), (13, false), (14, false), (15, false), (16, false), (17, false), (18, false), (19, false), (20, false), (21, false), (22, false), (23, false), (24, false), (25, false), (26, false), (27, false), (28, false), (29, false), (30, false), (31, false), (32, false), (33, false), (34, false), (35, false), (36, false), (37, false), (38, true)] 39 (by kernel_rfl) <| dM rfl rfl s10 <| dM rfl rfl s11 <| dw_q rfl rfl (fun _ _hx => ev_move (v := (i64 1)) rfl) <| dw_q rfl rfl (fun _ _hx => ev_ia_slc (r := 1) (i := 1) oM uT103 ti107 rfl rfl oM oM) <| dw_q (v := (slc b2q77 0 4 4)) rfl rfl (fun _ _hx => ev_load1 uT107 rfl rfl ((Mem.pick2 Hs113 [_] [_] _ (hm113.ext _hx))).h0 rfl) ?_
     refine dw_q rfl rfl (fun _ _hx => ev_ia_slc (r := 0) (i := 0) oM uT107 ti3 rfl rfl oM oM) <| dw_q (v := (i64 1)) rfl rfl (fun _ _hx => ev_load1 uT3 rfl rfl ((Mem.pick2 Hs113 [_, _, _, _, _, _, _, _] [_] _ (hm113.ext _hx))).h0 (get_clD _ _ 0 (by simp))) <| dw_q rfl rfl (fun _ _hx => ev_indexAddr_rdv (i := 1) (g113.rd (hm113.ext _hx)) uT101 ti55 rfl rfl oM (by simp)) <| dw_q (v := (u32 x1)) rfl rfl (fun _ _hx => ev_load_rdD (l := [q97.getD 0 0, x1, x2, x3, q97.getD 1 0, x5, x6, x7, q97.getD 2 0, x9, x10, x11, q97.getD 3 0, x13, x14, x15]) (i := 1) (dflt := 0) (g113.rd (hm113.ext _hx)) uT55 rfl oM (by simp) rfl) <| dM rfl rfl s10 <| dM rfl rfl s11 ?_
     refine dw_q rfl rfl (fun _ _hx => ev_move (v := (i64 1)) rfl) <| dw_q rfl rfl (fun _ _hx => ev_ia_slc (r := 1) (i := 1) oM uT103 ti107 rfl rfl oM oM) <| dw_q (v := (slc b2q77 0 4 4)) rfl rfl (fun _ _hx => ev_load1 uT107 rfl rfl ((Mem.pick2 Hs113 [_] [_] _ (hm113.ext _hx))).h0 rfl) <| dw_q rfl rfl (fun _ _hx => ev_ia_slc (r := 1) (i := 1) oM uT107 ti3 rfl rfl oM oM) <| dw_q (v := (i64 5)) rfl rfl (fun _ _hx => ev_load1 uT3 rfl rfl ((Mem.pick2 Hs113 [_, _, _, _, _, _, _, _] [_] _ (hm113.ext _hx))).h0 (get_clD _ _ 0 (by simp))) <| dw_q rfl rfl (fun _ _hx => ev_indexAddr_rdv (i := 5) (g113.rd (hm113.ext _hx)) uT101 ti55 rfl rfl oM (by simp)) ?_
     refine dw_q (v := (u32 x5)) rfl rfl (fun _ _hx => ev_load_rdD (l := [q97.getD 0 0, x1, x2, x3, q97.getD 1 0, x5, x6, x7, q97.getD 2 0, x9, x10, x11, q97.getD 3 0, x13, x14, x15]) (i := 5) (dflt := 0) (g113.rd (hm113.ext _hx)) uT55 rfl oM (by simp) rfl) <| dM rfl rfl s10 <| dM rfl rfl s11 <| dw_q rfl rfl (fun _ _hx => ev_move (v := (i64 1)) rfl) <| dw_q rfl rfl (fun _ _hx => ev_ia_slc (r := 1) (i := 1) oM uT103 ti107 rfl rfl oM oM) <| dw_q (v := (slc b2q77 0 4 4)) rfl rfl (fun _ _hx => ev_load1 uT107 rfl rfl ((Mem.pick2 Hs113 [_] [_] _ (hm113.ext _hx))).h0 rfl) ?_
     refine dw_q rfl rfl (fun _ _hx => ev_ia_slc (r := 2) (i := 2) oM uT107 ti3 rfl rfl oM oM) <| dw_q (v := (i64 9)) rfl rfl (fun _ _hx => ev_load1 uT3 rfl rfl ((Mem.pick2 Hs113 [_, _, _, _, _, _, _, _] [_] _ (hm113.ext _hx))).h0 (get_clD _ _ 0 (by simp))) <| dw_q rfl rfl (fun _ _hx => ev_indexAddr_rdv (i := 9) (g113.rd (hm113.ext _hx)) uT101 ti55 rfl rfl oM (by simp)) <| dw_q (v := (u32 x9)) rfl rfl (fun _ _hx => ev_load_rdD (l := [q97.getD 0 0, x1, x2, x3, q97.getD 1 0, x5, x6, x7, q97.getD 2 0, x9, x10, x11, q97.getD 3 0, x13, x14, x15]) (i := 9) (dflt := 0) (g113.rd (hm113.ext _hx)) uT55 rfl oM (by simp) rfl) <| dM rfl rfl s10 <| dM rfl rfl s11 ?_
     refine dw_q rfl rfl (fun _ _hx => ev_move (v := (i64 1)) rfl) <| dw_q rfl rfl (fun _ _hx => ev_ia_slc (r := 1) (i := 1) oM uT103 ti107 rfl rfl oM oM) <| dw_q (v := (slc b2q77 0 4 4)) rfl rfl (fun _ _hx => ev_load1 uT107 rfl rfl ((Mem.pick2 Hs113 [_] [_] _ (hm113.ext _hx))).h0 rfl) <| dw_q rfl rfl (fun _ _hx => ev_ia_slc (r := 3) (i := 3) oM uT107 ti3 rfl rfl oM oM) <| dw_q (v := (i64 13)) rfl rfl (fun _ _hx => ev_load1 uT3 rfl rfl ((Mem.pick2 Hs113 [_, _, _, _, _, _, _, _] [_] _ (hm113.ext _hx))).h0 (get_clD _ _ 0 (by simp))) <| dw_q rfl rfl (fun _ _hx => ev_indexAddr_rdv (i := 13) (g113.rd (hm113.ext _hx)) uT101 ti55 rfl rfl oM (by simp)) ?_
     refine dw_q (v := (u32 x13)) rfl rfl (fun _ _hx => ev_load_rdD (l := [q97.getD 0 0, x1, x2, x3, q97.getD 1 0, x5, x6, x7, q97.getD 2 0, x9, x10, x11, q97.getD 3 0, x13, x14, x15]) (i := 13) (dflt := 0) (g113.rd (hm113.ext _hx)) uT55 rfl oM (by simp) rfl) <| dw_q rfl rfl (fun _ _hx => ev_build_cl u32 [x1, x5, x9, x13] u32_one ti105 uT105 ti55 rfl rfl) ?_
     obtain ⟨q117, hq117⟩ : ∃ q, q = quarterL left3 x1 x5 x9 x13 := ⟨_, rfl⟩
     have hq117l : q117.length = 4 := by rw [hq117]; rfl
     refine dw_x (v := (agg u32 q117)) rfl rfl (fun w115 _ew115 => OpR.mono (opR_call Tryd.func68 bd68 nm68 (args1 rfl) (c_quarter3 x1 x5 x9 x13 _)) (by rintro _ w116 ⟨rfl, _ew116⟩; exact ⟨by rw [hq117], _ew116⟩)) ?_
     refine dw_c rfl rfl (fun w118 _ew118 => ?_)
     have hm118 := hm113.ext _ew118
     refine OpR.mono (or_alloc_agg hm118 ti105) ?_
     rintro _ w119 ⟨b14_1, rfl, _ew119, hm119⟩
     refine ⟨_ew119, ?_⟩
     refine dw_nil (fun w120 _ew120 => ?_)
     have hm120 := hm119.ext _ew120
     refine rw_n (or_store_agg (f := u32) (l := q117) u32_one ti105 rfl rfl sD hm120.h0 sZ rfl) ?_
     rintro _ w121 uq121
     have hm121 := hm120.upd0 uq121
     refine rw_nil (kThen_normal ?_)
     have hm122 := Mem.drop ([(b14, .cells (cl u32 q97) 105 (0, 0))]) _ (Mem.pick2 [_] Hs113 [_] _ hm121)
     refine CW.abs (fun g => g 0 = (agg u8 key) ∧ g 1 = (u32 counter) ∧ g 2 = (agg u8 nonce) ∧ g 3 = (ptr b3 0) ∧ g 5 = (ptr b5 0) ∧ g 6 = (Value.slice none 0 0) ∧ g 7 = sv71 ∧ g 8 = (i64 32) ∧ g 9 = (i64 12) ∧ g 10 = sv ∧ g 11 = (slc b9q77 0 8 8) ∧ g 12 = (i64 (k : Int)) ∧ g 13 = (i64 1) ∧ g 14 = (ptr b14_1 0) ∧ g 15 = (i64 4) ∧ g 21 = (bl false) ∧ g 37 = (bl false) ∧ g 53 = (bl (decide ((k : Int) < 10))) ∧ g 57 = (bl true) ∧ g 99 = (bl false) ∧ True) ⟨s0, s1, s2, s3, s5, s6, s7, s8, s9, s10, s11, s12, rfl, rfl, rfl, s21, s37, s53, rfl, rfl, trivial⟩ ?_
     rintro fr123 ⟨s0, s1, s2, s3, s5, s6, s7, s8, s9, s10, s11, s12, s13, s14, s15, s21, s37, s53, s57, s99, _⟩
     refine cw_seq (cw_region ?_)
     refine rw_q rfl (ev_assign (v := (i64 0)) rfl) ?_
     refine rw_nil (kThen_normal (cw_block' ?_))
     refine cw_rounds 5 ?_
     refine cr_succ (cw_seq (cw_seq (cw_region ?_)))
     refine rw_q rfl (ev_move (v := (i64 0)) rfl) <| rw_q rfl (ev_i64_lss (a := 0) (b := 4) rfl rfl) ?_
     refine rw_nil (kThen_normal ?_)
     refine cw_cond_t rfl (by decide) ?_
     refine cw_skip (kThen_normal (cw_seq (cw_block ?_)))
     refine cw_draw [(0, false), (1, false), (2, false), (3, false), (4, false), (5, false), (6, false), (7, false), (8, false), (9, false), (10, false)] 11 (by kernel_rfl) <| dM rfl rfl s10 <| dM rfl rfl s11 <| dM rfl rfl s13 <| dw_q rfl rfl (fun _ _hx => ev_ia_slc (r := 1) (i := 1) oM uT103 ti107 rfl rfl oM oM) <| dw_q (v := (slc b2q77 0 4 4)) rfl rfl (fun _ _hx => ev_load1 uT107 rfl rfl ((Mem.pick2 [_] Hs113 [_] _ (hm122.ext _hx))).h0 rfl) ?_
     refine dw_q rfl rfl (fun _ _hx => ev_move (v := (i64 0)) rfl) <| dw_q rfl rfl (fun _ _hx => ev_ia_slc (r := 0) (i := 0) oM uT107 ti3 rfl rfl oM oM) <| dw_q (v := (i64 1)) rfl rfl (fun _ _hx => ev_load1 uT3 rfl rfl ((Mem.pick3 [_] Hs113 [_, _, _, _, _, _, _] [_] _ (hm122.ext _hx))).h0 (get_clD _ _ 0 (by simp))) <| dw_q rfl rfl (fun _ _hx => ev_move (v := (i64 0)) rfl) <| dw_q rfl rfl (fun _ _hx => ev_ia_arr (r := 0) (i := 0) oM uT105 ti55 s14 rfl oM oM) <| dw_q (v := (u32 (q117.getD 0 0))) rfl rfl (fun _ _hx => ev_load1 uT55 rfl rfl (hm122.ext _hx).h0 (get_clD _ _ 0 sD)) ?_
     refine dw_nil (fun w124 _ew124 => ?_)
     have hm124 := hm122.ext _ew124
     refine rw_q rfl (ev_indexAddr_rdv (i := 1) (g113.rd (Mem.pick [_] Hs113 _ hm124)) uT101 ti55 rfl rfl oM (by simp)) <| rw_n (or_store_grow (Hs := Hs113) (H := [(b14_1, .cells (cl u32 q117) 105 (0, 0)), (b9q77, .cells #[(slc b1q77 0 4 4), (slc b2q77 0 4 4), (slc b3q77 0 4 4), (slc b4q77 0 4 4), (slc b5q77 0 4 4), (slc b6q77 0 4 4), (slc b7q77 0 4 4), (slc b8q77 0 4 4)] 107 (0, 0)), (b8q77, .cells (cl i64 ([3, 4, 9, 14])) 3 (0, 0)), (b7q77, .cells (cl i64 ([2, 7, 8, 13])) 3 (0, 0)), (b6q77, .cells (cl i64 ([1, 6, 11, 12])) 3 (0, 0)), (b5q77, .cells (cl i64 ([0, 5, 10, 15])) 3 (0, 0)), (b4q77, .cells (cl i64 ([3, 7, 11, 15])) 3 (0, 0)), (b3q77, .cells (cl i64 ([2, 6, 10, 14])) 3 (0, 0)), (b2q77, .cells (cl i64 ([1, 5, 9, 13])) 3 (0, 0)), (b1q77, .cells (cl i64 ([0, 4, 8, 12])) 3 (0, 0))] ++ (Hs71 ++ ([(b5, .cells (cl u8 nonce) 25 (0, 0)), (b3, .cells (cl u8 key) 23 (0, 0))]))) (i := 1) (a := q117.getD 0 0) (Mem.pick [_] Hs113 _ hm124) g113 u32_one ti55 oM (by simp) rfl rfl) ?_
     rintro _ w125 ⟨Hs125, hm125, g125⟩
     replace g125 : Grow u32 55 sv ([q97.getD 0 0, q117.getD 0 0, x2, x3, q97.getD 1 0, x5, x6, x7, q97.getD 2 0, x9, x10, x11, q97.getD 3 0, x13, x14, x15]) Hs125 := g125
     refine rw_nil (kBlk_normal ?_)
     refine CW.abs (fun g => g 0 = (agg u8 key) ∧ g 1 = (u32 counter) ∧ g 2 = (agg u8 nonce) ∧ g 3 = (ptr b3 0) ∧ g 5 = (ptr b5 0) ∧ g 6 = (Value.slice none 0 0) ∧ g 7 = sv71 ∧ g 8 = (i64 32) ∧ g 9 = (i64 12) ∧ g 10 = sv ∧ g 11 = (slc b9q77 0 8 8) ∧ g 12 = (i64 (k : Int)) ∧ g 13 = (i64 1) ∧ g 14 = (ptr b14_1 0) ∧ g 15 = (i64 0) ∧ g 21 = (bl false) ∧ g 37 = (bl false) ∧ g 53 = (bl (decide ((k : Int) < 10))) ∧ g 57 = (bl true) ∧ g 99 = (bl true) ∧ True) ⟨s0, s1, s2, s3, s5, s6, s7, s8, s9, s10, s11, s12, s13, s14, rfl, s21, s37, s53, s57, rfl, trivial⟩ ?_
     rintro fr126 ⟨s0, s1, s2, s3, s5, s6, s7, s8, s9, s10, s11, s12, s13, s14, s15, s21, s37, s53, s57, s99, _⟩
     refine cw_region <| rM rfl s15 <| rw_q (v := (i64 1)) rfl (ev_i64_add (a := 0) (b := 1) rfl rfl oM oM) <| rw_q rfl (ev_assign (v := (i64 1)) rfl) ?_
     refine rw_nil (kThen_normal (cr_succ (cw_seq (cw_seq (cw_region ?_)))))
     refine rw_q rfl (ev_move (v := (i64 1)) rfl) <| rw_q rfl (ev_i64_lss (a := 1) (b := 4) rfl rfl) ?_
     refine rw_nil (kThen_normal ?_)
     refine cw_cond_t rfl (by decide) ?_
     refine cw_skip (kThen_normal (cw_seq (cw_block ?_)))
     refine cw_draw [(0, false), (1, false), (2, false), (3, false), (4, false), (5, false), (6, false), (7, false), (8, false), (9, false), (10, false)] 11 (by kernel_rfl) <| dM rfl rfl s10 <| dM rfl rfl s11 <| dM rfl rfl s13 <| dw_q rfl rfl (fun _ _hx => ev_ia_slc (r := 1) (i := 1) oM uT103 ti107 rfl rfl oM oM) <| dw_q (v := (slc b2q77 0 4 4)) rfl rfl (fun _ _hx => ev_load1 uT107 rfl rfl ((Mem.pick2 Hs125 [_] [_] _ (hm125.ext _hx))).h0 rfl) ?_
     refine dw_q rfl rfl (fun _ _hx => ev_move (v := (i64 1)) rfl) <| dw_q rfl rfl (fun _ _hx => ev_ia_slc (r := 1) (i := 1) oM uT107 ti3 rfl rfl oM oM) <| dw_q (v := (i64 5)) rfl rfl (fun _ _hx => ev_load1 uT3 rfl rfl ((Mem.pick2 Hs125 [_, _, _, _, _, _, _, _] [_] _ (hm125.ext _hx))).h0 (get_clD _ _ 0 (by simp))) <| dw_q rfl rfl (fun _ _hx => ev_move (v := (i64 1)) rfl) <| dw_q rfl rfl (fun _ _hx => ev_ia_arr (r := 1) (i := 1) oM uT105 ti55 s14 rfl oM oM) <| dw_q (v := (u32 (q117.getD 1 0))) rfl rfl (fun _ _hx => ev_load1 uT55 rfl rfl ((Mem.pick Hs125 [_] _ (hm125.ext _hx))).h0 (get_clD _ _ 0 sD)) ?_
     refine dw_nil (fun w127 _ew127 => ?_)
     have hm127 := hm125.ext _ew127
     refine rw_q rfl (ev_indexAddr_rdv (i := 5) (g125.rd hm127) uT101 ti55 rfl rfl oM (by simp)) <| rw_n (or_store_grow (Hs := Hs125) (H := [(b14_1, .cells (cl u32 q117) 105 (0, 0)), (b9q77, .cells #[(slc b1q77 0 4 4), (slc b2q77 0 4 4), (slc b3q77 0 4 4), (slc b4q77 0 4 4), (slc b5q77 0 4 4), (slc b6q77 0 4 4), (slc b7q77 0 4 4), (slc b8q77 0 4 4)] 107 (0, 0)), (b8q77, .cells (cl i64 ([3, 4, 9, 14])) 3 (0, 0)), (b7q77, .cells (cl i64 ([2, 7, 8, 13])) 3 (0, 0)), (b6q77, .cells (cl i64 ([1, 6, 11, 12])) 3 (0, 0)), (b5q77, .cells (cl i64 ([0, 5, 10, 15])) 3 (0, 0)), (b4q77, .cells (cl i64 ([3, 7, 11, 15])) 3 (0, 0)), (b3q77, .cells (cl i64 ([2, 6, 10, 14])) 3 (0, 0)), (b2q77, .cells (cl i64 ([1, 5, 9, 13])) 3 (0, 0)), (b1q77, .cells (cl i64 ([0, 4, 8, 12])) 3 (0, 0))] ++ (Hs71 ++ ([(b5, .cells (cl u8 nonce) 25 (0, 0)), (b3, .cells (cl u8 key) 23 (0, 0))]))) (i := 5) (a := q117.getD 1 0) hm127 g125 u32_one ti55 oM (by simp) rfl rfl) ?_
     rintro _ w128 ⟨Hs128, hm128, g128⟩
     replace g128 : Grow u32 55 sv ([q97.getD 0 0, q117.getD 0 0, x2, x3, q97.getD 1 0, q117.getD 1 0, x6, x7, q97.getD 2 0, x9, x10, x11, q97.getD 3 0, x13, x14, x15]) Hs128 := g128
     refine rw_nil (kBlk_normal ?_)
     refine CW.abs (fun g => g 0 = (agg u8 key) ∧ g 1 = (u32 counter) ∧ g 2 = (agg u8 nonce) ∧ g 3 = (ptr b3 0) ∧ g 5 = (ptr b5 0) ∧ g 6 = (Value.slice none 0 0) ∧ g 7 = sv71 ∧ g 8 = (i64 32) ∧ g 9 = (i64 12) ∧ g 10 = sv ∧ g 11 = (slc b9q77 0 8 8) ∧ g 12 = (i64 (k : Int)) ∧ g 13 = (i64 1) ∧ g 14 = (ptr b14_1 0) ∧ g 15 = (i64 1) ∧ g 21 = (bl false) ∧ g 37 = (bl false) ∧ g 53 = (bl (decide ((k : Int) < 10))) ∧ g 57 = (bl true) ∧ g 99 = (bl true) ∧ True) ⟨s0, s1, s2, s3, s5, s6, s7, s8, s9, s10, s11, s12, s13, s14, rfl, s21, s37, s53, s57, rfl, trivial⟩ ?_
     rintro fr129 ⟨s0, s1, s2, s3, s5, s6, s7, s8, s9, s10, s11, s12, s13, s14, s15, s21, s37, s53, s57, s99, _⟩
     refine cw_region <| rM rfl s15 <| rw_q (v := (i64 2)) rfl (ev_i64_add (a := 1) (b := 1) rfl rfl oM oM) <| rw_q rfl (ev_assign (v := (i64 2)) rfl) ?_
     refine rw_nil (kThen_normal (cr_succ (cw_seq (cw_seq (cw_region ?_)))))
     refine rw_q rfl (ev_move (v := (i64 2)) rfl) <| rw_q rfl (ev_i64_lss (a := 2) (b := 4) rfl rfl) ?_
     refine rw_nil (kThen_normal ?_)
     refine cw_cond_t rfl (by decide) ?_
     refine cw_skip (kThen_normal (cw_seq (cw_block ?_)))
     refine cw_draw [(0, false), (1, false), (2, false), (3, false), (4, false), (5, false), (6, false), (7, false), (8, false), (9, false), (10, false)] 11 (by kernel_rfl) <| dM rfl rfl s10 <| dM rfl rfl s11 <| dM rfl rfl s13 <| dw_q rfl rfl (fun _ _hx => ev_ia_slc (r := 1) (i := 1) oM uT103 ti107 rfl rfl oM oM) <| dw_q (v := (slc b2q77 0 4 4)) rfl rfl (fun _ _hx => ev_load1 uT107 rfl rfl ((Mem.pick2 Hs128 [_] [_] _ (hm128.ext _hx))).h0 rfl) ?_
     refine dw_q rfl rfl (fun _ _hx => ev_move (v := (i64 2)) rfl) <| dw_q rfl rfl (fun _ _hx => ev_ia_slc (r := 2) (i := 2) oM uT107 ti3 rfl rfl oM oM) <| dw_q (v := (i64 9)) rfl rfl (fun _ _hx => ev_load1 uT3 rfl rfl ((Mem.pick2 Hs128 [_, _, _, _, _, _, _, _] [_] _ (hm128.ext _hx))).h0 (get_clD _ _ 0 (by simp))) <| dw_q rfl rfl (fun _ _hx => ev_move (v := (i64 2)) rfl) <| dw_q rfl rfl (fun _ _hx => ev_ia_arr (r := 2) (i := 2) oM uT105 ti55 s14 rfl oM oM) <| dw_q (v := (u32 (q117.getD 2 0))) rfl rfl (fun _ _hx => ev_load1 uT55 rfl rfl ((Mem.pick Hs128 [_] _ (hm128.ext _hx))).h0 (get_clD _ _ 0 sD)) ?_
     refine dw_nil (fun w130 _ew130 => ?_)
     have hm130 := hm128.ext _ew130
     refine rw_q rfl (ev_indexAddr_rdv (i := 9) (g128.rd hm130) uT101 ti55 rfl rfl oM (by simp)) <| rw_n (or_store_grow (Hs := Hs128) (H := [(b14_1, .cells (cl u32 q117) 105 (0, 0)), (b9q77, .cells #[(slc b1q77 0 4 4), (slc b2q77 0 4 4), (slc b3q77 0 4 4), (slc b4q77 0 4 4), (slc b5q77 0 4 4), (slc b6q77 0 4 4), (slc b7q77 0 4 4), (slc b8q77 0 4 4)] 107 (0, 0)), (b8q77, .cells (cl i64 ([3, 4, 9, 14])) 3 (0, 0)), (b7q77, .cells (cl i64 ([2, 7, 8, 13])) 3 (0, 0)), (b6q77, .cells (cl i64 ([1, 6, 11, 12])) 3 (0, 0)), (b5q77, .cells (cl i64 ([0, 5, 10, 15])) 3 (0, 0)), (b4q77, .cells (cl i64 ([3, 7, 11, 15])) 3 (0, 0)), (b3q77, .cells (cl i64 ([2, 6, 10, 14])) 3 (0, 0)), (b2q77, .cells (cl i64 ([1, 5, 9, 13])) 3 (0, 0)), (b1q77, .cells (cl i64 ([0, 4, 8, 12])) 3 (0, 0))] ++ (Hs71 ++ ([(b5, .cells (cl u8 nonce) 25 (0, 0)), (b3, .cells (cl u8 key) 23 (0, 0))]))) (i := 9) (a := q117.getD 2 0) hm130 g128 u32_one ti55 oM (by simp) rfl rfl) ?_
     rintro _ w131 ⟨Hs131, hm131, g131⟩
     replace g131 : Grow u32 55 sv ([q97.getD 0 0, q117.getD 0 0, x2, x3, q97.getD 1 0, q117.getD 1 0, x6, x7, q97.getD 2 0, q117.getD 2 0, x10, x11, q97.getD 3 0, x13, x14, x15]) Hs131 := g131
     refine rw_nil (kBlk_normal ?_)
     refine CW.abs (fun g => g 0 = (agg u8 key) ∧ g 1 = (u32 counter) ∧ g 2 = (agg u8 nonce) ∧ g 3 = (ptr b3 0) ∧ g 5 = (ptr b5 0) ∧ g 6 = (Value.slice none 0 0) ∧ g 7 = sv71 ∧ g 8 = (i64 32) ∧ g 9 = (i64 12) ∧ g 10 = sv ∧ g 11 = (slc b9q77 0 8 8) ∧ g 12 = (i64 (k : Int)) ∧ g 13 = (i64 1) ∧ g 14 = (ptr b14_1 0) ∧ g 15 = (i64 2) ∧ g 21 = (bl false) ∧ g 37 = (bl false) ∧ g 53 = (bl (decide ((k : Int) < 10))) ∧ g 57 = (bl true) ∧ g 99 = (bl true) ∧ True) ⟨s0, s1, s2, s3, s5, s6, s7, s8, s9, s10, s11, s12, s13, s14, rfl, s21, s37, s53, s57, rfl, trivial⟩ ?_
     rintro fr132 ⟨s0, s1, s2, s3, s5, s6, s7, s8, s9, s10, s11, s12, s13, s14, s15, s21, s37, s53, s57, s99, _⟩
     refine cw_region <| rM rfl s15 <| rw_q (v := (i64 3)) rfl (ev_i64_add (a := 2) (b := 1) rfl rfl oM oM) <| rw_q rfl (ev_assign (v := (i64 3)) rfl) ?_
     refine rw_nil (kThen_normal (cr_succ (cw_seq (cw_seq (cw_region ?_)))))
     refine rw_q rfl (ev_move (v := (i64 3)) rfl) <| rw_q rfl (ev_i64_lss (a := 3) (b := 4) rfl rfl) ?_
     refine rw_nil (kThen_normal ?_)
     refine cw_cond_t rfl (by decide) ?_
     refine cw_skip (kThen_normal (cw_seq (cw_block ?_)))
     refine cw_draw [(0, false), (1, false), (2, false), (3, false), (4, false), (5, false), (6, false), (7, false), (8, false), (9, false), (10, false)] 11 (by kernel_rfl) <| dM rfl rfl s10 <| dM rfl rfl s11 <| dM rfl rfl s13 <| dw_q rfl rfl (fun _ _hx => ev_ia_slc (r := 1) (i := 1) oM uT103 ti107 rfl rfl oM oM) <| dw_q (v := (slc b2q77 0 4 4)) rfl rfl (fun _ _hx => ev_load1 uT107 rfl rfl ((Mem.pick2 Hs131 [_] [_] _ (hm131.ext _hx))).h0 rfl) ?_
     refine dw_q rfl rfl (fun _ _hx => ev_move (v := (i64 3)) rfl) <| dw_q rfl rfl (fun _ _hx => ev_ia_slc (r := 3) (i := 3) oM uT107 ti3 rfl rfl oM oM) <| dw_q (v := (i64 13)) rfl rfl (fun _ _hx => ev_load1 uT3 rfl rfl ((Mem.pick2 Hs131 [_, _, _, _, _, _, _, _] [_] _ (hm131.ext _hx))).h0 (get_clD _ _ 0 (by simp))) <| dw_q rfl rfl (fun _ _hx => ev_move (v := (i64 3)) rfl) <| dw_q rfl rfl (fun _ _hx => ev_ia_arr (r := 3) (i := 3) oM uT105 ti55 s14 rfl oM oM) <| dw_q (v := (u32 (q117.getD 3 0))) rfl rfl (fun _ _hx => ev_load1 uT55 rfl rfl ((Mem.pick Hs131 [_] _ (hm131.ext _hx))).h0 (get_clD _ _ 0 sD)) ?_
     refine dw_nil (fun w133 _ew133 => ?_)
     have hm133 := hm131.ext _ew133
     refine rw_q rfl (ev_indexAddr_rdv (i := 13) (g131.rd hm133) uT101 ti55 rfl rfl oM (by simp)) <| rw_n (or_store_grow (Hs := Hs131) (H := [(b14_1, .cells (cl u32 q117) 105 (0, 0)), (b9q77, .cells #[(slc b1q77 0 4 4), (slc b2q77 0 4 4), (slc b3q77 0 4 4), (slc b4q77 0 4 4), (slc b5q77 0 4 4), (slc b6q77 0 4 4), (slc b7q77 0 4 4), (slc b8q77 0 4 4)] 107 (0, 0)), (b8q77, .cells (cl i64 ([3, 4, 9, 14])) 3 (0, 0)), (b7q77, .cells (cl i64 ([2, 7, 8, 13])) 3 (0, 0)), (b6q77, .cells (cl i64 ([1, 6, 11, 12])) 3 (0, 0)), (b5q77, .cells (cl i64 ([0, 5, 10, 15])) 3 (0, 0)), (b4q77, .cells (cl i64 ([3, 7, 11, 15])) 3 (0, 0)), (b3q77, .cells (cl i64 ([2, 6, 10, 14])) 3 (0, 0)), (b2q77, .cells (cl i64 ([1, 5, 9, 13])) 3 (0, 0)), (b1q77, .cells (cl i64 ([0, 4, 8, 12])) 3 (0, 0))] ++ (Hs71 ++ ([(b5, .cells (cl u8 nonce) 25 (0, 0)), (b3, .cells (cl u8 key) 23 (0, 0))]))) (i := 13) (a := q117.getD 3 0) hm133 g131 u32_one ti55 oM (by simp) rfl rfl) ?_
     rintro _ w134 ⟨Hs134, hm134, g134⟩
     replace g134 : Grow u32 55 sv ([q97.getD 0 0, q117.getD 0 0, x2, x3, q97.getD 1 0, q117.getD 1 0, x6, x7, q97.getD 2 0, q117.getD 2 0, x10, x11, q97.getD 3 0, q117.getD 3 0, x14, x15]) Hs134 := g134
     refine rw_nil (kBlk_normal ?_)
     refine CW.abs (fun g => g 0 = (agg u8 key) ∧ g 1 = (u32 counter) ∧ g 2 = (agg u8 nonce) ∧ g 3 = (ptr b3 0) ∧ g 5 = (ptr b5 0) ∧ g 6 = (Value.slice none 0 0) ∧ g 7 = sv71 ∧ g 8 = (i64 32) ∧ g 9 = (i64 12) ∧ g 10 = sv ∧ g 11 = (slc b9q77 0 8 8) ∧ g 12 = (i64 (k : Int)) ∧ g 13 = (i64 1) ∧ g 14 = (ptr b14_1 0) ∧ g 15 = (i64 3) ∧ g 21 = (bl false) ∧ g 37 = (bl false) ∧ g 53 = (bl (decide ((k : Int) < 10))) ∧ g 57 = (bl true) ∧ g 99 = (bl true) ∧ True) ⟨s0, s1, s2, s3, s5, s6, s7, s8, s9, s10, s11, s12, s13, s14, rfl, s21, s37, s53, s57, rfl, trivial⟩ ?_
     rintro fr135 ⟨s0, s1, s2, s3, s5, s6, s7, s8, s9, s10, s11, s12, s13, s14, s15, s21, s37, s53, s57, s99, _⟩
     refine cw_region <| rM rfl s15 <| rw_q (v := (i64 4)) rfl (ev_i64_add (a := 3) (b := 1) rfl rfl oM oM) <| rw_q rfl (ev_assign (v := (i64 4)) rfl) ?_
     refine rw_nil (kThen_normal (cr_succ (cw_seq (cw_seq (cw_region ?_)))))
     refine rw_q rfl (ev_move (v := (i64 4)) rfl) <| rw_q rfl (ev_i64_lss (a := 4) (b := 4) rfl rfl) ?_
     refine rw_nil (kThen_normal ?_)
     refine cw_cond_f rfl (by decide) <| cw_exit ?_
     refine kThen_exit (kThen_exit (kBlk_hit ?_))
     refine kBlk_normal (cw_region ?_)
     refine rM rfl s13 <| rw_q (v := (i64 2)) rfl (ev_i64_add (a := 1) (b := 1) rfl rfl oM oM) <| rw_q rfl (ev_assign (v := (i64 2)) rfl) ?_
     refine rw_nil (kThen_normal (cr_succ (cw_seq (cw_seq (cw_region ?_)))))
     refine rw_q rfl (ev_move (v := (i64 2)) rfl) <| rw_q rfl (ev_i64_lss (a := 2) (b := 8) rfl rfl) ?_
     refine rw_nil (kThen_normal ?_)
     refine cw_cond_t rfl (by decide) ?_
     refine cw_skip (kThen_normal (cw_seq (cw_block (cw_seq ?_))))
     refine cw_draw [(0, false), (1, false), (2, false), (3, false), (4, false), (5, false), (6, false), (7, false), (8, false), (9, false), (10, false), (11, false), (12, false), (13, false), (14, false), (15, false), (16, false), (17, false), (18, false), (19, false), (20, false), (21, false), (22, false), (23, false), (24, false), (25, false), (26, false), (27, false), (28, false), (29, false), (30, false), (31, false), (32, false), (33, false), (34, false), (35, false), (36, false), (37, false), (38, true)] 39 (by kernel_rfl) <| dM rfl rfl s10 <| dM rfl rfl s11 <| dw_q rfl rfl (fun _ _hx => ev_move (v := (i64 2)) rfl) <| dw_q rfl rfl (fun _ _hx => ev_ia_slc (r := 2) (i := 2) oM uT103 ti107 rfl rfl oM oM) <| dw_q (v := (slc b3q77 0 4 4)) rfl rfl (fun _ _hx => ev_load1 uT107 rfl rfl ((Mem.pick2 Hs134 [_] [_] _ (hm134.ext _hx))).h0 rfl) ?_
     refine dw_q rfl rfl (fun _ _hx => ev_ia_slc (r := 0) (i := 0) oM uT107 ti3 rfl rfl oM oM) <| dw_q (v := (i64 2)) rfl rfl (fun _ _hx => ev_load1 uT3 rfl rfl ((Mem.pick2 Hs134 [_, _, _, _, _, _, _] [_] _ (hm134.ext _hx))).h0 (get_clD _ _ 0 (by simp))) <| dw_q rfl rfl (fun _ _hx => ev_indexAddr_rdv (i := 2) (g134.rd (hm134.ext _hx)) uT101 ti55 rfl rfl oM (by simp)) <| dw_q (v := (u32 x2)) rfl rfl (fun _ _hx => ev_load_rdD (l := [q97.getD 0 0, q117.getD 0 0, x2, x3, q97.getD 1 0, q117.getD 1 0, x6, x7, q97.getD 2 0, q117.getD 2 0, x10, x11, q97.getD 3 0, q117.getD 3 0, x14, x15]) (i := 2) (dflt := 0) (g134.rd (hm134.ext _hx)) uT55 rfl oM (by simp) rfl) <| dM rfl rfl s10 <| dM rfl rfl s11 ?_
     refine dw_q rfl rfl (fun _ _hx => ev_move (v := (i64 2)) rfl) <| dw_q rfl rfl (fun _ _hx => ev_ia_slc (r := 2) (i := 2) oM uT103 ti107 rfl rfl oM oM) <| dw_q (v := (slc b3q77 0 4 4)) rfl rfl (fun _ _hx => ev_load1 uT107 rfl rfl ((Mem.pick2 Hs134 [_] [_] _ (hm134.ext _hx))).h0 rfl) <| dw_q rfl rfl (fun _ _hx => ev_ia_slc (r := 1) (i := 1) oM uT107 ti3 rfl rfl oM oM) <| dw_q (v := (i64 6)) rfl rfl (fun _ _hx => ev_load1 uT3 rfl rfl ((Mem.pick2 Hs134 [_, _, _, _, _, _, _] [_] _ (hm134.ext _hx))).h0 (get_clD _ _ 0 (by simp))) <| dw_q rfl rfl (fun _ _hx => ev_indexAddr_rdv (i := 6) (g134.rd (hm134.ext _hx)) uT101 ti55 rfl rfl oM (by simp)) ?_
     refine dw_q (v := (u32 x6)) rfl rfl (fun _ _hx => ev_load_rdD (l := [q97.getD 0 0, q117.getD 0 0, x2, x3, q97.getD 1 0, q117.getD 1 0, x6, x7, q97.getD 2 0, q117.getD 2 0, x10, x11, q97.getD 3 0, q117.getD 3 0, x14, x15]) (i := 6) (dflt := 0) (g134.rd (hm134.ext _hx)) uT55 rfl oM (by simp) rfl) <| dM rfl rfl s10 <| dM rfl rfl s11 <| dw_q rfl rfl (fun _ _hx => ev_move (v := (i64 2)) rfl) <| dw_q rfl rfl (fun _ _hx => ev_ia_slc (r := 2) (i := 2) oM uT103 ti107 rfl rfl oM oM) <| dw_q (v := (slc b3q77 0 4 4)) rfl rfl (fun _ _hx => ev_load1 uT107 rfl rfl ((Mem.pick2 Hs134 [_] [_] _ (hm134.ext _hx))).h0 rfl) ?_
     refine dw_q rfl rfl (fun _ _hx => ev_ia_slc (r := 2) (i := 2) oM uT107 ti3 rfl rfl oM oM) <| dw_q (v := (i64 10)) rfl rfl (fun _ _hx => ev_load1 uT3 rfl rfl ((Mem.pick2 Hs134 [_, _, _, _, _, _, _] [_] _ (hm134.ext _hx))).h0 (get_clD _ _ 0 (by simp))) <| dw_q rfl rfl (fun _ _hx => ev_indexAddr_rdv (i := 10) (g134.rd (hm134.ext _hx)) uT101 ti55 rfl rfl oM (by simp)) <| dw_q (v := (u32 x10)) rfl rfl (fun _ _hx => ev_load_rdD (l := [q97.getD 0 0, q117.getD 0 0, x2, x3, q97.getD 1 0, q117.getD 1 0, x6, x7, q97.getD 2 0, q117.getD 2 0, x10, x11, q97.getD 3 0, q117.getD 3 0, x14, x15]) (i := 10) (dflt := 0) (g134.rd (hm134.ext _hx)) uT55 rfl oM (by simp) rfl) <| dM rfl rfl s10 <| dM rfl rfl s11 ?_
     refine dw_q rfl rfl (fun _ _hx => ev_move (v := (i64 2)) rfl) <| dw_q rfl rfl (fun _ _hx => ev_ia_slc (r := 2) (i := 2) oM uT103 ti107 rfl rfl oM oM) <| dw_q (v := (slc b3q77 0 4 4)) rfl rfl (fun _ _hx => ev_load1 uT107 rfl rfl ((Mem.pick2 Hs134 [_] [_] _ (hm134.ext _hx))).h0 rfl) <| dw_q rfl rfl (fun _ _hx => ev_ia_slc (r := 3) (i := 3) oM uT107 ti3 rfl rfl oM oM) <| dw_q (v := (i64 14)) rfl rfl (fun _ _hx => ev_load1 uT3 rfl rfl ((Mem.pick2 Hs134 [_, _, _, _, _, _, _] [_] _ (hm134.ext _hx))).h0 (get_clD _ _ 0 (by simp))) <| dw_q rfl rfl (fun _ _hx => ev_indexAddr_rdv (i := 14) (g134.rd (hm134.ext _hx)) uT101 ti55 rfl rfl oM (by simp)) ?_
     refine dw_q (v := (u32 x14)) rfl rfl (fun _ _hx => ev_load_rdD (l := [q97.getD 0 0, q117.getD 0 0, x2, x3, q97.getD 1 0, q117.getD 1 0, x6, x7, q97.getD 2 0, q117.getD 2 0, x10, x11, q97.getD 3 0, q117.getD 3 0, x14, x15]) (i := 14) (dflt := 0) (g134.rd (hm134.ext _hx)) uT55 rfl oM (by simp) rfl) <| dw_q rfl rfl (fun _ _hx => ev_build_cl u32 [x2, x6, x10, x14] u32_one ti105 uT105 ti55 rfl rfl) ?_
     obtain ⟨q138, hq138⟩ : ∃ q, q = quarterL left3 x2 x6 x10 x14 := ⟨_, rfl⟩
     have hq138l : q138.length = 4 := by rw [hq138]; rfl
     refine dw_x (v := (agg u32 q138)) rfl rfl (fun w136 _ew136 => OpR.mono (opR_call Tryd.func68 bd68 nm68 (args1 rfl) (c_quarter3 x2 x6 x10 x14 _)) (by rintro _ w137 ⟨rfl, _ew137⟩; exact ⟨by rw [hq138], _ew137⟩)) ?_
     refine dw_c rfl rfl (fun w139 _ew139 => ?_)
     have hm139 := hm134.ext _ew139
     refine OpR.mono (or_alloc_agg hm139 ti105) ?_
     rintro _ w140 ⟨b14_2, rfl, _ew140, hm140⟩
     refine ⟨_ew140, ?_⟩
     refine dw_nil (fun w141 _ew141 => ?_)
     have hm141 := hm140.ext _ew141
     refine rw_n (or_store_agg (f := u32) (l := q138) u32_one ti105 rfl rfl sD hm141.h0 sZ rfl) ?_
     rintro _ w142 uq142
     have hm142 := hm141.upd0 uq142
     refine rw_nil (kThen_normal ?_)
     have hm143 := Mem.drop ([(b14_1, .cells (cl u32 q117) 105 (0, 0))]) _ (Mem.pick2 [_] Hs134 [_] _ hm142)
     refine CW.abs (fun g => g 0 = (agg u8 key) ∧ g 1 = (u32 counter) ∧ g 2 = (agg u8 nonce) ∧ g 3 = (ptr b3 0) ∧ g 5 = (ptr b5 0) ∧ g 6 = (Value.slice none 0 0) ∧ g 7 = sv71 ∧ g 8 = (i64 32) ∧ g 9 = (i64 12) ∧ g 10 = sv ∧ g 11 = (slc b9q77 0 8 8) ∧ g 12 = (i64 (k : Int)) ∧ g 13 = (i64 2) ∧ g 14 = (ptr b14_2 0) ∧ g 15 = (i64 4) ∧ g 21 = (bl false) ∧ g 37 = (bl false) ∧ g 53 = (bl (decide ((k : Int) < 10))) ∧ g 57 = (bl true) ∧ g 99 = (bl false) ∧ True) ⟨s0, s1, s2, s3, s5, s6, s7, s8, s9, s10, s11, s12, rfl, rfl, rfl, s21, s37, s53, rfl, rfl, trivial⟩ ?_
     rintro fr144 ⟨s0, s1, s2, s3, s5, s6, s7, s8, s9, s10, s11, s12, s13, s14, s15, s21, s37, s53, s57, s99, _⟩
     refine cw_seq (cw_region ?_)
     refine rw_q rfl (ev_assign (v := (i64 0)) rfl) ?_
     refine rw_nil (kThen_normal (cw_block' ?_))
     refine cw_rounds 5 ?_
     refine cr_succ (cw_seq (cw_seq (cw_region ?_)))
     refine rw_q rfl (ev_move (v := (i64 0)) rfl) <| rw_q rfl (ev_i64_lss (a := 0) (b := 4) rfl rfl) ?_
     refine rw_nil (kThen_normal ?_)
     refine cw_cond_t rfl (by decide) ?_
     refine cw_skip (kThen_normal (cw_seq (cw_block ?_)))
     refine cw_draw [(0, false), (1, false), (2, false), (3, false), (4, false), (5, false), (6, false), (7, false), (8, false), (9, false), (10, false)] 11 (by kernel_rfl) <| dM rfl rfl s10 <| dM rfl rfl s11 <| dM rfl rfl s13 <| dw_q rfl rfl (fun _ _hx => ev_ia_slc (r := 2) (i := 2) oM uT103 ti107 rfl rfl oM oM) <| dw_q (v := (slc b3q77 0 4 4)) rfl rfl (fun _ _hx => ev_load1 uT107 rfl rfl ((Mem.pick2 [_] Hs134 [_] _ (hm143.ext _hx))).h0 rfl) ?_
     refine dw_q rfl rfl (fun _ _hx => ev_move (v := (i64 0)) rfl) <| dw_q rfl rfl (fun _ _hx => ev_ia_slc (r := 0) (i := 0) oM uT107 ti3 rfl rfl oM oM) <| dw_q (v := (i64 2)) rfl rfl (fun _ _hx => ev_load1 uT3 rfl rfl ((Mem.pick3 [_] Hs134 [_, _, _, _, _, _] [_] _ (hm143.ext _hx))).h0 (get_clD _ _ 0 (by simp))) <| dw_q rfl rfl (fun _ _hx => ev_move (v := (i64 0)) rfl) <| dw_q rfl rfl (fun _ _hx => ev_ia_arr (r := 0) (i := 0) oM uT105 ti55 s14 rfl oM oM) <| dw_q (v := (u32 (q138.getD 0 0))) rfl rfl (fun _ _hx => ev_load1 uT55 rfl rfl (hm143.ext _hx).h0 (get_clD _ _ 0 sD)) ?_
     refine dw_nil (fun w145 _ew145 => ?_)
     have hm145 := hm143.ext _ew145
     refine rw_q rfl (ev_indexAddr_rdv (i := 2) (g134.rd (Mem.pick [_] Hs134 _ hm145)) uT101 ti55 rfl rfl oM (by simp)) <| rw_n (or_store_grow (Hs := Hs134) (H := [(b14_2, .cells (cl u32 q138) 105 (0, 0)), (b9q77, .cells #[(slc b1q77 0 4 4), (slc b2q77 0 4 4), (slc b3q77 0 4 4), (slc b4q77 0 4 4), (slc b5q77 0 4 4), (slc b6q77 0 4 4), (slc b7q77 0 4 4), (slc b8q77 0 4 4)] 107 (0, 0)), (b8q77, .cells (cl i64 ([3, 4, 9, 14])) 3 (0, 0)), (b7q77, .cells (cl i64 ([2, 7, 8, 13])) 3 (0, 0)), (b6q77, .cells (cl i64 ([1, 6, 11, 12])) 3 (0, 0)), (b5q77, .cells (cl i64 ([0, 5, 10, 15])) 3 (0, 0)), (b4q77, .cells (cl i64 ([3, 7, 11, 15])) 3 (0, 0)), (b3q77, .cells (cl i64 ([2, 6, 10, 14])) 3 (0, 0)), (b2q77, .cells (cl i64 ([1, 5, 9, 13])) 3 (0, 0)), (b1q77, .cells (cl i64 ([0, 4, 8, 12])) 3 (0, 0))] ++ (Hs71 ++ ([(b5, .cells (cl u8 nonce) 25 (0, 0)), (b3, .cells (cl u8 key) 23 (0, 0))]))) (i := 2) (a := q138.getD 0 0) (Mem.pick [_] Hs134 _ hm145) g134 u32_one ti55 oM (by simp) rfl rfl) ?_
     rintro _ w146 ⟨Hs146, hm146, g146⟩
     replace g146 : Grow u32 55 sv ([q97.getD 0 0, q117.getD 0 0, q138.getD 0 0, x3, q97.getD 1 0, q117.getD 1 0, x6, x7, q97.getD 2 0, q117.getD 2 0, x10, x11, q97.getD 3 0, q117.getD 3 0, x14, x15]) Hs146 := g146
     refine rw_nil (kBlk_normal ?_)
     refine CW.abs (fun g => g 0 = (agg u8 key) ∧ g 1 = (u32 counter) ∧ g 2 = (agg u8 nonce) ∧ g 3 = (ptr b3 0) ∧ g 5 = (ptr b5 0) ∧ g 6 = (Value.slice none 0 0) ∧ g 7 = sv71 ∧ g 8 = (i64 32) ∧ g 9 = (i64 12) ∧ g 10 = sv ∧ g 11 = (slc b9q77 0 8 8) ∧ g 12 = (i64 (k : Int)) ∧ g 13 = (i64 2) ∧ g 14 = (ptr b14_2 0) ∧ g 15 = (i64 0) ∧ g 21 = (bl false) ∧ g 37 = (bl false) ∧ g 53 = (bl (decide ((k : Int) < 10))) ∧ g 57 = (bl true) ∧ g 99 = (bl true) ∧ True) ⟨s0, s1, s2, s3, s5, s6, s7, s8, s9, s10, s11, s12, s13, s14, rfl, s21, s37, s53, s57, rfl, trivial⟩ ?_
     rintro fr147 ⟨s0, s1, s2, s3, s5, s6, s7, s8, s9, s10, s11, s12, s13, s14, s15, s21, s37, s53, s57, s99, _⟩
     refine cw_region <| rM rfl s15 <| rw_q (v := (i64 1)) rfl (ev_i64_add (a := 0) (b := 1) rfl rfl oM oM) <| rw_q rfl (ev_assign (v := (i64 1)) rfl) ?_
     refine rw_nil (kThen_normal (cr_succ (cw_seq (cw_seq (cw_region ?_)))))
     refine rw_q rfl (ev_move (v := (i64 1)) rfl) <| rw_q rfl (ev_i64_lss (a := 1) (b := 4) rfl rfl) ?_
     refine rw_nil (kThen_normal ?_)
     refine cw_cond_t rfl (by decide) ?_
     refine cw_skip (kThen_normal (cw_seq (cw_block ?_)))
     refine cw_draw [(0, false), (1, false), (2, false), (3, false), (4, false), (5, false), (6, false), (7, false), (8, false), (9, false), (10, false)] 11 (by kernel_rfl) <| dM rfl rfl s10 <| dM rfl rfl s11 <| dM rfl rfl s13 <| dw_q rfl rfl (fun _ _hx => ev_ia_slc (r := 2) (i := 2) oM uT103 ti107 rfl rfl oM oM) <| dw_q (v := (slc b3q77 0 4 4)) rfl rfl (fun _ _hx => ev_load1 uT107 rfl rfl ((Mem.pick2 Hs146 [_] [_] _ (hm146.ext _hx))).h0 rfl) ?_
     refine dw_q rfl rfl (fun _ _hx => ev_move (v := (i64 1)) rfl) <| dw_q rfl rfl (fun _ _hx => ev_ia_slc (r := 1) (i := 1) oM uT107 ti3 rfl rfl oM oM) <| dw_q (v := (i64 6)) rfl rfl (fun _ _hx => ev_load1 uT3 rfl rfl ((Mem.pick2 Hs146 [_, _, _, _, _, _, _] [_] _ (hm146.ext _hx))).h0 (get_clD _ _ 0 (by simp))) <| dw_q rfl rfl (fun _ _hx => ev_move (v := (i64 1)) rfl) <| dw_q rfl rfl (fun _ _hx => ev_ia_arr (r := 1) (i := 1) oM uT105 ti55 s14 rfl oM oM) <| dw_q (v := (u32 (q138.getD 1 0))) rfl rfl (fun _ _hx => ev_load1 uT55 rfl rfl ((Mem.pick Hs146 [_] _ (hm146.ext _hx))).h0 (get_clD _ _ 0 sD)) ?_
     refine dw_nil (fun w148 _ew148 => ?_)
     have hm148 := hm146.ext _ew148
     refine rw_q rfl (ev_indexAddr_rdv (i := 6) (g146.rd hm148) uT101 ti55 rfl rfl oM (by simp)) <| rw_n (or_store_grow (Hs := Hs146) (H := [(b14_2, .cells (cl u32 q138) 105 (0, 0)), (b9q77, .cells #[(slc b1q77 0 4 4), (slc b2q77 0 4 4), (slc b3q77 0 4 4), (slc b4q77 0 4 4), (slc b5q77 0 4 4), (slc b6q77 0 4 4), (slc b7q77 0 4 4), (slc b8q77 0 4 4)] 107 (0, 0)), (b8q77, .cells (cl i64 ([3, 4, 9, 14])) 3 (0, 0)), (b7q77, .cells (cl i64 ([2, 7, 8, 13])) 3 (0, 0)), (b6q77, .cells (cl i64 ([1, 6, 11, 12])) 3 (0, 0)), (b5q77, .cells (cl i64 ([0, 5, 10, 15])) 3 (0, 0)), (b4q77, .cells (cl i64 ([3, 7, 11, 15])) 3 (0, 0)), (b3q77, .cells (cl i64 ([2, 6, 10, 14])) 3 (0, 0)), (b2q77, .cells (cl i64 ([1, 5, 9, 13])) 3 (0, 0)), (b1q77, .cells (cl i64 ([0, 4, 8, 12])) 3 (0, 0))] ++ (Hs71 ++ ([(b5, .cells (cl u8 nonce) 25 (0, 0)), (b3, .cells (cl u8 key) 23 (0, 0))]))) (i := 6) (a := q138.getD 1 0) hm148 g146 u32_one ti55 oM (by simp) rfl rfl) ?_
     rintro _ w149 ⟨Hs149, hm149, g149⟩
     replace g149 : Grow u32 55 sv ([q97.getD 0 0, q117.getD 0 0, q138.getD 0 0, x3, q97.getD 1 0, q117.getD 1 0, q138.getD 1 0, x7, q97.getD 2 0, q117.getD 2 0, x10, x11, q97.getD 3 0, q117.getD 3 0, x14, x15]) Hs149 := g149
     refine rw_nil (kBlk_normal ?_)
     refine CW.abs (fun g => g 0 = (agg u8 key) ∧ g 1 = (u32 counter) ∧ g 2 = (agg u8 nonce) ∧ g 3 = (ptr b3 0) ∧ g 5 = (ptr b5 0) ∧ g 6 = (Value.slice none 0 0) ∧ g 7 = sv71 ∧ g 8 = (i64 32) ∧ g 9 = (i64 12) ∧ g 10 = sv ∧ g 11 = (slc b9q77 0 8 8) ∧ g 12 = (i64 (k : Int)) ∧ g 13 = (i64 2) ∧ g 14 = (ptr b14_2 0) ∧ g 15 = (i64 1) ∧ g 21 = (bl false) ∧ g 37 = (bl false) ∧ g 53 = (bl (decide ((k : Int) < 10))) ∧ g 57 = (bl true) ∧ g 99 = (bl true) ∧ True) ⟨s0, s1, s2, s3, s5, s6, s7, s8, s9, s10, s11, s12, s13, s14, rfl, s21, s37, s53, s57, rfl, trivial⟩ ?_
     rintro fr150 ⟨s0, s1, s2, s3, s5, s6, s7, s8, s9, s10, s11, s12, s13, s14, s15, s21, s37, s53, s57, s99, _⟩
     refine cw_region <| rM rfl s15 <| rw_q (v := (i64 2)) rfl (ev_i64_add (a := 1) (b := 1) rfl rfl oM oM) <| rw_q rfl (ev_assign (v := (i64 2)) rfl) ?_
     refine rw_nil (kThen_normal (cr_succ (cw_seq (cw_seq (cw_region ?_)))))
     refine rw_q rfl (ev_move (v := (i64 2)) rfl) <| rw_q rfl (ev_i64_lss (a := 2) (b := 4) rfl rfl) ?_
     refine rw_nil (kThen_normal ?_)
     refine cw_cond_t rfl (by decide) ?_
     refine cw_skip (kThen_normal (cw_seq (cw_block ?_)))
     refine cw_draw [(0, false), (1, false), (2, false), (3, false), (4, false), (5, false), (6, false), (7, false), (8, false), (9, false), (10, false)] 11 (by kernel_rfl) <| dM rfl rfl s10 <| dM rfl rfl s11 <| dM rfl rfl s13 <| dw_q rfl rfl (fun _ _hx => ev_ia_slc (r := 2) (i := 2) oM uT103 ti107 rfl rfl oM oM) <| dw_q (v := (slc b3q77 0 4 4)) rfl rfl (fun _ _hx => ev_load1 uT107 rfl rfl ((Mem.pick2 Hs149 [_] [_] _ (hm149.ext _hx))).h0 rfl) ?_
     refine dw_q rfl rfl (fun _ _hx => ev_move (v := (i64 2)) rfl) <| dw_q rfl rfl (fun _ _hx => ev_ia_slc (r := 2) (i := 2) oM uT107 ti3 rfl rfl oM oM) <| dw_q (v := (i64 10)) rfl rfl (fun _ _hx => ev_load1 uT3 rfl rfl ((Mem.pick2 Hs149 [_, _, _, _, _, _, _] [_] _ (hm149.ext _hx))).h0 (get_clD _ _ 0 (by simp))) <| dw_q rfl rfl (fun _ _hx => ev_move (v := (i64 2)) rfl) <| dw_q rfl rfl (fun _ _hx => ev_ia_arr (r := 2) (i := 2) oM uT105 ti55 s14 rfl oM oM) <| dw_q (v := (u32 (q138.getD 2 0))) rfl rfl (fun _ _hx => ev_load1 uT55 rfl rfl ((Mem.pick Hs149 [_] _ (hm149.ext _hx))).h0 (get_clD _ _ 0 sD)) ?_
     refine dw_nil (fun w151 _ew151 => ?_)
     have hm151 := hm149.ext _ew151
     refine rw_q rfl (ev_indexAddr_rdv (i := 10) (g149.rd hm151) uT101 ti55 rfl rfl oM (by simp)) <| rw_n (or_store_grow (Hs := Hs149) (H := [(b14_2, .cells (cl u32 q138) 105 (0, 0)), (b9q77, .cells #[(slc b1q77 0 4 4), (slc b2q77 0 4 4), (slc b3q77 0 4 4), (slc b4q77 0 4 4), (slc b5q77 0 4 4), (slc b6q77 0 4 4), (slc b7q77 0 4 4), (slc b8q77 0 4 4)] 107 (0, 0)), (b8q77, .cells (cl i64 ([3, 4, 9, 14])) 3 (0, 0)), (b7q77, .cells (cl i64 ([2, 7, 8, 13])) 3 (0, 0)), (b6q77, .cells (cl i64 ([1, 6, 11, 12])) 3 (0, 0)), (b5q77, .cells (cl i64 ([0, 5, 10, 15])) 3 (0, 0)), (b4q77, .cells (cl i64 ([3, 7, 11, 15])) 3 (0, 0)), (b3q77, .cells (cl i64 ([2, 6, 10, 14])) 3 (0, 0)), (b2q77, .cells (cl i64 ([1, 5, 9, 13])) 3 (0, 0)), (b1q77, .cells (cl i64 ([0, 4, 8, 12])) 3 (0, 0))] ++ (Hs71 ++ ([(b5, .cells (cl u8 nonce) 25 (0, 0)), (b3, .cells (cl u8 key) 23 (0, 0))]))) (i := 10) (a := q138.getD 2 0) hm151 g149 u32_one ti55 oM (by simp) rfl rfl) ?_
     rintro _ w152 ⟨Hs152, hm152, g152⟩
     replace g152 : Grow u32 55 sv ([q97.getD 0 0, q117.getD 0 0, q138.getD 0 0, x3, q97.getD 1 0, q117.getD 1 0, q138.getD 1 0, x7, q97.getD 2 0, q117.getD 2 0, q138.getD 2 0, x11, q97.getD 3 0, q117.getD 3 0, x14, x15]) Hs152 := g152
     refine rw_nil (kBlk_normal ?_)
     refine CW.abs (fun g => g 0 = (agg u8 key) ∧ g 1 = (u32 counter) ∧ g 2 = (agg u8 nonce) ∧ g 3 = (ptr b3 0) ∧ g 5 = (ptr b5 0) ∧ g 6 = (Value.slice none 0 0) ∧ g 7 = sv71 ∧ g 8 = (i64 32) ∧ g 9 = (i64 12) ∧ g 10 = sv ∧ g 11 = (slc b9q77 0 8 8) ∧ g 12 = (i64 (k : Int)) ∧ g 13 = (i64 2) ∧ g 14 = (ptr b14_2 0) ∧ g 15 = (i64 2) ∧ g 21 = (bl false) ∧ g 37 = (bl false) ∧ g 53 = (bl (decide ((k : Int) < 10))) ∧ g 57 = (bl true) ∧ g 99 = (bl true) ∧ True) ⟨s0, s1, s2, s3, s5, s6, s7, s8, s9, s10, s11, s12, s13, s14, rfl, s21, s37, s53, s57, rfl, trivial⟩ ?_
     rintro fr153 ⟨s0, s1, s2, s3, s5, s6, s7, s8, s9, s10, s11, s12, s13, s14, s15, s21, s37, s53, s57, s99, _⟩
     refine cw_region <| rM rfl s15 <| rw_q (v := (i64 3)) rfl (ev_i64_add (a := 2) (b := 1) rfl rfl oM oM) <| rw_q rfl (ev_assign (v := (i64 3)) rfl) ?_
     refine rw_nil (kThen_normal (cr_succ (cw_seq (cw_seq (cw_region ?_)))))
     refine rw_q rfl (ev_move (v := (i64 3)) rfl) <| rw_q rfl (ev_i64_lss (a := 3) (b := 4) rfl rfl) ?_
     refine rw_nil (kThen_normal ?_)
     refine cw_cond_t rfl (by decide) ?_
     refine cw_skip (kThen_normal (cw_seq (cw_block ?_)))
     refine cw_draw [(0, false), (1, false), (2, false), (3, false), (4, false), (5, false), (6, false), (7, false), (8, false), (9, false), (10, false)] 11 (by kernel_rfl) <| dM rfl rfl s10 <| dM rfl rfl s11 <| dM rfl rfl s13 <| dw_q rfl rfl (fun _ _hx => ev_ia_slc (r := 2) (i := 2) oM uT103 ti107 rfl rfl oM oM) <| dw_q (v := (slc b3q77 0 4 4)) rfl rfl (fun _ _hx => ev_load1 uT107 rfl rfl ((Mem.pick2 Hs152 [_] [_] _ (hm152.ext _hx))).h0 rfl) ?_
     refine dw_q rfl rfl (fun _ _hx => ev_move (v := (i64 3)) rfl) <| dw_q rfl rfl (fun _ _hx => ev_ia_slc (r := 3) (i := 3) oM uT107 ti3 rfl rfl oM oM) <| dw_q (v := (i64 14)) rfl rfl (fun _ _hx => ev_load1 uT3 rfl rfl ((Mem.pick2 Hs152 [_, _, _, _, _, _, _] [_] _ (hm152.ext _hx))).h0 (get_clD _ _ 0 (by simp))) <| dw_q rfl rfl (fun _ _hx => ev_move (v := (i64 3)) rfl) <| dw_q rfl rfl (fun _ _hx => ev_ia_arr (r := 3) (i := 3) oM uT105 ti55 s14 rfl oM oM) <| dw_q (v := (u32 (q138.getD 3 0))) rfl rfl (fun _ _hx => ev_load1 uT55 rfl rfl ((Mem.pick Hs152 [_] _ (hm152.ext _hx))).h0 (get_clD _ _ 0 sD)) ?_
     refine dw_nil (fun w154 _ew154 => ?_)
     have hm154 := hm152.ext _ew154
     refine rw_q rfl (ev_indexAddr_rdv (i := 14) (g152.rd hm154) uT101 ti55 rfl rfl oM (by simp)) <| rw_n (or_store_grow (Hs := Hs152) (H := [(b14_2, .cells (cl u32 q138) 105 (0, 0)), (b9q77, .cells #[(slc b1q77 0 4 4), (slc b2q77 0 4 4), (slc b3q77 0 4 4), (slc b4q77 0 4 4), (slc b5q77 0 4 4), (slc b6q77 0 4 4), (slc b7q77 0 4 4), (slc b8q77 0 4 4)] 107 (0, 0)), (b8q77, .cells (cl i64 ([3, 4, 9, 14])) 3 (0, 0)), (b7q77, .cells (cl i64 ([2, 7, 8, 13])) 3 (0, 0)), (b6q77, .cells (cl i64 ([1, 6, 11, 12])) 3 (0, 0)), (b5q77, .cells (cl i64 ([0, 5, 10, 15])) 3 (0, 0)), (b4q77, .cells (cl i64 ([3, 7, 11, 15])) 3 (0, 0)), (b3q77, .cells (cl i64 ([2, 6, 10, 14])) 3 (0, 0)), (b2q77, .cells (cl i64 ([1, 5, 9, 13])) 3 (0, 0)), (b1q77, .cells (cl i64 ([0, 4, 8, 12])) 3 (0, 0))] ++ (Hs71 ++ ([(b5, .cells (cl u8 nonce) 25 (0, 0)), (b3, .cells (cl u8 key) 23 (0, 0))]))) (i := 14) (a := q138.getD 3 0) hm154 g152 u32_one ti55 oM (by simp) rfl rfl) ?_
     rintro _ w155 ⟨Hs155, hm155, g155⟩
     replace g155 : Grow u32 55 sv ([q97.getD 0 0, q117.getD 0 0, q138.getD 0 0, x3, q97.getD 1 0, q117.getD 1 0, q138.getD 1 0, x7, q97.getD 2 0, q117.getD 2 0, q138.getD 2 0, x11, q97.getD 3 0, q117.getD 3 0, q138.getD 3 0, x15]) Hs155 := g155
     refine rw_nil (kBlk_normal ?_)
     refine CW.abs (fun g => g 0 = (agg u8 key) ∧ g 1 = (u32 counter) ∧ g 2 = (agg u8 nonce) ∧ g 3 = (ptr b3 0) ∧ g 5 = (ptr b5 0) ∧ g 6 = (Value.slice none 0 0) ∧ g 7 = sv71 ∧ g 8 = (i64 32) ∧ g 9 = (i64 12) ∧ g 10 = sv ∧ g 11 = (slc b9q77 0 8 8) ∧ g 12 = (i64 (k : Int)) ∧ g 13 = (i64 2) ∧ g 14 = (ptr b14_2 0) ∧ g 15 = (i64 3) ∧ g 21 = (bl false) ∧ g 37 = (bl false) ∧ g 53 = (bl (decide ((k : Int) < 10))) ∧ g 57 = (bl true) ∧ g 99 = (bl true) ∧ True) ⟨s0, s1, s2, s3, s5, s6, s7, s8, s9, s10, s11, s12, s13, s14, rfl, s21, s37, s53, s57, rfl, trivial⟩ ?_
     rintro fr156 ⟨s0, s1, s2, s3, s5, s6, s7, s8, s9, s10, s11, s12, s13, s14, s15, s21, s37, s53, s57, s99, _⟩
     refine cw_region <| rM rfl s15 <| rw_q (v := (i64 4)) rfl (ev_i64_add (a := 3) (b := 1) rfl rfl oM oM) <| rw_q rfl (ev_assign (v := (i64 4)) rfl) ?_
     refine rw_nil (kThen_normal (cr_succ (cw_seq (cw_seq (cw_region ?_)))))
     refine rw_q rfl (ev_move (v := (i64 4)) rfl) <| rw_q rfl (ev_i64_lss (a := 4) (b := 4) rfl rfl) ?_
     refine rw_nil (kThen_normal ?_)
     refine cw_cond_f rfl (by decide) <| cw_exit ?_
     refine kThen_exit (kThen_exit (kBlk_hit ?_))
     refine kBlk_normal (cw_region ?_)
     refine rM rfl s13 <| rw_q (v := (i64 3)) rfl (ev_i64_add (a := 2) (b := 1) rfl rfl oM oM) <| rw_q rfl (ev_assign (v := (i64 3)) rfl) ?_
     refine rw_nil (kThen_normal (cr_succ (cw_seq (cw_seq (cw_region ?_)))))
     refine rw_q rfl (ev_move (v := (i64 3)) rfl) <| rw_q rfl (ev_i64_lss (a := 3) (b := 8) rfl rfl) ?_
     refine rw_nil (kThen_normal ?_)
     refine cw_cond_t rfl (by decide) ?_
     refine cw_skip (kThen_normal (cw_seq (cw_block (cw_seq ?_))))
     refine cw_draw [(0, false), (1, false), (2, false), (3, false), (4, false), (5, false), (6, false), (7, false), (8, false), (9, false), (10, false), (11, false), (12, false), (13, false), (14, false), (15, false), (16, false), (17, false), (18, false), (19, false), (20, false), (21, false), (22, false), (23, false), (24, false), (25, false), (26, false), (27, false), (28, false), (29, false), (30, false), (31, false), (32, false), (33, false), (34, false), (35, false), (36, false), (37, false), (38, true)] 39 (by kernel_rfl) <| dM rfl rfl s10 <| dM rfl rfl s11 <| dw_q rfl rfl (fun _ _hx => ev_move (v := (i64 3)) rfl) <| dw_q rfl rfl (fun _ _hx => ev_ia_slc (r := 3) (i := 3) oM uT103 ti107 rfl rfl oM oM) <| dw_q (v := (slc b4q77 0 4 4)) rfl rfl (fun _ _hx => ev_load1 uT107 rfl rfl ((Mem.pick2 Hs155 [_] [_] _ (hm155.ext _hx))).h0 rfl) ?_
     refine dw_q rfl rfl (fun _ _hx => ev_ia_slc (r := 0) (i := 0) oM uT107 ti3 rfl rfl oM oM) <| dw_q (v := (i64 3)) rfl rfl (fun _ _hx => ev_load1 uT3 rfl rfl ((Mem.pick2 Hs155 [_, _, _, _, _, _] [_] _ (hm155.ext _hx))).h0 (get_clD _ _ 0 (by simp))) <| dw_q rfl rfl (fun _ _hx => ev_indexAddr_rdv (i := 3) (g155.rd (hm155.ext _hx)) uT101 ti55 rfl rfl oM (by simp)) <| dw_q (v := (u32 x3)) rfl rfl (fun _ _hx => ev_load_rdD (l := [q97.getD 0 0, q117.getD 0 0, q138.getD 0 0, x3, q97.getD 1 0, q117.getD 1 0, q138.getD 1 0, x7, q97.getD 2 0, q117.getD 2 0, q138.getD 2 0, x11, q97.getD 3 0, q117.getD 3 0, q138.getD 3 0, x15]) (i := 3) (dflt := 0) (g155.rd (hm155.ext _hx)) uT55 rfl oM (by simp) rfl) <| dM rfl rfl s10 <| dM rfl rfl s11 ?_
     refine dw_q rfl rfl (fun _ _hx => ev_move (v := (i64 3)) rfl) <| dw_q rfl rfl (fun _ _hx => ev_ia_slc (r := 3) (i := 3) oM uT103 ti107 rfl rfl oM oM) <| dw_q (v := (slc b4q77 0 4 4)) rfl rfl (fun _ _hx => ev_load1 uT107 rfl rfl ((Mem.pick2 Hs155 [_] [_] _ (hm155.ext _hx))).h0 rfl) <| dw_q rfl rfl (fun _ _hx => ev_ia_slc (r := 1) (i := 1) oM uT107 ti3 rfl rfl oM oM) <| dw_q (v := (i64 7)) rfl rfl (fun _ _hx => ev_load1 uT3 rfl rfl ((Mem.pick2 Hs155 [_, _, _, _, _, _] [_] _ (hm155.ext _hx))).h0 (get_clD _ _ 0 (by simp))) <| dw_q rfl rfl (fun _ _hx => ev_indexAddr_rdv (i := 7) (g155.rd (hm155.ext _hx)) uT101 ti55 rfl rfl oM (by simp)) ?_
     refine dw_q (v := (u32 x7)) rfl rfl (fun _ _hx => ev_load_rdD (l := [q97.getD 0 0, q117.getD 0 0, q138.getD 0 0, x3, q97.getD 1 0, q117.getD 1 0, q138.getD 1 0, x7, q97.getD 2 0, q117.getD 2 0, q138.getD 2 0, x11, q97.getD 3 0, q117.getD 3 0, q138.getD 3 0, x15]) (i := 7) (dflt := 0) (g155.rd (hm155.ext _hx)) uT55 rfl oM (by simp) rfl) <| dM rfl rfl s10 <| dM rfl rfl s11 <| dw_q rfl rfl (fun _ _hx => ev_move (v := (i64 3)) rfl) <| dw_q rfl rfl (fun _ _hx => ev_ia_slc (r := 3) (i := 3) oM uT103 ti107 rfl rfl oM oM) <| dw_q (v := (slc b4q77 0 4 4)) rfl rfl (fun _ _hx => ev_load1 uT107 rfl rfl ((Mem.pick2 Hs155 [_] [_] _ (hm155.ext _hx))).h0 rfl) ?_
     refine dw_q rfl rfl (fun _ _hx => ev_ia_slc (r := 2) (i := 2) oM uT107 ti3 rfl rfl oM oM) <| dw_q (v := (i64 11)) rfl rfl (fun _ _hx => ev_load1 uT3 rfl rfl ((Mem.pick2 Hs155 [_, _, _, _, _, _] [_] _ (hm155.ext _hx))).h0 (get_clD _ _ 0 (by simp))) <| dw_q rfl rfl (fun _ _hx => ev_indexAddr_rdv (i := 11) (g155.rd (hm155.ext _hx)) uT101 ti55 rfl rfl oM (by simp)) <| dw_q (v := (u32 x11)) rfl rfl (fun _ _hx => ev_load_rdD (l := [q97.getD 0 0, q117.getD 0 0, q138.getD 0 0, x3, q97.getD 1 0, q117.getD 1 0, q138.getD 1 0, x7, q97.getD 2 0, q117.getD 2 0, q138.getD 2 0, x11, q97.getD 3 0, q117.getD 3 0, q138.getD 3 0, x15]) (i := 11) (dflt := 0) (g155.rd (hm155.ext _hx)) uT55 rfl oM (by simp) rfl) <| dM rfl rfl s10 <| dM rfl rfl s11 ?_
     refine dw_q rfl rfl (fun _ _hx => ev_move (v := (i64 3)) rfl) <| dw_q rfl rfl (fun _ _hx => ev_ia_slc (r := 3) (i := 3) oM uT103 ti107 rfl rfl oM oM) <| dw_q (v := (slc b4q77 0 4 4)) rfl rfl (fun _ _hx => ev_load1 uT107 rfl rfl ((Mem.pick2 Hs155 [_] [_] _ (hm155.ext _hx))).h0 rfl) <| dw_q rfl rfl (fun _ _hx => ev_ia_slc (r := 3) (i := 3) oM uT107 ti3 rfl rfl oM oM) <| dw_q (v := (i64 15)) rfl rfl (fun _ _hx => ev_load1 uT3 rfl rfl ((Mem.pick2 Hs155 [_, _, _, _, _, _] [_] _ (hm155.ext _hx))).h0 (get_clD _ _ 0 (by simp))) <| dw_q rfl rfl (fun _ _hx => ev_indexAddr_rdv (i := 15) (g155.rd (hm155.ext _hx)) uT101 ti55 rfl rfl oM (by simp)) ?_
     refine dw_q (v := (u32 x15)) rfl rfl (fun _ _hx => ev_load_rdD (l := [q97.getD 0 0, q117.getD 0 0, q138.getD 0 0, x3, q97.getD 1 0, q117.getD 1 0, q138.getD 1 0, x7, q97.getD 2 0, q117.getD 2 0, q138.getD 2 0, x11, q97.getD 3 0, q117.getD 3 0, q138.getD 3 0, x15]) (i := 15) (dflt := 0) (g155.rd (hm155.ext _hx)) uT55 rfl oM (by simp) rfl) <| dw_q rfl rfl (fun _ _hx => ev_build_cl u32 [x3, x7, x11, x15] u32_one ti105 uT105 ti55 rfl rfl) ?_
     obtain ⟨q159, hq159⟩ : ∃ q, q = quarterL left3 x3 x7 x11 x15 := ⟨_, rfl⟩
     have hq159l : q159.length = 4 := by rw [hq159]; rfl
     refine dw_x (v := (agg u32 q159)) rfl rfl (fun w157 _ew157 => OpR.mono (opR_call Tryd.func68 bd68 nm68 (args1 rfl) (c_quarter3 x3 x7 x11 x15 _)) (by rintro _ w158 ⟨rfl, _ew158⟩; exact ⟨by rw [hq159], _ew158⟩)) ?_
     refine dw_c rfl rfl (fun w160 _ew160 => ?_)
     have hm160 := hm155.ext _ew160
     refine OpR.mono (or_alloc_agg hm160 ti105) ?_
     rintro _ w161 ⟨b14_3, rfl, _ew161, hm161⟩
     refine ⟨_ew161, ?_⟩
     refine dw_nil (fun w162 _ew162 => ?_)
     have hm162 := hm161.ext _ew162
     refine rw_n (or_store_agg (f := u32) (l := q159) u32_one ti105 rfl rfl sD hm162.h0 sZ rfl) ?_
     rintro _ w163 uq163
     have hm163 := hm162.upd0 uq163
     refine rw_nil (kThen_normal ?_)
     have hm164 := Mem.drop ([(b14_2, .cells (cl u32 q138) 105 (0, 0))]) _ (Mem.pick2 [_] Hs155 [_] _ hm163)
     refine CW.abs (fun g => g 0 = (agg u8 key) ∧ g 1 = (u32 counter) ∧ g 2 = (agg u8 nonce) ∧ g 3 = (ptr b3 0) ∧ g 5 = (ptr b5 0) ∧ g 6 = (Value.slice none 0 0) ∧ g 7 = sv71 ∧ g 8 = (i64 32) ∧ g 9 = (i64 12) ∧ g 10 = sv ∧ g 11 = (slc b9q77 0 8 8) ∧ g 12 = (i64 (k : Int)) ∧ g 13 = (i64 3) ∧ g 14 = (ptr b14_3 0) ∧ g 15 = (i64 4) ∧ g 21 = (bl false) ∧ g 37 = (bl false) ∧ g 53 = (bl (decide ((k : Int) < 10))) ∧ g 57 = (bl true) ∧ g 99 = (bl false) ∧ True) ⟨s0, s1, s2, s3, s5, s6, s7, s8, s9, s10, s11, s12, rfl, rfl, rfl, s21, s37, s53, rfl, rfl, trivial⟩ ?_
     rintro fr165 ⟨s0, s1, s2, s3, s5, s6, s7, s8, s9, s10, s11, s12, s13, s14, s15, s21, s37, s53, s57, s99, _⟩
     refine cw_seq (cw_region ?_)
     refine rw_q rfl (ev_assign (v := (i64 0)) rfl) ?_
     refine rw_nil (kThen_normal (cw_block' ?_))
     refine cw_rounds 5 ?_
     refine cr_succ (cw_seq (cw_seq (cw_region ?_)))
     refine rw_q rfl (ev_move (v := (i64 0)) rfl) <| rw_q rfl (ev_i64_lss (a := 0) (b := 4) rfl rfl) ?_
     refine rw_nil (kThen_normal ?_)
     refine cw_cond_t rfl (by decide) ?_
     refine cw_skip (kThen_normal (cw_seq (cw_block ?_)))
     refine cw_draw [(0, false), (1, false), (2, false), (3, false), (4, false), (5, false), (6, false), (7, false), (8, false), (9, false), (10, false)] 11 (by kernel_rfl) <| dM rfl rfl s10 <| dM rfl rfl s11 <| dM rfl rfl s13 <| dw_q rfl rfl (fun _ _hx => ev_ia_slc (r := 3) (i := 3) oM uT103 ti107 rfl rfl oM oM) <| dw_q (v := (slc b4q77 0 4 4)) rfl rfl (fun _ _hx => ev_load1 uT107 rfl rfl ((Mem.pick2 [_] Hs155 [_] _ (hm164.ext _hx))).h0 rfl) ?_
     refine dw_q rfl rfl (fun _ _hx => ev_move (v := (i64 0)) rfl) <| dw_q rfl rfl (fun _ _hx => ev_ia_slc (r := 0) (i := 0) oM uT107 ti3 rfl rfl oM oM) <| dw_q (v := (i64 3)) rfl rfl (fun _ _hx => ev_load1 uT3 rfl rfl ((Mem.pick3 [_] Hs155 [_, _, _, _, _] [_] _ (hm164.ext _hx))).h0 (get_clD _ _ 0 (by simp))) <| dw_q rfl rfl (fun _ _hx => ev_move (v := (i64 0)) rfl) <| dw_q rfl rfl (fun _ _hx => ev_ia_arr (r := 0) (i := 0) oM uT105 ti55 s14 rfl oM oM) <| dw_q (v := (u32 (q159.getD 0 0))) rfl rfl (fun _ _hx => ev_load1 uT55 rfl rfl (hm164.ext _hx).h0 (get_clD _ _ 0 sD)) ?_
     refine dw_nil (fun w166 _ew166 => ?_)
     have hm166 := hm164.ext _ew166
     refine rw_q rfl (ev_indexAddr_rdv (i := 3) (g155.rd (Mem.pick [_] Hs155 _ hm166)) uT101 ti55 rfl rfl oM (by simp)) <| rw_n (or_store_grow (Hs := Hs155) (H := [(b14_3, .cells (cl u32 q159) 105 (0, 0)), (b9q77, .cells #[(slc b1q77 0 4 4), (slc b2q77 0 4 4), (slc b3q77 0 4 4), (slc b4q77 0 4 4), (slc b5q77 0 4 4), (slc b6q77 0 4 4), (slc b7q77 0 4 4), (slc b8q77 0 4 4)] 107 (0, 0)), (b8q77, .cells (cl i64 ([3, 4, 9, 14])) 3 (0, 0)), (b7q77, .cells (cl i64 ([2, 7, 8, 13])) 3 (0, 0)), (b6q77, .cells (cl i64 ([1, 6, 11, 12])) 3 (0, 0)), (b5q77, .cells (cl i64 ([0, 5, 10, 15])) 3 (0, 0)), (b4q77, .cells (cl i64 ([3, 7, 11, 15])) 3 (0, 0)), (b3q77, .cells (cl i64 ([2, 6, 10, 14])) 3 (0, 0)), (b2q77, .cells (cl i64 ([1, 5, 9, 13])) 3 (0, 0)), (b1q77, .cells (cl i64 ([0, 4, 8, 12])) 3 (0, 0))] ++ (Hs71 ++ ([(b5, .cells (cl u8 nonce) 25 (0, 0)), (b3, .cells (cl u8 key) 23 (0, 0))]))) (i := 3) (a := q159.getD 0 0) (Mem.pick [_] Hs155 _ hm166) g155 u32_one ti55 oM (by simp) rfl rfl) ?_
     rintro _ w167 ⟨Hs167, hm167, g167⟩
     replace g167 : Grow u32 55 sv ([q97.getD 0 0, q117.getD 0 0, q138.getD 0 0, q159.getD 0 0, q97.getD 1 0, q117.getD 1 0, q138.getD 1 0, x7, q97.getD 2 0, q117.getD 2 0, q138.getD 2 0, x11, q97.getD 3 0, q117.getD 3 0, q138.getD 3 0, x15]) Hs167 := g167
     refine rw_nil (kBlk_normal ?_)
     refine CW.abs (fun g => g 0 = (agg u8 key) ∧ g 1 = (u32 counter) ∧ g 2 = (agg u8 nonce) ∧ g 3 = (ptr b3 0) ∧ g 5 = (ptr b5 0) ∧ g 6 = (Value.slice none 0 0) ∧ g 7 = sv71 ∧ g 8 = (i64 32) ∧ g 9 = (i64 12) ∧ g 10 = sv ∧ g 11 = (slc b9q77 0 8 8) ∧ g 12 = (i64 (k : Int)) ∧ g 13 = (i64 3) ∧ g 14 = (ptr b14_3 0) ∧ g 15 = (i64 0) ∧ g 21 = (bl false) ∧ g 37 = (bl false) ∧ g 53 = (bl (decide ((k : Int) < 10))) ∧ g 57 = (bl true) ∧ g 99 = (bl true) ∧ True) ⟨s0, s1, s2, s3, s5, s6, s7, s8, s9, s10, s11, s12, s13, s14, rfl, s21, s37, s53, s57, rfl, trivial⟩ ?_
     rintro fr168 ⟨s0, s1, s2, s3, s5, s6, s7, s8, s9, s10, s11, s12, s13, s14, s15, s21, s37, s53, s57, s99, _⟩
     refine cw_region <| rM rfl s15 <| rw_q (v := (i64 1)) rfl (ev_i64_add (a := 0) (b := 1) rfl rfl oM oM) <| rw_q rfl (ev_assign (v := (i64 1)) rfl) ?_
     refine rw_nil (kThen_normal (cr_succ (cw_seq (cw_seq (cw_region ?_)))))
     refine rw_q rfl (ev_move (v := (i64 1)) rfl) <| rw_q rfl (ev_i64_lss (a := 1) (b := 4) rfl rfl) ?_
     refine rw_nil (kThen_normal ?_)
     refine cw_cond_t rfl (by decide) ?_
     refine cw_skip (kThen_normal (cw_seq (cw_block ?_)))
     refine cw_draw [(0, false), (1, false), (2, false), (3, false), (4, false), (5, false), (6, false), (7, false), (8, false), (9, false), (10, false)] 11 (by kernel_rfl) <| dM rfl rfl s10 <| dM rfl rfl s11 <| dM rfl rfl s13 <| dw_q rfl rfl (fun _ _hx => ev_ia_slc (r := 3) (i := 3) oM uT103 ti107 rfl rfl oM oM) <| dw_q (v := (slc b4q77 0 4 4)) rfl rfl (fun _ _hx => ev_load1 uT107 rfl rfl ((Mem.pick2 Hs167 [_] [_] _ (hm167.ext _hx))).h0 rfl) ?_
     refine dw_q rfl rfl (fun _ _hx => ev_move (v := (i64 1)) rfl) <| dw_q rfl rfl (fun _ _hx => ev_ia_slc (r := 1) (i := 1) oM uT107 ti3 rfl rfl oM oM) <| dw_q (v := (i64 7)) rfl rfl (fun _ _hx => ev_load1 uT3 rfl rfl ((Mem.pick2 Hs167 [_, _, _, _, _, _] [_] _ (hm167.ext _hx))).h0 (get_clD _ _ 0 (by simp))) <| dw_q rfl rfl (fun _ _hx => ev_move (v := (i64 1)) rfl) <| dw_q rfl rfl (fun _ _hx => ev_ia_arr (r := 1) (i := 1) oM uT105 ti55 s14 rfl oM oM) <| dw_q (v := (u32 (q159.getD 1 0))) rfl rfl (fun _ _hx => ev_load1 uT55 rfl rfl ((Mem.pick Hs167 [_] _ (hm167.ext _hx))).h0 (get_clD _ _ 0 sD)) ?_
     refine dw_nil (fun w169 _ew169 => ?_)
     have hm169 := hm167.ext _ew169
     refine rw_q rfl (ev_indexAddr_rdv (i := 7) (g167.rd hm169) uT101 ti55 rfl rfl oM (by simp)) <| rw_n (or_store_grow (Hs := Hs167) (H := [(b14_3, .cells (cl u32 q159) 105 (0, 0)), (b9q77, .cells #[(slc b1q77 0 4 4), (slc b2q77 0 4 4), (slc b3q77 0 4 4), (slc b4q77 0 4 4), (slc b5q77 0 4 4), (slc b6q77 0 4 4), (slc b7q77 0 4 4), (slc b8q77 0 4 4)] 107 (0, 0)), (b8q77, .cells (cl i64 ([3, 4, 9, 14])) 3 (0, 0)), (b7q77, .cells (cl i64 ([2, 7, 8, 13])) 3 (0, 0)), (b6q77, .cells (cl i64 ([1, 6, 11, 12])) 3 (0, 0)), (b5q77, .cells (cl i64 ([0, 5, 10, 15])) 3 (0, 0)), (b4q77, .cells (cl i64 ([3, 7, 11, 15])) 3 (0, 0)), (b3q77, .cells (cl i64 ([2, 6, 10, 14])) 3 (0, 0)), (b2q77, .cells (cl i64 ([1, 5, 9, 13])) 3 (0, 0)), (b1q77, .cells (cl i64 ([0, 4, 8, 12])) 3 (0, 0))] ++ (Hs71 ++ ([(b5, .cells (cl u8 nonce) 25 (0, 0)), (b3, .cells (cl u8 key) 23 (0, 0))]))) (i := 7) (a := q159.getD 1 0) hm169 g167 u32_one ti55 oM (by simp) rfl rfl) ?_
     rintro _ w170 ⟨Hs170, hm170, g170⟩
     replace g170 : Grow u32 55 sv ([q97.getD 0 0, q117.getD 0 0, q138.getD 0 0, q159.getD 0 0, q97.getD 1 0, q117.getD 1 0, q138.getD 1 0, q159.getD 1 0, q97.getD 2 0, q117.getD 2 0, q138.getD 2 0, x11, q97.getD 3 0, q117.getD 3 0, q138.getD 3 0, x15]) Hs170 := g170
     refine rw_nil (kBlk_normal ?_)
     refine CW.abs (fun g => g 0 = (agg u8 key) ∧ g 1 = (u32 counter) ∧ g 2 = (agg u8 nonce) ∧ g 3 = (ptr b3 0) ∧ g 5 = (ptr b5 0) ∧ g 6 = (Value.slice none 0 0) ∧ g 7 = sv71 ∧ g 8 = (i64 32) ∧ g 9 = (i64 12) ∧ g 10 = sv ∧ g 11 = (slc b9q77 0 8 8) ∧ g 12 = (i64 (k : Int)) ∧ g 13 = (i64 3) ∧ g 14 = (ptr b14_3 0) ∧ g 15 = (i64 1) ∧ g 21 = (bl false) ∧ g 37 = (bl false) ∧ g 53 = (bl (decide ((k : Int) < 10))) ∧ g 57 = (bl true) ∧ g 99 = (bl true) ∧ True) ⟨s0, s1, s2, s3, s5, s6, s7, s8, s9, s10, s11, s12, s13, s14, rfl, s21, s37, s53, s57, rfl, trivial⟩ ?_
     rintro fr171 ⟨s0, s1, s2, s3, s5, s6, s7, s8, s9, s10, s11, s12, s13, s14, s15, s21, s37, s53, s57, s99, _⟩
     refine cw_region <| rM rfl s15 <| rw_q (v := (i64 2)) rfl (ev_i64_add (a := 1) (b := 1) rfl rfl oM oM) <| rw_q rfl (ev_assign (v := (i64 2)) rfl) ?_
     refine rw_nil (kThen_normal (cr_succ (cw_seq (cw_seq (cw_region ?_)))))
     refine rw_q rfl (ev_move (v := (i64 2)) rfl) <| rw_q rfl (ev_i64_lss (a := 2) (b := 4) rfl rfl) ?_
     refine rw_nil (kThen_normal ?_)
     refine cw_cond_t rfl (by decide) ?_
     refine cw_skip (kThen_normal (cw_seq (cw_block ?_)))
     refine cw_draw [(0, false), (1, false), (2, false), (3, false), (4, false), (5, false), (6, false), (7, false), (8, false), (9, false), (10, false)] 11 (by kernel_rfl) <| dM rfl rfl s10 <| dM rfl rfl s11 <| dM rfl rfl s13 <| dw_q rfl rfl (fun _ _hx => ev_ia_slc (r := 3) (i := 3) oM uT103 ti107 rfl rfl oM oM) <| dw_q (v := (slc b4q77 0 4 4)) rfl rfl (fun _ _hx => ev_load1 uT107 rfl rfl ((Mem.pick2 Hs170 [_] [_] _ (hm170.ext _hx))).h0 rfl) ?_
     refine dw_q rfl rfl (fun _ _hx => ev_move (v := (i64 2)) rfl) <| dw_q rfl rfl (fun _ _hx => ev_ia_slc (r := 2) (i := 2) oM uT107 ti3 rfl rfl oM oM) <| dw_q (v := (i64 11)) rfl rfl (fun _ _hx => ev_load1 uT3 rfl rfl ((Mem.pick2 Hs170 [_, _, _, _, _, _] [_] _ (hm170.ext _hx))).h0 (get_clD _ _ 0 (by simp))) <| dw_q rfl rfl (fun _ _hx => ev_move (v := (i64 2)) rfl) <| dw_q rfl rfl (fun _ _hx => ev_ia_arr (r := 2) (i := 2) oM uT105 ti55 s14 rfl oM oM) <| dw_q (v := (u32 (q159.getD 2 0))) rfl rfl (fun _ _hx => ev_load1 uT55 rfl rfl ((Mem.pick Hs170 [_] _ (hm170.ext _hx))).h0 (get_clD _ _ 0 sD)) ?_
     refine dw_nil (fun w172 _ew172 => ?_)
     have hm172 := hm170.ext _ew172
     refine rw_q rfl (ev_indexAddr_rdv (i := 11) (g170.rd hm172) uT101 ti55 rfl rfl oM (by simp)) <| rw_n (or_store_grow (Hs := Hs170) (H := [(b14_3, .cells (cl u32 q159) 105 (0, 0)), (b9q77, .cells #[(slc b1q77 0 4 4), (slc b2q77 0 4 4), (slc b3q77 0 4 4), (slc b4q77 0 4 4), (slc b5q77 0 4 4), (slc b6q77 0 4 4), (slc b7q77 0 4 4), (slc b8q77 0 4 4)] 107 (0, 0)), (b8q77, .cells (cl i64 ([3, 4, 9, 14])) 3 (0, 0)), (b7q77, .cells (cl i64 ([2, 7, 8, 13])) 3 (0, 0)), (b6q77, .cells (cl i64 ([1, 6, 11, 12])) 3 (0, 0)), (b5q77, .cells (cl i64 ([0, 5, 10, 15])) 3 (0, 0)), (b4q77, .cells (cl i64 ([3, 7, 11, 15])) 3 (0, 0)), (b3q77, .cells (cl i64 ([2, 6, 10, 14])) 3 (0, 0)), (b2q77, .cells (cl i64 ([1, 5, 9, 13])) 3 (0, 0)), (b1q77, .cells (cl i64 ([0, 4, 8, 12])) 3 (0, 0))] ++ (Hs71 ++ ([(b5, .cells (cl u8 nonce) 25 (0, 0)), (b3, .cells (cl u8 key) 23 (0, 0))]))) (i := 11) (a := q159.getD 2 0) hm172 g170 u32_one ti55 oM (by simp) rfl rfl) ?_
     rintro _ w173 ⟨Hs173, hm173, g173⟩
     replace g173 : Grow u32 55 sv ([q97.getD 0 0, q117.getD 0 0, q138.getD 0 0, q159.getD 0 0, q97.getD 1 0, q117.getD 1 0, q138.getD 1 0, q159.getD 1 0, q97.getD 2 0, q117.getD 2 0, q138.getD 2 0, q159.getD 2 0, q97.getD 3 0, q117.getD 3 0, q138.getD 3 0, x15]) Hs173 := g173
     refine rw_nil (kBlk_normal ?_)
     refine CW.abs (fun g => g 0 = (agg u8 key) ∧ g 1 = (u32 counter) ∧ g 2 = (agg u8 nonce) ∧ g 3 = (ptr b3 0) ∧ g 5 = (ptr b5 0) ∧ g 6 = (Value.slice none 0 0) ∧ g 7 = sv71 ∧ g 8 = (i64 32) ∧ g 9 = (i64 12) ∧ g 10 = sv ∧ g 11 = (slc b9q77 0 8 8) ∧ g 12 = (i64 (k : Int)) ∧ g 13 = (i64 3) ∧ g 14 = (ptr b14_3 0) ∧ g 15 = (i64 2) ∧ g 21 = (bl false) ∧ g 37 = (bl false) ∧ g 53 = (bl (decide ((k : Int) < 10))) ∧ g 57 = (bl true) ∧ g 99 = (bl true) ∧ True) ⟨s0, s1, s2, s3, s5, s6, s7, s8, s9, s10, s11, s12, s13, s14, rfl, s21, s37, s53, s57, rfl, trivial⟩ ?_
     rintro fr174 ⟨s0, s1, s2, s3, s5, s6, s7, s8, s9, s10, s11, s12, s13, s14, s15, s21, s37, s53, s57, s99, _⟩
     refine cw_region <| rM rfl s15 <| rw_q (v := (i64 3)) rfl (ev_i64_add (a := 2) (b := 1) rfl rfl oM oM) <| rw_q rfl (ev_assign (v := (i64 3)) rfl) ?_
     refine rw_nil (kThen_normal (cr_succ (cw_seq (cw_seq (cw_region ?_)))))
     refine rw_q rfl (ev_move (v := (i64 3)) rfl) <| rw_q rfl (ev_i64_lss (a := 3) (b := 4) rfl rfl) ?_
     refine rw_nil (kThen_normal ?_)
     refine cw_cond_t rfl (by decide) ?_
     refine cw_skip (kThen_normal (cw_seq (cw_block ?_)))
     refine cw_draw [(0, false), (1, false), (2, false), (3, false), (4, false), (5, false), (6, false), (7, false), (8, false), (9, false), (10, false)] 11 (by kernel_rfl) <| dM rfl rfl s10 <| dM rfl rfl s11 <| dM rfl rfl s13 <| dw_q rfl rfl (fun _ _hx => ev_ia_slc (r := 3) (i := 3) oM uT103 ti107 rfl rfl oM oM) <| dw_q (v := (slc b4q77 0 4 4)) rfl rfl (fun _ _hx => ev_load1 uT107 rfl rfl ((Mem.pick2 Hs173 [_] [_] _ (hm173.ext _hx))).h0 rfl) ?_
     refine dw_q rfl rfl (fun _ _hx => ev_move (v := (i64 3)) rfl) <| dw_q rfl rfl (fun _ _hx => ev_ia_slc (r := 3) (i := 3) oM uT107 ti3 rfl rfl oM oM) <| dw_q (v := (i64 15)) rfl rfl (fun _ _hx => ev_load1 uT3 rfl rfl ((Mem.pick2 Hs173 [_, _, _, _, _, _] [_] _ (hm173.ext _hx))).h0 (get_clD _ _ 0 (by simp))) <| dw_q rfl rfl (fun _ _hx => ev_move (v := (i64 3)) rfl) <| dw_q rfl rfl (fun _ _hx => ev_ia_arr (r := 3) (i := 3) oM uT105 ti55 s14 rfl oM oM) <| dw_q (v := (u32 (q159.getD 3 0))) rfl rfl (fun _ _hx => ev_load1 uT55 rfl rfl ((Mem.pick Hs173 [_] _ (hm173.ext _hx))).h0 (get_clD _ _ 0 sD)) ?_
     refine dw_nil (fun w175 _ew175 => ?_)
     have hm175 := hm173.ext _ew175
     refine rw_q rfl (ev_indexAddr_rdv (i := 15) (g173.rd hm175) uT101 ti55 rfl rfl oM (by simp)) <| rw_n (or_store_grow (Hs := Hs173) (H := [(b14_3, .cells (cl u32 q159) 105 (0, 0)), (b9q77, .cells #[(slc b1q77 0 4 4), (slc b2q77 0 4 4), (slc b3q77 0 4 4), (slc b4q77 0 4 4), (slc b5q77 0 4 4), (slc b6q77 0 4 4), (slc b7q77 0 4 4), (slc b8q77 0 4 4)] 107 (0, 0)), (b8q77, .cells (cl i64 ([3, 4, 9, 14])) 3 (0, 0)), (b7q77, .cells (cl i64 ([2, 7, 8, 13])) 3 (0, 0)), (b6q77, .cells (cl i64 ([1, 6, 11, 12])) 3 (0, 0)), (b5q77, .cells (cl i64 ([0, 5, 10, 15])) 3 (0, 0)), (b4q77, .cells (cl i64 ([3, 7, 11, 15])) 3 (0, 0)), (b3q77, .cells (cl i64 ([2, 6, 10, 14])) 3 (0, 0)), (b2q77, .cells (cl i64 ([1, 5, 9, 13])) 3 (0, 0)), (b1q77, .cells (cl i64 ([0, 4, 8, 12])) 3 (0, 0))] ++ (Hs71 ++ ([(b5, .cells (cl u8 nonce) 25 (0, 0)), (b3, .cells (cl u8 key) 23 (0, 0))]))) (i := 15) (a := q159.getD 3 0) hm175 g173 u32_one ti55 oM (by simp) rfl rfl) ?_
     rintro _ w176 ⟨Hs176, hm176, g176⟩
     replace g176 : Grow u32 55 sv ([q97.getD 0 0, q117.getD 0 0, q138.getD 0 0, q159.getD 0 0, q97.getD 1 0, q117.getD 1 0, q138.getD 1 0, q159.getD 1 0, q97.getD 2 0, q117.getD 2 0, q138.getD 2 0, q159.getD 2 0, q97.getD 3 0, q117.getD 3 0, q138.getD 3 0, q159.getD 3 0]) Hs176 := g176
     refine rw_nil (kBlk_normal ?_)
     refine CW.abs (fun g => g 0 = (agg u8 key) ∧ g 1 = (u32 counter) ∧ g 2 = (agg u8 nonce) ∧ g 3 = (ptr b3 0) ∧ g 5 = (ptr b5 0) ∧ g 6 = (Value.slice none 0 0) ∧ g 7 = sv71 ∧ g 8 = (i64 32) ∧ g 9 = (i64 12) ∧ g 10 = sv ∧ g 11 = (slc b9q77 0 8 8) ∧ g 12 = (i64 (k : Int)) ∧ g 13 = (i64 3) ∧ g 14 = (ptr b14_3 0) ∧ g 15 = (i64 3) ∧ g 21 = (bl false) ∧ g 37 = (bl false) ∧ g 53 = (bl (decide ((k : Int) < 10))) ∧ g 57 = (bl true) ∧ g 99 = (bl true) ∧ True) ⟨s0, s1, s2, s3, s5, s6, s7, s8, s9, s10, s11, s12, s13, s14, rfl, s21, s37, s53, s57, rfl, trivial⟩ ?_
     rintro fr177 ⟨s0, s1, s2, s3, s5, s6, s7, s8, s9, s10, s11, s12, s13, s14, s15, s21, s37, s53, s57, s99, _⟩
     refine cw_region <| rM rfl s15 <| rw_q (v := (i64 4)) rfl (ev_i64_add (a := 3) (b := 1) rfl rfl oM oM) <| rw_q rfl (ev_assign (v := (i64 4)) rfl) ?_
     refine rw_nil (kThen_normal (cr_succ (cw_seq (cw_seq (cw_region ?_)))))
     refine rw_q rfl (ev_move (v := (i64 4)) rfl) <| rw_q rfl (ev_i64_lss (a := 4) (b := 4) rfl rfl) ?_
     refine rw_nil (kThen_normal ?_)
     refine cw_cond_f rfl (by decide) <| cw_exit ?_
     refine kThen_exit (kThen_exit (kBlk_hit ?_))
     refine kBlk_normal (cw_region ?_)
     refine rM rfl s13 <| rw_q (v := (i64 4)) rfl (ev_i64_add (a := 3) (b := 1) rfl rfl oM oM) <| rw_q rfl (ev_assign (v := (i64 4)) rfl) ?_
     refine rw_nil (kThen_normal (cr_succ (cw_seq (cw_seq (cw_region ?_)))))
     refine rw_q rfl (ev_move (v := (i64 4)) rfl) <| rw_q rfl (ev_i64_lss (a := 4) (b := 8) rfl rfl) ?_
     refine rw_nil (kThen_normal ?_)
     refine cw_cond_t rfl (by decide) ?_
     refine cw_skip (kThen_normal (cw_seq (cw_block (cw_seq ?_))))
     refine cw_draw [(0, false), (1, false), (2, false), (3, false), (4, false), (5, false), (6, false), (7, false), (8, false), (9, false), (10, false), (11, false), (12, false), (13, false), (14, false), (15, false), (16, false), (17, false), (18, false), (19, false), (20, false), (21, false), (22, false), (23, false), (24, false), (25, false), (26, false), (27, false), (28, false), (29, false), (30, false), (31, false), (32, false), (33, false), (34, false), (35, false), (36, false), (37, false), (38, true)] 39 (by kernel_rfl) <| dM rfl rfl s10 <| dM rfl rfl s11 <| dw_q rfl rfl (fun _ _hx => ev_move (v := (i64 4)) rfl) <| dw_q rfl rfl (fun _ _hx => ev_ia_slc (r := 4) (i := 4) oM uT103 ti107 rfl rfl oM oM) <| dw_q (v := (slc b5q77 0 4 4)) rfl rfl (fun _ _hx => ev_load1 uT107 rfl rfl ((Mem.pick2 Hs176 [_] [_] _ (hm176.ext _hx))).h0 rfl) ?_
     refine dw_q rfl rfl (fun _ _hx => ev_ia_slc (r := 0) (i := 0) oM uT107 ti3 rfl rfl oM oM) <| dw_q (v := (i64 0)) rfl rfl (fun _ _hx => ev_load1 uT3 rfl rfl ((Mem.pick2 Hs176 [_, _, _, _, _] [_] _ (hm176.ext _hx))).h0 (get_clD _ _ 0 (by simp))) <| dw_q rfl rfl (fun _ _hx => ev_indexAddr_rdv (i := 0) (g176.rd (hm176.ext _hx)) uT101 ti55 rfl rfl oM (by simp)) <| dw_q (v := (u32 (q97.getD 0 0))) rfl rfl (fun _ _hx => ev_load_rdD (l := [q97.getD 0 0, q117.getD 0 0, q138.getD 0 0, q159.getD 0 0, q97.getD 1 0, q117.getD 1 0, q138.getD 1 0, q159.getD 1 0, q97.getD 2 0, q117.getD 2 0, q138.getD 2 0, q159.getD 2 0, q97.getD 3 0, q117.getD 3 0, q138.getD 3 0, q159.getD 3 0]) (i := 0) (dflt := 0) (g176.rd (hm176.ext _hx)) uT55 rfl oM (by simp) rfl) <| dM rfl rfl s10 <| dM rfl rfl s11 ?_
     refine dw_q rfl rfl (fun _ _hx => ev_move (v := (i64 4)) rfl) <| dw_q rfl rfl (fun _ _hx => ev_ia_slc (r := 4) (i := 4) oM uT103 ti107 rfl rfl oM oM) <| dw_q (v := (slc b5q77 0 4 4)) rfl rfl (fun _ _hx => ev_load1 uT107 rfl rfl ((Mem.pick2 Hs176 [_] [_] _ (hm176.ext _hx))).h0 rfl) <| dw_q rfl rfl (fun _ _hx => ev_ia_slc (r := 1) (i := 1) oM uT107 ti3 rfl rfl oM oM) <| dw_q (v := (i64 5)) rfl rfl (fun _ _hx => ev_load1 uT3 rfl rfl ((Mem.pick2 Hs176 [_, _, _, _, _] [_] _ (hm176.ext _hx))).h0 (get_clD _ _ 0 (by simp))) <| dw_q rfl rfl (fun _ _hx => ev_indexAddr_rdv (i := 5) (g176.rd (hm176.ext _hx)) uT101 ti55 rfl rfl oM (by simp)) ?_
     refine dw_q (v := (u32 (q117.getD 1 0))) rfl rfl (fun _ _hx => ev_load_rdD (l := [q97.getD 0 0, q117.getD 0 0, q138.getD 0 0, q159.getD 0 0, q97.getD 1 0, q117.getD 1 0, q138.getD 1 0, q159.getD 1 0, q97.getD 2 0, q117.getD 2 0, q138.getD 2 0, q159.getD 2 0, q97.getD 3 0, q117.getD 3 0, q138.getD 3 0, q159.getD 3 0]) (i := 5) (dflt := 0) (g176.rd (hm176.ext _hx)) uT55 rfl oM (by simp) rfl) <| dM rfl rfl s10 <| dM rfl rfl s11 <| dw_q rfl rfl (fun _ _hx => ev_move (v := (i64 4)) rfl) <| dw_q rfl rfl (fun _ _hx => ev_ia_slc (r := 4) (i := 4) oM uT103 ti107 rfl rfl oM oM) <| dw_q (v := (slc b5q77 0 4 4)) rfl rfl (fun _ _hx => ev_load1 uT107 rfl rfl ((Mem.pick2 Hs176 [_] [_] _ (hm176.ext _hx))).h0 rfl) ?_
     refine dw_q rfl rfl (fun _ _hx => ev_ia_slc (r := 2) (i := 2) oM uT107 ti3 rfl rfl oM oM) <| dw_q (v := (i64 10)) rfl rfl (fun _ _hx => ev_load1 uT3 rfl rfl ((Mem.pick2 Hs176 [_, _, _, _, _] [_] _ (hm176.ext _hx))).h0 (get_clD _ _ 0 (by simp))) <| dw_q rfl rfl (fun _ _hx => ev_indexAddr_rdv (i := 10) (g176.rd (hm176.ext _hx)) uT101 ti55 rfl rfl oM (by simp)) <| dw_q (v := (u32 (q138.getD 2 0))) rfl rfl (fun _ _hx => ev_load_rdD (l := [q97.getD 0 0, q117.getD 0 0, q138.getD 0 0, q159.getD 0 0, q97.getD 1 0, q117.getD 1 0, q138.getD 1 0, q159.getD 1 0, q97.getD 2 0, q117.getD 2 0, q138.getD 2 0, q159.getD 2 0, q97.getD 3 0, q117.getD 3 0, q138.getD 3 0, q159.getD 3 0]) (i := 10) (dflt := 0) (g176.rd (hm176.ext _hx)) uT55 rfl oM (by simp) rfl) <| dM rfl rfl s10 <| dM rfl rfl s11 ?_
     refine dw_q rfl rfl (fun _ _hx => ev_move (v := (i64 4)) rfl) <| dw_q rfl rfl (fun _ _hx => ev_ia_slc (r := 4) (i := 4) oM uT103 ti107 rfl rfl oM oM) <| dw_q (v := (slc b5q77 0 4 4)) rfl rfl (fun _ _hx => ev_load1 uT107 rfl rfl ((Mem.pick2 Hs176 [_] [_] _ (hm176.ext _hx))).h0 rfl) <| dw_q rfl rfl (fun _ _hx => ev_ia_slc (r := 3) (i := 3) oM uT107 ti3 rfl rfl oM oM) <| dw_q (v := (i64 15)) rfl rfl (fun _ _hx => ev_load1 uT3 rfl rfl ((Mem.pick2 Hs176 [_, _, _, _, _] [_] _ (hm176.ext _hx))).h0 (get_clD _ _ 0 (by simp))) <| dw_q rfl rfl (fun _ _hx => ev_indexAddr_rdv (i := 15) (g176.rd (hm176.ext _hx)) uT101 ti55 rfl rfl oM (by simp)) ?_
     refine dw_q (v := (u32 (q159.getD 3 0))) rfl rfl (fun _ _hx => ev_load_rdD (l := [q97.getD 0 0, q117.getD 0 0, q138.getD 0 0, q159.getD 0 0, q97.getD 1 0, q117.getD 1 0, q138.getD 1 0, q159.getD 1 0, q97.getD 2 0, q117.getD 2 0, q138.getD 2 0, q159.getD 2 0, q97.getD 3 0, q117.getD 3 0, q138.getD 3 0, q159.getD 3 0]) (i := 15) (dflt := 0) (g176.rd (hm176.ext _hx)) uT55 rfl oM (by simp) rfl) <| dw_q rfl rfl (fun _ _hx => ev_build_cl u32 [(q97.getD 0 0), (q117.getD 1 0), (q138.getD 2 0), (q159.getD 3 0)] u32_one ti105 uT105 ti55 rfl rfl) ?_
     obtain ⟨q180, hq180⟩ : ∃ q, q = quarterL left3 (q97.getD 0 0) (q117.getD 1 0) (q138.getD 2 0) (q159.getD 3 0) := ⟨_, rfl⟩
     have hq180l : q180.length = 4 := by rw [hq180]; rfl
     refine dw_x (v := (agg u32 q180)) rfl rfl (fun w178 _ew178 => OpR.mono (opR_call Tryd.func68 bd68 nm68 (args1 rfl) (c_quarter3 (q97.getD 0 0) (q117.getD 1 0) (q138.getD 2 0) (q159.getD 3 0) _)) (by rintro _ w179 ⟨rfl, _ew179⟩; exact ⟨by rw [hq180], _ew179⟩)) ?_
     refine dw_c rfl rfl (fun w181 _ew181 => ?_)
     have hm181 := hm176.ext _ew181
     refine OpR.mono (or_alloc_agg hm181 ti105) ?_
     rintro _ w182 ⟨b14_4, rfl, _ew182, hm182⟩
     refine ⟨_ew182, ?_⟩
     refine dw_nil (fun w183 _ew183 => ?_)
     have hm183 := hm182.ext _ew183
     refine rw_n (or_store_agg (f := u32) (l := q180) u32_one ti105 rfl rfl sD hm183.h0 sZ rfl) ?_
     rintro _ w184 uq184
     have hm184 := hm183.upd0 uq184
     refine rw_nil (kThen_normal ?_)
     have hm185 := Mem.drop ([(b14_3, .cells (cl u32 q159) 105 (0, 0))]) _ (Mem.pick2 [_] Hs176 [_] _ hm184)
     refine CW.abs (fun g => g 0 = (agg u8 key) ∧ g 1 = (u32 counter) ∧ g 2 = (agg u8 nonce) ∧ g 3 = (ptr b3 0) ∧ g 5 = (ptr b5 0) ∧ g 6 = (Value.slice none 0 0) ∧ g 7 = sv71 ∧ g 8 = (i64 32) ∧ g 9 = (i64 12) ∧ g 10 = sv ∧ g 11 = (slc b9q77 0 8 8) ∧ g 12 = (i64 (k : Int)) ∧ g 13 = (i64 4) ∧ g 14 = (ptr b14_4 0) ∧ g 15 = (i64 4) ∧ g 21 = (bl false) ∧ g 37 = (bl false) ∧ g 53 = (bl (decide ((k : Int) < 10))) ∧ g 57 = (bl true) ∧ g 99 = (bl false) ∧ True) ⟨s0, s1, s2, s3, s5, s6, s7, s8, s9, s10, s11, s12, rfl, rfl, rfl, s21, s37, s53, rfl, rfl, trivial⟩ ?_
     rintro fr186 ⟨s0, s1, s2, s3, s5, s6, s7, s8, s9, s10, s11, s12, s13, s14, s15, s21, s37, s53, s57, s99, _⟩
     refine cw_seq (cw_region ?_)
     refine rw_q rfl (ev_assign (v := (i64 0)) rfl) ?_
     refine rw_nil (kThen_normal (cw_block' ?_))
     refine cw_rounds 5 ?_
     refine cr_succ (cw_seq (cw_seq (cw_region ?_)))
     refine rw_q rfl (ev_move (v := (i64 0)) rfl) <| rw_q rfl (ev_i64_lss (a := 0) (b := 4) rfl rfl) ?_
     refine rw_nil (kThen_normal ?_)
     refine cw_cond_t rfl (by decide) ?_
     refine cw_skip (kThen_normal (cw_seq (cw_block ?_)))
     refine cw_draw [(0, false), (1, false), (2, false), (3, false), (4, false), (5, false), (6, false), (7, false), (8, false), (9, false), (10, false)] 11 (by kernel_rfl) <| dM rfl rfl s10 <| dM rfl rfl s11 <| dM rfl rfl s13 <| dw_q rfl rfl (fun _ _hx => ev_ia_slc (r := 4) (i := 4) oM uT103 ti107 rfl rfl oM oM) <| dw_q (v := (slc b5q77 0 4 4)) rfl rfl (fun _ _hx => ev_load1 uT107 rfl rfl ((Mem.pick2 [_] Hs176 [_] _ (hm185.ext _hx))).h0 rfl) ?_
     refine dw_q rfl rfl (fun _ _hx => ev_move (v := (i64 0)) rfl) <| dw_q rfl rfl (fun _ _hx => ev_ia_slc (r := 0) (i := 0) oM uT107 ti3 rfl rfl oM oM) <| dw_q (v := (i64 0)) rfl rfl (fun _ _hx => ev_load1 uT3 rfl rfl ((Mem.pick3 [_] Hs176 [_, _, _, _] [_] _ (hm185.ext _hx))).h0 (get_clD _ _ 0 (by simp))) <| dw_q rfl rfl (fun _ _hx => ev_move (v := (i64 0)) rfl) <| dw_q rfl rfl (fun _ _hx => ev_ia_arr (r := 0) (i := 0) oM uT105 ti55 s14 rfl oM oM) <| dw_q (v := (u32 (q180.getD 0 0))) rfl rfl (fun _ _hx => ev_load1 uT55 rfl rfl (hm185.ext _hx).h0 (get_clD _ _ 0 sD)) ?_
     refine dw_nil (fun w187 _ew187 => ?_)
     have hm187 := hm185.ext _ew187
     refine rw_q rfl (ev_indexAddr_rdv (i := 0) (g176.rd (Mem.pick [_] Hs176 _ hm187)) uT101 ti55 rfl rfl oM (by simp)) <| rw_n (or_store_grow (Hs := Hs176) (H := [(b14_4, .cells (cl u32 q180) 105 (0, 0)), (b9q77, .cells #[(slc b1q77 0 4 4), (slc b2q77 0 4 4), (slc b3q77 0 4 4), (slc b4q77 0 4 4), (slc b5q77 0 4 4), (slc b6q77 0 4 4), (slc b7q77 0 4 4), (slc b8q77 0 4 4)] 107 (0, 0)), (b8q77, .cells (cl i64 ([3, 4, 9, 14])) 3 (0, 0)), (b7q77, .cells (cl i64 ([2, 7, 8, 13])) 3 (0, 0)), (b6q77, .cells (cl i64 ([1, 6, 11, 12])) 3 (0, 0)), (b5q77, .cells (cl i64 ([0, 5, 10, 15])) 3 (0, 0)), (b4q77, .cells (cl i64 ([3, 7, 11, 15])) 3 (0, 0)), (b3q77, .cells (cl i64 ([2, 6, 10, 14])) 3 (0, 0)), (b2q77, .cells (cl i64 ([1, 5, 9, 13])) 3 (0, 0)), (b1q77, .cells (cl i64 ([0, 4, 8, 12])) 3 (0, 0))] ++ (Hs71 ++ ([(b5, .cells (cl u8 nonce) 25 (0, 0)), (b3, .cells (cl u8 key) 23 (0, 0))]))) (i := 0) (a := q180.getD 0 0) (Mem.pick [_] Hs176 _ hm187) g176 u32_one ti55 oM (by simp) rfl rfl) ?_
     rintro _ w188 ⟨Hs188, hm188, g188⟩
     replace g188 : Grow u32 55 sv ([q180.getD 0 0, q117.getD 0 0, q138.getD 0 0, q159.getD 0 0, q97.getD 1 0, q117.getD 1 0, q138.getD 1 0, q159.getD 1 0, q97.getD 2 0, q117.getD 2 0, q138.getD 2 0, q159.getD 2 0, q97.getD 3 0, q117.getD 3 0, q138.getD 3 0, q159.getD 3 0]) Hs188 := g188
     refine rw_nil (kBlk_normal ?_)
     refine CW.abs (fun g => g 0 = (agg u8 key) ∧ g 1 = (u32 counter) ∧ g 2 = (agg u8 nonce) ∧ g 3 = (ptr b3 0) ∧ g 5 = (ptr b5 0) ∧ g 6 = (Value.slice none 0 0) ∧ g 7 = sv71 ∧ g 8 = (i64 32) ∧ g 9 = (i64 12) ∧ g 10 = sv ∧ g 11 = (slc b9q77 0 8 8) ∧ g 12 = (i64 (k : Int)) ∧ g 13 = (i64 4) ∧ g 14 = (ptr b14_4 0) ∧ g 15 = (i64 0) ∧ g 21 = (bl false) ∧ g 37 = (bl false) ∧ g 53 = (bl (decide ((k : Int) < 10))) ∧ g 57 = (bl true) ∧ g 99 = (bl true) ∧ True) ⟨s0, s1, s2, s3, s5, s6, s7, s8, s9, s10, s11, s12, s13, s14, rfl, s21, s37, s53, s57, rfl, trivial⟩ ?_
     rintro fr189 ⟨s0, s1, s2, s3, s5, s6, s7, s8, s9, s10, s11, s12, s13, s14, s15, s21, s37, s53, s57, s99, _⟩
     refine cw_region <| rM rfl s15 <| rw_q (v := (i64 1)) rfl (ev_i64_add (a := 0) (b := 1) rfl rfl oM oM) <| rw_q rfl (ev_assign (v := (i64 1)) rfl) ?_
     refine rw_nil (kThen_normal (cr_succ (cw_seq (cw_seq (cw_region ?_)))))
     refine rw_q rfl (ev_move (v := (i64 1)) rfl) <| rw_q rfl (ev_i64_lss (a := 1) (b := 4) rfl rfl) ?_
     refine rw_nil (kThen_normal ?_)
     refine cw_cond_t rfl (by decide) ?_
     refine cw_skip (kThen_normal (cw_seq (cw_block ?_)))
     refine cw_draw [(0, false), (1, false), (2, false), (3, false), (4, false), (5, false), (6, false), (7, false), (8, false), (9, false), (10, false)] 11 (by kernel_rfl) <| dM rfl rfl s10 <| dM rfl rfl s11 <| dM rfl rfl s13 <| dw_q rfl rfl (fun _ _hx => ev_ia_slc (r := 4) (i := 4) oM uT103 ti107 rfl rfl oM oM) <| dw_q (v := (slc b5q77 0 4 4)) rfl rfl (fun _ _hx => ev_load1 uT107 rfl rfl ((Mem.pick2 Hs188 [_] [_] _ (hm188.ext _hx))).h0 rfl) ?_
     refine dw_q rfl rfl (fun _ _hx => ev_move (v := (i64 1)) rfl) <| dw_q rfl rfl (fun _ _hx => ev_ia_slc (r := 1) (i := 1) oM uT107 ti3 rfl rfl oM oM) <| dw_q (v := (i64 5)) rfl rfl (fun _ _hx => ev_load1 uT3 rfl rfl ((Mem.pick2 Hs188 [_, _, _, _, _] [_] _ (hm188.ext _hx))).h0 (get_clD _ _ 0 (by simp))) <| dw_q rfl rfl (fun _ _hx => ev_move (v := (i64 1)) rfl) <| dw_q rfl rfl (fun _ _hx => ev_ia_arr (r := 1) (i := 1) oM uT105 ti55 s14 rfl oM oM) <| dw_q (v := (u32 (q180.getD 1 0))) rfl rfl (fun _ _hx => ev_load1 uT55 rfl rfl ((Mem.pick Hs188 [_] _ (hm188.ext _hx))).h0 (get_clD _ _ 0 sD)) ?_
     refine dw_nil (fun w190 _ew190 => ?_)
     have hm190 := hm188.ext _ew190
     refine rw_q rfl (ev_indexAddr_rdv (i := 5) (g188.rd hm190) uT101 ti55 rfl rfl oM (by simp)) <| rw_n (or_store_grow (Hs := Hs188) (H := [(b14_4, .cells (cl u32 q180) 105 (0, 0)), (b9q77, .cells #[(slc b1q77 0 4 4), (slc b2q77 0 4 4), (slc b3q77 0 4 4), (slc b4q77 0 4 4), (slc b5q77 0 4 4), (slc b6q77 0 4 4), (slc b7q77 0 4 4), (slc b8q77 0 4 4)] 107 (0, 0)), (b8q77, .cells (cl i64 ([3, 4, 9, 14])) 3 (0, 0)), (b7q77, .cells (cl i64 ([2, 7, 8, 13])) 3 (0, 0)), (b6q77, .cells (cl i64 ([1, 6, 11, 12])) 3 (0, 0)), (b5q77, .cells (cl i64 ([0, 5, 10, 15])) 3 (0, 0)), (b4q77, .cells (cl i64 ([3, 7, 11, 15])) 3 (0, 0)), (b3q77, .cells (cl i64 ([2, 6, 10, 14])) 3 (0, 0)), (b2q77, .cells (cl i64 ([1, 5, 9, 13])) 3 (0, 0)), (b1q77, .cells (cl i64 ([0, 4, 8, 12])) 3 (0, 0))] ++ (Hs71 ++ ([(b5, .cells (cl u8 nonce) 25 (0, 0)), (b3, .cells (cl u8 key) 23 (0, 0))]))) (i := 5) (a := q180.getD 1 0) hm190 g188 u32_one ti55 oM (by simp) rfl rfl) ?_
     rintro _ w191 ⟨Hs191, hm191, g191⟩
     replace g191 : Grow u32 55 sv ([q180.getD 0 0, q117.getD 0 0, q138.getD 0 0, q159.getD 0 0, q97.getD 1 0, q180.getD 1 0, q138.getD 1 0, q159.getD 1 0, q97.getD 2 0, q117.getD 2 0, q138.getD 2 0, q159.getD 2 0, q97.getD 3 0, q117.getD 3 0, q138.getD 3 0, q159.getD 3 0]) Hs191 := g191
     refine rw_nil (kBlk_normal ?_)
     refine CW.abs (fun g => g 0 = (agg u8 key) ∧ g 1 = (u32 counter) ∧ g 2 = (agg u8 nonce) ∧ g 3 = (ptr b3 0) ∧ g 5 = (ptr b5 0) ∧ g 6 = (Value.slice none 0 0) ∧ g 7 = sv71 ∧ g 8 = (i64 32) ∧ g 9 = (i64 12) ∧ g 10 = sv ∧ g 11 = (slc b9q77 0 8 8) ∧ g 12 = (i64 (k : Int)) ∧ g 13 = (i64 4) ∧ g 14 = (ptr b14_4 0) ∧ g 15 = (i64 1) ∧ g 21 = (bl false) ∧ g 37 = (bl false) ∧ g 53 = (bl (decide ((k : Int) < 10))) ∧ g 57 = (bl true) ∧ g 99 = (bl true) ∧ True) ⟨s0, s1, s2, s3, s5, s6, s7, s8, s9, s10, s11, s12, s13, s14, rfl, s21, s37, s53, s57, rfl, trivial⟩ ?_
     rintro fr192 ⟨s0, s1, s2, s3, s5, s6, s7, s8, s9, s10, s11, s12, s13, s14, s15, s21, s37, s53, s57, s99, _⟩
     refine cw_region <| rM rfl s15 <| rw_q (v := (i64 2)) rfl (ev_i64_add (a := 1) (b := 1) rfl rfl oM oM) <| rw_q rfl (ev_assign (v := (i64 2)) rfl) ?_
     refine rw_nil (kThen_normal (cr_succ (cw_seq (cw_seq (cw_region ?_)))))
     refine rw_q rfl (ev_move (v := (i64 2)) rfl) <| rw_q rfl (ev_i64_lss (a := 2) (b := 4) rfl rfl) ?_
     refine rw_nil (kThen_normal ?_)
     refine cw_cond_t rfl (by decide) ?_
     refine cw_skip (kThen_normal (cw_seq (cw_block ?_)))
     refine cw_draw [(0, false), (1, false), (2, false), (3, false), (4, false), (5, false), (6, false), (7, false), (8, false), (9, false), (10, false)] 11 (by kernel_rfl) <| dM rfl rfl s10 <| dM rfl rfl s11 <| dM rfl rfl s13 <| dw_q rfl rfl (fun _ _hx => ev_ia_slc (r := 4) (i := 4) oM uT103 ti107 rfl rfl oM oM) <| dw_q (v := (slc b5q77 0 4 4)) rfl rfl (fun _ _hx => ev_load1 uT107 rfl rfl ((Mem.pick2 Hs191 [_] [_] _ (hm191.ext _hx))).h0 rfl) ?_
     refine dw_q rfl rfl (fun _ _hx => ev_move (v := (i64 2)) rfl) <| dw_q rfl rfl (fun _ _hx => ev_ia_slc (r := 2) (i := 2) oM uT107 ti3 rfl rfl oM oM) <| dw_q (v := (i64 10)) rfl rfl (fun _ _hx => ev_load1 uT3 rfl rfl ((Mem.pick2 Hs191 [_, _, _, _, _] [_] _ (hm191.ext _hx))).h0 (get_clD _ _ 0 (by simp))) <| dw_q rfl rfl (fun _ _hx => ev_move (v := (i64 2)) rfl) <| dw_q rfl rfl (fun _ _hx => ev_ia_arr (r := 2) (i := 2) oM uT105 ti55 s14 rfl oM oM) <| dw_q (v := (u32 (q180.getD 2 0))) rfl rfl (fun _ _hx => ev_load1 uT55 rfl rfl ((Mem.pick Hs191 [_] _ (hm191.ext _hx))).h0 (get_clD _ _ 0 sD)) ?_
     refine dw_nil (fun w193 _ew193 => ?_)
     have hm193 := hm191.ext _ew193
     refine rw_q rfl (ev_indexAddr_rdv (i := 10) (g191.rd hm193) uT101 ti55 rfl rfl oM (by simp)) <| rw_n (or_store_grow (Hs := Hs191) (H := [(b14_4, .cells (cl u32 q180) 105 (0, 0)), (b9q77, .cells #[(slc b1q77 0 4 4), (slc b2q77 0 4 4), (slc b3q77 0 4 4), (slc b4q77 0 4 4), (slc b5q77 0 4 4), (slc b6q77 0 4 4), (slc b7q77 0 4 4), (slc b8q77 0 4 4)] 107 (0, 0)), (b8q77, .cells (cl i64 ([3, 4, 9, 14])) 3 (0, 0)), (b7q77, .cells (cl i64 ([2, 7, 8, 13])) 3 (0, 0)), (b6q77, .cells (cl i64 ([1, 6, 11, 12])) 3 (0, 0)), (b5q77, .cells (cl i64 ([0, 5, 10, 15])) 3 (0, 0)), (b4q77, .cells (cl i64 ([3, 7, 11, 15])) 3 (0, 0)), (b3q77, .cells (cl i64 ([2, 6, 10, 14])) 3 (0, 0)), (b2q77, .cells (cl i64 ([1, 5, 9, 13])) 3 (0, 0)), (b1q77, .cells (cl i64 ([0, 4, 8, 12])) 3 (0, 0))] ++ (Hs71 ++ ([(b5, .cells (cl u8 nonce) 25 (0, 0)), (b3, .cells (cl u8 key) 23 (0, 0))]))) (i := 10) (a := q180.getD 2 0) hm193 g191 u32_one ti55 oM (by simp) rfl rfl) ?_
     rintro _ w194 ⟨Hs194, hm194, g194⟩
     replace g194 : Grow u32 55 sv ([q180.getD 0 0, q117.getD 0 0, q138.getD 0 0, q159.getD 0 0, q97.getD 1 0, q180.getD 1 0, q138.getD 1 0, q159.getD 1 0, q97.getD 2 0, q117.getD 2 0, q180.getD 2 0, q159.getD 2 0, q97.getD 3 0, q117.getD 3 0, q138.getD 3 0, q159.getD 3 0]) Hs194 := g194
     refine rw_nil (kBlk_normal ?_)
     refine CW.abs (fun g => g 0 = (agg u8 key) ∧ g 1 = (u32 counter) ∧ g 2 = (agg u8 nonce) ∧ g 3 = (ptr b3 0) ∧ g 5 = (ptr b5 0) ∧ g 6 = (Value.slice none 0 0) ∧ g 7 = sv71 ∧ g 8 = (i64 32) ∧ g 9 = (i64 12) ∧ g 10 = sv ∧ g 11 = (slc b9q77 0 8 8) ∧ g 12 = (i64 (k : Int)) ∧ g 13 = (i64 4) ∧ g 14 = (ptr b14_4 0) ∧ g 15 = (i64 2) ∧ g 21 = (bl false) ∧ g 37 = (bl false) ∧ g 53 = (bl (decide ((k : Int) < 10))) ∧ g 57 = (bl true) ∧ g 99 = (bl true) ∧ True) ⟨s0, s1, s2, s3, s5, s6, s7, s8, s9, s10, s11, s12, s13, s14, rfl, s21, s37, s53, s57, rfl, trivial⟩ ?_
     rintro fr195 ⟨s0, s1, s2, s3, s5, s6, s7, s8, s9, s10, s11, s12, s13, s14, s15, s21, s37, s53, s57, s99, _⟩
     refine cw_region <| rM rfl s15 <| rw_q (v := (i64 3)) rfl (ev_i64_add (a := 2) (b := 1) rfl rfl oM oM) <| rw_q rfl (ev_assign (v := (i64 3)) rfl) ?_
     refine rw_nil (kThen_normal (cr_succ (cw_seq (cw_seq (cw_region ?_)))))
     refine rw_q rfl (ev_move (v := (i64 3)) rfl) <| rw_q rfl (ev_i64_lss (a := 3) (b := 4) rfl rfl) ?_
     refine rw_nil (kThen_normal ?_)
     refine cw_cond_t rfl (by decide) ?_
     refine cw_skip (kThen_normal (cw_seq (cw_block ?_)))
     refine cw_draw [(0, false), (1, false), (2, false), (3, false), (4, false), (5, false), (6, false), (7, false), (8, false), (9, false), (10, false)] 11 (by kernel_rfl) <| dM rfl rfl s10 <| dM rfl rfl s11 <| dM rfl rfl s13 <| dw_q rfl rfl (fun _ _hx => ev_ia_slc (r := 4) (i := 4) oM uT103 ti107 rfl rfl oM oM) <| dw_q (v := (slc b5q77 0 4 4)) rfl rfl (fun _ _hx => ev_load1 uT107 rfl rfl ((Mem.pick2 Hs194 [_] [_] _ (hm194.ext _hx))).h0 rfl) ?_
     refine dw_q rfl rfl (fun _ _hx => ev_move (v := (i64 3)) rfl) <| dw_q rfl rfl (fun _ _hx => ev_ia_slc (r := 3) (i := 3) oM uT107 ti3 rfl rfl oM oM) <| dw_q (v := (i64 15)) rfl rfl (fun _ _hx => ev_load1 uT3 rfl rfl ((Mem.pick2 Hs194 [_, _, _, _, _] [_] _ (hm194.ext _hx))).h0 (get_clD _ _ 0 (by simp))) <| dw_q rfl rfl (fun _ _hx => ev_move (v := (i64 3)) rfl) <| dw_q rfl rfl (fun _ _hx => ev_ia_arr (r := 3) (i := 3) oM uT105 ti55 s14 rfl oM oM) <| dw_q (v := (u32 (q180.getD 3 0))) rfl rfl (fun _ _hx => ev_load1 uT55 rfl rfl ((Mem.pick Hs194 [_] _ (hm194.ext _hx))).h0 (get_clD _ _ 0 sD)) ?_
     refine dw_nil (fun w196 _ew196 => ?_)
     have hm196 := hm194.ext _ew196
     refine rw_q rfl (ev_indexAddr_rdv (i := 15) (g194.rd hm196) uT101 ti55 rfl rfl oM (by simp)) <| rw_n (or_store_grow (Hs := Hs194) (H := [(b14_4, .cells (cl u32 q180) 105 (0, 0)), (b9q77, .cells #[(slc b1q77 0 4 4), (slc b2q77 0 4 4), (slc b3q77 0 4 4), (slc b4q77 0 4 4), (slc b5q77 0 4 4), (slc b6q77 0 4 4), (slc b7q77 0 4 4), (slc b8q77 0 4 4)] 107 (0, 0)), (b8q77, .cells (cl i64 ([3, 4, 9, 14])) 3 (0, 0)), (b7q77, .cells (cl i64 ([2, 7, 8, 13])) 3 (0, 0)), (b6q77, .cells (cl i64 ([1, 6, 11, 12])) 3 (0, 0)), (b5q77, .cells (cl i64 ([0, 5, 10, 15])) 3 (0, 0)), (b4q77, .cells (cl i64 ([3, 7, 11, 15])) 3 (0, 0)), (b3q77, .cells (cl i64 ([2, 6, 10, 14])) 3 (0, 0)), (b2q77, .cells (cl i64 ([1, 5, 9, 13])) 3 (0, 0)), (b1q77, .cells (cl i64 ([0, 4, 8, 12])) 3 (0, 0))] ++ (Hs71 ++ ([(b5, .cells (cl u8 nonce) 25 (0, 0)), (b3, .cells (cl u8 key) 23 (0, 0))]))) (i := 15) (a := q180.getD 3 0) hm196 g194 u32_one ti55 oM (by simp) rfl rfl) ?_
     rintro _ w197 ⟨Hs197, hm197, g197⟩
     replace g197 : Grow u32 55 sv ([q180.getD 0 0, q117.getD 0 0, q138.getD 0 0, q159.getD 0 0, q97.getD 1 0, q180.getD 1 0, q138.getD 1 0, q159.getD 1 0, q97.getD 2 0, q117.getD 2 0, q180.getD 2 0, q159.getD 2 0, q97.getD 3 0, q117.getD 3 0, q138.getD 3 0, q180.getD 3 0]) Hs197 := g197
     refine rw_nil (kBlk_normal ?_)
     refine CW.abs (fun g => g 0 = (agg u8 key) ∧ g 1 = (u32 counter) ∧ g 2 = (agg u8 nonce) ∧ g 3 = (ptr b3 0) ∧ g 5 = (ptr b5 0) ∧ g 6 = (Value.slice none 0 0) ∧ g 7 = sv71 ∧ g 8 = (i64 32) ∧ g 9 = (i64 12) ∧ g 10 = sv ∧ g 11 = (slc b9q77 0 8 8) ∧ g 12 = (i64 (k : Int)) ∧ g 13 = (i64 4) ∧ g 14 = (ptr b14_4 0) ∧ g 15 = (i64 3) ∧ g 21 = (bl false) ∧ g 37 = (bl false) ∧ g 53 = (bl (decide ((k : Int) < 10))) ∧ g 57 = (bl true) ∧ g 99 = (bl true) ∧ True) ⟨s0, s1, s2, s3, s5, s6, s7, s8, s9, s10, s11, s12, s13, s14, rfl, s21, s37, s53, s57, rfl, trivial⟩ ?_
     rintro fr198 ⟨s0, s1, s2, s3, s5, s6, s7, s8, s9, s10, s11, s12, s13, s14, s15, s21, s37, s53, s57, s99, _⟩
     refine cw_region <| rM rfl s15 <| rw_q (v := (i64 4)) rfl (ev_i64_add (a := 3) (b := 1) rfl rfl oM oM) <| rw_q rfl (ev_assign (v := (i64 4)) rfl) ?_
     refine rw_nil (kThen_normal (cr_succ (cw_seq (cw_seq (cw_region ?_)))))
     refine rw_q rfl (ev_move (v := (i64 4)) rfl) <| rw_q rfl (ev_i64_lss (a := 4) (b := 4) rfl rfl) ?_
     refine rw_nil (kThen_normal ?_)
     refine cw_cond_f rfl (by decide) <| cw_exit ?_
     refine kThen_exit (kThen_exit (kBlk_hit ?_))
     refine kBlk_normal (cw_region ?_)
     refine rM rfl s13 <| rw_q (v := (i64 5)) rfl (ev_i64_add (a := 4) (b := 1) rfl rfl oM oM) <| rw_q rfl (ev_assign (v := (i64 5)) rfl) ?_
     refine rw_nil (kThen_normal (cr_succ (cw_seq (cw_seq (cw_region ?_)))))
     refine rw_q rfl (ev_move (v := (i64 5)) rfl) <| rw_q rfl (ev_i64_lss (a := 5) (b := 8) rfl rfl) ?_
     refine rw_nil (kThen_normal ?_)
     refine cw_cond_t rfl (by decide) ?_
     refine cw_skip (kThen_normal (cw_seq (cw_block (cw_seq ?_))))
     refine cw_draw [(0, false), (1, false), (2, false), (3, false), (4, false), (5, false), (6, false), (7, false), (8, false), (9, false), (10, false), (11, false), (12, false), (13, false), (14, false), (15, false), (16, false), (17, false), (18, false), (19, false), (20, false), (21, false), (22, false), (23, false), (24, false), (25, false), (26, false), (27, false), (28, false), (29, false), (30, false), (31, false), (32, false), (33, false), (34, false), (35, false), (36, false), (37, false), (38, true)] 39 (by kernel_rfl) <| dM rfl rfl s10 <| dM rfl rfl s11 <| dw_q rfl rfl (fun _ _hx => ev_move (v := (i64 5)) rfl) <| dw_q rfl rfl (fun _ _hx => ev_ia_slc (r := 5) (i := 5) oM uT103 ti107 rfl rfl oM oM) <| dw_q (v := (slc b6q77 0 4 4)) rfl rfl (fun _ _hx => ev_load1 uT107 rfl rfl ((Mem.pick2 Hs197 [_] [_] _ (hm197.ext _hx))).h0 rfl) ?_
     refine dw_q rfl rfl (fun _ _hx => ev_ia_slc (r := 0) (i := 0) oM uT107 ti3 rfl rfl oM oM) <| dw_q (v := (i64 1)) rfl rfl (fun _ _hx => ev_load1 uT3 rfl rfl ((Mem.pick2 Hs197 [_, _, _, _] [_] _ (hm197.ext _hx))).h0 (get_clD _ _ 0 (by simp))) <| dw_q rfl rfl (fun _ _hx => ev_indexAddr_rdv (i := 1) (g197.rd (hm197.ext _hx)) uT101 ti55 rfl rfl oM (by simp)) <| dw_q (v := (u32 (q117.getD 0 0))) rfl rfl (fun _ _hx => ev_load_rdD (l := [q180.getD 0 0, q117.getD 0 0, q138.getD 0 0, q159.getD 0 0, q97.getD 1 0, q180.getD 1 0, q138.getD 1 0, q159.getD 1 0, q97.getD 2 0, q117.getD 2 0, q180.getD 2 0, q159.getD 2 0, q97.getD 3 0, q117.getD 3 0, q138.getD 3 0, q180.getD 3 0]) (i := 1) (dflt := 0) (g197.rd (hm197.ext _hx)) uT55 rfl oM (by simp) rfl) <| dM rfl rfl s10 <| dM rfl rfl s11 ?_
     refine dw_q rfl rfl (fun _ _hx => ev_move (v := (i64 5)) rfl) <| dw_q rfl rfl (fun _ _hx => ev_ia_slc (r := 5) (i := 5) oM uT103 ti107 rfl rfl oM oM) <| dw_q (v := (slc b6q77 0 4 4)) rfl rfl (fun _ _hx => ev_load1 uT107 rfl rfl ((Mem.pick2 Hs197 [_] [_] _ (hm197.ext _hx))).h0 rfl) <| dw_q rfl rfl (fun _ _hx => ev_ia_slc (r := 1) (i := 1) oM uT107 ti3 rfl rfl oM oM) <| dw_q (v := (i64 6)) rfl rfl (fun _ _hx => ev_load1 uT3 rfl rfl ((Mem.pick2 Hs197 [_, _, _, _] [_] _ (hm197.ext _hx))).h0 (get_clD _ _ 0 (by simp))) <| dw_q rfl rfl (fun _ _hx => ev_indexAddr_rdv (i := 6) (g197.rd (hm197.ext _hx)) uT101 ti55 rfl rfl oM (by simp)) ?_
     refine dw_q (v := (u32 (q138.getD 1 0))) rfl rfl (fun _ _hx => ev_load_rdD (l := [q180.getD 0 0, q117.getD 0 0, q138.getD 0 0, q159.getD 0 0, q97.getD 1 0, q180.getD 1 0, q138.getD 1 0, q159.getD 1 0, q97.getD 2 0, q117.getD 2 0, q180.getD 2 0, q159.getD 2 0, q97.getD 3 0, q117.getD 3 0, q138.getD 3 0, q180.getD 3 0]) (i := 6) (dflt := 0) (g197.rd (hm197.ext _hx)) uT55 rfl oM (by simp) rfl) <| dM rfl rfl s10 <| dM rfl rfl s11 <| dw_q rfl rfl (fun _ _hx => ev_move (v := (i64 5)) rfl) <| dw_q rfl rfl (fun _ _hx => ev_ia_slc (r := 5) (i := 5) oM uT103 ti107 rfl rfl oM oM) <| dw_q (v := (slc b6q77 0 4 4)) rfl rfl (fun _ _hx => ev_load1 uT107 rfl rfl ((Mem.pick2 Hs197 [_] [_] _ (hm197.ext _hx))).h0 rfl) ?_
     refine dw_q rfl rfl (fun _ _hx => ev_ia_slc (r := 2) (i := 2) oM uT107 ti3 rfl rfl oM oM) <| dw_q (v := (i64 11)) rfl rfl (fun _ _hx => ev_load1 uT3 rfl rfl ((Mem.pick2 Hs197 [_, _, _, _] [_] _ (hm197.ext _hx))).h0 (get_clD _ _ 0 (by simp))) <| dw_q rfl rfl (fun _ _hx => ev_indexAddr_rdv (i := 11) (g197.rd (hm197.ext _hx)) uT101 ti55 rfl rfl oM (by simp)) <| dw_q (v := (u32 (q159.getD 2 0))) rfl rfl (fun _ _hx => ev_load_rdD (l := [q180.getD 0 0, q117.getD 0 0, q138.getD 0 0, q159.getD 0 0, q97.getD 1 0, q180.getD 1 0, q138.getD 1 0, q159.getD 1 0, q97.getD 2 0, q117.getD 2 0, q180.getD 2 0, q159.getD 2 0, q97.getD 3 0, q117.getD 3 0, q138.getD 3 0, q180.getD 3 0]) (i := 11) (dflt := 0) (g197.rd (hm197.ext _hx)) uT55 rfl oM (by simp) rfl) <| dM rfl rfl s10 <| dM rfl rfl s11 ?_
     refine dw_q rfl rfl (fun _ _hx => ev_move (v := (i64 5)) rfl) <| dw_q rfl rfl (fun _ _hx => ev_ia_slc (r := 5) (i := 5) oM uT103 ti107 rfl rfl oM oM) <| dw_q (v := (slc b6q77 0 4 4)) rfl rfl (fun _ _hx => ev_load1 uT107 rfl rfl ((Mem.pick2 Hs197 [_] [_] _ (hm197.ext _hx))).h0 rfl) <| dw_q rfl rfl (fun _ _hx => ev_ia_slc (r := 3) (i := 3) oM uT107 ti3 rfl rfl oM oM) <| dw_q (v := (i64 12)) rfl rfl (fun _ _hx => ev_load1 uT3 rfl rfl ((Mem.pick2 Hs197 [_, _, _, _] [_] _ (hm197.ext _hx))).h0 (get_clD _ _ 0 (by simp))) <| dw_q rfl rfl (fun _ _hx => ev_indexAddr_rdv (i := 12) (g197.rd (hm197.ext _hx)) uT101 ti55 rfl rfl oM (by simp)) ?_
     refine dw_q (v := (u32 (q97.getD 3 0))) rfl rfl (fun _ _hx => ev_load_rdD (l := [q180.getD 0 0, q117.getD 0 0, q138.getD 0 0, q159.getD 0 0, q97.getD 1 0, q180.getD 1 0, q138.getD 1 0, q159.getD 1 0, q97.getD 2 0, q117.getD 2 0, q180.getD 2 0, q159.getD 2 0, q97.getD 3 0, q117.getD 3 0, q138.getD 3 0, q180.getD 3 0]) (i := 12) (dflt := 0) (g197.rd (hm197.ext _hx)) uT55 rfl oM (by simp) rfl) <| dw_q rfl rfl (fun _ _hx => ev_build_cl u32 [(q117.getD 0 0), (q138.getD 1 0), (q159.getD 2 0), (q97.getD 3 0)] u32_one ti105 uT105 ti55 rfl rfl) ?_
     obtain ⟨q201, hq201⟩ : ∃ q, q = quarterL left3 (q117.getD 0 0) (q138.getD 1 0) (q159.getD 2 0) (q97.getD 3 0) := ⟨_, rfl⟩
     have hq201l : q201.length = 4 := by rw [hq201]; rfl
     refine dw_x (v := (agg u32 q201)) rfl rfl (fun w199 _ew199 => OpR.mono (opR_call Tryd.func68 bd68 nm68 (args1 rfl) (c_quarter3 (q117.getD 0 0) (q138.getD 1 0) (q159.getD 2 0) (q97.getD 3 0) _)) (by rintro _ w200 ⟨rfl, _ew200⟩; exact ⟨by rw [hq201], _ew200⟩)) ?_
     refine dw_c rfl rfl (fun w202 _ew202 => ?_)
     have hm202 := hm197.ext _ew202
     refine OpR.mono (or_alloc_agg hm202 ti105) ?_
     rintro _ w203 ⟨b14_5, rfl, _ew203, hm203⟩
     refine ⟨_ew203, ?_⟩
     refine dw_nil (fun w204 _ew204 => ?_)
     have hm204 := hm203.ext _ew204
     refine rw_n (or_store_agg (f := u32) (l := q201) u32_one ti105 rfl rfl sD hm204.h0 sZ rfl) ?_
     rintro _ w205 uq205
     have hm205 := hm204.upd0 uq205
     refine rw_nil (kThen_normal ?_)
     have hm206 := Mem.drop ([(b14_4, .cells (cl u32 q180) 105 (0, 0))]) _ (Mem.pick2 [_] Hs197 [_] _ hm205)
     refine CW.abs (fun g => g 0 = (agg u8 key) ∧ g 1 = (u32 counter) ∧ g 2 = (agg u8 nonce) ∧ g 3 = (ptr b3 0) ∧ g 5 = (ptr b5 0) ∧ g 6 = (Value.slice none 0 0) ∧ g 7 = sv71 ∧ g 8 = (i64 32) ∧ g 9 = (i64 12) ∧ g 10 = sv ∧ g 11 = (slc b9q77 0 8 8) ∧ g 12 = (i64 (k : Int)) ∧ g 13 = (i64 5) ∧ g 14 = (ptr b14_5 0) ∧ g 15 = (i64 4) ∧ g 21 = (bl false) ∧ g 37 = (bl false) ∧ g 53 = (bl (decide ((k : Int) < 10))) ∧ g 57 = (bl true) ∧ g 99 = (bl false) ∧ True) ⟨s0, s1, s2, s3, s5, s6, s7, s8, s9, s10, s11, s12, rfl, rfl, rfl, s21, s37, s53, rfl, rfl, trivial⟩ ?_
     rintro fr207 ⟨s0, s1, s2, s3, s5, s6, s7, s8, s9, s10, s11, s12, s13, s14, s15, s21, s37, s53, s57, s99, _⟩
     refine cw_seq (cw_region ?_)
     refine rw_q rfl (ev_assign (v := (i64 0)) rfl) ?_
     refine rw_nil (kThen_normal (cw_block' ?_))
     refine cw_rounds 5 ?_
     refine cr_succ (cw_seq (cw_seq (cw_region ?_)))
     refine rw_q rfl (ev_move (v := (i64 0)) rfl) <| rw_q rfl (ev_i64_lss (a := 0) (b := 4) rfl rfl) ?_
     refine rw_nil (kThen_normal ?_)
     refine cw_cond_t rfl (by decide) ?_
     refine cw_skip (kThen_normal (cw_seq (cw_block ?_)))
     refine cw_draw [(0, false), (1, false), (2, false), (3, false), (4, false), (5, false), (6, false), (7, false), (8, false), (9, false), (10, false)] 11 (by kernel_rfl) <| dM rfl rfl s10 <| dM rfl rfl s11 <| dM rfl rfl s13 <| dw_q rfl rfl (fun _ _hx => ev_ia_slc (r := 5) (i := 5) oM uT103 ti107 rfl rfl oM oM) <| dw_q (v := (slc b6q77 0 4 4)) rfl rfl (fun _ _hx => ev_load1 uT107 rfl rfl ((Mem.pick2 [_] Hs197 [_] _ (hm206.ext _hx))).h0 rfl) ?_
     refine dw_q rfl rfl (fun _ _hx => ev_move (v := (i64 0)) rfl) <| dw_q rfl rfl (fun _ _hx => ev_ia_slc (r := 0) (i := 0) oM uT107 ti3 rfl rfl oM oM) <| dw_q (v := (i64 1)) rfl rfl (fun _ _hx => ev_load1 uT3 rfl rfl ((Mem.pick3 [_] Hs197 [_, _, _] [_] _ (hm206.ext _hx))).h0 (get_clD _ _ 0 (by simp))) <| dw_q rfl rfl (fun _ _hx => ev_move (v := (i64 0)) rfl) <| dw_q rfl rfl (fun _ _hx => ev_ia_arr (r := 0) (i := 0) oM uT105 ti55 s14 rfl oM oM) <| dw_q (v := (u32 (q201.getD 0 0))) rfl rfl (fun _ _hx => ev_load1 uT55 rfl rfl (hm206.ext _hx).h0 (get_clD _ _ 0 sD)) ?_
     refine dw_nil (fun w208 _ew208 => ?_)
     have hm208 := hm206.ext _ew208
     refine rw_q rfl (ev_indexAddr_rdv (i := 1) (g197.rd (Mem.pick [_] Hs197 _ hm208)) uT101 ti55 rfl rfl oM (by simp)) <| rw_n (or_store_grow (Hs := Hs197) (H := [(b14_5, .cells (cl u32 q201) 105 (0, 0)), (b9q77, .cells #[(slc b1q77 0 4 4), (slc b2q77 0 4 4), (slc b3q77 0 4 4), (slc b4q77 0 4 4), (slc b5q77 0 4 4), (slc b6q77 0 4 4), (slc b7q77 0 4 4), (slc b8q77 0 4 4)] 107 (0, 0)), (b8q77, .cells (cl i64 ([3, 4, 9, 14])) 3 (0, 0)), (b7q77, .cells (cl i64 ([2, 7, 8, 13])) 3 (0, 0)), (b6q77, .cells (cl i64 ([1, 6, 11, 12])) 3 (0, 0)), (b5q77, .cells (cl i64 ([0, 5, 10, 15])) 3 (0, 0)), (b4q77, .cells (cl i64 ([3, 7, 11, 15])) 3 (0, 0)), (b3q77, .cells (cl i64 ([2, 6, 10, 14])) 3 (0, 0)), (b2q77, .cells (cl i64 ([1, 5, 9, 13])) 3 (0, 0)), (b1q77, .cells (cl i64 ([0, 4, 8, 12])) 3 (0, 0))] ++ (Hs71 ++ ([(b5, .cells (cl u8 nonce) 25 (0, 0)), (b3, .cells (cl u8 key) 23 (0, 0))]))) (i := 1) (a := q201.getD 0 0) (Mem.pick [_] Hs197 _ hm208) g197 u32_one ti55 oM (by simp) rfl rfl) ?_
     rintro _ w209 ⟨Hs209, hm209, g209⟩
     replace g209 : Grow u32 55 sv ([q180.getD 0 0, q201.getD 0 0, q138.getD 0 0, q159.getD 0 0, q97.getD 1 0, q180.getD 1 0, q138.getD 1 0, q159.getD 1 0, q97.getD 2 0, q117.getD 2 0, q180.getD 2 0, q159.getD 2 0, q97.getD 3 0, q117.getD 3 0, q138.getD 3 0, q180.getD 3 0]) Hs209 := g209
     refine rw_nil (kBlk_normal ?_)
     refine CW.abs (fun g => g 0 = (agg u8 key) ∧ g 1 = (u32 counter) ∧ g 2 = (agg u8 nonce) ∧ g 3 = (ptr b3 0) ∧ g 5 = (ptr b5 0) ∧ g 6 = (Value.slice none 0 0) ∧ g 7 = sv71 ∧ g 8 = (i64 32) ∧ g 9 = (i64 12) ∧ g 10 = sv ∧ g 11 = (slc b9q77 0 8 8) ∧ g 12 = (i64 (k : Int)) ∧ g 13 = (i64 5) ∧ g 14 = (ptr b14_5 0) ∧ g 15 = (i64 0) ∧ g 21 = (bl false) ∧ g 37 = (bl false) ∧ g 53 = (bl (decide ((k : Int) < 10))) ∧ g 57 = (bl true) ∧ g 99 = (bl true) ∧ True) ⟨s0, s1, s2, s3, s5, s6, s7, s8, s9, s10, s11, s12, s13, s14, rfl, s21, s37, s53, s57, rfl, trivial⟩ ?_
     rintro fr210 ⟨s0, s1, s2, s3, s5, s6, s7, s8, s9, s10, s11, s12, s13, s14, s15, s21, s37, s53, s57, s99, _⟩
     refine cw_region <| rM rfl s15 <| rw_q (v := (i64 1)) rfl (ev_i64_add (a := 0) (b := 1) rfl rfl oM oM) <| rw_q rfl (ev_assign (v := (i64 1)) rfl) ?_
     refine rw_nil (kThen_normal (cr_succ (cw_seq (cw_seq (cw_region ?_)))))
     refine rw_q rfl (ev_move (v := (i64 1)) rfl) <| rw_q rfl (ev_i64_lss (a := 1) (b := 4) rfl rfl) ?_
     refine rw_nil (kThen_normal ?_)
     refine cw_cond_t rfl (by decide) ?_
     refine cw_skip (kThen_normal (cw_seq (cw_block ?_)))
     refine cw_draw [(0, false), (1, false), (2, false), (3, false), (4, false), (5, false), (6, false), (7, false), (8, false), (9, false), (10, false)] 11 (by kernel_rfl) <| dM rfl rfl s10 <| dM rfl rfl s11 <| dM rfl rfl s13 <| dw_q rfl rfl (fun _ _hx => ev_ia_slc (r := 5) (i := 5) oM uT103 ti107 rfl rfl oM oM) <| dw_q (v := (slc b6q77 0 4 4)) rfl rfl (fun _ _hx => ev_load1 uT107 rfl rfl ((Mem.pick2 Hs209 [_] [_] _ (hm209.ext _hx))).h0 rfl) ?_
     refine dw_q rfl rfl (fun _ _hx => ev_move (v := (i64 1)) rfl) <| dw_q rfl rfl (fun _ _hx => ev_ia_slc (r := 1) (i := 1) oM uT107 ti3 rfl rfl oM oM) <| dw_q (v := (i64 6)) rfl rfl (fun _ _hx => ev_load1 uT3 rfl rfl ((Mem.pick2 Hs209 [_, _, _, _] [_] _ (hm209.ext _hx))).h0 (get_clD _ _ 0 (by simp))) <| dw_q rfl rfl (fun _ _hx => ev_move (v := (i64 1)) rfl) <| dw_q rfl rfl (fun _ _hx => ev_ia_arr (r := 1) (i := 1) oM uT105 ti55 s14 rfl oM oM) <| dw_q (v := (u32 (q201.getD 1 0))) rfl rfl (fun _ _hx => ev_load1 uT55 rfl rfl ((Mem.pick Hs209 [_] _ (hm209.ext _hx))).h0 (get_clD _ _ 0 sD)) ?_
     refine dw_nil (fun w211 _ew211 => ?_)
     have hm211 := hm209.ext _ew211
     refine rw_q rfl (ev_indexAddr_rdv (i := 6) (g209.rd hm211) uT101 ti55 rfl rfl oM (by simp)) <| rw_n (or_store_grow (Hs := Hs209) (H := [(b14_5, .cells (cl u32 q201) 105 (0, 0)), (b9q77, .cells #[(slc b1q77 0 4 4), (slc b2q77 0 4 4), (slc b3q77 0 4 4), (slc b4q77 0 4 4), (slc b5q77 0 4 4), (slc b6q77 0 4 4), (slc b7q77 0 4 4), (slc b8q77 0 4 4)] 107 (0, 0)), (b8q77, .cells (cl i64 ([3, 4, 9, 14])) 3 (0, 0)), (b7q77, .cells (cl i64 ([2, 7, 8, 13])) 3 (0, 0)), (b6q77, .cells (cl i64 ([1, 6, 11, 12])) 3 (0, 0)), (b5q77, .cells (cl i64 ([0, 5, 10, 15])) 3 (0, 0)), (b4q77, .cells (cl i64 ([3, 7, 11, 15])) 3 (0, 0)), (b3q77, .cells (cl i64 ([2, 6, 10, 14])) 3 (0, 0)), (b2q77, .cells (cl i64 ([1, 5, 9, 13])) 3 (0, 0)), (b1q77, .cells (cl i64 ([0, 4, 8, 12])) 3 (0, 0))] ++ (Hs71 ++ ([(b5, .cells (cl u8 nonce) 25 (0, 0)), (b3, .cells (cl u8 key) 23 (0, 0))]))) (i := 6) (a := q201.getD 1 0) hm211 g209 u32_one ti55 oM (by simp) rfl rfl) ?_
     rintro _ w212 ⟨Hs212, hm212, g212⟩
     replace g212 : Grow u32 55 sv ([q180.getD 0 0, q201.getD 0 0, q138.getD 0 0, q159.getD 0 0, q97.getD 1 0, q180.getD 1 0, q201.getD 1 0, q159.getD 1 0, q97.getD 2 0, q117.getD 2 0, q180.getD 2 0, q159.getD 2 0, q97.getD 3 0, q117.getD 3 0, q138.getD 3 0, q180.getD 3 0]) Hs212 := g212
     refine rw_nil (kBlk_normal ?_)
     refine CW.abs (fun g => g 0 = (agg u8 key) ∧ g 1 = (u32 counter) ∧ g 2 = (agg u8 nonce) ∧ g 3 = (ptr b3 0) ∧ g 5 = (ptr b5 0) ∧ g 6 = (Value.slice none 0 0) ∧ g 7 = sv71 ∧ g 8 = (i64 32) ∧ g 9 = (i64 12) ∧ g 10 = sv ∧ g 11 = (slc b9q77 0 8 8) ∧ g 12 = (i64 (k : Int)) ∧ g 13 = (i64 5) ∧ g 14 = (ptr b14_5 0) ∧ g 15 = (i64 1) ∧ g 21 = (bl false) ∧ g 37 = (bl false) ∧ g 53 = (bl (decide ((k : Int) < 10))) ∧ g 57 = (bl true) ∧ g 99 = (bl true) ∧ True) ⟨s0, s1, s2, s3, s5, s6, s7, s8, s9, s10, s11, s12, s13, s14, rfl, s21, s37, s53, s57, rfl, trivial⟩ ?_
     rintro fr213 ⟨s0, s1, s2, s3, s5, s6, s7, s8, s9, s10, s11, s12, s13, s14, s15, s21, s37, s53, s57, s99, _⟩
     refine cw_region <| rM rfl s15 <| rw_q (v := (i64 2)) rfl (ev_i64_add (a := 1) (b := 1) rfl rfl oM oM) <| rw_q rfl (ev_assign (v := (i64 2)) rfl) ?_
     refine rw_nil (kThen_normal (cr_succ (cw_seq (cw_seq (cw_region ?_)))))
     refine rw_q rfl (ev_move (v := (i64 2)) rfl) <| rw_q rfl (ev_i64_lss (a := 2) (b := 4) rfl rfl) ?_
     refine rw_nil (kThen_normal ?_)
     refine cw_cond_t rfl (by decide) ?_
     refine cw_skip (kThen_normal (cw_seq (cw_block ?_)))
     refine cw_draw [(0, false), (1, false), (2, false), (3, false), (4, false), (5, false), (6, false), (7, false), (8, false), (9, false), (10, false)] 11 (by kernel_rfl) <| dM rfl rfl s10 <| dM rfl rfl s11 <| dM rfl rfl s13 <| dw_q rfl rfl (fun _ _hx => ev_ia_slc (r := 5) (i := 5) oM uT103 ti107 rfl rfl oM oM) <| dw_q (v := (slc b6q77 0 4 4)) rfl rfl (fun _ _hx => ev_load1 uT107 rfl rfl ((Mem.pick2 Hs212 [_] [_] _ (hm212.ext _hx))).h0 rfl) ?_
     refine dw_q rfl rfl (fun _ _hx => ev_move (v := (i64 2)) rfl) <| dw_q rfl rfl (fun _ _hx => ev_ia_slc (r := 2) (i := 2) oM uT107 ti3 rfl rfl oM oM) <| dw_q (v := (i64 11)) rfl rfl (fun _ _hx => ev_load1 uT3 rfl rfl ((Mem.pick2 Hs212 [_, _, _, _] [_] _ (hm212.ext _hx))).h0 (get_clD _ _ 0 (by simp))) <| dw_q rfl rfl (fun _ _hx => ev_move (v := (i64 2)) rfl) <| dw_q rfl rfl (fun _ _hx => ev_ia_arr (r := 2) (i := 2) oM uT105 ti55 s14 rfl oM oM) <| dw_q (v := (u32 (q201.getD 2 0))) rfl rfl (fun _ _hx => ev_load1 uT55 rfl rfl ((Mem.pick Hs212 [_] _ (hm212.ext _hx))).h0 (get_clD _ _ 0 sD)) ?_
     refine dw_nil (fun w214 _ew214 => ?_)
     have hm214 := hm212.ext _ew214
     refine rw_q rfl (ev_indexAddr_rdv (i := 11) (g212.rd hm214) uT101 ti55 rfl rfl oM (by simp)) <| rw_n (or_store_grow (Hs := Hs212) (H := [(b14_5, .cells (cl u32 q201) 105 (0, 0)), (b9q77, .cells #[(slc b1q77 0 4 4), (slc b2q77 0 4 4), (slc b3q77 0 4 4), (slc b4q77 0 4 4), (slc b5q77 0 4 4), (slc b6q77 0 4 4), (slc b7q77 0 4 4), (slc b8q77 0 4 4)] 107 (0, 0)), (b8q77, .cells (cl i64 ([3, 4, 9, 14])) 3 (0, 0)), (b7q77, .cells (cl i64 ([2, 7, 8, 13])) 3 (0, 0)), (b6q77, .cells (cl i64 ([1, 6, 11, 12])) 3 (0, 0)), (b5q77, .cells (cl i64 ([0, 5, 10, 15])) 3 (0, 0)), (b4q77, .cells (cl i64 ([3, 7, 11, 15])) 3 (0, 0)), (b3q77, .cells (cl i64 ([2, 6, 10, 14])) 3 (0, 0)), (b2q77, .cells (cl i64 ([1, 5, 9, 13])) 3 (0, 0)), (b1q77, .cells (cl i64 ([0, 4, 8, 12])) 3 (0, 0))] ++ (Hs71 ++ ([(b5, .cells (cl u8 nonce) 25 (0, 0)), (b3, .cells (cl u8 key) 23 (0, 0))]))) (i := 11) (a := q201.getD 2 0) hm214 g212 u32_one ti55 oM (by simp) rfl rfl) ?_
     rintro _ w215 ⟨Hs215, hm215, g215⟩
     replace g215 : Grow u32 55 sv ([q180.getD 0 0, q201.getD 0 0, q138.getD 0 0, q159.getD 0 0, q97.getD 1 0, q180.getD 1 0, q201.getD 1 0, q159.getD 1 0, q97.getD 2 0, q117.getD 2 0, q180.getD 2 0, q201.getD 2 0, q97.getD 3 0, q117.getD 3 0, q138.getD 3 0, q180.getD 3 0]) Hs215 := g215
     refine rw_nil (kBlk_normal ?_)
     refine CW.abs (fun g => g 0 = (agg u8 key) ∧ g 1 = (u32 counter) ∧ g 2 = (agg u8 nonce) ∧ g 3 = (ptr b3 0) ∧ g 5 = (ptr b5 0) ∧ g 6 = (Value.slice none 0 0) ∧ g 7 = sv71 ∧ g 8 = (i64 32) ∧ g 9 = (i64 12) ∧ g 10 = sv ∧ g 11 = (slc b9q77 0 8 8) ∧ g 12 = (i64 (k : Int)) ∧ g 13 = (i64 5) ∧ g 14 = (ptr b14_5 0) ∧ g 15 = (i64 2) ∧ g 21 = (bl false) ∧ g 37 = (bl false) ∧ g 53 = (bl (decide ((k : Int) < 10))) ∧ g 57 = (bl true) ∧ g 99 = (bl true) ∧ True) ⟨s0, s1, s2, s3, s5, s6, s7, s8, s9, s10, s11, s12, s13, s14, rfl, s21, s37, s53, s57, rfl, trivial⟩ ?_
     rintro fr216 ⟨s0, s1, s2, s3, s5, s6, s7, s8, s9, s10, s11, s12, s13, s14, s15, s21, s37, s53, s57, s99, _⟩
     refine cw_region <| rM rfl s15 <| rw_q (v := (i64 3)) rfl (ev_i64_add (a := 2) (b := 1) rfl rfl oM oM) <| rw_q rfl (ev_assign (v := (i64 3)) rfl) ?_
     refine rw_nil (kThen_normal (cr_succ (cw_seq (cw_seq (cw_region ?_)))))
     refine rw_q rfl (ev_move (v := (i64 3)) rfl) <| rw_q rfl (ev_i64_lss (a := 3) (b := 4) rfl rfl) ?_
     refine rw_nil (kThen_normal ?_)
     refine cw_cond_t rfl (by decide) ?_
     refine cw_skip (kThen_normal (cw_seq (cw_block ?_)))
     refine cw_draw [(0, false), (1, false), (2, false), (3, false), (4, false), (5, false), (6, false), (7, false), (8, false), (9, false), (10, false)] 11 (by kernel_rfl) <| dM rfl rfl s10 <| dM rfl rfl s11 <| dM rfl rfl s13 <| dw_q rfl rfl (fun _ _hx => ev_ia_slc (r := 5) (i := 5) oM uT103 ti107 rfl rfl oM oM) <| dw_q (v := (slc b6q77 0 4 4)) rfl rfl (fun _ _hx => ev_load1 uT107 rfl rfl ((Mem.pick2 Hs215 [_] [_] _ (hm215.ext _hx))).h0 rfl) ?_
     refine dw_q rfl rfl (fun _ _hx => ev_move (v := (i64 3)) rfl) <| dw_q rfl rfl (fun _ _hx => ev_ia_slc (r := 3) (i := 3) oM uT107 ti3 rfl rfl oM oM) <| dw_q (v := (i64 12)) rfl rfl (fun _ _hx => ev_load1 uT3 rfl rfl ((Mem.pick2 Hs215 [_, _, _, _] [_] _ (hm215.ext _hx))).h0 (get_clD _ _ 0 (by simp))) <| dw_q rfl rfl (fun _ _hx => ev_move (v := (i64 3)) rfl) <| dw_q rfl rfl (fun _ _hx => ev_ia_arr (r := 3) (i := 3) oM uT105 ti55 s14 rfl oM oM) <| dw_q (v := (u32 (q201.getD 3 0))) rfl rfl (fun _ _hx => ev_load1 uT55 rfl rfl ((Mem.pick Hs215 [_] _ (hm215.ext _hx))).h0 (get_clD _ _ 0 sD)) ?_
     refine dw_nil (fun w217 _ew217 => ?_)
     have hm217 := hm215.ext _ew217
     refine rw_q rfl (ev_indexAddr_rdv (i := 12) (g215.rd hm217) uT101 ti55 rfl rfl oM (by simp)) <| rw_n (or_store_grow (Hs := Hs215) (H := [(b14_5, .cells (cl u32 q201) 105 (0, 0)), (b9q77, .cells #[(slc b1q77 0 4 4), (slc b2q77 0 4 4), (slc b3q77 0 4 4), (slc b4q77 0 4 4), (slc b5q77 0 4 4), (slc b6q77 0 4 4), (slc b7q77 0 4 4), (slc b8q77 0 4 4)] 107 (0, 0)), (b8q77, .cells (cl i64 ([3, 4, 9, 14])) 3 (0, 0)), (b7q77, .cells (cl i64 ([2, 7, 8, 13])) 3 (0, 0)), (b6q77, .cells (cl i64 ([1, 6, 11, 12])) 3 (0, 0)), (b5q77, .cells (cl i64 ([0, 5, 10, 15])) 3 (0, 0)), (b4q77, .cells (cl i64 ([3, 7, 11, 15])) 3 (0, 0)), (b3q77, .cells (cl i64 ([2, 6, 10, 14])) 3 (0, 0)), (b2q77, .cells (cl i64 ([1, 5, 9, 13])) 3 (0, 0)), (b1q77, .cells (cl i64 ([0, 4, 8, 12])) 3 (0, 0))] ++ (Hs71 ++ ([(b5, .cells (cl u8 nonce) 25 (0, 0)), (b3, .cells (cl u8 key) 23 (0, 0))]))) (i := 12) (a := q201.getD 3 0) hm217 g215 u32_one ti55 oM (by simp) rfl rfl) ?_
     rintro _ w218 ⟨Hs218, hm218, g218⟩
     replace g218 : Grow u32 55 sv ([q180.getD 0 0, q201.getD 0 0, q138.getD 0 0, q159.getD 0 0, q97.getD 1 0, q180.getD 1 0, q201.getD 1 0, q159.getD 1 0, q97.getD 2 0, q117.getD 2 0, q180.getD 2 0, q201.getD 2 0, q201.getD 3 0, q117.getD 3 0, q138.getD 3 0, q180.getD 3 0]) Hs218 := g218
     refine rw_nil (kBlk_normal ?_)
     refine CW.abs (fun g => g 0 = (agg u8 key) ∧ g 1 = (u32 counter) ∧ g 2 = (agg u8 nonce) ∧ g 3 = (ptr b3 0) ∧ g 5 = (ptr b5 0) ∧ g 6 = (Value.slice none 0 0) ∧ g 7 = sv71 ∧ g 8 = (i64 32) ∧ g 9 = (i64 12) ∧ g 10 = sv ∧ g 11 = (slc b9q77 0 8 8) ∧ g 12 = (i64 (k : Int)) ∧ g 13 = (i64 5) ∧ g 14 = (ptr b14_5 0) ∧ g 15 = (i64 3) ∧ g 21 = (bl false) ∧ g 37 = (bl false) ∧ g 53 = (bl (decide ((k : Int) < 10))) ∧ g 57 = (bl true) ∧ g 99 = (bl true) ∧ True) ⟨s0, s1, s2, s3, s5, s6, s7, s8, s9, s10, s11, s12, s13, s14, rfl, s21, s37, s53, s57, rfl, trivial⟩ ?_
     rintro fr219 ⟨s0, s1, s2, s3, s5, s6, s7, s8, s9, s10, s11, s12, s13, s14, s15, s21, s37, s53, s57, s99, _⟩
     refine cw_region <| rM rfl s15 <| rw_q (v := (i64 4)) rfl (ev_i64_add (a := 3) (b := 1) rfl rfl oM oM) <| rw_q rfl (ev_assign (v := (i64 4)) rfl) ?_
     refine rw_nil (kThen_normal (cr_succ (cw_seq (cw_seq (cw_region ?_)))))
     refine rw_q rfl (ev_move (v := (i64 4)) rfl) <| rw_q rfl (ev_i64_lss (a := 4) (b := 4) rfl rfl) ?_
     refine rw_nil (kThen_normal ?_)
     refine cw_cond_f rfl (by decide) <| cw_exit ?_
     refine kThen_exit (kThen_exit (kBlk_hit ?_))
     refine kBlk_normal (cw_region ?_)
     refine rM rfl s13 <| rw_q (v := (i64 6)) rfl (ev_i64_add (a := 5) (b := 1) rfl rfl oM oM) <| rw_q rfl (ev_assign (v := (i64 6)) rfl) ?_
     refine rw_nil (kThen_normal (cr_succ (cw_seq (cw_seq (cw_region ?_)))))
     refine rw_q rfl (ev_move (v := (i64 6)) rfl) <| rw_q rfl (ev_i64_lss (a := 6) (b := 8) rfl rfl) ?_
     refine rw_nil (kThen_normal ?_)
     refine cw_cond_t rfl (by decide) ?_
     refine cw_skip (kThen_normal (cw_seq (cw_block (cw_seq ?_))))
     refine cw_draw [(0, false), (1, false), (2, false), (3, false), (4, false), (5, false), (6, false), (7, false), (8, false), (9, false), (10, false), (11, false), (12, false), (13, false), (14, false), (15, false), (16, false), (17, false), (18, false), (19, false), (20, false), (21, false), (22, false), (23, false), (24, false), (25, false), (26, false), (27, false), (28, false), (29, false), (30, false), (31, false), (32, false), (33, false), (34, false), (35, false), (36, false), (37, false), (38, true)] 39 (by kernel_rfl) <| dM rfl rfl s10 <| dM rfl rfl s11 <| dw_q rfl rfl (fun _ _hx => ev_move (v := (i64 6)) rfl) <| dw_q rfl rfl (fun _ _hx => ev_ia_slc (r := 6) (i := 6) oM uT103 ti107 rfl rfl oM oM) <| dw_q (v := (slc b7q77 0 4 4)) rfl rfl (fun _ _hx => ev_load1 uT107 rfl rfl ((Mem.pick2 Hs218 [_] [_] _ (hm218.ext _hx))).h0 rfl) ?_
     refine dw_q rfl rfl (fun _ _hx => ev_ia_slc (r := 0) (i := 0) oM uT107 ti3 rfl rfl oM oM) <| dw_q (v := (i64 2)) rfl rfl (fun _ _hx => ev_load1 uT3 rfl rfl ((Mem.pick2 Hs218 [_, _, _] [_] _ (hm218.ext _hx))).h0 (get_clD _ _ 0 (by simp))) <| dw_q rfl rfl (fun _ _hx => ev_indexAddr_rdv (i := 2) (g218.rd (hm218.ext _hx)) uT101 ti55 rfl rfl oM (by simp)) <| dw_q (v := (u32 (q138.getD 0 0))) rfl rfl (fun _ _hx => ev_load_rdD (l := [q180.getD 0 0, q201.getD 0 0, q138.getD 0 0, q159.getD 0 0, q97.getD 1 0, q180.getD 1 0, q201.getD 1 0, q159.getD 1 0, q97.getD 2 0, q117.getD 2 0, q180.getD 2 0, q201.getD 2 0, q201.getD 3 0, q117.getD 3 0, q138.getD 3 0, q180.getD 3 0]) (i := 2) (dflt := 0) (g218.rd (hm218.ext _hx)) uT55 rfl oM (by simp) rfl) <| dM rfl rfl s10 <| dM rfl rfl s11 ?_
     refine dw_q rfl rfl (fun _ _hx => ev_move (v := (i64 6)) rfl) <| dw_q rfl rfl (fun _ _hx => ev_ia_slc (r := 6) (i := 6) oM uT103 ti107 rfl rfl oM oM) <| dw_q (v := (slc b7q77 0 4 4)) rfl rfl (fun _ _hx => ev_load1 uT107 rfl rfl ((Mem.pick2 Hs218 [_] [_] _ (hm218.ext _hx))).h0 rfl) <| dw_q rfl rfl (fun _ _hx => ev_ia_slc (r := 1) (i := 1) oM uT107 ti3 rfl rfl oM oM) <| dw_q (v := (i64 7)) rfl rfl (fun _ _hx => ev_load1 uT3 rfl rfl ((Mem.pick2 Hs218 [_, _, _] [_] _ (hm218.ext _hx))).h0 (get_clD _ _ 0 (by simp))) <| dw_q rfl rfl (fun _ _hx => ev_indexAddr_rdv (i := 7) (g218.rd (hm218.ext _hx)) uT101 ti55 rfl rfl oM (by simp)) ?_
     refine dw_q (v := (u32 (q159.getD 1 0))) rfl rfl (fun _ _hx => ev_load_rdD (l := [q180.getD 0 0, q201.getD 0 0, q138.getD 0 0, q159.getD 0 0, q97.getD 1 0, q180.getD 1 0, q201.getD 1 0, q159.getD 1 0, q97.getD 2 0, q117.getD 2 0, q180.getD 2 0, q201.getD 2 0, q201.getD 3 0, q117.getD 3 0, q138.getD 3 0, q180.getD 3 0]) (i := 7) (dflt := 0) (g218.rd (hm218.ext _hx)) uT55 rfl oM (by simp) rfl) <| dM rfl rfl s10 <| dM rfl rfl s11 <| dw_q rfl rfl (fun _ _hx => ev_move (v := (i64 6)) rfl) <| dw_q rfl rfl (fun _ _hx => ev_ia_slc (r := 6) (i := 6) oM uT103 ti107 rfl rfl oM oM) <| dw_q (v := (slc b7q77 0 4 4)) rfl rfl (fun _ _hx => ev_load1 uT107 rfl rfl ((Mem.pick2 Hs218 [_] [_] _ (hm218.ext _hx))).h0 rfl) ?_
     refine dw_q rfl rfl (fun _ _hx => ev_ia_slc (r := 2) (i := 2) oM uT107 ti3 rfl rfl oM oM) <| dw_q (v := (i64 8)) rfl rfl (fun _ _hx => ev_load1 uT3 rfl rfl ((Mem.pick2 Hs218 [_, _, _] [_] _ (hm218.ext _hx))).h0 (get_clD _ _ 0 (by simp))) <| dw_q rfl rfl (fun _ _hx => ev_indexAddr_rdv (i := 8) (g218.rd (hm218.ext _hx)) uT101 ti55 rfl rfl oM (by simp)) <| dw_q (v := (u32 (q97.getD 2 0))) rfl rfl (fun _ _hx => ev_load_rdD (l := [q180.getD 0 0, q201.getD 0 0, q138.getD 0 0, q159.getD 0 0, q97.getD 1 0, q180.getD 1 0, q201.getD 1 0, q159.getD 1 0, q97.getD 2 0, q117.getD 2 0, q180.getD 2 0, q201.getD 2 0, q201.getD 3 0, q117.getD 3 0, q138.getD 3 0, q180.getD 3 0]) (i := 8) (dflt := 0) (g218.rd (hm218.ext _hx)) uT55 rfl oM (by simp) rfl) <| dM rfl rfl s10 <| dM rfl rfl s11 ?_
     refine dw_q rfl rfl (fun _ _hx => ev_move (v := (i64 6)) rfl) <| dw_q rfl rfl (fun _ _hx => ev_ia_slc (r := 6) (i := 6) oM uT103 ti107 rfl rfl oM oM) <| dw_q (v := (slc b7q77 0 4 4)) rfl rfl (fun _ _hx => ev_load1 uT107 rfl rfl ((Mem.pick2 Hs218 [_] [_] _ (hm218.ext _hx))).h0 rfl) <| dw_q rfl rfl (fun _ _hx => ev_ia_slc (r := 3) (i := 3) oM uT107 ti3 rfl rfl oM oM) <| dw_q (v := (i64 13)) rfl rfl (fun _ _hx => ev_load1 uT3 rfl rfl ((Mem.pick2 Hs218 [_, _, _] [_] _ (hm218.ext _hx))).h0 (get_clD _ _ 0 (by simp))) <| dw_q rfl rfl (fun _ _hx => ev_indexAddr_rdv (i := 13) (g218.rd (hm218.ext _hx)) uT101 ti55 rfl rfl oM (by simp)) ?_
     refine dw_q (v := (u32 (q117.getD 3 0))) rfl rfl (fun _ _hx => ev_load_rdD (l := [q180.getD 0 0, q201.getD 0 0, q138.getD 0 0, q159.getD 0 0, q97.getD 1 0, q180.getD 1 0, q201.getD 1 0, q159.getD 1 0, q97.getD 2 0, q117.getD 2 0, q180.getD 2 0, q201.getD 2 0, q201.getD 3 0, q117.getD 3 0, q138.getD 3 0, q180.getD 3 0]) (i := 13) (dflt := 0) (g218.rd (hm218.ext _hx)) uT55 rfl oM (by simp) rfl) <| dw_q rfl rfl (fun _ _hx => ev_build_cl u32 [(q138.getD 0 0), (q159.getD 1 0), (q97.getD 2 0), (q117.getD 3 0)] u32_one ti105 uT105 ti55 rfl rfl) ?_
     obtain ⟨q222, hq222⟩ : ∃ q, q = quarterL left3 (q138.getD 0 0) (q159.getD 1 0) (q97.getD 2 0) (q117.getD 3 0) := ⟨_, rfl⟩
     have hq222l : q222.length = 4 := by rw [hq222]; rfl
     refine dw_x (v := (agg u32 q222)) rfl rfl (fun w220 _ew220 => OpR.mono (opR_call Tryd.func68 bd68 nm68 (args1 rfl) (c_quarter3 (q138.getD 0 0) (q159.getD 1 0) (q97.getD 2 0) (q117.getD 3 0) _)) (by rintro _ w221 ⟨rfl, _ew221⟩; exact ⟨by rw [hq222], _ew221⟩)) ?_
     refine dw_c rfl rfl (fun w223 _ew223 => ?_)
     have hm223 := hm218.ext _ew223
     refine OpR.mono (or_alloc_agg hm223 ti105) ?_
     rintro _ w224 ⟨b14_6, rfl, _ew224, hm224⟩
     refine ⟨_ew224, ?_⟩
     refine dw_nil (fun w225 _ew225 => ?_)
     have hm225 := hm224.ext _ew225
     refine rw_n (or_store_agg (f := u32) (l := q222) u32_one ti105 rfl rfl sD hm225.h0 sZ rfl) ?_
     rintro _ w226 uq226
     have hm226 := hm225.upd0 uq226
     refine rw_nil (kThen_normal ?_)
     have hm227 := Mem.drop ([(b14_5, .cells (cl u32 q201) 105 (0, 0))]) _ (Mem.pick2 [_] Hs218 [_] _ hm226)
     refine CW.abs (fun g => g 0 = (agg u8 key) ∧ g 1 = (u32 counter) ∧ g 2 = (agg u8 nonce) ∧ g 3 = (ptr b3 0) ∧ g 5 = (ptr b5 0) ∧ g 6 = (Value.slice none 0 0) ∧ g 7 = sv71 ∧ g 8 = (i64 32) ∧ g 9 = (i64 12) ∧ g 10 = sv ∧ g 11 = (slc b9q77 0 8 8) ∧ g 12 = (i64 (k : Int)) ∧ g 13 = (i64 6) ∧ g 14 = (ptr b14_6 0) ∧ g 15 = (i64 4) ∧ g 21 = (bl false) ∧ g 37 = (bl false) ∧ g 53 = (bl (decide ((k : Int) < 10))) ∧ g 57 = (bl true) ∧ g 99 = (bl false) ∧ True) ⟨s0, s1, s2, s3, s5, s6, s7, s8, s9, s10, s11, s12, rfl, rfl, rfl, s21, s37, s53, rfl, rfl, trivial⟩ ?_
     rintro fr228 ⟨s0, s1, s2, s3, s5, s6, s7, s8, s9, s10, s11, s12, s13, s14, s15, s21, s37, s53, s57, s99, _⟩
     refine cw_seq (cw_region ?_)
     refine rw_q rfl (ev_assign (v := (i64 0)) rfl) ?_
     refine rw_nil (kThen_normal (cw_block' ?_))
     refine cw_rounds 5 ?_
     refine cr_succ (cw_seq (cw_seq (cw_region ?_)))
     refine rw_q rfl (ev_move (v := (i64 0)) rfl) <| rw_q rfl (ev_i64_lss (a := 0) (b := 4) rfl rfl) ?_
     refine rw_nil (kThen_normal ?_)
     refine cw_cond_t rfl (by decide) ?_
     refine cw_skip (kThen_normal (cw_seq (cw_block ?_)))
     refine cw_draw [(0, false), (1, false), (2, false), (3, false), (4, false), (5, false), (6, false), (7, false), (8, false), (9, false), (10, false)] 11 (by kernel_rfl) <| dM rfl rfl s10 <| dM rfl rfl s11 <| dM rfl rfl s13 <| dw_q rfl rfl (fun _ _hx => ev_ia_slc (r := 6) (i := 6) oM uT103 ti107 rfl rfl oM oM) <| dw_q (v := (slc b7q77 0 4 4)) rfl rfl (fun _ _hx => ev_load1 uT107 rfl rfl ((Mem.pick2 [_] Hs218 [_] _ (hm227.ext _hx))).h0 rfl) ?_
     refine dw_q rfl rfl (fun _ _hx => ev_move (v := (i64 0)) rfl) <| dw_q rfl rfl (fun _ _hx => ev_ia_slc (r := 0) (i := 0) oM uT107 ti3 rfl rfl oM oM) <| dw_q (v := (i64 2)) rfl rfl (fun _ _hx => ev_load1 uT3 rfl rfl ((Mem.pick3 [_] Hs218 [_, _] [_] _ (hm227.ext _hx))).h0 (get_clD _ _ 0 (by simp))) <| dw_q rfl rfl (fun _ _hx => ev_move (v := (i64 0)) rfl) <| dw_q rfl rfl (fun _ _hx => ev_ia_arr (r := 0) (i := 0) oM uT105 ti55 s14 rfl oM oM) <| dw_q (v := (u32 (q222.getD 0 0))) rfl rfl (fun _ _hx => ev_load1 uT55 rfl rfl (hm227.ext _hx).h0 (get_clD _ _ 0 sD)) ?_
     refine dw_nil (fun w229 _ew229 => ?_)
     have hm229 := hm227.ext _ew229
     refine rw_q rfl (ev_indexAddr_rdv (i := 2) (g218.rd (Mem.pick [_] Hs218 _ hm229)) uT101 ti55 rfl rfl oM (by simp)) <| rw_n (or_store_grow (Hs := Hs218) (H := [(b14_6, .cells (cl u32 q222) 105 (0, 0)), (b9q77, .cells #[(slc b1q77 0 4 4), (slc b2q77 0 4 4), (slc b3q77 0 4 4), (slc b4q77 0 4 4), (slc b5q77 0 4 4), (slc b6q77 0 4 4), (slc b7q77 0 4 4), (slc b8q77 0 4 4)] 107 (0, 0)), (b8q77, .cells (cl i64 ([3, 4, 9, 14])) 3 (0, 0)), (b7q77, .cells (cl i64 ([2, 7, 8, 13])) 3 (0, 0)), (b6q77, .cells (cl i64 ([1, 6, 11, 12])) 3 (0, 0)), (b5q77, .cells (cl i64 ([0, 5, 10, 15])) 3 (0, 0)), (b4q77, .cells (cl i64 ([3, 7, 11, 15])) 3 (0, 0)), (b3q77, .cells (cl i64 ([2, 6, 10, 14])) 3 (0, 0)), (b2q77, .cells (cl i64 ([1, 5, 9, 13])) 3 (0, 0)), (b1q77, .cells (cl i64 ([0, 4, 8, 12])) 3 (0, 0))] ++ (Hs71 ++ ([(b5, .cells (cl u8 nonce) 25 (0, 0)), (b3, .cells (cl u8 key) 23 (0, 0))]))) (i := 2) (a := q222.getD 0 0) (Mem.pick [_] Hs218 _ hm229) g218 u32_one ti55 oM (by simp) rfl rfl) ?_
     rintro _ w230 ⟨Hs230, hm230, g230⟩
     replace g230 : Grow u32 55 sv ([q180.getD 0 0, q201.getD 0 0, q222.getD 0 0, q159.getD 0 0, q97.getD 1 0, q180.getD 1 0, q201.getD 1 0, q159.getD 1 0, q97.getD 2 0, q117.getD 2 0, q180.getD 2 0, q201.getD 2 0, q201.getD 3 0, q117.getD 3 0, q138.getD 3 0, q180.getD 3 0]) Hs230 := g230
     refine rw_nil (kBlk_normal ?_)
     refine CW.abs (fun g => g 0 = (agg u8 key) ∧ g 1 = (u32 counter) ∧ g 2 = (agg u8 nonce) ∧ g 3 = (ptr b3 0) ∧ g 5 = (ptr b5 0) ∧ g 6 = (Value.slice none 0 0) ∧ g 7 = sv71 ∧ g 8 = (i64 32) ∧ g 9 = (i64 12) ∧ g 10 = sv ∧ g 11 = (slc b9q77 0 8 8) ∧ g 12 = (i64 (k : Int)) ∧ g 13 = (i64 6) ∧ g 14 = (ptr b14_6 0) ∧ g 15 = (i64 0) ∧ g 21 = (bl false) ∧ g 37 = (bl false) ∧ g 53 = (bl (decide ((k : Int) < 10))) ∧ g 57 = (bl true) ∧ g 99 = (bl true) ∧ True) ⟨s0, s1, s2, s3, s5, s6, s7, s8, s9, s10, s11, s12, s13, s14, rfl, s21, s37, s53, s57, rfl, trivial⟩ ?_
     rintro fr231 ⟨s0, s1, s2, s3, s5, s6, s7, s8, s9, s10, s11, s12, s13, s14, s15, s21, s37, s53, s57, s99, _⟩
     refine cw_region <| rM rfl s15 <| rw_q (v := (i64 1)) rfl (ev_i64_add (a := 0) (b := 1) rfl rfl oM oM) <| rw_q rfl (ev_assign (v := (i64 1)) rfl) ?_
     refine rw_nil (kThen_normal (cr_succ (cw_seq (cw_seq (cw_region ?_)))))
     refine rw_q rfl (ev_move (v := (i64 1)) rfl) <| rw_q rfl (ev_i64_lss (a := 1) (b := 4) rfl rfl) ?_
     refine rw_nil (kThen_normal ?_)
     refine cw_cond_t rfl (by decide) ?_
     refine cw_skip (kThen_normal (cw_seq (cw_block ?_)))
     refine cw_draw [(0, false), (1, false), (2, false), (3, false), (4, false), (5, false), (6, false), (7, false), (8, false), (9, false), (10, false)] 11 (by kernel_rfl) <| dM rfl rfl s10 <| dM rfl rfl s11 <| dM rfl rfl s13 <| dw_q rfl rfl (fun _ _hx => ev_ia_slc (r := 6) (i := 6) oM uT103 ti107 rfl rfl oM oM) <| dw_q (v := (slc b7q77 0 4 4)) rfl rfl (fun _ _hx => ev_load1 uT107 rfl rfl ((Mem.pick2 Hs230 [_] [_] _ (hm230.ext _hx))).h0 rfl) ?_
     refine dw_q rfl rfl (fun _ _hx => ev_move (v := (i64 1)) rfl) <| dw_q rfl rfl (fun _ _hx => ev_ia_slc (r := 1) (i := 1) oM uT107 ti3 rfl rfl oM oM) <| dw_q (v := (i64 7)) rfl rfl (fun _ _hx => ev_load1 uT3 rfl rfl ((Mem.pick2 Hs230 [_, _, _] [_] _ (hm230.ext _hx))).h0 (get_clD _ _ 0 (by simp))) <| dw_q rfl rfl (fun _ _hx => ev_move (v := (i64 1)) rfl) <| dw_q rfl rfl (fun _ _hx => ev_ia_arr (r := 1) (i := 1) oM uT105 ti55 s14 rfl oM oM) <| dw_q (v := (u32 (q222.getD 1 0))) rfl rfl (fun _ _hx => ev_load1 uT55 rfl rfl ((Mem.pick Hs230 [_] _ (hm230.ext _hx))).h0 (get_clD _ _ 0 sD)) ?_
     refine dw_nil (fun w232 _ew232 => ?_)
     have hm232 := hm230.ext _ew232
     refine rw_q rfl (ev_indexAddr_rdv (i := 7) (g230.rd hm232) uT101 ti55 rfl rfl oM (by simp)) <| rw_n (or_store_grow (Hs := Hs230) (H := [(b14_6, .cells (cl u32 q222) 105 (0, 0)), (b9q77, .cells #[(slc b1q77 0 4 4), (slc b2q77 0 4 4), (slc b3q77 0 4 4), (slc b4q77 0 4 4), (slc b5q77 0 4 4), (slc b6q77 0 4 4), (slc b7q77 0 4 4), (slc b8q77 0 4 4)] 107 (0, 0)), (b8q77, .cells (cl i64 ([3, 4, 9, 14])) 3 (0, 0)), (b7q77, .cells (cl i64 ([2, 7, 8, 13])) 3 (0, 0)), (b6q77, .cells (cl i64 ([1, 6, 11, 12])) 3 (0, 0)), (b5q77, .cells (cl i64 ([0, 5, 10, 15])) 3 (0, 0)), (b4q77, .cells (cl i64 ([3, 7, 11, 15])) 3 (0, 0)), (b3q77, .cells (cl i64 ([2, 6, 10, 14])) 3 (0, 0)), (b2q77, .cells (cl i64 ([1, 5, 9, 13])) 3 (0, 0)), (b1q77, .cells (cl i64 ([0, 4, 8, 12])) 3 (0, 0))] ++ (Hs71 ++ ([(b5, .cells (cl u8 nonce) 25 (0, 0)), (b3, .cells (cl u8 key) 23 (0, 0))]))) (i := 7) (a := q222.getD 1 0) hm232 g230 u32_one ti55 oM (by simp) rfl rfl) ?_
     rintro _ w233 ⟨Hs233, hm233, g233⟩
     replace g233 : Grow u32 55 sv ([q180.getD 0 0, q201.getD 0 0, q222.getD 0 0, q159.getD 0 0, q97.getD 1 0, q180.getD 1 0, q201.getD 1 0, q222.getD 1 0, q97.getD 2 0, q117.getD 2 0, q180.getD 2 0, q201.getD 2 0, q201.getD 3 0, q117.getD 3 0, q138.getD 3 0, q180.getD 3 0]) Hs233 := g233
     refine rw_nil (kBlk_normal ?_)
     refine CW.abs (fun g => g 0 = (agg u8 key) ∧ g 1 = (u32 counter) ∧ g 2 = (agg u8 nonce) ∧ g 3 = (ptr b3 0) ∧ g 5 = (ptr b5 0) ∧ g 6 = (Value.slice none 0 0) ∧ g 7 = sv71 ∧ g 8 = (i64 32) ∧ g 9 = (i64 12) ∧ g 10 = sv ∧ g 11 = (slc b9q77 0 8 8) ∧ g 12 = (i64 (k : Int)) ∧ g 13 = (i64 6) ∧ g 14 = (ptr b14_6 0) ∧ g 15 = (i64 1) ∧ g 21 = (bl false) ∧ g 37 = (bl false) ∧ g 53 = (bl (decide ((k : Int) < 10))) ∧ g 57 = (bl true) ∧ g 99 = (bl true) ∧ True) ⟨s0, s1, s2, s3, s5, s6, s7, s8, s9, s10, s11, s12, s13, s14, rfl, s21, s37, s53, s57, rfl, trivial⟩ ?_
     rintro fr234 ⟨s0, s1, s2, s3, s5, s6, s7, s8, s9, s10, s11, s12, s13, s14, s15, s21, s37, s53, s57, s99, _⟩
     refine cw_region <| rM rfl s15 <| rw_q (v := (i64 2)) rfl (ev_i64_add (a := 1) (b := 1) rfl rfl oM oM) <| rw_q rfl (ev_assign (v := (i64 2)) rfl) ?_
     refine rw_nil (kThen_normal (cr_succ (cw_seq (cw_seq (cw_region ?_)))))
     refine rw_q rfl (ev_move (v := (i64 2)) rfl) <| rw_q rfl (ev_i64_lss (a := 2) (b := 4) rfl rfl) ?_
     refine rw_nil (kThen_normal ?_)
     refine cw_cond_t rfl (by decide) ?_
     refine cw_skip (kThen_normal (cw_seq (cw_block ?_)))
     refine cw_draw [(0, false), (1, false), (2, false), (3, false), (4, false), (5, false), (6, false), (7, false), (8, false), (9, false), (10, false)] 11 (by kernel_rfl) <| dM rfl rfl s10 <| dM rfl rfl s11 <| dM rfl rfl s13 <| dw_q rfl rfl (fun _ _hx => ev_ia_slc (r := 6) (i := 6) oM uT103 ti107 rfl rfl oM oM) <| dw_q (v := (slc b7q77 0 4 4)) rfl rfl (fun _ _hx => ev_load1 uT107 rfl rfl ((Mem.pick2 Hs233 [_] [_] _ (hm233.ext _hx))).h0 rfl) ?_
     refine dw_q rfl rfl (fun _ _hx => ev_move (v := (i64 2)) rfl) <| dw_q rfl rfl (fun _ _hx => ev_ia_slc (r := 2) (i := 2) oM uT107 ti3 rfl rfl oM oM) <| dw_q (v := (i64 8)) rfl rfl (fun _ _hx => ev_load1 uT3 rfl rfl ((Mem.pick2 Hs233 [_, _, _] [_] _ (hm233.ext _hx))).h0 (get_clD _ _ 0 (by simp))) <| dw_q rfl rfl (fun _ _hx => ev_move (v := (i64 2)) rfl) <| dw_q rfl rfl (fun _ _hx => ev_ia_arr (r := 2) (i := 2) oM uT105 ti55 s14 rfl oM oM) <| dw_q (v := (u32 (q222.getD 2 0))) rfl rfl (fun _ _hx => ev_load1 uT55 rfl rfl ((Mem.pick Hs233 [_] _ (hm233.ext _hx))).h0 (get_clD _ _ 0 sD)) ?_
     refine dw_nil (fun w235 _ew235 => ?_)
     have hm235 := hm233.ext _ew235
     refine rw_q rfl (ev_indexAddr_rdv (i := 8) (g233.rd hm235) uT101 ti55 rfl rfl oM (by simp)) <| rw_n (or_store_grow (Hs := Hs233) (H := [(b14_6, .cells (cl u32 q222) 105 (0, 0)), (b9q77, .cells #[(slc b1q77 0 4 4), (slc b2q77 0 4 4), (slc b3q77 0 4 4), (slc b4q77 0 4 4), (slc b5q77 0 4 4), (slc b6q77 0 4 4), (slc b7q77 0 4 4), (slc b8q77 0 4 4)] 107 (0, 0)), (b8q77, .cells (cl i64 ([3, 4, 9, 14])) 3 (0, 0)), (b7q77, .cells (cl i64 ([2, 7, 8, 13])) 3 (0, 0)), (b6q77, .cells (cl i64 ([1, 6, 11, 12])) 3 (0, 0)), (b5q77, .cells (cl i64 ([0, 5, 10, 15])) 3 (0, 0)), (b4q77, .cells (cl i64 ([3, 7, 11, 15])) 3 (0, 0)), (b3q77, .cells (cl i64 ([2, 6, 10, 14])) 3 (0, 0)), (b2q77, .cells (cl i64 ([1, 5, 9, 13])) 3 (0, 0)), (b1q77, .cells (cl i64 ([0, 4, 8, 12])) 3 (0, 0))] ++ (Hs71 ++ ([(b5, .cells (cl u8 nonce) 25 (0, 0)), (b3, .cells (cl u8 key) 23 (0, 0))]))) (i := 8) (a := q222.getD 2 0) hm235 g233 u32_one ti55 oM (by simp) rfl rfl) ?_
     rintro _ w236 ⟨Hs236, hm236, g236⟩
     replace g236 : Grow u32 55 sv ([q180.getD 0 0, q201.getD 0 0, q222.getD 0 0, q159.getD 0 0, q97.getD 1 0, q180.getD 1 0, q201.getD 1 0, q222.getD 1 0, q222.getD 2 0, q117.getD 2 0, q180.getD 2 0, q201.getD 2 0, q201.getD 3 0, q117.getD 3 0, q138.getD 3 0, q180.getD 3 0]) Hs236 := g236
     refine rw_nil (kBlk_normal ?_)
     refine CW.abs (fun g => g 0 = (agg u8 key) ∧ g 1 = (u32 counter) ∧ g 2 = (agg u8 nonce) ∧ g 3 = (ptr b3 0) ∧ g 5 = (ptr b5 0) ∧ g 6 = (Value.slice none 0 0) ∧ g 7 = sv71 ∧ g 8 = (i64 32) ∧ g 9 = (i64 12) ∧ g 10 = sv ∧ g 11 = (slc b9q77 0 8 8) ∧ g 12 = (i64 (k : Int)) ∧ g 13 = (i64 6) ∧ g 14 = (ptr b14_6 0) ∧ g 15 = (i64 2) ∧ g 21 = (bl false) ∧ g 37 = (bl false) ∧ g 53 = (bl (decide ((k : Int) < 10))) ∧ g 57 = (bl true) ∧ g 99 = (bl true) ∧ True) ⟨s0, s1, s2, s3, s5, s6, s7, s8, s9, s10, s11, s12, s13, s14, rfl, s21, s37, s53, s57, rfl, trivial⟩ ?_
     rintro fr237 ⟨s0, s1, s2, s3, s5, s6, s7, s8, s9, s10, s11, s12, s13, s14, s15, s21, s37, s53, s57, s99, _⟩
     refine cw_region <| rM rfl s15 <| rw_q (v := (i64 3)) rfl (ev_i64_add (a := 2) (b := 1) rfl rfl oM oM) <| rw_q rfl (ev_assign (v := (i64 3)) rfl) ?_
     refine rw_nil (kThen_normal (cr_succ (cw_seq (cw_seq (cw_region ?_)))))
     refine rw_q rfl (ev_move (v := (i64 3)) rfl) <| rw_q rfl (ev_i64_lss (a := 3) (b := 4) rfl rfl) ?_
     refine rw_nil (kThen_normal ?_)
     refine cw_cond_t rfl (by decide) ?_
     refine cw_skip (kThen_normal (cw_seq (cw_block ?_)))
     refine cw_draw [(0, false), (1, false), (2, false), (3, false), (4, false), (5, false), (6, false), (7, false), (8, false), (9, false), (10, false)] 11 (by kernel_rfl) <| dM rfl rfl s10 <| dM rfl rfl s11 <| dM rfl rfl s13 <| dw_q rfl rfl (fun _ _hx => ev_ia_slc (r := 6) (i := 6) oM uT103 ti107 rfl rfl oM oM) <| dw_q (v := (slc b7q77 0 4 4)) rfl rfl (fun _ _hx => ev_load1 uT107 rfl rfl ((Mem.pick2 Hs236 [_] [_] _ (hm236.ext _hx))).h0 rfl) ?_
     refine dw_q rfl rfl (fun _ _hx => ev_move (v := (i64 3)) rfl) <| dw_q rfl rfl (fun _ _hx => ev_ia_slc (r := 3) (i := 3) oM uT107 ti3 rfl rfl oM oM) <| dw_q (v := (i64 13)) rfl rfl (fun _ _hx => ev_load1 uT3 rfl rfl ((Mem.pick2 Hs236 [_, _, _] [_] _ (hm236.ext _hx))).h0 (get_clD _ _ 0 (by simp))) <| dw_q rfl rfl (fun _ _hx => ev_move (v := (i64 3)) rfl) <| dw_q rfl rfl (fun _ _hx => ev_ia_arr (r := 3) (i := 3) oM uT105 ti55 s14 rfl oM oM) <| dw_q (v := (u32 (q222.getD 3 0))) rfl rfl (fun _ _hx => ev_load1 uT55 rfl rfl ((Mem.pick Hs236 [_] _ (hm236.ext _hx))).h0 (get_clD _ _ 0 sD)) ?_
     refine dw_nil (fun w238 _ew238 => ?_)
     have hm238 := hm236.ext _ew238
     refine rw_q rfl (ev_indexAddr_rdv (i := 13) (g236.rd hm238) uT101 ti55 rfl rfl oM (by simp)) <| rw_n (or_store_grow (Hs := Hs236) (H := [(b14_6, .cells (cl u32 q222) 105 (0, 0)), (b9q77, .cells #[(slc b1q77 0 4 4), (slc b2q77 0 4 4), (slc b3q77 0 4 4), (slc b4q77 0 4 4), (slc b5q77 0 4 4), (slc b6q77 0 4 4), (slc b7q77 0 4 4), (slc b8q77 0 4 4)] 107 (0, 0)), (b8q77, .cells (cl i64 ([3, 4, 9, 14])) 3 (0, 0)), (b7q77, .cells (cl i64 ([2, 7, 8, 13])) 3 (0, 0)), (b6q77, .cells (cl i64 ([1, 6, 11, 12])) 3 (0, 0)), (b5q77, .cells (cl i64 ([0, 5, 10, 15])) 3 (0, 0)), (b4q77, .cells (cl i64 ([3, 7, 11, 15])) 3 (0, 0)), (b3q77, .cells (cl i64 ([2, 6, 10, 14])) 3 (0, 0)), (b2q77, .cells (cl i64 ([1, 5, 9, 13])) 3 (0, 0)), (b1q77, .cells (cl i64 ([0, 4, 8, 12])) 3 (0, 0))] ++ (Hs71 ++ ([(b5, .cells (cl u8 nonce) 25 (0, 0)), (b3, .cells (cl u8 key) 23 (0, 0))]))) (i := 13) (a := q222.getD 3 0) hm238 g236 u32_one ti55 oM (by simp) rfl rfl) ?_
     rintro _ w239 ⟨Hs239, hm239, g239⟩
     replace g239 : Grow u32 55 sv ([q180.getD 0 0, q201.getD 0 0, q222.getD 0 0, q159.getD 0 0, q97.getD 1 0, q180.getD 1 0, q201.getD 1 0, q222.getD 1 0, q222.getD 2 0, q117.getD 2 0, q180.getD 2 0, q201.getD 2 0, q201.getD 3 0, q222.getD 3 0, q138.getD 3 0, q180.getD 3 0]) Hs239 := g239
     refine rw_nil (kBlk_normal ?_)
     refine CW.abs (fun g => g 0 = (agg u8 key) ∧ g 1 = (u32 counter) ∧ g 2 = (agg u8 nonce) ∧ g 3 = (ptr b3 0) ∧ g 5 = (ptr b5 0) ∧ g 6 = (Value.slice none 0 0) ∧ g 7 = sv71 ∧ g 8 = (i64 32) ∧ g 9 = (i64 12) ∧ g 10 = sv ∧ g 11 = (slc b9q77 0 8 8) ∧ g 12 = (i64 (k : Int)) ∧ g 13 = (i64 6) ∧ g 14 = (ptr b14_6 0) ∧ g 15 = (i64 3) ∧ g 21 = (bl false) ∧ g 37 = (bl false) ∧ g 53 = (bl (decide ((k : Int) < 10))) ∧ g 57 = (bl true) ∧ g 99 = (bl true) ∧ True) ⟨s0, s1, s2, s3, s5, s6, s7, s8, s9, s10, s11, s12, s13, s14, rfl, s21, s37, s53, s57, rfl, trivial⟩ ?_
     rintro fr240 ⟨s0, s1, s2, s3, s5, s6, s7, s8, s9, s10, s11, s12, s13, s14, s15, s21, s37, s53, s57, s99, _⟩
     refine cw_region <| rM rfl s15 <| rw_q (v := (i64 4)) rfl (ev_i64_add (a := 3) (b := 1) rfl rfl oM oM) <| rw_q rfl (ev_assign (v := (i64 4)) rfl) ?_
     refine rw_nil (kThen_normal (cr_succ (cw_seq (cw_seq (cw_region ?_)))))
     refine rw_q rfl (ev_move (v := (i64 4)) rfl) <| rw_q rfl (ev_i64_lss (a := 4) (b := 4) rfl rfl) ?_
     refine rw_nil (kThen_normal ?_)
     refine cw_cond_f rfl (by decide) <| cw_exit ?_
     refine kThen_exit (kThen_exit (kBlk_hit ?_))
     refine kBlk_normal (cw_region ?_)
     refine rM rfl s13 <| rw_q (v := (i64 7)) rfl (ev_i64_add (a := 6) (b := 1) rfl rfl oM oM) <| rw_q rfl (ev_assign (v := (i64 7)) rfl) ?_
     refine rw_nil (kThen_normal (cr_succ (cw_seq (cw_seq (cw_region ?_)))))
     refine rw_q rfl (ev_move (v := (i64 7)) rfl) <| rw_q rfl (ev_i64_lss (a := 7) (b := 8) rfl rfl) ?_
     refine rw_nil (kThen_normal ?_)
     refine cw_cond_t rfl (by decide) ?_
     refine cw_skip (kThen_normal (cw_seq (cw_block (cw_seq ?_))))
     refine cw_draw [(0, false), (1, false), (2, false), (3, false), (4, false), (5, false), (6, false), (7, false), (8, false), (9, false), (10, false), (11, false), (12, false), (13, false), (14, false), (15, false), (16, false), (17, false), (18, false), (19, false), (20, false), (21, false), (22, false), (23, false), (24, false), (25, false), (26, false), (27, false), (28, false), (29, false), (30, false), (31, false), (32, false), (33, false), (34, false), (35, false), (36, false), (37, false), (38, true)] 39 (by kernel_rfl) <| dM rfl rfl s10 <| dM rfl rfl s11 <| dw_q rfl rfl (fun _ _hx => ev_move (v := (i64 7)) rfl) <| dw_q rfl rfl (fun _ _hx => ev_ia_slc (r := 7) (i := 7) oM uT103 ti107 rfl rfl oM oM) <| dw_q (v := (slc b8q77 0 4 4)) rfl rfl (fun _ _hx => ev_load1 uT107 rfl rfl ((Mem.pick2 Hs239 [_] [_] _ (hm239.ext _hx))).h0 rfl) ?_
     refine dw_q rfl rfl (fun _ _hx => ev_ia_slc (r := 0) (i := 0) oM uT107 ti3 rfl rfl oM oM) <| dw_q (v := (i64 3)) rfl rfl (fun _ _hx => ev_load1 uT3 rfl rfl ((Mem.pick2 Hs239 [_, _] [_] _ (hm239.ext _hx))).h0 (get_clD _ _ 0 (by simp))) <| dw_q rfl rfl (fun _ _hx => ev_indexAddr_rdv (i := 3) (g239.rd (hm239.ext _hx)) uT101 ti55 rfl rfl oM (by simp)) <| dw_q (v := (u32 (q159.getD 0 0))) rfl rfl (fun _ _hx => ev_load_rdD (l := [q180.getD 0 0, q201.getD 0 0, q222.getD 0 0, q159.getD 0 0, q97.getD 1 0, q180.getD 1 0, q201.getD 1 0, q222.getD 1 0, q222.getD 2 0, q117.getD 2 0, q180.getD 2 0, q201.getD 2 0, q201.getD 3 0, q222.getD 3 0, q138.getD 3 0, q180.getD 3 0]) (i := 3) (dflt := 0) (g239.rd (hm239.ext _hx)) uT55 rfl oM (by simp) rfl) <| dM rfl rfl s10 <| dM rfl rfl s11 ?_
     refine dw_q rfl rfl (fun _ _hx => ev_move (v := (i64 7)) rfl) <| dw_q rfl rfl (fun _ _hx => ev_ia_slc (r := 7) (i := 7) oM uT103 ti107 rfl rfl oM oM) <| dw_q (v := (slc b8q77 0 4 4)) rfl rfl (fun _ _hx => ev_load1 uT107 rfl rfl ((Mem.pick2 Hs239 [_] [_] _ (hm239.ext _hx))).h0 rfl) <| dw_q rfl rfl (fun _ _hx => ev_ia_slc (r := 1) (i := 1) oM uT107 ti3 rfl rfl oM oM) <| dw_q (v := (i64 4)) rfl rfl (fun _ _hx => ev_load1 uT3 rfl rfl ((Mem.pick2 Hs239 [_, _] [_] _ (hm239.ext _hx))).h0 (get_clD _ _ 0 (by simp))) <| dw_q rfl rfl (fun _ _hx => ev_indexAddr_rdv (i := 4) (g239.rd (hm239.ext _hx)) uT101 ti55 rfl rfl oM (by simp)) ?_
     refine dw_q (v := (u32 (q97.getD 1 0))) rfl rfl (fun _ _hx => ev_load_rdD (l := [q180.getD 0 0, q201.getD 0 0, q222.getD 0 0, q159.getD 0 0, q97.getD 1 0, q180.getD 1 0, q201.getD 1 0, q222.getD 1 0, q222.getD 2 0, q117.getD 2 0, q180.getD 2 0, q201.getD 2 0, q201.getD 3 0, q222.getD 3 0, q138.getD 3 0, q180.getD 3 0]) (i := 4) (dflt := 0) (g239.rd (hm239.ext _hx)) uT55 rfl oM (by simp) rfl) <| dM rfl rfl s10 <| dM rfl rfl s11 <| dw_q rfl rfl (fun _ _hx => ev_move (v := (i64 7)) rfl) <| dw_q rfl rfl (fun _ _hx => ev_ia_slc (r := 7) (i := 7) oM uT103 ti107 rfl rfl oM oM) <| dw_q (v := (slc b8q77 0 4 4)) rfl rfl (fun _ _hx => ev_load1 uT107 rfl rfl ((Mem.pick2 Hs239 [_] [_] _ (hm239.ext _hx))).h0 rfl) ?_
     refine dw_q rfl rfl (fun _ _hx => ev_ia_slc (r := 2) (i := 2) oM uT107 ti3 rfl rfl oM oM) <| dw_q (v := (i64 9)) rfl rfl (fun _ _hx => ev_load1 uT3 rfl rfl ((Mem.pick2 Hs239 [_, _] [_] _ (hm239.ext _hx))).h0 (get_clD _ _ 0 (by simp))) <| dw_q rfl rfl (fun _ _hx => ev_indexAddr_rdv (i := 9) (g239.rd (hm239.ext _hx)) uT101 ti55 rfl rfl oM (by simp)) <| dw_q (v := (u32 (q117.getD 2 0))) rfl rfl (fun _ _hx => ev_load_rdD (l := [q180.getD 0 0, q201.getD 0 0, q222.getD 0 0, q159.getD 0 0, q97.getD 1 0, q180.getD 1 0, q201.getD 1 0, q222.getD 1 0, q222.getD 2 0, q117.getD 2 0, q180.getD 2 0, q201.getD 2 0, q201.getD 3 0, q222.getD 3 0, q138.getD 3 0, q180.getD 3 0]) (i := 9) (dflt := 0) (g239.rd (hm239.ext _hx)) uT55 rfl oM (by simp) rfl) <| dM rfl rfl s10 <| dM rfl rfl s11 ?_
     refine dw_q rfl rfl (fun _ _hx => ev_move (v := (i64 7)) rfl) <| dw_q rfl rfl (fun _ _hx => ev_ia_slc (r := 7) (i := 7) oM uT103 ti107 rfl rfl oM oM) <| dw_q (v := (slc b8q77 0 4 4)) rfl rfl (fun _ _hx => ev_load1 uT107 rfl rfl ((Mem.pick2 Hs239 [_] [_] _ (hm239.ext _hx))).h0 rfl) <| dw_q rfl rfl (fun _ _hx => ev_ia_slc (r := 3) (i := 3) oM uT107 ti3 rfl rfl oM oM) <| dw_q (v := (i64 14)) rfl rfl (fun _ _hx => ev_load1 uT3 rfl rfl ((Mem.pick2 Hs239 [_, _] [_] _ (hm239.ext _hx))).h0 (get_clD _ _ 0 (by simp))) <| dw_q rfl rfl (fun _ _hx => ev_indexAddr_rdv (i := 14) (g239.rd (hm239.ext _hx)) uT101 ti55 rfl rfl oM (by simp)) ?_
     refine dw_q (v := (u32 (q138.getD 3 0))) rfl rfl (fun _ _hx => ev_load_rdD (l := [q180.getD 0 0, q201.getD 0 0, q222.getD 0 0, q159.getD 0 0, q97.getD 1 0, q180.getD 1 0, q201.getD 1 0, q222.getD 1 0, q222.getD 2 0, q117.getD 2 0, q180.getD 2 0, q201.getD 2 0, q201.getD 3 0, q222.getD 3 0, q138.getD 3 0, q180.getD 3 0]) (i := 14) (dflt := 0) (g239.rd (hm239.ext _hx)) uT55 rfl oM (by simp) rfl) <| dw_q rfl rfl (fun _ _hx => ev_build_cl u32 [(q159.getD 0 0), (q97.getD 1 0), (q117.getD 2 0), (q138.getD 3 0)] u32_one ti105 uT105 ti55 rfl rfl) ?_
     obtain ⟨q243, hq243⟩ : ∃ q, q = quarterL left3 (q159.getD 0 0) (q97.getD 1 0) (q117.getD 2 0) (q138.getD 3 0) := ⟨_, rfl⟩
     have hq243l : q243.length = 4 := by rw [hq243]; rfl
     refine dw_x (v := (agg u32 q243)) rfl rfl (fun w241 _ew241 => OpR.mono (opR_call Tryd.func68 bd68 nm68 (args1 rfl) (c_quarter3 (q159.getD 0 0) (q97.getD 1 0) (q117.getD 2 0) (q138.getD 3 0) _)) (by rintro _ w242 ⟨rfl, _ew242⟩; exact ⟨by rw [hq243], _ew242⟩)) ?_
     refine dw_c rfl rfl (fun w244 _ew244 => ?_)
     have hm244 := hm239.ext _ew244
     refine OpR.mono (or_alloc_agg hm244 ti105) ?_
     rintro _ w245 ⟨b14_7, rfl, _ew245, hm245⟩
     refine ⟨_ew245, ?_⟩
     refine dw_nil (fun w246 _ew246 => ?_)
     have hm246 := hm245.ext _ew246
     refine rw_n (or_store_agg (f := u32) (l := q243) u32_one ti105 rfl rfl sD hm246.h0 sZ rfl) ?_
     rintro _ w247 uq247
     have hm247 := hm246.upd0 uq247
     refine rw_nil (kThen_normal ?_)
     have hm248 := Mem.drop ([(b14_6, .cells (cl u32 q222) 105 (0, 0))]) _ (Mem.pick2 [_] Hs239 [_] _ hm247)
     refine CW.abs (fun g => g 0 = (agg u8 key) ∧ g 1 = (u32 counter) ∧ g 2 = (agg u8 nonce) ∧ g 3 = (ptr b3 0) ∧ g 5 = (ptr b5 0) ∧ g 6 = (Value.slice none 0 0) ∧ g 7 = sv71 ∧ g 8 = (i64 32) ∧ g 9 = (i64 12) ∧ g 10 = sv ∧ g 11 = (slc b9q77 0 8 8) ∧ g 12 = (i64 (k : Int)) ∧ g 13 = (i64 7) ∧ g 14 = (ptr b14_7 0) ∧ g 15 = (i64 4) ∧ g 21 = (bl false) ∧ g 37 = (bl false) ∧ g 53 = (bl (decide ((k : Int) < 10))) ∧ g 57 = (bl true) ∧ g 99 = (bl false) ∧ True) ⟨s0, s1, s2, s3, s5, s6, s7, s8, s9, s10, s11, s12, rfl, rfl, rfl, s21, s37, s53, rfl, rfl, trivial⟩ ?_
     rintro fr249 ⟨s0, s1, s2, s3, s5, s6, s7, s8, s9, s10, s11, s12, s13, s14, s15, s21, s37, s53, s57, s99, _⟩
     refine cw_seq (cw_region ?_)
     refine rw_q rfl (ev_assign (v := (i64 0)) rfl) ?_
     refine rw_nil (kThen_normal (cw_block' ?_))
     refine cw_rounds 5 ?_
     refine cr_succ (cw_seq (cw_seq (cw_region ?_)))
     refine rw_q rfl (ev_move (v := (i64 0)) rfl) <| rw_q rfl (ev_i64_lss (a := 0) (b := 4) rfl rfl) ?_
     refine rw_nil (kThen_normal ?_)
     refine cw_cond_t rfl (by decide) ?_
     refine cw_skip (kThen_normal (cw_seq (cw_block ?_)))
     refine cw_draw [(0, false), (1, false), (2, false), (3, false), (4, false), (5, false), (6, false), (7, false), (8, false), (9, false), (10, false)] 11 (by kernel_rfl) <| dM rfl rfl s10 <| dM rfl rfl s11 <| dM rfl rfl s13 <| dw_q rfl rfl (fun _ _hx => ev_ia_slc (r := 7) (i := 7) oM uT103 ti107 rfl rfl oM oM) <| dw_q (v := (slc b8q77 0 4 4)) rfl rfl (fun _ _hx => ev_load1 uT107 rfl rfl ((Mem.pick2 [_] Hs239 [_] _ (hm248.ext _hx))).h0 rfl) ?_
     refine dw_q rfl rfl (fun _ _hx => ev_move (v := (i64 0)) rfl) <| dw_q rfl rfl (fun _ _hx => ev_ia_slc (r := 0) (i := 0) oM uT107 ti3 rfl rfl oM oM) <| dw_q (v := (i64 3)) rfl rfl (fun _ _hx => ev_load1 uT3 rfl rfl ((Mem.pick3 [_] Hs239 [_] [_] _ (hm248.ext _hx))).h0 (get_clD _ _ 0 (by simp))) <| dw_q rfl rfl (fun _ _hx => ev_move (v := (i64 0)) rfl) <| dw_q rfl rfl (fun _ _hx => ev_ia_arr (r := 0) (i := 0) oM uT105 ti55 s14 rfl oM oM) <| dw_q (v := (u32 (q243.getD 0 0))) rfl rfl (fun _ _hx => ev_load1 uT55 rfl rfl (hm248.ext _hx).h0 (get_clD _ _ 0 sD)) ?_
     refine dw_nil (fun w250 _ew250 => ?_)
     have hm250 := hm248.ext _ew250
     refine rw_q rfl (ev_indexAddr_rdv (i := 3) (g239.rd (Mem.pick [_] Hs239 _ hm250)) uT101 ti55 rfl rfl oM (by simp)) <| rw_n (or_store_grow (Hs := Hs239) (H := [(b14_7, .cells (cl u32 q243) 105 (0, 0)), (b9q77, .cells #[(slc b1q77 0 4 4), (slc b2q77 0 4 4), (slc b3q77 0 4 4), (slc b4q77 0 4 4), (slc b5q77 0 4 4), (slc b6q77 0 4 4), (slc b7q77 0 4 4), (slc b8q77 0 4 4)] 107 (0, 0)), (b8q77, .cells (cl i64 ([3, 4, 9, 14])) 3 (0, 0)), (b7q77, .cells (cl i64 ([2, 7, 8, 13])) 3 (0, 0)), (b6q77, .cells (cl i64 ([1, 6, 11, 12])) 3 (0, 0)), (b5q77, .cells (cl i64 ([0, 5, 10, 15])) 3 (0, 0)), (b4q77, .cells (cl i64 ([3, 7, 11, 15])) 3 (0, 0)), (b3q77, .cells (cl i64 ([2, 6, 10, 14])) 3 (0, 0)), (b2q77, .cells (cl i64 ([1, 5, 9, 13])) 3 (0, 0)), (b1q77, .cells (cl i64 ([0, 4, 8, 12])) 3 (0, 0))] ++ (Hs71 ++ ([(b5, .cells (cl u8 nonce) 25 (0, 0)), (b3, .cells (cl u8 key) 23 (0, 0))]))) (i := 3) (a := q243.getD 0 0) (Mem.pick [_] Hs239 _ hm250) g239 u32_one ti55 oM (by simp) rfl rfl) ?_
     rintro _ w251 ⟨Hs251, hm251, g251⟩
     replace g251 : Grow u32 55 sv ([q180.getD 0 0, q201.getD 0 0, q222.getD 0 0, q243.getD 0 0, q97.getD 1 0, q180.getD 1 0, q201.getD 1 0, q222.getD 1 0, q222.getD 2 0, q117.getD 2 0, q180.getD 2 0, q201.getD 2 0, q201.getD 3 0, q222.getD 3 0, q138.getD 3 0, q180.getD 3 0]) Hs251 := g251
     refine rw_nil (kBlk_normal ?_)
     refine CW.abs (fun g => g 0 = (agg u8 key) ∧ g 1 = (u32 counter) ∧ g 2 = (agg u8 nonce) ∧ g 3 = (ptr b3 0) ∧ g 5 = (ptr b5 0) ∧ g 6 = (Value.slice none 0 0) ∧ g 7 = sv71 ∧ g 8 = (i64 32) ∧ g 9 = (i64 12) ∧ g 10 = sv ∧ g 11 = (slc b9q77 0 8 8) ∧ g 12 = (i64 (k : Int)) ∧ g 13 = (i64 7) ∧ g 14 = (ptr b14_7 0) ∧ g 15 = (i64 0) ∧ g 21 = (bl false) ∧ g 37 = (bl false) ∧ g 53 = (bl (decide ((k : Int) < 10))) ∧ g 57 = (bl true) ∧ g 99 = (bl true) ∧ True) ⟨s0, s1, s2, s3, s5, s6, s7, s8, s9, s10, s11, s12, s13, s14, rfl, s21, s37, s53, s57, rfl, trivial⟩ ?_
     rintro fr252 ⟨s0, s1, s2, s3, s5, s6, s7, s8, s9, s10, s11, s12, s13, s14, s15, s21, s37, s53, s57, s99, _⟩
     refine cw_region <| rM rfl s15 <| rw_q (v := (i64 1)) rfl (ev_i64_add (a := 0) (b := 1) rfl rfl oM oM) <| rw_q rfl (ev_assign (v := (i64 1)) rfl) ?_
     refine rw_nil (kThen_normal (cr_succ (cw_seq (cw_seq (cw_region ?_)))))
     refine rw_q rfl (ev_move (v := (i64 1)) rfl) <| rw_q rfl (ev_i64_lss (a := 1) (b := 4) rfl rfl) ?_
     refine rw_nil (kThen_normal ?_)
     refine cw_cond_t rfl (by decide) ?_
     refine cw_skip (kThen_normal (cw_seq (cw_block ?_)))
     refine cw_draw [(0, false), (1, false), (2, false), (3, false), (4, false), (5, false), (6, false), (7, false), (8, false), (9, false), (10, false)] 11 (by kernel_rfl) <| dM rfl rfl s10 <| dM rfl rfl s11 <| dM rfl rfl s13 <| dw_q rfl rfl (fun _ _hx => ev_ia_slc (r := 7) (i := 7) oM uT103 ti107 rfl rfl oM oM) <| dw_q (v := (slc b8q77 0 4 4)) rfl rfl (fun _ _hx => ev_load1 uT107 rfl rfl ((Mem.pick2 Hs251 [_] [_] _ (hm251.ext _hx))).h0 rfl) ?_
     refine dw_q rfl rfl (fun _ _hx => ev_move (v := (i64 1)) rfl) <| dw_q rfl rfl (fun _ _hx => ev_ia_slc (r := 1) (i := 1) oM uT107 ti3 rfl rfl oM oM) <| dw_q (v := (i64 4)) rfl rfl (fun _ _hx => ev_load1 uT3 rfl rfl ((Mem.pick2 Hs251 [_, _] [_] _ (hm251.ext _hx))).h0 (get_clD _ _ 0 (by simp))) <| dw_q rfl rfl (fun _ _hx => ev_move (v := (i64 1)) rfl) <| dw_q rfl rfl (fun _ _hx => ev_ia_arr (r := 1) (i := 1) oM uT105 ti55 s14 rfl oM oM) <| dw_q (v := (u32 (q243.getD 1 0))) rfl rfl (fun _ _hx => ev_load1 uT55 rfl rfl ((Mem.pick Hs251 [_] _ (hm251.ext _hx))).h0 (get_clD _ _ 0 sD)) ?_
     refine dw_nil (fun w253 _ew253 => ?_)
     have hm253 := hm251.ext _ew253
     refine rw_q rfl (ev_indexAddr_rdv (i := 4) (g251.rd hm253) uT101 ti55 rfl rfl oM (by simp)) <| rw_n (or_store_grow (Hs := Hs251) (H := [(b14_7, .cells (cl u32 q243) 105 (0, 0)), (b9q77, .cells #[(slc b1q77 0 4 4), (slc b2q77 0 4 4), (slc b3q77 0 4 4), (slc b4q77 0 4 4), (slc b5q77 0 4 4), (slc b6q77 0 4 4), (slc b7q77 0 4 4), (slc b8q77 0 4 4)] 107 (0, 0)), (b8q77, .cells (cl i64 ([3, 4, 9, 14])) 3 (0, 0)), (b7q77, .cells (cl i64 ([2, 7, 8, 13])) 3 (0, 0)), (b6q77, .cells (cl i64 ([1, 6, 11, 12])) 3 (0, 0)), (b5q77, .cells (cl i64 ([0, 5, 10, 15])) 3 (0, 0)), (b4q77, .cells (cl i64 ([3, 7, 11, 15])) 3 (0, 0)), (b3q77, .cells (cl i64 ([2, 6, 10, 14])) 3 (0, 0)), (b2q77, .cells (cl i64 ([1, 5, 9, 13])) 3 (0, 0)), (b1q77, .cells (cl i64 ([0, 4, 8, 12])) 3 (0, 0))] ++ (Hs71 ++ ([(b5, .cells (cl u8 nonce) 25 (0, 0)), (b3, .cells (cl u8 key) 23 (0, 0))]))) (i := 4) (a := q243.getD 1 0) hm253 g251 u32_one ti55 oM (by simp) rfl rfl) ?_
     rintro _ w254 ⟨Hs254, hm254, g254⟩
     replace g254 : Grow u32 55 sv ([q180.getD 0 0, q201.getD 0 0, q222.getD 0 0, q243.getD 0 0, q243.getD 1 0, q180.getD 1 0, q201.getD 1 0, q222.getD 1 0, q222.getD 2 0, q117.getD 2 0, q180.getD 2 0, q201.getD 2 0, q201.getD 3 0, q222.getD 3 0, q138.getD 3 0, q180.getD 3 0]) Hs254 := g254
     refine rw_nil (kBlk_normal ?_)
     refine CW.abs (fun g => g 0 = (agg u8 key) ∧ g 1 = (u32 counter) ∧ g 2 = (agg u8 nonce) ∧ g 3 = (ptr b3 0) ∧ g 5 = (ptr b5 0) ∧ g 6 = (Value.slice none 0 0) ∧ g 7 = sv71 ∧ g 8 = (i64 32) ∧ g 9 = (i64 12) ∧ g 10 = sv ∧ g 11 = (slc b9q77 0 8 8) ∧ g 12 = (i64 (k : Int)) ∧ g 13 = (i64 7) ∧ g 14 = (ptr b14_7 0) ∧ g 15 = (i64 1) ∧ g 21 = (bl false) ∧ g 37 = (bl false) ∧ g 53 = (bl (decide ((k : Int) < 10))) ∧ g 57 = (bl true) ∧ g 99 = (bl true) ∧ True) ⟨s0, s1, s2, s3, s5, s6, s7, s8, s9, s10, s11, s12, s13, s14, rfl, s21, s37, s53, s57, rfl, trivial⟩ ?_
     rintro fr255 ⟨s0, s1, s2, s3, s5, s6, s7, s8, s9, s10, s11, s12, s13, s14, s15, s21, s37, s53, s57, s99, _⟩
     refine cw_region <| rM rfl s15 <| rw_q (v := (i64 2)) rfl (ev_i64_add (a := 1) (b := 1) rfl rfl oM oM) <| rw_q rfl (ev_assign (v := (i64 2)) rfl) ?_
     refine rw_nil (kThen_normal (cr_succ (cw_seq (cw_seq (cw_region ?_)))))
     refine rw_q rfl (ev_move (v := (i64 2)) rfl) <| rw_q rfl (ev_i64_lss (a := 2) (b := 4) rfl rfl) ?_
     refine rw_nil (kThen_normal ?_)
     refine cw_cond_t rfl (by decide) ?_
     refine cw_skip (kThen_normal (cw_seq (cw_block ?_)))
     refine cw_draw [(0, false), (1, false), (2, false), (3, false), (4, false), (5, false), (6, false), (7, false), (8, false), (9, false), (10, false)] 11 (by kernel_rfl) <| dM rfl rfl s10 <| dM rfl rfl s11 <| dM rfl rfl s13 <| dw_q rfl rfl (fun _ _hx => ev_ia_slc (r := 7) (i := 7) oM uT103 ti107 rfl rfl oM oM) <| dw_q (v := (slc b8q77 0 4 4)) rfl rfl (fun _ _hx => ev_load1 uT107 rfl rfl ((Mem.pick2 Hs254 [_] [_] _ (hm254.ext _hx))).h0 rfl) ?_
     refine dw_q rfl rfl (fun _ _hx => ev_move (v := (i64 2)) rfl) <| dw_q rfl rfl (fun _ _hx => ev_ia_slc (r := 2) (i := 2) oM uT107 ti3 rfl rfl oM oM) <| dw_q (v := (i64 9)) rfl rfl (fun _ _hx => ev_load1 uT3 rfl rfl ((Mem.pick2 Hs254 [_, _] [_] _ (hm254.ext _hx))).h0 (get_clD _ _ 0 (by simp))) <| dw_q rfl rfl (fun _ _hx => ev_move (v := (i64 2)) rfl) <| dw_q rfl rfl (fun _ _hx => ev_ia_arr (r := 2) (i := 2) oM uT105 ti55 s14 rfl oM oM) <| dw_q (v := (u32 (q243.getD 2 0))) rfl rfl (fun _ _hx => ev_load1 uT55 rfl rfl ((Mem.pick Hs254 [_] _ (hm254.ext _hx))).h0 (get_clD _ _ 0 sD)) ?_
     refine dw_nil (fun w256 _ew256 => ?_)
     have hm256 := hm254.ext _ew256
     refine rw_q rfl (ev_indexAddr_rdv (i := 9) (g254.rd hm256) uT101 ti55 rfl rfl oM (by simp)) <| rw_n (or_store_grow (Hs := Hs254) (H := [(b14_7, .cells (cl u32 q243) 105 (0, 0)), (b9q77, .cells #[(slc b1q77 0 4 4), (slc b2q77 0 4 4), (slc b3q77 0 4 4), (slc b4q77 0 4 4), (slc b5q77 0 4 4), (slc b6q77 0 4 4), (slc b7q77 0 4 4), (slc b8q77 0 4 4)] 107 (0, 0)), (b8q77, .cells (cl i64 ([3, 4, 9, 14])) 3 (0, 0)), (b7q77, .cells (cl i64 ([2, 7, 8, 13])) 3 (0, 0)), (b6q77, .cells (cl i64 ([1, 6, 11, 12])) 3 (0, 0)), (b5q77, .cells (cl i64 ([0, 5, 10, 15])) 3 (0, 0)), (b4q77, .cells (cl i64 ([3, 7, 11, 15])) 3 (0, 0)), (b3q77, .cells (cl i64 ([2, 6, 10, 14])) 3 (0, 0)), (b2q77, .cells (cl i64 ([1, 5, 9, 13])) 3 (0, 0)), (b1q77, .cells (cl i64 ([0, 4, 8, 12])) 3 (0, 0))] ++ (Hs71 ++ ([(b5, .cells (cl u8 nonce) 25 (0, 0)), (b3, .cells (cl u8 key) 23 (0, 0))]))) (i := 9) (a := q243.getD 2 0) hm256 g254 u32_one ti55 oM (by simp) rfl rfl) ?_
     rintro _ w257 ⟨Hs257, hm257, g257⟩
     replace g257 : Grow u32 55 sv ([q180.getD 0 0, q201.getD 0 0, q222.getD 0 0, q243.getD 0 0, q243.getD 1 0, q180.getD 1 0, q201.getD 1 0, q222.getD 1 0, q222.getD 2 0, q243.getD 2 0, q180.getD 2 0, q201.getD 2 0, q201.getD 3 0, q222.getD 3 0, q138.getD 3 0, q180.getD 3 0]) Hs257 := g257
     refine rw_nil (kBlk_normal ?_)
     refine CW.abs (fun g => g 0 = (agg u8 key) ∧ g 1 = (u32 counter) ∧ g 2 = (agg u8 nonce) ∧ g 3 = (ptr b3 0) ∧ g 5 = (ptr b5 0) ∧ g 6 = (Value.slice none 0 0) ∧ g 7 = sv71 ∧ g 8 = (i64 32) ∧ g 9 = (i64 12) ∧ g 10 = sv ∧ g 11 = (slc b9q77 0 8 8) ∧ g 12 = (i64 (k : Int)) ∧ g 13 = (i64 7) ∧ g 14 = (ptr b14_7 0) ∧ g 15 = (i64 2) ∧ g 21 = (bl false) ∧ g 37 = (bl false) ∧ g 53 = (bl (decide ((k : Int) < 10))) ∧ g 57 = (bl true) ∧ g 99 = (bl true) ∧ True) ⟨s0, s1, s2, s3, s5, s6, s7, s8, s9, s10, s11, s12, s13, s14, rfl, s21, s37, s53, s57, rfl, trivial⟩ ?_
     rintro fr258 ⟨s0, s1, s2, s3, s5, s6, s7, s8, s9, s10, s11, s12, s13, s14, s15, s21, s37, s53, s57, s99, _⟩
     refine cw_region <| rM rfl s15 <| rw_q (v := (i64 3)) rfl (ev_i64_add (a := 2) (b := 1) rfl rfl oM oM) <| rw_q rfl (ev_assign (v := (i64 3)) rfl) ?_
     refine rw_nil (kThen_normal (cr_succ (cw_seq (cw_seq (cw_region ?_)))))
     refine rw_q rfl (ev_move (v := (i64 3)) rfl) <| rw_q rfl (ev_i64_lss (a := 3) (b := 4) rfl rfl) ?_
     refine rw_nil (kThen_normal ?_)
     refine cw_cond_t rfl (by decide) ?_
     refine cw_skip (kThen_normal (cw_seq (cw_block ?_)))
     refine cw_draw [(0, false), (1, false), (2, false), (3, false), (4, false), (5, false), (6, false), (7, false), (8, false), (9, false), (10, false)] 11 (by kernel_rfl) <| dM rfl rfl s10 <| dM rfl rfl s11 <| dM rfl rfl s13 <| dw_q rfl rfl (fun _ _hx => ev_ia_slc (r := 7) (i := 7) oM uT103 ti107 rfl rfl oM oM) <| dw_q (v := (slc b8q77 0 4 4)) rfl rfl (fun _ _hx => ev_load1 uT107 rfl rfl ((Mem.pick2 Hs257 [_] [_] _ (hm257.ext _hx))).h0 rfl) ?_
     refine dw_q rfl rfl (fun _ _hx => ev_move (v := (i64 3)) rfl) <| dw_q rfl rfl (fun _ _hx => ev_ia_slc (r := 3) (i := 3) oM uT107 ti3 rfl rfl oM oM) <| dw_q (v := (i64 14)) rfl rfl (fun _ _hx => ev_load1 uT3 rfl rfl ((Mem.pick2 Hs257 [_, _] [_] _ (hm257.ext _hx))).h0 (get_clD _ _ 0 (by simp))) <| dw_q rfl rfl (fun _ _hx => ev_move (v := (i64 3)) rfl) <| dw_q rfl rfl (fun _ _hx => ev_ia_arr (r := 3) (i := 3) oM uT105 ti55 s14 rfl oM oM) <| dw_q (v := (u32 (q243.getD 3 0))) rfl rfl (fun _ _hx => ev_load1 uT55 rfl rfl ((Mem.pick Hs257 [_] _ (hm257.ext _hx))).h0 (get_clD _ _ 0 sD)) ?_
     refine dw_nil (fun w259 _ew259 => ?_)
     have hm259 := hm257.ext _ew259
     refine rw_q rfl (ev_indexAddr_rdv (i := 14) (g257.rd hm259) uT101 ti55 rfl rfl oM (by simp)) <| rw_n (or_store_grow (Hs := Hs257) (H := [(b14_7, .cells (cl u32 q243) 105 (0, 0)), (b9q77, .cells #[(slc b1q77 0 4 4), (slc b2q77 0 4 4), (slc b3q77 0 4 4), (slc b4q77 0 4 4), (slc b5q77 0 4 4), (slc b6q77 0 4 4), (slc b7q77 0 4 4), (slc b8q77 0 4 4)] 107 (0, 0)), (b8q77, .cells (cl i64 ([3, 4, 9, 14])) 3 (0, 0)), (b7q77, .cells (cl i64 ([2, 7, 8, 13])) 3 (0, 0)), (b6q77, .cells (cl i64 ([1, 6, 11, 12])) 3 (0, 0)), (b5q77, .cells (cl i64 ([0, 5, 10, 15])) 3 (0, 0)), (b4q77, .cells (cl i64 ([3, 7, 11, 15])) 3 (0, 0)), (b3q77, .cells (cl i64 ([2, 6, 10, 14])) 3 (0, 0)), (b2q77, .cells (cl i64 ([1, 5, 9, 13])) 3 (0, 0)), (b1q77, .cells (cl i64 ([0, 4, 8, 12])) 3 (0, 0))] ++ (Hs71 ++ ([(b5, .cells (cl u8 nonce) 25 (0, 0)), (b3, .cells (cl u8 key) 23 (0, 0))]))) (i := 14) (a := q243.getD 3 0) hm259 g257 u32_one ti55 oM (by simp) rfl rfl) ?_
     rintro _ w260 ⟨Hs260, hm260, g260⟩
     replace g260 : Grow u32 55 sv ([q180.getD 0 0, q201.getD 0 0, q222.getD 0 0, q243.getD 0 0, q243.getD 1 0, q180.getD 1 0, q201.getD 1 0, q222.getD 1 0, q222.getD 2 0, q243.getD 2 0, q180.getD 2 0, q201.getD 2 0, q201.getD 3 0, q222.getD 3 0, q243.getD 3 0, q180.getD 3 0]) Hs260 := g260
     refine rw_nil (kBlk_normal ?_)
     refine CW.abs (fun g => g 0 = (agg u8 key) ∧ g 1 = (u32 counter) ∧ g 2 = (agg u8 nonce) ∧ g 3 = (ptr b3 0) ∧ g 5 = (ptr b5 0) ∧ g 6 = (Value.slice none 0 0) ∧ g 7 = sv71 ∧ g 8 = (i64 32) ∧ g 9 = (i64 12) ∧ g 10 = sv ∧ g 11 = (slc b9q77 0 8 8) ∧ g 12 = (i64 (k : Int)) ∧ g 13 = (i64 7) ∧ g 14 = (ptr b14_7 0) ∧ g 15 = (i64 3) ∧ g 21 = (bl false) ∧ g 37 = (bl false) ∧ g 53 = (bl (decide ((k : Int) < 10))) ∧ g 57 = (bl true) ∧ g 99 = (bl true) ∧ True) ⟨s0, s1, s2, s3, s5, s6, s7, s8, s9, s10, s11, s12, s13, s14, rfl, s21, s37, s53, s57, rfl, trivial⟩ ?_
     rintro fr261 ⟨s0, s1, s2, s3, s5, s6, s7, s8, s9, s10, s11, s12, s13, s14, s15, s21, s37, s53, s57, s99, _⟩
     refine cw_region <| rM rfl s15 <| rw_q (v := (i64 4)) rfl (ev_i64_add (a := 3) (b := 1) rfl rfl oM oM) <| rw_q rfl (ev_assign (v := (i64 4)) rfl) ?_
     refine rw_nil (kThen_normal (cr_succ (cw_seq (cw_seq (cw_region ?_)))))
     refine rw_q rfl (ev_move (v := (i64 4)) rfl) <| rw_q rfl (ev_i64_lss (a := 4) (b := 4) rfl rfl) ?_
     refine rw_nil (kThen_normal ?_)
     refine cw_cond_f rfl (by decide) <| cw_exit ?_
     refine kThen_exit (kThen_exit (kBlk_hit ?_))
     refine kBlk_normal (cw_region ?_)
     refine rM rfl s13 <| rw_q (v := (i64 8)) rfl (ev_i64_add (a := 7) (b := 1) rfl rfl oM oM) <| rw_q rfl (ev_assign (v := (i64 8)) rfl) ?_
     refine rw_nil (kThen_normal (cr_succ (cw_seq (cw_seq (cw_region ?_)))))
     refine rw_q rfl (ev_move (v := (i64 8)) rfl) <| rw_q rfl (ev_i64_lss (a := 8) (b := 8) rfl rfl) ?_
     refine rw_nil (kThen_normal ?_)
     refine cw_cond_f rfl (by decide) <| cw_exit ?_
     refine kThen_exit (kThen_exit (kBlk_hit ?_))
     refine kBlk_normal (cw_region ?_)
     refine rM rfl s12 <| rw_q rfl (ev_i64_add (b := 1) rfl rfl oM oM) <| rw_q rfl (ev_assign (v := (i64 ((k : Int) + 1))) rfl) ?_
     refine rw_nil (kThen_normal ?_)
     have hvn : [q180.getD 0 0, q201.getD 0 0, q222.getD 0 0, q243.getD 0 0, q243.getD 1 0, q180.getD 1 0, q201.getD 1 0, q222.getD 1 0, q222.getD 2 0, q243.getD 2 0, q180.getD 2 0, q201.getD 2 0, q201.getD 3 0, q222.getD 3 0, q243.getD 3 0, q180.getD 3 0] = rounds dblR (k + 1) (beginR wordRL key counter nonce) := by show _ = dblR (rounds dblR k (beginR wordRL key counter nonce)); rw [← hv, hq243, hq222, hq201, hq180, hq159, hq138, hq117, hq97]; rfl
     have hm262 := Mem.drop ([(b14_7, .cells (cl u32 q243) 105 (0, 0))]) _ (Mem.pick Hs260 [_] _ hm260)
     exact ⟨⟨k + 1, [q180.getD 0 0, q201.getD 0 0, q222.getD 0 0, q243.getD 0 0, q243.getD 1 0, q180.getD 1 0, q201.getD 1 0, q222.getD 1 0, q222.getD 2 0, q243.getD 2 0, q180.getD 2 0, q201.getD 2 0, q201.getD 3 0, q222.getD 3 0, q243.getD 3 0, q180.getD 3 0], sv, Hs260, oM, rfl, hvn, g260, s0, s1, s2, s3, s5, s6, s7, s8, s9, s10, s11, rfl, s21, s37, hm262⟩, meas rfl z12 oM oM⟩
   · -- false
     have hc94p := of_decide_eq_false hc94
     obtain rfl : k = 10 := by omega
     subst hv
     have hR := rounds_dblR_length 10 (beginR wordRL key counter nonce) rfl
     refine cw_exit ?_
     refine kThen_exit (kThen_exit (kBlk_hit ?_))
     refine cw_seq (cw_region ?_)
     refine rw_c rfl (or_buildSlice_cl u8 [] u8_one hm93 uT26 ti5 rfl (by simp [pairs]) rfl) ?_
     rintro _ w263 ⟨b114, rfl, _ew263, hm263⟩
     refine rw_q rfl (ev_assign (v := (slc b114 0 0 0)) rfl) ?_
     refine rw_nil (kThen_normal (cw_seq (cw_seq (cw_region ?_))))
     refine rw_q rfl (ev_assign (v := (i64 0)) rfl) ?_
     refine rw_nil (kThen_normal (cw_block ?_))
     refine cw_loop (fun g wv => ∃ (k2 : Nat) (ol : List (BitVec 8)) (so : Value) (Ho : List (Nat × Obj)), (k2 ≤ 16) ∧ (ol = (List.range k2).flatMap (wordBytes (rounds dblR 10 (beginR wordRL key counter nonce)) (beginR wordRL key counter nonce))) ∧ (Grow u8 5 so ol Ho) ∧ g 0 = (agg u8 key) ∧ g 1 = (u32 counter) ∧ g 2 = (agg u8 nonce) ∧ g 3 = (ptr b3 0) ∧ g 5 = (ptr b5 0) ∧ g 6 = (Value.slice none 0 0) ∧ g 7 = sv71 ∧ g 8 = (i64 32) ∧ g 9 = (i64 12) ∧ g 10 = sv ∧ g 11 = (slc b9q77 0 8 8) ∧ g 12 = (i64 (10 : Int)) ∧ g 16 = so ∧ g 17 = (i64 (k2 : Int)) ∧ g 21 = (bl false) ∧ g 37 = (bl false) ∧ g 53 = (bl (decide ((10 : Int) < 10))) ∧ Mem wv (restOf w0) (Ho ++ (Hv ++ (Hs71 ++ ([]))))) (fun g wv => (16 - RowKit.intOf (g 17)).toNat) ?_ ?_
     have hm264 := Mem.drop ([(b9q77, .cells #[(slc b1q77 0 4 4), (slc b2q77 0 4 4), (slc b3q77 0 4 4), (slc b4q77 0 4 4), (slc b5q77 0 4 4), (slc b6q77 0 4 4), (slc b7q77 0 4 4), (slc b8q77 0 4 4)] 107 (0, 0))]) _ (Mem.pick2 [_] Hv [_] _ hm263)
     have hm265 := Mem.drop ([(b8q77, .cells (cl i64 ([3, 4, 9, 14])) 3 (0, 0))]) _ (Mem.pick2 [_] Hv [_] _ hm264)
     have hm266 := Mem.drop ([(b7q77, .cells (cl i64 ([2, 7, 8, 13])) 3 (0, 0))]) _ (Mem.pick2 [_] Hv [_] _ hm265)
     have hm267 := Mem.drop ([(b6q77, .cells (cl i64 ([1, 6, 11, 12])) 3 (0, 0))]) _ (Mem.pick2 [_] Hv [_] _ hm266)
     have hm268 := Mem.drop ([(b5q77, .cells (cl i64 ([0, 5, 10, 15])) 3 (0, 0))]) _ (Mem.pick2 [_] Hv [_] _ hm267)
     have hm269 := Mem.drop ([(b4q77, .cells (cl i64 ([3, 7, 11, 15])) 3 (0, 0))]) _ (Mem.pick2 [_] Hv [_] _ hm268)
     have hm270 := Mem.drop ([(b3q77, .cells (cl i64 ([2, 6, 10, 14])) 3 (0, 0))]) _ (Mem.pick2 [_] Hv [_] _ hm269)
     have hm271 := Mem.drop ([(b2q77, .cells (cl i64 ([1, 5, 9, 13])) 3 (0, 0))]) _ (Mem.pick2 [_] Hv [_] _ hm270)
     have hm272 := Mem.drop ([(b1q77, .cells (cl i64 ([0, 4, 8, 12])) 3 (0, 0))]) _ (Mem.pick2 [_] Hv [_] _ hm271)
     have hm273 := Mem.drop ([(b5, .cells (cl u8 nonce) 25 (0, 0))]) _ (Mem.pick3 [_] Hv Hs71 [_] _ hm272)
     have hm274 := Mem.drop ([(b3, .cells (cl u8 key) 23 (0, 0))]) _ (Mem.pick3 [_] Hv Hs71 [_] _ hm273)
     · exact ⟨0, [], (slc b114 0 0 0), [(b114, .cells (cl u8 ([])) 5 (0, 0))], oM, rfl, (Grow.of u8 5 b114 []), s0, s1, s2, s3, s5, s6, s7, s8, s9, s10, s11, s12, rfl, rfl, s21, s37, rfl, hm274⟩
     · rintro fr275 w276 ⟨k2, ol, so, Ho, hk2, ho, gro, s0, s1, s2, s3, s5, s6, s7, s8, s9, s10, s11, s12, s16, s17, s21, s37, s53, hm276⟩
       have z17 := s17
       have z16 := s16
       have hol : ol.length = 4 * k2 := by rw [ho, wordBytes_length]
       refine cw_seq (cw_seq (cw_region ?_))
       refine rM rfl s17 <| rw_q rfl (ev_i64_lss (b := 16) rfl rfl) ?_
       refine rw_nil (kThen_normal ?_)
       refine cw_cond rfl (fun hc277 => ?_) (fun hc277 => ?_)
       · -- true
         have hc277p := of_decide_eq_true hc277
         refine cw_skip (kThen_normal (cw_seq (cw_block (cw_seq ?_))))
         refine cw_draw [(0, false), (1, false), (2, false), (3, false), (4, false), (5, false), (6, false), (7, false)] 8 (by kernel_rfl) <| dM rfl rfl s10 <| dM rfl rfl s17 <| dw_q rfl rfl (fun _ _hx => ev_indexAddr_rdv (gv.rd (Mem.pick Ho Hv _ (hm276.ext _hx))) uT101 ti55 rfl rfl oM sD) <| dw_q (v := (u32 ((rounds dblR 10 (beginR wordRL key counter nonce)).getD k2 0))) rfl rfl (fun _ _hx => ev_load_rdD (l := (rounds dblR 10 (beginR wordRL key counter nonce))) (i := (k2 : Int)) (dflt := 0) (gv.rd (Mem.pick Ho Hv _ (hm276.ext _hx))) uT55 rfl oM sD rfl) <| dM rfl rfl s7 ?_
         refine dM rfl rfl s17 <| dw_q rfl rfl (fun _ _hx => ev_indexAddr_rdv (g71.rd (Mem.pick2 Ho Hv Hs71 _ (hm276.ext _hx))) uT101 ti55 rfl rfl oM sD) <| dw_q rfl rfl (fun _ _hx => ev_load_rdD (l := [1634760805#32, 857760878#32, 2036477234#32, 1797285236#32, wordRL ((key.drop 0).take 4), wordRL ((key.drop 4).take 4), wordRL ((key.drop 8).take 4), wordRL ((key.drop 12).take 4), wordRL ((key.drop 16).take 4), wordRL ((key.drop 20).take 4), wordRL ((key.drop 24).take 4), wordRL ((key.drop 28).take 4), counter, wordRL ((nonce.drop 0).take 4), wordRL ((nonce.drop 4).take 4), wordRL ((nonce.drop 8).take 4)]) (i := (k2 : Int)) (dflt := 0) (g71.rd (Mem.pick2 Ho Hv Hs71 _ (hm276.ext _hx))) uT55 rfl oM sD rfl) ?_
         refine dw_nil (fun w278 _ew278 => ?_)
         have hm278 := hm276.ext _ew278
         refine rw_q rfl (ev_u32_add rfl rfl) <| rA rfl rfl ?_
         refine rw_nil (kThen_normal ?_)
         refine CW.abs (fun g => g 0 = (agg u8 key) ∧ g 1 = (u32 counter) ∧ g 2 = (agg u8 nonce) ∧ g 3 = (ptr b3 0) ∧ g 5 = (ptr b5 0) ∧ g 6 = (Value.slice none 0 0) ∧ g 7 = sv71 ∧ g 8 = (i64 32) ∧ g 9 = (i64 12) ∧ g 10 = sv ∧ g 11 = (slc b9q77 0 8 8) ∧ g 12 = (i64 (10 : Int)) ∧ g 16 = so ∧ g 17 = (i64 (k2 : Int)) ∧ g 18 = (u32 (((rounds dblR 10 (beginR wordRL key counter nonce)).getD k2 0) + (([1634760805#32, 857760878#32, 2036477234#32, 1797285236#32, wordRL ((key.drop 0).take 4), wordRL ((key.drop 4).take 4), wordRL ((key.drop 8).take 4), wordRL ((key.drop 12).take 4), wordRL ((key.drop 16).take 4), wordRL ((key.drop 20).take 4), wordRL ((key.drop 24).take 4), wordRL ((key.drop 28).take 4), counter, wordRL ((nonce.drop 0).take 4), wordRL ((nonce.drop 4).take 4), wordRL ((nonce.drop 8).take 4)]).getD k2 0))) ∧ g 21 = (bl false) ∧ g 37 = (bl false) ∧ g 53 = (bl (decide ((10 : Int) < 10))) ∧ g 116 = (bl (decide ((k2 : Int) < 16))) ∧ True) ⟨s0, s1, s2, s3, s5, s6, s7, s8, s9, s10, s11, s12, s16, s17, rfl, s21, s37, s53, rfl, trivial⟩ ?_
         rintro fr279 ⟨s0, s1, s2, s3, s5, s6, s7, s8, s9, s10, s11, s12, s16, s17, s18, s21, s37, s53, s116, _⟩
         refine cw_region <| rM rfl s16 <| rM rfl s18 <| rw_q rfl (ev_conv_u32_u8 ⟨_, uT55⟩ uT5 rfl) <| rM rfl s18 <| rw_q rfl (ev_u32_shr (b := 8) rfl rfl oM) ?_
         refine rw_q rfl (ev_conv_u32_u8 ⟨_, uT55⟩ uT5 rfl) <| rM rfl s18 <| rw_q rfl (ev_u32_shr (b := 16) rfl rfl oM) <| rw_q rfl (ev_conv_u32_u8 ⟨_, uT55⟩ uT5 rfl) <| rM rfl s18 <| rw_q rfl (ev_u32_shr (b := 24) rfl rfl oM) ?_
         refine rw_q rfl (ev_conv_u32_u8 ⟨_, uT55⟩ uT5 rfl) <| rw_c rfl (or_buildSlice_cl u8 [(((rounds dblR 10 (beginR wordRL key counter nonce)).getD k2 0) + (([1634760805#32, 857760878#32, 2036477234#32, 1797285236#32, wordRL ((key.drop 0).take 4), wordRL ((key.drop 4).take 4), wordRL ((key.drop 8).take 4), wordRL ((key.drop 12).take 4), wordRL ((key.drop 16).take 4), wordRL ((key.drop 20).take 4), wordRL ((key.drop 24).take 4), wordRL ((key.drop 28).take 4), counter, wordRL ((nonce.drop 0).take 4), wordRL ((nonce.drop 4).take 4), wordRL ((nonce.drop 8).take 4)]).getD k2 0)).setWidth 8, ((((rounds dblR 10 (beginR wordRL key counter nonce)).getD k2 0) + (([1634760805#32, 857760878#32, 2036477234#32, 1797285236#32, wordRL ((key.drop 0).take 4), wordRL ((key.drop 4).take 4), wordRL ((key.drop 8).take 4), wordRL ((key.drop 12).take 4), wordRL ((key.drop 16).take 4), wordRL ((key.drop 20).take 4), wordRL ((key.drop 24).take 4), wordRL ((key.drop 28).take 4), counter, wordRL ((nonce.drop 0).take 4), wordRL ((nonce.drop 4).take 4), wordRL ((nonce.drop 8).take 4)]).getD k2 0)) >>> 8).setWidth 8, ((((rounds dblR 10 (beginR wordRL key counter nonce)).getD k2 0) + (([1634760805#32, 857760878#32, 2036477234#32, 1797285236#32, wordRL ((key.drop 0).take 4), wordRL ((key.drop 4).take 4), wordRL ((key.drop 8).take 4), wordRL ((key.drop 12).take 4), wordRL ((key.drop 16).take 4), wordRL ((key.drop 20).take 4), wordRL ((key.drop 24).take 4), wordRL ((key.drop 28).take 4), counter, wordRL ((nonce.drop 0).take 4), wordRL ((nonce.drop 4).take 4), wordRL ((nonce.drop 8).take 4)]).getD k2 0)) >>> 16).setWidth 8, ((((rounds dblR 10 (beginR wordRL key counter nonce)).getD k2 0) + (([1634760805#32, 857760878#32, 2036477234#32, 1797285236#32, wordRL ((key.drop 0).take 4), wordRL ((key.drop 4).take 4), wordRL ((key.drop 8).take 4), wordRL ((key.drop 12).take 4), wordRL ((key.drop 16).take 4), wordRL ((key.drop 20).take 4), wordRL ((key.drop 24).take 4), wordRL ((key.drop 28).take 4), counter, wordRL ((nonce.drop 0).take 4), wordRL ((nonce.drop 4).take 4), wordRL ((nonce.drop 8).take 4)]).getD k2 0)) >>> 24).setWidth 8] u8_one hm278 uT26 ti5 rfl rfl rfl) ?_
         rintro _ w280 ⟨b140, rfl, _ew280, hm280⟩
         refine rw_c rfl (or_append (f := u8) (Hs := Ho) (H := [(b140, .cells (cl u8 ([(((rounds dblR 10 (beginR wordRL key counter nonce)).getD k2 0) + (([1634760805#32, 857760878#32, 2036477234#32, 1797285236#32, wordRL ((key.drop 0).take 4), wordRL ((key.drop 4).take 4), wordRL ((key.drop 8).take 4), wordRL ((key.drop 12).take 4), wordRL ((key.drop 16).take 4), wordRL ((key.drop 20).take 4), wordRL ((key.drop 24).take 4), wordRL ((key.drop 28).take 4), counter, wordRL ((nonce.drop 0).take 4), wordRL ((nonce.drop 4).take 4), wordRL ((nonce.drop 8).take 4)]).getD k2 0)).setWidth 8, ((((rounds dblR 10 (beginR wordRL key counter nonce)).getD k2 0) + (([1634760805#32, 857760878#32, 2036477234#32, 1797285236#32, wordRL ((key.drop 0).take 4), wordRL ((key.drop 4).take 4), wordRL ((key.drop 8).take 4), wordRL ((key.drop 12).take 4), wordRL ((key.drop 16).take 4), wordRL ((key.drop 20).take 4), wordRL ((key.drop 24).take 4), wordRL ((key.drop 28).take 4), counter, wordRL ((nonce.drop 0).take 4), wordRL ((nonce.drop 4).take 4), wordRL ((nonce.drop 8).take 4)]).getD k2 0)) >>> 8).setWidth 8, ((((rounds dblR 10 (beginR wordRL key counter nonce)).getD k2 0) + (([1634760805#32, 857760878#32, 2036477234#32, 1797285236#32, wordRL ((key.drop 0).take 4), wordRL ((key.drop 4).take 4), wordRL ((key.drop 8).take 4), wordRL ((key.drop 12).take 4), wordRL ((key.drop 16).take 4), wordRL ((key.drop 20).take 4), wordRL ((key.drop 24).take 4), wordRL ((key.drop 28).take 4), counter, wordRL ((nonce.drop 0).take 4), wordRL ((nonce.drop 4).take 4), wordRL ((nonce.drop 8).take 4)]).getD k2 0)) >>> 16).setWidth 8, ((((rounds dblR 10 (beginR wordRL key counter nonce)).getD k2 0) + (([1634760805#32, 857760878#32, 2036477234#32, 1797285236#32, wordRL ((key.drop 0).take 4), wordRL ((key.drop 4).take 4), wordRL ((key.drop 8).take 4), wordRL ((key.drop 12).take 4), wordRL ((key.drop 16).take 4), wordRL ((key.drop 20).take 4), wordRL ((key.drop 24).take 4), wordRL ((key.drop 28).take 4), counter, wordRL ((nonce.drop 0).take 4), wordRL ((nonce.drop 4).take 4), wordRL ((nonce.drop 8).take 4)]).getD k2 0)) >>> 24).setWidth 8])) 5 (0, 0))] ++ (Hv ++ (Hs71 ++ ([])))) (Mem.pick [_] Ho _ hm280) gro rfl rfl (Rd.mkA hm280.h0) uT26 uT26 ti5 rfl u8_one sD sD) ?_
         rintro sv281 w281 ⟨Hs281, hm281, g281⟩
         replace g281 : Grow u8 5 sv281 (ol ++ ([(((rounds dblR 10 (beginR wordRL key counter nonce)).getD k2 0) + (([1634760805#32, 857760878#32, 2036477234#32, 1797285236#32, wordRL ((key.drop 0).take 4), wordRL ((key.drop 4).take 4), wordRL ((key.drop 8).take 4), wordRL ((key.drop 12).take 4), wordRL ((key.drop 16).take 4), wordRL ((key.drop 20).take 4), wordRL ((key.drop 24).take 4), wordRL ((key.drop 28).take 4), counter, wordRL ((nonce.drop 0).take 4), wordRL ((nonce.drop 4).take 4), wordRL ((nonce.drop 8).take 4)]).getD k2 0)).setWidth 8, ((((rounds dblR 10 (beginR wordRL key counter nonce)).getD k2 0) + (([1634760805#32, 857760878#32, 2036477234#32, 1797285236#32, wordRL ((key.drop 0).take 4), wordRL ((key.drop 4).take 4), wordRL ((key.drop 8).take 4), wordRL ((key.drop 12).take 4), wordRL ((key.drop 16).take 4), wordRL ((key.drop 20).take 4), wordRL ((key.drop 24).take 4), wordRL ((key.drop 28).take 4), counter, wordRL ((nonce.drop 0).take 4), wordRL ((nonce.drop 4).take 4), wordRL ((nonce.drop 8).take 4)]).getD k2 0)) >>> 8).setWidth 8, ((((rounds dblR 10 (beginR wordRL key counter nonce)).getD k2 0) + (([1634760805#32, 857760878#32, 2036477234#32, 1797285236#32, wordRL ((key.drop 0).take 4), wordRL ((key.drop 4).take 4), wordRL ((key.drop 8).take 4), wordRL ((key.drop 12).take 4), wordRL ((key.drop 16).take 4), wordRL ((key.drop 20).take 4), wordRL ((key.drop 24).take 4), wordRL ((key.drop 28).take 4), counter, wordRL ((nonce.drop 0).take 4), wordRL ((nonce.drop 4).take 4), wordRL ((nonce.drop 8).take 4)]).getD k2 0)) >>> 16).setWidth 8, ((((rounds dblR 10 (beginR wordRL key counter nonce)).getD k2 0) + (([1634760805#32, 857760878#32, 2036477234#32, 1797285236#32, wordRL ((key.drop 0).take 4), wordRL ((key.drop 4).take 4), wordRL ((key.drop 8).take 4), wordRL ((key.drop 12).take 4), wordRL ((key.drop 16).take 4), wordRL ((key.drop 20).take 4), wordRL ((key.drop 24).take 4), wordRL ((key.drop 28).take 4), counter, wordRL ((nonce.drop 0).take 4), wordRL ((nonce.drop 4).take 4), wordRL ((nonce.drop 8).take 4)]).getD k2 0)) >>> 24).setWidth 8])) Hs281 := g281
         refine rA rfl (v := sv281) rfl ?_
         refine rw_nil (kBlk_normal ?_)
         have hm282 := Mem.drop ([(b140, .cells (cl u8 ([(((rounds dblR 10 (beginR wordRL key counter nonce)).getD k2 0) + (([1634760805#32, 857760878#32, 2036477234#32, 1797285236#32, wordRL ((key.drop 0).take 4), wordRL ((key.drop 4).take 4), wordRL ((key.drop 8).take 4), wordRL ((key.drop 12).take 4), wordRL ((key.drop 16).take 4), wordRL ((key.drop 20).take 4), wordRL ((key.drop 24).take 4), wordRL ((key.drop 28).take 4), counter, wordRL ((nonce.drop 0).take 4), wordRL ((nonce.drop 4).take 4), wordRL ((nonce.drop 8).take 4)]).getD k2 0)).setWidth 8, ((((rounds dblR 10 (beginR wordRL key counter nonce)).getD k2 0) + (([1634760805#32, 857760878#32, 2036477234#32, 1797285236#32, wordRL ((key.drop 0).take 4), wordRL ((key.drop 4).take 4), wordRL ((key.drop 8).take 4), wordRL ((key.drop 12).take 4), wordRL ((key.drop 16).take 4), wordRL ((key.drop 20).take 4), wordRL ((key.drop 24).take 4), wordRL ((key.drop 28).take 4), counter, wordRL ((nonce.drop 0).take 4), wordRL ((nonce.drop 4).take 4), wordRL ((nonce.drop 8).take 4)]).getD k2 0)) >>> 8).setWidth 8, ((((rounds dblR 10 (beginR wordRL key counter nonce)).getD k2 0) + (([1634760805#32, 857760878#32, 2036477234#32, 1797285236#32, wordRL ((key.drop 0).take 4), wordRL ((key.drop 4).take 4), wordRL ((key.drop 8).take 4), wordRL ((key.drop 12).take 4), wordRL ((key.drop 16).take 4), wordRL ((key.drop 20).take 4), wordRL ((key.drop 24).take 4), wordRL ((key.drop 28).take 4), counter, wordRL ((nonce.drop 0).take 4), wordRL ((nonce.drop 4).take 4), wordRL ((nonce.drop 8).take 4)]).getD k2 0)) >>> 16).setWidth 8, ((((rounds dblR 10 (beginR wordRL key counter nonce)).getD k2 0) + (([1634760805#32, 857760878#32, 2036477234#32, 1797285236#32, wordRL ((key.drop 0).take 4), wordRL ((key.drop 4).take 4), wordRL ((key.drop 8).take 4), wordRL ((key.drop 12).take 4), wordRL ((key.drop 16).take 4), wordRL ((key.drop 20).take 4), wordRL ((key.drop 24).take 4), wordRL ((key.drop 28).take 4), counter, wordRL ((nonce.drop 0).take 4), wordRL ((nonce.drop 4).take 4), wordRL ((nonce.drop 8).take 4)]).getD k2 0)) >>> 24).setWidth 8])) 5 (0, 0))]) _ (Mem.pick Hs281 [_] _ hm281)
         refine CW.abs (fun g => g 0 = (agg u8 key) ∧ g 1 = (u32 counter) ∧ g 2 = (agg u8 nonce) ∧ g 3 = (ptr b3 0) ∧ g 5 = (ptr b5 0) ∧ g 6 = (Value.slice none 0 0) ∧ g 7 = sv71 ∧ g 8 = (i64 32) ∧ g 9 = (i64 12) ∧ g 10 = sv ∧ g 11 = (slc b9q77 0 8 8) ∧ g 12 = (i64 (10 : Int)) ∧ g 16 = sv281 ∧ g 17 = (i64 (k2 : Int)) ∧ g 18 = (u32 (((rounds dblR 10 (beginR wordRL key counter nonce)).getD k2 0) + (([1634760805#32, 857760878#32, 2036477234#32, 1797285236#32, wordRL ((key.drop 0).take 4), wordRL ((key.drop 4).take 4), wordRL ((key.drop 8).take 4), wordRL ((key.drop 12).take 4), wordRL ((key.drop 16).take 4), wordRL ((key.drop 20).take 4), wordRL ((key.drop 24).take 4), wordRL ((key.drop 28).take 4), counter, wordRL ((nonce.drop 0).take 4), wordRL ((nonce.drop 4).take 4), wordRL ((nonce.drop 8).take 4)]).getD k2 0))) ∧ g 21 = (bl false) ∧ g 37 = (bl false) ∧ g 53 = (bl (decide ((10 : Int) < 10))) ∧ g 116 = (bl (decide ((k2 : Int) < 16))) ∧ True) ⟨s0, s1, s2, s3, s5, s6, s7, s8, s9, s10, s11, s12, rfl, s17, s18, s21, s37, s53, s116, trivial⟩ ?_
         rintro fr283 ⟨s0, s1, s2, s3, s5, s6, s7, s8, s9, s10, s11, s12, s16, s17, s18, s21, s37, s53, s116, _⟩
         refine cw_region <| rM rfl s17 <| rw_q rfl (ev_i64_add (b := 1) rfl rfl oM oM) <| rw_q rfl (ev_assign (v := (i64 ((k2 : Int) + 1))) rfl) ?_
         refine rw_nil (kThen_normal ?_)
         exact ⟨⟨k2 + 1, ol ++ ([(((rounds dblR 10 (beginR wordRL key counter nonce)).getD k2 0) + (([1634760805#32, 857760878#32, 2036477234#32, 1797285236#32, wordRL ((key.drop 0).take 4), wordRL ((key.drop 4).take 4), wordRL ((key.drop 8).take 4), wordRL ((key.drop 12).take 4), wordRL ((key.drop 16).take 4), wordRL ((key.drop 20).take 4), wordRL ((key.drop 24).take 4), wordRL ((key.drop 28).take 4), counter, wordRL ((nonce.drop 0).take 4), wordRL ((nonce.drop 4).take 4), wordRL ((nonce.drop 8).take 4)]).getD k2 0)).setWidth 8, ((((rounds dblR 10 (beginR wordRL key counter nonce)).getD k2 0) + (([1634760805#32, 857760878#32, 2036477234#32, 1797285236#32, wordRL ((key.drop 0).take 4), wordRL ((key.drop 4).take 4), wordRL ((key.drop 8).take 4), wordRL ((key.drop 12).take 4), wordRL ((key.drop 16).take 4), wordRL ((key.drop 20).take 4), wordRL ((key.drop 24).take 4), wordRL ((key.drop 28).take 4), counter, wordRL ((nonce.drop 0).take 4), wordRL ((nonce.drop 4).take 4), wordRL ((nonce.drop 8).take 4)]).getD k2 0)) >>> 8).setWidth 8, ((((rounds dblR 10 (beginR wordRL key counter nonce)).getD k2 0) + (([1634760805#32, 857760878#32, 2036477234#32, 1797285236#32, wordRL ((key.drop 0).take 4), wordRL ((key.drop 4).take 4), wordRL ((key.drop 8).take 4), wordRL ((key.drop 12).take 4), wordRL ((key.drop 16).take 4), wordRL ((key.drop 20).take 4), wordRL ((key.drop 24).take 4), wordRL ((key.drop 28).take 4), counter, wordRL ((nonce.drop 0).take 4), wordRL ((nonce.drop 4).take 4), wordRL ((nonce.drop 8).take 4)]).getD k2 0)) >>> 16).setWidth 8, ((((rounds dblR 10 (beginR wordRL key counter nonce)).getD k2 0) + (([1634760805#32, 857760878#32, 2036477234#32, 1797285236#32, wordRL ((key.drop 0).take 4), wordRL ((key.drop 4).take 4), wordRL ((key.drop 8).take 4), wordRL ((key.drop 12).take 4), wordRL ((key.drop 16).take 4), wordRL ((key.drop 20).take 4), wordRL ((key.drop 24).take 4), wordRL ((key.drop 28).take 4), counter, wordRL ((nonce.drop 0).take 4), wordRL ((nonce.drop 4).take 4), wordRL ((nonce.drop 8).take 4)]).getD k2 0)) >>> 24).setWidth 8]), sv281, Hs281, oM, (by rw [wordBytes_succ, ← ho]; rfl), g281, s0, s1, s2, s3, s5, s6, s7, s8, s9, s10, s11, s12, s16, rfl, s21, s37, s53, hm282⟩, meas rfl z17 oM oM⟩
       · -- false
         have hc277p := of_decide_eq_false hc277
         obtain rfl : k2 = 16 := by omega
         subst ho
         refine cw_exit ?_
         refine kThen_exit (kThen_exit (kBlk_hit ?_))
         refine cw_seq (cw_region ?_)
         refine rM rfl s16 <| rA rfl (v := so) rfl ?_
         refine rw_nil (kThen_normal (cw_ret ?_))
         refine fnPost_ret [so] ⟨rfl, trivial⟩ ?_
         have hm284 := Mem.drop Hv _ (Mem.pick Ho Hv _ hm276)
         have hm285 := Mem.drop Hs71 _ (Mem.pick Ho Hs71 _ hm284)
         exact ⟨Ho, gro, by simpa using hm285⟩


end Go.Proofs.YtmiagmbgfhakgaaDoor

