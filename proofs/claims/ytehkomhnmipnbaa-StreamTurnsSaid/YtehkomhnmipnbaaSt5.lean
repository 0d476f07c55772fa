/- Contracts: stream, fifth part. Conditions: none beyond those that each theorem states. -/
import Derived.Test.YtehkomhnmipnbaaSt4
namespace Go.Proofs.Ytehkomhnmipnbaa
set_option linter.unusedVariables false
set_option linter.unusedSimpArgs false

set_option maxHeartbeats 4000000 in
theorem c_block3 (key : List (BitVec 8)) (counter : BitVec 32) (nonce : List (BitVec 8)) (w0 : World)  (hk : key.length = 32) (hn : nonce.length = 12) : CallsR Try.prog 12 #[(agg u8 key), (u32 counter), (agg u8 nonce)] w0 (fun r w1 => ∃ Hs, Grow u8 5 r (blockR key counter nonce) Hs ∧ Mem w1 (restOf w0) Hs) := by
  refine callsR_of_cw (args := [(agg u8 key), (u32 counter), (agg u8 nonce)]) Try.func12 rfl Try.ntmps12 Try.results12 rfl ?_
  have hm0 : Mem w0 (restOf w0) [] := Mem.of_world w0
  refine cw_seq ?_
  refine cw_region ?_
  refine rw_c rfl (or_box_agg (f := u8) (l := key) hm0 rfl) ?_
  rintro _ w1 ⟨b3, rfl, _ew1, hm1⟩
  refine rw_c rfl (or_box_agg (f := u8) (l := nonce) hm1 rfl) ?_
  rintro _ w2 ⟨b5, rfl, _ew2, hm2⟩
  refine rw_q rfl (ev_assign (v := (Value.slice none 0 0)) rfl) ?_
  refine rw_nil ?_
  refine kThen_normal ?_
  refine cw_seq ?_
  refine cw_region ?_
  refine rw_c rfl (or_buildSlice_cl u32 [1634760805#32, 857760878#32, 2036477234#32, 1797285236#32] u32_one hm2 Try.underlying46 ti22 rfl rfl rfl) ?_
  rintro _ w3 ⟨b19, rfl, _ew3, hm3⟩
  refine rw_q rfl (ev_assign (v := (slc b19 0 4 4)) rfl) ?_
  refine rw_nil ?_
  refine kThen_normal ?_
  refine cw_seq ?_
  refine cw_seq ?_
  refine cw_region ?_
  refine rw_q rfl (ev_assign (v := (i64 0)) rfl) ?_
  refine rw_nil ?_
  refine kThen_normal ?_
  refine cw_block ?_
  refine cw_rounds 9 ?_
  refine cr_succ ?_
  refine cw_seq ?_
  refine cw_seq ?_
  refine cw_region ?_
  refine rw_q rfl (ev_move (v := (i64 0)) rfl) ?_
  refine rw_q rfl (ev_i64_lss (a := 0) (b := 32) rfl rfl) ?_
  refine rw_nil ?_
  refine kThen_normal ?_
  refine cw_cond_t rfl (by decide) ?_
  refine cw_skip ?_
  refine kThen_normal ?_
  refine cw_seq ?_
  refine cw_block ?_
  refine cw_region ?_
  refine rw_q rfl (ev_move (v := (slc b19 0 4 4)) rfl) ?_
  refine rw_q rfl (ev_move (v := (i64 0)) rfl) ?_
  refine rw_q rfl (ev_move (v := (i64 0)) rfl) ?_
  refine rw_q (v := (i64 4)) rfl (ev_i64_add (a := 0) (b := 4) rfl rfl (by omega) (by omega)) ?_
  refine rw_q rfl (ev_slice_sla (i := 0) (j := 4) Try.underlying28 ti5 rfl (optI_some (k := .i64) (i := 0) rfl) (optI_some (k := .i64) (i := 4) rfl) (by omega) (by first | omega | (simp only [List.length_set, List.length_append, List.length_replicate, List.length_map, List.length_cons, List.length_nil]; omega) | (simp; done) | (simp; omega)) (by first | omega | (simp only [List.length_set, List.length_append, List.length_replicate, List.length_map, List.length_cons, List.length_nil]; omega) | (simp; done) | (simp; omega))) ?_
  refine rw_c rfl (opR_call Try.func19 bd19 nm19 (args1 rfl) (c_word3 (sla b3 0 1 0 4 32) ((key.drop 0).take 4) _ (Rd.cast (l' := (key.drop 0).take 4) (Rd.sla hm3.h2 (by first | omega | (simp only [List.length_set, List.length_append, List.length_replicate, List.length_map, List.length_cons, List.length_nil]; omega) | (simp; done) | (simp; omega)) (by omega) (by first | omega | (simp only [List.length_set, List.length_append, List.length_replicate, List.length_map, List.length_cons, List.length_nil]; omega) | (simp; done) | (simp; omega)) (by first | omega | (simp only [List.length_set, List.length_append, List.length_replicate, List.length_map, List.length_cons, List.length_nil]; omega) | (simp; done) | (simp; omega))) rfl) (by first | omega | (simp only [List.length_set, List.length_append, List.length_replicate, List.length_map, List.length_cons, List.length_nil]; omega) | (simp; done) | (simp; omega)))) ?_
  rintro _ w4 ⟨rfl, _ew4⟩
  have hm4 := hm3.ext _ew4
  refine rw_c rfl (or_buildSlice_cl u32 [wordRL ((key.drop 0).take 4)] u32_one hm4 Try.underlying46 ti22 rfl rfl rfl) ?_
  rintro _ w5 ⟨b30, rfl, _ew5, hm5⟩
  refine rw_c rfl (or_append (f := u32) (Mem.pick [_] [_] _ hm5) (Grow.of u32 22 b19 ([1634760805#32, 857760878#32, 2036477234#32, 1797285236#32])) rfl rfl (Rd.mkA hm5.h0) Try.underlying46 Try.underlying46 ti22 rfl u32_one (by first | omega | (simp only [List.length_set, List.length_append, List.length_replicate, List.length_map, List.length_cons, List.length_nil]; omega) | (simp; done) | (simp; omega)) (by first | omega | (simp only [List.length_set, List.length_append, List.length_replicate, List.length_map, List.length_cons, List.length_nil]; omega) | (simp; done) | (simp; omega))) ?_
  rintro sv6 w6 ⟨Hs6, hm6, g6⟩
  replace g6 : Grow u32 22 sv6 ([1634760805#32, 857760878#32, 2036477234#32, 1797285236#32, wordRL ((key.drop 0).take 4)]) Hs6 := g6
  refine rw_q rfl (ev_assign (v := sv6) rfl) ?_
  refine rw_nil ?_
  refine kBlk_normal ?_
  have hm7 := Mem.drop ([(b30, .cells (cl u32 ([wordRL ((key.drop 0).take 4)])) 22 (0, 0))]) _ (Mem.pick Hs6 [_] _ hm6)
  refine CW.abs (fun g => g 0 = (agg u8 key) ∧ g 1 = (u32 counter) ∧ g 2 = (agg u8 nonce) ∧ g 3 = (ptr b3 0) ∧ g 5 = (ptr b5 0) ∧ g 6 = (Value.slice none 0 0) ∧ g 7 = sv6 ∧ g 8 = (i64 0) ∧ g 21 = (bl true) ∧ True) ⟨rfl, rfl, rfl, rfl, rfl, rfl, rfl, rfl, rfl, trivial⟩ ?_
  rintro fr8 ⟨s0, s1, s2, s3, s5, s6, s7, s8, s21, _⟩
  refine cw_region ?_
  refine rw_q rfl (ev_move (v := (i64 0)) s8) ?_
  refine rw_q (v := (i64 4)) rfl (ev_i64_add (a := 0) (b := 4) rfl rfl (by omega) (by omega)) ?_
  refine rw_q rfl (ev_assign (v := (i64 4)) rfl) ?_
  refine rw_nil ?_
  refine kThen_normal ?_
  refine cr_succ ?_
  refine cw_seq ?_
  refine cw_seq ?_
  refine cw_region ?_
  refine rw_q rfl (ev_move (v := (i64 4)) rfl) ?_
  refine rw_q rfl (ev_i64_lss (a := 4) (b := 32) rfl rfl) ?_
  refine rw_nil ?_
  refine kThen_normal ?_
  refine cw_cond_t rfl (by decide) ?_
  refine cw_skip ?_
  refine kThen_normal ?_
  refine cw_seq ?_
  refine cw_block ?_
  refine cw_region ?_
  refine rw_q rfl (ev_move (v := sv6) s7) ?_
  refine rw_q rfl (ev_move (v := (i64 4)) rfl) ?_
  refine rw_q rfl (ev_move (v := (i64 4)) rfl) ?_
  refine rw_q (v := (i64 8)) rfl (ev_i64_add (a := 4) (b := 4) rfl rfl (by omega) (by omega)) ?_
  refine rw_q rfl (ev_slice_sla (i := 4) (j := 8) Try.underlying28 ti5 s3 (optI_some (k := .i64) (i := 4) rfl) (optI_some (k := .i64) (i := 8) rfl) (by omega) (by first | omega | (simp only [List.length_set, List.length_append, List.length_replicate, List.length_map, List.length_cons, List.length_nil]; omega) | (simp; done) | (simp; omega)) (by first | omega | (simp only [List.length_set, List.length_append, List.length_replicate, List.length_map, List.length_cons, List.length_nil]; omega) | (simp; done) | (simp; omega))) ?_
  refine rw_c rfl (opR_call Try.func19 bd19 nm19 (args1 rfl) (c_word3 (sla b3 0 1 4 8 32) ((key.drop 4).take 4) _ (Rd.cast (l' := (key.drop 4).take 4) (Rd.sla (hm7.own (b3, .cells (cl u8 key) 28 (0, 0)) (by simp)) (by first | omega | (simp only [List.length_set, List.length_append, List.length_replicate, List.length_map, List.length_cons, List.length_nil]; omega) | (simp; done) | (simp; omega)) (by omega) (by first | omega | (simp only [List.length_set, List.length_append, List.length_replicate, List.length_map, List.length_cons, List.length_nil]; omega) | (simp; done) | (simp; omega)) (by first | omega | (simp only [List.length_set, List.length_append, List.length_replicate, List.length_map, List.length_cons, List.length_nil]; omega) | (simp; done) | (simp; omega))) rfl) (by first | omega | (simp only [List.length_set, List.length_append, List.length_replicate, List.length_map, List.length_cons, List.length_nil]; omega) | (simp; done) | (simp; omega)))) ?_
  rintro _ w9 ⟨rfl, _ew9⟩
  have hm9 := hm7.ext _ew9
  refine rw_c rfl (or_buildSlice_cl u32 [wordRL ((key.drop 4).take 4)] u32_one hm9 Try.underlying46 ti22 rfl rfl rfl) ?_
  rintro _ w10 ⟨b30_1, rfl, _ew10, hm10⟩
  refine rw_c rfl (or_append (f := u32) (Mem.pick [_] Hs6 _ hm10) g6 rfl rfl (Rd.mkA hm10.h0) Try.underlying46 Try.underlying46 ti22 rfl u32_one (by first | omega | (simp only [List.length_set, List.length_append, List.length_replicate, List.length_map, List.length_cons, List.length_nil]; omega) | (simp; done) | (simp; omega)) (by first | omega | (simp only [List.length_set, List.length_append, List.length_replicate, List.length_map, List.length_cons, List.length_nil]; omega) | (simp; done) | (simp; omega))) ?_
  rintro sv11 w11 ⟨Hs11, hm11, g11⟩
  replace g11 : Grow u32 22 sv11 ([1634760805#32, 857760878#32, 2036477234#32, 1797285236#32, wordRL ((key.drop 0).take 4), wordRL ((key.drop 4).take 4)]) Hs11 := g11
  refine rw_q rfl (ev_assign (v := sv11) rfl) ?_
  refine rw_nil ?_
  refine kBlk_normal ?_
  have hm12 := Mem.drop ([(b30_1, .cells (cl u32 ([wordRL ((key.drop 4).take 4)])) 22 (0, 0))]) _ (Mem.pick Hs11 [_] _ hm11)
  refine CW.abs (fun g => g 0 = (agg u8 key) ∧ g 1 = (u32 counter) ∧ g 2 = (agg u8 nonce) ∧ g 3 = (ptr b3 0) ∧ g 5 = (ptr b5 0) ∧ g 6 = (Value.slice none 0 0) ∧ g 7 = sv11 ∧ g 8 = (i64 4) ∧ g 21 = (bl true) ∧ True) ⟨s0, s1, s2, s3, s5, s6, rfl, rfl, rfl, trivial⟩ ?_
  rintro fr13 ⟨s0, s1, s2, s3, s5, s6, s7, s8, s21, _⟩
  refine cw_region ?_
  refine rw_q rfl (ev_move (v := (i64 4)) s8) ?_
  refine rw_q (v := (i64 8)) rfl (ev_i64_add (a := 4) (b := 4) rfl rfl (by omega) (by omega)) ?_
  refine rw_q rfl (ev_assign (v := (i64 8)) rfl) ?_
  refine rw_nil ?_
  refine kThen_normal ?_
  refine cr_succ ?_
  refine cw_seq ?_
  refine cw_seq ?_
  refine cw_region ?_
  refine rw_q rfl (ev_move (v := (i64 8)) rfl) ?_
  refine rw_q rfl (ev_i64_lss (a := 8) (b := 32) rfl rfl) ?_
  refine rw_nil ?_
  refine kThen_normal ?_
  refine cw_cond_t rfl (by decide) ?_
  refine cw_skip ?_
  refine kThen_normal ?_
  refine cw_seq ?_
  refine cw_block ?_
  refine cw_region ?_
  refine rw_q rfl (ev_move (v := sv11) s7) ?_
  refine rw_q rfl (ev_move (v := (i64 8)) rfl) ?_
  refine rw_q rfl (ev_move (v := (i64 8)) rfl) ?_
  refine rw_q (v := (i64 12)) rfl (ev_i64_add (a := 8) (b := 4) rfl rfl (by omega) (by omega)) ?_
  refine rw_q rfl (ev_slice_sla (i := 8) (j := 12) Try.underlying28 ti5 s3 (optI_some (k := .i64) (i := 8) rfl) (optI_some (k := .i64) (i := 12) rfl) (by omega) (by first | omega | (simp only [List.length_set, List.length_append, List.length_replicate, List.length_map, List.length_cons, List.length_nil]; omega) | (simp; done) | (simp; omega)) (by first | omega | (simp only [List.length_set, List.length_append, List.length_replicate, List.length_map, List.length_cons, List.length_nil]; omega) | (simp; done) | (simp; omega))) ?_
  refine rw_c rfl (opR_call Try.func19 bd19 nm19 (args1 rfl) (c_word3 (sla b3 0 1 8 12 32) ((key.drop 8).take 4) _ (Rd.cast (l' := (key.drop 8).take 4) (Rd.sla (hm12.own (b3, .cells (cl u8 key) 28 (0, 0)) (by simp)) (by first | omega | (simp only [List.length_set, List.length_append, List.length_replicate, List.length_map, List.length_cons, List.length_nil]; omega) | (simp; done) | (simp; omega)) (by omega) (by first | omega | (simp only [List.length_set, List.length_append, List.length_replicate, List.length_map, List.length_cons, List.length_nil]; omega) | (simp; done) | (simp; omega)) (by first | omega | (simp only [List.length_set, List.length_append, List.length_replicate, List.length_map, List.length_cons, List.length_nil]; omega) | (simp; done) | (simp; omega))) rfl) (by first | omega | (simp only [List.length_set, List.length_append, List.length_replicate, List.length_map, List.length_cons, List.length_nil]; omega) | (simp; done) | (simp; omega)))) ?_
  rintro _ w14 ⟨rfl, _ew14⟩
  have hm14 := hm12.ext _ew14
  refine rw_c rfl (or_buildSlice_cl u32 [wordRL ((key.drop 8).take 4)] u32_one hm14 Try.underlying46 ti22 rfl rfl rfl) ?_
  rintro _ w15 ⟨b30_2, rfl, _ew15, hm15⟩
  refine rw_c rfl (or_append (f := u32) (Mem.pick [_] Hs11 _ hm15) g11 rfl rfl (Rd.mkA hm15.h0) Try.underlying46 Try.underlying46 ti22 rfl u32_one (by first | omega | (simp only [List.length_set, List.length_append, List.length_replicate, List.length_map, List.length_cons, List.length_nil]; omega) | (simp; done) | (simp; omega)) (by first | omega | (simp only [List.length_set, List.length_append, List.length_replicate, List.length_map, List.length_cons, List.length_nil]; omega) | (simp; done) | (simp; omega))) ?_
  rintro sv16 w16 ⟨Hs16, hm16, g16⟩
  replace g16 : Grow u32 22 sv16 ([1634760805#32, 857760878#32, 2036477234#32, 1797285236#32, wordRL ((key.drop 0).take 4), wordRL ((key.drop 4).take 4), wordRL ((key.drop 8).take 4)]) Hs16 := g16
  refine rw_q rfl (ev_assign (v := sv16) rfl) ?_
  refine rw_nil ?_
  refine kBlk_normal ?_
  have hm17 := Mem.drop ([(b30_2, .cells (cl u32 ([wordRL ((key.drop 8).take 4)])) 22 (0, 0))]) _ (Mem.pick Hs16 [_] _ hm16)
  refine CW.abs (fun g => g 0 = (agg u8 key) ∧ g 1 = (u32 counter) ∧ g 2 = (agg u8 nonce) ∧ g 3 = (ptr b3 0) ∧ g 5 = (ptr b5 0) ∧ g 6 = (Value.slice none 0 0) ∧ g 7 = sv16 ∧ g 8 = (i64 8) ∧ g 21 = (bl true) ∧ True) ⟨s0, s1, s2, s3, s5, s6, rfl, rfl, rfl, trivial⟩ ?_
  rintro fr18 ⟨s0, s1, s2, s3, s5, s6, s7, s8, s21, _⟩
  refine cw_region ?_
  refine rw_q rfl (ev_move (v := (i64 8)) s8) ?_
  refine rw_q (v := (i64 12)) rfl (ev_i64_add (a := 8) (b := 4) rfl rfl (by omega) (by omega)) ?_
  refine rw_q rfl (ev_assign (v := (i64 12)) rfl) ?_
  refine rw_nil ?_
  refine kThen_normal ?_
  refine cr_succ ?_
  refine cw_seq ?_
  refine cw_seq ?_
  refine cw_region ?_
  refine rw_q rfl (ev_move (v := (i64 12)) rfl) ?_
  refine rw_q rfl (ev_i64_lss (a := 12) (b := 32) rfl rfl) ?_
  refine rw_nil ?_
  refine kThen_normal ?_
  refine cw_cond_t rfl (by decide) ?_
  refine cw_skip ?_
  refine kThen_normal ?_
  refine cw_seq ?_
  refine cw_block ?_
  refine cw_region ?_
  refine rw_q rfl (ev_move (v := sv16) s7) ?_
  refine rw_q rfl (ev_move (v := (i64 12)) rfl) ?_
  refine rw_q rfl (ev_move (v := (i64 12)) rfl) ?_
  refine rw_q (v := (i64 16)) rfl (ev_i64_add (a := 12) (b := 4) rfl rfl (by omega) (by omega)) ?_
  refine rw_q rfl (ev_slice_sla (i := 12) (j := 16) Try.underlying28 ti5 s3 (optI_some (k := .i64) (i := 12) rfl) (optI_some (k := .i64) (i := 16) rfl) (by omega) (by first | omega | (simp only [List.length_set, List.length_append, List.length_replicate, List.length_map, List.length_cons, List.length_nil]; omega) | (simp; done) | (simp; omega)) (by first | omega | (simp only [List.length_set, List.length_append, List.length_replicate, List.length_map, List.length_cons, List.length_nil]; omega) | (simp; done) | (simp; omega))) ?_
  refine rw_c rfl (opR_call Try.func19 bd19 nm19 (args1 rfl) (c_word3 (sla b3 0 1 12 16 32) ((key.drop 12).take 4) _ (Rd.cast (l' := (key.drop 12).take 4) (Rd.sla (hm17.own (b3, .cells (cl u8 key) 28 (0, 0)) (by simp)) (by first | omega | (simp only [List.length_set, List.length_append, List.length_replicate, List.length_map, List.length_cons, List.length_nil]; omega) | (simp; done) | (simp; omega)) (by omega) (by first | omega | (simp only [List.length_set, List.length_append, List.length_replicate, List.length_map, List.length_cons, List.length_nil]; omega) | (simp; done) | (simp; omega)) (by first | omega | (simp only [List.length_set, List.length_append, List.length_replicate, List.length_map, List.length_cons, List.length_nil]; omega) | (simp; done) | (simp; omega))) rfl) (by first | omega | (simp only [List.length_set, List.length_append, List.length_replicate, List.length_map, List.length_cons, List.length_nil]; omega) | (simp; done) | (simp; omega)))) ?_
  rintro _ w19 ⟨rfl, _ew19⟩
  have hm19 := hm17.ext _ew19
  refine rw_c rfl (or_buildSlice_cl u32 [wordRL ((key.drop 12).take 4)] u32_one hm19 Try.underlying46 ti22 rfl rfl rfl) ?_
  rintro _ w20 ⟨b30_3, rfl, _ew20, hm20⟩
  refine rw_c rfl (or_append (f := u32) (Mem.pick [_] Hs16 _ hm20) g16 rfl rfl (Rd.mkA hm20.h0) Try.underlying46 Try.underlying46 ti22 rfl u32_one (by first | omega | (simp only [List.length_set, List.length_append, List.length_replicate, List.length_map, List.length_cons, List.length_nil]; omega) | (simp; done) | (simp; omega)) (by first | omega | (simp only [List.length_set, List.length_append, List.length_replicate, List.length_map, List.length_cons, List.length_nil]; omega) | (simp; done) | (simp; omega))) ?_
  rintro sv21 w21 ⟨Hs21, hm21, g21⟩
  replace g21 : Grow u32 22 sv21 ([1634760805#32, 857760878#32, 2036477234#32, 1797285236#32, wordRL ((key.drop 0).take 4), wordRL ((key.drop 4).take 4), wordRL ((key.drop 8).take 4), wordRL ((key.drop 12).take 4)]) Hs21 := g21
  refine rw_q rfl (ev_assign (v := sv21) rfl) ?_
  refine rw_nil ?_
  refine kBlk_normal ?_
  have hm22 := Mem.drop ([(b30_3, .cells (cl u32 ([wordRL ((key.drop 12).take 4)])) 22 (0, 0))]) _ (Mem.pick Hs21 [_] _ hm21)
  refine CW.abs (fun g => g 0 = (agg u8 key) ∧ g 1 = (u32 counter) ∧ g 2 = (agg u8 nonce) ∧ g 3 = (ptr b3 0) ∧ g 5 = (ptr b5 0) ∧ g 6 = (Value.slice none 0 0) ∧ g 7 = sv21 ∧ g 8 = (i64 12) ∧ g 21 = (bl true) ∧ True) ⟨s0, s1, s2, s3, s5, s6, rfl, rfl, rfl, trivial⟩ ?_
  rintro fr23 ⟨s0, s1, s2, s3, s5, s6, s7, s8, s21, _⟩
  refine cw_region ?_
  refine rw_q rfl (ev_move (v := (i64 12)) s8) ?_
  refine rw_q (v := (i64 16)) rfl (ev_i64_add (a := 12) (b := 4) rfl rfl (by omega) (by omega)) ?_
  refine rw_q rfl (ev_assign (v := (i64 16)) rfl) ?_
  refine rw_nil ?_
  refine kThen_normal ?_
  refine cr_succ ?_
  refine cw_seq ?_
  refine cw_seq ?_
  refine cw_region ?_
  refine rw_q rfl (ev_move (v := (i64 16)) rfl) ?_
  refine rw_q rfl (ev_i64_lss (a := 16) (b := 32) rfl rfl) ?_
  refine rw_nil ?_
  refine kThen_normal ?_
  refine cw_cond_t rfl (by decide) ?_
  refine cw_skip ?_
  refine kThen_normal ?_
  refine cw_seq ?_
  refine cw_block ?_
  refine cw_region ?_
  refine rw_q rfl (ev_move (v := sv21) s7) ?_
  refine rw_q rfl (ev_move (v := (i64 16)) rfl) ?_
  refine rw_q rfl (ev_move (v := (i64 16)) rfl) ?_
  refine rw_q (v := (i64 20)) rfl (ev_i64_add (a := 16) (b := 4) rfl rfl (by omega) (by omega)) ?_
  refine rw_q rfl (ev_slice_sla (i := 16) (j := 20) Try.underlying28 ti5 s3 (optI_some (k := .i64) (i := 16) rfl) (optI_some (k := .i64) (i := 20) rfl) (by omega) (by first | omega | (simp only [List.length_set, List.length_append, List.length_replicate, List.length_map, List.length_cons, List.length_nil]; omega) | (simp; done) | (simp; omega)) (by first | omega | (simp only [List.length_set, List.length_append, List.length_replicate, List.length_map, List.length_cons, List.length_nil]; omega) | (simp; done) | (simp; omega))) ?_
  refine rw_c rfl (opR_call Try.func19 bd19 nm19 (args1 rfl) (c_word3 (sla b3 0 1 16 20 32) ((key.drop 16).take 4) _ (Rd.cast (l' := (key.drop 16).take 4) (Rd.sla (hm22.own (b3, .cells (cl u8 key) 28 (0, 0)) (by simp)) (by first | omega | (simp only [List.length_set, List.length_append, List.length_replicate, List.length_map, List.length_cons, List.length_nil]; omega) | (simp; done) | (simp; omega)) (by omega) (by first | omega | (simp only [List.length_set, List.length_append, List.length_replicate, List.length_map, List.length_cons, List.length_nil]; omega) | (simp; done) | (simp; omega)) (by first | omega | (simp only [List.length_set, List.length_append, List.length_replicate, List.length_map, List.length_cons, List.length_nil]; omega) | (simp; done) | (simp; omega))) rfl) (by first | omega | (simp only [List.length_set, List.length_append, List.length_replicate, List.length_map, List.length_cons, List.length_nil]; omega) | (simp; done) | (simp; omega)))) ?_
  rintro _ w24 ⟨rfl, _ew24⟩
  have hm24 := hm22.ext _ew24
  refine rw_c rfl (or_buildSlice_cl u32 [wordRL ((key.drop 16).take 4)] u32_one hm24 Try.underlying46 ti22 rfl rfl rfl) ?_
  rintro _ w25 ⟨b30_4, rfl, _ew25, hm25⟩
  refine rw_c rfl (or_append (f := u32) (Mem.pick [_] Hs21 _ hm25) g21 rfl rfl (Rd.mkA hm25.h0) Try.underlying46 Try.underlying46 ti22 rfl u32_one (by first | omega | (simp only [List.length_set, List.length_append, List.length_replicate, List.length_map, List.length_cons, List.length_nil]; omega) | (simp; done) | (simp; omega)) (by first | omega | (simp only [List.length_set, List.length_append, List.length_replicate, List.length_map, List.length_cons, List.length_nil]; omega) | (simp; done) | (simp; omega))) ?_
  rintro sv26 w26 ⟨Hs26, hm26, g26⟩
  replace g26 : Grow u32 22 sv26 ([1634760805#32, 857760878#32, 2036477234#32, 1797285236#32, wordRL ((key.drop 0).take 4), wordRL ((key.drop 4).take 4), wordRL ((key.drop 8).take 4), wordRL ((key.drop 12).take 4), wordRL ((key.drop 16).take 4)]) Hs26 := g26
  refine rw_q rfl (ev_assign (v := sv26) rfl) ?_
  refine rw_nil ?_
  refine kBlk_normal ?_
  have hm27 := Mem.drop ([(b30_4, .cells (cl u32 ([wordRL ((key.drop 16).take 4)])) 22 (0, 0))]) _ (Mem.pick Hs26 [_] _ hm26)
  refine CW.abs (fun g => g 0 = (agg u8 key) ∧ g 1 = (u32 counter) ∧ g 2 = (agg u8 nonce) ∧ g 3 = (ptr b3 0) ∧ g 5 = (ptr b5 0) ∧ g 6 = (Value.slice none 0 0) ∧ g 7 = sv26 ∧ g 8 = (i64 16) ∧ g 21 = (bl true) ∧ True) ⟨s0, s1, s2, s3, s5, s6, rfl, rfl, rfl, trivial⟩ ?_
  rintro fr28 ⟨s0, s1, s2, s3, s5, s6, s7, s8, s21, _⟩
  refine cw_region ?_
  refine rw_q rfl (ev_move (v := (i64 16)) s8) ?_
  refine rw_q (v := (i64 20)) rfl (ev_i64_add (a := 16) (b := 4) rfl rfl (by omega) (by omega)) ?_
  refine rw_q rfl (ev_assign (v := (i64 20)) rfl) ?_
  refine rw_nil ?_
  refine kThen_normal ?_
  refine cr_succ ?_
  refine cw_seq ?_
  refine cw_seq ?_
  refine cw_region ?_
  refine rw_q rfl (ev_move (v := (i64 20)) rfl) ?_
  refine rw_q rfl (ev_i64_lss (a := 20) (b := 32) rfl rfl) ?_
  refine rw_nil ?_
  refine kThen_normal ?_
  refine cw_cond_t rfl (by decide) ?_
  refine cw_skip ?_
  refine kThen_normal ?_
  refine cw_seq ?_
  refine cw_block ?_
  refine cw_region ?_
  refine rw_q rfl (ev_move (v := sv26) s7) ?_
  refine rw_q rfl (ev_move (v := (i64 20)) rfl) ?_
  refine rw_q rfl (ev_move (v := (i64 20)) rfl) ?_
  refine rw_q (v := (i64 24)) rfl (ev_i64_add (a := 20) (b := 4) rfl rfl (by omega) (by omega)) ?_
  refine rw_q rfl (ev_slice_sla (i := 20) (j := 24) Try.underlying28 ti5 s3 (optI_some (k := .i64) (i := 20) rfl) (optI_some (k := .i64) (i := 24) rfl) (by omega) (by first | omega | (simp only [List.length_set, List.length_append, List.length_replicate, List.length_map, List.length_cons, List.length_nil]; omega) | (simp; done) | (simp; omega)) (by first | omega | (simp only [List.length_set, List.length_append, List.length_replicate, List.length_map, List.length_cons, List.length_nil]; omega) | (simp; done) | (simp; omega))) ?_
  refine rw_c rfl (opR_call Try.func19 bd19 nm19 (args1 rfl) (c_word3 (sla b3 0 1 20 24 32) ((key.drop 20).take 4) _ (Rd.cast (l' := (key.drop 20).take 4) (Rd.sla (hm27.own (b3, .cells (cl u8 key) 28 (0, 0)) (by simp)) (by first | omega | (simp only [List.length_set, List.length_append, List.length_replicate, List.length_map, List.length_cons, List.length_nil]; omega) | (simp; done) | (simp; omega)) (by omega) (by first | omega | (simp only [List.length_set, List.length_append, List.length_replicate, List.length_map, List.length_cons, List.length_nil]; omega) | (simp; done) | (simp; omega)) (by first | omega | (simp only [List.length_set, List.length_append, List.length_replicate, List.length_map, List.length_cons, List.length_nil]; omega) | (simp; done) | (simp; omega))) rfl) (by first | omega | (simp only [List.length_set, List.length_append, List.length_replicate, List.length_map, List.length_cons, List.length_nil]; omega) | (simp; done) | (simp; omega)))) ?_
  rintro _ w29 ⟨rfl, _ew29⟩
  have hm29 := hm27.ext _ew29
  refine rw_c rfl (or_buildSlice_cl u32 [wordRL ((key.drop 20).take 4)] u32_one hm29 Try.underlying46 ti22 rfl rfl rfl) ?_
  rintro _ w30 ⟨b30_5, rfl, _ew30, hm30⟩
  refine rw_c rfl (or_append (f := u32) (Mem.pick [_] Hs26 _ hm30) g26 rfl rfl (Rd.mkA hm30.h0) Try.underlying46 Try.underlying46 ti22 rfl u32_one (by first | omega | (simp only [List.length_set, List.length_append, List.length_replicate, List.length_map, List.length_cons, List.length_nil]; omega) | (simp; done) | (simp; omega)) (by first | omega | (simp only [List.length_set, List.length_append, List.length_replicate, List.length_map, List.length_cons, List.length_nil]; omega) | (simp; done) | (simp; omega))) ?_
  rintro sv31 w31 ⟨Hs31, hm31, g31⟩
  replace g31 : Grow u32 22 sv31 ([1634760805#32, 857760878#32, 2036477234#32, 1797285236#32, wordRL ((key.drop 0).take 4), wordRL ((key.drop 4).take 4), wordRL ((key.drop 8).take 4), wordRL ((key.drop 12).take 4), wordRL ((key.drop 16).take 4), wordRL ((key.drop 20).take 4)]) Hs31 := g31
  refine rw_q rfl (ev_assign (v := sv31) rfl) ?_
  refine rw_nil ?_
  refine kBlk_normal ?_
  have hm32 := Mem.drop ([(b30_5, .cells (cl u32 ([wordRL ((key.drop 20).take 4)])) 22 (0, 0))]) _ (Mem.pick Hs31 [_] _ hm31)
  refine CW.abs (fun g => g 0 = (agg u8 key) ∧ g 1 = (u32 counter) ∧ g 2 = (agg u8 nonce) ∧ g 3 = (ptr b3 0) ∧ g 5 = (ptr b5 0) ∧ g 6 = (Value.slice none 0 0) ∧ g 7 = sv31 ∧ g 8 = (i64 20) ∧ g 21 = (bl true) ∧ True) ⟨s0, s1, s2, s3, s5, s6, rfl, rfl, rfl, trivial⟩ ?_
  rintro fr33 ⟨s0, s1, s2, s3, s5, s6, s7, s8, s21, _⟩
  refine cw_region ?_
  refine rw_q rfl (ev_move (v := (i64 20)) s8) ?_
  refine rw_q (v := (i64 24)) rfl (ev_i64_add (a := 20) (b := 4) rfl rfl (by omega) (by omega)) ?_
  refine rw_q rfl (ev_assign (v := (i64 24)) rfl) ?_
  refine rw_nil ?_
  refine kThen_normal ?_
  refine cr_succ ?_
  refine cw_seq ?_
  refine cw_seq ?_
  refine cw_region ?_
  refine rw_q rfl (ev_move (v := (i64 24)) rfl) ?_
  refine rw_q rfl (ev_i64_lss (a := 24) (b := 32) rfl rfl) ?_
  refine rw_nil ?_
  refine kThen_normal ?_
  refine cw_cond_t rfl (by decide) ?_
  refine cw_skip ?_
  refine kThen_normal ?_
  refine cw_seq ?_
  refine cw_block ?_
  refine cw_region ?_
  refine rw_q rfl (ev_move (v := sv31) s7) ?_
  refine rw_q rfl (ev_move (v := (i64 24)) rfl) ?_
  refine rw_q rfl (ev_move (v := (i64 24)) rfl) ?_
  refine rw_q (v := (i64 28)) rfl (ev_i64_add (a := 24) (b := 4) rfl rfl (by omega) (by omega)) ?_
  refine rw_q rfl (ev_slice_sla (i := 24) (j := 28) Try.underlying28 ti5 s3 (optI_some (k := .i64) (i := 24) rfl) (optI_some (k := .i64) (i := 28) rfl) (by omega) (by first | omega | (simp only [List.length_set, List.length_append, List.length_replicate, List.length_map, List.length_cons, List.length_nil]; omega) | (simp; done) | (simp; omega)) (by first | omega | (simp only [List.length_set, List.length_append, List.length_replicate, List.length_map, List.length_cons, List.length_nil]; omega) | (simp; done) | (simp; omega))) ?_
  refine rw_c rfl (opR_call Try.func19 bd19 nm19 (args1 rfl) (c_word3 (sla b3 0 1 24 28 32) ((key.drop 24).take 4) _ (Rd.cast (l' := (key.drop 24).take 4) (Rd.sla (hm32.own (b3, .cells (cl u8 key) 28 (0, 0)) (by simp)) (by first | omega | (simp only [List.length_set, List.length_append, List.length_replicate, List.length_map, List.length_cons, List.length_nil]; omega) | (simp; done) | (simp; omega)) (by omega) (by first | omega | (simp only [List.length_set, List.length_append, List.length_replicate, List.length_map, List.length_cons, List.length_nil]; omega) | (simp; done) | (simp; omega)) (by first | omega | (simp only [List.length_set, List.length_append, List.length_replicate, List.length_map, List.length_cons, List.length_nil]; omega) | (simp; done) | (simp; omega))) rfl) (by first | omega | (simp only [List.length_set, List.length_append, List.length_replicate, List.length_map, List.length_cons, List.length_nil]; omega) | (simp; done) | (simp; omega)))) ?_
  rintro _ w34 ⟨rfl, _ew34⟩
  have hm34 := hm32.ext _ew34
  refine rw_c rfl (or_buildSlice_cl u32 [wordRL ((key.drop 24).take 4)] u32_one hm34 Try.underlying46 ti22 rfl rfl rfl) ?_
  rintro _ w35 ⟨b30_6, rfl, _ew35, hm35⟩
  refine rw_c rfl (or_append (f := u32) (Mem.pick [_] Hs31 _ hm35) g31 rfl rfl (Rd.mkA hm35.h0) Try.underlying46 Try.underlying46 ti22 rfl u32_one (by first | omega | (simp only [List.length_set, List.length_append, List.length_replicate, List.length_map, List.length_cons, List.length_nil]; omega) | (simp; done) | (simp; omega)) (by first | omega | (simp only [List.length_set, List.length_append, List.length_replicate, List.length_map, List.length_cons, List.length_nil]; omega) | (simp; done) | (simp; omega))) ?_
  rintro sv36 w36 ⟨Hs36, hm36, g36⟩
  replace g36 : Grow u32 22 sv36 ([1634760805#32, 857760878#32, 2036477234#32, 1797285236#32, wordRL ((key.drop 0).take 4), wordRL ((key.drop 4).take 4), wordRL ((key.drop 8).take 4), wordRL ((key.drop 12).take 4), wordRL ((key.drop 16).take 4), wordRL ((key.drop 20).take 4), wordRL ((key.drop 24).take 4)]) Hs36 := g36
  refine rw_q rfl (ev_assign (v := sv36) rfl) ?_
  refine rw_nil ?_
  refine kBlk_normal ?_
  have hm37 := Mem.drop ([(b30_6, .cells (cl u32 ([wordRL ((key.drop 24).take 4)])) 22 (0, 0))]) _ (Mem.pick Hs36 [_] _ hm36)
  refine CW.abs (fun g => g 0 = (agg u8 key) ∧ g 1 = (u32 counter) ∧ g 2 = (agg u8 nonce) ∧ g 3 = (ptr b3 0) ∧ g 5 = (ptr b5 0) ∧ g 6 = (Value.slice none 0 0) ∧ g 7 = sv36 ∧ g 8 = (i64 24) ∧ g 21 = (bl true) ∧ True) ⟨s0, s1, s2, s3, s5, s6, rfl, rfl, rfl, trivial⟩ ?_
  rintro fr38 ⟨s0, s1, s2, s3, s5, s6, s7, s8, s21, _⟩
  refine cw_region ?_
  refine rw_q rfl (ev_move (v := (i64 24)) s8) ?_
  refine rw_q (v := (i64 28)) rfl (ev_i64_add (a := 24) (b := 4) rfl rfl (by omega) (by omega)) ?_
  refine rw_q rfl (ev_assign (v := (i64 28)) rfl) ?_
  refine rw_nil ?_
  refine kThen_normal ?_
  refine cr_succ ?_
  refine cw_seq ?_
  refine cw_seq ?_
  refine cw_region ?_
  refine rw_q rfl (ev_move (v := (i64 28)) rfl) ?_
  refine rw_q rfl (ev_i64_lss (a := 28) (b := 32) rfl rfl) ?_
  refine rw_nil ?_
  refine kThen_normal ?_
  refine cw_cond_t rfl (by decide) ?_
  refine cw_skip ?_
  refine kThen_normal ?_
  refine cw_seq ?_
  refine cw_block ?_
  refine cw_region ?_
  refine rw_q rfl (ev_move (v := sv36) s7) ?_
  refine rw_q rfl (ev_move (v := (i64 28)) rfl) ?_
  refine rw_q rfl (ev_move (v := (i64 28)) rfl) ?_
  refine rw_q (v := (i64 32)) rfl (ev_i64_add (a := 28) (b := 4) rfl rfl (by omega) (by omega)) ?_
  refine rw_q rfl (ev_slice_sla (i := 28) (j := 32) Try.underlying28 ti5 s3 (optI_some (k := .i64) (i := 28) rfl) (optI_some (k := .i64) (i := 32) rfl) (by omega) (by first | omega | (simp only [List.length_set, List.length_append, List.length_replicate, List.length_map, List.length_cons, List.length_nil]; omega) | (simp; done) | (simp; omega)) (by first | omega | (simp only [List.length_set, List.length_append, List.length_replicate, List.length_map, List.length_cons, List.length_nil]; omega) | (simp; done) | (simp; omega))) ?_
  refine rw_c rfl (opR_call Try.func19 bd19 nm19 (args1 rfl) (c_word3 (sla b3 0 1 28 32 32) ((key.drop 28).take 4) _ (Rd.cast (l' := (key.drop 28).take 4) (Rd.sla (hm37.own (b3, .cells (cl u8 key) 28 (0, 0)) (by simp)) (by first | omega | (simp only [List.length_set, List.length_append, List.length_replicate, List.length_map, List.length_cons, List.length_nil]; omega) | (simp; done) | (simp; omega)) (by omega) (by first | omega | (simp only [List.length_set, List.length_append, List.length_replicate, List.length_map, List.length_cons, List.length_nil]; omega) | (simp; done) | (simp; omega)) (by first | omega | (simp only [List.length_set, List.length_append, List.length_replicate, List.length_map, List.length_cons, List.length_nil]; omega) | (simp; done) | (simp; omega))) rfl) (by first | omega | (simp only [List.length_set, List.length_append, List.length_replicate, List.length_map, List.length_cons, List.length_nil]; omega) | (simp; done) | (simp; omega)))) ?_
  rintro _ w39 ⟨rfl, _ew39⟩
  have hm39 := hm37.ext _ew39
  refine rw_c rfl (or_buildSlice_cl u32 [wordRL ((key.drop 28).take 4)] u32_one hm39 Try.underlying46 ti22 rfl rfl rfl) ?_
  rintro _ w40 ⟨b30_7, rfl, _ew40, hm40⟩
  refine rw_c rfl (or_append (f := u32) (Mem.pick [_] Hs36 _ hm40) g36 rfl rfl (Rd.mkA hm40.h0) Try.underlying46 Try.underlying46 ti22 rfl u32_one (by first | omega | (simp only [List.length_set, List.length_append, List.length_replicate, List.length_map, List.length_cons, List.length_nil]; omega) | (simp; done) | (simp; omega)) (by first | omega | (simp only [List.length_set, List.length_append, List.length_replicate, List.length_map, List.length_cons, List.length_nil]; omega) | (simp; done) | (simp; omega))) ?_
  rintro sv41 w41 ⟨Hs41, hm41, g41⟩
  replace g41 : Grow u32 22 sv41 ([1634760805#32, 857760878#32, 2036477234#32, 1797285236#32, wordRL ((key.drop 0).take 4), wordRL ((key.drop 4).take 4), wordRL ((key.drop 8).take 4), wordRL ((key.drop 12).take 4), wordRL ((key.drop 16).take 4), wordRL ((key.drop 20).take 4), wordRL ((key.drop 24).take 4), wordRL ((key.drop 28).take 4)]) Hs41 := g41
  refine rw_q rfl (ev_assign (v := sv41) rfl) ?_
  refine rw_nil ?_
  refine kBlk_normal ?_
  have hm42 := Mem.drop ([(b30_7, .cells (cl u32 ([wordRL ((key.drop 28).take 4)])) 22 (0, 0))]) _ (Mem.pick Hs41 [_] _ hm41)
  refine CW.abs (fun g => g 0 = (agg u8 key) ∧ g 1 = (u32 counter) ∧ g 2 = (agg u8 nonce) ∧ g 3 = (ptr b3 0) ∧ g 5 = (ptr b5 0) ∧ g 6 = (Value.slice none 0 0) ∧ g 7 = sv41 ∧ g 8 = (i64 28) ∧ g 21 = (bl true) ∧ True) ⟨s0, s1, s2, s3, s5, s6, rfl, rfl, rfl, trivial⟩ ?_
  rintro fr43 ⟨s0, s1, s2, s3, s5, s6, s7, s8, s21, _⟩
  refine cw_region ?_
  refine rw_q rfl (ev_move (v := (i64 28)) s8) ?_
  refine rw_q (v := (i64 32)) rfl (ev_i64_add (a := 28) (b := 4) rfl rfl (by omega) (by omega)) ?_
  refine rw_q rfl (ev_assign (v := (i64 32)) rfl) ?_
  refine rw_nil ?_
  refine kThen_normal ?_
  refine cr_succ ?_
  refine cw_seq ?_
  refine cw_seq ?_
  refine cw_region ?_
  refine rw_q rfl (ev_move (v := (i64 32)) rfl) ?_
  refine rw_q rfl (ev_i64_lss (a := 32) (b := 32) rfl rfl) ?_
  refine rw_nil ?_
  refine kThen_normal ?_
  refine cw_cond_f rfl (by decide) ?_
  refine cw_exit ?_
  refine kThen_exit (kThen_exit (kBlk_hit ?_))
  refine cw_seq ?_
  refine cw_region ?_
  refine rw_q rfl (ev_move (v := sv41) s7) ?_
  refine rw_q rfl (ev_move (v := (u32 counter)) s1) ?_
  refine rw_c rfl (or_buildSlice_cl u32 [counter] u32_one hm42 Try.underlying46 ti22 rfl rfl rfl) ?_
  rintro _ w44 ⟨b34, rfl, _ew44, hm44⟩
  refine rw_c rfl (or_append (f := u32) (Mem.pick [_] Hs41 _ hm44) g41 rfl rfl (Rd.mkA hm44.h0) Try.underlying46 Try.underlying46 ti22 rfl u32_one (by first | omega | (simp only [List.length_set, List.length_append, List.length_replicate, List.length_map, List.length_cons, List.length_nil]; omega) | (simp; done) | (simp; omega)) (by first | omega | (simp only [List.length_set, List.length_append, List.length_replicate, List.length_map, List.length_cons, List.length_nil]; omega) | (simp; done) | (simp; omega))) ?_
  rintro sv45 w45 ⟨Hs45, hm45, g45⟩
  replace g45 : Grow u32 22 sv45 ([1634760805#32, 857760878#32, 2036477234#32, 1797285236#32, wordRL ((key.drop 0).take 4), wordRL ((key.drop 4).take 4), wordRL ((key.drop 8).take 4), wordRL ((key.drop 12).take 4), wordRL ((key.drop 16).take 4), wordRL ((key.drop 20).take 4), wordRL ((key.drop 24).take 4), wordRL ((key.drop 28).take 4), counter]) Hs45 := g45
  refine rw_q rfl (ev_assign (v := sv45) rfl) ?_
  refine rw_nil ?_
  refine kThen_normal ?_
  refine cw_seq ?_
  refine cw_seq ?_
  refine cw_region ?_
  refine rw_q rfl (ev_assign (v := (i64 0)) rfl) ?_
  refine rw_nil ?_
  refine kThen_normal ?_
  have hm46 := Mem.drop ([(b34, .cells (cl u32 ([counter])) 22 (0, 0))]) _ (Mem.pick Hs45 [_] _ hm45)
  refine CW.abs (fun g => g 0 = (agg u8 key) ∧ g 1 = (u32 counter) ∧ g 2 = (agg u8 nonce) ∧ g 3 = (ptr b3 0) ∧ g 5 = (ptr b5 0) ∧ g 6 = (Value.slice none 0 0) ∧ g 7 = sv45 ∧ g 8 = (i64 32) ∧ g 9 = (i64 0) ∧ g 21 = (bl false) ∧ True) ⟨s0, s1, s2, s3, s5, s6, rfl, rfl, rfl, rfl, trivial⟩ ?_
  rintro fr47 ⟨s0, s1, s2, s3, s5, s6, s7, s8, s9, s21, _⟩
  refine cw_block ?_
  refine cw_rounds 4 ?_
  refine cr_succ ?_
  refine cw_seq ?_
  refine cw_seq ?_
  refine cw_region ?_
  refine rw_q rfl (ev_move (v := (i64 0)) s9) ?_
  refine rw_q rfl (ev_i64_lss (a := 0) (b := 12) rfl rfl) ?_
  refine rw_nil ?_
  refine kThen_normal ?_
  refine cw_cond_t rfl (by decide) ?_
  refine cw_skip ?_
  refine kThen_normal ?_
  refine cw_seq ?_
  refine cw_block ?_
  refine cw_region ?_
  refine rw_q rfl (ev_move (v := sv45) s7) ?_
  refine rw_q rfl (ev_move (v := (i64 0)) s9) ?_
  refine rw_q rfl (ev_move (v := (i64 0)) s9) ?_
  refine rw_q (v := (i64 4)) rfl (ev_i64_add (a := 0) (b := 4) rfl rfl (by omega) (by omega)) ?_
  refine rw_q rfl (ev_slice_sla (i := 0) (j := 4) Try.underlying30 ti5 s5 (optI_some (k := .i64) (i := 0) rfl) (optI_some (k := .i64) (i := 4) rfl) (by omega) (by first | omega | (simp only [List.length_set, List.length_append, List.length_replicate, List.length_map, List.length_cons, List.length_nil]; omega) | (simp; done) | (simp; omega)) (by first | omega | (simp only [List.length_set, List.length_append, List.length_replicate, List.length_map, List.length_cons, List.length_nil]; omega) | (simp; done) | (simp; omega))) ?_
  refine rw_c rfl (opR_call Try.func19 bd19 nm19 (args1 rfl) (c_word3 (sla b5 0 1 0 4 12) ((nonce.drop 0).take 4) _ (Rd.cast (l' := (nonce.drop 0).take 4) (Rd.sla (hm46.own (b5, .cells (cl u8 nonce) 30 (0, 0)) (by simp)) (by first | omega | (simp only [List.length_set, List.length_append, List.length_replicate, List.length_map, List.length_cons, List.length_nil]; omega) | (simp; done) | (simp; omega)) (by omega) (by first | omega | (simp only [List.length_set, List.length_append, List.length_replicate, List.length_map, List.length_cons, List.length_nil]; omega) | (simp; done) | (simp; omega)) (by first | omega | (simp only [List.length_set, List.length_append, List.length_replicate, List.length_map, List.length_cons, List.length_nil]; omega) | (simp; done) | (simp; omega))) rfl) (by first | omega | (simp only [List.length_set, List.length_append, List.length_replicate, List.length_map, List.length_cons, List.length_nil]; omega) | (simp; done) | (simp; omega)))) ?_
  rintro _ w48 ⟨rfl, _ew48⟩
  have hm48 := hm46.ext _ew48
  refine rw_c rfl (or_buildSlice_cl u32 [wordRL ((nonce.drop 0).take 4)] u32_one hm48 Try.underlying46 ti22 rfl rfl rfl) ?_
  rintro _ w49 ⟨b46, rfl, _ew49, hm49⟩
  refine rw_c rfl (or_append (f := u32) (Mem.pick [_] Hs45 _ hm49) g45 rfl rfl (Rd.mkA hm49.h0) Try.underlying46 Try.underlying46 ti22 rfl u32_one (by first | omega | (simp only [List.length_set, List.length_append, List.length_replicate, List.length_map, List.length_cons, List.length_nil]; omega) | (simp; done) | (simp; omega)) (by first | omega | (simp only [List.length_set, List.length_append, List.length_replicate, List.length_map, List.length_cons, List.length_nil]; omega) | (simp; done) | (simp; omega))) ?_
  rintro sv50 w50 ⟨Hs50, hm50, g50⟩
  replace g50 : Grow u32 22 sv50 ([1634760805#32, 857760878#32, 2036477234#32, 1797285236#32, wordRL ((key.drop 0).take 4), wordRL ((key.drop 4).take 4), wordRL ((key.drop 8).take 4), wordRL ((key.drop 12).take 4), wordRL ((key.drop 16).take 4), wordRL ((key.drop 20).take 4), wordRL ((key.drop 24).take 4), wordRL ((key.drop 28).take 4), counter, wordRL ((nonce.drop 0).take 4)]) Hs50 := g50
  refine rw_q rfl (ev_assign (v := sv50) rfl) ?_
  refine rw_nil ?_
  refine kBlk_normal ?_
  have hm51 := Mem.drop ([(b46, .cells (cl u32 ([wordRL ((nonce.drop 0).take 4)])) 22 (0, 0))]) _ (Mem.pick Hs50 [_] _ hm50)
  refine CW.abs (fun g => g 0 = (agg u8 key) ∧ g 1 = (u32 counter) ∧ g 2 = (agg u8 nonce) ∧ g 3 = (ptr b3 0) ∧ g 5 = (ptr b5 0) ∧ g 6 = (Value.slice none 0 0) ∧ g 7 = sv50 ∧ g 8 = (i64 32) ∧ g 9 = (i64 0) ∧ g 21 = (bl false) ∧ g 37 = (bl true) ∧ True) ⟨s0, s1, s2, s3, s5, s6, rfl, s8, s9, s21, rfl, trivial⟩ ?_
  rintro fr52 ⟨s0, s1, s2, s3, s5, s6, s7, s8, s9, s21, s37, _⟩
  refine cw_region ?_
  refine rw_q rfl (ev_move (v := (i64 0)) s9) ?_
  refine rw_q (v := (i64 4)) rfl (ev_i64_add (a := 0) (b := 4) rfl rfl (by omega) (by omega)) ?_
  refine rw_q rfl (ev_assign (v := (i64 4)) rfl) ?_
  refine rw_nil ?_
  refine kThen_normal ?_
  refine cr_succ ?_
  refine cw_seq ?_
  refine cw_seq ?_
  refine cw_region ?_
  refine rw_q rfl (ev_move (v := (i64 4)) rfl) ?_
  refine rw_q rfl (ev_i64_lss (a := 4) (b := 12) rfl rfl) ?_
  refine rw_nil ?_
  refine kThen_normal ?_
  refine cw_cond_t rfl (by decide) ?_
  refine cw_skip ?_
  refine kThen_normal ?_
  refine cw_seq ?_
  refine cw_block ?_
  refine cw_region ?_
  refine rw_q rfl (ev_move (v := sv50) s7) ?_
  refine rw_q rfl (ev_move (v := (i64 4)) rfl) ?_
  refine rw_q rfl (ev_move (v := (i64 4)) rfl) ?_
  refine rw_q (v := (i64 8)) rfl (ev_i64_add (a := 4) (b := 4) rfl rfl (by omega) (by omega)) ?_
  refine rw_q rfl (ev_slice_sla (i := 4) (j := 8) Try.underlying30 ti5 s5 (optI_some (k := .i64) (i := 4) rfl) (optI_some (k := .i64) (i := 8) rfl) (by omega) (by first | omega | (simp only [List.length_set, List.length_append, List.length_replicate, List.length_map, List.length_cons, List.length_nil]; omega) | (simp; done) | (simp; omega)) (by first | omega | (simp only [List.length_set, List.length_append, List.length_replicate, List.length_map, List.length_cons, List.length_nil]; omega) | (simp; done) | (simp; omega))) ?_
  refine rw_c rfl (opR_call Try.func19 bd19 nm19 (args1 rfl) (c_word3 (sla b5 0 1 4 8 12) ((nonce.drop 4).take 4) _ (Rd.cast (l' := (nonce.drop 4).take 4) (Rd.sla (hm51.own (b5, .cells (cl u8 nonce) 30 (0, 0)) (by simp)) (by first | omega | (simp only [List.length_set, List.length_append, List.length_replicate, List.length_map, List.length_cons, List.length_nil]; omega) | (simp; done) | (simp; omega)) (by omega) (by first | omega | (simp only [List.length_set, List.length_append, List.length_replicate, List.length_map, List.length_cons, List.length_nil]; omega) | (simp; done) | (simp; omega)) (by first | omega | (simp only [List.length_set, List.length_append, List.length_replicate, List.length_map, List.length_cons, List.length_nil]; omega) | (simp; done) | (simp; omega))) rfl) (by first | omega | (simp only [List.length_set, List.length_append, List.length_replicate, List.length_map, List.length_cons, List.length_nil]; omega) | (simp; done) | (simp; omega)))) ?_
  rintro _ w53 ⟨rfl, _ew53⟩
  have hm53 := hm51.ext _ew53
  refine rw_c rfl (or_buildSlice_cl u32 [wordRL ((nonce.drop 4).take 4)] u32_one hm53 Try.underlying46 ti22 rfl rfl rfl) ?_
  rintro _ w54 ⟨b46_1, rfl, _ew54, hm54⟩
  refine rw_c rfl (or_append (f := u32) (Mem.pick [_] Hs50 _ hm54) g50 rfl rfl (Rd.mkA hm54.h0) Try.underlying46 Try.underlying46 ti22 rfl u32_one (by first | omega | (simp only [List.length_set, List.length_append, List.length_replicate, List.length_map, List.length_cons, List.length_nil]; omega) | (simp; done) | (simp; omega)) (by first | omega | (simp only [List.length_set, List.length_append, List.length_replicate, List.length_map, List.length_cons, List.length_nil]; omega) | (simp; done) | (simp; omega))) ?_
  rintro sv55 w55 ⟨Hs55, hm55, g55⟩
  replace g55 : Grow u32 22 sv55 ([1634760805#32, 857760878#32, 2036477234#32, 1797285236#32, wordRL ((key.drop 0).take 4), wordRL ((key.drop 4).take 4), wordRL ((key.drop 8).take 4), wordRL ((key.drop 12).take 4), wordRL ((key.drop 16).take 4), wordRL ((key.drop 20).take 4), wordRL ((key.drop 24).take 4), wordRL ((key.drop 28).take 4), counter, wordRL ((nonce.drop 0).take 4), wordRL ((nonce.drop 4).take 4)]) Hs55 := g55
  refine rw_q rfl (ev_assign (v := sv55) rfl) ?_
  refine rw_nil ?_
  refine kBlk_normal ?_
  have hm56 := Mem.drop ([(b46_1, .cells (cl u32 ([wordRL ((nonce.drop 4).take 4)])) 22 (0, 0))]) _ (Mem.pick Hs55 [_] _ hm55)
  refine CW.abs (fun g => g 0 = (agg u8 key) ∧ g 1 = (u32 counter) ∧ g 2 = (agg u8 nonce) ∧ g 3 = (ptr b3 0) ∧ g 5 = (ptr b5 0) ∧ g 6 = (Value.slice none 0 0) ∧ g 7 = sv55 ∧ g 8 = (i64 32) ∧ g 9 = (i64 4) ∧ g 21 = (bl false) ∧ g 37 = (bl true) ∧ True) ⟨s0, s1, s2, s3, s5, s6, rfl, s8, rfl, s21, rfl, trivial⟩ ?_
  rintro fr57 ⟨s0, s1, s2, s3, s5, s6, s7, s8, s9, s21, s37, _⟩
  refine cw_region ?_
  refine rw_q rfl (ev_move (v := (i64 4)) s9) ?_
  refine rw_q (v := (i64 8)) rfl (ev_i64_add (a := 4) (b := 4) rfl rfl (by omega) (by omega)) ?_
  refine rw_q rfl (ev_assign (v := (i64 8)) rfl) ?_
  refine rw_nil ?_
  refine kThen_normal ?_
  refine cr_succ ?_
  refine cw_seq ?_
  refine cw_seq ?_
  refine cw_region ?_
  refine rw_q rfl (ev_move (v := (i64 8)) rfl) ?_
  refine rw_q rfl (ev_i64_lss (a := 8) (b := 12) rfl rfl) ?_
  refine rw_nil ?_
  refine kThen_normal ?_
  refine cw_cond_t rfl (by decide) ?_
  refine cw_skip ?_
  refine kThen_normal ?_
  refine cw_seq ?_
  refine cw_block ?_
  refine cw_region ?_
  refine rw_q rfl (ev_move (v := sv55) s7) ?_
  refine rw_q rfl (ev_move (v := (i64 8)) rfl) ?_
  refine rw_q rfl (ev_move (v := (i64 8)) rfl) ?_
  refine rw_q (v := (i64 12)) rfl (ev_i64_add (a := 8) (b := 4) rfl rfl (by omega) (by omega)) ?_
  refine rw_q rfl (ev_slice_sla (i := 8) (j := 12) Try.underlying30 ti5 s5 (optI_some (k := .i64) (i := 8) rfl) (optI_some (k := .i64) (i := 12) rfl) (by omega) (by first | omega | (simp only [List.length_set, List.length_append, List.length_replicate, List.length_map, List.length_cons, List.length_nil]; omega) | (simp; done) | (simp; omega)) (by first | omega | (simp only [List.length_set, List.length_append, List.length_replicate, List.length_map, List.length_cons, List.length_nil]; omega) | (simp; done) | (simp; omega))) ?_
  refine rw_c rfl (opR_call Try.func19 bd19 nm19 (args1 rfl) (c_word3 (sla b5 0 1 8 12 12) ((nonce.drop 8).take 4) _ (Rd.cast (l' := (nonce.drop 8).take 4) (Rd.sla (hm56.own (b5, .cells (cl u8 nonce) 30 (0, 0)) (by simp)) (by first | omega | (simp only [List.length_set, List.length_append, List.length_replicate, List.length_map, List.length_cons, List.length_nil]; omega) | (simp; done) | (simp; omega)) (by omega) (by first | omega | (simp only [List.length_set, List.length_append, List.length_replicate, List.length_map, List.length_cons, List.length_nil]; omega) | (simp; done) | (simp; omega)) (by first | omega | (simp only [List.length_set, List.length_append, List.length_replicate, List.length_map, List.length_cons, List.length_nil]; omega) | (simp; done) | (simp; omega))) rfl) (by first | omega | (simp only [List.length_set, List.length_append, List.length_replicate, List.length_map, List.length_cons, List.length_nil]; omega) | (simp; done) | (simp; omega)))) ?_
  rintro _ w58 ⟨rfl, _ew58⟩
  have hm58 := hm56.ext _ew58
  refine rw_c rfl (or_buildSlice_cl u32 [wordRL ((nonce.drop 8).take 4)] u32_one hm58 Try.underlying46 ti22 rfl rfl rfl) ?_
  rintro _ w59 ⟨b46_2, rfl, _ew59, hm59⟩
  refine rw_c rfl (or_append (f := u32) (Mem.pick [_] Hs55 _ hm59) g55 rfl rfl (Rd.mkA hm59.h0) Try.underlying46 Try.underlying46 ti22 rfl u32_one (by first | omega | (simp only [List.length_set, List.length_append, List.length_replicate, List.length_map, List.length_cons, List.length_nil]; omega) | (simp; done) | (simp; omega)) (by first | omega | (simp only [List.length_set, List.length_append, List.length_replicate, List.length_map, List.length_cons, List.length_nil]; omega) | (simp; done) | (simp; omega))) ?_
  rintro sv60 w60 ⟨Hs60, hm60, g60⟩
  replace g60 : Grow u32 22 sv60 ([1634760805#32, 857760878#32, 2036477234#32, 1797285236#32, wordRL ((key.drop 0).take 4), wordRL ((key.drop 4).take 4), wordRL ((key.drop 8).take 4), wordRL ((key.drop 12).take 4), wordRL ((key.drop 16).take 4), wordRL ((key.drop 20).take 4), wordRL ((key.drop 24).take 4), wordRL ((key.drop 28).take 4), counter, wordRL ((nonce.drop 0).take 4), wordRL ((nonce.drop 4).take 4), wordRL ((nonce.drop 8).take 4)]) Hs60 := g60
  refine rw_q rfl (ev_assign (v := sv60) rfl) ?_
  refine rw_nil ?_
  refine kBlk_normal ?_
  have hm61 := Mem.drop ([(b46_2, .cells (cl u32 ([wordRL ((nonce.drop 8).take 4)])) 22 (0, 0))]) _ (Mem.pick Hs60 [_] _ hm60)
  refine CW.abs (fun g => g 0 = (agg u8 key) ∧ g 1 = (u32 counter) ∧ g 2 = (agg u8 nonce) ∧ g 3 = (ptr b3 0) ∧ g 5 = (ptr b5 0) ∧ g 6 = (Value.slice none 0 0) ∧ g 7 = sv60 ∧ g 8 = (i64 32) ∧ g 9 = (i64 8) ∧ g 21 = (bl false) ∧ g 37 = (bl true) ∧ True) ⟨s0, s1, s2, s3, s5, s6, rfl, s8, rfl, s21, rfl, trivial⟩ ?_
  rintro fr62 ⟨s0, s1, s2, s3, s5, s6, s7, s8, s9, s21, s37, _⟩
  refine cw_region ?_
  refine rw_q rfl (ev_move (v := (i64 8)) s9) ?_
  refine rw_q (v := (i64 12)) rfl (ev_i64_add (a := 8) (b := 4) rfl rfl (by omega) (by omega)) ?_
  refine rw_q rfl (ev_assign (v := (i64 12)) rfl) ?_
  refine rw_nil ?_
  refine kThen_normal ?_
  refine cr_succ ?_
  refine cw_seq ?_
  refine cw_seq ?_
  refine cw_region ?_
  refine rw_q rfl (ev_move (v := (i64 12)) rfl) ?_
  refine rw_q rfl (ev_i64_lss (a := 12) (b := 12) rfl rfl) ?_
  refine rw_nil ?_
  refine kThen_normal ?_
  refine cw_cond_f rfl (by decide) ?_
  refine cw_exit ?_
  refine kThen_exit (kThen_exit (kBlk_hit ?_))
  refine cw_seq ?_
  refine cw_region ?_
  refine rw_c rfl (or_buildSlice_cl u32 [] u32_one hm61 Try.underlying46 ti22 rfl (by simp [pairs]) rfl) ?_
  rintro _ w63 ⟨b48, rfl, _ew63, hm63⟩
  refine rw_q rfl (ev_move (v := sv60) s7) ?_
  refine rw_c rfl (or_append (f := u32) hm63 (Grow.of u32 22 b48 ([])) rfl rfl (g60.rd (Mem.pick [_] Hs60 _ hm63)) Try.underlying46 Try.underlying46 ti22 rfl u32_one (by first | omega | (simp only [List.length_set, List.length_append, List.length_replicate, List.length_map, List.length_cons, List.length_nil]; omega) | (simp; done) | (simp; omega)) (by first | omega | (simp only [List.length_set, List.length_append, List.length_replicate, List.length_map, List.length_cons, List.length_nil]; omega) | (simp; done) | (simp; omega))) ?_
  rintro sv64 w64 ⟨Hs64, hm64, g64⟩
  replace g64 : Grow u32 22 sv64 ([1634760805#32, 857760878#32, 2036477234#32, 1797285236#32, wordRL ((key.drop 0).take 4), wordRL ((key.drop 4).take 4), wordRL ((key.drop 8).take 4), wordRL ((key.drop 12).take 4), wordRL ((key.drop 16).take 4), wordRL ((key.drop 20).take 4), wordRL ((key.drop 24).take 4), wordRL ((key.drop 28).take 4), counter, wordRL ((nonce.drop 0).take 4), wordRL ((nonce.drop 4).take 4), wordRL ((nonce.drop 8).take 4)]) Hs64 := g64
  refine rw_q rfl (ev_assign (v := sv64) rfl) ?_
  refine rw_nil ?_
  refine kThen_normal ?_
  refine cw_seq ?_
  refine cw_region ?_
  refine rw_c rfl (opR_call Try.func20 bd20 nm20 (args0) (c_order _)) ?_
  rintro _ w65 ⟨b1q66, b2q66, b3q66, b4q66, b5q66, b6q66, b7q66, b8q66, b9q66, rfl, k_w65⟩
  have hm65 : Mem w65 (restOf w0) ([(b9q66, .cells #[(slc b1q66 0 4 4), (slc b2q66 0 4 4), (slc b3q66 0 4 4), (slc b4q66 0 4 4), (slc b5q66 0 4 4), (slc b6q66 0 4 4), (slc b7q66 0 4 4), (slc b8q66 0 4 4)] 50 (0, 0)), (b8q66, .cells (cl i64 ([3, 4, 9, 14])) 3 (0, 0)), (b7q66, .cells (cl i64 ([2, 7, 8, 13])) 3 (0, 0)), (b6q66, .cells (cl i64 ([1, 6, 11, 12])) 3 (0, 0)), (b5q66, .cells (cl i64 ([0, 5, 10, 15])) 3 (0, 0)), (b4q66, .cells (cl i64 ([3, 7, 11, 15])) 3 (0, 0)), (b3q66, .cells (cl i64 ([2, 6, 10, 14])) 3 (0, 0)), (b2q66, .cells (cl i64 ([1, 5, 9, 13])) 3 (0, 0)), (b1q66, .cells (cl i64 ([0, 4, 8, 12])) 3 (0, 0))] ++ (Hs64 ++ (Hs60 ++ ([(b5, .cells (cl u8 nonce) 30 (0, 0)), (b3, .cells (cl u8 key) 28 (0, 0))])))) := Mem.new (H := Hs64 ++ (Hs60 ++ ([(b5, .cells (cl u8 nonce) 30 (0, 0)), (b3, .cells (cl u8 key) 28 (0, 0))]))) (H' := [(b9q66, .cells #[(slc b1q66 0 4 4), (slc b2q66 0 4 4), (slc b3q66 0 4 4), (slc b4q66 0 4 4), (slc b5q66 0 4 4), (slc b6q66 0 4 4), (slc b7q66 0 4 4), (slc b8q66 0 4 4)] 50 (0, 0)), (b8q66, .cells (cl i64 ([3, 4, 9, 14])) 3 (0, 0)), (b7q66, .cells (cl i64 ([2, 7, 8, 13])) 3 (0, 0)), (b6q66, .cells (cl i64 ([1, 6, 11, 12])) 3 (0, 0)), (b5q66, .cells (cl i64 ([0, 5, 10, 15])) 3 (0, 0)), (b4q66, .cells (cl i64 ([3, 7, 11, 15])) 3 (0, 0)), (b3q66, .cells (cl i64 ([2, 6, 10, 14])) 3 (0, 0)), (b2q66, .cells (cl i64 ([1, 5, 9, 13])) 3 (0, 0)), (b1q66, .cells (cl i64 ([0, 4, 8, 12])) 3 (0, 0))]) hm64 k_w65
  refine rw_q rfl (ev_assign (v := (slc b9q66 0 8 8)) rfl) ?_
  refine rw_nil ?_
  refine kThen_normal ?_
  refine CW.abs (fun g => g 0 = (agg u8 key) ∧ g 1 = (u32 counter) ∧ g 2 = (agg u8 nonce) ∧ g 3 = (ptr b3 0) ∧ g 5 = (ptr b5 0) ∧ g 6 = (Value.slice none 0 0) ∧ g 7 = sv60 ∧ g 8 = (i64 32) ∧ g 9 = (i64 12) ∧ g 10 = sv64 ∧ g 11 = (slc b9q66 0 8 8) ∧ g 21 = (bl false) ∧ g 37 = (bl false) ∧ True) ⟨s0, s1, s2, s3, s5, s6, s7, s8, rfl, rfl, rfl, s21, rfl, trivial⟩ ?_
  rintro fr67 ⟨s0, s1, s2, s3, s5, s6, s7, s8, s9, s10, s11, s21, s37, _⟩
  refine cw_seq ?_
  refine cw_seq ?_
  refine cw_region ?_
  refine rw_q rfl (ev_assign (v := (i64 0)) rfl) ?_
  refine rw_nil ?_
  refine kThen_normal ?_
  refine cw_block ?_
  refine cw_loop (fun g wv => ∃ (k : Nat) (vl : List (BitVec 32)) (sv : Value) (Hv : List (Nat × Obj)), (k ≤ 10) ∧ (vl.length = 16) ∧ (vl = rounds dblR k (beginR wordRL key counter nonce)) ∧ (Grow u32 22 sv vl Hv) ∧ g 0 = (agg u8 key) ∧ g 1 = (u32 counter) ∧ g 2 = (agg u8 nonce) ∧ g 3 = (ptr b3 0) ∧ g 5 = (ptr b5 0) ∧ g 6 = (Value.slice none 0 0) ∧ g 7 = sv60 ∧ g 8 = (i64 32) ∧ g 9 = (i64 12) ∧ g 10 = sv ∧ g 11 = (slc b9q66 0 8 8) ∧ g 12 = (i64 (k : Int)) ∧ g 21 = (bl false) ∧ g 37 = (bl false) ∧ Mem wv (restOf w0) (Hv ++ ([(b9q66, .cells #[(slc b1q66 0 4 4), (slc b2q66 0 4 4), (slc b3q66 0 4 4), (slc b4q66 0 4 4), (slc b5q66 0 4 4), (slc b6q66 0 4 4), (slc b7q66 0 4 4), (slc b8q66 0 4 4)] 50 (0, 0)), (b8q66, .cells (cl i64 ([3, 4, 9, 14])) 3 (0, 0)), (b7q66, .cells (cl i64 ([2, 7, 8, 13])) 3 (0, 0)), (b6q66, .cells (cl i64 ([1, 6, 11, 12])) 3 (0, 0)), (b5q66, .cells (cl i64 ([0, 5, 10, 15])) 3 (0, 0)), (b4q66, .cells (cl i64 ([3, 7, 11, 15])) 3 (0, 0)), (b3q66, .cells (cl i64 ([2, 6, 10, 14])) 3 (0, 0)), (b2q66, .cells (cl i64 ([1, 5, 9, 13])) 3 (0, 0)), (b1q66, .cells (cl i64 ([0, 4, 8, 12])) 3 (0, 0))] ++ (Hs60 ++ ([(b5, .cells (cl u8 nonce) 30 (0, 0)), (b3, .cells (cl u8 key) 28 (0, 0))]))))) (fun g _ => (10 - RowKit.intOf (g 12)).toNat) ?_ ?_
  have hm68 := (Mem.pick4 [_, _, _, _, _, _, _, _, _] Hs64 Hs60 [_] [_] _ hm65)
  have hm69 := (Mem.pick3 [_, _, _, _, _, _, _, _, _, _] Hs64 Hs60 [_] _ hm68)
  have hm70 := (Mem.pick2 [_, _, _, _, _, _, _, _, _, _, _] Hs64 Hs60 _ hm69)
  have hm71 := (Mem.pick2 Hs60 [_, _, _, _, _, _, _, _, _, _] [_] _ hm70)
  have hm72 := (Mem.pick3 [_] Hs60 [_, _, _, _, _, _, _, _, _] [_] _ hm71)
  have hm73 := (Mem.pick3 [_, _] Hs60 [_, _, _, _, _, _, _, _] [_] _ hm72)
  have hm74 := (Mem.pick3 [_, _, _] Hs60 [_, _, _, _, _, _, _] [_] _ hm73)
  have hm75 := (Mem.pick3 [_, _, _, _] Hs60 [_, _, _, _, _, _] [_] _ hm74)
  have hm76 := (Mem.pick3 [_, _, _, _, _] Hs60 [_, _, _, _, _] [_] _ hm75)
  have hm77 := (Mem.pick3 [_, _, _, _, _, _] Hs60 [_, _, _, _] [_] _ hm76)
  have hm78 := (Mem.pick3 [_, _, _, _, _, _, _] Hs60 [_, _, _] [_] _ hm77)
  have hm79 := (Mem.pick3 [_, _, _, _, _, _, _, _] Hs60 [_, _] [_] _ hm78)
  have hm80 := (Mem.pick3 [_, _, _, _, _, _, _, _, _] Hs60 [_, _] Hs64 _ hm79)
  · exact ⟨0, [1634760805#32, 857760878#32, 2036477234#32, 1797285236#32, wordRL ((key.drop 0).take 4), wordRL ((key.drop 4).take 4), wordRL ((key.drop 8).take 4), wordRL ((key.drop 12).take 4), wordRL ((key.drop 16).take 4), wordRL ((key.drop 20).take 4), wordRL ((key.drop 24).take 4), wordRL ((key.drop 28).take 4), counter, wordRL ((nonce.drop 0).take 4), wordRL ((nonce.drop 4).take 4), wordRL ((nonce.drop 8).take 4)], sv64, Hs64, (by omega), rfl, rfl, g64, s0, s1, s2, s3, s5, s6, s7, s8, s9, s10, s11, rfl, s21, s37, hm80⟩
  · rintro fr81 w82 ⟨k, vl, sv, Hv, hk1, hvl, hv, gv, s0, s1, s2, s3, s5, s6, s7, s8, s9, s10, s11, s12, s21, s37, hm82⟩
    have z12 := s12
    have z10 := s10
    refine cw_seq ?_
    refine cw_seq ?_
    refine cw_region ?_
    refine rw_q rfl (ev_move (v := (i64 (k : Int))) s12) ?_
    refine rw_q rfl (ev_i64_lss (b := 10) rfl rfl) ?_
    refine rw_nil ?_
    refine kThen_normal ?_
    refine cw_cond rfl (fun hc83 => ?_) (fun hc83 => ?_)
    · -- true
      have hc83p := of_decide_eq_true hc83
      obtain ⟨x0, x1, x2, x3, x4, x5, x6, x7, x8, x9, x10, x11, x12, x13, x14, x15, rfl⟩ := list16 vl hvl
      refine cw_skip ?_
      refine kThen_normal ?_
      refine cw_seq ?_
      refine cw_block ?_
      refine cw_seq ?_
      refine cw_region ?_
      refine rw_q rfl (ev_assign (v := (i64 0)) rfl) ?_
      refine rw_nil ?_
      refine kThen_normal ?_
      refine cw_block' ?_
      refine cw_rounds 9 ?_
      refine cr_succ ?_
      refine cw_seq ?_
      refine cw_seq ?_
      refine cw_region ?_
      refine rw_q rfl (ev_move (v := (i64 0)) rfl) ?_
      refine rw_q rfl (ev_i64_lss (a := 0) (b := 8) rfl rfl) ?_
      refine rw_nil ?_
      refine kThen_normal ?_
      refine cw_cond_t rfl (by decide) ?_
      refine cw_skip ?_
      refine kThen_normal ?_
      refine cw_seq ?_
      refine cw_block ?_
      refine cw_seq ?_
      refine cw_draw [(0, false), (1, false), (2, false), (3, false), (4, false), (5, false), (6, false), (7, false), (8, false), (9, false), (10, false), (11, false), (12, false), (13, false), (14, false), (15, false), (16, false), (17, false), (18, false), (19, false), (20, false), (21, false), (22, false), (23, false), (24, false), (25, false), (26, false), (27, false), (28, false), (29, false), (30, false), (31, false), (32, false), (33, false), (34, false), (35, false), (36, false), (37, false), (38, true)] 39 (by kernel_rfl) ?_
      refine dw_q rfl rfl (fun _ _hx => ev_move (v := sv) s10) ?_
      refine dw_q rfl rfl (fun _ _hx => ev_move (v := (slc b9q66 0 8 8)) s11) ?_
      refine dw_q rfl rfl (fun _ _hx => ev_move (v := (i64 0)) rfl) ?_
      refine dw_q rfl rfl (fun _ _hx => ev_ia_slc (r := 0) (i := 0) (by omega) Try.underlying48 ti50 rfl rfl (by omega) (by omega)) ?_
      refine dw_q (v := (slc b1q66 0 4 4)) rfl rfl (fun _ _hx => ev_load1 Try.underlying50 rfl rfl ((hm82.ext _hx).own (b9q66, .cells #[(slc b1q66 0 4 4), (slc b2q66 0 4 4), (slc b3q66 0 4 4), (slc b4q66 0 4 4), (slc b5q66 0 4 4), (slc b6q66 0 4 4), (slc b7q66 0 4 4), (slc b8q66 0 4 4)] 50 (0, 0)) (by simp)) rfl) ?_
      refine dw_q rfl rfl (fun _ _hx => ev_ia_slc (r := 0) (i := 0) (by omega) Try.underlying50 ti3 rfl rfl (by omega) (by omega)) ?_
      refine dw_q (v := (i64 0)) rfl rfl (fun _ _hx => ev_load1 Try.underlying3 rfl rfl ((hm82.ext _hx).own (b1q66, .cells (cl i64 ([0, 4, 8, 12])) 3 (0, 0)) (by simp)) (get_clD _ _ 0 (by simp))) ?_
      refine dw_q rfl rfl (fun _ _hx => ev_indexAddr_rdv (i := 0) (gv.rd (hm82.ext _hx)) Try.underlying46 ti22 rfl rfl (by omega) (by simp)) ?_
      refine dw_q (v := (u32 x0)) rfl rfl (fun _ _hx => ev_load_rdD (l := [x0, x1, x2, x3, x4, x5, x6, x7, x8, x9, x10, x11, x12, x13, x14, x15]) (i := 0) (dflt := 0) (gv.rd (hm82.ext _hx)) Try.underlying22 rfl (by omega) (by simp) rfl) ?_
      refine dw_q rfl rfl (fun _ _hx => ev_move (v := sv) s10) ?_
      refine dw_q rfl rfl (fun _ _hx => ev_move (v := (slc b9q66 0 8 8)) s11) ?_
      refine dw_q rfl rfl (fun _ _hx => ev_move (v := (i64 0)) rfl) ?_
      refine dw_q rfl rfl (fun _ _hx => ev_ia_slc (r := 0) (i := 0) (by omega) Try.underlying48 ti50 rfl rfl (by omega) (by omega)) ?_
      refine dw_q (v := (slc b1q66 0 4 4)) rfl rfl (fun _ _hx => ev_load1 Try.underlying50 rfl rfl ((hm82.ext _hx).own (b9q66, .cells #[(slc b1q66 0 4 4), (slc b2q66 0 4 4), (slc b3q66 0 4 4), (slc b4q66 0 4 4), (slc b5q66 0 4 4), (slc b6q66 0 4 4), (slc b7q66 0 4 4), (slc b8q66 0 4 4)] 50 (0, 0)) (by simp)) rfl) ?_
      refine dw_q rfl rfl (fun _ _hx => ev_ia_slc (r := 1) (i := 1) (by omega) Try.underlying50 ti3 rfl rfl (by omega) (by omega)) ?_
      refine dw_q (v := (i64 4)) rfl rfl (fun _ _hx => ev_load1 Try.underlying3 rfl rfl ((hm82.ext _hx).own (b1q66, .cells (cl i64 ([0, 4, 8, 12])) 3 (0, 0)) (by simp)) (get_clD _ _ 0 (by simp))) ?_
      refine dw_q rfl rfl (fun _ _hx => ev_indexAddr_rdv (i := 4) (gv.rd (hm82.ext _hx)) Try.underlying46 ti22 rfl rfl (by omega) (by simp)) ?_
      refine dw_q (v := (u32 x4)) rfl rfl (fun _ _hx => ev_load_rdD (l := [x0, x1, x2, x3, x4, x5, x6, x7, x8, x9, x10, x11, x12, x13, x14, x15]) (i := 4) (dflt := 0) (gv.rd (hm82.ext _hx)) Try.underlying22 rfl (by omega) (by simp) rfl) ?_
      refine dw_q rfl rfl (fun _ _hx => ev_move (v := sv) s10) ?_
      refine dw_q rfl rfl (fun _ _hx => ev_move (v := (slc b9q66 0 8 8)) s11) ?_
      refine dw_q rfl rfl (fun _ _hx => ev_move (v := (i64 0)) rfl) ?_
      refine dw_q rfl rfl (fun _ _hx => ev_ia_slc (r := 0) (i := 0) (by omega) Try.underlying48 ti50 rfl rfl (by omega) (by omega)) ?_
      refine dw_q (v := (slc b1q66 0 4 4)) rfl rfl (fun _ _hx => ev_load1 Try.underlying50 rfl rfl ((hm82.ext _hx).own (b9q66, .cells #[(slc b1q66 0 4 4), (slc b2q66 0 4 4), (slc b3q66 0 4 4), (slc b4q66 0 4 4), (slc b5q66 0 4 4), (slc b6q66 0 4 4), (slc b7q66 0 4 4), (slc b8q66 0 4 4)] 50 (0, 0)) (by simp)) rfl) ?_
      refine dw_q rfl rfl (fun _ _hx => ev_ia_slc (r := 2) (i := 2) (by omega) Try.underlying50 ti3 rfl rfl (by omega) (by omega)) ?_
      refine dw_q (v := (i64 8)) rfl rfl (fun _ _hx => ev_load1 Try.underlying3 rfl rfl ((hm82.ext _hx).own (b1q66, .cells (cl i64 ([0, 4, 8, 12])) 3 (0, 0)) (by simp)) (get_clD _ _ 0 (by simp))) ?_
      refine dw_q rfl rfl (fun _ _hx => ev_indexAddr_rdv (i := 8) (gv.rd (hm82.ext _hx)) Try.underlying46 ti22 rfl rfl (by omega) (by simp)) ?_
      refine dw_q (v := (u32 x8)) rfl rfl (fun _ _hx => ev_load_rdD (l := [x0, x1, x2, x3, x4, x5, x6, x7, x8, x9, x10, x11, x12, x13, x14, x15]) (i := 8) (dflt := 0) (gv.rd (hm82.ext _hx)) Try.underlying22 rfl (by omega) (by simp) rfl) ?_
      refine dw_q rfl rfl (fun _ _hx => ev_move (v := sv) s10) ?_
      refine dw_q rfl rfl (fun _ _hx => ev_move (v := (slc b9q66 0 8 8)) s11) ?_
      refine dw_q rfl rfl (fun _ _hx => ev_move (v := (i64 0)) rfl) ?_
      refine dw_q rfl rfl (fun _ _hx => ev_ia_slc (r := 0) (i := 0) (by omega) Try.underlying48 ti50 rfl rfl (by omega) (by omega)) ?_
      refine dw_q (v := (slc b1q66 0 4 4)) rfl rfl (fun _ _hx => ev_load1 Try.underlying50 rfl rfl ((hm82.ext _hx).own (b9q66, .cells #[(slc b1q66 0 4 4), (slc b2q66 0 4 4), (slc b3q66 0 4 4), (slc b4q66 0 4 4), (slc b5q66 0 4 4), (slc b6q66 0 4 4), (slc b7q66 0 4 4), (slc b8q66 0 4 4)] 50 (0, 0)) (by simp)) rfl) ?_
      refine dw_q rfl rfl (fun _ _hx => ev_ia_slc (r := 3) (i := 3) (by omega) Try.underlying50 ti3 rfl rfl (by omega) (by omega)) ?_
      refine dw_q (v := (i64 12)) rfl rfl (fun _ _hx => ev_load1 Try.underlying3 rfl rfl ((hm82.ext _hx).own (b1q66, .cells (cl i64 ([0, 4, 8, 12])) 3 (0, 0)) (by simp)) (get_clD _ _ 0 (by simp))) ?_
      refine dw_q rfl rfl (fun _ _hx => ev_indexAddr_rdv (i := 12) (gv.rd (hm82.ext _hx)) Try.underlying46 ti22 rfl rfl (by omega) (by simp)) ?_
      refine dw_q (v := (u32 x12)) rfl rfl (fun _ _hx => ev_load_rdD (l := [x0, x1, x2, x3, x4, x5, x6, x7, x8, x9, x10, x11, x12, x13, x14, x15]) (i := 12) (dflt := 0) (gv.rd (hm82.ext _hx)) Try.underlying22 rfl (by omega) (by simp) rfl) ?_
      refine dw_q rfl rfl (fun _ _hx => ev_build_cl u32 [x0, x4, x8, x12] u32_one ti23 Try.underlying23 ti22 rfl rfl) ?_
      obtain ⟨q86, hq86⟩ : ∃ q, q = quarterL left3 x0 x4 x8 x12 := ⟨_, rfl⟩
      have hq86l : q86.length = 4 := by rw [hq86]; rfl
      refine dw_x (v := (agg u32 q86)) rfl rfl (fun w84 _ew84 => OpR.mono (opR_call Try.func10 bd10 nm10 (args1 rfl) (c_quarter3 x0 x4 x8 x12 _)) (by rintro _ w85 ⟨rfl, _ew85⟩; exact ⟨by rw [hq86], _ew85⟩)) ?_
      refine dw_c rfl rfl (fun w87 _ew87 => ?_)
      have hm87 := hm82.ext _ew87
      refine OpR.mono (or_alloc_agg hm87 ti23) ?_
      rintro _ w88 ⟨b14, rfl, _ew88, hm88⟩
      refine ⟨_ew88, ?_⟩
      refine dw_nil (fun w89 _ew89 => ?_)
      have hm89 := hm88.ext _ew89
      refine rw_n (or_store_agg (f := u32) (l := q86) u32_one ti23 rfl rfl (by first | omega | (simp only [List.length_set, List.length_append, List.length_replicate, List.length_map, List.length_cons, List.length_nil]; omega) | (simp; done) | (simp; omega)) hm89.h0 (by rw [size_cl]; first | omega | (simp only [List.length_set, List.length_append, List.length_replicate, List.length_map, List.length_cons, List.length_nil]; omega) | (simp; done) | (simp; omega)) rfl) ?_
      rintro _ w90 uq90
      have hm90 := hm89.upd0 uq90
      refine rw_nil ?_
      refine kThen_normal ?_
      refine CW.abs (fun g => g 0 = (agg u8 key) ∧ g 1 = (u32 counter) ∧ g 2 = (agg u8 nonce) ∧ g 3 = (ptr b3 0) ∧ g 5 = (ptr b5 0) ∧ g 6 = (Value.slice none 0 0) ∧ g 7 = sv60 ∧ g 8 = (i64 32) ∧ g 9 = (i64 12) ∧ g 10 = sv ∧ g 11 = (slc b9q66 0 8 8) ∧ g 12 = (i64 (k : Int)) ∧ g 13 = (i64 0) ∧ g 14 = (ptr b14 0) ∧ g 21 = (bl false) ∧ g 37 = (bl false) ∧ g 53 = (bl (decide ((k : Int) < 10))) ∧ g 57 = (bl true) ∧ True) ⟨s0, s1, s2, s3, s5, s6, s7, s8, s9, s10, s11, s12, rfl, rfl, s21, s37, rfl, rfl, trivial⟩ ?_
      rintro fr91 ⟨s0, s1, s2, s3, s5, s6, s7, s8, s9, s10, s11, s12, s13, s14, s21, s37, s53, s57, _⟩
      refine cw_seq ?_
      refine cw_region ?_
      refine rw_q rfl (ev_assign (v := (i64 0)) rfl) ?_
      refine rw_nil ?_
      refine kThen_normal ?_
      refine cw_block' ?_
      refine cw_rounds 5 ?_
      refine cr_succ ?_
      refine cw_seq ?_
      refine cw_seq ?_
      refine cw_region ?_
      refine rw_q rfl (ev_move (v := (i64 0)) rfl) ?_
      refine rw_q rfl (ev_i64_lss (a := 0) (b := 4) rfl rfl) ?_
      refine rw_nil ?_
      refine kThen_normal ?_
      refine cw_cond_t rfl (by decide) ?_
      refine cw_skip ?_
      refine kThen_normal ?_
      refine cw_seq ?_
      refine cw_block ?_
      refine cw_draw [(0, false), (1, false), (2, false), (3, false), (4, false), (5, false), (6, false), (7, false), (8, false), (9, false), (10, false)] 11 (by kernel_rfl) ?_
      refine dw_q rfl rfl (fun _ _hx => ev_move (v := sv) s10) ?_
      refine dw_q rfl rfl (fun _ _hx => ev_move (v := (slc b9q66 0 8 8)) s11) ?_
      refine dw_q rfl rfl (fun _ _hx => ev_move (v := (i64 0)) s13) ?_
      refine dw_q rfl rfl (fun _ _hx => ev_ia_slc (r := 0) (i := 0) (by omega) Try.underlying48 ti50 rfl rfl (by omega) (by omega)) ?_
      refine dw_q (v := (slc b1q66 0 4 4)) rfl rfl (fun _ _hx => ev_load1 Try.underlying50 rfl rfl ((hm90.ext _hx).own (b9q66, .cells #[(slc b1q66 0 4 4), (slc b2q66 0 4 4), (slc b3q66 0 4 4), (slc b4q66 0 4 4), (slc b5q66 0 4 4), (slc b6q66 0 4 4), (slc b7q66 0 4 4), (slc b8q66 0 4 4)] 50 (0, 0)) (by simp)) rfl) ?_
      refine dw_q rfl rfl (fun _ _hx => ev_move (v := (i64 0)) rfl) ?_
      refine dw_q rfl rfl (fun _ _hx => ev_ia_slc (r := 0) (i := 0) (by omega) Try.underlying50 ti3 rfl rfl (by omega) (by omega)) ?_
      refine dw_q (v := (i64 0)) rfl rfl (fun _ _hx => ev_load1 Try.underlying3 rfl rfl ((hm90.ext _hx).own (b1q66, .cells (cl i64 ([0, 4, 8, 12])) 3 (0, 0)) (by simp)) (get_clD _ _ 0 (by simp))) ?_
      refine dw_q rfl rfl (fun _ _hx => ev_move (v := (i64 0)) rfl) ?_
      refine dw_q rfl rfl (fun _ _hx => ev_ia_arr (r := 0) (i := 0) (by omega) Try.underlying23 ti22 s14 rfl (by omega) (by omega)) ?_
      refine dw_q (v := (u32 (q86.getD 0 0))) rfl rfl (fun _ _hx => ev_load1 Try.underlying22 rfl rfl (hm90.ext _hx).h0 (get_clD _ _ 0 (by first | omega | (simp only [List.length_set, List.length_append, List.length_replicate, List.length_map, List.length_cons, List.length_nil]; omega) | (simp; done) | (simp; omega)))) ?_
      refine dw_nil (fun w92 _ew92 => ?_)
      have hm92 := hm90.ext _ew92
      refine rw_q rfl (ev_indexAddr_rdv (i := 0) (gv.rd (Mem.pick [_] Hv _ hm92)) Try.underlying46 ti22 rfl rfl (by omega) (by simp)) ?_
      refine rw_n (or_store_grow (i := 0) (a := q86.getD 0 0) (Mem.pick [_] Hv _ hm92) gv u32_one ti22 (by omega) (by simp) rfl rfl) ?_
      rintro _ w93 ⟨Hs93, hm93, g93⟩
      replace g93 : Grow u32 22 sv ([q86.getD 0 0, x1, x2, x3, x4, x5, x6, x7, x8, x9, x10, x11, x12, x13, x14, x15]) Hs93 := g93
      refine rw_nil ?_
      refine kBlk_normal ?_
      refine CW.abs (fun g => g 0 = (agg u8 key) ∧ g 1 = (u32 counter) ∧ g 2 = (agg u8 nonce) ∧ g 3 = (ptr b3 0) ∧ g 5 = (ptr b5 0) ∧ g 6 = (Value.slice none 0 0) ∧ g 7 = sv60 ∧ g 8 = (i64 32) ∧ g 9 = (i64 12) ∧ g 10 = sv ∧ g 11 = (slc b9q66 0 8 8) ∧ g 12 = (i64 (k : Int)) ∧ g 13 = (i64 0) ∧ g 14 = (ptr b14 0) ∧ g 15 = (i64 0) ∧ g 21 = (bl false) ∧ g 37 = (bl false) ∧ g 53 = (bl (decide ((k : Int) < 10))) ∧ g 57 = (bl true) ∧ g 99 = (bl true) ∧ True) ⟨s0, s1, s2, s3, s5, s6, s7, s8, s9, s10, s11, s12, s13, s14, rfl, s21, s37, s53, s57, rfl, trivial⟩ ?_
      rintro fr94 ⟨s0, s1, s2, s3, s5, s6, s7, s8, s9, s10, s11, s12, s13, s14, s15, s21, s37, s53, s57, s99, _⟩
      refine cw_region ?_
      refine rw_q rfl (ev_move (v := (i64 0)) s15) ?_
      refine rw_q (v := (i64 1)) rfl (ev_i64_add (a := 0) (b := 1) rfl rfl (by omega) (by omega)) ?_
      refine rw_q rfl (ev_assign (v := (i64 1)) rfl) ?_
      refine rw_nil ?_
      refine kThen_normal ?_
      refine cr_succ ?_
      refine cw_seq ?_
      refine cw_seq ?_
      refine cw_region ?_
      refine rw_q rfl (ev_move (v := (i64 1)) rfl) ?_
      refine rw_q rfl (ev_i64_lss (a := 1) (b := 4) rfl rfl) ?_
      refine rw_nil ?_
      refine kThen_normal ?_
      refine cw_cond_t rfl (by decide) ?_
      refine cw_skip ?_
      refine kThen_normal ?_
      refine cw_seq ?_
      refine cw_block ?_
      refine cw_draw [(0, false), (1, false), (2, false), (3, false), (4, false), (5, false), (6, false), (7, false), (8, false), (9, false), (10, false)] 11 (by kernel_rfl) ?_
      refine dw_q rfl rfl (fun _ _hx => ev_move (v := sv) s10) ?_
      refine dw_q rfl rfl (fun _ _hx => ev_move (v := (slc b9q66 0 8 8)) s11) ?_
      refine dw_q rfl rfl (fun _ _hx => ev_move (v := (i64 0)) s13) ?_
      refine dw_q rfl rfl (fun _ _hx => ev_ia_slc (r := 0) (i := 0) (by omega) Try.underlying48 ti50 rfl rfl (by omega) (by omega)) ?_
      refine dw_q (v := (slc b1q66 0 4 4)) rfl rfl (fun _ _hx => ev_load1 Try.underlying50 rfl rfl ((hm93.ext _hx).own (b9q66, .cells #[(slc b1q66 0 4 4), (slc b2q66 0 4 4), (slc b3q66 0 4 4), (slc b4q66 0 4 4), (slc b5q66 0 4 4), (slc b6q66 0 4 4), (slc b7q66 0 4 4), (slc b8q66 0 4 4)] 50 (0, 0)) (by simp)) rfl) ?_
      refine dw_q rfl rfl (fun _ _hx => ev_move (v := (i64 1)) rfl) ?_
      refine dw_q rfl rfl (fun _ _hx => ev_ia_slc (r := 1) (i := 1) (by omega) Try.underlying50 ti3 rfl rfl (by omega) (by omega)) ?_
      refine dw_q (v := (i64 4)) rfl rfl (fun _ _hx => ev_load1 Try.underlying3 rfl rfl ((hm93.ext _hx).own (b1q66, .cells (cl i64 ([0, 4, 8, 12])) 3 (0, 0)) (by simp)) (get_clD _ _ 0 (by simp))) ?_
      refine dw_q rfl rfl (fun _ _hx => ev_move (v := (i64 1)) rfl) ?_
      refine dw_q rfl rfl (fun _ _hx => ev_ia_arr (r := 1) (i := 1) (by omega) Try.underlying23 ti22 s14 rfl (by omega) (by omega)) ?_
      refine dw_q (v := (u32 (q86.getD 1 0))) rfl rfl (fun _ _hx => ev_load1 Try.underlying22 rfl rfl ((hm93.ext _hx).own (b14, .cells (cl u32 q86) 23 (0, 0)) (by simp)) (get_clD _ _ 0 (by first | omega | (simp only [List.length_set, List.length_append, List.length_replicate, List.length_map, List.length_cons, List.length_nil]; omega) | (simp; done) | (simp; omega)))) ?_
      refine dw_nil (fun w95 _ew95 => ?_)
      have hm95 := hm93.ext _ew95
      refine rw_q rfl (ev_indexAddr_rdv (i := 4) (g93.rd hm95) Try.underlying46 ti22 rfl rfl (by omega) (by simp)) ?_
      refine rw_n (or_store_grow (i := 4) (a := q86.getD 1 0) hm95 g93 u32_one ti22 (by omega) (by simp) rfl rfl) ?_
      rintro _ w96 ⟨Hs96, hm96, g96⟩
      replace g96 : Grow u32 22 sv ([q86.getD 0 0, x1, x2, x3, q86.getD 1 0, x5, x6, x7, x8, x9, x10, x11, x12, x13, x14, x15]) Hs96 := g96
      refine rw_nil ?_
      refine kBlk_normal ?_
      refine CW.abs (fun g => g 0 = (agg u8 key) ∧ g 1 = (u32 counter) ∧ g 2 = (agg u8 nonce) ∧ g 3 = (ptr b3 0) ∧ g 5 = (ptr b5 0) ∧ g 6 = (Value.slice none 0 0) ∧ g 7 = sv60 ∧ g 8 = (i64 32) ∧ g 9 = (i64 12) ∧ g 10 = sv ∧ g 11 = (slc b9q66 0 8 8) ∧ g 12 = (i64 (k : Int)) ∧ g 13 = (i64 0) ∧ g 14 = (ptr b14 0) ∧ g 15 = (i64 1) ∧ g 21 = (bl false) ∧ g 37 = (bl false) ∧ g 53 = (bl (decide ((k : Int) < 10))) ∧ g 57 = (bl true) ∧ g 99 = (bl true) ∧ True) ⟨s0, s1, s2, s3, s5, s6, s7, s8, s9, s10, s11, s12, s13, s14, rfl, s21, s37, s53, s57, rfl, trivial⟩ ?_
      rintro fr97 ⟨s0, s1, s2, s3, s5, s6, s7, s8, s9, s10, s11, s12, s13, s14, s15, s21, s37, s53, s57, s99, _⟩
      refine cw_region ?_
      refine rw_q rfl (ev_move (v := (i64 1)) s15) ?_
      refine rw_q (v := (i64 2)) rfl (ev_i64_add (a := 1) (b := 1) rfl rfl (by omega) (by omega)) ?_
      refine rw_q rfl (ev_assign (v := (i64 2)) rfl) ?_
      refine rw_nil ?_
      refine kThen_normal ?_
      refine cr_succ ?_
      refine cw_seq ?_
      refine cw_seq ?_
      refine cw_region ?_
      refine rw_q rfl (ev_move (v := (i64 2)) rfl) ?_
      refine rw_q rfl (ev_i64_lss (a := 2) (b := 4) rfl rfl) ?_
      refine rw_nil ?_
      refine kThen_normal ?_
      refine cw_cond_t rfl (by decide) ?_
      refine cw_skip ?_
      refine kThen_normal ?_
      refine cw_seq ?_
      refine cw_block ?_
      refine cw_draw [(0, false), (1, false), (2, false), (3, false), (4, false), (5, false), (6, false), (7, false), (8, false), (9, false), (10, false)] 11 (by kernel_rfl) ?_
      refine dw_q rfl rfl (fun _ _hx => ev_move (v := sv) s10) ?_
      refine dw_q rfl rfl (fun _ _hx => ev_move (v := (slc b9q66 0 8 8)) s11) ?_
      refine dw_q rfl rfl (fun _ _hx => ev_move (v := (i64 0)) s13) ?_
      refine dw_q rfl rfl (fun _ _hx => ev_ia_slc (r := 0) (i := 0) (by omega) Try.underlying48 ti50 rfl rfl (by omega) (by omega)) ?_
      refine dw_q (v := (slc b1q66 0 4 4)) rfl rfl (fun _ _hx => ev_load1 Try.underlying50 rfl rfl ((hm96.ext _hx).own (b9q66, .cells #[(slc b1q66 0 4 4), (slc b2q66 0 4 4), (slc b3q66 0 4 4), (slc b4q66 0 4 4), (slc b5q66 0 4 4), (slc b6q66 0 4 4), (slc b7q66 0 4 4), (slc b8q66 0 4 4)] 50 (0, 0)) (by simp)) rfl) ?_
      refine dw_q rfl rfl (fun _ _hx => ev_move (v := (i64 2)) rfl) ?_
      refine dw_q rfl rfl (fun _ _hx => ev_ia_slc (r := 2) (i := 2) (by omega) Try.underlying50 ti3 rfl rfl (by omega) (by omega)) ?_
      refine dw_q (v := (i64 8)) rfl rfl (fun _ _hx => ev_load1 Try.underlying3 rfl rfl ((hm96.ext _hx).own (b1q66, .cells (cl i64 ([0, 4, 8, 12])) 3 (0, 0)) (by simp)) (get_clD _ _ 0 (by simp))) ?_
      refine dw_q rfl rfl (fun _ _hx => ev_move (v := (i64 2)) rfl) ?_
      refine dw_q rfl rfl (fun _ _hx => ev_ia_arr (r := 2) (i := 2) (by omega) Try.underlying23 ti22 s14 rfl (by omega) (by omega)) ?_
      refine dw_q (v := (u32 (q86.getD 2 0))) rfl rfl (fun _ _hx => ev_load1 Try.underlying22 rfl rfl ((hm96.ext _hx).own (b14, .cells (cl u32 q86) 23 (0, 0)) (by simp)) (get_clD _ _ 0 (by first | omega | (simp only [List.length_set, List.length_append, List.length_replicate, List.length_map, List.length_cons, List.length_nil]; omega) | (simp; done) | (simp; omega)))) ?_
      refine dw_nil (fun w98 _ew98 => ?_)
      have hm98 := hm96.ext _ew98
      refine rw_q rfl (ev_indexAddr_rdv (i := 8) (g96.rd hm98) Try.underlying46 ti22 rfl rfl (by omega) (by simp)) ?_
      refine rw_n (or_store_grow (i := 8) (a := q86.getD 2 0) hm98 g96 u32_one ti22 (by omega) (by simp) rfl rfl) ?_
      rintro _ w99 ⟨Hs99, hm99, g99⟩
      replace g99 : Grow u32 22 sv ([q86.getD 0 0, x1, x2, x3, q86.getD 1 0, x5, x6, x7, q86.getD 2 0, x9, x10, x11, x12, x13, x14, x15]) Hs99 := g99
      refine rw_nil ?_
      refine kBlk_normal ?_
      refine CW.abs (fun g => g 0 = (agg u8 key) ∧ g 1 = (u32 counter) ∧ g 2 = (agg u8 nonce) ∧ g 3 = (ptr b3 0) ∧ g 5 = (ptr b5 0) ∧ g 6 = (Value.slice none 0 0) ∧ g 7 = sv60 ∧ g 8 = (i64 32) ∧ g 9 = (i64 12) ∧ g 10 = sv ∧ g 11 = (slc b9q66 0 8 8) ∧ g 12 = (i64 (k : Int)) ∧ g 13 = (i64 0) ∧ g 14 = (ptr b14 0) ∧ g 15 = (i64 2) ∧ g 21 = (bl false) ∧ g 37 = (bl false) ∧ g 53 = (bl (decide ((k : Int) < 10))) ∧ g 57 = (bl true) ∧ g 99 = (bl true) ∧ True) ⟨s0, s1, s2, s3, s5, s6, s7, s8, s9, s10, s11, s12, s13, s14, rfl, s21, s37, s53, s57, rfl, trivial⟩ ?_
      rintro fr100 ⟨s0, s1, s2, s3, s5, s6, s7, s8, s9, s10, s11, s12, s13, s14, s15, s21, s37, s53, s57, s99, _⟩
      refine cw_region ?_
      refine rw_q rfl (ev_move (v := (i64 2)) s15) ?_
      refine rw_q (v := (i64 3)) rfl (ev_i64_add (a := 2) (b := 1) rfl rfl (by omega) (by omega)) ?_
      refine rw_q rfl (ev_assign (v := (i64 3)) rfl) ?_
      refine rw_nil ?_
      refine kThen_normal ?_
      refine cr_succ ?_
      refine cw_seq ?_
      refine cw_seq ?_
      refine cw_region ?_
      refine rw_q rfl (ev_move (v := (i64 3)) rfl) ?_
      refine rw_q rfl (ev_i64_lss (a := 3) (b := 4) rfl rfl) ?_
      refine rw_nil ?_
      refine kThen_normal ?_
      refine cw_cond_t rfl (by decide) ?_
      refine cw_skip ?_
      refine kThen_normal ?_
      refine cw_seq ?_
      refine cw_block ?_
      refine cw_draw [(0, false), (1, false), (2, false), (3, false), (4, false), (5, false), (6, false), (7, false), (8, false), (9, false), (10, false)] 11 (by kernel_rfl) ?_
      refine dw_q rfl rfl (fun _ _hx => ev_move (v := sv) s10) ?_
      refine dw_q rfl rfl (fun _ _hx => ev_move (v := (slc b9q66 0 8 8)) s11) ?_
      refine dw_q rfl rfl (fun _ _hx => ev_move (v := (i64 0)) s13) ?_
      refine dw_q rfl rfl (fun _ _hx => ev_ia_slc (r := 0) (i := 0) (by omega) Try.underlying48 ti50 rfl rfl (by omega) (by omega)) ?_
      refine dw_q (v := (slc b1q66 0 4 4)) rfl rfl (fun _ _hx => ev_load1 Try.underlying50 rfl rfl ((hm99.ext _hx).own (b9q66, .cells #[(slc b1q66 0 4 4), (slc b2q66 0 4 4), (slc b3q66 0 4 4), (slc b4q66 0 4 4), (slc b5q66 0 4 4), (slc b6q66 0 4 4), (slc b7q66 0 4 4), (slc b8q66 0 4 4)] 50 (0, 0)) (by simp)) rfl) ?_
      refine dw_q rfl rfl (fun _ _hx => ev_move (v := (i64 3)) rfl) ?_
      refine dw_q rfl rfl (fun _ _hx => ev_ia_slc (r := 3) (i := 3) (by omega) Try.underlying50 ti3 rfl rfl (by omega) (by omega)) ?_
      refine dw_q (v := (i64 12)) rfl rfl (fun _ _hx => ev_load1 Try.underlying3 rfl rfl ((hm99.ext _hx).own (b1q66, .cells (cl i64 ([0, 4, 8, 12])) 3 (0, 0)) (by simp)) (get_clD _ _ 0 (by simp))) ?_
      refine dw_q rfl rfl (fun _ _hx => ev_move (v := (i64 3)) rfl) ?_
      refine dw_q rfl rfl (fun _ _hx => ev_ia_arr (r := 3) (i := 3) (by omega) Try.underlying23 ti22 s14 rfl (by omega) (by omega)) ?_
      refine dw_q (v := (u32 (q86.getD 3 0))) rfl rfl (fun _ _hx => ev_load1 Try.underlying22 rfl rfl ((hm99.ext _hx).own (b14, .cells (cl u32 q86) 23 (0, 0)) (by simp)) (get_clD _ _ 0 (by first | omega | (simp only [List.length_set, List.length_append, List.length_replicate, List.length_map, List.length_cons, List.length_nil]; omega) | (simp; done) | (simp; omega)))) ?_
      refine dw_nil (fun w101 _ew101 => ?_)
      have hm101 := hm99.ext _ew101
      refine rw_q rfl (ev_indexAddr_rdv (i := 12) (g99.rd hm101) Try.underlying46 ti22 rfl rfl (by omega) (by simp)) ?_
      refine rw_n (or_store_grow (i := 12) (a := q86.getD 3 0) hm101 g99 u32_one ti22 (by omega) (by simp) rfl rfl) ?_
      rintro _ w102 ⟨Hs102, hm102, g102⟩
      replace g102 : Grow u32 22 sv ([q86.getD 0 0, x1, x2, x3, q86.getD 1 0, x5, x6, x7, q86.getD 2 0, x9, x10, x11, q86.getD 3 0, x13, x14, x15]) Hs102 := g102
      refine rw_nil ?_
      refine kBlk_normal ?_
      refine CW.abs (fun g => g 0 = (agg u8 key) ∧ g 1 = (u32 counter) ∧ g 2 = (agg u8 nonce) ∧ g 3 = (ptr b3 0) ∧ g 5 = (ptr b5 0) ∧ g 6 = (Value.slice none 0 0) ∧ g 7 = sv60 ∧ g 8 = (i64 32) ∧ g 9 = (i64 12) ∧ g 10 = sv ∧ g 11 = (slc b9q66 0 8 8) ∧ g 12 = (i64 (k : Int)) ∧ g 13 = (i64 0) ∧ g 14 = (ptr b14 0) ∧ g 15 = (i64 3) ∧ g 21 = (bl false) ∧ g 37 = (bl false) ∧ g 53 = (bl (decide ((k : Int) < 10))) ∧ g 57 = (bl true) ∧ g 99 = (bl true) ∧ True) ⟨s0, s1, s2, s3, s5, s6, s7, s8, s9, s10, s11, s12, s13, s14, rfl, s21, s37, s53, s57, rfl, trivial⟩ ?_
      rintro fr103 ⟨s0, s1, s2, s3, s5, s6, s7, s8, s9, s10, s11, s12, s13, s14, s15, s21, s37, s53, s57, s99, _⟩
      refine cw_region ?_
      refine rw_q rfl (ev_move (v := (i64 3)) s15) ?_
      refine rw_q (v := (i64 4)) rfl (ev_i64_add (a := 3) (b := 1) rfl rfl (by omega) (by omega)) ?_
      refine rw_q rfl (ev_assign (v := (i64 4)) rfl) ?_
      refine rw_nil ?_
      refine kThen_normal ?_
      refine cr_succ ?_
      refine cw_seq ?_
      refine cw_seq ?_
      refine cw_region ?_
      refine rw_q rfl (ev_move (v := (i64 4)) rfl) ?_
      refine rw_q rfl (ev_i64_lss (a := 4) (b := 4) rfl rfl) ?_
      refine rw_nil ?_
      refine kThen_normal ?_
      refine cw_cond_f rfl (by decide) ?_
      refine cw_exit ?_
      refine kThen_exit (kThen_exit (kBlk_hit ?_))
      refine kBlk_normal ?_
      refine cw_region ?_
      refine rw_q rfl (ev_move (v := (i64 0)) s13) ?_
      refine rw_q (v := (i64 1)) rfl (ev_i64_add (a := 0) (b := 1) rfl rfl (by omega) (by omega)) ?_
      refine rw_q rfl (ev_assign (v := (i64 1)) rfl) ?_
      refine rw_nil ?_
      refine kThen_normal ?_
      refine cr_succ ?_
      refine cw_seq ?_
      refine cw_seq ?_
      refine cw_region ?_
      refine rw_q rfl (ev_move (v := (i64 1)) rfl) ?_
      refine rw_q rfl (ev_i64_lss (a := 1) (b := 8) rfl rfl) ?_
      refine rw_nil ?_
      refine kThen_normal ?_
      refine cw_cond_t rfl (by decide) ?_
      refine cw_skip ?_
      refine kThen_normal ?_
      refine cw_seq ?_
      refine cw_block ?_
      refine cw_seq ?_
      refine cw_draw [(0, false), (1, false), (2, false), (3, false), (4, false), (5, false), (6, false), (7, false), (8, false), (9, false), (10, false), (11, false), (12, false), (13, false), (14, false), (15, false), (16, false), (17, false), (18, false), (19, false), (20, false), (21, false), (22, false), (23, false), (24, false), (25, false), (26, false), (27, false), (28, false), (29, false), (30, false), (31, false), (32, false), (33, false), (34, false), (35, false), (36, false), (37, false), (38, true)] 39 (by kernel_rfl) ?_
      refine dw_q rfl rfl (fun _ _hx => ev_move (v := sv) s10) ?_
      refine dw_q rfl rfl (fun _ _hx => ev_move (v := (slc b9q66 0 8 8)) s11) ?_
      refine dw_q rfl rfl (fun _ _hx => ev_move (v := (i64 1)) rfl) ?_
      refine dw_q rfl rfl (fun _ _hx => ev_ia_slc (r := 1) (i := 1) (by omega) Try.underlying48 ti50 rfl rfl (by omega) (by omega)) ?_
      refine dw_q (v := (slc b2q66 0 4 4)) rfl rfl (fun _ _hx => ev_load1 Try.underlying50 rfl rfl ((hm102.ext _hx).own (b9q66, .cells #[(slc b1q66 0 4 4), (slc b2q66 0 4 4), (slc b3q66 0 4 4), (slc b4q66 0 4 4), (slc b5q66 0 4 4), (slc b6q66 0 4 4), (slc b7q66 0 4 4), (slc b8q66 0 4 4)] 50 (0, 0)) (by simp)) rfl) ?_
      refine dw_q rfl rfl (fun _ _hx => ev_ia_slc (r := 0) (i := 0) (by omega) Try.underlying50 ti3 rfl rfl (by omega) (by omega)) ?_
      refine dw_q (v := (i64 1)) rfl rfl (fun _ _hx => ev_load1 Try.underlying3 rfl rfl ((hm102.ext _hx).own (b2q66, .cells (cl i64 ([1, 5, 9, 13])) 3 (0, 0)) (by simp)) (get_clD _ _ 0 (by simp))) ?_
      refine dw_q rfl rfl (fun _ _hx => ev_indexAddr_rdv (i := 1) (g102.rd (hm102.ext _hx)) Try.underlying46 ti22 rfl rfl (by omega) (by simp)) ?_
      refine dw_q (v := (u32 x1)) rfl rfl (fun _ _hx => ev_load_rdD (l := [q86.getD 0 0, x1, x2, x3, q86.getD 1 0, x5, x6, x7, q86.getD 2 0, x9, x10, x11, q86.getD 3 0, x13, x14, x15]) (i := 1) (dflt := 0) (g102.rd (hm102.ext _hx)) Try.underlying22 rfl (by omega) (by simp) rfl) ?_
      refine dw_q rfl rfl (fun _ _hx => ev_move (v := sv) s10) ?_
      refine dw_q rfl rfl (fun _ _hx => ev_move (v := (slc b9q66 0 8 8)) s11) ?_
      refine dw_q rfl rfl (fun _ _hx => ev_move (v := (i64 1)) rfl) ?_
      refine dw_q rfl rfl (fun _ _hx => ev_ia_slc (r := 1) (i := 1) (by omega) Try.underlying48 ti50 rfl rfl (by omega) (by omega)) ?_
      refine dw_q (v := (slc b2q66 0 4 4)) rfl rfl (fun _ _hx => ev_load1 Try.underlying50 rfl rfl ((hm102.ext _hx).own (b9q66, .cells #[(slc b1q66 0 4 4), (slc b2q66 0 4 4), (slc b3q66 0 4 4), (slc b4q66 0 4 4), (slc b5q66 0 4 4), (slc b6q66 0 4 4), (slc b7q66 0 4 4), (slc b8q66 0 4 4)] 50 (0, 0)) (by simp)) rfl) ?_
      refine dw_q rfl rfl (fun _ _hx => ev_ia_slc (r := 1) (i := 1) (by omega) Try.underlying50 ti3 rfl rfl (by omega) (by omega)) ?_
      refine dw_q (v := (i64 5)) rfl rfl (fun _ _hx => ev_load1 Try.underlying3 rfl rfl ((hm102.ext _hx).own (b2q66, .cells (cl i64 ([1, 5, 9, 13])) 3 (0, 0)) (by simp)) (get_clD _ _ 0 (by simp))) ?_
      refine dw_q rfl rfl (fun _ _hx => ev_indexAddr_rdv (i := 5) (g102.rd (hm102.ext _hx)) Try.underlying46 ti22 rfl rfl (by omega) (by simp)) ?_
      refine dw_q (v := (u32 x5)) rfl rfl (fun _ _hx => ev_load_rdD (l := [q86.getD 0 0, x1, x2, x3, q86.getD 1 0, x5, x6, x7, q86.getD 2 0, x9, x10, x11, q86.getD 3 0, x13, x14, x15]) (i := 5) (dflt := 0) (g102.rd (hm102.ext _hx)) Try.underlying22 rfl (by omega) (by simp) rfl) ?_
      refine dw_q rfl rfl (fun _ _hx => ev_move (v := sv) s10) ?_
      refine dw_q rfl rfl (fun _ _hx => ev_move (v := (slc b9q66 0 8 8)) s11) ?_
      refine dw_q rfl rfl (fun _ _hx => ev_move (v := (i64 1)) rfl) ?_
      refine dw_q rfl rfl (fun _ _hx => ev_ia_slc (r := 1) (i := 1) (by omega) Try.underlying48 ti50 rfl rfl (by omega) (by omega)) ?_
      refine dw_q (v := (slc b2q66 0 4 4)) rfl rfl (fun _ _hx => ev_load1 Try.underlying50 rfl rfl ((hm102.ext _hx).own (b9q66, .cells #[(slc b1q66 0 4 4), (slc b2q66 0 4 4), (slc b3q66 0 4 4), (slc b4q66 0 4 4), (slc b5q66 0 4 4), (slc b6q66 0 4 4), (slc b7q66 0 4 4), (slc b8q66 0 4 4)] 50 (0, 0)) (by simp)) rfl) ?_
      refine dw_q rfl rfl (fun _ _hx => ev_ia_slc (r := 2) (i := 2) (by omega) Try.underlying50 ti3 rfl rfl (by omega) (by omega)) ?_
      refine dw_q (v := (i64 9)) rfl rfl (fun _ _hx => ev_load1 Try.underlying3 rfl rfl ((hm102.ext _hx).own (b2q66, .cells (cl i64 ([1, 5, 9, 13])) 3 (0, 0)) (by simp)) (get_clD _ _ 0 (by simp))) ?_
      refine dw_q rfl rfl (fun _ _hx => ev_indexAddr_rdv (i := 9) (g102.rd (hm102.ext _hx)) Try.underlying46 ti22 rfl rfl (by omega) (by simp)) ?_
      refine dw_q (v := (u32 x9)) rfl rfl (fun _ _hx => ev_load_rdD (l := [q86.getD 0 0, x1, x2, x3, q86.getD 1 0, x5, x6, x7, q86.getD 2 0, x9, x10, x11, q86.getD 3 0, x13, x14, x15]) (i := 9) (dflt := 0) (g102.rd (hm102.ext _hx)) Try.underlying22 rfl (by omega) (by simp) rfl) ?_
      refine dw_q rfl rfl (fun _ _hx => ev_move (v := sv) s10) ?_
      refine dw_q rfl rfl (fun _ _hx => ev_move (v := (slc b9q66 0 8 8)) s11) ?_
      refine dw_q rfl rfl (fun _ _hx => ev_move (v := (i64 1)) rfl) ?_
      refine dw_q rfl rfl (fun _ _hx => ev_ia_slc (r := 1) (i := 1) (by omega) Try.underlying48 ti50 rfl rfl (by omega) (by omega)) ?_
      refine dw_q (v := (slc b2q66 0 4 4)) rfl rfl (fun _ _hx => ev_load1 Try.underlying50 rfl rfl ((hm102.ext _hx).own (b9q66, .cells #[(slc b1q66 0 4 4), (slc b2q66 0 4 4), (slc b3q66 0 4 4), (slc b4q66 0 4 4), (slc b5q66 0 4 4), (slc b6q66 0 4 4), (slc b7q66 0 4 4), (slc b8q66 0 4 4)] 50 (0, 0)) (by simp)) rfl) ?_
      refine dw_q rfl rfl (fun _ _hx => ev_ia_slc (r := 3) (i := 3) (by omega) Try.underlying50 ti3 rfl rfl (by omega) (by omega)) ?_
      refine dw_q (v := (i64 13)) rfl rfl (fun _ _hx => ev_load1 Try.underlying3 rfl rfl ((hm102.ext _hx).own (b2q66, .cells (cl i64 ([1, 5, 9, 13])) 3 (0, 0)) (by simp)) (get_clD _ _ 0 (by simp))) ?_
      refine dw_q rfl rfl (fun _ _hx => ev_indexAddr_rdv (i := 13) (g102.rd (hm102.ext _hx)) Try.underlying46 ti22 rfl rfl (by omega) (by simp)) ?_
      refine dw_q (v := (u32 x13)) rfl rfl (fun _ _hx => ev_load_rdD (l := [q86.getD 0 0, x1, x2, x3, q86.getD 1 0, x5, x6, x7, q86.getD 2 0, x9, x10, x11, q86.getD 3 0, x13, x14, x15]) (i := 13) (dflt := 0) (g102.rd (hm102.ext _hx)) Try.underlying22 rfl (by omega) (by simp) rfl) ?_
      refine dw_q rfl rfl (fun _ _hx => ev_build_cl u32 [x1, x5, x9, x13] u32_one ti23 Try.underlying23 ti22 rfl rfl) ?_
      obtain ⟨q106, hq106⟩ : ∃ q, q = quarterL left3 x1 x5 x9 x13 := ⟨_, rfl⟩
      have hq106l : q106.length = 4 := by rw [hq106]; rfl
      refine dw_x (v := (agg u32 q106)) rfl rfl (fun w104 _ew104 => OpR.mono (opR_call Try.func10 bd10 nm10 (args1 rfl) (c_quarter3 x1 x5 x9 x13 _)) (by rintro _ w105 ⟨rfl, _ew105⟩; exact ⟨by rw [hq106], _ew105⟩)) ?_
      refine dw_c rfl rfl (fun w107 _ew107 => ?_)
      have hm107 := hm102.ext _ew107
      refine OpR.mono (or_alloc_agg hm107 ti23) ?_
      rintro _ w108 ⟨b14_1, rfl, _ew108, hm108⟩
      refine ⟨_ew108, ?_⟩
      refine dw_nil (fun w109 _ew109 => ?_)
      have hm109 := hm108.ext _ew109
      refine rw_n (or_store_agg (f := u32) (l := q106) u32_one ti23 rfl rfl (by first | omega | (simp only [List.length_set, List.length_append, List.length_replicate, List.length_map, List.length_cons, List.length_nil]; omega) | (simp; done) | (simp; omega)) hm109.h0 (by rw [size_cl]; first | omega | (simp only [List.length_set, List.length_append, List.length_replicate, List.length_map, List.length_cons, List.length_nil]; omega) | (simp; done) | (simp; omega)) rfl) ?_
      rintro _ w110 uq110
      have hm110 := hm109.upd0 uq110
      refine rw_nil ?_
      refine kThen_normal ?_
      have hm111 := Mem.drop ([(b14, .cells (cl u32 q86) 23 (0, 0))]) _ (Mem.pick2 [_] Hs102 [_] _ hm110)
      refine CW.abs (fun g => g 0 = (agg u8 key) ∧ g 1 = (u32 counter) ∧ g 2 = (agg u8 nonce) ∧ g 3 = (ptr b3 0) ∧ g 5 = (ptr b5 0) ∧ g 6 = (Value.slice none 0 0) ∧ g 7 = sv60 ∧ g 8 = (i64 32) ∧ g 9 = (i64 12) ∧ g 10 = sv ∧ g 11 = (slc b9q66 0 8 8) ∧ g 12 = (i64 (k : Int)) ∧ g 13 = (i64 1) ∧ g 14 = (ptr b14_1 0) ∧ g 15 = (i64 4) ∧ g 21 = (bl false) ∧ g 37 = (bl false) ∧ g 53 = (bl (decide ((k : Int) < 10))) ∧ g 57 = (bl true) ∧ g 99 = (bl false) ∧ True) ⟨s0, s1, s2, s3, s5, s6, s7, s8, s9, s10, s11, s12, rfl, rfl, rfl, s21, s37, s53, rfl, rfl, trivial⟩ ?_
      rintro fr112 ⟨s0, s1, s2, s3, s5, s6, s7, s8, s9, s10, s11, s12, s13, s14, s15, s21, s37, s53, s57, s99, _⟩
      refine cw_seq ?_
      refine cw_region ?_
      refine rw_q rfl (ev_assign (v := (i64 0)) rfl) ?_
      refine rw_nil ?_
      refine kThen_normal ?_
      refine cw_block' ?_
      refine cw_rounds 5 ?_
      refine cr_succ ?_
      refine cw_seq ?_
      refine cw_seq ?_
      refine cw_region ?_
      refine rw_q rfl (ev_move (v := (i64 0)) rfl) ?_
      refine rw_q rfl (ev_i64_lss (a := 0) (b := 4) rfl rfl) ?_
      refine rw_nil ?_
      refine kThen_normal ?_
      refine cw_cond_t rfl (by decide) ?_
      refine cw_skip ?_
      refine kThen_normal ?_
      refine cw_seq ?_
      refine cw_block ?_
      refine cw_draw [(0, false), (1, false), (2, false), (3, false), (4, false), (5, false), (6, false), (7, false), (8, false), (9, false), (10, false)] 11 (by kernel_rfl) ?_
      refine dw_q rfl rfl (fun _ _hx => ev_move (v := sv) s10) ?_
      refine dw_q rfl rfl (fun _ _hx => ev_move (v := (slc b9q66 0 8 8)) s11) ?_
      refine dw_q rfl rfl (fun _ _hx => ev_move (v := (i64 1)) s13) ?_
      refine dw_q rfl rfl (fun _ _hx => ev_ia_slc (r := 1) (i := 1) (by omega) Try.underlying48 ti50 rfl rfl (by omega) (by omega)) ?_
      refine dw_q (v := (slc b2q66 0 4 4)) rfl rfl (fun _ _hx => ev_load1 Try.underlying50 rfl rfl ((hm111.ext _hx).own (b9q66, .cells #[(slc b1q66 0 4 4), (slc b2q66 0 4 4), (slc b3q66 0 4 4), (slc b4q66 0 4 4), (slc b5q66 0 4 4), (slc b6q66 0 4 4), (slc b7q66 0 4 4), (slc b8q66 0 4 4)] 50 (0, 0)) (by simp)) rfl) ?_
      refine dw_q rfl rfl (fun _ _hx => ev_move (v := (i64 0)) rfl) ?_
      refine dw_q rfl rfl (fun _ _hx => ev_ia_slc (r := 0) (i := 0) (by omega) Try.underlying50 ti3 rfl rfl (by omega) (by omega)) ?_
      refine dw_q (v := (i64 1)) rfl rfl (fun _ _hx => ev_load1 Try.underlying3 rfl rfl ((hm111.ext _hx).own (b2q66, .cells (cl i64 ([1, 5, 9, 13])) 3 (0, 0)) (by simp)) (get_clD _ _ 0 (by simp))) ?_
      refine dw_q rfl rfl (fun _ _hx => ev_move (v := (i64 0)) rfl) ?_
      refine dw_q rfl rfl (fun _ _hx => ev_ia_arr (r := 0) (i := 0) (by omega) Try.underlying23 ti22 s14 rfl (by omega) (by omega)) ?_
      refine dw_q (v := (u32 (q106.getD 0 0))) rfl rfl (fun _ _hx => ev_load1 Try.underlying22 rfl rfl (hm111.ext _hx).h0 (get_clD _ _ 0 (by first | omega | (simp only [List.length_set, List.length_append, List.length_replicate, List.length_map, List.length_cons, List.length_nil]; omega) | (simp; done) | (simp; omega)))) ?_
      refine dw_nil (fun w113 _ew113 => ?_)
      have hm113 := hm111.ext _ew113
      refine rw_q rfl (ev_indexAddr_rdv (i := 1) (g102.rd (Mem.pick [_] Hs102 _ hm113)) Try.underlying46 ti22 rfl rfl (by omega) (by simp)) ?_
      refine rw_n (or_store_grow (i := 1) (a := q106.getD 0 0) (Mem.pick [_] Hs102 _ hm113) g102 u32_one ti22 (by omega) (by simp) rfl rfl) ?_
      rintro _ w114 ⟨Hs114, hm114, g114⟩
      replace g114 : Grow u32 22 sv ([q86.getD 0 0, q106.getD 0 0, x2, x3, q86.getD 1 0, x5, x6, x7, q86.getD 2 0, x9, x10, x11, q86.getD 3 0, x13, x14, x15]) Hs114 := g114
      refine rw_nil ?_
      refine kBlk_normal ?_
      refine CW.abs (fun g => g 0 = (agg u8 key) ∧ g 1 = (u32 counter) ∧ g 2 = (agg u8 nonce) ∧ g 3 = (ptr b3 0) ∧ g 5 = (ptr b5 0) ∧ g 6 = (Value.slice none 0 0) ∧ g 7 = sv60 ∧ g 8 = (i64 32) ∧ g 9 = (i64 12) ∧ g 10 = sv ∧ g 11 = (slc b9q66 0 8 8) ∧ g 12 = (i64 (k : Int)) ∧ g 13 = (i64 1) ∧ g 14 = (ptr b14_1 0) ∧ g 15 = (i64 0) ∧ g 21 = (bl false) ∧ g 37 = (bl false) ∧ g 53 = (bl (decide ((k : Int) < 10))) ∧ g 57 = (bl true) ∧ g 99 = (bl true) ∧ True) ⟨s0, s1, s2, s3, s5, s6, s7, s8, s9, s10, s11, s12, s13, s14, rfl, s21, s37, s53, s57, rfl, trivial⟩ ?_
      rintro fr115 ⟨s0, s1, s2, s3, s5, s6, s7, s8, s9, s10, s11, s12, s13, s14, s15, s21, s37, s53, s57, s99, _⟩
      refine cw_region ?_
      refine rw_q rfl (ev_move (v := (i64 0)) s15) ?_
      refine rw_q (v := (i64 1)) rfl (ev_i64_add (a := 0) (b := 1) rfl rfl (by omega) (by omega)) ?_
      refine rw_q rfl (ev_assign (v := (i64 1)) rfl) ?_
      refine rw_nil ?_
      refine kThen_normal ?_
      refine cr_succ ?_
      refine cw_seq ?_
      refine cw_seq ?_
      refine cw_region ?_
      refine rw_q rfl (ev_move (v := (i64 1)) rfl) ?_
      refine rw_q rfl (ev_i64_lss (a := 1) (b := 4) rfl rfl) ?_
      refine rw_nil ?_
      refine kThen_normal ?_
      refine cw_cond_t rfl (by decide) ?_
      refine cw_skip ?_
      refine kThen_normal ?_
      refine cw_seq ?_
      refine cw_block ?_
      refine cw_draw [(0, false), (1, false), (2, false), (3, false), (4, false), (5, false), (6, false), (7, false), (8, false), (9, false), (10, false)] 11 (by kernel_rfl) ?_
      refine dw_q rfl rfl (fun _ _hx => ev_move (v := sv) s10) ?_
      refine dw_q rfl rfl (fun _ _hx => ev_move (v := (slc b9q66 0 8 8)) s11) ?_
      refine dw_q rfl rfl (fun _ _hx => ev_move (v := (i64 1)) s13) ?_
      refine dw_q rfl rfl (fun _ _hx => ev_ia_slc (r := 1) (i := 1) (by omega) Try.underlying48 ti50 rfl rfl (by omega) (by omega)) ?_
      refine dw_q (v := (slc b2q66 0 4 4)) rfl rfl (fun _ _hx => ev_load1 Try.underlying50 rfl rfl ((hm114.ext _hx).own (b9q66, .cells #[(slc b1q66 0 4 4), (slc b2q66 0 4 4), (slc b3q66 0 4 4), (slc b4q66 0 4 4), (slc b5q66 0 4 4), (slc b6q66 0 4 4), (slc b7q66 0 4 4), (slc b8q66 0 4 4)] 50 (0, 0)) (by simp)) rfl) ?_
      refine dw_q rfl rfl (fun _ _hx => ev_move (v := (i64 1)) rfl) ?_
      refine dw_q rfl rfl (fun _ _hx => ev_ia_slc (r := 1) (i := 1) (by omega) Try.underlying50 ti3 rfl rfl (by omega) (by omega)) ?_
      refine dw_q (v := (i64 5)) rfl rfl (fun _ _hx => ev_load1 Try.underlying3 rfl rfl ((hm114.ext _hx).own (b2q66, .cells (cl i64 ([1, 5, 9, 13])) 3 (0, 0)) (by simp)) (get_clD _ _ 0 (by simp))) ?_
      refine dw_q rfl rfl (fun _ _hx => ev_move (v := (i64 1)) rfl) ?_
      refine dw_q rfl rfl (fun _ _hx => ev_ia_arr (r := 1) (i := 1) (by omega) Try.underlying23 ti22 s14 rfl (by omega) (by omega)) ?_
      refine dw_q (v := (u32 (q106.getD 1 0))) rfl rfl (fun _ _hx => ev_load1 Try.underlying22 rfl rfl ((hm114.ext _hx).own (b14_1, .cells (cl u32 q106) 23 (0, 0)) (by simp)) (get_clD _ _ 0 (by first | omega | (simp only [List.length_set, List.length_append, List.length_replicate, List.length_map, List.length_cons, List.length_nil]; omega) | (simp; done) | (simp; omega)))) ?_
      refine dw_nil (fun w116 _ew116 => ?_)
      have hm116 := hm114.ext _ew116
      refine rw_q rfl (ev_indexAddr_rdv (i := 5) (g114.rd hm116) Try.underlying46 ti22 rfl rfl (by omega) (by simp)) ?_
      refine rw_n (or_store_grow (i := 5) (a := q106.getD 1 0) hm116 g114 u32_one ti22 (by omega) (by simp) rfl rfl) ?_
      rintro _ w117 ⟨Hs117, hm117, g117⟩
      replace g117 : Grow u32 22 sv ([q86.getD 0 0, q106.getD 0 0, x2, x3, q86.getD 1 0, q106.getD 1 0, x6, x7, q86.getD 2 0, x9, x10, x11, q86.getD 3 0, x13, x14, x15]) Hs117 := g117
      refine rw_nil ?_
      refine kBlk_normal ?_
      refine CW.abs (fun g => g 0 = (agg u8 key) ∧ g 1 = (u32 counter) ∧ g 2 = (agg u8 nonce) ∧ g 3 = (ptr b3 0) ∧ g 5 = (ptr b5 0) ∧ g 6 = (Value.slice none 0 0) ∧ g 7 = sv60 ∧ g 8 = (i64 32) ∧ g 9 = (i64 12) ∧ g 10 = sv ∧ g 11 = (slc b9q66 0 8 8) ∧ g 12 = (i64 (k : Int)) ∧ g 13 = (i64 1) ∧ g 14 = (ptr b14_1 0) ∧ g 15 = (i64 1) ∧ g 21 = (bl false) ∧ g 37 = (bl false) ∧ g 53 = (bl (decide ((k : Int) < 10))) ∧ g 57 = (bl true) ∧ g 99 = (bl true) ∧ True) ⟨s0, s1, s2, s3, s5, s6, s7, s8, s9, s10, s11, s12, s13, s14, rfl, s21, s37, s53, s57, rfl, trivial⟩ ?_
      rintro fr118 ⟨s0, s1, s2, s3, s5, s6, s7, s8, s9, s10, s11, s12, s13, s14, s15, s21, s37, s53, s57, s99, _⟩
      refine cw_region ?_
      refine rw_q rfl (ev_move (v := (i64 1)) s15) ?_
      refine rw_q (v := (i64 2)) rfl (ev_i64_add (a := 1) (b := 1) rfl rfl (by omega) (by omega)) ?_
      refine rw_q rfl (ev_assign (v := (i64 2)) rfl) ?_
      refine rw_nil ?_
      refine kThen_normal ?_
      refine cr_succ ?_
      refine cw_seq ?_
      refine cw_seq ?_
      refine cw_region ?_
      refine rw_q rfl (ev_move (v := (i64 2)) rfl) ?_
      refine rw_q rfl (ev_i64_lss (a := 2) (b := 4) rfl rfl) ?_
      refine rw_nil ?_
      refine kThen_normal ?_
      refine cw_cond_t rfl (by decide) ?_
      refine cw_skip ?_
      refine kThen_normal ?_
      refine cw_seq ?_
      refine cw_block ?_
      refine cw_draw [(0, false), (1, false), (2, false), (3, false), (4, false), (5, false), (6, false), (7, false), (8, false), (9, false), (10, false)] 11 (by kernel_rfl) ?_
      refine dw_q rfl rfl (fun _ _hx => ev_move (v := sv) s10) ?_
      refine dw_q rfl rfl (fun _ _hx => ev_move (v := (slc b9q66 0 8 8)) s11) ?_
      refine dw_q rfl rfl (fun _ _hx => ev_move (v := (i64 1)) s13) ?_
      refine dw_q rfl rfl (fun _ _hx => ev_ia_slc (r := 1) (i := 1) (by omega) Try.underlying48 ti50 rfl rfl (by omega) (by omega)) ?_
      refine dw_q (v := (slc b2q66 0 4 4)) rfl rfl (fun _ _hx => ev_load1 Try.underlying50 rfl rfl ((hm117.ext _hx).own (b9q66, .cells #[(slc b1q66 0 4 4), (slc b2q66 0 4 4), (slc b3q66 0 4 4), (slc b4q66 0 4 4), (slc b5q66 0 4 4), (slc b6q66 0 4 4), (slc b7q66 0 4 4), (slc b8q66 0 4 4)] 50 (0, 0)) (by simp)) rfl) ?_
      refine dw_q rfl rfl (fun _ _hx => ev_move (v := (i64 2)) rfl) ?_
      refine dw_q rfl rfl (fun _ _hx => ev_ia_slc (r := 2) (i := 2) (by omega) Try.underlying50 ti3 rfl rfl (by omega) (by omega)) ?_
      refine dw_q (v := (i64 9)) rfl rfl (fun _ _hx => ev_load1 Try.underlying3 rfl rfl ((hm117.ext _hx).own (b2q66, .cells (cl i64 ([1, 5, 9, 13])) 3 (0, 0)) (by simp)) (get_clD _ _ 0 (by simp))) ?_
      refine dw_q rfl rfl (fun _ _hx => ev_move (v := (i64 2)) rfl) ?_
      refine dw_q rfl rfl (fun _ _hx => ev_ia_arr (r := 2) (i := 2) (by omega) Try.underlying23 ti22 s14 rfl (by omega) (by omega)) ?_
      refine dw_q (v := (u32 (q106.getD 2 0))) rfl rfl (fun _ _hx => ev_load1 Try.underlying22 rfl rfl ((hm117.ext _hx).own (b14_1, .cells (cl u32 q106) 23 (0, 0)) (by simp)) (get_clD _ _ 0 (by first | omega | (simp only [List.length_set, List.length_append, List.length_replicate, List.length_map, List.length_cons, List.length_nil]; omega) | (simp; done) | (simp; omega)))) ?_
      refine dw_nil (fun w119 _ew119 => ?_)
      have hm119 := hm117.ext _ew119
      refine rw_q rfl (ev_indexAddr_rdv (i := 9) (g117.rd hm119) Try.underlying46 ti22 rfl rfl (by omega) (by simp)) ?_
      refine rw_n (or_store_grow (i := 9) (a := q106.getD 2 0) hm119 g117 u32_one ti22 (by omega) (by simp) rfl rfl) ?_
      rintro _ w120 ⟨Hs120, hm120, g120⟩
      replace g120 : Grow u32 22 sv ([q86.getD 0 0, q106.getD 0 0, x2, x3, q86.getD 1 0, q106.getD 1 0, x6, x7, q86.getD 2 0, q106.getD 2 0, x10, x11, q86.getD 3 0, x13, x14, x15]) Hs120 := g120
      refine rw_nil ?_
      refine kBlk_normal ?_
      refine CW.abs (fun g => g 0 = (agg u8 key) ∧ g 1 = (u32 counter) ∧ g 2 = (agg u8 nonce) ∧ g 3 = (ptr b3 0) ∧ g 5 = (ptr b5 0) ∧ g 6 = (Value.slice none 0 0) ∧ g 7 = sv60 ∧ g 8 = (i64 32) ∧ g 9 = (i64 12) ∧ g 10 = sv ∧ g 11 = (slc b9q66 0 8 8) ∧ g 12 = (i64 (k : Int)) ∧ g 13 = (i64 1) ∧ g 14 = (ptr b14_1 0) ∧ g 15 = (i64 2) ∧ g 21 = (bl false) ∧ g 37 = (bl false) ∧ g 53 = (bl (decide ((k : Int) < 10))) ∧ g 57 = (bl true) ∧ g 99 = (bl true) ∧ True) ⟨s0, s1, s2, s3, s5, s6, s7, s8, s9, s10, s11, s12, s13, s14, rfl, s21, s37, s53, s57, rfl, trivial⟩ ?_
      rintro fr121 ⟨s0, s1, s2, s3, s5, s6, s7, s8, s9, s10, s11, s12, s13, s14, s15, s21, s37, s53, s57, s99, _⟩
      refine cw_region ?_
      refine rw_q rfl (ev_move (v := (i64 2)) s15) ?_
      refine rw_q (v := (i64 3)) rfl (ev_i64_add (a := 2) (b := 1) rfl rfl (by omega) (by omega)) ?_
      refine rw_q rfl (ev_assign (v := (i64 3)) rfl) ?_
      refine rw_nil ?_
      refine kThen_normal ?_
      refine cr_succ ?_
      refine cw_seq ?_
      refine cw_seq ?_
      refine cw_region ?_
      refine rw_q rfl (ev_move (v := (i64 3)) rfl) ?_
      refine rw_q rfl (ev_i64_lss (a := 3) (b := 4) rfl rfl) ?_
      refine rw_nil ?_
      refine kThen_normal ?_
      refine cw_cond_t rfl (by decide) ?_
      refine cw_skip ?_
      refine kThen_normal ?_
      refine cw_seq ?_
      refine cw_block ?_
      refine cw_draw [(0, false), (1, false), (2, false), (3, false), (4, false), (5, false), (6, false), (7, false), (8, false), (9, false), (10, false)] 11 (by kernel_rfl) ?_
      refine dw_q rfl rfl (fun _ _hx => ev_move (v := sv) s10) ?_
      refine dw_q rfl rfl (fun _ _hx => ev_move (v := (slc b9q66 0 8 8)) s11) ?_
      refine dw_q rfl rfl (fun _ _hx => ev_move (v := (i64 1)) s13) ?_
      refine dw_q rfl rfl (fun _ _hx => ev_ia_slc (r := 1) (i := 1) (by omega) Try.underlying48 ti50 rfl rfl (by omega) (by omega)) ?_
      refine dw_q (v := (slc b2q66 0 4 4)) rfl rfl (fun _ _hx => ev_load1 Try.underlying50 rfl rfl ((hm120.ext _hx).own (b9q66, .cells #[(slc b1q66 0 4 4), (slc b2q66 0 4 4), (slc b3q66 0 4 4), (slc b4q66 0 4 4), (slc b5q66 0 4 4), (slc b6q66 0 4 4), (slc b7q66 0 4 4), (slc b8q66 0 4 4)] 50 (0, 0)) (by simp)) rfl) ?_
      refine dw_q rfl rfl (fun _ _hx => ev_move (v := (i64 3)) rfl) ?_
      refine dw_q rfl rfl (fun _ _hx => ev_ia_slc (r := 3) (i := 3) (by omega) Try.underlying50 ti3 rfl rfl (by omega) (by omega)) ?_
      refine dw_q (v := (i64 13)) rfl rfl (fun _ _hx => ev_load1 Try.underlying3 rfl rfl ((hm120.ext _hx).own (b2q66, .cells (cl i64 ([1, 5, 9, 13])) 3 (0, 0)) (by simp)) (get_clD _ _ 0 (by simp))) ?_
      refine dw_q rfl rfl (fun _ _hx => ev_move (v := (i64 3)) rfl) ?_
      refine dw_q rfl rfl (fun _ _hx => ev_ia_arr (r := 3) (i := 3) (by omega) Try.underlying23 ti22 s14 rfl (by omega) (by omega)) ?_
      refine dw_q (v := (u32 (q106.getD 3 0))) rfl rfl (fun _ _hx => ev_load1 Try.underlying22 rfl rfl ((hm120.ext _hx).own (b14_1, .cells (cl u32 q106) 23 (0, 0)) (by simp)) (get_clD _ _ 0 (by first | omega | (simp only [List.length_set, List.length_append, List.length_replicate, List.length_map, List.length_cons, List.length_nil]; omega) | (simp; done) | (simp; omega)))) ?_
      refine dw_nil (fun w122 _ew122 => ?_)
      have hm122 := hm120.ext _ew122
      refine rw_q rfl (ev_indexAddr_rdv (i := 13) (g120.rd hm122) Try.underlying46 ti22 rfl rfl (by omega) (by simp)) ?_
      refine rw_n (or_store_grow (i := 13) (a := q106.getD 3 0) hm122 g120 u32_one ti22 (by omega) (by simp) rfl rfl) ?_
      rintro _ w123 ⟨Hs123, hm123, g123⟩
      replace g123 : Grow u32 22 sv ([q86.getD 0 0, q106.getD 0 0, x2, x3, q86.getD 1 0, q106.getD 1 0, x6, x7, q86.getD 2 0, q106.getD 2 0, x10, x11, q86.getD 3 0, q106.getD 3 0, x14, x15]) Hs123 := g123
      refine rw_nil ?_
      refine kBlk_normal ?_
      refine CW.abs (fun g => g 0 = (agg u8 key) ∧ g 1 = (u32 counter) ∧ g 2 = (agg u8 nonce) ∧ g 3 = (ptr b3 0) ∧ g 5 = (ptr b5 0) ∧ g 6 = (Value.slice none 0 0) ∧ g 7 = sv60 ∧ g 8 = (i64 32) ∧ g 9 = (i64 12) ∧ g 10 = sv ∧ g 11 = (slc b9q66 0 8 8) ∧ g 12 = (i64 (k : Int)) ∧ g 13 = (i64 1) ∧ g 14 = (ptr b14_1 0) ∧ g 15 = (i64 3) ∧ g 21 = (bl false) ∧ g 37 = (bl false) ∧ g 53 = (bl (decide ((k : Int) < 10))) ∧ g 57 = (bl true) ∧ g 99 = (bl true) ∧ True) ⟨s0, s1, s2, s3, s5, s6, s7, s8, s9, s10, s11, s12, s13, s14, rfl, s21, s37, s53, s57, rfl, trivial⟩ ?_
      rintro fr124 ⟨s0, s1, s2, s3, s5, s6, s7, s8, s9, s10, s11, s12, s13, s14, s15, s21, s37, s53, s57, s99, _⟩
      refine cw_region ?_
      refine rw_q rfl (ev_move (v := (i64 3)) s15) ?_
      refine rw_q (v := (i64 4)) rfl (ev_i64_add (a := 3) (b := 1) rfl rfl (by omega) (by omega)) ?_
      refine rw_q rfl (ev_assign (v := (i64 4)) rfl) ?_
      refine rw_nil ?_
      refine kThen_normal ?_
      refine cr_succ ?_
      refine cw_seq ?_
      refine cw_seq ?_
      refine cw_region ?_
      refine rw_q rfl (ev_move (v := (i64 4)) rfl) ?_
      refine rw_q rfl (ev_i64_lss (a := 4) (b := 4) rfl rfl) ?_
      refine rw_nil ?_
      refine kThen_normal ?_
      refine cw_cond_f rfl (by decide) ?_
      refine cw_exit ?_
      refine kThen_exit (kThen_exit (kBlk_hit ?_))
      refine kBlk_normal ?_
      refine cw_region ?_
      refine rw_q rfl (ev_move (v := (i64 1)) s13) ?_
      refine rw_q (v := (i64 2)) rfl (ev_i64_add (a := 1) (b := 1) rfl rfl (by omega) (by omega)) ?_
      refine rw_q rfl (ev_assign (v := (i64 2)) rfl) ?_
      refine rw_nil ?_
      refine kThen_normal ?_
      refine cr_succ ?_
      refine cw_seq ?_
      refine cw_seq ?_
      refine cw_region ?_
      refine rw_q rfl (ev_move (v := (i64 2)) rfl) ?_
      refine rw_q rfl (ev_i64_lss (a := 2) (b := 8) rfl rfl) ?_
      refine rw_nil ?_
      refine kThen_normal ?_
      refine cw_cond_t rfl (by decide) ?_
      refine cw_skip ?_
      refine kThen_normal ?_
      refine cw_seq ?_
      refine cw_block ?_
      refine cw_seq ?_
      refine cw_draw [(0, false), (1, false), (2, false), (3, false), (4, false), (5, false), (6, false), (7, false), (8, false), (9, false), (10, false), (11, false), (12, false), (13, false), (14, false), (15, false), (16, false), (17, false), (18, false), (19, false), (20, false), (21, false), (22, false), (23, false), (24, false), (25, false), (26, false), (27, false), (28, false), (29, false), (30, false), (31, false), (32, false), (33, false), (34, false), (35, false), (36, false), (37, false), (38, true)] 39 (by kernel_rfl) ?_
      refine dw_q rfl rfl (fun _ _hx => ev_move (v := sv) s10) ?_
      refine dw_q rfl rfl (fun _ _hx => ev_move (v := (slc b9q66 0 8 8)) s11) ?_
      refine dw_q rfl rfl (fun _ _hx => ev_move (v := (i64 2)) rfl) ?_
      refine dw_q rfl rfl (fun _ _hx => ev_ia_slc (r := 2) (i := 2) (by omega) Try.underlying48 ti50 rfl rfl (by omega) (by omega)) ?_
      refine dw_q (v := (slc b3q66 0 4 4)) rfl rfl (fun _ _hx => ev_load1 Try.underlying50 rfl rfl ((hm123.ext _hx).own (b9q66, .cells #[(slc b1q66 0 4 4), (slc b2q66 0 4 4), (slc b3q66 0 4 4), (slc b4q66 0 4 4), (slc b5q66 0 4 4), (slc b6q66 0 4 4), (slc b7q66 0 4 4), (slc b8q66 0 4 4)] 50 (0, 0)) (by simp)) rfl) ?_
      refine dw_q rfl rfl (fun _ _hx => ev_ia_slc (r := 0) (i := 0) (by omega) Try.underlying50 ti3 rfl rfl (by omega) (by omega)) ?_
      refine dw_q (v := (i64 2)) rfl rfl (fun _ _hx => ev_load1 Try.underlying3 rfl rfl ((hm123.ext _hx).own (b3q66, .cells (cl i64 ([2, 6, 10, 14])) 3 (0, 0)) (by simp)) (get_clD _ _ 0 (by simp))) ?_
      refine dw_q rfl rfl (fun _ _hx => ev_indexAddr_rdv (i := 2) (g123.rd (hm123.ext _hx)) Try.underlying46 ti22 rfl rfl (by omega) (by simp)) ?_
      refine dw_q (v := (u32 x2)) rfl rfl (fun _ _hx => ev_load_rdD (l := [q86.getD 0 0, q106.getD 0 0, x2, x3, q86.getD 1 0, q106.getD 1 0, x6, x7, q86.getD 2 0, q106.getD 2 0, x10, x11, q86.getD 3 0, q106.getD 3 0, x14, x15]) (i := 2) (dflt := 0) (g123.rd (hm123.ext _hx)) Try.underlying22 rfl (by omega) (by simp) rfl) ?_
      refine dw_q rfl rfl (fun _ _hx => ev_move (v := sv) s10) ?_
      refine dw_q rfl rfl (fun _ _hx => ev_move (v := (slc b9q66 0 8 8)) s11) ?_
      refine dw_q rfl rfl (fun _ _hx => ev_move (v := (i64 2)) rfl) ?_
      refine dw_q rfl rfl (fun _ _hx => ev_ia_slc (r := 2) (i := 2) (by omega) Try.underlying48 ti50 rfl rfl (by omega) (by omega)) ?_
      refine dw_q (v := (slc b3q66 0 4 4)) rfl rfl (fun _ _hx => ev_load1 Try.underlying50 rfl rfl ((hm123.ext _hx).own (b9q66, .cells #[(slc b1q66 0 4 4), (slc b2q66 0 4 4), (slc b3q66 0 4 4), (slc b4q66 0 4 4), (slc b5q66 0 4 4), (slc b6q66 0 4 4), (slc b7q66 0 4 4), (slc b8q66 0 4 4)] 50 (0, 0)) (by simp)) rfl) ?_
      refine dw_q rfl rfl (fun _ _hx => ev_ia_slc (r := 1) (i := 1) (by omega) Try.underlying50 ti3 rfl rfl (by omega) (by omega)) ?_
      refine dw_q (v := (i64 6)) rfl rfl (fun _ _hx => ev_load1 Try.underlying3 rfl rfl ((hm123.ext _hx).own (b3q66, .cells (cl i64 ([2, 6, 10, 14])) 3 (0, 0)) (by simp)) (get_clD _ _ 0 (by simp))) ?_
      refine dw_q rfl rfl (fun _ _hx => ev_indexAddr_rdv (i := 6) (g123.rd (hm123.ext _hx)) Try.underlying46 ti22 rfl rfl (by omega) (by simp)) ?_
      refine dw_q (v := (u32 x6)) rfl rfl (fun _ _hx => ev_load_rdD (l := [q86.getD 0 0, q106.getD 0 0, x2, x3, q86.getD 1 0, q106.getD 1 0, x6, x7, q86.getD 2 0, q106.getD 2 0, x10, x11, q86.getD 3 0, q106.getD 3 0, x14, x15]) (i := 6) (dflt := 0) (g123.rd (hm123.ext _hx)) Try.underlying22 rfl (by omega) (by simp) rfl) ?_
      refine dw_q rfl rfl (fun _ _hx => ev_move (v := sv) s10) ?_
      refine dw_q rfl rfl (fun _ _hx => ev_move (v := (slc b9q66 0 8 8)) s11) ?_
      refine dw_q rfl rfl (fun _ _hx => ev_move (v := (i64 2)) rfl) ?_
      refine dw_q rfl rfl (fun _ _hx => ev_ia_slc (r := 2) (i := 2) (by omega) Try.underlying48 ti50 rfl rfl (by omega) (by omega)) ?_
      refine dw_q (v := (slc b3q66 0 4 4)) rfl rfl (fun _ _hx => ev_load1 Try.underlying50 rfl rfl ((hm123.ext _hx).own (b9q66, .cells #[(slc b1q66 0 4 4), (slc b2q66 0 4 4), (slc b3q66 0 4 4), (slc b4q66 0 4 4), (slc b5q66 0 4 4), (slc b6q66 0 4 4), (slc b7q66 0 4 4), (slc b8q66 0 4 4)] 50 (0, 0)) (by simp)) rfl) ?_
      refine dw_q rfl rfl (fun _ _hx => ev_ia_slc (r := 2) (i := 2) (by omega) Try.underlying50 ti3 rfl rfl (by omega) (by omega)) ?_
      refine dw_q (v := (i64 10)) rfl rfl (fun _ _hx => ev_load1 Try.underlying3 rfl rfl ((hm123.ext _hx).own (b3q66, .cells (cl i64 ([2, 6, 10, 14])) 3 (0, 0)) (by simp)) (get_clD _ _ 0 (by simp))) ?_
      refine dw_q rfl rfl (fun _ _hx => ev_indexAddr_rdv (i := 10) (g123.rd (hm123.ext _hx)) Try.underlying46 ti22 rfl rfl (by omega) (by simp)) ?_
      refine dw_q (v := (u32 x10)) rfl rfl (fun _ _hx => ev_load_rdD (l := [q86.getD 0 0, q106.getD 0 0, x2, x3, q86.getD 1 0, q106.getD 1 0, x6, x7, q86.getD 2 0, q106.getD 2 0, x10, x11, q86.getD 3 0, q106.getD 3 0, x14, x15]) (i := 10) (dflt := 0) (g123.rd (hm123.ext _hx)) Try.underlying22 rfl (by omega) (by simp) rfl) ?_
      refine dw_q rfl rfl (fun _ _hx => ev_move (v := sv) s10) ?_
      refine dw_q rfl rfl (fun _ _hx => ev_move (v := (slc b9q66 0 8 8)) s11) ?_
      refine dw_q rfl rfl (fun _ _hx => ev_move (v := (i64 2)) rfl) ?_
      refine dw_q rfl rfl (fun _ _hx => ev_ia_slc (r := 2) (i := 2) (by omega) Try.underlying48 ti50 rfl rfl (by omega) (by omega)) ?_
      refine dw_q (v := (slc b3q66 0 4 4)) rfl rfl (fun _ _hx => ev_load1 Try.underlying50 rfl rfl ((hm123.ext _hx).own (b9q66, .cells #[(slc b1q66 0 4 4), (slc b2q66 0 4 4), (slc b3q66 0 4 4), (slc b4q66 0 4 4), (slc b5q66 0 4 4), (slc b6q66 0 4 4), (slc b7q66 0 4 4), (slc b8q66 0 4 4)] 50 (0, 0)) (by simp)) rfl) ?_
      refine dw_q rfl rfl (fun _ _hx => ev_ia_slc (r := 3) (i := 3) (by omega) Try.underlying50 ti3 rfl rfl (by omega) (by omega)) ?_
      refine dw_q (v := (i64 14)) rfl rfl (fun _ _hx => ev_load1 Try.underlying3 rfl rfl ((hm123.ext _hx).own (b3q66, .cells (cl i64 ([2, 6, 10, 14])) 3 (0, 0)) (by simp)) (get_clD _ _ 0 (by simp))) ?_
      refine dw_q rfl rfl (fun _ _hx => ev_indexAddr_rdv (i := 14) (g123.rd (hm123.ext _hx)) Try.underlying46 ti22 rfl rfl (by omega) (by simp)) ?_
      refine dw_q (v := (u32 x14)) rfl rfl (fun _ _hx => ev_load_rdD (l := [q86.getD 0 0, q106.getD 0 0, x2, x3, q86.getD 1 0, q106.getD 1 0, x6, x7, q86.getD 2 0, q106.getD 2 0, x10, x11, q86.getD 3 0, q106.getD 3 0, x14, x15]) (i := 14) (dflt := 0) (g123.rd (hm123.ext _hx)) Try.underlying22 rfl (by omega) (by simp) rfl) ?_
      refine dw_q rfl rfl (fun _ _hx => ev_build_cl u32 [x2, x6, x10, x14] u32_one ti23 Try.underlying23 ti22 rfl rfl) ?_
      obtain ⟨q127, hq127⟩ : ∃ q, q = quarterL left3 x2 x6 x10 x14 := ⟨_, rfl⟩
      have hq127l : q127.length = 4 := by rw [hq127]; rfl
      refine dw_x (v := (agg u32 q127)) rfl rfl (fun w125 _ew125 => OpR.mono (opR_call Try.func10 bd10 nm10 (args1 rfl) (c_quarter3 x2 x6 x10 x14 _)) (by rintro _ w126 ⟨rfl, _ew126⟩; exact ⟨by rw [hq127], _ew126⟩)) ?_
      refine dw_c rfl rfl (fun w128 _ew128 => ?_)
      have hm128 := hm123.ext _ew128
      refine OpR.mono (or_alloc_agg hm128 ti23) ?_
      rintro _ w129 ⟨b14_2, rfl, _ew129, hm129⟩
      refine ⟨_ew129, ?_⟩
      refine dw_nil (fun w130 _ew130 => ?_)
      have hm130 := hm129.ext _ew130
      refine rw_n (or_store_agg (f := u32) (l := q127) u32_one ti23 rfl rfl (by first | omega | (simp only [List.length_set, List.length_append, List.length_replicate, List.length_map, List.length_cons, List.length_nil]; omega) | (simp; done) | (simp; omega)) hm130.h0 (by rw [size_cl]; first | omega | (simp only [List.length_set, List.length_append, List.length_replicate, List.length_map, List.length_cons, List.length_nil]; omega) | (simp; done) | (simp; omega)) rfl) ?_
      rintro _ w131 uq131
      have hm131 := hm130.upd0 uq131
      refine rw_nil ?_
      refine kThen_normal ?_
      have hm132 := Mem.drop ([(b14_1, .cells (cl u32 q106) 23 (0, 0))]) _ (Mem.pick2 [_] Hs123 [_] _ hm131)
      refine CW.abs (fun g => g 0 = (agg u8 key) ∧ g 1 = (u32 counter) ∧ g 2 = (agg u8 nonce) ∧ g 3 = (ptr b3 0) ∧ g 5 = (ptr b5 0) ∧ g 6 = (Value.slice none 0 0) ∧ g 7 = sv60 ∧ g 8 = (i64 32) ∧ g 9 = (i64 12) ∧ g 10 = sv ∧ g 11 = (slc b9q66 0 8 8) ∧ g 12 = (i64 (k : Int)) ∧ g 13 = (i64 2) ∧ g 14 = (ptr b14_2 0) ∧ g 15 = (i64 4) ∧ g 21 = (bl false) ∧ g 37 = (bl false) ∧ g 53 = (bl (decide ((k : Int) < 10))) ∧ g 57 = (bl true) ∧ g 99 = (bl false) ∧ True) ⟨s0, s1, s2, s3, s5, s6, s7, s8, s9, s10, s11, s12, rfl, rfl, rfl, s21, s37, s53, rfl, rfl, trivial⟩ ?_
      rintro fr133 ⟨s0, s1, s2, s3, s5, s6, s7, s8, s9, s10, s11, s12, s13, s14, s15, s21, s37, s53, s57, s99, _⟩
      refine cw_seq ?_
      refine cw_region ?_
      refine rw_q rfl (ev_assign (v := (i64 0)) rfl) ?_
      refine rw_nil ?_
      refine kThen_normal ?_
      refine cw_block' ?_
      refine cw_rounds 5 ?_
      refine cr_succ ?_
      refine cw_seq ?_
      refine cw_seq ?_
      refine cw_region ?_
      refine rw_q rfl (ev_move (v := (i64 0)) rfl) ?_
      refine rw_q rfl (ev_i64_lss (a := 0) (b := 4) rfl rfl) ?_
      refine rw_nil ?_
      refine kThen_normal ?_
      refine cw_cond_t rfl (by decide) ?_
      refine cw_skip ?_
      refine kThen_normal ?_
      refine cw_seq ?_
      refine cw_block ?_
      refine cw_draw [(0, false), (1, false), (2, false), (3, false), (4, false), (5, false), (6, false), (7, false), (8, false), (9, false), (10, false)] 11 (by kernel_rfl) ?_
      refine dw_q rfl rfl (fun _ _hx => ev_move (v := sv) s10) ?_
      refine dw_q rfl rfl (fun _ _hx => ev_move (v := (slc b9q66 0 8 8)) s11) ?_
      refine dw_q rfl rfl (fun _ _hx => ev_move (v := (i64 2)) s13) ?_
      refine dw_q rfl rfl (fun _ _hx => ev_ia_slc (r := 2) (i := 2) (by omega) Try.underlying48 ti50 rfl rfl (by omega) (by omega)) ?_
      refine dw_q (v := (slc b3q66 0 4 4)) rfl rfl (fun _ _hx => ev_load1 Try.underlying50 rfl rfl ((hm132.ext _hx).own (b9q66, .cells #[(slc b1q66 0 4 4), (slc b2q66 0 4 4), (slc b3q66 0 4 4), (slc b4q66 0 4 4), (slc b5q66 0 4 4), (slc b6q66 0 4 4), (slc b7q66 0 4 4), (slc b8q66 0 4 4)] 50 (0, 0)) (by simp)) rfl) ?_
      refine dw_q rfl rfl (fun _ _hx => ev_move (v := (i64 0)) rfl) ?_
      refine dw_q rfl rfl (fun _ _hx => ev_ia_slc (r := 0) (i := 0) (by omega) Try.underlying50 ti3 rfl rfl (by omega) (by omega)) ?_
      refine dw_q (v := (i64 2)) rfl rfl (fun _ _hx => ev_load1 Try.underlying3 rfl rfl ((hm132.ext _hx).own (b3q66, .cells (cl i64 ([2, 6, 10, 14])) 3 (0, 0)) (by simp)) (get_clD _ _ 0 (by simp))) ?_
      refine dw_q rfl rfl (fun _ _hx => ev_move (v := (i64 0)) rfl) ?_
      refine dw_q rfl rfl (fun _ _hx => ev_ia_arr (r := 0) (i := 0) (by omega) Try.underlying23 ti22 s14 rfl (by omega) (by omega)) ?_
      refine dw_q (v := (u32 (q127.getD 0 0))) rfl rfl (fun _ _hx => ev_load1 Try.underlying22 rfl rfl (hm132.ext _hx).h0 (get_clD _ _ 0 (by first | omega | (simp only [List.length_set, List.length_append, List.length_replicate, List.length_map, List.length_cons, List.length_nil]; omega) | (simp; done) | (simp; omega)))) ?_
      refine dw_nil (fun w134 _ew134 => ?_)
      have hm134 := hm132.ext _ew134
      refine rw_q rfl (ev_indexAddr_rdv (i := 2) (g123.rd (Mem.pick [_] Hs123 _ hm134)) Try.underlying46 ti22 rfl rfl (by omega) (by simp)) ?_
      refine rw_n (or_store_grow (i := 2) (a := q127.getD 0 0) (Mem.pick [_] Hs123 _ hm134) g123 u32_one ti22 (by omega) (by simp) rfl rfl) ?_
      rintro _ w135 ⟨Hs135, hm135, g135⟩
      replace g135 : Grow u32 22 sv ([q86.getD 0 0, q106.getD 0 0, q127.getD 0 0, x3, q86.getD 1 0, q106.getD 1 0, x6, x7, q86.getD 2 0, q106.getD 2 0, x10, x11, q86.getD 3 0, q106.getD 3 0, x14, x15]) Hs135 := g135
      refine rw_nil ?_
      refine kBlk_normal ?_
      refine CW.abs (fun g => g 0 = (agg u8 key) ∧ g 1 = (u32 counter) ∧ g 2 = (agg u8 nonce) ∧ g 3 = (ptr b3 0) ∧ g 5 = (ptr b5 0) ∧ g 6 = (Value.slice none 0 0) ∧ g 7 = sv60 ∧ g 8 = (i64 32) ∧ g 9 = (i64 12) ∧ g 10 = sv ∧ g 11 = (slc b9q66 0 8 8) ∧ g 12 = (i64 (k : Int)) ∧ g 13 = (i64 2) ∧ g 14 = (ptr b14_2 0) ∧ g 15 = (i64 0) ∧ g 21 = (bl false) ∧ g 37 = (bl false) ∧ g 53 = (bl (decide ((k : Int) < 10))) ∧ g 57 = (bl true) ∧ g 99 = (bl true) ∧ True) ⟨s0, s1, s2, s3, s5, s6, s7, s8, s9, s10, s11, s12, s13, s14, rfl, s21, s37, s53, s57, rfl, trivial⟩ ?_
      rintro fr136 ⟨s0, s1, s2, s3, s5, s6, s7, s8, s9, s10, s11, s12, s13, s14, s15, s21, s37, s53, s57, s99, _⟩
      refine cw_region ?_
      refine rw_q rfl (ev_move (v := (i64 0)) s15) ?_
      refine rw_q (v := (i64 1)) rfl (ev_i64_add (a := 0) (b := 1) rfl rfl (by omega) (by omega)) ?_
      refine rw_q rfl (ev_assign (v := (i64 1)) rfl) ?_
      refine rw_nil ?_
      refine kThen_normal ?_
      refine cr_succ ?_
      refine cw_seq ?_
      refine cw_seq ?_
      refine cw_region ?_
      refine rw_q rfl (ev_move (v := (i64 1)) rfl) ?_
      refine rw_q rfl (ev_i64_lss (a := 1) (b := 4) rfl rfl) ?_
      refine rw_nil ?_
      refine kThen_normal ?_
      refine cw_cond_t rfl (by decide) ?_
      refine cw_skip ?_
      refine kThen_normal ?_
      refine cw_seq ?_
      refine cw_block ?_
      refine cw_draw [(0, false), (1, false), (2, false), (3, false), (4, false), (5, false), (6, false), (7, false), (8, false), (9, false), (10, false)] 11 (by kernel_rfl) ?_
      refine dw_q rfl rfl (fun _ _hx => ev_move (v := sv) s10) ?_
      refine dw_q rfl rfl (fun _ _hx => ev_move (v := (slc b9q66 0 8 8)) s11) ?_
      refine dw_q rfl rfl (fun _ _hx => ev_move (v := (i64 2)) s13) ?_
      refine dw_q rfl rfl (fun _ _hx => ev_ia_slc (r := 2) (i := 2) (by omega) Try.underlying48 ti50 rfl rfl (by omega) (by omega)) ?_
      refine dw_q (v := (slc b3q66 0 4 4)) rfl rfl (fun _ _hx => ev_load1 Try.underlying50 rfl rfl ((hm135.ext _hx).own (b9q66, .cells #[(slc b1q66 0 4 4), (slc b2q66 0 4 4), (slc b3q66 0 4 4), (slc b4q66 0 4 4), (slc b5q66 0 4 4), (slc b6q66 0 4 4), (slc b7q66 0 4 4), (slc b8q66 0 4 4)] 50 (0, 0)) (by simp)) rfl) ?_
      refine dw_q rfl rfl (fun _ _hx => ev_move (v := (i64 1)) rfl) ?_
      refine dw_q rfl rfl (fun _ _hx => ev_ia_slc (r := 1) (i := 1) (by omega) Try.underlying50 ti3 rfl rfl (by omega) (by omega)) ?_
      refine dw_q (v := (i64 6)) rfl rfl (fun _ _hx => ev_load1 Try.underlying3 rfl rfl ((hm135.ext _hx).own (b3q66, .cells (cl i64 ([2, 6, 10, 14])) 3 (0, 0)) (by simp)) (get_clD _ _ 0 (by simp))) ?_
      refine dw_q rfl rfl (fun _ _hx => ev_move (v := (i64 1)) rfl) ?_
      refine dw_q rfl rfl (fun _ _hx => ev_ia_arr (r := 1) (i := 1) (by omega) Try.underlying23 ti22 s14 rfl (by omega) (by omega)) ?_
      refine dw_q (v := (u32 (q127.getD 1 0))) rfl rfl (fun _ _hx => ev_load1 Try.underlying22 rfl rfl ((hm135.ext _hx).own (b14_2, .cells (cl u32 q127) 23 (0, 0)) (by simp)) (get_clD _ _ 0 (by first | omega | (simp only [List.length_set, List.length_append, List.length_replicate, List.length_map, List.length_cons, List.length_nil]; omega) | (simp; done) | (simp; omega)))) ?_
      refine dw_nil (fun w137 _ew137 => ?_)
      have hm137 := hm135.ext _ew137
      refine rw_q rfl (ev_indexAddr_rdv (i := 6) (g135.rd hm137) Try.underlying46 ti22 rfl rfl (by omega) (by simp)) ?_
      refine rw_n (or_store_grow (i := 6) (a := q127.getD 1 0) hm137 g135 u32_one ti22 (by omega) (by simp) rfl rfl) ?_
      rintro _ w138 ⟨Hs138, hm138, g138⟩
      replace g138 : Grow u32 22 sv ([q86.getD 0 0, q106.getD 0 0, q127.getD 0 0, x3, q86.getD 1 0, q106.getD 1 0, q127.getD 1 0, x7, q86.getD 2 0, q106.getD 2 0, x10, x11, q86.getD 3 0, q106.getD 3 0, x14, x15]) Hs138 := g138
      refine rw_nil ?_
      refine kBlk_normal ?_
      refine CW.abs (fun g => g 0 = (agg u8 key) ∧ g 1 = (u32 counter) ∧ g 2 = (agg u8 nonce) ∧ g 3 = (ptr b3 0) ∧ g 5 = (ptr b5 0) ∧ g 6 = (Value.slice none 0 0) ∧ g 7 = sv60 ∧ g 8 = (i64 32) ∧ g 9 = (i64 12) ∧ g 10 = sv ∧ g 11 = (slc b9q66 0 8 8) ∧ g 12 = (i64 (k : Int)) ∧ g 13 = (i64 2) ∧ g 14 = (ptr b14_2 0) ∧ g 15 = (i64 1) ∧ g 21 = (bl false) ∧ g 37 = (bl false) ∧ g 53 = (bl (decide ((k : Int) < 10))) ∧ g 57 = (bl true) ∧ g 99 = (bl true) ∧ True) ⟨s0, s1, s2, s3, s5, s6, s7, s8, s9, s10, s11, s12, s13, s14, rfl, s21, s37, s53, s57, rfl, trivial⟩ ?_
      rintro fr139 ⟨s0, s1, s2, s3, s5, s6, s7, s8, s9, s10, s11, s12, s13, s14, s15, s21, s37, s53, s57, s99, _⟩
      refine cw_region ?_
      refine rw_q rfl (ev_move (v := (i64 1)) s15) ?_
      refine rw_q (v := (i64 2)) rfl (ev_i64_add (a := 1) (b := 1) rfl rfl (by omega) (by omega)) ?_
      refine rw_q rfl (ev_assign (v := (i64 2)) rfl) ?_
      refine rw_nil ?_
      refine kThen_normal ?_
      refine cr_succ ?_
      refine cw_seq ?_
      refine cw_seq ?_
      refine cw_region ?_
      refine rw_q rfl (ev_move (v := (i64 2)) rfl) ?_
      refine rw_q rfl (ev_i64_lss (a := 2) (b := 4) rfl rfl) ?_
      refine rw_nil ?_
      refine kThen_normal ?_
      refine cw_cond_t rfl (by decide) ?_
      refine cw_skip ?_
      refine kThen_normal ?_
      refine cw_seq ?_
      refine cw_block ?_
      refine cw_draw [(0, false), (1, false), (2, false), (3, false), (4, false), (5, false), (6, false), (7, false), (8, false), (9, false), (10, false)] 11 (by kernel_rfl) ?_
      refine dw_q rfl rfl (fun _ _hx => ev_move (v := sv) s10) ?_
      refine dw_q rfl rfl (fun _ _hx => ev_move (v := (slc b9q66 0 8 8)) s11) ?_
      refine dw_q rfl rfl (fun _ _hx => ev_move (v := (i64 2)) s13) ?_
      refine dw_q rfl rfl (fun _ _hx => ev_ia_slc (r := 2) (i := 2) (by omega) Try.underlying48 ti50 rfl rfl (by omega) (by omega)) ?_
      refine dw_q (v := (slc b3q66 0 4 4)) rfl rfl (fun _ _hx => ev_load1 Try.underlying50 rfl rfl ((hm138.ext _hx).own (b9q66, .cells #[(slc b1q66 0 4 4), (slc b2q66 0 4 4), (slc b3q66 0 4 4), (slc b4q66 0 4 4), (slc b5q66 0 4 4), (slc b6q66 0 4 4), (slc b7q66 0 4 4), (slc b8q66 0 4 4)] 50 (0, 0)) (by simp)) rfl) ?_
      refine dw_q rfl rfl (fun _ _hx => ev_move (v := (i64 2)) rfl) ?_
      refine dw_q rfl rfl (fun _ _hx => ev_ia_slc (r := 2) (i := 2) (by omega) Try.underlying50 ti3 rfl rfl (by omega) (by omega)) ?_
      refine dw_q (v := (i64 10)) rfl rfl (fun _ _hx => ev_load1 Try.underlying3 rfl rfl ((hm138.ext _hx).own (b3q66, .cells (cl i64 ([2, 6, 10, 14])) 3 (0, 0)) (by simp)) (get_clD _ _ 0 (by simp))) ?_
      refine dw_q rfl rfl (fun _ _hx => ev_move (v := (i64 2)) rfl) ?_
      refine dw_q rfl rfl (fun _ _hx => ev_ia_arr (r := 2) (i := 2) (by omega) Try.underlying23 ti22 s14 rfl (by omega) (by omega)) ?_
      refine dw_q (v := (u32 (q127.getD 2 0))) rfl rfl (fun _ _hx => ev_load1 Try.underlying22 rfl rfl ((hm138.ext _hx).own (b14_2, .cells (cl u32 q127) 23 (0, 0)) (by simp)) (get_clD _ _ 0 (by first | omega | (simp only [List.length_set, List.length_append, List.length_replicate, List.length_map, List.length_cons, List.length_nil]; omega) | (simp; done) | (simp; omega)))) ?_
      refine dw_nil (fun w140 _ew140 => ?_)
      have hm140 := hm138.ext _ew140
      refine rw_q rfl (ev_indexAddr_rdv (i := 10) (g138.rd hm140) Try.underlying46 ti22 rfl rfl (by omega) (by simp)) ?_
      refine rw_n (or_store_grow (i := 10) (a := q127.getD 2 0) hm140 g138 u32_one ti22 (by omega) (by simp) rfl rfl) ?_
      rintro _ w141 ⟨Hs141, hm141, g141⟩
      replace g141 : Grow u32 22 sv ([q86.getD 0 0, q106.getD 0 0, q127.getD 0 0, x3, q86.getD 1 0, q106.getD 1 0, q127.getD 1 0, x7, q86.getD 2 0, q106.getD 2 0, q127.getD 2 0, x11, q86.getD 3 0, q106.getD 3 0, x14, x15]) Hs141 := g141
      refine rw_nil ?_
      refine kBlk_normal ?_
      refine CW.abs (fun g => g 0 = (agg u8 key) ∧ g 1 = (u32 counter) ∧ g 2 = (agg u8 nonce) ∧ g 3 = (ptr b3 0) ∧ g 5 = (ptr b5 0) ∧ g 6 = (Value.slice none 0 0) ∧ g 7 = sv60 ∧ g 8 = (i64 32) ∧ g 9 = (i64 12) ∧ g 10 = sv ∧ g 11 = (slc b9q66 0 8 8) ∧ g 12 = (i64 (k : Int)) ∧ g 13 = (i64 2) ∧ g 14 = (ptr b14_2 0) ∧ g 15 = (i64 2) ∧ g 21 = (bl false) ∧ g 37 = (bl false) ∧ g 53 = (bl (decide ((k : Int) < 10))) ∧ g 57 = (bl true) ∧ g 99 = (bl true) ∧ True) ⟨s0, s1, s2, s3, s5, s6, s7, s8, s9, s10, s11, s12, s13, s14, rfl, s21, s37, s53, s57, rfl, trivial⟩ ?_
      rintro fr142 ⟨s0, s1, s2, s3, s5, s6, s7, s8, s9, s10, s11, s12, s13, s14, s15, s21, s37, s53, s57, s99, _⟩
      refine cw_region ?_
      refine rw_q rfl (ev_move (v := (i64 2)) s15) ?_
      refine rw_q (v := (i64 3)) rfl (ev_i64_add (a := 2) (b := 1) rfl rfl (by omega) (by omega)) ?_
      refine rw_q rfl (ev_assign (v := (i64 3)) rfl) ?_
      refine rw_nil ?_
      refine kThen_normal ?_
      refine cr_succ ?_
      refine cw_seq ?_
      refine cw_seq ?_
      refine cw_region ?_
      refine rw_q rfl (ev_move (v := (i64 3)) rfl) ?_
      refine rw_q rfl (ev_i64_lss (a := 3) (b := 4) rfl rfl) ?_
      refine rw_nil ?_
      refine kThen_normal ?_
      refine cw_cond_t rfl (by decide) ?_
      refine cw_skip ?_
      refine kThen_normal ?_
      refine cw_seq ?_
      refine cw_block ?_
      refine cw_draw [(0, false), (1, false), (2, false), (3, false), (4, false), (5, false), (6, false), (7, false), (8, false), (9, false), (10, false)] 11 (by kernel_rfl) ?_
      refine dw_q rfl rfl (fun _ _hx => ev_move (v := sv) s10) ?_
      refine dw_q rfl rfl (fun _ _hx => ev_move (v := (slc b9q66 0 8 8)) s11) ?_
      refine dw_q rfl rfl (fun _ _hx => ev_move (v := (i64 2)) s13) ?_
      refine dw_q rfl rfl (fun _ _hx => ev_ia_slc (r := 2) (i := 2) (by omega) Try.underlying48 ti50 rfl rfl (by omega) (by omega)) ?_
      refine dw_q (v := (slc b3q66 0 4 4)) rfl rfl (fun _ _hx => ev_load1 Try.underlying50 rfl rfl ((hm141.ext _hx).own (b9q66, .cells #[(slc b1q66 0 4 4), (slc b2q66 0 4 4), (slc b3q66 0 4 4), (slc b4q66 0 4 4), (slc b5q66 0 4 4), (slc b6q66 0 4 4), (slc b7q66 0 4 4), (slc b8q66 0 4 4)] 50 (0, 0)) (by simp)) rfl) ?_
      refine dw_q rfl rfl (fun _ _hx => ev_move (v := (i64 3)) rfl) ?_
      refine dw_q rfl rfl (fun _ _hx => ev_ia_slc (r := 3) (i := 3) (by omega) Try.underlying50 ti3 rfl rfl (by omega) (by omega)) ?_
      refine dw_q (v := (i64 14)) rfl rfl (fun _ _hx => ev_load1 Try.underlying3 rfl rfl ((hm141.ext _hx).own (b3q66, .cells (cl i64 ([2, 6, 10, 14])) 3 (0, 0)) (by simp)) (get_clD _ _ 0 (by simp))) ?_
      refine dw_q rfl rfl (fun _ _hx => ev_move (v := (i64 3)) rfl) ?_
      refine dw_q rfl rfl (fun _ _hx => ev_ia_arr (r := 3) (i := 3) (by omega) Try.underlying23 ti22 s14 rfl (by omega) (by omega)) ?_
      refine dw_q (v := (u32 (q127.getD 3 0))) rfl rfl (fun _ _hx => ev_load1 Try.underlying22 rfl rfl ((hm141.ext _hx).own (b14_2, .cells (cl u32 q127) 23 (0, 0)) (by simp)) (get_clD _ _ 0 (by first | omega | (simp only [List.length_set, List.length_append, List.length_replicate, List.length_map, List.length_cons, List.length_nil]; omega) | (simp; done) | (simp; omega)))) ?_
      refine dw_nil (fun w143 _ew143 => ?_)
      have hm143 := hm141.ext _ew143
      refine rw_q rfl (ev_indexAddr_rdv (i := 14) (g141.rd hm143) Try.underlying46 ti22 rfl rfl (by omega) (by simp)) ?_
      refine rw_n (or_store_grow (i := 14) (a := q127.getD 3 0) hm143 g141 u32_one ti22 (by omega) (by simp) rfl rfl) ?_
      rintro _ w144 ⟨Hs144, hm144, g144⟩
      replace g144 : Grow u32 22 sv ([q86.getD 0 0, q106.getD 0 0, q127.getD 0 0, x3, q86.getD 1 0, q106.getD 1 0, q127.getD 1 0, x7, q86.getD 2 0, q106.getD 2 0, q127.getD 2 0, x11, q86.getD 3 0, q106.getD 3 0, q127.getD 3 0, x15]) Hs144 := g144
      refine rw_nil ?_
      refine kBlk_normal ?_
      refine CW.abs (fun g => g 0 = (agg u8 key) ∧ g 1 = (u32 counter) ∧ g 2 = (agg u8 nonce) ∧ g 3 = (ptr b3 0) ∧ g 5 = (ptr b5 0) ∧ g 6 = (Value.slice none 0 0) ∧ g 7 = sv60 ∧ g 8 = (i64 32) ∧ g 9 = (i64 12) ∧ g 10 = sv ∧ g 11 = (slc b9q66 0 8 8) ∧ g 12 = (i64 (k : Int)) ∧ g 13 = (i64 2) ∧ g 14 = (ptr b14_2 0) ∧ g 15 = (i64 3) ∧ g 21 = (bl false) ∧ g 37 = (bl false) ∧ g 53 = (bl (decide ((k : Int) < 10))) ∧ g 57 = (bl true) ∧ g 99 = (bl true) ∧ True) ⟨s0, s1, s2, s3, s5, s6, s7, s8, s9, s10, s11, s12, s13, s14, rfl, s21, s37, s53, s57, rfl, trivial⟩ ?_
      rintro fr145 ⟨s0, s1, s2, s3, s5, s6, s7, s8, s9, s10, s11, s12, s13, s14, s15, s21, s37, s53, s57, s99, _⟩
      refine cw_region ?_
      refine rw_q rfl (ev_move (v := (i64 3)) s15) ?_
      refine rw_q (v := (i64 4)) rfl (ev_i64_add (a := 3) (b := 1) rfl rfl (by omega) (by omega)) ?_
      refine rw_q rfl (ev_assign (v := (i64 4)) rfl) ?_
      refine rw_nil ?_
      refine kThen_normal ?_
      refine cr_succ ?_
      refine cw_seq ?_
      refine cw_seq ?_
      refine cw_region ?_
      refine rw_q rfl (ev_move (v := (i64 4)) rfl) ?_
      refine rw_q rfl (ev_i64_lss (a := 4) (b := 4) rfl rfl) ?_
      refine rw_nil ?_
      refine kThen_normal ?_
      refine cw_cond_f rfl (by decide) ?_
      refine cw_exit ?_
      refine kThen_exit (kThen_exit (kBlk_hit ?_))
      refine kBlk_normal ?_
      refine cw_region ?_
      refine rw_q rfl (ev_move (v := (i64 2)) s13) ?_
      refine rw_q (v := (i64 3)) rfl (ev_i64_add (a := 2) (b := 1) rfl rfl (by omega) (by omega)) ?_
      refine rw_q rfl (ev_assign (v := (i64 3)) rfl) ?_
      refine rw_nil ?_
      refine kThen_normal ?_
      refine cr_succ ?_
      refine cw_seq ?_
      refine cw_seq ?_
      refine cw_region ?_
      refine rw_q rfl (ev_move (v := (i64 3)) rfl) ?_
      refine rw_q rfl (ev_i64_lss (a := 3) (b := 8) rfl rfl) ?_
      refine rw_nil ?_
      refine kThen_normal ?_
      refine cw_cond_t rfl (by decide) ?_
      refine cw_skip ?_
      refine kThen_normal ?_
      refine cw_seq ?_
      refine cw_block ?_
      refine cw_seq ?_
      refine cw_draw [(0, false), (1, false), (2, false), (3, false), (4, false), (5, false), (6, false), (7, false), (8, false), (9, false), (10, false), (11, false), (12, false), (13, false), (14, false), (15, false), (16, false), (17, false), (18, false), (19, false), (20, false), (21, false), (22, false), (23, false), (24, false), (25, false), (26, false), (27, false), (28, false), (29, false), (30, false), (31, false), (32, false), (33, false), (34, false), (35, false), (36, false), (37, false), (38, true)] 39 (by kernel_rfl) ?_
      refine dw_q rfl rfl (fun _ _hx => ev_move (v := sv) s10) ?_
      refine dw_q rfl rfl (fun _ _hx => ev_move (v := (slc b9q66 0 8 8)) s11) ?_
      refine dw_q rfl rfl (fun _ _hx => ev_move (v := (i64 3)) rfl) ?_
      refine dw_q rfl rfl (fun _ _hx => ev_ia_slc (r := 3) (i := 3) (by omega) Try.underlying48 ti50 rfl rfl (by omega) (by omega)) ?_
      refine dw_q (v := (slc b4q66 0 4 4)) rfl rfl (fun _ _hx => ev_load1 Try.underlying50 rfl rfl ((hm144.ext _hx).own (b9q66, .cells #[(slc b1q66 0 4 4), (slc b2q66 0 4 4), (slc b3q66 0 4 4), (slc b4q66 0 4 4), (slc b5q66 0 4 4), (slc b6q66 0 4 4), (slc b7q66 0 4 4), (slc b8q66 0 4 4)] 50 (0, 0)) (by simp)) rfl) ?_
      refine dw_q rfl rfl (fun _ _hx => ev_ia_slc (r := 0) (i := 0) (by omega) Try.underlying50 ti3 rfl rfl (by omega) (by omega)) ?_
      refine dw_q (v := (i64 3)) rfl rfl (fun _ _hx => ev_load1 Try.underlying3 rfl rfl ((hm144.ext _hx).own (b4q66, .cells (cl i64 ([3, 7, 11, 15])) 3 (0, 0)) (by simp)) (get_clD _ _ 0 (by simp))) ?_
      refine dw_q rfl rfl (fun _ _hx => ev_indexAddr_rdv (i := 3) (g144.rd (hm144.ext _hx)) Try.underlying46 ti22 rfl rfl (by omega) (by simp)) ?_
      refine dw_q (v := (u32 x3)) rfl rfl (fun _ _hx => ev_load_rdD (l := [q86.getD 0 0, q106.getD 0 0, q127.getD 0 0, x3, q86.getD 1 0, q106.getD 1 0, q127.getD 1 0, x7, q86.getD 2 0, q106.getD 2 0, q127.getD 2 0, x11, q86.getD 3 0, q106.getD 3 0, q127.getD 3 0, x15]) (i := 3) (dflt := 0) (g144.rd (hm144.ext _hx)) Try.underlying22 rfl (by omega) (by simp) rfl) ?_
      refine dw_q rfl rfl (fun _ _hx => ev_move (v := sv) s10) ?_
      refine dw_q rfl rfl (fun _ _hx => ev_move (v := (slc b9q66 0 8 8)) s11) ?_
      refine dw_q rfl rfl (fun _ _hx => ev_move (v := (i64 3)) rfl) ?_
      refine dw_q rfl rfl (fun _ _hx => ev_ia_slc (r := 3) (i := 3) (by omega) Try.underlying48 ti50 rfl rfl (by omega) (by omega)) ?_
      refine dw_q (v := (slc b4q66 0 4 4)) rfl rfl (fun _ _hx => ev_load1 Try.underlying50 rfl rfl ((hm144.ext _hx).own (b9q66, .cells #[(slc b1q66 0 4 4), (slc b2q66 0 4 4), (slc b3q66 0 4 4), (slc b4q66 0 4 4), (slc b5q66 0 4 4), (slc b6q66 0 4 4), (slc b7q66 0 4 4), (slc b8q66 0 4 4)] 50 (0, 0)) (by simp)) rfl) ?_
      refine dw_q rfl rfl (fun _ _hx => ev_ia_slc (r := 1) (i := 1) (by omega) Try.underlying50 ti3 rfl rfl (by omega) (by omega)) ?_
      refine dw_q (v := (i64 7)) rfl rfl (fun _ _hx => ev_load1 Try.underlying3 rfl rfl ((hm144.ext _hx).own (b4q66, .cells (cl i64 ([3, 7, 11, 15])) 3 (0, 0)) (by simp)) (get_clD _ _ 0 (by simp))) ?_
      refine dw_q rfl rfl (fun _ _hx => ev_indexAddr_rdv (i := 7) (g144.rd (hm144.ext _hx)) Try.underlying46 ti22 rfl rfl (by omega) (by simp)) ?_
      refine dw_q (v := (u32 x7)) rfl rfl (fun _ _hx => ev_load_rdD (l := [q86.getD 0 0, q106.getD 0 0, q127.getD 0 0, x3, q86.getD 1 0, q106.getD 1 0, q127.getD 1 0, x7, q86.getD 2 0, q106.getD 2 0, q127.getD 2 0, x11, q86.getD 3 0, q106.getD 3 0, q127.getD 3 0, x15]) (i := 7) (dflt := 0) (g144.rd (hm144.ext _hx)) Try.underlying22 rfl (by omega) (by simp) rfl) ?_
      refine dw_q rfl rfl (fun _ _hx => ev_move (v := sv) s10) ?_
      refine dw_q rfl rfl (fun _ _hx => ev_move (v := (slc b9q66 0 8 8)) s11) ?_
      refine dw_q rfl rfl (fun _ _hx => ev_move (v := (i64 3)) rfl) ?_
      refine dw_q rfl rfl (fun _ _hx => ev_ia_slc (r := 3) (i := 3) (by omega) Try.underlying48 ti50 rfl rfl (by omega) (by omega)) ?_
      refine dw_q (v := (slc b4q66 0 4 4)) rfl rfl (fun _ _hx => ev_load1 Try.underlying50 rfl rfl ((hm144.ext _hx).own (b9q66, .cells #[(slc b1q66 0 4 4), (slc b2q66 0 4 4), (slc b3q66 0 4 4), (slc b4q66 0 4 4), (slc b5q66 0 4 4), (slc b6q66 0 4 4), (slc b7q66 0 4 4), (slc b8q66 0 4 4)] 50 (0, 0)) (by simp)) rfl) ?_
      refine dw_q rfl rfl (fun _ _hx => ev_ia_slc (r := 2) (i := 2) (by omega) Try.underlying50 ti3 rfl rfl (by omega) (by omega)) ?_
      refine dw_q (v := (i64 11)) rfl rfl (fun _ _hx => ev_load1 Try.underlying3 rfl rfl ((hm144.ext _hx).own (b4q66, .cells (cl i64 ([3, 7, 11, 15])) 3 (0, 0)) (by simp)) (get_clD _ _ 0 (by simp))) ?_
      refine dw_q rfl rfl (fun _ _hx => ev_indexAddr_rdv (i := 11) (g144.rd (hm144.ext _hx)) Try.underlying46 ti22 rfl rfl (by omega) (by simp)) ?_
      refine dw_q (v := (u32 x11)) rfl rfl (fun _ _hx => ev_load_rdD (l := [q86.getD 0 0, q106.getD 0 0, q127.getD 0 0, x3, q86.getD 1 0, q106.getD 1 0, q127.getD 1 0, x7, q86.getD 2 0, q106.getD 2 0, q127.getD 2 0, x11, q86.getD 3 0, q106.getD 3 0, q127.getD 3 0, x15]) (i := 11) (dflt := 0) (g144.rd (hm144.ext _hx)) Try.underlying22 rfl (by omega) (by simp) rfl) ?_
      refine dw_q rfl rfl (fun _ _hx => ev_move (v := sv) s10) ?_
      refine dw_q rfl rfl (fun _ _hx => ev_move (v := (slc b9q66 0 8 8)) s11) ?_
      refine dw_q rfl rfl (fun _ _hx => ev_move (v := (i64 3)) rfl) ?_
      refine dw_q rfl rfl (fun _ _hx => ev_ia_slc (r := 3) (i := 3) (by omega) Try.underlying48 ti50 rfl rfl (by omega) (by omega)) ?_
      refine dw_q (v := (slc b4q66 0 4 4)) rfl rfl (fun _ _hx => ev_load1 Try.underlying50 rfl rfl ((hm144.ext _hx).own (b9q66, .cells #[(slc b1q66 0 4 4), (slc b2q66 0 4 4), (slc b3q66 0 4 4), (slc b4q66 0 4 4), (slc b5q66 0 4 4), (slc b6q66 0 4 4), (slc b7q66 0 4 4), (slc b8q66 0 4 4)] 50 (0, 0)) (by simp)) rfl) ?_
      refine dw_q rfl rfl (fun _ _hx => ev_ia_slc (r := 3) (i := 3) (by omega) Try.underlying50 ti3 rfl rfl (by omega) (by omega)) ?_
      refine dw_q (v := (i64 15)) rfl rfl (fun _ _hx => ev_load1 Try.underlying3 rfl rfl ((hm144.ext _hx).own (b4q66, .cells (cl i64 ([3, 7, 11, 15])) 3 (0, 0)) (by simp)) (get_clD _ _ 0 (by simp))) ?_
      refine dw_q rfl rfl (fun _ _hx => ev_indexAddr_rdv (i := 15) (g144.rd (hm144.ext _hx)) Try.underlying46 ti22 rfl rfl (by omega) (by simp)) ?_
      refine dw_q (v := (u32 x15)) rfl rfl (fun _ _hx => ev_load_rdD (l := [q86.getD 0 0, q106.getD 0 0, q127.getD 0 0, x3, q86.getD 1 0, q106.getD 1 0, q127.getD 1 0, x7, q86.getD 2 0, q106.getD 2 0, q127.getD 2 0, x11, q86.getD 3 0, q106.getD 3 0, q127.getD 3 0, x15]) (i := 15) (dflt := 0) (g144.rd (hm144.ext _hx)) Try.underlying22 rfl (by omega) (by simp) rfl) ?_
      refine dw_q rfl rfl (fun _ _hx => ev_build_cl u32 [x3, x7, x11, x15] u32_one ti23 Try.underlying23 ti22 rfl rfl) ?_
      obtain ⟨q148, hq148⟩ : ∃ q, q = quarterL left3 x3 x7 x11 x15 := ⟨_, rfl⟩
      have hq148l : q148.length = 4 := by rw [hq148]; rfl
      refine dw_x (v := (agg u32 q148)) rfl rfl (fun w146 _ew146 => OpR.mono (opR_call Try.func10 bd10 nm10 (args1 rfl) (c_quarter3 x3 x7 x11 x15 _)) (by rintro _ w147 ⟨rfl, _ew147⟩; exact ⟨by rw [hq148], _ew147⟩)) ?_
      refine dw_c rfl rfl (fun w149 _ew149 => ?_)
      have hm149 := hm144.ext _ew149
      refine OpR.mono (or_alloc_agg hm149 ti23) ?_
      rintro _ w150 ⟨b14_3, rfl, _ew150, hm150⟩
      refine ⟨_ew150, ?_⟩
      refine dw_nil (fun w151 _ew151 => ?_)
      have hm151 := hm150.ext _ew151
      refine rw_n (or_store_agg (f := u32) (l := q148) u32_one ti23 rfl rfl (by first | omega | (simp only [List.length_set, List.length_append, List.length_replicate, List.length_map, List.length_cons, List.length_nil]; omega) | (simp; done) | (simp; omega)) hm151.h0 (by rw [size_cl]; first | omega | (simp only [List.length_set, List.length_append, List.length_replicate, List.length_map, List.length_cons, List.length_nil]; omega) | (simp; done) | (simp; omega)) rfl) ?_
      rintro _ w152 uq152
      have hm152 := hm151.upd0 uq152
      refine rw_nil ?_
      refine kThen_normal ?_
      have hm153 := Mem.drop ([(b14_2, .cells (cl u32 q127) 23 (0, 0))]) _ (Mem.pick2 [_] Hs144 [_] _ hm152)
      refine CW.abs (fun g => g 0 = (agg u8 key) ∧ g 1 = (u32 counter) ∧ g 2 = (agg u8 nonce) ∧ g 3 = (ptr b3 0) ∧ g 5 = (ptr b5 0) ∧ g 6 = (Value.slice none 0 0) ∧ g 7 = sv60 ∧ g 8 = (i64 32) ∧ g 9 = (i64 12) ∧ g 10 = sv ∧ g 11 = (slc b9q66 0 8 8) ∧ g 12 = (i64 (k : Int)) ∧ g 13 = (i64 3) ∧ g 14 = (ptr b14_3 0) ∧ g 15 = (i64 4) ∧ g 21 = (bl false) ∧ g 37 = (bl false) ∧ g 53 = (bl (decide ((k : Int) < 10))) ∧ g 57 = (bl true) ∧ g 99 = (bl false) ∧ True) ⟨s0, s1, s2, s3, s5, s6, s7, s8, s9, s10, s11, s12, rfl, rfl, rfl, s21, s37, s53, rfl, rfl, trivial⟩ ?_
      rintro fr154 ⟨s0, s1, s2, s3, s5, s6, s7, s8, s9, s10, s11, s12, s13, s14, s15, s21, s37, s53, s57, s99, _⟩
      refine cw_seq ?_
      refine cw_region ?_
      refine rw_q rfl (ev_assign (v := (i64 0)) rfl) ?_
      refine rw_nil ?_
      refine kThen_normal ?_
      refine cw_block' ?_
      refine cw_rounds 5 ?_
      refine cr_succ ?_
      refine cw_seq ?_
      refine cw_seq ?_
      refine cw_region ?_
      refine rw_q rfl (ev_move (v := (i64 0)) rfl) ?_
      refine rw_q rfl (ev_i64_lss (a := 0) (b := 4) rfl rfl) ?_
      refine rw_nil ?_
      refine kThen_normal ?_
      refine cw_cond_t rfl (by decide) ?_
      refine cw_skip ?_
      refine kThen_normal ?_
      refine cw_seq ?_
      refine cw_block ?_
      refine cw_draw [(0, false), (1, false), (2, false), (3, false), (4, false), (5, false), (6, false), (7, false), (8, false), (9, false), (10, false)] 11 (by kernel_rfl) ?_
      refine dw_q rfl rfl (fun _ _hx => ev_move (v := sv) s10) ?_
      refine dw_q rfl rfl (fun _ _hx => ev_move (v := (slc b9q66 0 8 8)) s11) ?_
      refine dw_q rfl rfl (fun _ _hx => ev_move (v := (i64 3)) s13) ?_
      refine dw_q rfl rfl (fun _ _hx => ev_ia_slc (r := 3) (i := 3) (by omega) Try.underlying48 ti50 rfl rfl (by omega) (by omega)) ?_
      refine dw_q (v := (slc b4q66 0 4 4)) rfl rfl (fun _ _hx => ev_load1 Try.underlying50 rfl rfl ((hm153.ext _hx).own (b9q66, .cells #[(slc b1q66 0 4 4), (slc b2q66 0 4 4), (slc b3q66 0 4 4), (slc b4q66 0 4 4), (slc b5q66 0 4 4), (slc b6q66 0 4 4), (slc b7q66 0 4 4), (slc b8q66 0 4 4)] 50 (0, 0)) (by simp)) rfl) ?_
      refine dw_q rfl rfl (fun _ _hx => ev_move (v := (i64 0)) rfl) ?_
      refine dw_q rfl rfl (fun _ _hx => ev_ia_slc (r := 0) (i := 0) (by omega) Try.underlying50 ti3 rfl rfl (by omega) (by omega)) ?_
      refine dw_q (v := (i64 3)) rfl rfl (fun _ _hx => ev_load1 Try.underlying3 rfl rfl ((hm153.ext _hx).own (b4q66, .cells (cl i64 ([3, 7, 11, 15])) 3 (0, 0)) (by simp)) (get_clD _ _ 0 (by simp))) ?_
      refine dw_q rfl rfl (fun _ _hx => ev_move (v := (i64 0)) rfl) ?_
      refine dw_q rfl rfl (fun _ _hx => ev_ia_arr (r := 0) (i := 0) (by omega) Try.underlying23 ti22 s14 rfl (by omega) (by omega)) ?_
      refine dw_q (v := (u32 (q148.getD 0 0))) rfl rfl (fun _ _hx => ev_load1 Try.underlying22 rfl rfl (hm153.ext _hx).h0 (get_clD _ _ 0 (by first | omega | (simp only [List.length_set, List.length_append, List.length_replicate, List.length_map, List.length_cons, List.length_nil]; omega) | (simp; done) | (simp; omega)))) ?_
      refine dw_nil (fun w155 _ew155 => ?_)
      have hm155 := hm153.ext _ew155
      refine rw_q rfl (ev_indexAddr_rdv (i := 3) (g144.rd (Mem.pick [_] Hs144 _ hm155)) Try.underlying46 ti22 rfl rfl (by omega) (by simp)) ?_
      refine rw_n (or_store_grow (i := 3) (a := q148.getD 0 0) (Mem.pick [_] Hs144 _ hm155) g144 u32_one ti22 (by omega) (by simp) rfl rfl) ?_
      rintro _ w156 ⟨Hs156, hm156, g156⟩
      replace g156 : Grow u32 22 sv ([q86.getD 0 0, q106.getD 0 0, q127.getD 0 0, q148.getD 0 0, q86.getD 1 0, q106.getD 1 0, q127.getD 1 0, x7, q86.getD 2 0, q106.getD 2 0, q127.getD 2 0, x11, q86.getD 3 0, q106.getD 3 0, q127.getD 3 0, x15]) Hs156 := g156
      refine rw_nil ?_
      refine kBlk_normal ?_
      refine CW.abs (fun g => g 0 = (agg u8 key) ∧ g 1 = (u32 counter) ∧ g 2 = (agg u8 nonce) ∧ g 3 = (ptr b3 0) ∧ g 5 = (ptr b5 0) ∧ g 6 = (Value.slice none 0 0) ∧ g 7 = sv60 ∧ g 8 = (i64 32) ∧ g 9 = (i64 12) ∧ g 10 = sv ∧ g 11 = (slc b9q66 0 8 8) ∧ g 12 = (i64 (k : Int)) ∧ g 13 = (i64 3) ∧ g 14 = (ptr b14_3 0) ∧ g 15 = (i64 0) ∧ g 21 = (bl false) ∧ g 37 = (bl false) ∧ g 53 = (bl (decide ((k : Int) < 10))) ∧ g 57 = (bl true) ∧ g 99 = (bl true) ∧ True) ⟨s0, s1, s2, s3, s5, s6, s7, s8, s9, s10, s11, s12, s13, s14, rfl, s21, s37, s53, s57, rfl, trivial⟩ ?_
      rintro fr157 ⟨s0, s1, s2, s3, s5, s6, s7, s8, s9, s10, s11, s12, s13, s14, s15, s21, s37, s53, s57, s99, _⟩
      refine cw_region ?_
      refine rw_q rfl (ev_move (v := (i64 0)) s15) ?_
      refine rw_q (v := (i64 1)) rfl (ev_i64_add (a := 0) (b := 1) rfl rfl (by omega) (by omega)) ?_
      refine rw_q rfl (ev_assign (v := (i64 1)) rfl) ?_
      refine rw_nil ?_
      refine kThen_normal ?_
      refine cr_succ ?_
      refine cw_seq ?_
      refine cw_seq ?_
      refine cw_region ?_
      refine rw_q rfl (ev_move (v := (i64 1)) rfl) ?_
      refine rw_q rfl (ev_i64_lss (a := 1) (b := 4) rfl rfl) ?_
      refine rw_nil ?_
      refine kThen_normal ?_
      refine cw_cond_t rfl (by decide) ?_
      refine cw_skip ?_
      refine kThen_normal ?_
      refine cw_seq ?_
      refine cw_block ?_
      refine cw_draw [(0, false), (1, false), (2, false), (3, false), (4, false), (5, false), (6, false), (7, false), (8, false), (9, false), (10, false)] 11 (by kernel_rfl) ?_
      refine dw_q rfl rfl (fun _ _hx => ev_move (v := sv) s10) ?_
      refine dw_q rfl rfl (fun _ _hx => ev_move (v := (slc b9q66 0 8 8)) s11) ?_
      refine dw_q rfl rfl (fun _ _hx => ev_move (v := (i64 3)) s13) ?_
      refine dw_q rfl rfl (fun _ _hx => ev_ia_slc (r := 3) (i := 3) (by omega) Try.underlying48 ti50 rfl rfl (by omega) (by omega)) ?_
      refine dw_q (v := (slc b4q66 0 4 4)) rfl rfl (fun _ _hx => ev_load1 Try.underlying50 rfl rfl ((hm156.ext _hx).own (b9q66, .cells #[(slc b1q66 0 4 4), (slc b2q66 0 4 4), (slc b3q66 0 4 4), (slc b4q66 0 4 4), (slc b5q66 0 4 4), (slc b6q66 0 4 4), (slc b7q66 0 4 4), (slc b8q66 0 4 4)] 50 (0, 0)) (by simp)) rfl) ?_
      refine dw_q rfl rfl (fun _ _hx => ev_move (v := (i64 1)) rfl) ?_
      refine dw_q rfl rfl (fun _ _hx => ev_ia_slc (r := 1) (i := 1) (by omega) Try.underlying50 ti3 rfl rfl (by omega) (by omega)) ?_
      refine dw_q (v := (i64 7)) rfl rfl (fun _ _hx => ev_load1 Try.underlying3 rfl rfl ((hm156.ext _hx).own (b4q66, .cells (cl i64 ([3, 7, 11, 15])) 3 (0, 0)) (by simp)) (get_clD _ _ 0 (by simp))) ?_
      refine dw_q rfl rfl (fun _ _hx => ev_move (v := (i64 1)) rfl) ?_
      refine dw_q rfl rfl (fun _ _hx => ev_ia_arr (r := 1) (i := 1) (by omega) Try.underlying23 ti22 s14 rfl (by omega) (by omega)) ?_
      refine dw_q (v := (u32 (q148.getD 1 0))) rfl rfl (fun _ _hx => ev_load1 Try.underlying22 rfl rfl ((hm156.ext _hx).own (b14_3, .cells (cl u32 q148) 23 (0, 0)) (by simp)) (get_clD _ _ 0 (by first | omega | (simp only [List.length_set, List.length_append, List.length_replicate, List.length_map, List.length_cons, List.length_nil]; omega) | (simp; done) | (simp; omega)))) ?_
      refine dw_nil (fun w158 _ew158 => ?_)
      have hm158 := hm156.ext _ew158
      refine rw_q rfl (ev_indexAddr_rdv (i := 7) (g156.rd hm158) Try.underlying46 ti22 rfl rfl (by omega) (by simp)) ?_
      refine rw_n (or_store_grow (i := 7) (a := q148.getD 1 0) hm158 g156 u32_one ti22 (by omega) (by simp) rfl rfl) ?_
      rintro _ w159 ⟨Hs159, hm159, g159⟩
      replace g159 : Grow u32 22 sv ([q86.getD 0 0, q106.getD 0 0, q127.getD 0 0, q148.getD 0 0, q86.getD 1 0, q106.getD 1 0, q127.getD 1 0, q148.getD 1 0, q86.getD 2 0, q106.getD 2 0, q127.getD 2 0, x11, q86.getD 3 0, q106.getD 3 0, q127.getD 3 0, x15]) Hs159 := g159
      refine rw_nil ?_
      refine kBlk_normal ?_
      refine CW.abs (fun g => g 0 = (agg u8 key) ∧ g 1 = (u32 counter) ∧ g 2 = (agg u8 nonce) ∧ g 3 = (ptr b3 0) ∧ g 5 = (ptr b5 0) ∧ g 6 = (Value.slice none 0 0) ∧ g 7 = sv60 ∧ g 8 = (i64 32) ∧ g 9 = (i64 12) ∧ g 10 = sv ∧ g 11 = (slc b9q66 0 8 8) ∧ g 12 = (i64 (k : Int)) ∧ g 13 = (i64 3) ∧ g 14 = (ptr b14_3 0) ∧ g 15 = (i64 1) ∧ g 21 = (bl false) ∧ g 37 = (bl false) ∧ g 53 = (bl (decide ((k : Int) < 10))) ∧ g 57 = (bl true) ∧ g 99 = (bl true) ∧ True) ⟨s0, s1, s2, s3, s5, s6, s7, s8, s9, s10, s11, s12, s13, s14, rfl, s21, s37, s53, s57, rfl, trivial⟩ ?_
      rintro fr160 ⟨s0, s1, s2, s3, s5, s6, s7, s8, s9, s10, s11, s12, s13, s14, s15, s21, s37, s53, s57, s99, _⟩
      refine cw_region ?_
      refine rw_q rfl (ev_move (v := (i64 1)) s15) ?_
      refine rw_q (v := (i64 2)) rfl (ev_i64_add (a := 1) (b := 1) rfl rfl (by omega) (by omega)) ?_
      refine rw_q rfl (ev_assign (v := (i64 2)) rfl) ?_
      refine rw_nil ?_
      refine kThen_normal ?_
      refine cr_succ ?_
      refine cw_seq ?_
      refine cw_seq ?_
      refine cw_region ?_
      refine rw_q rfl (ev_move (v := (i64 2)) rfl) ?_
      refine rw_q rfl (ev_i64_lss (a := 2) (b := 4) rfl rfl) ?_
      refine rw_nil ?_
      refine kThen_normal ?_
      refine cw_cond_t rfl (by decide) ?_
      refine cw_skip ?_
      refine kThen_normal ?_
      refine cw_seq ?_
      refine cw_block ?_
      refine cw_draw [(0, false), (1, false), (2, false), (3, false), (4, false), (5, false), (6, false), (7, false), (8, false), (9, false), (10, false)] 11 (by kernel_rfl) ?_
      refine dw_q rfl rfl (fun _ _hx => ev_move (v := sv) s10) ?_
      refine dw_q rfl rfl (fun _ _hx => ev_move (v := (slc b9q66 0 8 8)) s11) ?_
      refine dw_q rfl rfl (fun _ _hx => ev_move (v := (i64 3)) s13) ?_
      refine dw_q rfl rfl (fun _ _hx => ev_ia_slc (r := 3) (i := 3) (by omega) Try.underlying48 ti50 rfl rfl (by omega) (by omega)) ?_
      refine dw_q (v := (slc b4q66 0 4 4)) rfl rfl (fun _ _hx => ev_load1 Try.underlying50 rfl rfl ((hm159.ext _hx).own (b9q66, .cells #[(slc b1q66 0 4 4), (slc b2q66 0 4 4), (slc b3q66 0 4 4), (slc b4q66 0 4 4), (slc b5q66 0 4 4), (slc b6q66 0 4 4), (slc b7q66 0 4 4), (slc b8q66 0 4 4)] 50 (0, 0)) (by simp)) rfl) ?_
      refine dw_q rfl rfl (fun _ _hx => ev_move (v := (i64 2)) rfl) ?_
      refine dw_q rfl rfl (fun _ _hx => ev_ia_slc (r := 2) (i := 2) (by omega) Try.underlying50 ti3 rfl rfl (by omega) (by omega)) ?_
      refine dw_q (v := (i64 11)) rfl rfl (fun _ _hx => ev_load1 Try.underlying3 rfl rfl ((hm159.ext _hx).own (b4q66, .cells (cl i64 ([3, 7, 11, 15])) 3 (0, 0)) (by simp)) (get_clD _ _ 0 (by simp))) ?_
      refine dw_q rfl rfl (fun _ _hx => ev_move (v := (i64 2)) rfl) ?_
      refine dw_q rfl rfl (fun _ _hx => ev_ia_arr (r := 2) (i := 2) (by omega) Try.underlying23 ti22 s14 rfl (by omega) (by omega)) ?_
      refine dw_q (v := (u32 (q148.getD 2 0))) rfl rfl (fun _ _hx => ev_load1 Try.underlying22 rfl rfl ((hm159.ext _hx).own (b14_3, .cells (cl u32 q148) 23 (0, 0)) (by simp)) (get_clD _ _ 0 (by first | omega | (simp only [List.length_set, List.length_append, List.length_replicate, List.length_map, List.length_cons, List.length_nil]; omega) | (simp; done) | (simp; omega)))) ?_
      refine dw_nil (fun w161 _ew161 => ?_)
      have hm161 := hm159.ext _ew161
      refine rw_q rfl (ev_indexAddr_rdv (i := 11) (g159.rd hm161) Try.underlying46 ti22 rfl rfl (by omega) (by simp)) ?_
      refine rw_n (or_store_grow (i := 11) (a := q148.getD 2 0) hm161 g159 u32_one ti22 (by omega) (by simp) rfl rfl) ?_
      rintro _ w162 ⟨Hs162, hm162, g162⟩
      replace g162 : Grow u32 22 sv ([q86.getD 0 0, q106.getD 0 0, q127.getD 0 0, q148.getD 0 0, q86.getD 1 0, q106.getD 1 0, q127.getD 1 0, q148.getD 1 0, q86.getD 2 0, q106.getD 2 0, q127.getD 2 0, q148.getD 2 0, q86.getD 3 0, q106.getD 3 0, q127.getD 3 0, x15]) Hs162 := g162
      refine rw_nil ?_
      refine kBlk_normal ?_
      refine CW.abs (fun g => g 0 = (agg u8 key) ∧ g 1 = (u32 counter) ∧ g 2 = (agg u8 nonce) ∧ g 3 = (ptr b3 0) ∧ g 5 = (ptr b5 0) ∧ g 6 = (Value.slice none 0 0) ∧ g 7 = sv60 ∧ g 8 = (i64 32) ∧ g 9 = (i64 12) ∧ g 10 = sv ∧ g 11 = (slc b9q66 0 8 8) ∧ g 12 = (i64 (k : Int)) ∧ g 13 = (i64 3) ∧ g 14 = (ptr b14_3 0) ∧ g 15 = (i64 2) ∧ g 21 = (bl false) ∧ g 37 = (bl false) ∧ g 53 = (bl (decide ((k : Int) < 10))) ∧ g 57 = (bl true) ∧ g 99 = (bl true) ∧ True) ⟨s0, s1, s2, s3, s5, s6, s7, s8, s9, s10, s11, s12, s13, s14, rfl, s21, s37, s53, s57, rfl, trivial⟩ ?_
      rintro fr163 ⟨s0, s1, s2, s3, s5, s6, s7, s8, s9, s10, s11, s12, s13, s14, s15, s21, s37, s53, s57, s99, _⟩
      refine cw_region ?_
      refine rw_q rfl (ev_move (v := (i64 2)) s15) ?_
      refine rw_q (v := (i64 3)) rfl (ev_i64_add (a := 2) (b := 1) rfl rfl (by omega) (by omega)) ?_
      refine rw_q rfl (ev_assign (v := (i64 3)) rfl) ?_
      refine rw_nil ?_
      refine kThen_normal ?_
      refine cr_succ ?_
      refine cw_seq ?_
      refine cw_seq ?_
      refine cw_region ?_
      refine rw_q rfl (ev_move (v := (i64 3)) rfl) ?_
      refine rw_q rfl (ev_i64_lss (a := 3) (b := 4) rfl rfl) ?_
      refine rw_nil ?_
      refine kThen_normal ?_
      refine cw_cond_t rfl (by decide) ?_
      refine cw_skip ?_
      refine kThen_normal ?_
      refine cw_seq ?_
      refine cw_block ?_
      refine cw_draw [(0, false), (1, false), (2, false), (3, false), (4, false), (5, false), (6, false), (7, false), (8, false), (9, false), (10, false)] 11 (by kernel_rfl) ?_
      refine dw_q rfl rfl (fun _ _hx => ev_move (v := sv) s10) ?_
      refine dw_q rfl rfl (fun _ _hx => ev_move (v := (slc b9q66 0 8 8)) s11) ?_
      refine dw_q rfl rfl (fun _ _hx => ev_move (v := (i64 3)) s13) ?_
      refine dw_q rfl rfl (fun _ _hx => ev_ia_slc (r := 3) (i := 3) (by omega) Try.underlying48 ti50 rfl rfl (by omega) (by omega)) ?_
      refine dw_q (v := (slc b4q66 0 4 4)) rfl rfl (fun _ _hx => ev_load1 Try.underlying50 rfl rfl ((hm162.ext _hx).own (b9q66, .cells #[(slc b1q66 0 4 4), (slc b2q66 0 4 4), (slc b3q66 0 4 4), (slc b4q66 0 4 4), (slc b5q66 0 4 4), (slc b6q66 0 4 4), (slc b7q66 0 4 4), (slc b8q66 0 4 4)] 50 (0, 0)) (by simp)) rfl) ?_
      refine dw_q rfl rfl (fun _ _hx => ev_move (v := (i64 3)) rfl) ?_
      refine dw_q rfl rfl (fun _ _hx => ev_ia_slc (r := 3) (i := 3) (by omega) Try.underlying50 ti3 rfl rfl (by omega) (by omega)) ?_
      refine dw_q (v := (i64 15)) rfl rfl (fun _ _hx => ev_load1 Try.underlying3 rfl rfl ((hm162.ext _hx).own (b4q66, .cells (cl i64 ([3, 7, 11, 15])) 3 (0, 0)) (by simp)) (get_clD _ _ 0 (by simp))) ?_
      refine dw_q rfl rfl (fun _ _hx => ev_move (v := (i64 3)) rfl) ?_
      refine dw_q rfl rfl (fun _ _hx => ev_ia_arr (r := 3) (i := 3) (by omega) Try.underlying23 ti22 s14 rfl (by omega) (by omega)) ?_
      refine dw_q (v := (u32 (q148.getD 3 0))) rfl rfl (fun _ _hx => ev_load1 Try.underlying22 rfl rfl ((hm162.ext _hx).own (b14_3, .cells (cl u32 q148) 23 (0, 0)) (by simp)) (get_clD _ _ 0 (by first | omega | (simp only [List.length_set, List.length_append, List.length_replicate, List.length_map, List.length_cons, List.length_nil]; omega) | (simp; done) | (simp; omega)))) ?_
      refine dw_nil (fun w164 _ew164 => ?_)
      have hm164 := hm162.ext _ew164
      refine rw_q rfl (ev_indexAddr_rdv (i := 15) (g162.rd hm164) Try.underlying46 ti22 rfl rfl (by omega) (by simp)) ?_
      refine rw_n (or_store_grow (i := 15) (a := q148.getD 3 0) hm164 g162 u32_one ti22 (by omega) (by simp) rfl rfl) ?_
      rintro _ w165 ⟨Hs165, hm165, g165⟩
      replace g165 : Grow u32 22 sv ([q86.getD 0 0, q106.getD 0 0, q127.getD 0 0, q148.getD 0 0, q86.getD 1 0, q106.getD 1 0, q127.getD 1 0, q148.getD 1 0, q86.getD 2 0, q106.getD 2 0, q127.getD 2 0, q148.getD 2 0, q86.getD 3 0, q106.getD 3 0, q127.getD 3 0, q148.getD 3 0]) Hs165 := g165
      refine rw_nil ?_
      refine kBlk_normal ?_
      refine CW.abs (fun g => g 0 = (agg u8 key) ∧ g 1 = (u32 counter) ∧ g 2 = (agg u8 nonce) ∧ g 3 = (ptr b3 0) ∧ g 5 = (ptr b5 0) ∧ g 6 = (Value.slice none 0 0) ∧ g 7 = sv60 ∧ g 8 = (i64 32) ∧ g 9 = (i64 12) ∧ g 10 = sv ∧ g 11 = (slc b9q66 0 8 8) ∧ g 12 = (i64 (k : Int)) ∧ g 13 = (i64 3) ∧ g 14 = (ptr b14_3 0) ∧ g 15 = (i64 3) ∧ g 21 = (bl false) ∧ g 37 = (bl false) ∧ g 53 = (bl (decide ((k : Int) < 10))) ∧ g 57 = (bl true) ∧ g 99 = (bl true) ∧ True) ⟨s0, s1, s2, s3, s5, s6, s7, s8, s9, s10, s11, s12, s13, s14, rfl, s21, s37, s53, s57, rfl, trivial⟩ ?_
      rintro fr166 ⟨s0, s1, s2, s3, s5, s6, s7, s8, s9, s10, s11, s12, s13, s14, s15, s21, s37, s53, s57, s99, _⟩
      refine cw_region ?_
      refine rw_q rfl (ev_move (v := (i64 3)) s15) ?_
      refine rw_q (v := (i64 4)) rfl (ev_i64_add (a := 3) (b := 1) rfl rfl (by omega) (by omega)) ?_
      refine rw_q rfl (ev_assign (v := (i64 4)) rfl) ?_
      refine rw_nil ?_
      refine kThen_normal ?_
      refine cr_succ ?_
      refine cw_seq ?_
      refine cw_seq ?_
      refine cw_region ?_
      refine rw_q rfl (ev_move (v := (i64 4)) rfl) ?_
      refine rw_q rfl (ev_i64_lss (a := 4) (b := 4) rfl rfl) ?_
      refine rw_nil ?_
      refine kThen_normal ?_
      refine cw_cond_f rfl (by decide) ?_
      refine cw_exit ?_
      refine kThen_exit (kThen_exit (kBlk_hit ?_))
      refine kBlk_normal ?_
      refine cw_region ?_
      refine rw_q rfl (ev_move (v := (i64 3)) s13) ?_
      refine rw_q (v := (i64 4)) rfl (ev_i64_add (a := 3) (b := 1) rfl rfl (by omega) (by omega)) ?_
      refine rw_q rfl (ev_assign (v := (i64 4)) rfl) ?_
      refine rw_nil ?_
      refine kThen_normal ?_
      refine cr_succ ?_
      refine cw_seq ?_
      refine cw_seq ?_
      refine cw_region ?_
      refine rw_q rfl (ev_move (v := (i64 4)) rfl) ?_
      refine rw_q rfl (ev_i64_lss (a := 4) (b := 8) rfl rfl) ?_
      refine rw_nil ?_
      refine kThen_normal ?_
      refine cw_cond_t rfl (by decide) ?_
      refine cw_skip ?_
      refine kThen_normal ?_
      refine cw_seq ?_
      refine cw_block ?_
      refine cw_seq ?_
      refine cw_draw [(0, false), (1, false), (2, false), (3, false), (4, false), (5, false), (6, false), (7, false), (8, false), (9, false), (10, false), (11, false), (12, false), (13, false), (14, false), (15, false), (16, false), (17, false), (18, false), (19, false), (20, false), (21, false), (22, false), (23, false), (24, false), (25, false), (26, false), (27, false), (28, false), (29, false), (30, false), (31, false), (32, false), (33, false), (34, false), (35, false), (36, false), (37, false), (38, true)] 39 (by kernel_rfl) ?_
      refine dw_q rfl rfl (fun _ _hx => ev_move (v := sv) s10) ?_
      refine dw_q rfl rfl (fun _ _hx => ev_move (v := (slc b9q66 0 8 8)) s11) ?_
      refine dw_q rfl rfl (fun _ _hx => ev_move (v := (i64 4)) rfl) ?_
      refine dw_q rfl rfl (fun _ _hx => ev_ia_slc (r := 4) (i := 4) (by omega) Try.underlying48 ti50 rfl rfl (by omega) (by omega)) ?_
      refine dw_q (v := (slc b5q66 0 4 4)) rfl rfl (fun _ _hx => ev_load1 Try.underlying50 rfl rfl ((hm165.ext _hx).own (b9q66, .cells #[(slc b1q66 0 4 4), (slc b2q66 0 4 4), (slc b3q66 0 4 4), (slc b4q66 0 4 4), (slc b5q66 0 4 4), (slc b6q66 0 4 4), (slc b7q66 0 4 4), (slc b8q66 0 4 4)] 50 (0, 0)) (by simp)) rfl) ?_
      refine dw_q rfl rfl (fun _ _hx => ev_ia_slc (r := 0) (i := 0) (by omega) Try.underlying50 ti3 rfl rfl (by omega) (by omega)) ?_
      refine dw_q (v := (i64 0)) rfl rfl (fun _ _hx => ev_load1 Try.underlying3 rfl rfl ((hm165.ext _hx).own (b5q66, .cells (cl i64 ([0, 5, 10, 15])) 3 (0, 0)) (by simp)) (get_clD _ _ 0 (by simp))) ?_
      refine dw_q rfl rfl (fun _ _hx => ev_indexAddr_rdv (i := 0) (g165.rd (hm165.ext _hx)) Try.underlying46 ti22 rfl rfl (by omega) (by simp)) ?_
      refine dw_q (v := (u32 (q86.getD 0 0))) rfl rfl (fun _ _hx => ev_load_rdD (l := [q86.getD 0 0, q106.getD 0 0, q127.getD 0 0, q148.getD 0 0, q86.getD 1 0, q106.getD 1 0, q127.getD 1 0, q148.getD 1 0, q86.getD 2 0, q106.getD 2 0, q127.getD 2 0, q148.getD 2 0, q86.getD 3 0, q106.getD 3 0, q127.getD 3 0, q148.getD 3 0]) (i := 0) (dflt := 0) (g165.rd (hm165.ext _hx)) Try.underlying22 rfl (by omega) (by simp) rfl) ?_
      refine dw_q rfl rfl (fun _ _hx => ev_move (v := sv) s10) ?_
      refine dw_q rfl rfl (fun _ _hx => ev_move (v := (slc b9q66 0 8 8)) s11) ?_
      refine dw_q rfl rfl (fun _ _hx => ev_move (v := (i64 4)) rfl) ?_
      refine dw_q rfl rfl (fun _ _hx => ev_ia_slc (r := 4) (i := 4) (by omega) Try.underlying48 ti50 rfl rfl (by omega) (by omega)) ?_
      refine dw_q (v := (slc b5q66 0 4 4)) rfl rfl (fun _ _hx => ev_load1 Try.underlying50 rfl rfl ((hm165.ext _hx).own (b9q66, .cells #[(slc b1q66 0 4 4), (slc b2q66 0 4 4), (slc b3q66 0 4 4), (slc b4q66 0 4 4), (slc b5q66 0 4 4), (slc b6q66 0 4 4), (slc b7q66 0 4 4), (slc b8q66 0 4 4)] 50 (0, 0)) (by simp)) rfl) ?_
      refine dw_q rfl rfl (fun _ _hx => ev_ia_slc (r := 1) (i := 1) (by omega) Try.underlying50 ti3 rfl rfl (by omega) (by omega)) ?_
      refine dw_q (v := (i64 5)) rfl rfl (fun _ _hx => ev_load1 Try.underlying3 rfl rfl ((hm165.ext _hx).own (b5q66, .cells (cl i64 ([0, 5, 10, 15])) 3 (0, 0)) (by simp)) (get_clD _ _ 0 (by simp))) ?_
      refine dw_q rfl rfl (fun _ _hx => ev_indexAddr_rdv (i := 5) (g165.rd (hm165.ext _hx)) Try.underlying46 ti22 rfl rfl (by omega) (by simp)) ?_
      refine dw_q (v := (u32 (q106.getD 1 0))) rfl rfl (fun _ _hx => ev_load_rdD (l := [q86.getD 0 0, q106.getD 0 0, q127.getD 0 0, q148.getD 0 0, q86.getD 1 0, q106.getD 1 0, q127.getD 1 0, q148.getD 1 0, q86.getD 2 0, q106.getD 2 0, q127.getD 2 0, q148.getD 2 0, q86.getD 3 0, q106.getD 3 0, q127.getD 3 0, q148.getD 3 0]) (i := 5) (dflt := 0) (g165.rd (hm165.ext _hx)) Try.underlying22 rfl (by omega) (by simp) rfl) ?_
      refine dw_q rfl rfl (fun _ _hx => ev_move (v := sv) s10) ?_
      refine dw_q rfl rfl (fun _ _hx => ev_move (v := (slc b9q66 0 8 8)) s11) ?_
      refine dw_q rfl rfl (fun _ _hx => ev_move (v := (i64 4)) rfl) ?_
      refine dw_q rfl rfl (fun _ _hx => ev_ia_slc (r := 4) (i := 4) (by omega) Try.underlying48 ti50 rfl rfl (by omega) (by omega)) ?_
      refine dw_q (v := (slc b5q66 0 4 4)) rfl rfl (fun _ _hx => ev_load1 Try.underlying50 rfl rfl ((hm165.ext _hx).own (b9q66, .cells #[(slc b1q66 0 4 4), (slc b2q66 0 4 4), (slc b3q66 0 4 4), (slc b4q66 0 4 4), (slc b5q66 0 4 4), (slc b6q66 0 4 4), (slc b7q66 0 4 4), (slc b8q66 0 4 4)] 50 (0, 0)) (by simp)) rfl) ?_
      refine dw_q rfl rfl (fun _ _hx => ev_ia_slc (r := 2) (i := 2) (by omega) Try.underlying50 ti3 rfl rfl (by omega) (by omega)) ?_
      refine dw_q (v := (i64 10)) rfl rfl (fun _ _hx => ev_load1 Try.underlying3 rfl rfl ((hm165.ext _hx).own (b5q66, .cells (cl i64 ([0, 5, 10, 15])) 3 (0, 0)) (by simp)) (get_clD _ _ 0 (by simp))) ?_
      refine dw_q rfl rfl (fun _ _hx => ev_indexAddr_rdv (i := 10) (g165.rd (hm165.ext _hx)) Try.underlying46 ti22 rfl rfl (by omega) (by simp)) ?_
      refine dw_q (v := (u32 (q127.getD 2 0))) rfl rfl (fun _ _hx => ev_load_rdD (l := [q86.getD 0 0, q106.getD 0 0, q127.getD 0 0, q148.getD 0 0, q86.getD 1 0, q106.getD 1 0, q127.getD 1 0, q148.getD 1 0, q86.getD 2 0, q106.getD 2 0, q127.getD 2 0, q148.getD 2 0, q86.getD 3 0, q106.getD 3 0, q127.getD 3 0, q148.getD 3 0]) (i := 10) (dflt := 0) (g165.rd (hm165.ext _hx)) Try.underlying22 rfl (by omega) (by simp) rfl) ?_
      refine dw_q rfl rfl (fun _ _hx => ev_move (v := sv) s10) ?_
      refine dw_q rfl rfl (fun _ _hx => ev_move (v := (slc b9q66 0 8 8)) s11) ?_
      refine dw_q rfl rfl (fun _ _hx => ev_move (v := (i64 4)) rfl) ?_
      refine dw_q rfl rfl (fun _ _hx => ev_ia_slc (r := 4) (i := 4) (by omega) Try.underlying48 ti50 rfl rfl (by omega) (by omega)) ?_
      refine dw_q (v := (slc b5q66 0 4 4)) rfl rfl (fun _ _hx => ev_load1 Try.underlying50 rfl rfl ((hm165.ext _hx).own (b9q66, .cells #[(slc b1q66 0 4 4), (slc b2q66 0 4 4), (slc b3q66 0 4 4), (slc b4q66 0 4 4), (slc b5q66 0 4 4), (slc b6q66 0 4 4), (slc b7q66 0 4 4), (slc b8q66 0 4 4)] 50 (0, 0)) (by simp)) rfl) ?_
      refine dw_q rfl rfl (fun _ _hx => ev_ia_slc (r := 3) (i := 3) (by omega) Try.underlying50 ti3 rfl rfl (by omega) (by omega)) ?_
      refine dw_q (v := (i64 15)) rfl rfl (fun _ _hx => ev_load1 Try.underlying3 rfl rfl ((hm165.ext _hx).own (b5q66, .cells (cl i64 ([0, 5, 10, 15])) 3 (0, 0)) (by simp)) (get_clD _ _ 0 (by simp))) ?_
      refine dw_q rfl rfl (fun _ _hx => ev_indexAddr_rdv (i := 15) (g165.rd (hm165.ext _hx)) Try.underlying46 ti22 rfl rfl (by omega) (by simp)) ?_
      refine dw_q (v := (u32 (q148.getD 3 0))) rfl rfl (fun _ _hx => ev_load_rdD (l := [q86.getD 0 0, q106.getD 0 0, q127.getD 0 0, q148.getD 0 0, q86.getD 1 0, q106.getD 1 0, q127.getD 1 0, q148.getD 1 0, q86.getD 2 0, q106.getD 2 0, q127.getD 2 0, q148.getD 2 0, q86.getD 3 0, q106.getD 3 0, q127.getD 3 0, q148.getD 3 0]) (i := 15) (dflt := 0) (g165.rd (hm165.ext _hx)) Try.underlying22 rfl (by omega) (by simp) rfl) ?_
      refine dw_q rfl rfl (fun _ _hx => ev_build_cl u32 [(q86.getD 0 0), (q106.getD 1 0), (q127.getD 2 0), (q148.getD 3 0)] u32_one ti23 Try.underlying23 ti22 rfl rfl) ?_
      obtain ⟨q169, hq169⟩ : ∃ q, q = quarterL left3 (q86.getD 0 0) (q106.getD 1 0) (q127.getD 2 0) (q148.getD 3 0) := ⟨_, rfl⟩
      have hq169l : q169.length = 4 := by rw [hq169]; rfl
      refine dw_x (v := (agg u32 q169)) rfl rfl (fun w167 _ew167 => OpR.mono (opR_call Try.func10 bd10 nm10 (args1 rfl) (c_quarter3 (q86.getD 0 0) (q106.getD 1 0) (q127.getD 2 0) (q148.getD 3 0) _)) (by rintro _ w168 ⟨rfl, _ew168⟩; exact ⟨by rw [hq169], _ew168⟩)) ?_
      refine dw_c rfl rfl (fun w170 _ew170 => ?_)
      have hm170 := hm165.ext _ew170
      refine OpR.mono (or_alloc_agg hm170 ti23) ?_
      rintro _ w171 ⟨b14_4, rfl, _ew171, hm171⟩
      refine ⟨_ew171, ?_⟩
      refine dw_nil (fun w172 _ew172 => ?_)
      have hm172 := hm171.ext _ew172
      refine rw_n (or_store_agg (f := u32) (l := q169) u32_one ti23 rfl rfl (by first | omega | (simp only [List.length_set, List.length_append, List.length_replicate, List.length_map, List.length_cons, List.length_nil]; omega) | (simp; done) | (simp; omega)) hm172.h0 (by rw [size_cl]; first | omega | (simp only [List.length_set, List.length_append, List.length_replicate, List.length_map, List.length_cons, List.length_nil]; omega) | (simp; done) | (simp; omega)) rfl) ?_
      rintro _ w173 uq173
      have hm173 := hm172.upd0 uq173
      refine rw_nil ?_
      refine kThen_normal ?_
      have hm174 := Mem.drop ([(b14_3, .cells (cl u32 q148) 23 (0, 0))]) _ (Mem.pick2 [_] Hs165 [_] _ hm173)
      refine CW.abs (fun g => g 0 = (agg u8 key) ∧ g 1 = (u32 counter) ∧ g 2 = (agg u8 nonce) ∧ g 3 = (ptr b3 0) ∧ g 5 = (ptr b5 0) ∧ g 6 = (Value.slice none 0 0) ∧ g 7 = sv60 ∧ g 8 = (i64 32) ∧ g 9 = (i64 12) ∧ g 10 = sv ∧ g 11 = (slc b9q66 0 8 8) ∧ g 12 = (i64 (k : Int)) ∧ g 13 = (i64 4) ∧ g 14 = (ptr b14_4 0) ∧ g 15 = (i64 4) ∧ g 21 = (bl false) ∧ g 37 = (bl false) ∧ g 53 = (bl (decide ((k : Int) < 10))) ∧ g 57 = (bl true) ∧ g 99 = (bl false) ∧ True) ⟨s0, s1, s2, s3, s5, s6, s7, s8, s9, s10, s11, s12, rfl, rfl, rfl, s21, s37, s53, rfl, rfl, trivial⟩ ?_
      rintro fr175 ⟨s0, s1, s2, s3, s5, s6, s7, s8, s9, s10, s11, s12, s13, s14, s15, s21, s37, s53, s57, s99, _⟩
      refine cw_seq ?_
      refine cw_region ?_
      refine rw_q rfl (ev_assign (v := (i64 0)) rfl) ?_
      refine rw_nil ?_
      refine kThen_normal ?_
      refine cw_block' ?_
      refine cw_rounds 5 ?_
      refine cr_succ ?_
      refine cw_seq ?_
      refine cw_seq ?_
      refine cw_region ?_
      refine rw_q rfl (ev_move (v := (i64 0)) rfl) ?_
      refine rw_q rfl (ev_i64_lss (a := 0) (b := 4) rfl rfl) ?_
      refine rw_nil ?_
      refine kThen_normal ?_
      refine cw_cond_t rfl (by decide) ?_
      refine cw_skip ?_
      refine kThen_normal ?_
      refine cw_seq ?_
      refine cw_block ?_
      refine cw_draw [(0, false), (1, false), (2, false), (3, false), (4, false), (5, false), (6, false), (7, false), (8, false), (9, false), (10, false)] 11 (by kernel_rfl) ?_
      refine dw_q rfl rfl (fun _ _hx => ev_move (v := sv) s10) ?_
      refine dw_q rfl rfl (fun _ _hx => ev_move (v := (slc b9q66 0 8 8)) s11) ?_
      refine dw_q rfl rfl (fun _ _hx => ev_move (v := (i64 4)) s13) ?_
      refine dw_q rfl rfl (fun _ _hx => ev_ia_slc (r := 4) (i := 4) (by omega) Try.underlying48 ti50 rfl rfl (by omega) (by omega)) ?_
      refine dw_q (v := (slc b5q66 0 4 4)) rfl rfl (fun _ _hx => ev_load1 Try.underlying50 rfl rfl ((hm174.ext _hx).own (b9q66, .cells #[(slc b1q66 0 4 4), (slc b2q66 0 4 4), (slc b3q66 0 4 4), (slc b4q66 0 4 4), (slc b5q66 0 4 4), (slc b6q66 0 4 4), (slc b7q66 0 4 4), (slc b8q66 0 4 4)] 50 (0, 0)) (by simp)) rfl) ?_
      refine dw_q rfl rfl (fun _ _hx => ev_move (v := (i64 0)) rfl) ?_
      refine dw_q rfl rfl (fun _ _hx => ev_ia_slc (r := 0) (i := 0) (by omega) Try.underlying50 ti3 rfl rfl (by omega) (by omega)) ?_
      refine dw_q (v := (i64 0)) rfl rfl (fun _ _hx => ev_load1 Try.underlying3 rfl rfl ((hm174.ext _hx).own (b5q66, .cells (cl i64 ([0, 5, 10, 15])) 3 (0, 0)) (by simp)) (get_clD _ _ 0 (by simp))) ?_
      refine dw_q rfl rfl (fun _ _hx => ev_move (v := (i64 0)) rfl) ?_
      refine dw_q rfl rfl (fun _ _hx => ev_ia_arr (r := 0) (i := 0) (by omega) Try.underlying23 ti22 s14 rfl (by omega) (by omega)) ?_
      refine dw_q (v := (u32 (q169.getD 0 0))) rfl rfl (fun _ _hx => ev_load1 Try.underlying22 rfl rfl (hm174.ext _hx).h0 (get_clD _ _ 0 (by first | omega | (simp only [List.length_set, List.length_append, List.length_replicate, List.length_map, List.length_cons, List.length_nil]; omega) | (simp; done) | (simp; omega)))) ?_
      refine dw_nil (fun w176 _ew176 => ?_)
      have hm176 := hm174.ext _ew176
      refine rw_q rfl (ev_indexAddr_rdv (i := 0) (g165.rd (Mem.pick [_] Hs165 _ hm176)) Try.underlying46 ti22 rfl rfl (by omega) (by simp)) ?_
      refine rw_n (or_store_grow (i := 0) (a := q169.getD 0 0) (Mem.pick [_] Hs165 _ hm176) g165 u32_one ti22 (by omega) (by simp) rfl rfl) ?_
      rintro _ w177 ⟨Hs177, hm177, g177⟩
      replace g177 : Grow u32 22 sv ([q169.getD 0 0, q106.getD 0 0, q127.getD 0 0, q148.getD 0 0, q86.getD 1 0, q106.getD 1 0, q127.getD 1 0, q148.getD 1 0, q86.getD 2 0, q106.getD 2 0, q127.getD 2 0, q148.getD 2 0, q86.getD 3 0, q106.getD 3 0, q127.getD 3 0, q148.getD 3 0]) Hs177 := g177
      refine rw_nil ?_
      refine kBlk_normal ?_
      refine CW.abs (fun g => g 0 = (agg u8 key) ∧ g 1 = (u32 counter) ∧ g 2 = (agg u8 nonce) ∧ g 3 = (ptr b3 0) ∧ g 5 = (ptr b5 0) ∧ g 6 = (Value.slice none 0 0) ∧ g 7 = sv60 ∧ g 8 = (i64 32) ∧ g 9 = (i64 12) ∧ g 10 = sv ∧ g 11 = (slc b9q66 0 8 8) ∧ g 12 = (i64 (k : Int)) ∧ g 13 = (i64 4) ∧ g 14 = (ptr b14_4 0) ∧ g 15 = (i64 0) ∧ g 21 = (bl false) ∧ g 37 = (bl false) ∧ g 53 = (bl (decide ((k : Int) < 10))) ∧ g 57 = (bl true) ∧ g 99 = (bl true) ∧ True) ⟨s0, s1, s2, s3, s5, s6, s7, s8, s9, s10, s11, s12, s13, s14, rfl, s21, s37, s53, s57, rfl, trivial⟩ ?_
      rintro fr178 ⟨s0, s1, s2, s3, s5, s6, s7, s8, s9, s10, s11, s12, s13, s14, s15, s21, s37, s53, s57, s99, _⟩
      refine cw_region ?_
      refine rw_q rfl (ev_move (v := (i64 0)) s15) ?_
      refine rw_q (v := (i64 1)) rfl (ev_i64_add (a := 0) (b := 1) rfl rfl (by omega) (by omega)) ?_
      refine rw_q rfl (ev_assign (v := (i64 1)) rfl) ?_
      refine rw_nil ?_
      refine kThen_normal ?_
      refine cr_succ ?_
      refine cw_seq ?_
      refine cw_seq ?_
      refine cw_region ?_
      refine rw_q rfl (ev_move (v := (i64 1)) rfl) ?_
      refine rw_q rfl (ev_i64_lss (a := 1) (b := 4) rfl rfl) ?_
      refine rw_nil ?_
      refine kThen_normal ?_
      refine cw_cond_t rfl (by decide) ?_
      refine cw_skip ?_
      refine kThen_normal ?_
      refine cw_seq ?_
      refine cw_block ?_
      refine cw_draw [(0, false), (1, false), (2, false), (3, false), (4, false), (5, false), (6, false), (7, false), (8, false), (9, false), (10, false)] 11 (by kernel_rfl) ?_
      refine dw_q rfl rfl (fun _ _hx => ev_move (v := sv) s10) ?_
      refine dw_q rfl rfl (fun _ _hx => ev_move (v := (slc b9q66 0 8 8)) s11) ?_
      refine dw_q rfl rfl (fun _ _hx => ev_move (v := (i64 4)) s13) ?_
      refine dw_q rfl rfl (fun _ _hx => ev_ia_slc (r := 4) (i := 4) (by omega) Try.underlying48 ti50 rfl rfl (by omega) (by omega)) ?_
      refine dw_q (v := (slc b5q66 0 4 4)) rfl rfl (fun _ _hx => ev_load1 Try.underlying50 rfl rfl ((hm177.ext _hx).own (b9q66, .cells #[(slc b1q66 0 4 4), (slc b2q66 0 4 4), (slc b3q66 0 4 4), (slc b4q66 0 4 4), (slc b5q66 0 4 4), (slc b6q66 0 4 4), (slc b7q66 0 4 4), (slc b8q66 0 4 4)] 50 (0, 0)) (by simp)) rfl) ?_
      refine dw_q rfl rfl (fun _ _hx => ev_move (v := (i64 1)) rfl) ?_
      refine dw_q rfl rfl (fun _ _hx => ev_ia_slc (r := 1) (i := 1) (by omega) Try.underlying50 ti3 rfl rfl (by omega) (by omega)) ?_
      refine dw_q (v := (i64 5)) rfl rfl (fun _ _hx => ev_load1 Try.underlying3 rfl rfl ((hm177.ext _hx).own (b5q66, .cells (cl i64 ([0, 5, 10, 15])) 3 (0, 0)) (by simp)) (get_clD _ _ 0 (by simp))) ?_
      refine dw_q rfl rfl (fun _ _hx => ev_move (v := (i64 1)) rfl) ?_
      refine dw_q rfl rfl (fun _ _hx => ev_ia_arr (r := 1) (i := 1) (by omega) Try.underlying23 ti22 s14 rfl (by omega) (by omega)) ?_
      refine dw_q (v := (u32 (q169.getD 1 0))) rfl rfl (fun _ _hx => ev_load1 Try.underlying22 rfl rfl ((hm177.ext _hx).own (b14_4, .cells (cl u32 q169) 23 (0, 0)) (by simp)) (get_clD _ _ 0 (by first | omega | (simp only [List.length_set, List.length_append, List.length_replicate, List.length_map, List.length_cons, List.length_nil]; omega) | (simp; done) | (simp; omega)))) ?_
      refine dw_nil (fun w179 _ew179 => ?_)
      have hm179 := hm177.ext _ew179
      refine rw_q rfl (ev_indexAddr_rdv (i := 5) (g177.rd hm179) Try.underlying46 ti22 rfl rfl (by omega) (by simp)) ?_
      refine rw_n (or_store_grow (i := 5) (a := q169.getD 1 0) hm179 g177 u32_one ti22 (by omega) (by simp) rfl rfl) ?_
      rintro _ w180 ⟨Hs180, hm180, g180⟩
      replace g180 : Grow u32 22 sv ([q169.getD 0 0, q106.getD 0 0, q127.getD 0 0, q148.getD 0 0, q86.getD 1 0, q169.getD 1 0, q127.getD 1 0, q148.getD 1 0, q86.getD 2 0, q106.getD 2 0, q127.getD 2 0, q148.getD 2 0, q86.getD 3 0, q106.getD 3 0, q127.getD 3 0, q148.getD 3 0]) Hs180 := g180
      refine rw_nil ?_
      refine kBlk_normal ?_
      refine CW.abs (fun g => g 0 = (agg u8 key) ∧ g 1 = (u32 counter) ∧ g 2 = (agg u8 nonce) ∧ g 3 = (ptr b3 0) ∧ g 5 = (ptr b5 0) ∧ g 6 = (Value.slice none 0 0) ∧ g 7 = sv60 ∧ g 8 = (i64 32) ∧ g 9 = (i64 12) ∧ g 10 = sv ∧ g 11 = (slc b9q66 0 8 8) ∧ g 12 = (i64 (k : Int)) ∧ g 13 = (i64 4) ∧ g 14 = (ptr b14_4 0) ∧ g 15 = (i64 1) ∧ g 21 = (bl false) ∧ g 37 = (bl false) ∧ g 53 = (bl (decide ((k : Int) < 10))) ∧ g 57 = (bl true) ∧ g 99 = (bl true) ∧ True) ⟨s0, s1, s2, s3, s5, s6, s7, s8, s9, s10, s11, s12, s13, s14, rfl, s21, s37, s53, s57, rfl, trivial⟩ ?_
      rintro fr181 ⟨s0, s1, s2, s3, s5, s6, s7, s8, s9, s10, s11, s12, s13, s14, s15, s21, s37, s53, s57, s99, _⟩
      refine cw_region ?_
      refine rw_q rfl (ev_move (v := (i64 1)) s15) ?_
      refine rw_q (v := (i64 2)) rfl (ev_i64_add (a := 1) (b := 1) rfl rfl (by omega) (by omega)) ?_
      refine rw_q rfl (ev_assign (v := (i64 2)) rfl) ?_
      refine rw_nil ?_
      refine kThen_normal ?_
      refine cr_succ ?_
      refine cw_seq ?_
      refine cw_seq ?_
      refine cw_region ?_
      refine rw_q rfl (ev_move (v := (i64 2)) rfl) ?_
      refine rw_q rfl (ev_i64_lss (a := 2) (b := 4) rfl rfl) ?_
      refine rw_nil ?_
      refine kThen_normal ?_
      refine cw_cond_t rfl (by decide) ?_
      refine cw_skip ?_
      refine kThen_normal ?_
      refine cw_seq ?_
      refine cw_block ?_
      refine cw_draw [(0, false), (1, false), (2, false), (3, false), (4, false), (5, false), (6, false), (7, false), (8, false), (9, false), (10, false)] 11 (by kernel_rfl) ?_
      refine dw_q rfl rfl (fun _ _hx => ev_move (v := sv) s10) ?_
      refine dw_q rfl rfl (fun _ _hx => ev_move (v := (slc b9q66 0 8 8)) s11) ?_
      refine dw_q rfl rfl (fun _ _hx => ev_move (v := (i64 4)) s13) ?_
      refine dw_q rfl rfl (fun _ _hx => ev_ia_slc (r := 4) (i := 4) (by omega) Try.underlying48 ti50 rfl rfl (by omega) (by omega)) ?_
      refine dw_q (v := (slc b5q66 0 4 4)) rfl rfl (fun _ _hx => ev_load1 Try.underlying50 rfl rfl ((hm180.ext _hx).own (b9q66, .cells #[(slc b1q66 0 4 4), (slc b2q66 0 4 4), (slc b3q66 0 4 4), (slc b4q66 0 4 4), (slc b5q66 0 4 4), (slc b6q66 0 4 4), (slc b7q66 0 4 4), (slc b8q66 0 4 4)] 50 (0, 0)) (by simp)) rfl) ?_
      refine dw_q rfl rfl (fun _ _hx => ev_move (v := (i64 2)) rfl) ?_
      refine dw_q rfl rfl (fun _ _hx => ev_ia_slc (r := 2) (i := 2) (by omega) Try.underlying50 ti3 rfl rfl (by omega) (by omega)) ?_
      refine dw_q (v := (i64 10)) rfl rfl (fun _ _hx => ev_load1 Try.underlying3 rfl rfl ((hm180.ext _hx).own (b5q66, .cells (cl i64 ([0, 5, 10, 15])) 3 (0, 0)) (by simp)) (get_clD _ _ 0 (by simp))) ?_
      refine dw_q rfl rfl (fun _ _hx => ev_move (v := (i64 2)) rfl) ?_
      refine dw_q rfl rfl (fun _ _hx => ev_ia_arr (r := 2) (i := 2) (by omega) Try.underlying23 ti22 s14 rfl (by omega) (by omega)) ?_
      refine dw_q (v := (u32 (q169.getD 2 0))) rfl rfl (fun _ _hx => ev_load1 Try.underlying22 rfl rfl ((hm180.ext _hx).own (b14_4, .cells (cl u32 q169) 23 (0, 0)) (by simp)) (get_clD _ _ 0 (by first | omega | (simp only [List.length_set, List.length_append, List.length_replicate, List.length_map, List.length_cons, List.length_nil]; omega) | (simp; done) | (simp; omega)))) ?_
      refine dw_nil (fun w182 _ew182 => ?_)
      have hm182 := hm180.ext _ew182
      refine rw_q rfl (ev_indexAddr_rdv (i := 10) (g180.rd hm182) Try.underlying46 ti22 rfl rfl (by omega) (by simp)) ?_
      refine rw_n (or_store_grow (i := 10) (a := q169.getD 2 0) hm182 g180 u32_one ti22 (by omega) (by simp) rfl rfl) ?_
      rintro _ w183 ⟨Hs183, hm183, g183⟩
      replace g183 : Grow u32 22 sv ([q169.getD 0 0, q106.getD 0 0, q127.getD 0 0, q148.getD 0 0, q86.getD 1 0, q169.getD 1 0, q127.getD 1 0, q148.getD 1 0, q86.getD 2 0, q106.getD 2 0, q169.getD 2 0, q148.getD 2 0, q86.getD 3 0, q106.getD 3 0, q127.getD 3 0, q148.getD 3 0]) Hs183 := g183
      refine rw_nil ?_
      refine kBlk_normal ?_
      refine CW.abs (fun g => g 0 = (agg u8 key) ∧ g 1 = (u32 counter) ∧ g 2 = (agg u8 nonce) ∧ g 3 = (ptr b3 0) ∧ g 5 = (ptr b5 0) ∧ g 6 = (Value.slice none 0 0) ∧ g 7 = sv60 ∧ g 8 = (i64 32) ∧ g 9 = (i64 12) ∧ g 10 = sv ∧ g 11 = (slc b9q66 0 8 8) ∧ g 12 = (i64 (k : Int)) ∧ g 13 = (i64 4) ∧ g 14 = (ptr b14_4 0) ∧ g 15 = (i64 2) ∧ g 21 = (bl false) ∧ g 37 = (bl false) ∧ g 53 = (bl (decide ((k : Int) < 10))) ∧ g 57 = (bl true) ∧ g 99 = (bl true) ∧ True) ⟨s0, s1, s2, s3, s5, s6, s7, s8, s9, s10, s11, s12, s13, s14, rfl, s21, s37, s53, s57, rfl, trivial⟩ ?_
      rintro fr184 ⟨s0, s1, s2, s3, s5, s6, s7, s8, s9, s10, s11, s12, s13, s14, s15, s21, s37, s53, s57, s99, _⟩
      refine cw_region ?_
      refine rw_q rfl (ev_move (v := (i64 2)) s15) ?_
      refine rw_q (v := (i64 3)) rfl (ev_i64_add (a := 2) (b := 1) rfl rfl (by omega) (by omega)) ?_
      refine rw_q rfl (ev_assign (v := (i64 3)) rfl) ?_
      refine rw_nil ?_
      refine kThen_normal ?_
      refine cr_succ ?_
      refine cw_seq ?_
      refine cw_seq ?_
      refine cw_region ?_
      refine rw_q rfl (ev_move (v := (i64 3)) rfl) ?_
      refine rw_q rfl (ev_i64_lss (a := 3) (b := 4) rfl rfl) ?_
      refine rw_nil ?_
      refine kThen_normal ?_
      refine cw_cond_t rfl (by decide) ?_
      refine cw_skip ?_
      refine kThen_normal ?_
      refine cw_seq ?_
      refine cw_block ?_
      refine cw_draw [(0, false), (1, false), (2, false), (3, false), (4, false), (5, false), (6, false), (7, false), (8, false), (9, false), (10, false)] 11 (by kernel_rfl) ?_
      refine dw_q rfl rfl (fun _ _hx => ev_move (v := sv) s10) ?_
      refine dw_q rfl rfl (fun _ _hx => ev_move (v := (slc b9q66 0 8 8)) s11) ?_
      refine dw_q rfl rfl (fun _ _hx => ev_move (v := (i64 4)) s13) ?_
      refine dw_q rfl rfl (fun _ _hx => ev_ia_slc (r := 4) (i := 4) (by omega) Try.underlying48 ti50 rfl rfl (by omega) (by omega)) ?_
      refine dw_q (v := (slc b5q66 0 4 4)) rfl rfl (fun _ _hx => ev_load1 Try.underlying50 rfl rfl ((hm183.ext _hx).own (b9q66, .cells #[(slc b1q66 0 4 4), (slc b2q66 0 4 4), (slc b3q66 0 4 4), (slc b4q66 0 4 4), (slc b5q66 0 4 4), (slc b6q66 0 4 4), (slc b7q66 0 4 4), (slc b8q66 0 4 4)] 50 (0, 0)) (by simp)) rfl) ?_
      refine dw_q rfl rfl (fun _ _hx => ev_move (v := (i64 3)) rfl) ?_
      refine dw_q rfl rfl (fun _ _hx => ev_ia_slc (r := 3) (i := 3) (by omega) Try.underlying50 ti3 rfl rfl (by omega) (by omega)) ?_
      refine dw_q (v := (i64 15)) rfl rfl (fun _ _hx => ev_load1 Try.underlying3 rfl rfl ((hm183.ext _hx).own (b5q66, .cells (cl i64 ([0, 5, 10, 15])) 3 (0, 0)) (by simp)) (get_clD _ _ 0 (by simp))) ?_
      refine dw_q rfl rfl (fun _ _hx => ev_move (v := (i64 3)) rfl) ?_
      refine dw_q rfl rfl (fun _ _hx => ev_ia_arr (r := 3) (i := 3) (by omega) Try.underlying23 ti22 s14 rfl (by omega) (by omega)) ?_
      refine dw_q (v := (u32 (q169.getD 3 0))) rfl rfl (fun _ _hx => ev_load1 Try.underlying22 rfl rfl ((hm183.ext _hx).own (b14_4, .cells (cl u32 q169) 23 (0, 0)) (by simp)) (get_clD _ _ 0 (by first | omega | (simp only [List.length_set, List.length_append, List.length_replicate, List.length_map, List.length_cons, List.length_nil]; omega) | (simp; done) | (simp; omega)))) ?_
      refine dw_nil (fun w185 _ew185 => ?_)
      have hm185 := hm183.ext _ew185
      refine rw_q rfl (ev_indexAddr_rdv (i := 15) (g183.rd hm185) Try.underlying46 ti22 rfl rfl (by omega) (by simp)) ?_
      refine rw_n (or_store_grow (i := 15) (a := q169.getD 3 0) hm185 g183 u32_one ti22 (by omega) (by simp) rfl rfl) ?_
      rintro _ w186 ⟨Hs186, hm186, g186⟩
      replace g186 : Grow u32 22 sv ([q169.getD 0 0, q106.getD 0 0, q127.getD 0 0, q148.getD 0 0, q86.getD 1 0, q169.getD 1 0, q127.getD 1 0, q148.getD 1 0, q86.getD 2 0, q106.getD 2 0, q169.getD 2 0, q148.getD 2 0, q86.getD 3 0, q106.getD 3 0, q127.getD 3 0, q169.getD 3 0]) Hs186 := g186
      refine rw_nil ?_
      refine kBlk_normal ?_
      refine CW.abs (fun g => g 0 = (agg u8 key) ∧ g 1 = (u32 counter) ∧ g 2 = (agg u8 nonce) ∧ g 3 = (ptr b3 0) ∧ g 5 = (ptr b5 0) ∧ g 6 = (Value.slice none 0 0) ∧ g 7 = sv60 ∧ g 8 = (i64 32) ∧ g 9 = (i64 12) ∧ g 10 = sv ∧ g 11 = (slc b9q66 0 8 8) ∧ g 12 = (i64 (k : Int)) ∧ g 13 = (i64 4) ∧ g 14 = (ptr b14_4 0) ∧ g 15 = (i64 3) ∧ g 21 = (bl false) ∧ g 37 = (bl false) ∧ g 53 = (bl (decide ((k : Int) < 10))) ∧ g 57 = (bl true) ∧ g 99 = (bl true) ∧ True) ⟨s0, s1, s2, s3, s5, s6, s7, s8, s9, s10, s11, s12, s13, s14, rfl, s21, s37, s53, s57, rfl, trivial⟩ ?_
      rintro fr187 ⟨s0, s1, s2, s3, s5, s6, s7, s8, s9, s10, s11, s12, s13, s14, s15, s21, s37, s53, s57, s99, _⟩
      refine cw_region ?_
      refine rw_q rfl (ev_move (v := (i64 3)) s15) ?_
      refine rw_q (v := (i64 4)) rfl (ev_i64_add (a := 3) (b := 1) rfl rfl (by omega) (by omega)) ?_
      refine rw_q rfl (ev_assign (v := (i64 4)) rfl) ?_
      refine rw_nil ?_
      refine kThen_normal ?_
      refine cr_succ ?_
      refine cw_seq ?_
      refine cw_seq ?_
      refine cw_region ?_
      refine rw_q rfl (ev_move (v := (i64 4)) rfl) ?_
      refine rw_q rfl (ev_i64_lss (a := 4) (b := 4) rfl rfl) ?_
      refine rw_nil ?_
      refine kThen_normal ?_
      refine cw_cond_f rfl (by decide) ?_
      refine cw_exit ?_
      refine kThen_exit (kThen_exit (kBlk_hit ?_))
      refine kBlk_normal ?_
      refine cw_region ?_
      refine rw_q rfl (ev_move (v := (i64 4)) s13) ?_
      refine rw_q (v := (i64 5)) rfl (ev_i64_add (a := 4) (b := 1) rfl rfl (by omega) (by omega)) ?_
      refine rw_q rfl (ev_assign (v := (i64 5)) rfl) ?_
      refine rw_nil ?_
      refine kThen_normal ?_
      refine cr_succ ?_
      refine cw_seq ?_
      refine cw_seq ?_
      refine cw_region ?_
      refine rw_q rfl (ev_move (v := (i64 5)) rfl) ?_
      refine rw_q rfl (ev_i64_lss (a := 5) (b := 8) rfl rfl) ?_
      refine rw_nil ?_
      refine kThen_normal ?_
      refine cw_cond_t rfl (by decide) ?_
      refine cw_skip ?_
      refine kThen_normal ?_
      refine cw_seq ?_
      refine cw_block ?_
      refine cw_seq ?_
      refine cw_draw [(0, false), (1, false), (2, false), (3, false), (4, false), (5, false), (6, false), (7, false), (8, false), (9, false), (10, false), (11, false), (12, false), (13, false), (14, false), (15, false), (16, false), (17, false), (18, false), (19, false), (20, false), (21, false), (22, false), (23, false), (24, false), (25, false), (26, false), (27, false), (28, false), (29, false), (30, false), (31, false), (32, false), (33, false), (34, false), (35, false), (36, false), (37, false), (38, true)] 39 (by kernel_rfl) ?_
      refine dw_q rfl rfl (fun _ _hx => ev_move (v := sv) s10) ?_
      refine dw_q rfl rfl (fun _ _hx => ev_move (v := (slc b9q66 0 8 8)) s11) ?_
      refine dw_q rfl rfl (fun _ _hx => ev_move (v := (i64 5)) rfl) ?_
      refine dw_q rfl rfl (fun _ _hx => ev_ia_slc (r := 5) (i := 5) (by omega) Try.underlying48 ti50 rfl rfl (by omega) (by omega)) ?_
      refine dw_q (v := (slc b6q66 0 4 4)) rfl rfl (fun _ _hx => ev_load1 Try.underlying50 rfl rfl ((hm186.ext _hx).own (b9q66, .cells #[(slc b1q66 0 4 4), (slc b2q66 0 4 4), (slc b3q66 0 4 4), (slc b4q66 0 4 4), (slc b5q66 0 4 4), (slc b6q66 0 4 4), (slc b7q66 0 4 4), (slc b8q66 0 4 4)] 50 (0, 0)) (by simp)) rfl) ?_
      refine dw_q rfl rfl (fun _ _hx => ev_ia_slc (r := 0) (i := 0) (by omega) Try.underlying50 ti3 rfl rfl (by omega) (by omega)) ?_
      refine dw_q (v := (i64 1)) rfl rfl (fun _ _hx => ev_load1 Try.underlying3 rfl rfl ((hm186.ext _hx).own (b6q66, .cells (cl i64 ([1, 6, 11, 12])) 3 (0, 0)) (by simp)) (get_clD _ _ 0 (by simp))) ?_
      refine dw_q rfl rfl (fun _ _hx => ev_indexAddr_rdv (i := 1) (g186.rd (hm186.ext _hx)) Try.underlying46 ti22 rfl rfl (by omega) (by simp)) ?_
      refine dw_q (v := (u32 (q106.getD 0 0))) rfl rfl (fun _ _hx => ev_load_rdD (l := [q169.getD 0 0, q106.getD 0 0, q127.getD 0 0, q148.getD 0 0, q86.getD 1 0, q169.getD 1 0, q127.getD 1 0, q148.getD 1 0, q86.getD 2 0, q106.getD 2 0, q169.getD 2 0, q148.getD 2 0, q86.getD 3 0, q106.getD 3 0, q127.getD 3 0, q169.getD 3 0]) (i := 1) (dflt := 0) (g186.rd (hm186.ext _hx)) Try.underlying22 rfl (by omega) (by simp) rfl) ?_
      refine dw_q rfl rfl (fun _ _hx => ev_move (v := sv) s10) ?_
      refine dw_q rfl rfl (fun _ _hx => ev_move (v := (slc b9q66 0 8 8)) s11) ?_
      refine dw_q rfl rfl (fun _ _hx => ev_move (v := (i64 5)) rfl) ?_
      refine dw_q rfl rfl (fun _ _hx => ev_ia_slc (r := 5) (i := 5) (by omega) Try.underlying48 ti50 rfl rfl (by omega) (by omega)) ?_
      refine dw_q (v := (slc b6q66 0 4 4)) rfl rfl (fun _ _hx => ev_load1 Try.underlying50 rfl rfl ((hm186.ext _hx).own (b9q66, .cells #[(slc b1q66 0 4 4), (slc b2q66 0 4 4), (slc b3q66 0 4 4), (slc b4q66 0 4 4), (slc b5q66 0 4 4), (slc b6q66 0 4 4), (slc b7q66 0 4 4), (slc b8q66 0 4 4)] 50 (0, 0)) (by simp)) rfl) ?_
      refine dw_q rfl rfl (fun _ _hx => ev_ia_slc (r := 1) (i := 1) (by omega) Try.underlying50 ti3 rfl rfl (by omega) (by omega)) ?_
      refine dw_q (v := (i64 6)) rfl rfl (fun _ _hx => ev_load1 Try.underlying3 rfl rfl ((hm186.ext _hx).own (b6q66, .cells (cl i64 ([1, 6, 11, 12])) 3 (0, 0)) (by simp)) (get_clD _ _ 0 (by simp))) ?_
      refine dw_q rfl rfl (fun _ _hx => ev_indexAddr_rdv (i := 6) (g186.rd (hm186.ext _hx)) Try.underlying46 ti22 rfl rfl (by omega) (by simp)) ?_
      refine dw_q (v := (u32 (q127.getD 1 0))) rfl rfl (fun _ _hx => ev_load_rdD (l := [q169.getD 0 0, q106.getD 0 0, q127.getD 0 0, q148.getD 0 0, q86.getD 1 0, q169.getD 1 0, q127.getD 1 0, q148.getD 1 0, q86.getD 2 0, q106.getD 2 0, q169.getD 2 0, q148.getD 2 0, q86.getD 3 0, q106.getD 3 0, q127.getD 3 0, q169.getD 3 0]) (i := 6) (dflt := 0) (g186.rd (hm186.ext _hx)) Try.underlying22 rfl (by omega) (by simp) rfl) ?_
      refine dw_q rfl rfl (fun _ _hx => ev_move (v := sv) s10) ?_
      refine dw_q rfl rfl (fun _ _hx => ev_move (v := (slc b9q66 0 8 8)) s11) ?_
      refine dw_q rfl rfl (fun _ _hx => ev_move (v := (i64 5)) rfl) ?_
      refine dw_q rfl rfl (fun _ _hx => ev_ia_slc (r := 5) (i := 5) (by omega) Try.underlying48 ti50 rfl rfl (by omega) (by omega)) ?_
      refine dw_q (v := (slc b6q66 0 4 4)) rfl rfl (fun _ _hx => ev_load1 Try.underlying50 rfl rfl ((hm186.ext _hx).own (b9q66, .cells #[(slc b1q66 0 4 4), (slc b2q66 0 4 4), (slc b3q66 0 4 4), (slc b4q66 0 4 4), (slc b5q66 0 4 4), (slc b6q66 0 4 4), (slc b7q66 0 4 4), (slc b8q66 0 4 4)] 50 (0, 0)) (by simp)) rfl) ?_
      refine dw_q rfl rfl (fun _ _hx => ev_ia_slc (r := 2) (i := 2) (by omega) Try.underlying50 ti3 rfl rfl (by omega) (by omega)) ?_
      refine dw_q (v := (i64 11)) rfl rfl (fun _ _hx => ev_load1 Try.underlying3 rfl rfl ((hm186.ext _hx).own (b6q66, .cells (cl i64 ([1, 6, 11, 12])) 3 (0, 0)) (by simp)) (get_clD _ _ 0 (by simp))) ?_
      refine dw_q rfl rfl (fun _ _hx => ev_indexAddr_rdv (i := 11) (g186.rd (hm186.ext _hx)) Try.underlying46 ti22 rfl rfl (by omega) (by simp)) ?_
      refine dw_q (v := (u32 (q148.getD 2 0))) rfl rfl (fun _ _hx => ev_load_rdD (l := [q169.getD 0 0, q106.getD 0 0, q127.getD 0 0, q148.getD 0 0, q86.getD 1 0, q169.getD 1 0, q127.getD 1 0, q148.getD 1 0, q86.getD 2 0, q106.getD 2 0, q169.getD 2 0, q148.getD 2 0, q86.getD 3 0, q106.getD 3 0, q127.getD 3 0, q169.getD 3 0]) (i := 11) (dflt := 0) (g186.rd (hm186.ext _hx)) Try.underlying22 rfl (by omega) (by simp) rfl) ?_
      refine dw_q rfl rfl (fun _ _hx => ev_move (v := sv) s10) ?_
      refine dw_q rfl rfl (fun _ _hx => ev_move (v := (slc b9q66 0 8 8)) s11) ?_
      refine dw_q rfl rfl (fun _ _hx => ev_move (v := (i64 5)) rfl) ?_
      refine dw_q rfl rfl (fun _ _hx => ev_ia_slc (r := 5) (i := 5) (by omega) Try.underlying48 ti50 rfl rfl (by omega) (by omega)) ?_
      refine dw_q (v := (slc b6q66 0 4 4)) rfl rfl (fun _ _hx => ev_load1 Try.underlying50 rfl rfl ((hm186.ext _hx).own (b9q66, .cells #[(slc b1q66 0 4 4), (slc b2q66 0 4 4), (slc b3q66 0 4 4), (slc b4q66 0 4 4), (slc b5q66 0 4 4), (slc b6q66 0 4 4), (slc b7q66 0 4 4), (slc b8q66 0 4 4)] 50 (0, 0)) (by simp)) rfl) ?_
      refine dw_q rfl rfl (fun _ _hx => ev_ia_slc (r := 3) (i := 3) (by omega) Try.underlying50 ti3 rfl rfl (by omega) (by omega)) ?_
      refine dw_q (v := (i64 12)) rfl rfl (fun _ _hx => ev_load1 Try.underlying3 rfl rfl ((hm186.ext _hx).own (b6q66, .cells (cl i64 ([1, 6, 11, 12])) 3 (0, 0)) (by simp)) (get_clD _ _ 0 (by simp))) ?_
      refine dw_q rfl rfl (fun _ _hx => ev_indexAddr_rdv (i := 12) (g186.rd (hm186.ext _hx)) Try.underlying46 ti22 rfl rfl (by omega) (by simp)) ?_
      refine dw_q (v := (u32 (q86.getD 3 0))) rfl rfl (fun _ _hx => ev_load_rdD (l := [q169.getD 0 0, q106.getD 0 0, q127.getD 0 0, q148.getD 0 0, q86.getD 1 0, q169.getD 1 0, q127.getD 1 0, q148.getD 1 0, q86.getD 2 0, q106.getD 2 0, q169.getD 2 0, q148.getD 2 0, q86.getD 3 0, q106.getD 3 0, q127.getD 3 0, q169.getD 3 0]) (i := 12) (dflt := 0) (g186.rd (hm186.ext _hx)) Try.underlying22 rfl (by omega) (by simp) rfl) ?_
      refine dw_q rfl rfl (fun _ _hx => ev_build_cl u32 [(q106.getD 0 0), (q127.getD 1 0), (q148.getD 2 0), (q86.getD 3 0)] u32_one ti23 Try.underlying23 ti22 rfl rfl) ?_
      obtain ⟨q190, hq190⟩ : ∃ q, q = quarterL left3 (q106.getD 0 0) (q127.getD 1 0) (q148.getD 2 0) (q86.getD 3 0) := ⟨_, rfl⟩
      have hq190l : q190.length = 4 := by rw [hq190]; rfl
      refine dw_x (v := (agg u32 q190)) rfl rfl (fun w188 _ew188 => OpR.mono (opR_call Try.func10 bd10 nm10 (args1 rfl) (c_quarter3 (q106.getD 0 0) (q127.getD 1 0) (q148.getD 2 0) (q86.getD 3 0) _)) (by rintro _ w189 ⟨rfl, _ew189⟩; exact ⟨by rw [hq190], _ew189⟩)) ?_
      refine dw_c rfl rfl (fun w191 _ew191 => ?_)
      have hm191 := hm186.ext _ew191
      refine OpR.mono (or_alloc_agg hm191 ti23) ?_
      rintro _ w192 ⟨b14_5, rfl, _ew192, hm192⟩
      refine ⟨_ew192, ?_⟩
      refine dw_nil (fun w193 _ew193 => ?_)
      have hm193 := hm192.ext _ew193
      refine rw_n (or_store_agg (f := u32) (l := q190) u32_one ti23 rfl rfl (by first | omega | (simp only [List.length_set, List.length_append, List.length_replicate, List.length_map, List.length_cons, List.length_nil]; omega) | (simp; done) | (simp; omega)) hm193.h0 (by rw [size_cl]; first | omega | (simp only [List.length_set, List.length_append, List.length_replicate, List.length_map, List.length_cons, List.length_nil]; omega) | (simp; done) | (simp; omega)) rfl) ?_
      rintro _ w194 uq194
      have hm194 := hm193.upd0 uq194
      refine rw_nil ?_
      refine kThen_normal ?_
      have hm195 := Mem.drop ([(b14_4, .cells (cl u32 q169) 23 (0, 0))]) _ (Mem.pick2 [_] Hs186 [_] _ hm194)
      refine CW.abs (fun g => g 0 = (agg u8 key) ∧ g 1 = (u32 counter) ∧ g 2 = (agg u8 nonce) ∧ g 3 = (ptr b3 0) ∧ g 5 = (ptr b5 0) ∧ g 6 = (Value.slice none 0 0) ∧ g 7 = sv60 ∧ g 8 = (i64 32) ∧ g 9 = (i64 12) ∧ g 10 = sv ∧ g 11 = (slc b9q66 0 8 8) ∧ g 12 = (i64 (k : Int)) ∧ g 13 = (i64 5) ∧ g 14 = (ptr b14_5 0) ∧ g 15 = (i64 4) ∧ g 21 = (bl false) ∧ g 37 = (bl false) ∧ g 53 = (bl (decide ((k : Int) < 10))) ∧ g 57 = (bl true) ∧ g 99 = (bl false) ∧ True) ⟨s0, s1, s2, s3, s5, s6, s7, s8, s9, s10, s11, s12, rfl, rfl, rfl, s21, s37, s53, rfl, rfl, trivial⟩ ?_
      rintro fr196 ⟨s0, s1, s2, s3, s5, s6, s7, s8, s9, s10, s11, s12, s13, s14, s15, s21, s37, s53, s57, s99, _⟩
      refine cw_seq ?_
      refine cw_region ?_
      refine rw_q rfl (ev_assign (v := (i64 0)) rfl) ?_
      refine rw_nil ?_
      refine kThen_normal ?_
      refine cw_block' ?_
      refine cw_rounds 5 ?_
      refine cr_succ ?_
      refine cw_seq ?_
      refine cw_seq ?_
      refine cw_region ?_
      refine rw_q rfl (ev_move (v := (i64 0)) rfl) ?_
      refine rw_q rfl (ev_i64_lss (a := 0) (b := 4) rfl rfl) ?_
      refine rw_nil ?_
      refine kThen_normal ?_
      refine cw_cond_t rfl (by decide) ?_
      refine cw_skip ?_
      refine kThen_normal ?_
      refine cw_seq ?_
      refine cw_block ?_
      refine cw_draw [(0, false), (1, false), (2, false), (3, false), (4, false), (5, false), (6, false), (7, false), (8, false), (9, false), (10, false)] 11 (by kernel_rfl) ?_
      refine dw_q rfl rfl (fun _ _hx => ev_move (v := sv) s10) ?_
      refine dw_q rfl rfl (fun _ _hx => ev_move (v := (slc b9q66 0 8 8)) s11) ?_
      refine dw_q rfl rfl (fun _ _hx => ev_move (v := (i64 5)) s13) ?_
      refine dw_q rfl rfl (fun _ _hx => ev_ia_slc (r := 5) (i := 5) (by omega) Try.underlying48 ti50 rfl rfl (by omega) (by omega)) ?_
      refine dw_q (v := (slc b6q66 0 4 4)) rfl rfl (fun _ _hx => ev_load1 Try.underlying50 rfl rfl ((hm195.ext _hx).own (b9q66, .cells #[(slc b1q66 0 4 4), (slc b2q66 0 4 4), (slc b3q66 0 4 4), (slc b4q66 0 4 4), (slc b5q66 0 4 4), (slc b6q66 0 4 4), (slc b7q66 0 4 4), (slc b8q66 0 4 4)] 50 (0, 0)) (by simp)) rfl) ?_
      refine dw_q rfl rfl (fun _ _hx => ev_move (v := (i64 0)) rfl) ?_
      refine dw_q rfl rfl (fun _ _hx => ev_ia_slc (r := 0) (i := 0) (by omega) Try.underlying50 ti3 rfl rfl (by omega) (by omega)) ?_
      refine dw_q (v := (i64 1)) rfl rfl (fun _ _hx => ev_load1 Try.underlying3 rfl rfl ((hm195.ext _hx).own (b6q66, .cells (cl i64 ([1, 6, 11, 12])) 3 (0, 0)) (by simp)) (get_clD _ _ 0 (by simp))) ?_
      refine dw_q rfl rfl (fun _ _hx => ev_move (v := (i64 0)) rfl) ?_
      refine dw_q rfl rfl (fun _ _hx => ev_ia_arr (r := 0) (i := 0) (by omega) Try.underlying23 ti22 s14 rfl (by omega) (by omega)) ?_
      refine dw_q (v := (u32 (q190.getD 0 0))) rfl rfl (fun _ _hx => ev_load1 Try.underlying22 rfl rfl (hm195.ext _hx).h0 (get_clD _ _ 0 (by first | omega | (simp only [List.length_set, List.length_append, List.length_replicate, List.length_map, List.length_cons, List.length_nil]; omega) | (simp; done) | (simp; omega)))) ?_
      refine dw_nil (fun w197 _ew197 => ?_)
      have hm197 := hm195.ext _ew197
      refine rw_q rfl (ev_indexAddr_rdv (i := 1) (g186.rd (Mem.pick [_] Hs186 _ hm197)) Try.underlying46 ti22 rfl rfl (by omega) (by simp)) ?_
      refine rw_n (or_store_grow (i := 1) (a := q190.getD 0 0) (Mem.pick [_] Hs186 _ hm197) g186 u32_one ti22 (by omega) (by simp) rfl rfl) ?_
      rintro _ w198 ⟨Hs198, hm198, g198⟩
      replace g198 : Grow u32 22 sv ([q169.getD 0 0, q190.getD 0 0, q127.getD 0 0, q148.getD 0 0, q86.getD 1 0, q169.getD 1 0, q127.getD 1 0, q148.getD 1 0, q86.getD 2 0, q106.getD 2 0, q169.getD 2 0, q148.getD 2 0, q86.getD 3 0, q106.getD 3 0, q127.getD 3 0, q169.getD 3 0]) Hs198 := g198
      refine rw_nil ?_
      refine kBlk_normal ?_
      refine CW.abs (fun g => g 0 = (agg u8 key) ∧ g 1 = (u32 counter) ∧ g 2 = (agg u8 nonce) ∧ g 3 = (ptr b3 0) ∧ g 5 = (ptr b5 0) ∧ g 6 = (Value.slice none 0 0) ∧ g 7 = sv60 ∧ g 8 = (i64 32) ∧ g 9 = (i64 12) ∧ g 10 = sv ∧ g 11 = (slc b9q66 0 8 8) ∧ g 12 = (i64 (k : Int)) ∧ g 13 = (i64 5) ∧ g 14 = (ptr b14_5 0) ∧ g 15 = (i64 0) ∧ g 21 = (bl false) ∧ g 37 = (bl false) ∧ g 53 = (bl (decide ((k : Int) < 10))) ∧ g 57 = (bl true) ∧ g 99 = (bl true) ∧ True) ⟨s0, s1, s2, s3, s5, s6, s7, s8, s9, s10, s11, s12, s13, s14, rfl, s21, s37, s53, s57, rfl, trivial⟩ ?_
      rintro fr199 ⟨s0, s1, s2, s3, s5, s6, s7, s8, s9, s10, s11, s12, s13, s14, s15, s21, s37, s53, s57, s99, _⟩
      refine cw_region ?_
      refine rw_q rfl (ev_move (v := (i64 0)) s15) ?_
      refine rw_q (v := (i64 1)) rfl (ev_i64_add (a := 0) (b := 1) rfl rfl (by omega) (by omega)) ?_
      refine rw_q rfl (ev_assign (v := (i64 1)) rfl) ?_
      refine rw_nil ?_
      refine kThen_normal ?_
      refine cr_succ ?_
      refine cw_seq ?_
      refine cw_seq ?_
      refine cw_region ?_
      refine rw_q rfl (ev_move (v := (i64 1)) rfl) ?_
      refine rw_q rfl (ev_i64_lss (a := 1) (b := 4) rfl rfl) ?_
      refine rw_nil ?_
      refine kThen_normal ?_
      refine cw_cond_t rfl (by decide) ?_
      refine cw_skip ?_
      refine kThen_normal ?_
      refine cw_seq ?_
      refine cw_block ?_
      refine cw_draw [(0, false), (1, false), (2, false), (3, false), (4, false), (5, false), (6, false), (7, false), (8, false), (9, false), (10, false)] 11 (by kernel_rfl) ?_
      refine dw_q rfl rfl (fun _ _hx => ev_move (v := sv) s10) ?_
      refine dw_q rfl rfl (fun _ _hx => ev_move (v := (slc b9q66 0 8 8)) s11) ?_
      refine dw_q rfl rfl (fun _ _hx => ev_move (v := (i64 5)) s13) ?_
      refine dw_q rfl rfl (fun _ _hx => ev_ia_slc (r := 5) (i := 5) (by omega) Try.underlying48 ti50 rfl rfl (by omega) (by omega)) ?_
      refine dw_q (v := (slc b6q66 0 4 4)) rfl rfl (fun _ _hx => ev_load1 Try.underlying50 rfl rfl ((hm198.ext _hx).own (b9q66, .cells #[(slc b1q66 0 4 4), (slc b2q66 0 4 4), (slc b3q66 0 4 4), (slc b4q66 0 4 4), (slc b5q66 0 4 4), (slc b6q66 0 4 4), (slc b7q66 0 4 4), (slc b8q66 0 4 4)] 50 (0, 0)) (by simp)) rfl) ?_
      refine dw_q rfl rfl (fun _ _hx => ev_move (v := (i64 1)) rfl) ?_
      refine dw_q rfl rfl (fun _ _hx => ev_ia_slc (r := 1) (i := 1) (by omega) Try.underlying50 ti3 rfl rfl (by omega) (by omega)) ?_
      refine dw_q (v := (i64 6)) rfl rfl (fun _ _hx => ev_load1 Try.underlying3 rfl rfl ((hm198.ext _hx).own (b6q66, .cells (cl i64 ([1, 6, 11, 12])) 3 (0, 0)) (by simp)) (get_clD _ _ 0 (by simp))) ?_
      refine dw_q rfl rfl (fun _ _hx => ev_move (v := (i64 1)) rfl) ?_
      refine dw_q rfl rfl (fun _ _hx => ev_ia_arr (r := 1) (i := 1) (by omega) Try.underlying23 ti22 s14 rfl (by omega) (by omega)) ?_
      refine dw_q (v := (u32 (q190.getD 1 0))) rfl rfl (fun _ _hx => ev_load1 Try.underlying22 rfl rfl ((hm198.ext _hx).own (b14_5, .cells (cl u32 q190) 23 (0, 0)) (by simp)) (get_clD _ _ 0 (by first | omega | (simp only [List.length_set, List.length_append, List.length_replicate, List.length_map, List.length_cons, List.length_nil]; omega) | (simp; done) | (simp; omega)))) ?_
      refine dw_nil (fun w200 _ew200 => ?_)
      have hm200 := hm198.ext _ew200
      refine rw_q rfl (ev_indexAddr_rdv (i := 6) (g198.rd hm200) Try.underlying46 ti22 rfl rfl (by omega) (by simp)) ?_
      refine rw_n (or_store_grow (i := 6) (a := q190.getD 1 0) hm200 g198 u32_one ti22 (by omega) (by simp) rfl rfl) ?_
      rintro _ w201 ⟨Hs201, hm201, g201⟩
      replace g201 : Grow u32 22 sv ([q169.getD 0 0, q190.getD 0 0, q127.getD 0 0, q148.getD 0 0, q86.getD 1 0, q169.getD 1 0, q190.getD 1 0, q148.getD 1 0, q86.getD 2 0, q106.getD 2 0, q169.getD 2 0, q148.getD 2 0, q86.getD 3 0, q106.getD 3 0, q127.getD 3 0, q169.getD 3 0]) Hs201 := g201
      refine rw_nil ?_
      refine kBlk_normal ?_
      refine CW.abs (fun g => g 0 = (agg u8 key) ∧ g 1 = (u32 counter) ∧ g 2 = (agg u8 nonce) ∧ g 3 = (ptr b3 0) ∧ g 5 = (ptr b5 0) ∧ g 6 = (Value.slice none 0 0) ∧ g 7 = sv60 ∧ g 8 = (i64 32) ∧ g 9 = (i64 12) ∧ g 10 = sv ∧ g 11 = (slc b9q66 0 8 8) ∧ g 12 = (i64 (k : Int)) ∧ g 13 = (i64 5) ∧ g 14 = (ptr b14_5 0) ∧ g 15 = (i64 1) ∧ g 21 = (bl false) ∧ g 37 = (bl false) ∧ g 53 = (bl (decide ((k : Int) < 10))) ∧ g 57 = (bl true) ∧ g 99 = (bl true) ∧ True) ⟨s0, s1, s2, s3, s5, s6, s7, s8, s9, s10, s11, s12, s13, s14, rfl, s21, s37, s53, s57, rfl, trivial⟩ ?_
      rintro fr202 ⟨s0, s1, s2, s3, s5, s6, s7, s8, s9, s10, s11, s12, s13, s14, s15, s21, s37, s53, s57, s99, _⟩
      refine cw_region ?_
      refine rw_q rfl (ev_move (v := (i64 1)) s15) ?_
      refine rw_q (v := (i64 2)) rfl (ev_i64_add (a := 1) (b := 1) rfl rfl (by omega) (by omega)) ?_
      refine rw_q rfl (ev_assign (v := (i64 2)) rfl) ?_
      refine rw_nil ?_
      refine kThen_normal ?_
      refine cr_succ ?_
      refine cw_seq ?_
      refine cw_seq ?_
      refine cw_region ?_
      refine rw_q rfl (ev_move (v := (i64 2)) rfl) ?_
      refine rw_q rfl (ev_i64_lss (a := 2) (b := 4) rfl rfl) ?_
      refine rw_nil ?_
      refine kThen_normal ?_
      refine cw_cond_t rfl (by decide) ?_
      refine cw_skip ?_
      refine kThen_normal ?_
      refine cw_seq ?_
      refine cw_block ?_
      refine cw_draw [(0, false), (1, false), (2, false), (3, false), (4, false), (5, false), (6, false), (7, false), (8, false), (9, false), (10, false)] 11 (by kernel_rfl) ?_
      refine dw_q rfl rfl (fun _ _hx => ev_move (v := sv) s10) ?_
      refine dw_q rfl rfl (fun _ _hx => ev_move (v := (slc b9q66 0 8 8)) s11) ?_
      refine dw_q rfl rfl (fun _ _hx => ev_move (v := (i64 5)) s13) ?_
      refine dw_q rfl rfl (fun _ _hx => ev_ia_slc (r := 5) (i := 5) (by omega) Try.underlying48 ti50 rfl rfl (by omega) (by omega)) ?_
      refine dw_q (v := (slc b6q66 0 4 4)) rfl rfl (fun _ _hx => ev_load1 Try.underlying50 rfl rfl ((hm201.ext _hx).own (b9q66, .cells #[(slc b1q66 0 4 4), (slc b2q66 0 4 4), (slc b3q66 0 4 4), (slc b4q66 0 4 4), (slc b5q66 0 4 4), (slc b6q66 0 4 4), (slc b7q66 0 4 4), (slc b8q66 0 4 4)] 50 (0, 0)) (by simp)) rfl) ?_
      refine dw_q rfl rfl (fun _ _hx => ev_move (v := (i64 2)) rfl) ?_
      refine dw_q rfl rfl (fun _ _hx => ev_ia_slc (r := 2) (i := 2) (by omega) Try.underlying50 ti3 rfl rfl (by omega) (by omega)) ?_
      refine dw_q (v := (i64 11)) rfl rfl (fun _ _hx => ev_load1 Try.underlying3 rfl rfl ((hm201.ext _hx).own (b6q66, .cells (cl i64 ([1, 6, 11, 12])) 3 (0, 0)) (by simp)) (get_clD _ _ 0 (by simp))) ?_
      refine dw_q rfl rfl (fun _ _hx => ev_move (v := (i64 2)) rfl) ?_
      refine dw_q rfl rfl (fun _ _hx => ev_ia_arr (r := 2) (i := 2) (by omega) Try.underlying23 ti22 s14 rfl (by omega) (by omega)) ?_
      refine dw_q (v := (u32 (q190.getD 2 0))) rfl rfl (fun _ _hx => ev_load1 Try.underlying22 rfl rfl ((hm201.ext _hx).own (b14_5, .cells (cl u32 q190) 23 (0, 0)) (by simp)) (get_clD _ _ 0 (by first | omega | (simp only [List.length_set, List.length_append, List.length_replicate, List.length_map, List.length_cons, List.length_nil]; omega) | (simp; done) | (simp; omega)))) ?_
      refine dw_nil (fun w203 _ew203 => ?_)
      have hm203 := hm201.ext _ew203
      refine rw_q rfl (ev_indexAddr_rdv (i := 11) (g201.rd hm203) Try.underlying46 ti22 rfl rfl (by omega) (by simp)) ?_
      refine rw_n (or_store_grow (i := 11) (a := q190.getD 2 0) hm203 g201 u32_one ti22 (by omega) (by simp) rfl rfl) ?_
      rintro _ w204 ⟨Hs204, hm204, g204⟩
      replace g204 : Grow u32 22 sv ([q169.getD 0 0, q190.getD 0 0, q127.getD 0 0, q148.getD 0 0, q86.getD 1 0, q169.getD 1 0, q190.getD 1 0, q148.getD 1 0, q86.getD 2 0, q106.getD 2 0, q169.getD 2 0, q190.getD 2 0, q86.getD 3 0, q106.getD 3 0, q127.getD 3 0, q169.getD 3 0]) Hs204 := g204
      refine rw_nil ?_
      refine kBlk_normal ?_
      refine CW.abs (fun g => g 0 = (agg u8 key) ∧ g 1 = (u32 counter) ∧ g 2 = (agg u8 nonce) ∧ g 3 = (ptr b3 0) ∧ g 5 = (ptr b5 0) ∧ g 6 = (Value.slice none 0 0) ∧ g 7 = sv60 ∧ g 8 = (i64 32) ∧ g 9 = (i64 12) ∧ g 10 = sv ∧ g 11 = (slc b9q66 0 8 8) ∧ g 12 = (i64 (k : Int)) ∧ g 13 = (i64 5) ∧ g 14 = (ptr b14_5 0) ∧ g 15 = (i64 2) ∧ g 21 = (bl false) ∧ g 37 = (bl false) ∧ g 53 = (bl (decide ((k : Int) < 10))) ∧ g 57 = (bl true) ∧ g 99 = (bl true) ∧ True) ⟨s0, s1, s2, s3, s5, s6, s7, s8, s9, s10, s11, s12, s13, s14, rfl, s21, s37, s53, s57, rfl, trivial⟩ ?_
      rintro fr205 ⟨s0, s1, s2, s3, s5, s6, s7, s8, s9, s10, s11, s12, s13, s14, s15, s21, s37, s53, s57, s99, _⟩
      refine cw_region ?_
      refine rw_q rfl (ev_move (v := (i64 2)) s15) ?_
      refine rw_q (v := (i64 3)) rfl (ev_i64_add (a := 2) (b := 1) rfl rfl (by omega) (by omega)) ?_
      refine rw_q rfl (ev_assign (v := (i64 3)) rfl) ?_
      refine rw_nil ?_
      refine kThen_normal ?_
      refine cr_succ ?_
      refine cw_seq ?_
      refine cw_seq ?_
      refine cw_region ?_
      refine rw_q rfl (ev_move (v := (i64 3)) rfl) ?_
      refine rw_q rfl (ev_i64_lss (a := 3) (b := 4) rfl rfl) ?_
      refine rw_nil ?_
      refine kThen_normal ?_
      refine cw_cond_t rfl (by decide) ?_
      refine cw_skip ?_
      refine kThen_normal ?_
      refine cw_seq ?_
      refine cw_block ?_
      refine cw_draw [(0, false), (1, false), (2, false), (3, false), (4, false), (5, false), (6, false), (7, false), (8, false), (9, false), (10, false)] 11 (by kernel_rfl) ?_
      refine dw_q rfl rfl (fun _ _hx => ev_move (v := sv) s10) ?_
      refine dw_q rfl rfl (fun _ _hx => ev_move (v := (slc b9q66 0 8 8)) s11) ?_
      refine dw_q rfl rfl (fun _ _hx => ev_move (v := (i64 5)) s13) ?_
      refine dw_q rfl rfl (fun _ _hx => ev_ia_slc (r := 5) (i := 5) (by omega) Try.underlying48 ti50 rfl rfl (by omega) (by omega)) ?_
      refine dw_q (v := (slc b6q66 0 4 4)) rfl rfl (fun _ _hx => ev_load1 Try.underlying50 rfl rfl ((hm204.ext _hx).own (b9q66, .cells #[(slc b1q66 0 4 4), (slc b2q66 0 4 4), (slc b3q66 0 4 4), (slc b4q66 0 4 4), (slc b5q66 0 4 4), (slc b6q66 0 4 4), (slc b7q66 0 4 4), (slc b8q66 0 4 4)] 50 (0, 0)) (by simp)) rfl) ?_
      refine dw_q rfl rfl (fun _ _hx => ev_move (v := (i64 3)) rfl) ?_
      refine dw_q rfl rfl (fun _ _hx => ev_ia_slc (r := 3) (i := 3) (by omega) Try.underlying50 ti3 rfl rfl (by omega) (by omega)) ?_
      refine dw_q (v := (i64 12)) rfl rfl (fun _ _hx => ev_load1 Try.underlying3 rfl rfl ((hm204.ext _hx).own (b6q66, .cells (cl i64 ([1, 6, 11, 12])) 3 (0, 0)) (by simp)) (get_clD _ _ 0 (by simp))) ?_
      refine dw_q rfl rfl (fun _ _hx => ev_move (v := (i64 3)) rfl) ?_
      refine dw_q rfl rfl (fun _ _hx => ev_ia_arr (r := 3) (i := 3) (by omega) Try.underlying23 ti22 s14 rfl (by omega) (by omega)) ?_
      refine dw_q (v := (u32 (q190.getD 3 0))) rfl rfl (fun _ _hx => ev_load1 Try.underlying22 rfl rfl ((hm204.ext _hx).own (b14_5, .cells (cl u32 q190) 23 (0, 0)) (by simp)) (get_clD _ _ 0 (by first | omega | (simp only [List.length_set, List.length_append, List.length_replicate, List.length_map, List.length_cons, List.length_nil]; omega) | (simp; done) | (simp; omega)))) ?_
      refine dw_nil (fun w206 _ew206 => ?_)
      have hm206 := hm204.ext _ew206
      refine rw_q rfl (ev_indexAddr_rdv (i := 12) (g204.rd hm206) Try.underlying46 ti22 rfl rfl (by omega) (by simp)) ?_
      refine rw_n (or_store_grow (i := 12) (a := q190.getD 3 0) hm206 g204 u32_one ti22 (by omega) (by simp) rfl rfl) ?_
      rintro _ w207 ⟨Hs207, hm207, g207⟩
      replace g207 : Grow u32 22 sv ([q169.getD 0 0, q190.getD 0 0, q127.getD 0 0, q148.getD 0 0, q86.getD 1 0, q169.getD 1 0, q190.getD 1 0, q148.getD 1 0, q86.getD 2 0, q106.getD 2 0, q169.getD 2 0, q190.getD 2 0, q190.getD 3 0, q106.getD 3 0, q127.getD 3 0, q169.getD 3 0]) Hs207 := g207
      refine rw_nil ?_
      refine kBlk_normal ?_
      refine CW.abs (fun g => g 0 = (agg u8 key) ∧ g 1 = (u32 counter) ∧ g 2 = (agg u8 nonce) ∧ g 3 = (ptr b3 0) ∧ g 5 = (ptr b5 0) ∧ g 6 = (Value.slice none 0 0) ∧ g 7 = sv60 ∧ g 8 = (i64 32) ∧ g 9 = (i64 12) ∧ g 10 = sv ∧ g 11 = (slc b9q66 0 8 8) ∧ g 12 = (i64 (k : Int)) ∧ g 13 = (i64 5) ∧ g 14 = (ptr b14_5 0) ∧ g 15 = (i64 3) ∧ g 21 = (bl false) ∧ g 37 = (bl false) ∧ g 53 = (bl (decide ((k : Int) < 10))) ∧ g 57 = (bl true) ∧ g 99 = (bl true) ∧ True) ⟨s0, s1, s2, s3, s5, s6, s7, s8, s9, s10, s11, s12, s13, s14, rfl, s21, s37, s53, s57, rfl, trivial⟩ ?_
      rintro fr208 ⟨s0, s1, s2, s3, s5, s6, s7, s8, s9, s10, s11, s12, s13, s14, s15, s21, s37, s53, s57, s99, _⟩
      refine cw_region ?_
      refine rw_q rfl (ev_move (v := (i64 3)) s15) ?_
      refine rw_q (v := (i64 4)) rfl (ev_i64_add (a := 3) (b := 1) rfl rfl (by omega) (by omega)) ?_
      refine rw_q rfl (ev_assign (v := (i64 4)) rfl) ?_
      refine rw_nil ?_
      refine kThen_normal ?_
      refine cr_succ ?_
      refine cw_seq ?_
      refine cw_seq ?_
      refine cw_region ?_
      refine rw_q rfl (ev_move (v := (i64 4)) rfl) ?_
      refine rw_q rfl (ev_i64_lss (a := 4) (b := 4) rfl rfl) ?_
      refine rw_nil ?_
      refine kThen_normal ?_
      refine cw_cond_f rfl (by decide) ?_
      refine cw_exit ?_
      refine kThen_exit (kThen_exit (kBlk_hit ?_))
      refine kBlk_normal ?_
      refine cw_region ?_
      refine rw_q rfl (ev_move (v := (i64 5)) s13) ?_
      refine rw_q (v := (i64 6)) rfl (ev_i64_add (a := 5) (b := 1) rfl rfl (by omega) (by omega)) ?_
      refine rw_q rfl (ev_assign (v := (i64 6)) rfl) ?_
      refine rw_nil ?_
      refine kThen_normal ?_
      refine cr_succ ?_
      refine cw_seq ?_
      refine cw_seq ?_
      refine cw_region ?_
      refine rw_q rfl (ev_move (v := (i64 6)) rfl) ?_
      refine rw_q rfl (ev_i64_lss (a := 6) (b := 8) rfl rfl) ?_
      refine rw_nil ?_
      refine kThen_normal ?_
      refine cw_cond_t rfl (by decide) ?_
      refine cw_skip ?_
      refine kThen_normal ?_
      refine cw_seq ?_
      refine cw_block ?_
      refine cw_seq ?_
      refine cw_draw [(0, false), (1, false), (2, false), (3, false), (4, false), (5, false), (6, false), (7, false), (8, false), (9, false), (10, false), (11, false), (12, false), (13, false), (14, false), (15, false), (16, false), (17, false), (18, false), (19, false), (20, false), (21, false), (22, false), (23, false), (24, false), (25, false), (26, false), (27, false), (28, false), (29, false), (30, false), (31, false), (32, false), (33, false), (34, false), (35, false), (36, false), (37, false), (38, true)] 39 (by kernel_rfl) ?_
      refine dw_q rfl rfl (fun _ _hx => ev_move (v := sv) s10) ?_
      refine dw_q rfl rfl (fun _ _hx => ev_move (v := (slc b9q66 0 8 8)) s11) ?_
      refine dw_q rfl rfl (fun _ _hx => ev_move (v := (i64 6)) rfl) ?_
      refine dw_q rfl rfl (fun _ _hx => ev_ia_slc (r := 6) (i := 6) (by omega) Try.underlying48 ti50 rfl rfl (by omega) (by omega)) ?_
      refine dw_q (v := (slc b7q66 0 4 4)) rfl rfl (fun _ _hx => ev_load1 Try.underlying50 rfl rfl ((hm207.ext _hx).own (b9q66, .cells #[(slc b1q66 0 4 4), (slc b2q66 0 4 4), (slc b3q66 0 4 4), (slc b4q66 0 4 4), (slc b5q66 0 4 4), (slc b6q66 0 4 4), (slc b7q66 0 4 4), (slc b8q66 0 4 4)] 50 (0, 0)) (by simp)) rfl) ?_
      refine dw_q rfl rfl (fun _ _hx => ev_ia_slc (r := 0) (i := 0) (by omega) Try.underlying50 ti3 rfl rfl (by omega) (by omega)) ?_
      refine dw_q (v := (i64 2)) rfl rfl (fun _ _hx => ev_load1 Try.underlying3 rfl rfl ((hm207.ext _hx).own (b7q66, .cells (cl i64 ([2, 7, 8, 13])) 3 (0, 0)) (by simp)) (get_clD _ _ 0 (by simp))) ?_
      refine dw_q rfl rfl (fun _ _hx => ev_indexAddr_rdv (i := 2) (g207.rd (hm207.ext _hx)) Try.underlying46 ti22 rfl rfl (by omega) (by simp)) ?_
      refine dw_q (v := (u32 (q127.getD 0 0))) rfl rfl (fun _ _hx => ev_load_rdD (l := [q169.getD 0 0, q190.getD 0 0, q127.getD 0 0, q148.getD 0 0, q86.getD 1 0, q169.getD 1 0, q190.getD 1 0, q148.getD 1 0, q86.getD 2 0, q106.getD 2 0, q169.getD 2 0, q190.getD 2 0, q190.getD 3 0, q106.getD 3 0, q127.getD 3 0, q169.getD 3 0]) (i := 2) (dflt := 0) (g207.rd (hm207.ext _hx)) Try.underlying22 rfl (by omega) (by simp) rfl) ?_
      refine dw_q rfl rfl (fun _ _hx => ev_move (v := sv) s10) ?_
      refine dw_q rfl rfl (fun _ _hx => ev_move (v := (slc b9q66 0 8 8)) s11) ?_
      refine dw_q rfl rfl (fun _ _hx => ev_move (v := (i64 6)) rfl) ?_
      refine dw_q rfl rfl (fun _ _hx => ev_ia_slc (r := 6) (i := 6) (by omega) Try.underlying48 ti50 rfl rfl (by omega) (by omega)) ?_
      refine dw_q (v := (slc b7q66 0 4 4)) rfl rfl (fun _ _hx => ev_load1 Try.underlying50 rfl rfl ((hm207.ext _hx).own (b9q66, .cells #[(slc b1q66 0 4 4), (slc b2q66 0 4 4), (slc b3q66 0 4 4), (slc b4q66 0 4 4), (slc b5q66 0 4 4), (slc b6q66 0 4 4), (slc b7q66 0 4 4), (slc b8q66 0 4 4)] 50 (0, 0)) (by simp)) rfl) ?_
      refine dw_q rfl rfl (fun _ _hx => ev_ia_slc (r := 1) (i := 1) (by omega) Try.underlying50 ti3 rfl rfl (by omega) (by omega)) ?_
      refine dw_q (v := (i64 7)) rfl rfl (fun _ _hx => ev_load1 Try.underlying3 rfl rfl ((hm207.ext _hx).own (b7q66, .cells (cl i64 ([2, 7, 8, 13])) 3 (0, 0)) (by simp)) (get_clD _ _ 0 (by simp))) ?_
      refine dw_q rfl rfl (fun _ _hx => ev_indexAddr_rdv (i := 7) (g207.rd (hm207.ext _hx)) Try.underlying46 ti22 rfl rfl (by omega) (by simp)) ?_
      refine dw_q (v := (u32 (q148.getD 1 0))) rfl rfl (fun _ _hx => ev_load_rdD (l := [q169.getD 0 0, q190.getD 0 0, q127.getD 0 0, q148.getD 0 0, q86.getD 1 0, q169.getD 1 0, q190.getD 1 0, q148.getD 1 0, q86.getD 2 0, q106.getD 2 0, q169.getD 2 0, q190.getD 2 0, q190.getD 3 0, q106.getD 3 0, q127.getD 3 0, q169.getD 3 0]) (i := 7) (dflt := 0) (g207.rd (hm207.ext _hx)) Try.underlying22 rfl (by omega) (by simp) rfl) ?_
      refine dw_q rfl rfl (fun _ _hx => ev_move (v := sv) s10) ?_
      refine dw_q rfl rfl (fun _ _hx => ev_move (v := (slc b9q66 0 8 8)) s11) ?_
      refine dw_q rfl rfl (fun _ _hx => ev_move (v := (i64 6)) rfl) ?_
      refine dw_q rfl rfl (fun _ _hx => ev_ia_slc (r := 6) (i := 6) (by omega) Try.underlying48 ti50 rfl rfl (by omega) (by omega)) ?_
      refine dw_q (v := (slc b7q66 0 4 4)) rfl rfl (fun _ _hx => ev_load1 Try.underlying50 rfl rfl ((hm207.ext _hx).own (b9q66, .cells #[(slc b1q66 0 4 4), (slc b2q66 0 4 4), (slc b3q66 0 4 4), (slc b4q66 0 4 4), (slc b5q66 0 4 4), (slc b6q66 0 4 4), (slc b7q66 0 4 4), (slc b8q66 0 4 4)] 50 (0, 0)) (by simp)) rfl) ?_
      refine dw_q rfl rfl (fun _ _hx => ev_ia_slc (r := 2) (i := 2) (by omega) Try.underlying50 ti3 rfl rfl (by omega) (by omega)) ?_
      refine dw_q (v := (i64 8)) rfl rfl (fun _ _hx => ev_load1 Try.underlying3 rfl rfl ((hm207.ext _hx).own (b7q66, .cells (cl i64 ([2, 7, 8, 13])) 3 (0, 0)) (by simp)) (get_clD _ _ 0 (by simp))) ?_
      refine dw_q rfl rfl (fun _ _hx => ev_indexAddr_rdv (i := 8) (g207.rd (hm207.ext _hx)) Try.underlying46 ti22 rfl rfl (by omega) (by simp)) ?_
      refine dw_q (v := (u32 (q86.getD 2 0))) rfl rfl (fun _ _hx => ev_load_rdD (l := [q169.getD 0 0, q190.getD 0 0, q127.getD 0 0, q148.getD 0 0, q86.getD 1 0, q169.getD 1 0, q190.getD 1 0, q148.getD 1 0, q86.getD 2 0, q106.getD 2 0, q169.getD 2 0, q190.getD 2 0, q190.getD 3 0, q106.getD 3 0, q127.getD 3 0, q169.getD 3 0]) (i := 8) (dflt := 0) (g207.rd (hm207.ext _hx)) Try.underlying22 rfl (by omega) (by simp) rfl) ?_
      refine dw_q rfl rfl (fun _ _hx => ev_move (v := sv) s10) ?_
      refine dw_q rfl rfl (fun _ _hx => ev_move (v := (slc b9q66 0 8 8)) s11) ?_
      refine dw_q rfl rfl (fun _ _hx => ev_move (v := (i64 6)) rfl) ?_
      refine dw_q rfl rfl (fun _ _hx => ev_ia_slc (r := 6) (i := 6) (by omega) Try.underlying48 ti50 rfl rfl (by omega) (by omega)) ?_
      refine dw_q (v := (slc b7q66 0 4 4)) rfl rfl (fun _ _hx => ev_load1 Try.underlying50 rfl rfl ((hm207.ext _hx).own (b9q66, .cells #[(slc b1q66 0 4 4), (slc b2q66 0 4 4), (slc b3q66 0 4 4), (slc b4q66 0 4 4), (slc b5q66 0 4 4), (slc b6q66 0 4 4), (slc b7q66 0 4 4), (slc b8q66 0 4 4)] 50 (0, 0)) (by simp)) rfl) ?_
      refine dw_q rfl rfl (fun _ _hx => ev_ia_slc (r := 3) (i := 3) (by omega) Try.underlying50 ti3 rfl rfl (by omega) (by omega)) ?_
      refine dw_q (v := (i64 13)) rfl rfl (fun _ _hx => ev_load1 Try.underlying3 rfl rfl ((hm207.ext _hx).own (b7q66, .cells (cl i64 ([2, 7, 8, 13])) 3 (0, 0)) (by simp)) (get_clD _ _ 0 (by simp))) ?_
      refine dw_q rfl rfl (fun _ _hx => ev_indexAddr_rdv (i := 13) (g207.rd (hm207.ext _hx)) Try.underlying46 ti22 rfl rfl (by omega) (by simp)) ?_
      refine dw_q (v := (u32 (q106.getD 3 0))) rfl rfl (fun _ _hx => ev_load_rdD (l := [q169.getD 0 0, q190.getD 0 0, q127.getD 0 0, q148.getD 0 0, q86.getD 1 0, q169.getD 1 0, q190.getD 1 0, q148.getD 1 0, q86.getD 2 0, q106.getD 2 0, q169.getD 2 0, q190.getD 2 0, q190.getD 3 0, q106.getD 3 0, q127.getD 3 0, q169.getD 3 0]) (i := 13) (dflt := 0) (g207.rd (hm207.ext _hx)) Try.underlying22 rfl (by omega) (by simp) rfl) ?_
      refine dw_q rfl rfl (fun _ _hx => ev_build_cl u32 [(q127.getD 0 0), (q148.getD 1 0), (q86.getD 2 0), (q106.getD 3 0)] u32_one ti23 Try.underlying23 ti22 rfl rfl) ?_
      obtain ⟨q211, hq211⟩ : ∃ q, q = quarterL left3 (q127.getD 0 0) (q148.getD 1 0) (q86.getD 2 0) (q106.getD 3 0) := ⟨_, rfl⟩
      have hq211l : q211.length = 4 := by rw [hq211]; rfl
      refine dw_x (v := (agg u32 q211)) rfl rfl (fun w209 _ew209 => OpR.mono (opR_call Try.func10 bd10 nm10 (args1 rfl) (c_quarter3 (q127.getD 0 0) (q148.getD 1 0) (q86.getD 2 0) (q106.getD 3 0) _)) (by rintro _ w210 ⟨rfl, _ew210⟩; exact ⟨by rw [hq211], _ew210⟩)) ?_
      refine dw_c rfl rfl (fun w212 _ew212 => ?_)
      have hm212 := hm207.ext _ew212
      refine OpR.mono (or_alloc_agg hm212 ti23) ?_
      rintro _ w213 ⟨b14_6, rfl, _ew213, hm213⟩
      refine ⟨_ew213, ?_⟩
      refine dw_nil (fun w214 _ew214 => ?_)
      have hm214 := hm213.ext _ew214
      refine rw_n (or_store_agg (f := u32) (l := q211) u32_one ti23 rfl rfl (by first | omega | (simp only [List.length_set, List.length_append, List.length_replicate, List.length_map, List.length_cons, List.length_nil]; omega) | (simp; done) | (simp; omega)) hm214.h0 (by rw [size_cl]; first | omega | (simp only [List.length_set, List.length_append, List.length_replicate, List.length_map, List.length_cons, List.length_nil]; omega) | (simp; done) | (simp; omega)) rfl) ?_
      rintro _ w215 uq215
      have hm215 := hm214.upd0 uq215
      refine rw_nil ?_
      refine kThen_normal ?_
      have hm216 := Mem.drop ([(b14_5, .cells (cl u32 q190) 23 (0, 0))]) _ (Mem.pick2 [_] Hs207 [_] _ hm215)
      refine CW.abs (fun g => g 0 = (agg u8 key) ∧ g 1 = (u32 counter) ∧ g 2 = (agg u8 nonce) ∧ g 3 = (ptr b3 0) ∧ g 5 = (ptr b5 0) ∧ g 6 = (Value.slice none 0 0) ∧ g 7 = sv60 ∧ g 8 = (i64 32) ∧ g 9 = (i64 12) ∧ g 10 = sv ∧ g 11 = (slc b9q66 0 8 8) ∧ g 12 = (i64 (k : Int)) ∧ g 13 = (i64 6) ∧ g 14 = (ptr b14_6 0) ∧ g 15 = (i64 4) ∧ g 21 = (bl false) ∧ g 37 = (bl false) ∧ g 53 = (bl (decide ((k : Int) < 10))) ∧ g 57 = (bl true) ∧ g 99 = (bl false) ∧ True) ⟨s0, s1, s2, s3, s5, s6, s7, s8, s9, s10, s11, s12, rfl, rfl, rfl, s21, s37, s53, rfl, rfl, trivial⟩ ?_
      rintro fr217 ⟨s0, s1, s2, s3, s5, s6, s7, s8, s9, s10, s11, s12, s13, s14, s15, s21, s37, s53, s57, s99, _⟩
      refine cw_seq ?_
      refine cw_region ?_
      refine rw_q rfl (ev_assign (v := (i64 0)) rfl) ?_
      refine rw_nil ?_
      refine kThen_normal ?_
      refine cw_block' ?_
      refine cw_rounds 5 ?_
      refine cr_succ ?_
      refine cw_seq ?_
      refine cw_seq ?_
      refine cw_region ?_
      refine rw_q rfl (ev_move (v := (i64 0)) rfl) ?_
      refine rw_q rfl (ev_i64_lss (a := 0) (b := 4) rfl rfl) ?_
      refine rw_nil ?_
      refine kThen_normal ?_
      refine cw_cond_t rfl (by decide) ?_
      refine cw_skip ?_
      refine kThen_normal ?_
      refine cw_seq ?_
      refine cw_block ?_
      refine cw_draw [(0, false), (1, false), (2, false), (3, false), (4, false), (5, false), (6, false), (7, false), (8, false), (9, false), (10, false)] 11 (by kernel_rfl) ?_
      refine dw_q rfl rfl (fun _ _hx => ev_move (v := sv) s10) ?_
      refine dw_q rfl rfl (fun _ _hx => ev_move (v := (slc b9q66 0 8 8)) s11) ?_
      refine dw_q rfl rfl (fun _ _hx => ev_move (v := (i64 6)) s13) ?_
      refine dw_q rfl rfl (fun _ _hx => ev_ia_slc (r := 6) (i := 6) (by omega) Try.underlying48 ti50 rfl rfl (by omega) (by omega)) ?_
      refine dw_q (v := (slc b7q66 0 4 4)) rfl rfl (fun _ _hx => ev_load1 Try.underlying50 rfl rfl ((hm216.ext _hx).own (b9q66, .cells #[(slc b1q66 0 4 4), (slc b2q66 0 4 4), (slc b3q66 0 4 4), (slc b4q66 0 4 4), (slc b5q66 0 4 4), (slc b6q66 0 4 4), (slc b7q66 0 4 4), (slc b8q66 0 4 4)] 50 (0, 0)) (by simp)) rfl) ?_
      refine dw_q rfl rfl (fun _ _hx => ev_move (v := (i64 0)) rfl) ?_
      refine dw_q rfl rfl (fun _ _hx => ev_ia_slc (r := 0) (i := 0) (by omega) Try.underlying50 ti3 rfl rfl (by omega) (by omega)) ?_
      refine dw_q (v := (i64 2)) rfl rfl (fun _ _hx => ev_load1 Try.underlying3 rfl rfl ((hm216.ext _hx).own (b7q66, .cells (cl i64 ([2, 7, 8, 13])) 3 (0, 0)) (by simp)) (get_clD _ _ 0 (by simp))) ?_
      refine dw_q rfl rfl (fun _ _hx => ev_move (v := (i64 0)) rfl) ?_
      refine dw_q rfl rfl (fun _ _hx => ev_ia_arr (r := 0) (i := 0) (by omega) Try.underlying23 ti22 s14 rfl (by omega) (by omega)) ?_
      refine dw_q (v := (u32 (q211.getD 0 0))) rfl rfl (fun _ _hx => ev_load1 Try.underlying22 rfl rfl (hm216.ext _hx).h0 (get_clD _ _ 0 (by first | omega | (simp only [List.length_set, List.length_append, List.length_replicate, List.length_map, List.length_cons, List.length_nil]; omega) | (simp; done) | (simp; omega)))) ?_
      refine dw_nil (fun w218 _ew218 => ?_)
      have hm218 := hm216.ext _ew218
      refine rw_q rfl (ev_indexAddr_rdv (i := 2) (g207.rd (Mem.pick [_] Hs207 _ hm218)) Try.underlying46 ti22 rfl rfl (by omega) (by simp)) ?_
      refine rw_n (or_store_grow (i := 2) (a := q211.getD 0 0) (Mem.pick [_] Hs207 _ hm218) g207 u32_one ti22 (by omega) (by simp) rfl rfl) ?_
      rintro _ w219 ⟨Hs219, hm219, g219⟩
      replace g219 : Grow u32 22 sv ([q169.getD 0 0, q190.getD 0 0, q211.getD 0 0, q148.getD 0 0, q86.getD 1 0, q169.getD 1 0, q190.getD 1 0, q148.getD 1 0, q86.getD 2 0, q106.getD 2 0, q169.getD 2 0, q190.getD 2 0, q190.getD 3 0, q106.getD 3 0, q127.getD 3 0, q169.getD 3 0]) Hs219 := g219
      refine rw_nil ?_
      refine kBlk_normal ?_
      refine CW.abs (fun g => g 0 = (agg u8 key) ∧ g 1 = (u32 counter) ∧ g 2 = (agg u8 nonce) ∧ g 3 = (ptr b3 0) ∧ g 5 = (ptr b5 0) ∧ g 6 = (Value.slice none 0 0) ∧ g 7 = sv60 ∧ g 8 = (i64 32) ∧ g 9 = (i64 12) ∧ g 10 = sv ∧ g 11 = (slc b9q66 0 8 8) ∧ g 12 = (i64 (k : Int)) ∧ g 13 = (i64 6) ∧ g 14 = (ptr b14_6 0) ∧ g 15 = (i64 0) ∧ g 21 = (bl false) ∧ g 37 = (bl false) ∧ g 53 = (bl (decide ((k : Int) < 10))) ∧ g 57 = (bl true) ∧ g 99 = (bl true) ∧ True) ⟨s0, s1, s2, s3, s5, s6, s7, s8, s9, s10, s11, s12, s13, s14, rfl, s21, s37, s53, s57, rfl, trivial⟩ ?_
      rintro fr220 ⟨s0, s1, s2, s3, s5, s6, s7, s8, s9, s10, s11, s12, s13, s14, s15, s21, s37, s53, s57, s99, _⟩
      refine cw_region ?_
      refine rw_q rfl (ev_move (v := (i64 0)) s15) ?_
      refine rw_q (v := (i64 1)) rfl (ev_i64_add (a := 0) (b := 1) rfl rfl (by omega) (by omega)) ?_
      refine rw_q rfl (ev_assign (v := (i64 1)) rfl) ?_
      refine rw_nil ?_
      refine kThen_normal ?_
      refine cr_succ ?_
      refine cw_seq ?_
      refine cw_seq ?_
      refine cw_region ?_
      refine rw_q rfl (ev_move (v := (i64 1)) rfl) ?_
      refine rw_q rfl (ev_i64_lss (a := 1) (b := 4) rfl rfl) ?_
      refine rw_nil ?_
      refine kThen_normal ?_
      refine cw_cond_t rfl (by decide) ?_
      refine cw_skip ?_
      refine kThen_normal ?_
      refine cw_seq ?_
      refine cw_block ?_
      refine cw_draw [(0, false), (1, false), (2, false), (3, false), (4, false), (5, false), (6, false), (7, false), (8, false), (9, false), (10, false)] 11 (by kernel_rfl) ?_
      refine dw_q rfl rfl (fun _ _hx => ev_move (v := sv) s10) ?_
      refine dw_q rfl rfl (fun _ _hx => ev_move (v := (slc b9q66 0 8 8)) s11) ?_
      refine dw_q rfl rfl (fun _ _hx => ev_move (v := (i64 6)) s13) ?_
      refine dw_q rfl rfl (fun _ _hx => ev_ia_slc (r := 6) (i := 6) (by omega) Try.underlying48 ti50 rfl rfl (by omega) (by omega)) ?_
      refine dw_q (v := (slc b7q66 0 4 4)) rfl rfl (fun _ _hx => ev_load1 Try.underlying50 rfl rfl ((hm219.ext _hx).own (b9q66, .cells #[(slc b1q66 0 4 4), (slc b2q66 0 4 4), (slc b3q66 0 4 4), (slc b4q66 0 4 4), (slc b5q66 0 4 4), (slc b6q66 0 4 4), (slc b7q66 0 4 4), (slc b8q66 0 4 4)] 50 (0, 0)) (by simp)) rfl) ?_
      refine dw_q rfl rfl (fun _ _hx => ev_move (v := (i64 1)) rfl) ?_
      refine dw_q rfl rfl (fun _ _hx => ev_ia_slc (r := 1) (i := 1) (by omega) Try.underlying50 ti3 rfl rfl (by omega) (by omega)) ?_
      refine dw_q (v := (i64 7)) rfl rfl (fun _ _hx => ev_load1 Try.underlying3 rfl rfl ((hm219.ext _hx).own (b7q66, .cells (cl i64 ([2, 7, 8, 13])) 3 (0, 0)) (by simp)) (get_clD _ _ 0 (by simp))) ?_
      refine dw_q rfl rfl (fun _ _hx => ev_move (v := (i64 1)) rfl) ?_
      refine dw_q rfl rfl (fun _ _hx => ev_ia_arr (r := 1) (i := 1) (by omega) Try.underlying23 ti22 s14 rfl (by omega) (by omega)) ?_
      refine dw_q (v := (u32 (q211.getD 1 0))) rfl rfl (fun _ _hx => ev_load1 Try.underlying22 rfl rfl ((hm219.ext _hx).own (b14_6, .cells (cl u32 q211) 23 (0, 0)) (by simp)) (get_clD _ _ 0 (by first | omega | (simp only [List.length_set, List.length_append, List.length_replicate, List.length_map, List.length_cons, List.length_nil]; omega) | (simp; done) | (simp; omega)))) ?_
      refine dw_nil (fun w221 _ew221 => ?_)
      have hm221 := hm219.ext _ew221
      refine rw_q rfl (ev_indexAddr_rdv (i := 7) (g219.rd hm221) Try.underlying46 ti22 rfl rfl (by omega) (by simp)) ?_
      refine rw_n (or_store_grow (i := 7) (a := q211.getD 1 0) hm221 g219 u32_one ti22 (by omega) (by simp) rfl rfl) ?_
      rintro _ w222 ⟨Hs222, hm222, g222⟩
      replace g222 : Grow u32 22 sv ([q169.getD 0 0, q190.getD 0 0, q211.getD 0 0, q148.getD 0 0, q86.getD 1 0, q169.getD 1 0, q190.getD 1 0, q211.getD 1 0, q86.getD 2 0, q106.getD 2 0, q169.getD 2 0, q190.getD 2 0, q190.getD 3 0, q106.getD 3 0, q127.getD 3 0, q169.getD 3 0]) Hs222 := g222
      refine rw_nil ?_
      refine kBlk_normal ?_
      refine CW.abs (fun g => g 0 = (agg u8 key) ∧ g 1 = (u32 counter) ∧ g 2 = (agg u8 nonce) ∧ g 3 = (ptr b3 0) ∧ g 5 = (ptr b5 0) ∧ g 6 = (Value.slice none 0 0) ∧ g 7 = sv60 ∧ g 8 = (i64 32) ∧ g 9 = (i64 12) ∧ g 10 = sv ∧ g 11 = (slc b9q66 0 8 8) ∧ g 12 = (i64 (k : Int)) ∧ g 13 = (i64 6) ∧ g 14 = (ptr b14_6 0) ∧ g 15 = (i64 1) ∧ g 21 = (bl false) ∧ g 37 = (bl false) ∧ g 53 = (bl (decide ((k : Int) < 10))) ∧ g 57 = (bl true) ∧ g 99 = (bl true) ∧ True) ⟨s0, s1, s2, s3, s5, s6, s7, s8, s9, s10, s11, s12, s13, s14, rfl, s21, s37, s53, s57, rfl, trivial⟩ ?_
      rintro fr223 ⟨s0, s1, s2, s3, s5, s6, s7, s8, s9, s10, s11, s12, s13, s14, s15, s21, s37, s53, s57, s99, _⟩
      refine cw_region ?_
      refine rw_q rfl (ev_move (v := (i64 1)) s15) ?_
      refine rw_q (v := (i64 2)) rfl (ev_i64_add (a := 1) (b := 1) rfl rfl (by omega) (by omega)) ?_
      refine rw_q rfl (ev_assign (v := (i64 2)) rfl) ?_
      refine rw_nil ?_
      refine kThen_normal ?_
      refine cr_succ ?_
      refine cw_seq ?_
      refine cw_seq ?_
      refine cw_region ?_
      refine rw_q rfl (ev_move (v := (i64 2)) rfl) ?_
      refine rw_q rfl (ev_i64_lss (a := 2) (b := 4) rfl rfl) ?_
      refine rw_nil ?_
      refine kThen_normal ?_
      refine cw_cond_t rfl (by decide) ?_
      refine cw_skip ?_
      refine kThen_normal ?_
      refine cw_seq ?_
      refine cw_block ?_
      refine cw_draw [(0, false), (1, false), (2, false), (3, false), (4, false), (5, false), (6, false), (7, false), (8, false), (9, false), (10, false)] 11 (by kernel_rfl) ?_
      refine dw_q rfl rfl (fun _ _hx => ev_move (v := sv) s10) ?_
      refine dw_q rfl rfl (fun _ _hx => ev_move (v := (slc b9q66 0 8 8)) s11) ?_
      refine dw_q rfl rfl (fun _ _hx => ev_move (v := (i64 6)) s13) ?_
      refine dw_q rfl rfl (fun _ _hx => ev_ia_slc (r := 6) (i := 6) (by omega) Try.underlying48 ti50 rfl rfl (by omega) (by omega)) ?_
      refine dw_q (v := (slc b7q66 0 4 4)) rfl rfl (fun _ _hx => ev_load1 Try.underlying50 rfl rfl ((hm222.ext _hx).own (b9q66, .cells #[(slc b1q66 0 4 4), (slc b2q66 0 4 4), (slc b3q66 0 4 4), (slc b4q66 0 4 4), (slc b5q66 0 4 4), (slc b6q66 0 4 4), (slc b7q66 0 4 4), (slc b8q66 0 4 4)] 50 (0, 0)) (by simp)) rfl) ?_
      refine dw_q rfl rfl (fun _ _hx => ev_move (v := (i64 2)) rfl) ?_
      refine dw_q rfl rfl (fun _ _hx => ev_ia_slc (r := 2) (i := 2) (by omega) Try.underlying50 ti3 rfl rfl (by omega) (by omega)) ?_
      refine dw_q (v := (i64 8)) rfl rfl (fun _ _hx => ev_load1 Try.underlying3 rfl rfl ((hm222.ext _hx).own (b7q66, .cells (cl i64 ([2, 7, 8, 13])) 3 (0, 0)) (by simp)) (get_clD _ _ 0 (by simp))) ?_
      refine dw_q rfl rfl (fun _ _hx => ev_move (v := (i64 2)) rfl) ?_
      refine dw_q rfl rfl (fun _ _hx => ev_ia_arr (r := 2) (i := 2) (by omega) Try.underlying23 ti22 s14 rfl (by omega) (by omega)) ?_
      refine dw_q (v := (u32 (q211.getD 2 0))) rfl rfl (fun _ _hx => ev_load1 Try.underlying22 rfl rfl ((hm222.ext _hx).own (b14_6, .cells (cl u32 q211) 23 (0, 0)) (by simp)) (get_clD _ _ 0 (by first | omega | (simp only [List.length_set, List.length_append, List.length_replicate, List.length_map, List.length_cons, List.length_nil]; omega) | (simp; done) | (simp; omega)))) ?_
      refine dw_nil (fun w224 _ew224 => ?_)
      have hm224 := hm222.ext _ew224
      refine rw_q rfl (ev_indexAddr_rdv (i := 8) (g222.rd hm224) Try.underlying46 ti22 rfl rfl (by omega) (by simp)) ?_
      refine rw_n (or_store_grow (i := 8) (a := q211.getD 2 0) hm224 g222 u32_one ti22 (by omega) (by simp) rfl rfl) ?_
      rintro _ w225 ⟨Hs225, hm225, g225⟩
      replace g225 : Grow u32 22 sv ([q169.getD 0 0, q190.getD 0 0, q211.getD 0 0, q148.getD 0 0, q86.getD 1 0, q169.getD 1 0, q190.getD 1 0, q211.getD 1 0, q211.getD 2 0, q106.getD 2 0, q169.getD 2 0, q190.getD 2 0, q190.getD 3 0, q106.getD 3 0, q127.getD 3 0, q169.getD 3 0]) Hs225 := g225
      refine rw_nil ?_
      refine kBlk_normal ?_
      refine CW.abs (fun g => g 0 = (agg u8 key) ∧ g 1 = (u32 counter) ∧ g 2 = (agg u8 nonce) ∧ g 3 = (ptr b3 0) ∧ g 5 = (ptr b5 0) ∧ g 6 = (Value.slice none 0 0) ∧ g 7 = sv60 ∧ g 8 = (i64 32) ∧ g 9 = (i64 12) ∧ g 10 = sv ∧ g 11 = (slc b9q66 0 8 8) ∧ g 12 = (i64 (k : Int)) ∧ g 13 = (i64 6) ∧ g 14 = (ptr b14_6 0) ∧ g 15 = (i64 2) ∧ g 21 = (bl false) ∧ g 37 = (bl false) ∧ g 53 = (bl (decide ((k : Int) < 10))) ∧ g 57 = (bl true) ∧ g 99 = (bl true) ∧ True) ⟨s0, s1, s2, s3, s5, s6, s7, s8, s9, s10, s11, s12, s13, s14, rfl, s21, s37, s53, s57, rfl, trivial⟩ ?_
      rintro fr226 ⟨s0, s1, s2, s3, s5, s6, s7, s8, s9, s10, s11, s12, s13, s14, s15, s21, s37, s53, s57, s99, _⟩
      refine cw_region ?_
      refine rw_q rfl (ev_move (v := (i64 2)) s15) ?_
      refine rw_q (v := (i64 3)) rfl (ev_i64_add (a := 2) (b := 1) rfl rfl (by omega) (by omega)) ?_
      refine rw_q rfl (ev_assign (v := (i64 3)) rfl) ?_
      refine rw_nil ?_
      refine kThen_normal ?_
      refine cr_succ ?_
      refine cw_seq ?_
      refine cw_seq ?_
      refine cw_region ?_
      refine rw_q rfl (ev_move (v := (i64 3)) rfl) ?_
      refine rw_q rfl (ev_i64_lss (a := 3) (b := 4) rfl rfl) ?_
      refine rw_nil ?_
      refine kThen_normal ?_
      refine cw_cond_t rfl (by decide) ?_
      refine cw_skip ?_
      refine kThen_normal ?_
      refine cw_seq ?_
      refine cw_block ?_
      refine cw_draw [(0, false), (1, false), (2, false), (3, false), (4, false), (5, false), (6, false), (7, false), (8, false), (9, false), (10, false)] 11 (by kernel_rfl) ?_
      refine dw_q rfl rfl (fun _ _hx => ev_move (v := sv) s10) ?_
      refine dw_q rfl rfl (fun _ _hx => ev_move (v := (slc b9q66 0 8 8)) s11) ?_
      refine dw_q rfl rfl (fun _ _hx => ev_move (v := (i64 6)) s13) ?_
      refine dw_q rfl rfl (fun _ _hx => ev_ia_slc (r := 6) (i := 6) (by omega) Try.underlying48 ti50 rfl rfl (by omega) (by omega)) ?_
      refine dw_q (v := (slc b7q66 0 4 4)) rfl rfl (fun _ _hx => ev_load1 Try.underlying50 rfl rfl ((hm225.ext _hx).own (b9q66, .cells #[(slc b1q66 0 4 4), (slc b2q66 0 4 4), (slc b3q66 0 4 4), (slc b4q66 0 4 4), (slc b5q66 0 4 4), (slc b6q66 0 4 4), (slc b7q66 0 4 4), (slc b8q66 0 4 4)] 50 (0, 0)) (by simp)) rfl) ?_
      refine dw_q rfl rfl (fun _ _hx => ev_move (v := (i64 3)) rfl) ?_
      refine dw_q rfl rfl (fun _ _hx => ev_ia_slc (r := 3) (i := 3) (by omega) Try.underlying50 ti3 rfl rfl (by omega) (by omega)) ?_
      refine dw_q (v := (i64 13)) rfl rfl (fun _ _hx => ev_load1 Try.underlying3 rfl rfl ((hm225.ext _hx).own (b7q66, .cells (cl i64 ([2, 7, 8, 13])) 3 (0, 0)) (by simp)) (get_clD _ _ 0 (by simp))) ?_
      refine dw_q rfl rfl (fun _ _hx => ev_move (v := (i64 3)) rfl) ?_
      refine dw_q rfl rfl (fun _ _hx => ev_ia_arr (r := 3) (i := 3) (by omega) Try.underlying23 ti22 s14 rfl (by omega) (by omega)) ?_
      refine dw_q (v := (u32 (q211.getD 3 0))) rfl rfl (fun _ _hx => ev_load1 Try.underlying22 rfl rfl ((hm225.ext _hx).own (b14_6, .cells (cl u32 q211) 23 (0, 0)) (by simp)) (get_clD _ _ 0 (by first | omega | (simp only [List.length_set, List.length_append, List.length_replicate, List.length_map, List.length_cons, List.length_nil]; omega) | (simp; done) | (simp; omega)))) ?_
      refine dw_nil (fun w227 _ew227 => ?_)
      have hm227 := hm225.ext _ew227
      refine rw_q rfl (ev_indexAddr_rdv (i := 13) (g225.rd hm227) Try.underlying46 ti22 rfl rfl (by omega) (by simp)) ?_
      refine rw_n (or_store_grow (i := 13) (a := q211.getD 3 0) hm227 g225 u32_one ti22 (by omega) (by simp) rfl rfl) ?_
      rintro _ w228 ⟨Hs228, hm228, g228⟩
      replace g228 : Grow u32 22 sv ([q169.getD 0 0, q190.getD 0 0, q211.getD 0 0, q148.getD 0 0, q86.getD 1 0, q169.getD 1 0, q190.getD 1 0, q211.getD 1 0, q211.getD 2 0, q106.getD 2 0, q169.getD 2 0, q190.getD 2 0, q190.getD 3 0, q211.getD 3 0, q127.getD 3 0, q169.getD 3 0]) Hs228 := g228
      refine rw_nil ?_
      refine kBlk_normal ?_
      refine CW.abs (fun g => g 0 = (agg u8 key) ∧ g 1 = (u32 counter) ∧ g 2 = (agg u8 nonce) ∧ g 3 = (ptr b3 0) ∧ g 5 = (ptr b5 0) ∧ g 6 = (Value.slice none 0 0) ∧ g 7 = sv60 ∧ g 8 = (i64 32) ∧ g 9 = (i64 12) ∧ g 10 = sv ∧ g 11 = (slc b9q66 0 8 8) ∧ g 12 = (i64 (k : Int)) ∧ g 13 = (i64 6) ∧ g 14 = (ptr b14_6 0) ∧ g 15 = (i64 3) ∧ g 21 = (bl false) ∧ g 37 = (bl false) ∧ g 53 = (bl (decide ((k : Int) < 10))) ∧ g 57 = (bl true) ∧ g 99 = (bl true) ∧ True) ⟨s0, s1, s2, s3, s5, s6, s7, s8, s9, s10, s11, s12, s13, s14, rfl, s21, s37, s53, s57, rfl, trivial⟩ ?_
      rintro fr229 ⟨s0, s1, s2, s3, s5, s6, s7, s8, s9, s10, s11, s12, s13, s14, s15, s21, s37, s53, s57, s99, _⟩
      refine cw_region ?_
      refine rw_q rfl (ev_move (v := (i64 3)) s15) ?_
      refine rw_q (v := (i64 4)) rfl (ev_i64_add (a := 3) (b := 1) rfl rfl (by omega) (by omega)) ?_
      refine rw_q rfl (ev_assign (v := (i64 4)) rfl) ?_
      refine rw_nil ?_
      refine kThen_normal ?_
      refine cr_succ ?_
      refine cw_seq ?_
      refine cw_seq ?_
      refine cw_region ?_
      refine rw_q rfl (ev_move (v := (i64 4)) rfl) ?_
      refine rw_q rfl (ev_i64_lss (a := 4) (b := 4) rfl rfl) ?_
      refine rw_nil ?_
      refine kThen_normal ?_
      refine cw_cond_f rfl (by decide) ?_
      refine cw_exit ?_
      refine kThen_exit (kThen_exit (kBlk_hit ?_))
      refine kBlk_normal ?_
      refine cw_region ?_
      refine rw_q rfl (ev_move (v := (i64 6)) s13) ?_
      refine rw_q (v := (i64 7)) rfl (ev_i64_add (a := 6) (b := 1) rfl rfl (by omega) (by omega)) ?_
      refine rw_q rfl (ev_assign (v := (i64 7)) rfl) ?_
      refine rw_nil ?_
      refine kThen_normal ?_
      refine cr_succ ?_
      refine cw_seq ?_
      refine cw_seq ?_
      refine cw_region ?_
      refine rw_q rfl (ev_move (v := (i64 7)) rfl) ?_
      refine rw_q rfl (ev_i64_lss (a := 7) (b := 8) rfl rfl) ?_
      refine rw_nil ?_
      refine kThen_normal ?_
      refine cw_cond_t rfl (by decide) ?_
      refine cw_skip ?_
      refine kThen_normal ?_
      refine cw_seq ?_
      refine cw_block ?_
      refine cw_seq ?_
      refine cw_draw [(0, false), (1, false), (2, false), (3, false), (4, false), (5, false), (6, false), (7, false), (8, false), (9, false), (10, false), (11, false), (12, false), (13, false), (14, false), (15, false), (16, false), (17, false), (18, false), (19, false), (20, false), (21, false), (22, false), (23, false), (24, false), (25, false), (26, false), (27, false), (28, false), (29, false), (30, false), (31, false), (32, false), (33, false), (34, false), (35, false), (36, false), (37, false), (38, true)] 39 (by kernel_rfl) ?_
      refine dw_q rfl rfl (fun _ _hx => ev_move (v := sv) s10) ?_
      refine dw_q rfl rfl (fun _ _hx => ev_move (v := (slc b9q66 0 8 8)) s11) ?_
      refine dw_q rfl rfl (fun _ _hx => ev_move (v := (i64 7)) rfl) ?_
      refine dw_q rfl rfl (fun _ _hx => ev_ia_slc (r := 7) (i := 7) (by omega) Try.underlying48 ti50 rfl rfl (by omega) (by omega)) ?_
      refine dw_q (v := (slc b8q66 0 4 4)) rfl rfl (fun _ _hx => ev_load1 Try.underlying50 rfl rfl ((hm228.ext _hx).own (b9q66, .cells #[(slc b1q66 0 4 4), (slc b2q66 0 4 4), (slc b3q66 0 4 4), (slc b4q66 0 4 4), (slc b5q66 0 4 4), (slc b6q66 0 4 4), (slc b7q66 0 4 4), (slc b8q66 0 4 4)] 50 (0, 0)) (by simp)) rfl) ?_
      refine dw_q rfl rfl (fun _ _hx => ev_ia_slc (r := 0) (i := 0) (by omega) Try.underlying50 ti3 rfl rfl (by omega) (by omega)) ?_
      refine dw_q (v := (i64 3)) rfl rfl (fun _ _hx => ev_load1 Try.underlying3 rfl rfl ((hm228.ext _hx).own (b8q66, .cells (cl i64 ([3, 4, 9, 14])) 3 (0, 0)) (by simp)) (get_clD _ _ 0 (by simp))) ?_
      refine dw_q rfl rfl (fun _ _hx => ev_indexAddr_rdv (i := 3) (g228.rd (hm228.ext _hx)) Try.underlying46 ti22 rfl rfl (by omega) (by simp)) ?_
      refine dw_q (v := (u32 (q148.getD 0 0))) rfl rfl (fun _ _hx => ev_load_rdD (l := [q169.getD 0 0, q190.getD 0 0, q211.getD 0 0, q148.getD 0 0, q86.getD 1 0, q169.getD 1 0, q190.getD 1 0, q211.getD 1 0, q211.getD 2 0, q106.getD 2 0, q169.getD 2 0, q190.getD 2 0, q190.getD 3 0, q211.getD 3 0, q127.getD 3 0, q169.getD 3 0]) (i := 3) (dflt := 0) (g228.rd (hm228.ext _hx)) Try.underlying22 rfl (by omega) (by simp) rfl) ?_
      refine dw_q rfl rfl (fun _ _hx => ev_move (v := sv) s10) ?_
      refine dw_q rfl rfl (fun _ _hx => ev_move (v := (slc b9q66 0 8 8)) s11) ?_
      refine dw_q rfl rfl (fun _ _hx => ev_move (v := (i64 7)) rfl) ?_
      refine dw_q rfl rfl (fun _ _hx => ev_ia_slc (r := 7) (i := 7) (by omega) Try.underlying48 ti50 rfl rfl (by omega) (by omega)) ?_
      refine dw_q (v := (slc b8q66 0 4 4)) rfl rfl (fun _ _hx => ev_load1 Try.underlying50 rfl rfl ((hm228.ext _hx).own (b9q66, .cells #[(slc b1q66 0 4 4), (slc b2q66 0 4 4), (slc b3q66 0 4 4), (slc b4q66 0 4 4), (slc b5q66 0 4 4), (slc b6q66 0 4 4), (slc b7q66 0 4 4), (slc b8q66 0 4 4)] 50 (0, 0)) (by simp)) rfl) ?_
      refine dw_q rfl rfl (fun _ _hx => ev_ia_slc (r := 1) (i := 1) (by omega) Try.underlying50 ti3 rfl rfl (by omega) (by omega)) ?_
      refine dw_q (v := (i64 4)) rfl rfl (fun _ _hx => ev_load1 Try.underlying3 rfl rfl ((hm228.ext _hx).own (b8q66, .cells (cl i64 ([3, 4, 9, 14])) 3 (0, 0)) (by simp)) (get_clD _ _ 0 (by simp))) ?_
      refine dw_q rfl rfl (fun _ _hx => ev_indexAddr_rdv (i := 4) (g228.rd (hm228.ext _hx)) Try.underlying46 ti22 rfl rfl (by omega) (by simp)) ?_
      refine dw_q (v := (u32 (q86.getD 1 0))) rfl rfl (fun _ _hx => ev_load_rdD (l := [q169.getD 0 0, q190.getD 0 0, q211.getD 0 0, q148.getD 0 0, q86.getD 1 0, q169.getD 1 0, q190.getD 1 0, q211.getD 1 0, q211.getD 2 0, q106.getD 2 0, q169.getD 2 0, q190.getD 2 0, q190.getD 3 0, q211.getD 3 0, q127.getD 3 0, q169.getD 3 0]) (i := 4) (dflt := 0) (g228.rd (hm228.ext _hx)) Try.underlying22 rfl (by omega) (by simp) rfl) ?_
      refine dw_q rfl rfl (fun _ _hx => ev_move (v := sv) s10) ?_
      refine dw_q rfl rfl (fun _ _hx => ev_move (v := (slc b9q66 0 8 8)) s11) ?_
      refine dw_q rfl rfl (fun _ _hx => ev_move (v := (i64 7)) rfl) ?_
      refine dw_q rfl rfl (fun _ _hx => ev_ia_slc (r := 7) (i := 7) (by omega) Try.underlying48 ti50 rfl rfl (by omega) (by omega)) ?_
      refine dw_q (v := (slc b8q66 0 4 4)) rfl rfl (fun _ _hx => ev_load1 Try.underlying50 rfl rfl ((hm228.ext _hx).own (b9q66, .cells #[(slc b1q66 0 4 4), (slc b2q66 0 4 4), (slc b3q66 0 4 4), (slc b4q66 0 4 4), (slc b5q66 0 4 4), (slc b6q66 0 4 4), (slc b7q66 0 4 4), (slc b8q66 0 4 4)] 50 (0, 0)) (by simp)) rfl) ?_
      refine dw_q rfl rfl (fun _ _hx => ev_ia_slc (r := 2) (i := 2) (by omega) Try.underlying50 ti3 rfl rfl (by omega) (by omega)) ?_
      refine dw_q (v := (i64 9)) rfl rfl (fun _ _hx => ev_load1 Try.underlying3 rfl rfl ((hm228.ext _hx).own (b8q66, .cells (cl i64 ([3, 4, 9, 14])) 3 (0, 0)) (by simp)) (get_clD _ _ 0 (by simp))) ?_
      refine dw_q rfl rfl (fun _ _hx => ev_indexAddr_rdv (i := 9) (g228.rd (hm228.ext _hx)) Try.underlying46 ti22 rfl rfl (by omega) (by simp)) ?_
      refine dw_q (v := (u32 (q106.getD 2 0))) rfl rfl (fun _ _hx => ev_load_rdD (l := [q169.getD 0 0, q190.getD 0 0, q211.getD 0 0, q148.getD 0 0, q86.getD 1 0, q169.getD 1 0, q190.getD 1 0, q211.getD 1 0, q211.getD 2 0, q106.getD 2 0, q169.getD 2 0, q190.getD 2 0, q190.getD 3 0, q211.getD 3 0, q127.getD 3 0, q169.getD 3 0]) (i := 9) (dflt := 0) (g228.rd (hm228.ext _hx)) Try.underlying22 rfl (by omega) (by simp) rfl) ?_
      refine dw_q rfl rfl (fun _ _hx => ev_move (v := sv) s10) ?_
      refine dw_q rfl rfl (fun _ _hx => ev_move (v := (slc b9q66 0 8 8)) s11) ?_
      refine dw_q rfl rfl (fun _ _hx => ev_move (v := (i64 7)) rfl) ?_
      refine dw_q rfl rfl (fun _ _hx => ev_ia_slc (r := 7) (i := 7) (by omega) Try.underlying48 ti50 rfl rfl (by omega) (by omega)) ?_
      refine dw_q (v := (slc b8q66 0 4 4)) rfl rfl (fun _ _hx => ev_load1 Try.underlying50 rfl rfl ((hm228.ext _hx).own (b9q66, .cells #[(slc b1q66 0 4 4), (slc b2q66 0 4 4), (slc b3q66 0 4 4), (slc b4q66 0 4 4), (slc b5q66 0 4 4), (slc b6q66 0 4 4), (slc b7q66 0 4 4), (slc b8q66 0 4 4)] 50 (0, 0)) (by simp)) rfl) ?_
      refine dw_q rfl rfl (fun _ _hx => ev_ia_slc (r := 3) (i := 3) (by omega) Try.underlying50 ti3 rfl rfl (by omega) (by omega)) ?_
      refine dw_q (v := (i64 14)) rfl rfl (fun _ _hx => ev_load1 Try.underlying3 rfl rfl ((hm228.ext _hx).own (b8q66, .cells (cl i64 ([3, 4, 9, 14])) 3 (0, 0)) (by simp)) (get_clD _ _ 0 (by simp))) ?_
      refine dw_q rfl rfl (fun _ _hx => ev_indexAddr_rdv (i := 14) (g228.rd (hm228.ext _hx)) Try.underlying46 ti22 rfl rfl (by omega) (by simp)) ?_
      refine dw_q (v := (u32 (q127.getD 3 0))) rfl rfl (fun _ _hx => ev_load_rdD (l := [q169.getD 0 0, q190.getD 0 0, q211.getD 0 0, q148.getD 0 0, q86.getD 1 0, q169.getD 1 0, q190.getD 1 0, q211.getD 1 0, q211.getD 2 0, q106.getD 2 0, q169.getD 2 0, q190.getD 2 0, q190.getD 3 0, q211.getD 3 0, q127.getD 3 0, q169.getD 3 0]) (i := 14) (dflt := 0) (g228.rd (hm228.ext _hx)) Try.underlying22 rfl (by omega) (by simp) rfl) ?_
      refine dw_q rfl rfl (fun _ _hx => ev_build_cl u32 [(q148.getD 0 0), (q86.getD 1 0), (q106.getD 2 0), (q127.getD 3 0)] u32_one ti23 Try.underlying23 ti22 rfl rfl) ?_
      obtain ⟨q232, hq232⟩ : ∃ q, q = quarterL left3 (q148.getD 0 0) (q86.getD 1 0) (q106.getD 2 0) (q127.getD 3 0) := ⟨_, rfl⟩
      have hq232l : q232.length = 4 := by rw [hq232]; rfl
      refine dw_x (v := (agg u32 q232)) rfl rfl (fun w230 _ew230 => OpR.mono (opR_call Try.func10 bd10 nm10 (args1 rfl) (c_quarter3 (q148.getD 0 0) (q86.getD 1 0) (q106.getD 2 0) (q127.getD 3 0) _)) (by rintro _ w231 ⟨rfl, _ew231⟩; exact ⟨by rw [hq232], _ew231⟩)) ?_
      refine dw_c rfl rfl (fun w233 _ew233 => ?_)
      have hm233 := hm228.ext _ew233
      refine OpR.mono (or_alloc_agg hm233 ti23) ?_
      rintro _ w234 ⟨b14_7, rfl, _ew234, hm234⟩
      refine ⟨_ew234, ?_⟩
      refine dw_nil (fun w235 _ew235 => ?_)
      have hm235 := hm234.ext _ew235
      refine rw_n (or_store_agg (f := u32) (l := q232) u32_one ti23 rfl rfl (by first | omega | (simp only [List.length_set, List.length_append, List.length_replicate, List.length_map, List.length_cons, List.length_nil]; omega) | (simp; done) | (simp; omega)) hm235.h0 (by rw [size_cl]; first | omega | (simp only [List.length_set, List.length_append, List.length_replicate, List.length_map, List.length_cons, List.length_nil]; omega) | (simp; done) | (simp; omega)) rfl) ?_
      rintro _ w236 uq236
      have hm236 := hm235.upd0 uq236
      refine rw_nil ?_
      refine kThen_normal ?_
      have hm237 := Mem.drop ([(b14_6, .cells (cl u32 q211) 23 (0, 0))]) _ (Mem.pick2 [_] Hs228 [_] _ hm236)
      refine CW.abs (fun g => g 0 = (agg u8 key) ∧ g 1 = (u32 counter) ∧ g 2 = (agg u8 nonce) ∧ g 3 = (ptr b3 0) ∧ g 5 = (ptr b5 0) ∧ g 6 = (Value.slice none 0 0) ∧ g 7 = sv60 ∧ g 8 = (i64 32) ∧ g 9 = (i64 12) ∧ g 10 = sv ∧ g 11 = (slc b9q66 0 8 8) ∧ g 12 = (i64 (k : Int)) ∧ g 13 = (i64 7) ∧ g 14 = (ptr b14_7 0) ∧ g 15 = (i64 4) ∧ g 21 = (bl false) ∧ g 37 = (bl false) ∧ g 53 = (bl (decide ((k : Int) < 10))) ∧ g 57 = (bl true) ∧ g 99 = (bl false) ∧ True) ⟨s0, s1, s2, s3, s5, s6, s7, s8, s9, s10, s11, s12, rfl, rfl, rfl, s21, s37, s53, rfl, rfl, trivial⟩ ?_
      rintro fr238 ⟨s0, s1, s2, s3, s5, s6, s7, s8, s9, s10, s11, s12, s13, s14, s15, s21, s37, s53, s57, s99, _⟩
      refine cw_seq ?_
      refine cw_region ?_
      refine rw_q rfl (ev_assign (v := (i64 0)) rfl) ?_
      refine rw_nil ?_
      refine kThen_normal ?_
      refine cw_block' ?_
      refine cw_rounds 5 ?_
      refine cr_succ ?_
      refine cw_seq ?_
      refine cw_seq ?_
      refine cw_region ?_
      refine rw_q rfl (ev_move (v := (i64 0)) rfl) ?_
      refine rw_q rfl (ev_i64_lss (a := 0) (b := 4) rfl rfl) ?_
      refine rw_nil ?_
      refine kThen_normal ?_
      refine cw_cond_t rfl (by decide) ?_
      refine cw_skip ?_
      refine kThen_normal ?_
      refine cw_seq ?_
      refine cw_block ?_
      refine cw_draw [(0, false), (1, false), (2, false), (3, false), (4, false), (5, false), (6, false), (7, false), (8, false), (9, false), (10, false)] 11 (by kernel_rfl) ?_
      refine dw_q rfl rfl (fun _ _hx => ev_move (v := sv) s10) ?_
      refine dw_q rfl rfl (fun _ _hx => ev_move (v := (slc b9q66 0 8 8)) s11) ?_
      refine dw_q rfl rfl (fun _ _hx => ev_move (v := (i64 7)) s13) ?_
      refine dw_q rfl rfl (fun _ _hx => ev_ia_slc (r := 7) (i := 7) (by omega) Try.underlying48 ti50 rfl rfl (by omega) (by omega)) ?_
      refine dw_q (v := (slc b8q66 0 4 4)) rfl rfl (fun _ _hx => ev_load1 Try.underlying50 rfl rfl ((hm237.ext _hx).own (b9q66, .cells #[(slc b1q66 0 4 4), (slc b2q66 0 4 4), (slc b3q66 0 4 4), (slc b4q66 0 4 4), (slc b5q66 0 4 4), (slc b6q66 0 4 4), (slc b7q66 0 4 4), (slc b8q66 0 4 4)] 50 (0, 0)) (by simp)) rfl) ?_
      refine dw_q rfl rfl (fun _ _hx => ev_move (v := (i64 0)) rfl) ?_
      refine dw_q rfl rfl (fun _ _hx => ev_ia_slc (r := 0) (i := 0) (by omega) Try.underlying50 ti3 rfl rfl (by omega) (by omega)) ?_
      refine dw_q (v := (i64 3)) rfl rfl (fun _ _hx => ev_load1 Try.underlying3 rfl rfl ((hm237.ext _hx).own (b8q66, .cells (cl i64 ([3, 4, 9, 14])) 3 (0, 0)) (by simp)) (get_clD _ _ 0 (by simp))) ?_
      refine dw_q rfl rfl (fun _ _hx => ev_move (v := (i64 0)) rfl) ?_
      refine dw_q rfl rfl (fun _ _hx => ev_ia_arr (r := 0) (i := 0) (by omega) Try.underlying23 ti22 s14 rfl (by omega) (by omega)) ?_
      refine dw_q (v := (u32 (q232.getD 0 0))) rfl rfl (fun _ _hx => ev_load1 Try.underlying22 rfl rfl (hm237.ext _hx).h0 (get_clD _ _ 0 (by first | omega | (simp only [List.length_set, List.length_append, List.length_replicate, List.length_map, List.length_cons, List.length_nil]; omega) | (simp; done) | (simp; omega)))) ?_
      refine dw_nil (fun w239 _ew239 => ?_)
      have hm239 := hm237.ext _ew239
      refine rw_q rfl (ev_indexAddr_rdv (i := 3) (g228.rd (Mem.pick [_] Hs228 _ hm239)) Try.underlying46 ti22 rfl rfl (by omega) (by simp)) ?_
      refine rw_n (or_store_grow (i := 3) (a := q232.getD 0 0) (Mem.pick [_] Hs228 _ hm239) g228 u32_one ti22 (by omega) (by simp) rfl rfl) ?_
      rintro _ w240 ⟨Hs240, hm240, g240⟩
      replace g240 : Grow u32 22 sv ([q169.getD 0 0, q190.getD 0 0, q211.getD 0 0, q232.getD 0 0, q86.getD 1 0, q169.getD 1 0, q190.getD 1 0, q211.getD 1 0, q211.getD 2 0, q106.getD 2 0, q169.getD 2 0, q190.getD 2 0, q190.getD 3 0, q211.getD 3 0, q127.getD 3 0, q169.getD 3 0]) Hs240 := g240
      refine rw_nil ?_
      refine kBlk_normal ?_
      refine CW.abs (fun g => g 0 = (agg u8 key) ∧ g 1 = (u32 counter) ∧ g 2 = (agg u8 nonce) ∧ g 3 = (ptr b3 0) ∧ g 5 = (ptr b5 0) ∧ g 6 = (Value.slice none 0 0) ∧ g 7 = sv60 ∧ g 8 = (i64 32) ∧ g 9 = (i64 12) ∧ g 10 = sv ∧ g 11 = (slc b9q66 0 8 8) ∧ g 12 = (i64 (k : Int)) ∧ g 13 = (i64 7) ∧ g 14 = (ptr b14_7 0) ∧ g 15 = (i64 0) ∧ g 21 = (bl false) ∧ g 37 = (bl false) ∧ g 53 = (bl (decide ((k : Int) < 10))) ∧ g 57 = (bl true) ∧ g 99 = (bl true) ∧ True) ⟨s0, s1, s2, s3, s5, s6, s7, s8, s9, s10, s11, s12, s13, s14, rfl, s21, s37, s53, s57, rfl, trivial⟩ ?_
      rintro fr241 ⟨s0, s1, s2, s3, s5, s6, s7, s8, s9, s10, s11, s12, s13, s14, s15, s21, s37, s53, s57, s99, _⟩
      refine cw_region ?_
      refine rw_q rfl (ev_move (v := (i64 0)) s15) ?_
      refine rw_q (v := (i64 1)) rfl (ev_i64_add (a := 0) (b := 1) rfl rfl (by omega) (by omega)) ?_
      refine rw_q rfl (ev_assign (v := (i64 1)) rfl) ?_
      refine rw_nil ?_
      refine kThen_normal ?_
      refine cr_succ ?_
      refine cw_seq ?_
      refine cw_seq ?_
      refine cw_region ?_
      refine rw_q rfl (ev_move (v := (i64 1)) rfl) ?_
      refine rw_q rfl (ev_i64_lss (a := 1) (b := 4) rfl rfl) ?_
      refine rw_nil ?_
      refine kThen_normal ?_
      refine cw_cond_t rfl (by decide) ?_
      refine cw_skip ?_
      refine kThen_normal ?_
      refine cw_seq ?_
      refine cw_block ?_
      refine cw_draw [(0, false), (1, false), (2, false), (3, false), (4, false), (5, false), (6, false), (7, false), (8, false), (9, false), (10, false)] 11 (by kernel_rfl) ?_
      refine dw_q rfl rfl (fun _ _hx => ev_move (v := sv) s10) ?_
      refine dw_q rfl rfl (fun _ _hx => ev_move (v := (slc b9q66 0 8 8)) s11) ?_
      refine dw_q rfl rfl (fun _ _hx => ev_move (v := (i64 7)) s13) ?_
      refine dw_q rfl rfl (fun _ _hx => ev_ia_slc (r := 7) (i := 7) (by omega) Try.underlying48 ti50 rfl rfl (by omega) (by omega)) ?_
      refine dw_q (v := (slc b8q66 0 4 4)) rfl rfl (fun _ _hx => ev_load1 Try.underlying50 rfl rfl ((hm240.ext _hx).own (b9q66, .cells #[(slc b1q66 0 4 4), (slc b2q66 0 4 4), (slc b3q66 0 4 4), (slc b4q66 0 4 4), (slc b5q66 0 4 4), (slc b6q66 0 4 4), (slc b7q66 0 4 4), (slc b8q66 0 4 4)] 50 (0, 0)) (by simp)) rfl) ?_
      refine dw_q rfl rfl (fun _ _hx => ev_move (v := (i64 1)) rfl) ?_
      refine dw_q rfl rfl (fun _ _hx => ev_ia_slc (r := 1) (i := 1) (by omega) Try.underlying50 ti3 rfl rfl (by omega) (by omega)) ?_
      refine dw_q (v := (i64 4)) rfl rfl (fun _ _hx => ev_load1 Try.underlying3 rfl rfl ((hm240.ext _hx).own (b8q66, .cells (cl i64 ([3, 4, 9, 14])) 3 (0, 0)) (by simp)) (get_clD _ _ 0 (by simp))) ?_
      refine dw_q rfl rfl (fun _ _hx => ev_move (v := (i64 1)) rfl) ?_
      refine dw_q rfl rfl (fun _ _hx => ev_ia_arr (r := 1) (i := 1) (by omega) Try.underlying23 ti22 s14 rfl (by omega) (by omega)) ?_
      refine dw_q (v := (u32 (q232.getD 1 0))) rfl rfl (fun _ _hx => ev_load1 Try.underlying22 rfl rfl ((hm240.ext _hx).own (b14_7, .cells (cl u32 q232) 23 (0, 0)) (by simp)) (get_clD _ _ 0 (by first | omega | (simp only [List.length_set, List.length_append, List.length_replicate, List.length_map, List.length_cons, List.length_nil]; omega) | (simp; done) | (simp; omega)))) ?_
      refine dw_nil (fun w242 _ew242 => ?_)
      have hm242 := hm240.ext _ew242
      refine rw_q rfl (ev_indexAddr_rdv (i := 4) (g240.rd hm242) Try.underlying46 ti22 rfl rfl (by omega) (by simp)) ?_
      refine rw_n (or_store_grow (i := 4) (a := q232.getD 1 0) hm242 g240 u32_one ti22 (by omega) (by simp) rfl rfl) ?_
      rintro _ w243 ⟨Hs243, hm243, g243⟩
      replace g243 : Grow u32 22 sv ([q169.getD 0 0, q190.getD 0 0, q211.getD 0 0, q232.getD 0 0, q232.getD 1 0, q169.getD 1 0, q190.getD 1 0, q211.getD 1 0, q211.getD 2 0, q106.getD 2 0, q169.getD 2 0, q190.getD 2 0, q190.getD 3 0, q211.getD 3 0, q127.getD 3 0, q169.getD 3 0]) Hs243 := g243
      refine rw_nil ?_
      refine kBlk_normal ?_
      refine CW.abs (fun g => g 0 = (agg u8 key) ∧ g 1 = (u32 counter) ∧ g 2 = (agg u8 nonce) ∧ g 3 = (ptr b3 0) ∧ g 5 = (ptr b5 0) ∧ g 6 = (Value.slice none 0 0) ∧ g 7 = sv60 ∧ g 8 = (i64 32) ∧ g 9 = (i64 12) ∧ g 10 = sv ∧ g 11 = (slc b9q66 0 8 8) ∧ g 12 = (i64 (k : Int)) ∧ g 13 = (i64 7) ∧ g 14 = (ptr b14_7 0) ∧ g 15 = (i64 1) ∧ g 21 = (bl false) ∧ g 37 = (bl false) ∧ g 53 = (bl (decide ((k : Int) < 10))) ∧ g 57 = (bl true) ∧ g 99 = (bl true) ∧ True) ⟨s0, s1, s2, s3, s5, s6, s7, s8, s9, s10, s11, s12, s13, s14, rfl, s21, s37, s53, s57, rfl, trivial⟩ ?_
      rintro fr244 ⟨s0, s1, s2, s3, s5, s6, s7, s8, s9, s10, s11, s12, s13, s14, s15, s21, s37, s53, s57, s99, _⟩
      refine cw_region ?_
      refine rw_q rfl (ev_move (v := (i64 1)) s15) ?_
      refine rw_q (v := (i64 2)) rfl (ev_i64_add (a := 1) (b := 1) rfl rfl (by omega) (by omega)) ?_
      refine rw_q rfl (ev_assign (v := (i64 2)) rfl) ?_
      refine rw_nil ?_
      refine kThen_normal ?_
      refine cr_succ ?_
      refine cw_seq ?_
      refine cw_seq ?_
      refine cw_region ?_
      refine rw_q rfl (ev_move (v := (i64 2)) rfl) ?_
      refine rw_q rfl (ev_i64_lss (a := 2) (b := 4) rfl rfl) ?_
      refine rw_nil ?_
      refine kThen_normal ?_
      refine cw_cond_t rfl (by decide) ?_
      refine cw_skip ?_
      refine kThen_normal ?_
      refine cw_seq ?_
      refine cw_block ?_
      refine cw_draw [(0, false), (1, false), (2, false), (3, false), (4, false), (5, false), (6, false), (7, false), (8, false), (9, false), (10, false)] 11 (by kernel_rfl) ?_
      refine dw_q rfl rfl (fun _ _hx => ev_move (v := sv) s10) ?_
      refine dw_q rfl rfl (fun _ _hx => ev_move (v := (slc b9q66 0 8 8)) s11) ?_
      refine dw_q rfl rfl (fun _ _hx => ev_move (v := (i64 7)) s13) ?_
      refine dw_q rfl rfl (fun _ _hx => ev_ia_slc (r := 7) (i := 7) (by omega) Try.underlying48 ti50 rfl rfl (by omega) (by omega)) ?_
      refine dw_q (v := (slc b8q66 0 4 4)) rfl rfl (fun _ _hx => ev_load1 Try.underlying50 rfl rfl ((hm243.ext _hx).own (b9q66, .cells #[(slc b1q66 0 4 4), (slc b2q66 0 4 4), (slc b3q66 0 4 4), (slc b4q66 0 4 4), (slc b5q66 0 4 4), (slc b6q66 0 4 4), (slc b7q66 0 4 4), (slc b8q66 0 4 4)] 50 (0, 0)) (by simp)) rfl) ?_
      refine dw_q rfl rfl (fun _ _hx => ev_move (v := (i64 2)) rfl) ?_
      refine dw_q rfl rfl (fun _ _hx => ev_ia_slc (r := 2) (i := 2) (by omega) Try.underlying50 ti3 rfl rfl (by omega) (by omega)) ?_
      refine dw_q (v := (i64 9)) rfl rfl (fun _ _hx => ev_load1 Try.underlying3 rfl rfl ((hm243.ext _hx).own (b8q66, .cells (cl i64 ([3, 4, 9, 14])) 3 (0, 0)) (by simp)) (get_clD _ _ 0 (by simp))) ?_
      refine dw_q rfl rfl (fun _ _hx => ev_move (v := (i64 2)) rfl) ?_
      refine dw_q rfl rfl (fun _ _hx => ev_ia_arr (r := 2) (i := 2) (by omega) Try.underlying23 ti22 s14 rfl (by omega) (by omega)) ?_
      refine dw_q (v := (u32 (q232.getD 2 0))) rfl rfl (fun _ _hx => ev_load1 Try.underlying22 rfl rfl ((hm243.ext _hx).own (b14_7, .cells (cl u32 q232) 23 (0, 0)) (by simp)) (get_clD _ _ 0 (by first | omega | (simp only [List.length_set, List.length_append, List.length_replicate, List.length_map, List.length_cons, List.length_nil]; omega) | (simp; done) | (simp; omega)))) ?_
      refine dw_nil (fun w245 _ew245 => ?_)
      have hm245 := hm243.ext _ew245
      refine rw_q rfl (ev_indexAddr_rdv (i := 9) (g243.rd hm245) Try.underlying46 ti22 rfl rfl (by omega) (by simp)) ?_
      refine rw_n (or_store_grow (i := 9) (a := q232.getD 2 0) hm245 g243 u32_one ti22 (by omega) (by simp) rfl rfl) ?_
      rintro _ w246 ⟨Hs246, hm246, g246⟩
      replace g246 : Grow u32 22 sv ([q169.getD 0 0, q190.getD 0 0, q211.getD 0 0, q232.getD 0 0, q232.getD 1 0, q169.getD 1 0, q190.getD 1 0, q211.getD 1 0, q211.getD 2 0, q232.getD 2 0, q169.getD 2 0, q190.getD 2 0, q190.getD 3 0, q211.getD 3 0, q127.getD 3 0, q169.getD 3 0]) Hs246 := g246
      refine rw_nil ?_
      refine kBlk_normal ?_
      refine CW.abs (fun g => g 0 = (agg u8 key) ∧ g 1 = (u32 counter) ∧ g 2 = (agg u8 nonce) ∧ g 3 = (ptr b3 0) ∧ g 5 = (ptr b5 0) ∧ g 6 = (Value.slice none 0 0) ∧ g 7 = sv60 ∧ g 8 = (i64 32) ∧ g 9 = (i64 12) ∧ g 10 = sv ∧ g 11 = (slc b9q66 0 8 8) ∧ g 12 = (i64 (k : Int)) ∧ g 13 = (i64 7) ∧ g 14 = (ptr b14_7 0) ∧ g 15 = (i64 2) ∧ g 21 = (bl false) ∧ g 37 = (bl false) ∧ g 53 = (bl (decide ((k : Int) < 10))) ∧ g 57 = (bl true) ∧ g 99 = (bl true) ∧ True) ⟨s0, s1, s2, s3, s5, s6, s7, s8, s9, s10, s11, s12, s13, s14, rfl, s21, s37, s53, s57, rfl, trivial⟩ ?_
      rintro fr247 ⟨s0, s1, s2, s3, s5, s6, s7, s8, s9, s10, s11, s12, s13, s14, s15, s21, s37, s53, s57, s99, _⟩
      refine cw_region ?_
      refine rw_q rfl (ev_move (v := (i64 2)) s15) ?_
      refine rw_q (v := (i64 3)) rfl (ev_i64_add (a := 2) (b := 1) rfl rfl (by omega) (by omega)) ?_
      refine rw_q rfl (ev_assign (v := (i64 3)) rfl) ?_
      refine rw_nil ?_
      refine kThen_normal ?_
      refine cr_succ ?_
      refine cw_seq ?_
      refine cw_seq ?_
      refine cw_region ?_
      refine rw_q rfl (ev_move (v := (i64 3)) rfl) ?_
      refine rw_q rfl (ev_i64_lss (a := 3) (b := 4) rfl rfl) ?_
      refine rw_nil ?_
      refine kThen_normal ?_
      refine cw_cond_t rfl (by decide) ?_
      refine cw_skip ?_
      refine kThen_normal ?_
      refine cw_seq ?_
      refine cw_block ?_
      refine cw_draw [(0, false), (1, false), (2, false), (3, false), (4, false), (5, false), (6, false), (7, false), (8, false), (9, false), (10, false)] 11 (by kernel_rfl) ?_
      refine dw_q rfl rfl (fun _ _hx => ev_move (v := sv) s10) ?_
      refine dw_q rfl rfl (fun _ _hx => ev_move (v := (slc b9q66 0 8 8)) s11) ?_
      refine dw_q rfl rfl (fun _ _hx => ev_move (v := (i64 7)) s13) ?_
      refine dw_q rfl rfl (fun _ _hx => ev_ia_slc (r := 7) (i := 7) (by omega) Try.underlying48 ti50 rfl rfl (by omega) (by omega)) ?_
      refine dw_q (v := (slc b8q66 0 4 4)) rfl rfl (fun _ _hx => ev_load1 Try.underlying50 rfl rfl ((hm246.ext _hx).own (b9q66, .cells #[(slc b1q66 0 4 4), (slc b2q66 0 4 4), (slc b3q66 0 4 4), (slc b4q66 0 4 4), (slc b5q66 0 4 4), (slc b6q66 0 4 4), (slc b7q66 0 4 4), (slc b8q66 0 4 4)] 50 (0, 0)) (by simp)) rfl) ?_
      refine dw_q rfl rfl (fun _ _hx => ev_move (v := (i64 3)) rfl) ?_
      refine dw_q rfl rfl (fun _ _hx => ev_ia_slc (r := 3) (i := 3) (by omega) Try.underlying50 ti3 rfl rfl (by omega) (by omega)) ?_
      refine dw_q (v := (i64 14)) rfl rfl (fun _ _hx => ev_load1 Try.underlying3 rfl rfl ((hm246.ext _hx).own (b8q66, .cells (cl i64 ([3, 4, 9, 14])) 3 (0, 0)) (by simp)) (get_clD _ _ 0 (by simp))) ?_
      refine dw_q rfl rfl (fun _ _hx => ev_move (v := (i64 3)) rfl) ?_
      refine dw_q rfl rfl (fun _ _hx => ev_ia_arr (r := 3) (i := 3) (by omega) Try.underlying23 ti22 s14 rfl (by omega) (by omega)) ?_
      refine dw_q (v := (u32 (q232.getD 3 0))) rfl rfl (fun _ _hx => ev_load1 Try.underlying22 rfl rfl ((hm246.ext _hx).own (b14_7, .cells (cl u32 q232) 23 (0, 0)) (by simp)) (get_clD _ _ 0 (by first | omega | (simp only [List.length_set, List.length_append, List.length_replicate, List.length_map, List.length_cons, List.length_nil]; omega) | (simp; done) | (simp; omega)))) ?_
      refine dw_nil (fun w248 _ew248 => ?_)
      have hm248 := hm246.ext _ew248
      refine rw_q rfl (ev_indexAddr_rdv (i := 14) (g246.rd hm248) Try.underlying46 ti22 rfl rfl (by omega) (by simp)) ?_
      refine rw_n (or_store_grow (i := 14) (a := q232.getD 3 0) hm248 g246 u32_one ti22 (by omega) (by simp) rfl rfl) ?_
      rintro _ w249 ⟨Hs249, hm249, g249⟩
      replace g249 : Grow u32 22 sv ([q169.getD 0 0, q190.getD 0 0, q211.getD 0 0, q232.getD 0 0, q232.getD 1 0, q169.getD 1 0, q190.getD 1 0, q211.getD 1 0, q211.getD 2 0, q232.getD 2 0, q169.getD 2 0, q190.getD 2 0, q190.getD 3 0, q211.getD 3 0, q232.getD 3 0, q169.getD 3 0]) Hs249 := g249
      refine rw_nil ?_
      refine kBlk_normal ?_
      refine CW.abs (fun g => g 0 = (agg u8 key) ∧ g 1 = (u32 counter) ∧ g 2 = (agg u8 nonce) ∧ g 3 = (ptr b3 0) ∧ g 5 = (ptr b5 0) ∧ g 6 = (Value.slice none 0 0) ∧ g 7 = sv60 ∧ g 8 = (i64 32) ∧ g 9 = (i64 12) ∧ g 10 = sv ∧ g 11 = (slc b9q66 0 8 8) ∧ g 12 = (i64 (k : Int)) ∧ g 13 = (i64 7) ∧ g 14 = (ptr b14_7 0) ∧ g 15 = (i64 3) ∧ g 21 = (bl false) ∧ g 37 = (bl false) ∧ g 53 = (bl (decide ((k : Int) < 10))) ∧ g 57 = (bl true) ∧ g 99 = (bl true) ∧ True) ⟨s0, s1, s2, s3, s5, s6, s7, s8, s9, s10, s11, s12, s13, s14, rfl, s21, s37, s53, s57, rfl, trivial⟩ ?_
      rintro fr250 ⟨s0, s1, s2, s3, s5, s6, s7, s8, s9, s10, s11, s12, s13, s14, s15, s21, s37, s53, s57, s99, _⟩
      refine cw_region ?_
      refine rw_q rfl (ev_move (v := (i64 3)) s15) ?_
      refine rw_q (v := (i64 4)) rfl (ev_i64_add (a := 3) (b := 1) rfl rfl (by omega) (by omega)) ?_
      refine rw_q rfl (ev_assign (v := (i64 4)) rfl) ?_
      refine rw_nil ?_
      refine kThen_normal ?_
      refine cr_succ ?_
      refine cw_seq ?_
      refine cw_seq ?_
      refine cw_region ?_
      refine rw_q rfl (ev_move (v := (i64 4)) rfl) ?_
      refine rw_q rfl (ev_i64_lss (a := 4) (b := 4) rfl rfl) ?_
      refine rw_nil ?_
      refine kThen_normal ?_
      refine cw_cond_f rfl (by decide) ?_
      refine cw_exit ?_
      refine kThen_exit (kThen_exit (kBlk_hit ?_))
      refine kBlk_normal ?_
      refine cw_region ?_
      refine rw_q rfl (ev_move (v := (i64 7)) s13) ?_
      refine rw_q (v := (i64 8)) rfl (ev_i64_add (a := 7) (b := 1) rfl rfl (by omega) (by omega)) ?_
      refine rw_q rfl (ev_assign (v := (i64 8)) rfl) ?_
      refine rw_nil ?_
      refine kThen_normal ?_
      refine cr_succ ?_
      refine cw_seq ?_
      refine cw_seq ?_
      refine cw_region ?_
      refine rw_q rfl (ev_move (v := (i64 8)) rfl) ?_
      refine rw_q rfl (ev_i64_lss (a := 8) (b := 8) rfl rfl) ?_
      refine rw_nil ?_
      refine kThen_normal ?_
      refine cw_cond_f rfl (by decide) ?_
      refine cw_exit ?_
      refine kThen_exit (kThen_exit (kBlk_hit ?_))
      refine kBlk_normal ?_
      refine cw_region ?_
      refine rw_q rfl (ev_move (v := (i64 (k : Int))) s12) ?_
      refine rw_q rfl (ev_i64_add (b := 1) rfl rfl (by omega) (by omega)) ?_
      refine rw_q rfl (ev_assign (v := (i64 ((k : Int) + 1))) rfl) ?_
      refine rw_nil ?_
      refine kThen_normal ?_
      have hvn : [q169.getD 0 0, q190.getD 0 0, q211.getD 0 0, q232.getD 0 0, q232.getD 1 0, q169.getD 1 0, q190.getD 1 0, q211.getD 1 0, q211.getD 2 0, q232.getD 2 0, q169.getD 2 0, q190.getD 2 0, q190.getD 3 0, q211.getD 3 0, q232.getD 3 0, q169.getD 3 0] = rounds dblR (k + 1) (beginR wordRL key counter nonce) := by show _ = dblR (rounds dblR k (beginR wordRL key counter nonce)); rw [← hv, hq232, hq211, hq190, hq169, hq148, hq127, hq106, hq86]; rfl
      have hm251 := Mem.drop ([(b14_7, .cells (cl u32 q232) 23 (0, 0))]) _ (Mem.pick Hs249 [_] _ hm249)
      exact ⟨⟨k + 1, [q169.getD 0 0, q190.getD 0 0, q211.getD 0 0, q232.getD 0 0, q232.getD 1 0, q169.getD 1 0, q190.getD 1 0, q211.getD 1 0, q211.getD 2 0, q232.getD 2 0, q169.getD 2 0, q190.getD 2 0, q190.getD 3 0, q211.getD 3 0, q232.getD 3 0, q169.getD 3 0], sv, Hs249, (by omega), rfl, hvn, g249, s0, s1, s2, s3, s5, s6, s7, s8, s9, s10, s11, rfl, s21, s37, hm251⟩, meas rfl z12 (by omega) (by omega)⟩
    · -- false
      have hc83p := of_decide_eq_false hc83
      obtain rfl : k = 10 := by omega
      subst hv
      have hR := rounds_dblR_length 10 (beginR wordRL key counter nonce) rfl
      refine cw_exit ?_
      refine kThen_exit (kThen_exit (kBlk_hit ?_))
      refine cw_seq ?_
      refine cw_region ?_
      refine rw_c rfl (or_buildSlice_cl u8 [] u8_one hm82 Try.underlying34 ti5 rfl (by simp [pairs]) rfl) ?_
      rintro _ w252 ⟨b114, rfl, _ew252, hm252⟩
      refine rw_q rfl (ev_assign (v := (slc b114 0 0 0)) rfl) ?_
      refine rw_nil ?_
      refine kThen_normal ?_
      refine cw_seq ?_
      refine cw_seq ?_
      refine cw_region ?_
      refine rw_q rfl (ev_assign (v := (i64 0)) rfl) ?_
      refine rw_nil ?_
      refine kThen_normal ?_
      refine cw_block ?_
      refine cw_loop (fun g wv => ∃ (k2 : Nat) (ol : List (BitVec 8)) (so : Value) (Ho : List (Nat × Obj)), (k2 ≤ 16) ∧ (ol = (List.range k2).flatMap (wordBytes (rounds dblR 10 (beginR wordRL key counter nonce)) (beginR wordRL key counter nonce))) ∧ (Grow u8 5 so ol Ho) ∧ g 0 = (agg u8 key) ∧ g 1 = (u32 counter) ∧ g 2 = (agg u8 nonce) ∧ g 3 = (ptr b3 0) ∧ g 5 = (ptr b5 0) ∧ g 6 = (Value.slice none 0 0) ∧ g 7 = sv60 ∧ g 8 = (i64 32) ∧ g 9 = (i64 12) ∧ g 10 = sv ∧ g 11 = (slc b9q66 0 8 8) ∧ g 12 = (i64 (10 : Int)) ∧ g 16 = so ∧ g 17 = (i64 (k2 : Int)) ∧ g 21 = (bl false) ∧ g 37 = (bl false) ∧ g 53 = (bl (decide ((10 : Int) < 10))) ∧ Mem wv (restOf w0) (Ho ++ (Hv ++ (Hs60 ++ ([]))))) (fun g _ => (16 - RowKit.intOf (g 17)).toNat) ?_ ?_
      have hm253 := Mem.drop ([(b9q66, .cells #[(slc b1q66 0 4 4), (slc b2q66 0 4 4), (slc b3q66 0 4 4), (slc b4q66 0 4 4), (slc b5q66 0 4 4), (slc b6q66 0 4 4), (slc b7q66 0 4 4), (slc b8q66 0 4 4)] 50 (0, 0))]) _ (Mem.pick2 [_] Hv [_] _ hm252)
      have hm254 := Mem.drop ([(b8q66, .cells (cl i64 ([3, 4, 9, 14])) 3 (0, 0))]) _ (Mem.pick2 [_] Hv [_] _ hm253)
      have hm255 := Mem.drop ([(b7q66, .cells (cl i64 ([2, 7, 8, 13])) 3 (0, 0))]) _ (Mem.pick2 [_] Hv [_] _ hm254)
      have hm256 := Mem.drop ([(b6q66, .cells (cl i64 ([1, 6, 11, 12])) 3 (0, 0))]) _ (Mem.pick2 [_] Hv [_] _ hm255)
      have hm257 := Mem.drop ([(b5q66, .cells (cl i64 ([0, 5, 10, 15])) 3 (0, 0))]) _ (Mem.pick2 [_] Hv [_] _ hm256)
      have hm258 := Mem.drop ([(b4q66, .cells (cl i64 ([3, 7, 11, 15])) 3 (0, 0))]) _ (Mem.pick2 [_] Hv [_] _ hm257)
      have hm259 := Mem.drop ([(b3q66, .cells (cl i64 ([2, 6, 10, 14])) 3 (0, 0))]) _ (Mem.pick2 [_] Hv [_] _ hm258)
      have hm260 := Mem.drop ([(b2q66, .cells (cl i64 ([1, 5, 9, 13])) 3 (0, 0))]) _ (Mem.pick2 [_] Hv [_] _ hm259)
      have hm261 := Mem.drop ([(b1q66, .cells (cl i64 ([0, 4, 8, 12])) 3 (0, 0))]) _ (Mem.pick2 [_] Hv [_] _ hm260)
      have hm262 := Mem.drop ([(b5, .cells (cl u8 nonce) 30 (0, 0))]) _ (Mem.pick3 [_] Hv Hs60 [_] _ hm261)
      have hm263 := Mem.drop ([(b3, .cells (cl u8 key) 28 (0, 0))]) _ (Mem.pick3 [_] Hv Hs60 [_] _ hm262)
      · exact ⟨0, [], (slc b114 0 0 0), [(b114, .cells (cl u8 ([])) 5 (0, 0))], (by omega), rfl, (Grow.of u8 5 b114 []), s0, s1, s2, s3, s5, s6, s7, s8, s9, s10, s11, s12, rfl, rfl, s21, s37, rfl, hm263⟩
      · rintro fr264 w265 ⟨k2, ol, so, Ho, hk2, ho, gro, s0, s1, s2, s3, s5, s6, s7, s8, s9, s10, s11, s12, s16, s17, s21, s37, s53, hm265⟩
        have z17 := s17
        have z16 := s16
        have hol : ol.length = 4 * k2 := by rw [ho, wordBytes_length]
        refine cw_seq ?_
        refine cw_seq ?_
        refine cw_region ?_
        refine rw_q rfl (ev_move (v := (i64 (k2 : Int))) s17) ?_
        refine rw_q rfl (ev_i64_lss (b := 16) rfl rfl) ?_
        refine rw_nil ?_
        refine kThen_normal ?_
        refine cw_cond rfl (fun hc266 => ?_) (fun hc266 => ?_)
        · -- true
          have hc266p := of_decide_eq_true hc266
          refine cw_skip ?_
          refine kThen_normal ?_
          refine cw_seq ?_
          refine cw_block ?_
          refine cw_seq ?_
          refine cw_draw [(0, false), (1, false), (2, false), (3, false), (4, false), (5, false), (6, false), (7, false)] 8 (by kernel_rfl) ?_
          refine dw_q rfl rfl (fun _ _hx => ev_move (v := sv) s10) ?_
          refine dw_q rfl rfl (fun _ _hx => ev_move (v := (i64 (k2 : Int))) s17) ?_
          refine dw_q rfl rfl (fun _ _hx => ev_indexAddr_rdv (gv.rd (Mem.pick Ho Hv _ (hm265.ext _hx))) Try.underlying46 ti22 rfl rfl (by omega) (by first | omega | (simp only [List.length_set, List.length_append, List.length_replicate, List.length_map, List.length_cons, List.length_nil]; omega) | (simp; done) | (simp; omega))) ?_
          refine dw_q (v := (u32 ((rounds dblR 10 (beginR wordRL key counter nonce)).getD k2 0))) rfl rfl (fun _ _hx => ev_load_rdD (l := (rounds dblR 10 (beginR wordRL key counter nonce))) (i := (k2 : Int)) (dflt := 0) (gv.rd (Mem.pick Ho Hv _ (hm265.ext _hx))) Try.underlying22 rfl (by omega) (by first | omega | (simp only [List.length_set, List.length_append, List.length_replicate, List.length_map, List.length_cons, List.length_nil]; omega) | (simp; done) | (simp; omega)) rfl) ?_
          refine dw_q rfl rfl (fun _ _hx => ev_move (v := sv60) s7) ?_
          refine dw_q rfl rfl (fun _ _hx => ev_move (v := (i64 (k2 : Int))) s17) ?_
          refine dw_q rfl rfl (fun _ _hx => ev_indexAddr_rdv (g60.rd (Mem.pick2 Ho Hv Hs60 _ (hm265.ext _hx))) Try.underlying46 ti22 rfl rfl (by omega) (by first | omega | (simp only [List.length_set, List.length_append, List.length_replicate, List.length_map, List.length_cons, List.length_nil]; omega) | (simp; done) | (simp; omega))) ?_
          refine dw_q rfl rfl (fun _ _hx => ev_load_rdD (l := [1634760805#32, 857760878#32, 2036477234#32, 1797285236#32, wordRL ((key.drop 0).take 4), wordRL ((key.drop 4).take 4), wordRL ((key.drop 8).take 4), wordRL ((key.drop 12).take 4), wordRL ((key.drop 16).take 4), wordRL ((key.drop 20).take 4), wordRL ((key.drop 24).take 4), wordRL ((key.drop 28).take 4), counter, wordRL ((nonce.drop 0).take 4), wordRL ((nonce.drop 4).take 4), wordRL ((nonce.drop 8).take 4)]) (i := (k2 : Int)) (dflt := 0) (g60.rd (Mem.pick2 Ho Hv Hs60 _ (hm265.ext _hx))) Try.underlying22 rfl (by omega) (by first | omega | (simp only [List.length_set, List.length_append, List.length_replicate, List.length_map, List.length_cons, List.length_nil]; omega) | (simp; done) | (simp; omega)) rfl) ?_
          refine dw_nil (fun w267 _ew267 => ?_)
          have hm267 := hm265.ext _ew267
          refine rw_q rfl (ev_u32_add rfl rfl) ?_
          refine rw_q rfl (ev_assign rfl) ?_
          refine rw_nil ?_
          refine kThen_normal ?_
          refine CW.abs (fun g => g 0 = (agg u8 key) ∧ g 1 = (u32 counter) ∧ g 2 = (agg u8 nonce) ∧ g 3 = (ptr b3 0) ∧ g 5 = (ptr b5 0) ∧ g 6 = (Value.slice none 0 0) ∧ g 7 = sv60 ∧ g 8 = (i64 32) ∧ g 9 = (i64 12) ∧ g 10 = sv ∧ g 11 = (slc b9q66 0 8 8) ∧ g 12 = (i64 (10 : Int)) ∧ g 16 = so ∧ g 17 = (i64 (k2 : Int)) ∧ g 18 = (u32 (((rounds dblR 10 (beginR wordRL key counter nonce)).getD k2 0) + (([1634760805#32, 857760878#32, 2036477234#32, 1797285236#32, wordRL ((key.drop 0).take 4), wordRL ((key.drop 4).take 4), wordRL ((key.drop 8).take 4), wordRL ((key.drop 12).take 4), wordRL ((key.drop 16).take 4), wordRL ((key.drop 20).take 4), wordRL ((key.drop 24).take 4), wordRL ((key.drop 28).take 4), counter, wordRL ((nonce.drop 0).take 4), wordRL ((nonce.drop 4).take 4), wordRL ((nonce.drop 8).take 4)]).getD k2 0))) ∧ g 21 = (bl false) ∧ g 37 = (bl false) ∧ g 53 = (bl (decide ((10 : Int) < 10))) ∧ g 116 = (bl (decide ((k2 : Int) < 16))) ∧ True) ⟨s0, s1, s2, s3, s5, s6, s7, s8, s9, s10, s11, s12, s16, s17, rfl, s21, s37, s53, rfl, trivial⟩ ?_
          rintro fr268 ⟨s0, s1, s2, s3, s5, s6, s7, s8, s9, s10, s11, s12, s16, s17, s18, s21, s37, s53, s116, _⟩
          refine cw_region ?_
          refine rw_q rfl (ev_move (v := so) s16) ?_
          refine rw_q rfl (ev_move s18) ?_
          refine rw_q rfl (ev_conv_u32_u8 ⟨_, Try.underlying22⟩ Try.underlying5 rfl) ?_
          refine rw_q rfl (ev_move s18) ?_
          refine rw_q rfl (ev_u32_shr (b := 8) rfl rfl (by omega)) ?_
          refine rw_q rfl (ev_conv_u32_u8 ⟨_, Try.underlying22⟩ Try.underlying5 rfl) ?_
          refine rw_q rfl (ev_move s18) ?_
          refine rw_q rfl (ev_u32_shr (b := 16) rfl rfl (by omega)) ?_
          refine rw_q rfl (ev_conv_u32_u8 ⟨_, Try.underlying22⟩ Try.underlying5 rfl) ?_
          refine rw_q rfl (ev_move s18) ?_
          refine rw_q rfl (ev_u32_shr (b := 24) rfl rfl (by omega)) ?_
          refine rw_q rfl (ev_conv_u32_u8 ⟨_, Try.underlying22⟩ Try.underlying5 rfl) ?_
          refine rw_c rfl (or_buildSlice_cl u8 [(((rounds dblR 10 (beginR wordRL key counter nonce)).getD k2 0) + (([1634760805#32, 857760878#32, 2036477234#32, 1797285236#32, wordRL ((key.drop 0).take 4), wordRL ((key.drop 4).take 4), wordRL ((key.drop 8).take 4), wordRL ((key.drop 12).take 4), wordRL ((key.drop 16).take 4), wordRL ((key.drop 20).take 4), wordRL ((key.drop 24).take 4), wordRL ((key.drop 28).take 4), counter, wordRL ((nonce.drop 0).take 4), wordRL ((nonce.drop 4).take 4), wordRL ((nonce.drop 8).take 4)]).getD k2 0)).setWidth 8, ((((rounds dblR 10 (beginR wordRL key counter nonce)).getD k2 0) + (([1634760805#32, 857760878#32, 2036477234#32, 1797285236#32, wordRL ((key.drop 0).take 4), wordRL ((key.drop 4).take 4), wordRL ((key.drop 8).take 4), wordRL ((key.drop 12).take 4), wordRL ((key.drop 16).take 4), wordRL ((key.drop 20).take 4), wordRL ((key.drop 24).take 4), wordRL ((key.drop 28).take 4), counter, wordRL ((nonce.drop 0).take 4), wordRL ((nonce.drop 4).take 4), wordRL ((nonce.drop 8).take 4)]).getD k2 0)) >>> 8).setWidth 8, ((((rounds dblR 10 (beginR wordRL key counter nonce)).getD k2 0) + (([1634760805#32, 857760878#32, 2036477234#32, 1797285236#32, wordRL ((key.drop 0).take 4), wordRL ((key.drop 4).take 4), wordRL ((key.drop 8).take 4), wordRL ((key.drop 12).take 4), wordRL ((key.drop 16).take 4), wordRL ((key.drop 20).take 4), wordRL ((key.drop 24).take 4), wordRL ((key.drop 28).take 4), counter, wordRL ((nonce.drop 0).take 4), wordRL ((nonce.drop 4).take 4), wordRL ((nonce.drop 8).take 4)]).getD k2 0)) >>> 16).setWidth 8, ((((rounds dblR 10 (beginR wordRL key counter nonce)).getD k2 0) + (([1634760805#32, 857760878#32, 2036477234#32, 1797285236#32, wordRL ((key.drop 0).take 4), wordRL ((key.drop 4).take 4), wordRL ((key.drop 8).take 4), wordRL ((key.drop 12).take 4), wordRL ((key.drop 16).take 4), wordRL ((key.drop 20).take 4), wordRL ((key.drop 24).take 4), wordRL ((key.drop 28).take 4), counter, wordRL ((nonce.drop 0).take 4), wordRL ((nonce.drop 4).take 4), wordRL ((nonce.drop 8).take 4)]).getD k2 0)) >>> 24).setWidth 8] u8_one hm267 Try.underlying34 ti5 rfl rfl rfl) ?_
          rintro _ w269 ⟨b140, rfl, _ew269, hm269⟩
          refine rw_c rfl (or_append (f := u8) (Mem.pick [_] Ho _ hm269) gro rfl rfl (Rd.mkA hm269.h0) Try.underlying34 Try.underlying34 ti5 rfl u8_one (by first | omega | (simp only [List.length_set, List.length_append, List.length_replicate, List.length_map, List.length_cons, List.length_nil]; omega) | (simp; done) | (simp; omega)) (by first | omega | (simp only [List.length_set, List.length_append, List.length_replicate, List.length_map, List.length_cons, List.length_nil]; omega) | (simp; done) | (simp; omega))) ?_
          rintro sv270 w270 ⟨Hs270, hm270, g270⟩
          replace g270 : Grow u8 5 sv270 (ol ++ ([(((rounds dblR 10 (beginR wordRL key counter nonce)).getD k2 0) + (([1634760805#32, 857760878#32, 2036477234#32, 1797285236#32, wordRL ((key.drop 0).take 4), wordRL ((key.drop 4).take 4), wordRL ((key.drop 8).take 4), wordRL ((key.drop 12).take 4), wordRL ((key.drop 16).take 4), wordRL ((key.drop 20).take 4), wordRL ((key.drop 24).take 4), wordRL ((key.drop 28).take 4), counter, wordRL ((nonce.drop 0).take 4), wordRL ((nonce.drop 4).take 4), wordRL ((nonce.drop 8).take 4)]).getD k2 0)).setWidth 8, ((((rounds dblR 10 (beginR wordRL key counter nonce)).getD k2 0) + (([1634760805#32, 857760878#32, 2036477234#32, 1797285236#32, wordRL ((key.drop 0).take 4), wordRL ((key.drop 4).take 4), wordRL ((key.drop 8).take 4), wordRL ((key.drop 12).take 4), wordRL ((key.drop 16).take 4), wordRL ((key.drop 20).take 4), wordRL ((key.drop 24).take 4), wordRL ((key.drop 28).take 4), counter, wordRL ((nonce.drop 0).take 4), wordRL ((nonce.drop 4).take 4), wordRL ((nonce.drop 8).take 4)]).getD k2 0)) >>> 8).setWidth 8, ((((rounds dblR 10 (beginR wordRL key counter nonce)).getD k2 0) + (([1634760805#32, 857760878#32, 2036477234#32, 1797285236#32, wordRL ((key.drop 0).take 4), wordRL ((key.drop 4).take 4), wordRL ((key.drop 8).take 4), wordRL ((key.drop 12).take 4), wordRL ((key.drop 16).take 4), wordRL ((key.drop 20).take 4), wordRL ((key.drop 24).take 4), wordRL ((key.drop 28).take 4), counter, wordRL ((nonce.drop 0).take 4), wordRL ((nonce.drop 4).take 4), wordRL ((nonce.drop 8).take 4)]).getD k2 0)) >>> 16).setWidth 8, ((((rounds dblR 10 (beginR wordRL key counter nonce)).getD k2 0) + (([1634760805#32, 857760878#32, 2036477234#32, 1797285236#32, wordRL ((key.drop 0).take 4), wordRL ((key.drop 4).take 4), wordRL ((key.drop 8).take 4), wordRL ((key.drop 12).take 4), wordRL ((key.drop 16).take 4), wordRL ((key.drop 20).take 4), wordRL ((key.drop 24).take 4), wordRL ((key.drop 28).take 4), counter, wordRL ((nonce.drop 0).take 4), wordRL ((nonce.drop 4).take 4), wordRL ((nonce.drop 8).take 4)]).getD k2 0)) >>> 24).setWidth 8])) Hs270 := g270
          refine rw_q rfl (ev_assign (v := sv270) rfl) ?_
          refine rw_nil ?_
          refine kBlk_normal ?_
          have hm271 := Mem.drop ([(b140, .cells (cl u8 ([(((rounds dblR 10 (beginR wordRL key counter nonce)).getD k2 0) + (([1634760805#32, 857760878#32, 2036477234#32, 1797285236#32, wordRL ((key.drop 0).take 4), wordRL ((key.drop 4).take 4), wordRL ((key.drop 8).take 4), wordRL ((key.drop 12).take 4), wordRL ((key.drop 16).take 4), wordRL ((key.drop 20).take 4), wordRL ((key.drop 24).take 4), wordRL ((key.drop 28).take 4), counter, wordRL ((nonce.drop 0).take 4), wordRL ((nonce.drop 4).take 4), wordRL ((nonce.drop 8).take 4)]).getD k2 0)).setWidth 8, ((((rounds dblR 10 (beginR wordRL key counter nonce)).getD k2 0) + (([1634760805#32, 857760878#32, 2036477234#32, 1797285236#32, wordRL ((key.drop 0).take 4), wordRL ((key.drop 4).take 4), wordRL ((key.drop 8).take 4), wordRL ((key.drop 12).take 4), wordRL ((key.drop 16).take 4), wordRL ((key.drop 20).take 4), wordRL ((key.drop 24).take 4), wordRL ((key.drop 28).take 4), counter, wordRL ((nonce.drop 0).take 4), wordRL ((nonce.drop 4).take 4), wordRL ((nonce.drop 8).take 4)]).getD k2 0)) >>> 8).setWidth 8, ((((rounds dblR 10 (beginR wordRL key counter nonce)).getD k2 0) + (([1634760805#32, 857760878#32, 2036477234#32, 1797285236#32, wordRL ((key.drop 0).take 4), wordRL ((key.drop 4).take 4), wordRL ((key.drop 8).take 4), wordRL ((key.drop 12).take 4), wordRL ((key.drop 16).take 4), wordRL ((key.drop 20).take 4), wordRL ((key.drop 24).take 4), wordRL ((key.drop 28).take 4), counter, wordRL ((nonce.drop 0).take 4), wordRL ((nonce.drop 4).take 4), wordRL ((nonce.drop 8).take 4)]).getD k2 0)) >>> 16).setWidth 8, ((((rounds dblR 10 (beginR wordRL key counter nonce)).getD k2 0) + (([1634760805#32, 857760878#32, 2036477234#32, 1797285236#32, wordRL ((key.drop 0).take 4), wordRL ((key.drop 4).take 4), wordRL ((key.drop 8).take 4), wordRL ((key.drop 12).take 4), wordRL ((key.drop 16).take 4), wordRL ((key.drop 20).take 4), wordRL ((key.drop 24).take 4), wordRL ((key.drop 28).take 4), counter, wordRL ((nonce.drop 0).take 4), wordRL ((nonce.drop 4).take 4), wordRL ((nonce.drop 8).take 4)]).getD k2 0)) >>> 24).setWidth 8])) 5 (0, 0))]) _ (Mem.pick Hs270 [_] _ hm270)
          refine CW.abs (fun g => g 0 = (agg u8 key) ∧ g 1 = (u32 counter) ∧ g 2 = (agg u8 nonce) ∧ g 3 = (ptr b3 0) ∧ g 5 = (ptr b5 0) ∧ g 6 = (Value.slice none 0 0) ∧ g 7 = sv60 ∧ g 8 = (i64 32) ∧ g 9 = (i64 12) ∧ g 10 = sv ∧ g 11 = (slc b9q66 0 8 8) ∧ g 12 = (i64 (10 : Int)) ∧ g 16 = sv270 ∧ g 17 = (i64 (k2 : Int)) ∧ g 18 = (u32 (((rounds dblR 10 (beginR wordRL key counter nonce)).getD k2 0) + (([1634760805#32, 857760878#32, 2036477234#32, 1797285236#32, wordRL ((key.drop 0).take 4), wordRL ((key.drop 4).take 4), wordRL ((key.drop 8).take 4), wordRL ((key.drop 12).take 4), wordRL ((key.drop 16).take 4), wordRL ((key.drop 20).take 4), wordRL ((key.drop 24).take 4), wordRL ((key.drop 28).take 4), counter, wordRL ((nonce.drop 0).take 4), wordRL ((nonce.drop 4).take 4), wordRL ((nonce.drop 8).take 4)]).getD k2 0))) ∧ g 21 = (bl false) ∧ g 37 = (bl false) ∧ g 53 = (bl (decide ((10 : Int) < 10))) ∧ g 116 = (bl (decide ((k2 : Int) < 16))) ∧ True) ⟨s0, s1, s2, s3, s5, s6, s7, s8, s9, s10, s11, s12, rfl, s17, s18, s21, s37, s53, s116, trivial⟩ ?_
          rintro fr272 ⟨s0, s1, s2, s3, s5, s6, s7, s8, s9, s10, s11, s12, s16, s17, s18, s21, s37, s53, s116, _⟩
          refine cw_region ?_
          refine rw_q rfl (ev_move (v := (i64 (k2 : Int))) s17) ?_
          refine rw_q rfl (ev_i64_add (b := 1) rfl rfl (by omega) (by omega)) ?_
          refine rw_q rfl (ev_assign (v := (i64 ((k2 : Int) + 1))) rfl) ?_
          refine rw_nil ?_
          refine kThen_normal ?_
          exact ⟨⟨k2 + 1, ol ++ ([(((rounds dblR 10 (beginR wordRL key counter nonce)).getD k2 0) + (([1634760805#32, 857760878#32, 2036477234#32, 1797285236#32, wordRL ((key.drop 0).take 4), wordRL ((key.drop 4).take 4), wordRL ((key.drop 8).take 4), wordRL ((key.drop 12).take 4), wordRL ((key.drop 16).take 4), wordRL ((key.drop 20).take 4), wordRL ((key.drop 24).take 4), wordRL ((key.drop 28).take 4), counter, wordRL ((nonce.drop 0).take 4), wordRL ((nonce.drop 4).take 4), wordRL ((nonce.drop 8).take 4)]).getD k2 0)).setWidth 8, ((((rounds dblR 10 (beginR wordRL key counter nonce)).getD k2 0) + (([1634760805#32, 857760878#32, 2036477234#32, 1797285236#32, wordRL ((key.drop 0).take 4), wordRL ((key.drop 4).take 4), wordRL ((key.drop 8).take 4), wordRL ((key.drop 12).take 4), wordRL ((key.drop 16).take 4), wordRL ((key.drop 20).take 4), wordRL ((key.drop 24).take 4), wordRL ((key.drop 28).take 4), counter, wordRL ((nonce.drop 0).take 4), wordRL ((nonce.drop 4).take 4), wordRL ((nonce.drop 8).take 4)]).getD k2 0)) >>> 8).setWidth 8, ((((rounds dblR 10 (beginR wordRL key counter nonce)).getD k2 0) + (([1634760805#32, 857760878#32, 2036477234#32, 1797285236#32, wordRL ((key.drop 0).take 4), wordRL ((key.drop 4).take 4), wordRL ((key.drop 8).take 4), wordRL ((key.drop 12).take 4), wordRL ((key.drop 16).take 4), wordRL ((key.drop 20).take 4), wordRL ((key.drop 24).take 4), wordRL ((key.drop 28).take 4), counter, wordRL ((nonce.drop 0).take 4), wordRL ((nonce.drop 4).take 4), wordRL ((nonce.drop 8).take 4)]).getD k2 0)) >>> 16).setWidth 8, ((((rounds dblR 10 (beginR wordRL key counter nonce)).getD k2 0) + (([1634760805#32, 857760878#32, 2036477234#32, 1797285236#32, wordRL ((key.drop 0).take 4), wordRL ((key.drop 4).take 4), wordRL ((key.drop 8).take 4), wordRL ((key.drop 12).take 4), wordRL ((key.drop 16).take 4), wordRL ((key.drop 20).take 4), wordRL ((key.drop 24).take 4), wordRL ((key.drop 28).take 4), counter, wordRL ((nonce.drop 0).take 4), wordRL ((nonce.drop 4).take 4), wordRL ((nonce.drop 8).take 4)]).getD k2 0)) >>> 24).setWidth 8]), sv270, Hs270, (by omega), (by rw [wordBytes_succ, ← ho]; rfl), g270, s0, s1, s2, s3, s5, s6, s7, s8, s9, s10, s11, s12, s16, rfl, s21, s37, s53, hm271⟩, meas rfl z17 (by omega) (by omega)⟩
        · -- false
          have hc266p := of_decide_eq_false hc266
          obtain rfl : k2 = 16 := by omega
          subst ho
          refine cw_exit ?_
          refine kThen_exit (kThen_exit (kBlk_hit ?_))
          refine cw_seq ?_
          refine cw_region ?_
          refine rw_q rfl (ev_move (v := so) s16) ?_
          refine rw_q rfl (ev_assign (v := so) rfl) ?_
          refine rw_nil ?_
          refine kThen_normal ?_
          refine cw_ret ?_
          refine fnPost_ret [so] ⟨rfl, trivial⟩ ?_
          have hm273 := Mem.drop Hv _ (Mem.pick Ho Hv _ hm265)
          have hm274 := Mem.drop Hs60 _ (Mem.pick Ho Hs60 _ hm273)
          exact ⟨Ho, gro, by simpa using hm274⟩


end Go.Proofs.Ytehkomhnmipnbaa
