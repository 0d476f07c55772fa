/- Contracts: bundles' keys, second part. Conditions: none beyond those that each theorem states. -/
import Derived.Test.YtmiagmbgfhakgaaDoorBk1
namespace Go.Proofs.YtmiagmbgfhakgaaDoor
set_option linter.unusedVariables false
set_option linter.unusedSimpArgs false

set_option maxHeartbeats 2000000 in
theorem c_rcommon (a b c : List (BitVec 8)) (w0 : World)  (ha : a.length = 32) (hb : b.length = 32) (hc : c.length = 32) : CallsR Tryd.prog 36 #[(agg u8 a), (agg u8 b), (agg u8 c)] w0 (fun r w1 => r = (agg u8 (comB a b c)) ∧ Ext w0 w1) := by
 refine callsR_of_cw (args := [(agg u8 a), (agg u8 b), (agg u8 c)]) Tryd.func36 rfl Tryd.ntmps36 Tryd.results36 rfl ?_
 have hm0 : Mem w0 (restOf w0) [] := Mem.of_world w0
 refine sR ?_
 refine rw_c rfl (or_box_agg (f := u8) (l := a) hm0 rfl) ?_
 rintro _ w1 ⟨b3, rfl, _ew1, hm1⟩
 refine rw_c rfl (or_box_agg (f := u8) (l := b) hm1 rfl) ?_
 rintro _ w2 ⟨b4, rfl, _ew2, hm2⟩
 refine rw_c rfl (or_box_agg (f := u8) (l := c) hm2 rfl) ?_
 rintro _ w3 ⟨b5, rfl, _ew3, hm3⟩
 refine rw_c rfl (or_alloc_agg hm3 ti23) ?_
 rintro _ w4 ⟨b6, rfl, _ew4, hm4⟩
 refine rN (sR ?_)
 refine rw_c rfl (or_buildSlice_cl u8 [] u8_one hm4 uT26 ti5 rfl (by simp [pairs]) rfl) ?_
 rintro _ w5 ⟨b9, rfl, _ew5, hm5⟩
 refine rw_q rfl (ev_assign (v := (slc b9 0 0 0)) rfl) ?_
 refine rN (cw_seq (sR ?_))
 refine rw_q rfl (ev_assign (v := (i64 0)) rfl) ?_
 refine rN (cw_block ?_)
 refine cw_loop (fun g wv => ∃ (k : Nat) (sv : Value) (l7 : List (BitVec 8)) (H7 : List (Nat × Obj)), (k ≤ 32) ∧ (l7 = List.replicate k 255#8) ∧ (Grow u8 5 sv l7 H7) ∧ g 0 = (agg u8 a) ∧ g 1 = (agg u8 b) ∧ g 2 = (agg u8 c) ∧ g 3 = (ptr b3 0) ∧ g 4 = (ptr b4 0) ∧ g 5 = (ptr b5 0) ∧ g 6 = (ptr b6 0) ∧ g 7 = sv ∧ g 8 = (i64 (k : Int)) ∧ Mem wv (restOf w0) (H7 ++ ([(b3, .cells (cl u8 a) 23 (0, 0)), (b4, .cells (cl u8 b) 23 (0, 0)), (b5, .cells (cl u8 c) 23 (0, 0)), (b6, .cells (cl u8 (List.replicate 32 0)) 23 (0, 0))]))) (fun g wv => (32 - RowKit.intOf (g 8)).toNat) ?_ ?_
 have hm6 := (Mem.pick [_] [_] _ hm5)
 have hm7 := (Mem.pick [_, _] [_] _ hm6)
 have hm8 := (Mem.pick [_, _, _] [_] _ hm7)
 have hm9 := (Mem.pick [_, _, _, _] [_] _ hm8)
 have hm10 := (Mem.pick [_, _, _, _] [_] _ hm9)
 · exact ⟨0, (slc b9 0 0 0), [], [(b9, .cells (cl u8 ([])) 5 (0, 0))], oM, rfl, (Grow.of u8 5 b9 []), rfl, rfl, rfl, rfl, rfl, rfl, rfl, rfl, rfl, hm10⟩
 · rintro fr11 w12 ⟨k, sv, l7, H7, hk, h7, gq, s0, s1, s2, s3, s4, s5, s6, s7, s8, hm12⟩
   have z8 := s8
   have z7 := s7
   have h7n : l7.length = k := by rw [h7]; simp
   refine cw_seq (sR ?_)
   refine rM rfl s8 <| rw_q rfl (ev_i64_lss (b := 32) rfl rfl) ?_
   refine rN ?_
   refine cw_cond rfl (fun hc13 => ?_) (fun hc13 => ?_)
   · -- true
     have hc13p := of_decide_eq_true hc13
     refine cw_skip (kThen_normal (cw_seq (cw_block (cw_region ?_))))
     refine rM rfl s7 <| rw_c rfl (or_buildSlice_cl u8 [255#8] u8_one hm12 uT26 ti5 rfl rfl rfl) ?_
     rintro _ w14 ⟨b15, rfl, _ew14, hm14⟩
     refine rw_c rfl (or_append (f := u8) (Hs := H7) (H := [(b15, .cells (cl u8 ([255#8])) 5 (0, 0)), (b3, .cells (cl u8 a) 23 (0, 0)), (b4, .cells (cl u8 b) 23 (0, 0)), (b5, .cells (cl u8 c) 23 (0, 0)), (b6, .cells (cl u8 (List.replicate 32 0)) 23 (0, 0))]) (Mem.pick [_] H7 _ hm14) gq rfl rfl (Rd.mkA hm14.h0) uT26 uT26 ti5 rfl u8_one sD sD) ?_
     rintro sv15 w15 ⟨Hs15, hm15, g15⟩
     replace g15 : Grow u8 5 sv15 (l7 ++ ([255#8])) Hs15 := g15
     refine rA rfl (v := sv15) rfl ?_
     refine rw_nil (kBlk_normal (cw_region ?_))
     refine rM rfl s8 <| rw_q rfl (ev_i64_add (b := 1) rfl rfl oM oM) <| rw_q rfl (ev_assign (v := (i64 ((k : Int) + 1))) rfl) ?_
     refine rN ?_
     have hm16 := Mem.drop ([(b15, .cells (cl u8 ([255#8])) 5 (0, 0))]) _ (Mem.pick Hs15 [_] _ hm15)
     exact ⟨⟨k + 1, sv15, (l7 ++ ([255#8])), Hs15, oM, (by rw [h7, List.replicate_succ']), g15, s0, s1, s2, s3, s4, s5, s6, rfl, rfl, hm16⟩, meas rfl z8 oM oM⟩
   · -- false
     have hc13p := of_decide_eq_false hc13
     obtain rfl : k = 32 := by omega
     have h7n : l7.length = 32 := by rw [h7]; simp
     refine cw_exit ?_
     refine kThen_exit (kThen_exit (kBlk_hit ?_))
     refine sR ?_
     refine rM rfl s7 <| rw_q rfl (ev_slice_sla (i := 0) (j := 32) uT23 ti5 s3 (optI_none _ _) (optI_none _ _) oM sD sD) <| rw_c rfl (or_append (f := u8) (Hs := H7) (H := [(b3, .cells (cl u8 a) 23 (0, 0)), (b4, .cells (cl u8 b) 23 (0, 0)), (b5, .cells (cl u8 c) 23 (0, 0)), (b6, .cells (cl u8 (List.replicate 32 0)) 23 (0, 0))]) hm12 gq rfl rfl (Rd.slaAll ((Mem.pick H7 [_] _ hm12)).h0 sD) uT26 uT26 ti5 rfl u8_one sD sD) ?_
     rintro sv17 w17 ⟨Hs17, hm17, g17⟩
     replace g17 : Grow u8 5 sv17 (l7 ++ a) Hs17 := g17
     refine rA rfl (v := sv17) rfl ?_
     refine rN (sR ?_)
     refine rM rfl (v := sv17) rfl <| rw_q rfl (ev_slice_sla (i := 0) (j := 32) uT23 ti5 s4 (optI_none _ _) (optI_none _ _) oM sD sD) <| rw_c rfl (or_append (f := u8) (Hs := Hs17) (H := [(b3, .cells (cl u8 a) 23 (0, 0)), (b4, .cells (cl u8 b) 23 (0, 0)), (b5, .cells (cl u8 c) 23 (0, 0)), (b6, .cells (cl u8 (List.replicate 32 0)) 23 (0, 0))]) hm17 g17 rfl rfl (Rd.slaAll ((Mem.pick2 Hs17 [_] [_] _ hm17)).h0 sD) uT26 uT26 ti5 rfl u8_one sD sD) ?_
     rintro sv18 w18 ⟨Hs18, hm18, g18⟩
     replace g18 : Grow u8 5 sv18 ((l7 ++ a) ++ b) Hs18 := g18
     refine rA rfl (v := sv18) rfl ?_
     refine rN (sR ?_)
     refine rM rfl (v := sv18) rfl <| rw_q rfl (ev_slice_sla (i := 0) (j := 32) uT23 ti5 s5 (optI_none _ _) (optI_none _ _) oM sD sD) <| rw_c rfl (or_append (f := u8) (Hs := Hs18) (H := [(b3, .cells (cl u8 a) 23 (0, 0)), (b4, .cells (cl u8 b) 23 (0, 0)), (b5, .cells (cl u8 c) 23 (0, 0)), (b6, .cells (cl u8 (List.replicate 32 0)) 23 (0, 0))]) hm18 g18 rfl rfl (Rd.slaAll ((Mem.pick2 Hs18 [_, _] [_] _ hm18)).h0 sD) uT26 uT26 ti5 rfl u8_one sD sD) ?_
     rintro sv19 w19 ⟨Hs19, hm19, g19⟩
     replace g19 : Grow u8 5 sv19 (((l7 ++ a) ++ b) ++ c) Hs19 := g19
     refine rA rfl (v := sv19) rfl ?_
     refine rN ?_
     refine CW.abs (fun g => g 0 = (agg u8 a) ∧ g 1 = (agg u8 b) ∧ g 2 = (agg u8 c) ∧ g 3 = (ptr b3 0) ∧ g 4 = (ptr b4 0) ∧ g 5 = (ptr b5 0) ∧ g 6 = (ptr b6 0) ∧ g 7 = sv19 ∧ g 8 = (i64 (32 : Int)) ∧ g 11 = (bl (decide ((32 : Int) < 32))) ∧ True) ⟨s0, s1, s2, s3, s4, s5, s6, rfl, s8, rfl, trivial⟩ ?_
     rintro fr20 ⟨s0, s1, s2, s3, s4, s5, s6, s7, s8, s11, _⟩
     refine cw_seq ?_
     have gs21 : Grow u8 5 sv19 (secB a b c) Hs19 := Grow.cast g19 (by rw [h7]; unfold secB; first | rfl | (simp only [List.append_assoc]; rfl) | (simp only [List.append_assoc]))
     have hsl := secB_length ha hb hc
     have hcl : (chunksP (1 : Int).toNat (expandP (extractP [] (secB a b c)) (bytesL ⟨#[115, 116, 97, 114, 116]⟩) (32 * (1 : Int).toNat))).length = 1 := chunksP_length _ _
     have hc0 : ((chunksP (1 : Int).toNat (expandP (extractP [] (secB a b c)) (bytesL ⟨#[115, 116, 97, 114, 116]⟩) (32 * (1 : Int).toNat))).getD 0 []).length = 32 := chunk_len (by decide) (by rw [expandP_length])
     refine cw_region <| rw_c rfl (or_buildSlice_cl u8 [] u8_one hm19 uT26 ti5 rfl (by simp [pairs]) rfl) ?_
     rintro _ w22 ⟨b26, rfl, _ew22, hm22⟩
     refine rM rfl s7 <| rw_c rfl (opR_call Tryd.func29 bd29 nm29 (args4 rfl rfl rfl rfl) (c_rkeys (slc b26 0 0 0) ([]) sv19 (secB a b c) (⟨#[115, 116, 97, 114, 116]⟩) (1 : Int) _ (Rd.mkA hm22.h0) sD (gs21.rd (Mem.pick [_] Hs19 _ hm22)) sD sD sD)) ?_
     rintro rxq24 w23 ⟨Hsq24, grxq24, k_w23⟩
     have hm23 : Mem w23 (restOf w0) (Hsq24 ++ ([(b26, .cells (cl u8 ([])) 5 (0, 0))] ++ (Hs19 ++ ([(b3, .cells (cl u8 a) 23 (0, 0)), (b4, .cells (cl u8 b) 23 (0, 0)), (b5, .cells (cl u8 c) 23 (0, 0)), (b6, .cells (cl u8 (List.replicate 32 0)) 23 (0, 0))])))) := Mem.new (H := [(b26, .cells (cl u8 ([])) 5 (0, 0))] ++ (Hs19 ++ ([(b3, .cells (cl u8 a) 23 (0, 0)), (b4, .cells (cl u8 b) 23 (0, 0)), (b5, .cells (cl u8 c) 23 (0, 0)), (b6, .cells (cl u8 (List.replicate 32 0)) 23 (0, 0))]))) (H' := Hsq24) hm22 k_w23
     refine rw_q rfl (ev_indexAddr_rk (i := 0) (grxq24.rd hm23) uT57 ti23 rfl rfl oM sD) <| rw_q (v := (agg u8 ((chunksP (1 : Int).toNat (expandP (extractP ([]) (secB a b c)) (bytesL (⟨#[115, 116, 97, 114, 116]⟩)) (32 * (1 : Int).toNat))).getD 0 []))) rfl (ev_load_rka (i := (0 : Int)) (grxq24.rd hm23) sD uT23 ti23 rfl rfl) <| rw_n (or_store_agg (f := u8) (l := (chunksP (1 : Int).toNat (expandP (extractP ([]) (secB a b c)) (bytesL (⟨#[115, 116, 97, 114, 116]⟩)) (32 * (1 : Int).toNat))).getD 0 []) u8_one ti23 s6 rfl sD ((Mem.pick4 Hsq24 [_] Hs19 [_, _, _] [_] _ hm23)).h0 sZ rfl) ?_
     rintro _ w25 uq25
     have hm25 : Mem w25 (restOf w0) ([(b6, .cells (cl u8 ((chunksP (1 : Int).toNat (expandP (extractP ([]) (secB a b c)) (bytesL (⟨#[115, 116, 97, 114, 116]⟩)) (32 * (1 : Int).toNat))).getD 0 [])) 23 (0, 0))] ++ (Hsq24 ++ ([(b26, .cells (cl u8 ([])) 5 (0, 0))] ++ (Hs19 ++ ([(b3, .cells (cl u8 a) 23 (0, 0)), (b4, .cells (cl u8 b) 23 (0, 0)), (b5, .cells (cl u8 c) 23 (0, 0))]))))) := Mem.upd0 (Mem.pick4 Hsq24 [_] Hs19 [_, _, _] [_] _ hm23) uq25
     refine rN (cw_ret ?_)
     refine fnPost_ret [(agg u8 ((chunksP (1 : Int).toNat (expandP (extractP ([]) (secB a b c)) (bytesL (⟨#[115, 116, 97, 114, 116]⟩)) (32 * (1 : Int).toNat))).getD 0 []))] ⟨⟨_, s6, loadVar_run uT23 rfl ti23 hm25.h0 sZ⟩, trivial⟩ ?_
     exact ⟨congrArg (agg u8) (by unfold comB; rw [comB_keys]; rfl), hm25.toExt⟩


end Go.Proofs.YtmiagmbgfhakgaaDoor

