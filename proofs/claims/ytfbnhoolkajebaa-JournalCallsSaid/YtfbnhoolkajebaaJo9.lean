/- The document's example. Conditions: none beyond those that each theorem states. -/
import Derived.Test.YtfbnhoolkajebaaJo8
namespace Go.Proofs.Ytfbnhoolkajebaa
set_option linter.unusedVariables false
set_option linter.unusedSimpArgs false
attribute [local irreducible] crashB crashK pushB readB inB errB cutN seenW
attribute [local irreducible] markB putB getB getK partB placeF blkOf rawB writeK blocksN
attribute [local irreducible] mostK newB roomB
attribute [local irreducible] recB recF recN genF badB lastP dataB gOf rOf pOf nOf loopH readH
attribute [local irreducible] okP layK turnL turnP oldB
attribute [local irreducible] openD
attribute [local irreducible] okG okV GB natB fitsB

set_option maxHeartbeats 2000000 in
theorem c_speaks15  (w0 : World)   : CallsR Try.prog 12 #[] w0 (fun r w1 => r = (bl true) ∧ Ext w0 w1) := by
 refine callsR_of_cw (args := []) Try.func12 rfl Try.ntmps12 Try.results12 rfl ?_
 have hm0 : Mem w0 (restOf w0) [] := Mem.of_world w0
 refine sR <| rw_q rfl (ev_assign (v := (bl false)) rfl) ?_
 refine rN (sR ?_)
 refine rw_c rfl (opR_call Try.func13 bd13 nm13 (args1 rfl) (c_dnew (4 : Int) _ sL)) ?_
 rintro _ w1 ⟨bdq2, vlq2, Hlq2, rfl, glq2, k_w1⟩
 have hm1 : Mem w1 (restOf w0) ([(bdq2, .cells #[vlq2, (Value.slice none 0 0)] 94 (0, 0))] ++ (Hlq2 ++ ([]))) := (by
   have hT := Mem.new (H := []) (H' := _) hm0 k_w1
   try simp only [List.append_assoc, List.cons_append, List.nil_append, List.append_nil] at hT ⊢
   exact hT)
 have hbl0 : List.replicate (4 : Int).toNat (List.replicate 64 0) = blank 4 := rfl
 obtain ⟨L0, hL0⟩ : ∃ q : List (List (BitVec 8)), q = (List.replicate (4 : Int).toNat (List.replicate 64 0)) := ⟨_, rfl⟩
 have hL0l : L0.length = 4 := by rw [hL0, hbl0]; simp
 have gg3 : GrowK (encA u8) 64 83 vlq2 L0 Hlq2 := GrowK.cast glq2 (hL0.symm)
 rw [hbl0] at hL0
 have hG0 : okG 0 L0 := by rw [hL0]; exact blank_G 4
 have hn0 := new_le hG0 (by decide)
 refine rw_q rfl (ev_move (v := (Value.tuple #[(ptr bdq2 0), (i64 0)])) rfl) <| rw_q (v := (ptr bdq2 0)) rfl (ev_extract rfl rfl) <| rw_q (v := (i64 0)) rfl (ev_extract rfl rfl) <| rw_q rfl (ev_assign (v := (ptr bdq2 0)) rfl) <| rw_q rfl (ev_assign (v := (i64 0)) rfl) ?_
 refine rN (cw_seq (sR ?_))
 refine rw_q rfl (ev_move (v := (i64 0)) rfl) <| rw_q rfl (ev_i64_neq (b := 0) rfl rfl) <| rw_q rfl (ev_move (v := (bl (0 != 0))) rfl) ?_
 have hd4 : (0 != 0) = false := told_ne rfl
 refine rw_gyq (s := 11) rfl rfl hd4 rfl (ev_move (v := (ptr bdq2 0)) rfl) <| rw_gyq (s := 11) rfl rfl hd4 rfl (ev_ptr_nil_eql uT25 rfl rfl) <| rw_q rfl (ev_pick_fk rfl hd4 rfl) <| rN <| cw_cond_f rfl (by decide) ?_
 refine cw_skip (kThen_normal (sR ?_))
 refine rw_q rfl (ev_move (v := (ptr bdq2 0)) rfl) ?_
 have hF6 : Mem w1 (restOf w0) (([(bdq2, .cells #[vlq2, (Value.slice none 0 0)] 94 (0, 0))] ++ (Hlq2 ++ ([] ++ ([])))) ++ ([])) := by
   have hT := (Mem.pick Hlq2 [_] _ (Mem.pick [_] Hlq2 _ hm1))
   try simp only [List.append_assoc, List.cons_append, List.nil_append, List.append_nil] at hT ⊢
   exact hT
 refine rw_c rfl (opR_call Try.func14 bd14 nm14 (args1 rfl) (c_jopen bdq2 vlq2 L0 Hlq2 (Value.slice none 0 0) ([]) ([]) _ _ (Mem.give hF6) gg3 (GrowK.none encW 65 104) sL sL okP_nil hn0.1)) ?_
 rintro _ w5 ⟨bnq7, vrq7, rsq7, Hrq7, Hl2q7, rfl, hMq7, hLq7, grq7, gl2q7, k_w5⟩
 have hm5 : Mem w5 (restOf w0) ([(bnq7, .cells #[(ptr bdq2 0), (i64 (((L0.length : Int) / 2) - (oldB L0 ([])).1)), (i64 ((L0.length : Int) / 2)), (u64 (newB L0 ([]))), vrq7, (i64 (roomB (oldB L0 ([])).2 : Int))] 100 (0, 0))] ++ (Hrq7 ++ ([(bdq2, .cells #[vlq2, (Value.slice none 0 0)] 94 (0, 0))] ++ (Hl2q7 ++ ([]))))) := (by
   have hT := Mem.back hF6 k_w5
   try simp only [List.append_assoc, List.cons_append, List.nil_append, List.append_nil] at hT ⊢
   exact hT)
 have hob : oldB L0 [] = ((L0.length : Int) / 2, [[]]) := by rw [hL0]; exact blank_old
 have hr1 : rsq7.map (·.2) = [[]] := by rw [hMq7, hob]
 have hr1l : rsq7.length = 1 := by rw [hLq7, hob]; rfl
 have hm8 : Mem w5 (restOf w0) ([(bnq7, .cells #[(ptr bdq2 0), (i64 0), (i64 ((L0.length : Int) / 2)), (u64 (newB L0 ([]))), vrq7, (i64 (roomB (oldB L0 ([])).2 : Int))] 100 (0, 0))] ++ (Hrq7 ++ ([(bdq2, .cells #[vlq2, (Value.slice none 0 0)] 94 (0, 0))] ++ (Hl2q7 ++ ([]))))) := by rw [show (0 : Int) = (L0.length : Int) / 2 - (oldB L0 []).1 by rw [hob]; omega]; exact hm5
 have hm9 : Mem w5 (restOf w0) ([(bnq7, .cells #[(ptr bdq2 0), (i64 0), (i64 ((L0.length : Int) / 2)), (u64 (newB L0 ([]))), vrq7, (i64 1)] 100 (0, 0))] ++ (Hrq7 ++ ([(bdq2, .cells #[vlq2, (Value.slice none 0 0)] 94 (0, 0))] ++ (Hl2q7 ++ ([]))))) := by rw [show (1 : Int) = (roomB (oldB L0 []).2 : Int) by rw [hob]; exact one1 (m := 0)]; exact hm8
 have hre1 : ∀ p ∈ rsq7, p.2.length ≤ 35184372088832 := map_el hr1 (P := fun b => b.length ≤ 35184372088832) (fun b hb => by have := nil_el b hb; omega)
 have hL1l : (openD L0 []).length = L0.length := openD_len
 refine rw_q rfl (ev_move (v := (Value.tuple #[(ptr bnq7 0), (i64 0)])) rfl) <| rw_q (v := (ptr bnq7 0)) rfl (ev_extract rfl rfl) <| rw_q (v := (i64 0)) rfl (ev_extract rfl rfl) <| rw_q rfl (ev_assign (v := (ptr bnq7 0)) rfl) <| rw_q rfl (ev_assign (v := (i64 0)) rfl) <| rN ?_
 refine CW.abs (fun g => g 0 = (bl false) ∧ g 1 = (ptr bdq2 0) ∧ g 2 = (i64 0) ∧ g 3 = (ptr bnq7 0) ∧ g 4 = (i64 0) ∧ g 14 = (bl false) ∧ True) ⟨rfl, rfl, rfl, rfl, rfl, rfl, trivial⟩ ?_
 rintro fr10 ⟨s0, s1, s2, s3, s4, s14, _⟩
 refine sR <| rM rfl s4 <| rw_q rfl (ev_i64_eql (b := 0) rfl rfl) <| rw_q rfl (ev_move (v := (bl (0 == 0))) rfl) ?_
 have hd11 : (0 == 0) = true := told_true rfl
 refine rw_gyq (s := 22) rfl rfl hd11 rfl (ev_move s3) <| rw_gyq (s := 22) rfl rfl hd11 rfl (ev_ptr_nil_neq uT29 rfl rfl) <| rw_q rfl (ev_pick_tk rfl hd11 rfl) <| rw_q rfl (ev_move (v := (bl true)) rfl) <| rw_gyq (s := 26) rfl rfl rfl rfl (ev_move s3) <| rw_gy (s := 26) rfl rfl rfl rfl (opR_call Try.func19 bd19 nm19 (args1 rfl) (c_jrecords bnq7 bdq2 0 ((L0.length : Int) / 2) (newB L0 ([])) vrq7 rsq7 1 _ hm9.h0 (GrowL.rd grq7 (Mem.pick [_] Hrq7 _ hm9) nN) sL hre1)) ?_
 rintro rq13 w12 ⟨ls2q13, Hsq13, hMq13, hLq13, grq13, k_w12⟩
 have hm12 : Mem w12 (restOf w0) (Hsq13 ++ ([(bnq7, .cells #[(ptr bdq2 0), (i64 0), (i64 ((L0.length : Int) / 2)), (u64 (newB L0 ([]))), vrq7, (i64 1)] 100 (0, 0))] ++ (Hrq7 ++ ([(bdq2, .cells #[vlq2, (Value.slice none 0 0)] 94 (0, 0))] ++ (Hl2q7 ++ ([])))))) := Mem.new (H := [(bnq7, .cells #[(ptr bdq2 0), (i64 0), (i64 ((L0.length : Int) / 2)), (u64 (newB L0 ([]))), vrq7, (i64 1)] 100 (0, 0))] ++ (Hrq7 ++ ([(bdq2, .cells #[vlq2, (Value.slice none 0 0)] 94 (0, 0))] ++ (Hl2q7 ++ ([]))))) (H' := Hsq13) hm9 k_w12
 refine rw_gyq (s := 26) rfl rfl rfl rfl (ev_len_rd (RdL.row (GrowL.rd grq13 hm12 nN)) uT22 rfl) <| rw_gyq (s := 26) rfl rfl rfl rfl (ev_i64_eql (b := 1) rfl rfl) <| rw_q rfl (ev_pick_t rfl rfl) <| rw_q rfl (ev_move (v := (bl ((ls2q13.length : Int) == 1))) rfl) ?_
 have hd14 : ((ls2q13.length : Int) == 1) = true := told_true oM
 refine rw_gyq (s := 32) rfl rfl hd14 rfl (ev_move s3) <| rw_gy (s := 32) rfl rfl hd14 rfl (opR_call Try.func19 bd19 nm19 (args1 rfl) (c_jrecords bnq7 bdq2 0 ((L0.length : Int) / 2) (newB L0 ([])) vrq7 rsq7 1 _ ((Mem.pick Hsq13 [_] _ hm12)).h0 (GrowL.rd grq7 (Mem.pick2 Hsq13 [_] Hrq7 _ hm12) nN) sL hre1)) ?_
 rintro rq16 w15 ⟨ls2q16, Hsq16, hMq16, hLq16, grq16, k_w15⟩
 have hm15 : Mem w15 (restOf w0) (Hsq16 ++ (Hsq13 ++ ([(bnq7, .cells #[(ptr bdq2 0), (i64 0), (i64 ((L0.length : Int) / 2)), (u64 (newB L0 ([]))), vrq7, (i64 1)] 100 (0, 0))] ++ (Hrq7 ++ ([(bdq2, .cells #[vlq2, (Value.slice none 0 0)] 94 (0, 0))] ++ (Hl2q7 ++ ([]))))))) := Mem.new (H := Hsq13 ++ ([(bnq7, .cells #[(ptr bdq2 0), (i64 0), (i64 ((L0.length : Int) / 2)), (u64 (newB L0 ([]))), vrq7, (i64 1)] 100 (0, 0))] ++ (Hrq7 ++ ([(bdq2, .cells #[vlq2, (Value.slice none 0 0)] 94 (0, 0))] ++ (Hl2q7 ++ ([])))))) (H' := Hsq16) hm12 k_w15
 refine rw_gyq (s := 32) rfl rfl hd14 rfl (ev_indexAddr_rdv (i := 0) (RdL.row (GrowL.rd grq16 hm15 nN)) uT22 ti23 rfl rfl oM sL) <| rw_gyq (s := 32) rfl rfl hd14 rfl (ev_load_rdD (l := ls2q16) (i := 0) (dflt := sl0) (RdL.row (GrowL.rd grq16 hm15 nN)) uT23 rfl oM sL rfl) <| rw_gyq (s := 32) rfl rfl hd14 rfl (ev_len_rd (RdL.get (k := 0) (GrowL.rd grq16 hm15 nN) sL) uT23 rfl) <| rw_gyq (s := 32) rfl rfl hd14 rfl (ev_i64_eql (b := 0) rfl rfl) <| rw_q rfl (ev_pick_tk rfl hd14 rfl) <| rw_q rfl (ev_move (v := (bl ((((ls2q16.getD 0 sl0).2).length : Int) == 0))) rfl) ?_
 have hd17 : ((((ls2q16.getD 0 sl0).2).length : Int) == 0) = true := told_true (by rw [snd_getD (hMq16.trans hr1) oM]; rfl)
 refine rw_gyq (s := 40) rfl rfl hd17 rfl (ev_move s3) <| rw_gy (s := 40) rfl rfl hd17 rfl (or_buildSlice_cl u8 [1#8] u8_one hm15 uT23 ti5 rfl rfl rfl) ?_
 rintro _ w18 ⟨b42, rfl, _ew18, hm18⟩
 have hF20 : Mem w18 (restOf w0) (([(bnq7, .cells #[(ptr bdq2 0), (i64 0), (i64 ((L0.length : Int) / 2)), (u64 (newB L0 ([]))), vrq7, (i64 1)] 100 (0, 0))] ++ (Hrq7 ++ ([(bdq2, .cells #[vlq2, (Value.slice none 0 0)] 94 (0, 0))] ++ (Hl2q7 ++ ([] ++ ([])))))) ++ ([(b42, .cells (cl u8 ([1#8])) 5 (0, 0))] ++ (Hsq16 ++ (Hsq13 ++ ([]))))) := by
   have hT := (Mem.pick6 Hrq7 [_] Hl2q7 [_] Hsq16 Hsq13 [_] _ (Mem.pick6 [_] Hl2q7 [_] Hsq16 Hsq13 [_] Hrq7 _ (Mem.pick6 Hl2q7 [_] Hsq16 Hsq13 [_] Hrq7 [_] _ (Mem.pick6 [_] Hsq16 Hsq13 [_] Hrq7 [_] Hl2q7 _ hm18))))
   try simp only [List.append_assoc, List.cons_append, List.nil_append, List.append_nil] at hT ⊢
   exact hT
 refine rw_gy (s := 40) rfl rfl hd17 rfl (opR_call Try.func15 bd15 nm15 (args2 rfl rfl) (c_jappend1 bnq7 0 ((L0.length : Int) / 2) (newB L0 ([])) vrq7 rsq7 Hrq7 1 bdq2 vlq2 (openD L0 ([])) Hl2q7 (Value.slice none 0 0) ([]) ([]) (slc b42 0 1 1) ([1#8]) _ _ (Mem.give hF20) grq7 gl2q7 (GrowK.none encW 65 104) (Rd.mkA (Mem.addOwn hF20 (List.mem_append_left _ (List.Mem.head _)))) sL sL sL sL sL sL sL okP_nil (by rw [show (L0.length : Int) / 2 = 2 by omega]; exact fit_one))) ?_
 rintro _ w19 ⟨vr2q21, rs2q21, Hr2q21, Hl2q21, rfl, hMq21, hLq21, gr2q21, gl2q21, k_w19⟩
 have hm19 : Mem w19 (restOf w0) ([(bnq7, .cells #[(ptr bdq2 0), (i64 0), (i64 ((L0.length : Int) / 2)), (u64 (newB L0 ([]))), vr2q21, (i64 (1 + (blocksN ([1#8]).length : Int)))] 100 (0, 0))] ++ (Hr2q21 ++ ([(bdq2, .cells #[vlq2, (Value.slice none 0 0)] 94 (0, 0))] ++ (Hl2q21 ++ ([(b42, .cells (cl u8 ([1#8])) 5 (0, 0))] ++ (Hsq16 ++ (Hsq13 ++ ([])))))))) := (by
   have hT := Mem.back hF20 k_w19
   try simp only [List.append_assoc, List.cons_append, List.nil_append, List.append_nil] at hT ⊢
   exact hT)
 refine rw_gyq (s := 40) rfl rfl hd17 rfl (ev_i64_eql (b := 0) rfl rfl) <| rw_q rfl (ev_pick_tk rfl hd17 rfl) <| rw_q rfl (ev_assign (v := (bl (0 == 0))) rfl) <| rN ?_
 have hm22 := Mem.drop ([(b42, .cells (cl u8 ([1#8])) 5 (0, 0))]) _ (Mem.pick4 [_] Hr2q21 [_] Hl2q21 [_] _ hm19)
 have hm23 := Mem.drop Hsq16 _ (Mem.pick4 [_] Hr2q21 [_] Hl2q21 Hsq16 _ hm22)
 have hm24 := Mem.drop Hsq13 _ (Mem.pick4 [_] Hr2q21 [_] Hl2q21 Hsq13 _ hm23)
 refine CW.abs (fun g => g 0 = (bl (0 == 0)) ∧ g 1 = (ptr bdq2 0) ∧ g 2 = (i64 0) ∧ g 3 = (ptr bnq7 0) ∧ g 4 = (i64 0) ∧ g 14 = (bl false) ∧ True) ⟨rfl, s1, s2, s3, s4, s14, trivial⟩ ?_
 rintro fr25 ⟨s0, s1, s2, s3, s4, s14, _⟩
 refine cw_ret <| fnPost_ret [(bl (0 == 0))] ⟨s0, trivial⟩ ?_
 exact ⟨congrArg bl (hd11), hm24.toExt⟩


end Go.Proofs.Ytfbnhoolkajebaa
