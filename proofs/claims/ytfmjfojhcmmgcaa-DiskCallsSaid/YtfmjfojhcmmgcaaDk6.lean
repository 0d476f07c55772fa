/- The law of torn writes: its walk. Conditions: none beyond those that each theorem states. -/
import Derived.Test.YtfmjfojhcmmgcaaDk5
namespace Go.Proofs.Ytfmjfojhcmmgcaa
set_option linter.unusedVariables false
set_option linter.unusedSimpArgs false
attribute [local irreducible] crashB crashK pushB readB inB errB cutN seenW

theorem c_speaks14  (w0 : World)   : CallsR Try.prog 23 #[] w0 (fun r w1 => r = (bl true) ∧ Ext w0 w1) := by
 refine callsR_of_cw (args := []) Try.func23 rfl Try.ntmps23 Try.results23 rfl ?_
 have hm0 : Mem w0 (restOf w0) [] := Mem.of_world w0
 refine sR <| rw_q rfl (ev_assign (v := (bl false)) rfl) ?_
 refine rN (sR ?_)
 refine rw_c rfl (opR_call Try.func24 bd24 nm24 (args1 rfl) (c_dnew (2 : Int) _ sL)) ?_
 rintro _ w1 ⟨bdq2, vlq2, Hlq2, rfl, glq2, k_w1⟩
 have hm1 : Mem w1 (restOf w0) ([(bdq2, .cells #[vlq2, (Value.slice none 0 0)] 88 (0, 0))] ++ (Hlq2 ++ ([]))) := (by
   have hT := Mem.new (H := []) (H' := _) hm0 k_w1
   simp only [List.append_assoc, List.cons_append, List.nil_append, List.append_nil] at hT ⊢
   exact hT)
 obtain ⟨L0, hL0⟩ : ∃ q : List (List (BitVec 8)), q = (List.replicate (2 : Int).toNat (List.replicate 64 0)) := ⟨_, rfl⟩
 have hL0l : L0.length = 2 := by rw [hL0]; rfl
 have gg3 : GrowK (encA u8) 64 43 vlq2 L0 Hlq2 := GrowK.cast glq2 (hL0.symm)
 have hin_L0_1 : inB L0 1 = true := inB_of oM oM
 refine rw_q rfl (ev_move (v := (Value.tuple #[(ptr bdq2 0), (i64 0)])) rfl) <| rw_q (v := (ptr bdq2 0)) rfl (ev_extract rfl rfl) <| rw_q (v := (i64 0)) rfl (ev_extract rfl rfl) <| rw_q rfl (ev_assign (v := (ptr bdq2 0)) rfl) <| rw_q rfl (ev_assign (v := (i64 0)) rfl) ?_
 refine rN (cw_seq (sR ?_))
 refine rw_q rfl (ev_move (v := (i64 0)) rfl) <| rw_q rfl (ev_i64_neq (b := 0) rfl rfl) <| rw_q rfl (ev_move (v := (bl (0 != 0))) rfl) ?_
 have hd4 : (0 != 0) = false := told_ne rfl
 refine rw_gyq (s := 11) rfl rfl hd4 rfl (ev_move (v := (ptr bdq2 0)) rfl) <| rw_gyq (s := 11) rfl rfl hd4 rfl (ev_ptr_nil_eql uT44 rfl rfl) <| rw_q rfl (ev_pick_fk rfl hd4 rfl) <| rw_q rfl (ev_move (v := (bl false)) rfl) <| rw_gyq (s := 15) rfl rfl rfl rfl (ev_move (v := (ptr bdq2 0)) rfl) <| rw_gyq (s := 15) rfl rfl rfl rfl (ev_build_pa (c := (cl u8 ([7#8, 8#8, 0#8, 0#8, 0#8, 0#8, 0#8, 0#8, 0#8, 0#8, 0#8, 0#8, 0#8, 0#8, 0#8, 0#8, 0#8, 0#8, 0#8, 0#8, 0#8, 0#8, 0#8, 0#8, 0#8, 0#8, 0#8, 0#8, 0#8, 0#8, 0#8, 0#8, 0#8, 0#8, 0#8, 0#8, 0#8, 0#8, 0#8, 0#8, 0#8, 0#8, 0#8, 0#8, 0#8, 0#8, 0#8, 0#8, 0#8, 0#8, 0#8, 0#8, 0#8, 0#8, 0#8, 0#8, 0#8, 0#8, 0#8, 0#8, 0#8, 0#8, 0#8, 0#8]))) ti43 uT43 ti5 (pm_cons (i := 0) (v := (u8 7#8)) (cs := #[(u8 7#8)]) rfl rfl (pm_cons (i := 1) (v := (u8 8#8)) (cs := #[(u8 8#8)]) rfl rfl pm_nil)) (by kernel_rfl)) ?_
 have hF6 : Mem w1 (restOf w0) (([(bdq2, .cells #[vlq2, (Value.slice none 0 0)] 88 (0, 0))] ++ (Hlq2 ++ ([] ++ ([])))) ++ ([])) := by
   have hT := (Mem.pick Hlq2 [_] _ (Mem.pick [_] Hlq2 _ hm1))
   simp only [List.append_assoc, List.cons_append, List.nil_append, List.append_nil] at hT ⊢
   exact hT
 refine rw_gy (s := 15) rfl rfl rfl rfl (opR_call Try.func25 bd25 nm25 (args3 rfl rfl rfl) (c_dwrite bdq2 vlq2 L0 Hlq2 (Value.slice none 0 0) ([]) ([]) (1 : Int) ([7#8, 8#8, 0#8, 0#8, 0#8, 0#8, 0#8, 0#8, 0#8, 0#8, 0#8, 0#8, 0#8, 0#8, 0#8, 0#8, 0#8, 0#8, 0#8, 0#8, 0#8, 0#8, 0#8, 0#8, 0#8, 0#8, 0#8, 0#8, 0#8, 0#8, 0#8, 0#8, 0#8, 0#8, 0#8, 0#8, 0#8, 0#8, 0#8, 0#8, 0#8, 0#8, 0#8, 0#8, 0#8, 0#8, 0#8, 0#8, 0#8, 0#8, 0#8, 0#8, 0#8, 0#8, 0#8, 0#8, 0#8, 0#8, 0#8, 0#8, 0#8, 0#8, 0#8, 0#8]) _ _ (Mem.give hF6) gg3 (GrowK.none encW 65 91) sL sL sL)) ?_
 rintro _ w5 ⟨vp2q7, Hp2q7, rfl, gp2q7, k_w5⟩
 have hm5 : Mem w5 (restOf w0) ([(bdq2, .cells #[vlq2, vp2q7] 88 (0, 0))] ++ (Hlq2 ++ (Hp2q7 ++ ([])))) := (by
   have hT := Mem.back hF6 k_w5
   simp only [List.append_assoc, List.cons_append, List.nil_append, List.append_nil] at hT ⊢
   exact hT)
 have gg8 : GrowK encW 65 91 vp2q7 ([WriteT.mk 1 ([7#8, 8#8, 0#8, 0#8, 0#8, 0#8, 0#8, 0#8, 0#8, 0#8, 0#8, 0#8, 0#8, 0#8, 0#8, 0#8, 0#8, 0#8, 0#8, 0#8, 0#8, 0#8, 0#8, 0#8, 0#8, 0#8, 0#8, 0#8, 0#8, 0#8, 0#8, 0#8, 0#8, 0#8, 0#8, 0#8, 0#8, 0#8, 0#8, 0#8, 0#8, 0#8, 0#8, 0#8, 0#8, 0#8, 0#8, 0#8, 0#8, 0#8, 0#8, 0#8, 0#8, 0#8, 0#8, 0#8, 0#8, 0#8, 0#8, 0#8, 0#8, 0#8, 0#8, 0#8])]) Hp2q7 := GrowK.cast gp2q7 (push_ok (ps := []) hin_L0_1)
 refine rw_gyq (s := 15) rfl rfl rfl rfl (ev_i64_neq (b := 0) rfl rfl) <| rw_q rfl (ev_pick_f rfl rfl) <| rN ?_
 refine CW.abs (fun g => g 0 = (bl false) ∧ g 1 = (ptr bdq2 0) ∧ g 2 = (i64 0) ∧ g 20 = (bl ((errB L0 (1 : Int)) != 0)) ∧ True) ⟨rfl, rfl, rfl, rfl, trivial⟩ ?_
 rintro fr9 ⟨s0, s1, s2, s20, _⟩
 have hd10 : ((errB L0 (1 : Int)) != 0) = false := told_ne (err_ok hin_L0_1)
 refine cw_cond_f s20 hd10 ?_
 refine cw_skip (kThen_normal (sR ?_))
 refine rM rfl s1 <| rw_c rfl (or_buildSlice_cl u8 [5#8] u8_one hm5 uT24 ti5 rfl rfl rfl) ?_
 rintro _ w11 ⟨b22, rfl, _ew11, hm11⟩
 have hF13 : Mem w11 (restOf w0) (([(bdq2, .cells #[vlq2, vp2q7] 88 (0, 0))] ++ (Hlq2 ++ (Hp2q7 ++ ([])))) ++ ([(b22, .cells (cl u8 ([5#8])) 5 (0, 0))])) := by
   have hT := (Mem.pick3 Hlq2 Hp2q7 [_] [_] _ (Mem.pick2 Hp2q7 [_, _] Hlq2 _ (Mem.pick2 [_, _] Hlq2 Hp2q7 _ hm11)))
   simp only [List.append_assoc, List.cons_append, List.nil_append, List.append_nil] at hT ⊢
   exact hT
 refine rw_c rfl (opR_call Try.func27 bd27 nm27 (args2 rfl rfl) (c_dcrash bdq2 vlq2 L0 Hlq2 vp2q7 ([WriteT.mk 1 ([7#8, 8#8, 0#8, 0#8, 0#8, 0#8, 0#8, 0#8, 0#8, 0#8, 0#8, 0#8, 0#8, 0#8, 0#8, 0#8, 0#8, 0#8, 0#8, 0#8, 0#8, 0#8, 0#8, 0#8, 0#8, 0#8, 0#8, 0#8, 0#8, 0#8, 0#8, 0#8, 0#8, 0#8, 0#8, 0#8, 0#8, 0#8, 0#8, 0#8, 0#8, 0#8, 0#8, 0#8, 0#8, 0#8, 0#8, 0#8, 0#8, 0#8, 0#8, 0#8, 0#8, 0#8, 0#8, 0#8, 0#8, 0#8, 0#8, 0#8, 0#8, 0#8, 0#8, 0#8])]) Hp2q7 (slc b22 0 1 1) ([5#8]) _ _ (Mem.give hF13) gg3 gg8 (Rd.mkA (Mem.addOwn hF13 (List.Mem.head _))) (hat_one oM oM) sL sL sL)) ?_
 rintro _ w12 ⟨Hl2q14, rfl, gl2q14, k_w12⟩
 have hm12 : Mem w12 (restOf w0) ([(bdq2, .cells #[vlq2, (Value.slice none 0 0)] 88 (0, 0))] ++ (Hl2q14 ++ ([(b22, .cells (cl u8 ([5#8])) 5 (0, 0))]))) := (by
   have hT := Mem.back hF13 k_w12
   simp only [List.append_assoc, List.cons_append, List.nil_append, List.append_nil] at hT ⊢
   exact hT)
 obtain ⟨L2, hL2⟩ : ∃ q : List (List (BitVec 8)), q = (crashB L0 ([WriteT.mk 1 ([7#8, 8#8, 0#8, 0#8, 0#8, 0#8, 0#8, 0#8, 0#8, 0#8, 0#8, 0#8, 0#8, 0#8, 0#8, 0#8, 0#8, 0#8, 0#8, 0#8, 0#8, 0#8, 0#8, 0#8, 0#8, 0#8, 0#8, 0#8, 0#8, 0#8, 0#8, 0#8, 0#8, 0#8, 0#8, 0#8, 0#8, 0#8, 0#8, 0#8, 0#8, 0#8, 0#8, 0#8, 0#8, 0#8, 0#8, 0#8, 0#8, 0#8, 0#8, 0#8, 0#8, 0#8, 0#8, 0#8, 0#8, 0#8, 0#8, 0#8, 0#8, 0#8, 0#8, 0#8])]) ([5#8])) := ⟨_, rfl⟩
 have hL2l : L2.length = 2 := by rw [hL2]; exact crashB_len.trans hL0l
 have gg15 : GrowK (encA u8) 64 43 vlq2 L2 Hl2q14 := GrowK.cast gl2q14 (hL2.symm)
 have hin_L2_1 : inB L2 1 = true := inB_of oM oM
 have hx1 : (readB L2 [] 1).length = 64 := by rw [hL2, hL0]; decide +kernel
 refine rN (sR ?_)
 refine rM rfl s1 <| rw_c rfl (opR_call Try.func28 bd28 nm28 (args2 rfl rfl) (c_dread bdq2 vlq2 L2 (Value.slice none 0 0) ([]) (1 : Int) _ hm12.h0 (gg15.rd (Mem.pick [_] Hl2q14 _ hm12)) (RdK.nil _ _) sL sL)) ?_
 rintro _ w16 ⟨rfl, _ew16⟩
 have hm16 := hm12.ext _ew16
 refine rw_q rfl (ev_move (v := (Value.tuple #[(agg u8 (readB L2 ([]) (1 : Int))), (i64 (errB L2 (1 : Int)))])) rfl) <| rw_q (v := (agg u8 (readB L2 ([]) (1 : Int)))) rfl (ev_extract rfl rfl) <| rw_q (v := (i64 (errB L2 (1 : Int)))) rfl (ev_extract rfl rfl) <| rw_c rfl (or_alloc_agg hm16 ti43) ?_
 rintro _ w18 ⟨b3, rfl, _ew18, hm18⟩
 refine rw_n (or_store_agg (f := u8) (l := readB L2 ([]) (1 : Int)) u8_one ti43 rfl rfl sL hm18.h0 (by rw [size_cl]; first | omega | (simp only [List.length_set, List.length_append, List.length_replicate, List.length_map, List.length_cons, List.length_nil]; omega) | (simp; done) | (simp; omega) | decide) rfl) ?_
 rintro _ w19 uq19
 have hm19 := hm18.upd0 uq19
 refine rw_q rfl (ev_assign (v := (i64 (errB L2 (1 : Int)))) rfl) ?_
 refine rN (sR ?_)
 refine rw_q rfl (ev_move (v := (i64 (errB L2 (1 : Int)))) rfl) <| rw_q rfl (ev_i64_eql (b := 0) rfl rfl) <| rw_q rfl (ev_move (v := (bl ((errB L2 (1 : Int)) == 0))) rfl) ?_
 have hd20 : ((errB L2 (1 : Int)) == 0) = true := told_true (err_ok hin_L2_1)
 refine rw_gyq (s := 31) rfl rfl hd20 rfl (ev_loadA uT43 rfl ti43 rfl hm19.h0 (by rw [size_cl]; first | omega | (simp only [List.length_set, List.length_append, List.length_replicate, List.length_map, List.length_cons, List.length_nil]; omega) | (simp; done) | (simp; omega) | decide)) <| rw_gyq (s := 31) rfl rfl hd20 rfl (ev_build_pa (c := (cl u8 ([7#8, 0#8, 0#8, 0#8, 0#8, 0#8, 0#8, 0#8, 0#8, 0#8, 0#8, 0#8, 0#8, 0#8, 0#8, 0#8, 0#8, 0#8, 0#8, 0#8, 0#8, 0#8, 0#8, 0#8, 0#8, 0#8, 0#8, 0#8, 0#8, 0#8, 0#8, 0#8, 0#8, 0#8, 0#8, 0#8, 0#8, 0#8, 0#8, 0#8, 0#8, 0#8, 0#8, 0#8, 0#8, 0#8, 0#8, 0#8, 0#8, 0#8, 0#8, 0#8, 0#8, 0#8, 0#8, 0#8, 0#8, 0#8, 0#8, 0#8, 0#8, 0#8, 0#8, 0#8]))) ti43 uT43 ti5 (pm_cons (i := 0) (v := (u8 7#8)) (cs := #[(u8 7#8)]) rfl rfl pm_nil) (by kernel_rfl)) <| rw_gyq (s := 31) rfl rfl hd20 rfl (ev_u8arr_eql (l := readB L2 ([]) (1 : Int)) (m := [7#8, 0#8, 0#8, 0#8, 0#8, 0#8, 0#8, 0#8, 0#8, 0#8, 0#8, 0#8, 0#8, 0#8, 0#8, 0#8, 0#8, 0#8, 0#8, 0#8, 0#8, 0#8, 0#8, 0#8, 0#8, 0#8, 0#8, 0#8, 0#8, 0#8, 0#8, 0#8, 0#8, 0#8, 0#8, 0#8, 0#8, 0#8, 0#8, 0#8, 0#8, 0#8, 0#8, 0#8, 0#8, 0#8, 0#8, 0#8, 0#8, 0#8, 0#8, 0#8, 0#8, 0#8, 0#8, 0#8, 0#8, 0#8, 0#8, 0#8, 0#8, 0#8, 0#8, 0#8]) uT43 uT5 ti5 Try.eqGuardType43 rfl rfl (by first | rfl | first | omega | (simp only [List.length_set, List.length_append, List.length_replicate, List.length_map, List.length_cons, List.length_nil]; omega) | (simp; done) | (simp; omega) | decide) (by first | rfl | first | omega | (simp only [List.length_set, List.length_append, List.length_replicate, List.length_map, List.length_cons, List.length_nil]; omega) | (simp; done) | (simp; omega) | decide)) <| rw_q rfl (ev_pick_tk rfl hd20 rfl) <| rA rfl rfl <| rN ?_
 have hm21 := Mem.drop ([(b22, .cells (cl u8 ([5#8])) 5 (0, 0))]) _ (Mem.pick2 [_, _] Hl2q14 [_] _ hm19)
 refine CW.abs (fun g => g 0 = (bl ((readB L2 ([]) (1 : Int)) == ([7#8, 0#8, 0#8, 0#8, 0#8, 0#8, 0#8, 0#8, 0#8, 0#8, 0#8, 0#8, 0#8, 0#8, 0#8, 0#8, 0#8, 0#8, 0#8, 0#8, 0#8, 0#8, 0#8, 0#8, 0#8, 0#8, 0#8, 0#8, 0#8, 0#8, 0#8, 0#8, 0#8, 0#8, 0#8, 0#8, 0#8, 0#8, 0#8, 0#8, 0#8, 0#8, 0#8, 0#8, 0#8, 0#8, 0#8, 0#8, 0#8, 0#8, 0#8, 0#8, 0#8, 0#8, 0#8, 0#8, 0#8, 0#8, 0#8, 0#8, 0#8, 0#8, 0#8, 0#8]))) ∧ g 1 = (ptr bdq2 0) ∧ g 2 = (i64 0) ∧ g 3 = (ptr b3 0) ∧ g 4 = (i64 (errB L2 (1 : Int))) ∧ g 20 = (bl ((errB L0 (1 : Int)) != 0)) ∧ True) ⟨rfl, s1, s2, rfl, rfl, s20, trivial⟩ ?_
 rintro fr22 ⟨s0, s1, s2, s3, s4, s20, _⟩
 refine cw_ret <| fnPost_ret [(bl ((readB L2 ([]) (1 : Int)) == ([7#8, 0#8, 0#8, 0#8, 0#8, 0#8, 0#8, 0#8, 0#8, 0#8, 0#8, 0#8, 0#8, 0#8, 0#8, 0#8, 0#8, 0#8, 0#8, 0#8, 0#8, 0#8, 0#8, 0#8, 0#8, 0#8, 0#8, 0#8, 0#8, 0#8, 0#8, 0#8, 0#8, 0#8, 0#8, 0#8, 0#8, 0#8, 0#8, 0#8, 0#8, 0#8, 0#8, 0#8, 0#8, 0#8, 0#8, 0#8, 0#8, 0#8, 0#8, 0#8, 0#8, 0#8, 0#8, 0#8, 0#8, 0#8, 0#8, 0#8, 0#8, 0#8, 0#8, 0#8])))] ⟨s0, trivial⟩ ?_
 have hd23 : ((readB L2 ([]) (1 : Int)) == ([7#8, 0#8, 0#8, 0#8, 0#8, 0#8, 0#8, 0#8, 0#8, 0#8, 0#8, 0#8, 0#8, 0#8, 0#8, 0#8, 0#8, 0#8, 0#8, 0#8, 0#8, 0#8, 0#8, 0#8, 0#8, 0#8, 0#8, 0#8, 0#8, 0#8, 0#8, 0#8, 0#8, 0#8, 0#8, 0#8, 0#8, 0#8, 0#8, 0#8, 0#8, 0#8, 0#8, 0#8, 0#8, 0#8, 0#8, 0#8, 0#8, 0#8, 0#8, 0#8, 0#8, 0#8, 0#8, 0#8, 0#8, 0#8, 0#8, 0#8, 0#8, 0#8, 0#8, 0#8])) = true := told_true (by rw [hL2, hL0]; decide +kernel)
 exact ⟨congrArg bl (hd23), hm21.toExt⟩

theorem law_torn (old b : List (BitVec 8)) (p : BitVec 8) (w0 : World)  (hol : old.length = 64) (hbl : b.length = 64) : CallsR Try.prog 6 #[(agg u8 old), (agg u8 b), (u8 p)] w0 (fun r w1 => r = bl true ∧ RowKit.Below w0.heap.size w0 w1) := by
 refine callsR_of_cw (args := [(agg u8 old), (agg u8 b), (u8 p)]) Try.func6 rfl Try.ntmps6 Try.results6 rfl ?_
 have hm0 : Mem w0 (restOf w0) [] := Mem.of_world w0
 have hcl := cutN_le p
 refine sR <| rw_c rfl (or_box_agg (f := u8) (l := old) hm0 rfl) ?_
 rintro _ w1 ⟨b3, rfl, _ew1, hm1⟩
 refine rw_c rfl (or_box_agg (f := u8) (l := b) hm1 rfl) ?_
 rintro _ w2 ⟨b4, rfl, _ew2, hm2⟩
 refine rw_q rfl (ev_assign (v := (bl false)) rfl) ?_
 refine rN (cw_seq (sR ?_))
 refine rw_c rfl (opR_call Try.func23 bd23 nm23 (args0) (c_speaks14 _)) ?_
 rintro _ w3 ⟨rfl, _ew3⟩
 have hm3 := hm2.ext _ew3
 refine rw_q (v := (bl false)) rfl (ev_not (b := true) rfl) <| rN <| cw_cond_f rfl (by decide) ?_
 refine cw_skip (kThen_normal (sR ?_))
 refine rw_c rfl (opR_call Try.func24 bd24 nm24 (args1 rfl) (c_dnew (3 : Int) _ sL)) ?_
 rintro _ w5 ⟨bdq6, vlq6, Hlq6, rfl, glq6, k_w5⟩
 have hm5 : Mem w5 (restOf w0) ([(bdq6, .cells #[vlq6, (Value.slice none 0 0)] 88 (0, 0))] ++ (Hlq6 ++ ([(b4, .cells (cl u8 b) 43 (0, 0)), (b3, .cells (cl u8 old) 43 (0, 0))]))) := (by
   have hT := Mem.new (H := [(b4, .cells (cl u8 b) 43 (0, 0)), (b3, .cells (cl u8 old) 43 (0, 0))]) (H' := _) hm3 k_w5
   simp only [List.append_assoc, List.cons_append, List.nil_append, List.append_nil] at hT ⊢
   exact hT)
 obtain ⟨L0, hL0⟩ : ∃ q : List (List (BitVec 8)), q = (List.replicate (3 : Int).toNat (List.replicate 64 0)) := ⟨_, rfl⟩
 have hL0l : L0.length = 3 := by rw [hL0]; rfl
 have gg7 : GrowK (encA u8) 64 43 vlq6 L0 Hlq6 := GrowK.cast glq6 (hL0.symm)
 have hin_L0_1 : inB L0 1 = true := inB_of oM oM
 refine rw_q rfl (ev_move (v := (Value.tuple #[(ptr bdq6 0), (i64 0)])) rfl) <| rw_q (v := (ptr bdq6 0)) rfl (ev_extract rfl rfl) <| rw_q (v := (i64 0)) rfl (ev_extract rfl rfl) <| rw_q rfl (ev_assign (v := (ptr bdq6 0)) rfl) <| rw_q rfl (ev_assign (v := (i64 0)) rfl) ?_
 refine rN (cw_seq (sR ?_))
 refine rw_q rfl (ev_move (v := (i64 0)) rfl) <| rw_q rfl (ev_i64_neq (b := 0) rfl rfl) <| rw_q rfl (ev_move (v := (bl (0 != 0))) rfl) ?_
 have hd8 : (0 != 0) = false := told_ne rfl
 refine rw_gyq (s := 23) rfl rfl hd8 rfl (ev_move (v := (ptr bdq6 0)) rfl) <| rw_gyq (s := 23) rfl rfl hd8 rfl (ev_ptr_nil_eql uT44 rfl rfl) <| rw_q rfl (ev_pick_fk rfl hd8 rfl) <| rw_q rfl (ev_move (v := (bl false)) rfl) <| rw_gyq (s := 27) rfl rfl rfl rfl (ev_move (v := (ptr bdq6 0)) rfl) <| rw_gyq (s := 27) rfl rfl rfl rfl (ev_loadA uT43 rfl ti43 rfl ((Mem.pick3 [_] Hlq6 [_] [_] _ hm5)).h0 (by rw [size_cl]; first | omega | (simp only [List.length_set, List.length_append, List.length_replicate, List.length_map, List.length_cons, List.length_nil]; omega) | (simp; done) | (simp; omega) | decide)) ?_
 have hF10 : Mem w5 (restOf w0) (([(bdq6, .cells #[vlq6, (Value.slice none 0 0)] 88 (0, 0))] ++ (Hlq6 ++ ([] ++ ([])))) ++ ([(b4, .cells (cl u8 b) 43 (0, 0)), (b3, .cells (cl u8 old) 43 (0, 0))])) := by
   have hT := (Mem.pick Hlq6 [_] _ (Mem.pick [_] Hlq6 _ hm5))
   simp only [List.append_assoc, List.cons_append, List.nil_append, List.append_nil] at hT ⊢
   exact hT
 refine rw_gy (s := 27) rfl rfl rfl rfl (opR_call Try.func25 bd25 nm25 (args3 rfl rfl rfl) (c_dwrite bdq6 vlq6 L0 Hlq6 (Value.slice none 0 0) ([]) ([]) (1 : Int) old _ _ (Mem.give hF10) gg7 (GrowK.none encW 65 91) sL sL sL)) ?_
 rintro _ w9 ⟨vp2q11, Hp2q11, rfl, gp2q11, k_w9⟩
 have hm9 : Mem w9 (restOf w0) ([(bdq6, .cells #[vlq6, vp2q11] 88 (0, 0))] ++ (Hlq6 ++ (Hp2q11 ++ ([(b4, .cells (cl u8 b) 43 (0, 0)), (b3, .cells (cl u8 old) 43 (0, 0))])))) := (by
   have hT := Mem.back hF10 k_w9
   simp only [List.append_assoc, List.cons_append, List.nil_append, List.append_nil] at hT ⊢
   exact hT)
 have gg12 : GrowK encW 65 91 vp2q11 ([WriteT.mk 1 old]) Hp2q11 := GrowK.cast gp2q11 (push_ok (ps := []) hin_L0_1)
 refine rw_gyq (s := 27) rfl rfl rfl rfl (ev_i64_neq (b := 0) rfl rfl) <| rw_q rfl (ev_pick_f rfl rfl) <| rN ?_
 refine CW.abs (fun g => g 0 = (agg u8 old) ∧ g 1 = (agg u8 b) ∧ g 2 = (u8 p) ∧ g 3 = (ptr b3 0) ∧ g 4 = (ptr b4 0) ∧ g 6 = (bl false) ∧ g 7 = (ptr bdq6 0) ∧ g 8 = (i64 0) ∧ g 16 = (bl false) ∧ g 32 = (bl ((errB L0 (1 : Int)) != 0)) ∧ True) ⟨rfl, rfl, rfl, rfl, rfl, rfl, rfl, rfl, rfl, rfl, trivial⟩ ?_
 rintro fr13 ⟨s0, s1, s2, s3, s4, s6, s7, s8, s16, s32, _⟩
 have hd14 : ((errB L0 (1 : Int)) != 0) = false := told_ne (err_ok hin_L0_1)
 refine cw_cond_f s32 hd14 ?_
 refine cw_skip (kThen_normal (sR ?_))
 refine rM rfl s7 ?_
 have hF16 : Mem w9 (restOf w0) (([(bdq6, .cells #[vlq6, vp2q11] 88 (0, 0))] ++ (Hlq6 ++ (Hp2q11 ++ ([])))) ++ ([(b4, .cells (cl u8 b) 43 (0, 0)), (b3, .cells (cl u8 old) 43 (0, 0))])) := by
   have hT := (Mem.pick2 Hlq6 Hp2q11 [_] _ (Mem.pick2 Hp2q11 [_] Hlq6 _ (Mem.pick2 [_] Hlq6 Hp2q11 _ hm9)))
   simp only [List.append_assoc, List.cons_append, List.nil_append, List.append_nil] at hT ⊢
   exact hT
 refine rw_c rfl (opR_call Try.func26 bd26 nm26 (args1 rfl) (c_dsync bdq6 vlq6 L0 Hlq6 vp2q11 ([WriteT.mk 1 old]) Hp2q11 _ _ (Mem.give hF16) gg7 gg12 (hat_one oM oM) sL sL)) ?_
 rintro _ w15 ⟨Hl2q17, rfl, gl2q17, k_w15⟩
 have hm15 : Mem w15 (restOf w0) ([(bdq6, .cells #[vlq6, (Value.slice none 0 0)] 88 (0, 0))] ++ (Hl2q17 ++ ([(b4, .cells (cl u8 b) 43 (0, 0)), (b3, .cells (cl u8 old) 43 (0, 0))]))) := (by
   have hT := Mem.back hF16 k_w15
   simp only [List.append_assoc, List.cons_append, List.nil_append, List.append_nil] at hT ⊢
   exact hT)
 obtain ⟨L1, hL1⟩ : ∃ q : List (List (BitVec 8)), q = (crashB L0 ([WriteT.mk 1 old]) [1#8]) := ⟨_, rfl⟩
 have hL1l : L1.length = 3 := by rw [hL1]; exact crashB_len.trans hL0l
 have gg18 : GrowK (encA u8) 64 43 vlq6 L1 Hl2q17 := GrowK.cast gl2q17 (hL1.symm)
 have hin_L1_1 : inB L1 1 = true := inB_of oM oM
 refine rN (sR ?_)
 refine rM rfl s7 <| rw_q (v := (agg u8 b)) rfl (ev_loadA uT43 rfl ti43 s4 ((Mem.pick2 [_] Hl2q17 [_] _ hm15)).h0 (by rw [size_cl]; first | omega | (simp only [List.length_set, List.length_append, List.length_replicate, List.length_map, List.length_cons, List.length_nil]; omega) | (simp; done) | (simp; omega) | decide)) ?_
 have hF20 : Mem w15 (restOf w0) (([(bdq6, .cells #[vlq6, (Value.slice none 0 0)] 88 (0, 0))] ++ (Hl2q17 ++ ([] ++ ([])))) ++ ([(b4, .cells (cl u8 b) 43 (0, 0)), (b3, .cells (cl u8 old) 43 (0, 0))])) := by
   have hT := (Mem.pick Hl2q17 [_] _ (Mem.pick [_] Hl2q17 _ hm15))
   simp only [List.append_assoc, List.cons_append, List.nil_append, List.append_nil] at hT ⊢
   exact hT
 refine rw_c rfl (opR_call Try.func25 bd25 nm25 (args3 rfl rfl rfl) (c_dwrite bdq6 vlq6 L1 Hl2q17 (Value.slice none 0 0) ([]) ([]) (1 : Int) b _ _ (Mem.give hF20) gg18 (GrowK.none encW 65 91) sL sL sL)) ?_
 rintro _ w19 ⟨vp2q21, Hp2q21, rfl, gp2q21, k_w19⟩
 have hm19 : Mem w19 (restOf w0) ([(bdq6, .cells #[vlq6, vp2q21] 88 (0, 0))] ++ (Hl2q17 ++ (Hp2q21 ++ ([(b4, .cells (cl u8 b) 43 (0, 0)), (b3, .cells (cl u8 old) 43 (0, 0))])))) := (by
   have hT := Mem.back hF20 k_w19
   simp only [List.append_assoc, List.cons_append, List.nil_append, List.append_nil] at hT ⊢
   exact hT)
 have gg22 : GrowK encW 65 91 vp2q21 ([WriteT.mk 1 b]) Hp2q21 := GrowK.cast gp2q21 (push_ok (ps := []) hin_L1_1)
 refine rN (sR ?_)
 refine rM rfl s7 <| rM rfl s2 <| rw_c rfl (or_buildSlice_cl u8 [p] u8_one hm19 uT24 ti5 rfl rfl rfl) ?_
 rintro _ w23 ⟨b40, rfl, _ew23, hm23⟩
 have hF25 : Mem w23 (restOf w0) (([(bdq6, .cells #[vlq6, vp2q21] 88 (0, 0))] ++ (Hl2q17 ++ (Hp2q21 ++ ([])))) ++ ([(b40, .cells (cl u8 ([p])) 5 (0, 0)), (b4, .cells (cl u8 b) 43 (0, 0)), (b3, .cells (cl u8 old) 43 (0, 0))])) := by
   have hT := (Mem.pick3 Hl2q17 Hp2q21 [_] [_] _ (Mem.pick2 Hp2q21 [_, _] Hl2q17 _ (Mem.pick2 [_, _] Hl2q17 Hp2q21 _ hm23)))
   simp only [List.append_assoc, List.cons_append, List.nil_append, List.append_nil] at hT ⊢
   exact hT
 refine rw_c rfl (opR_call Try.func27 bd27 nm27 (args2 rfl rfl) (c_dcrash bdq6 vlq6 L1 Hl2q17 vp2q21 ([WriteT.mk 1 b]) Hp2q21 (slc b40 0 1 1) ([p]) _ _ (Mem.give hF25) gg18 gg22 (Rd.mkA (Mem.addOwn hF25 (List.Mem.head _))) (hat_one oM oM) sL sL sL)) ?_
 rintro _ w24 ⟨Hl2q26, rfl, gl2q26, k_w24⟩
 have hm24 : Mem w24 (restOf w0) ([(bdq6, .cells #[vlq6, (Value.slice none 0 0)] 88 (0, 0))] ++ (Hl2q26 ++ ([(b40, .cells (cl u8 ([p])) 5 (0, 0)), (b4, .cells (cl u8 b) 43 (0, 0)), (b3, .cells (cl u8 old) 43 (0, 0))]))) := (by
   have hT := Mem.back hF25 k_w24
   simp only [List.append_assoc, List.cons_append, List.nil_append, List.append_nil] at hT ⊢
   exact hT)
 obtain ⟨L2, hL2⟩ : ∃ q : List (List (BitVec 8)), q = (crashB L1 ([WriteT.mk 1 b]) ([p])) := ⟨_, rfl⟩
 have hL2l : L2.length = 3 := by rw [hL2]; exact crashB_len.trans hL1l
 have gg27 : GrowK (encA u8) 64 43 vlq6 L2 Hl2q26 := GrowK.cast gl2q26 (hL2.symm)
 have hin_L2_1 : inB L2 1 = true := inB_of oM oM
 have hin_L2_0 : inB L2 0 = true := inB_of oM oM
 have htl := torn_law hol hbl hL0 hL1 hL2
 have hx1 : (readB L2 [] 1).length = 64 := by rw [htl.1]; simp; omega
 have hx0 : (readB L2 [] 0).length = 64 := by rw [htl.2]; simp
 refine rN (sR ?_)
 refine rM rfl s7 <| rw_c rfl (opR_call Try.func28 bd28 nm28 (args2 rfl rfl) (c_dread bdq6 vlq6 L2 (Value.slice none 0 0) ([]) (1 : Int) _ hm24.h0 (gg27.rd (Mem.pick [_] Hl2q26 _ hm24)) (RdK.nil _ _) sL sL)) ?_
 rintro _ w28 ⟨rfl, _ew28⟩
 have hm28 := hm24.ext _ew28
 refine rw_q rfl (ev_move (v := (Value.tuple #[(agg u8 (readB L2 ([]) (1 : Int))), (i64 (errB L2 (1 : Int)))])) rfl) <| rw_q (v := (agg u8 (readB L2 ([]) (1 : Int)))) rfl (ev_extract rfl rfl) <| rw_q (v := (i64 (errB L2 (1 : Int)))) rfl (ev_extract rfl rfl) <| rw_c rfl (or_alloc_agg hm28 ti43) ?_
 rintro _ w30 ⟨b9, rfl, _ew30, hm30⟩
 refine rw_n (or_store_agg (f := u8) (l := readB L2 ([]) (1 : Int)) u8_one ti43 rfl rfl sL hm30.h0 (by rw [size_cl]; first | omega | (simp only [List.length_set, List.length_append, List.length_replicate, List.length_map, List.length_cons, List.length_nil]; omega) | (simp; done) | (simp; omega) | decide) rfl) ?_
 rintro _ w31 uq31
 have hm31 := hm30.upd0 uq31
 refine rw_q rfl (ev_assign (v := (i64 (errB L2 (1 : Int)))) rfl) <| rN ?_
 have hm32 := Mem.drop ([(b40, .cells (cl u8 ([p])) 5 (0, 0))]) _ (Mem.pick2 [_, _] Hl2q26 [_] _ hm31)
 refine CW.abs (fun g => g 0 = (agg u8 old) ∧ g 1 = (agg u8 b) ∧ g 2 = (u8 p) ∧ g 3 = (ptr b3 0) ∧ g 4 = (ptr b4 0) ∧ g 6 = (bl false) ∧ g 7 = (ptr bdq6 0) ∧ g 8 = (i64 0) ∧ g 9 = (ptr b9 0) ∧ g 10 = (i64 (errB L2 (1 : Int))) ∧ g 16 = (bl false) ∧ g 32 = (bl ((errB L0 (1 : Int)) != 0)) ∧ True) ⟨s0, s1, s2, s3, s4, s6, s7, s8, rfl, rfl, s16, s32, trivial⟩ ?_
 rintro fr33 ⟨s0, s1, s2, s3, s4, s6, s7, s8, s9, s10, s16, s32, _⟩
 refine sR <| rM rfl s2 <| rw_q rfl (ev_u8_quo (b := 3#8) rfl rfl (by decide)) <| rw_q rfl (ev_conv_u8_i64 ⟨_, uT5⟩ uT3 rfl) <| rw_q rfl (ev_i64_rem (b := 64) rfl rfl oM oM oM) <| rw_c rfl (or_buildSlice_cl i64 [0, 64, ((p / 3#8).toNat : Int) % 64] i64_one hm32 uT35 ti3 rfl rfl rfl) ?_
 rintro _ w34 ⟨b51, rfl, _ew34, hm34⟩
 refine rM rfl s2 <| rw_q rfl (ev_u8_rem (b := 3#8) rfl rfl (by decide)) <| rw_q rfl (ev_ia_slc (r := ((p % 3#8).toNat : Int).toNat) oM uT35 ti3 rfl rfl oM sL) ?_
 obtain ⟨n35, hn35, hn35l⟩ : ∃ q : Nat, ([0, 64, ((p / 3#8).toNat : Int) % 64]).getD (((p % 3#8).toNat : Int).toNat) 0 = (q : Int) ∧ q = cutN p := ⟨cutN p, cut_list p, rfl⟩
 refine rw_q (v := (i64 (n35 : Int))) rfl (EvQ.cast (congrArg i64 hn35) (ev_load1 uT3 rfl rfl hm34.h0 (get_clD _ _ 0 sL))) <| rw_q rfl (ev_assign (v := (i64 (n35 : Int))) rfl) ?_
 refine rN (cw_seq (sR ?_))
 refine rw_q rfl (ev_move (v := (i64 0)) rfl) ?_
 refine rN (cw_block ?_)
 refine cw_loop (fun g wv => ∃ (k : Nat), (k ≤ 64) ∧ g 0 = (agg u8 old) ∧ g 1 = (agg u8 b) ∧ g 2 = (u8 p) ∧ g 3 = (ptr b3 0) ∧ g 4 = (ptr b4 0) ∧ g 7 = (ptr bdq6 0) ∧ g 8 = (i64 0) ∧ g 9 = (ptr b9 0) ∧ g 10 = (i64 (errB L2 (1 : Int))) ∧ g 11 = (i64 (n35 : Int)) ∧ g 16 = (bl false) ∧ g 32 = (bl ((errB L0 (1 : Int)) != 0)) ∧ g 56 = (i64 (k : Int)) ∧ Mem wv (restOf w0) ([(b9, .cells (cl u8 (readB L2 ([]) (1 : Int))) 43 (0, 0)), (bdq6, .cells #[vlq6, (Value.slice none 0 0)] 88 (0, 0))] ++ (Hl2q26 ++ ([(b4, .cells (cl u8 b) 43 (0, 0)), (b3, .cells (cl u8 old) 43 (0, 0))])))) (fun g wv => (64 - RowKit.intOf (g 56)).toNat) ?_ ?_
 have hm36 := Mem.drop ([(b51, .cells (cl i64 ([0, 64, ((p / 3#8).toNat : Int) % 64])) 3 (0, 0))]) _ hm34
 · exact ⟨0, (Nat.zero_le _), s0, s1, s2, s3, s4, s7, s8, s9, s10, rfl, s16, s32, rfl, hm36⟩
 · rintro fr37 w38 ⟨k, hk, s0, s1, s2, s3, s4, s7, s8, s9, s10, s11, s16, s32, s56, hm38⟩
   have z56 := s56
   refine sR <| rw_q rfl (ev_i64_lss (b := 64) s56 rfl) ?_
   refine rN (cw_seq ?_)
   refine cw_cond rfl (fun hc39 => ?_) (fun hc39 => ?_)
   · -- true
     have hc39p := of_decide_eq_true hc39
     refine cw_skip (kThen_normal (cw_seq (cw_block (sR ?_))))
     refine rM rfl s56 <| rw_q rfl (ev_assign (v := (i64 (k : Int))) rfl) ?_
     refine rN (cw_seq ?_)
     refine cw_draw [(0, false), (1, false), (2, false), (3, false), (4, false), (5, false), (6, false), (7, false), (8, false), (9, false), (10, false), (11, false), (12, false), (13, false), (14, false), (15, false), (16, false), (17, false), (18, false), (19, false), (20, false), (21, false), (22, false)] 23 (by kernel_rfl) <| dw_q rfl rfl (fun _ _hx => ev_move (v := (i64 (k : Int))) rfl) <| dM rfl rfl s11 <| dw_q rfl rfl (fun _ _hx => ev_i64_lss rfl rfl) <| dw_q rfl rfl (fun _ _hx => ev_move (v := (bl (decide ((k : Int) < (n35 : Int))))) rfl) ?_
     rcases Bool.eq_false_or_eq_true (decide ((k : Int) < (n35 : Int))) with hb40 | hb40
     · -- true
       have hb40p := of_decide_eq_true hb40
       refine dw_gqy (s := 62) rfl rfl rfl hb40 rfl (fun _ _hx => ev_move (v := (i64 (k : Int))) rfl) <| dw_gqy (s := 62) rfl rfl rfl hb40 rfl (fun _ _hx => ev_ia_arr (r := k) oM uT43 ti5 s9 rfl oM sL) <| dw_gqy (s := 62) rfl rfl rfl hb40 rfl (fun _ _hx => ev_load1 uT5 rfl rfl (hm38.ext _hx).h0 (get_clD _ _ 0 sL)) <| dw_gqy (s := 62) rfl rfl rfl hb40 rfl (fun _ _hx => ev_move (v := (i64 (k : Int))) rfl) <| dw_gqy (s := 62) rfl rfl rfl hb40 rfl (fun _ _hx => ev_ia_arr (r := k) oM uT43 ti5 s4 rfl oM sL) <| dw_gqy (s := 62) rfl rfl rfl hb40 rfl (fun _ _hx => ev_load1 uT5 rfl rfl ((Mem.pick2 [_, _] Hl2q26 [_] _ (hm38.ext _hx))).h0 (get_clD _ _ 0 sL)) ?_
       refine dw_gqy (s := 62) rfl rfl rfl hb40 rfl (fun _ _hx => ev_u8_neq rfl rfl) <| dw_q rfl rfl (fun _ _hx => ev_pick_tk rfl hb40 rfl) <| dw_q rfl rfl (fun _ _hx => ev_move (v := (bl (((readB L2 ([]) (1 : Int)).getD k 0) != (b.getD k 0)))) rfl) ?_
       have hd41 : (((readB L2 ([]) (1 : Int)).getD k 0) != (b.getD k 0)) = false := told_ne (by rw [htl.1]; exact torn_lt hcl hbl (by have h := of_decide_eq_true hb40; omega))
       refine dw_gqy (s := 71) rfl rfl rfl hd41 rfl (fun _ _hx => ev_move (v := (i64 (k : Int))) rfl) <| dw_gqy (s := 71) rfl rfl rfl hd41 rfl (fun _ _hx => ev_move s11) <| dw_gqy (s := 71) rfl rfl rfl hd41 rfl (fun _ _hx => ev_i64_geq rfl rfl) <| dw_gqy (s := 71) rfl rfl rfl hd41 rfl (fun _ _hx => ev_move (v := (bl (decide ((n35 : Int) ≤ (k : Int))))) rfl) ?_
       have hd42 : (decide ((n35 : Int) ≤ (k : Int))) = false := decide_eq_false (by have h := of_decide_eq_true hb40; omega)
       refine dw_gqn (s := 75) rfl rfl rfl hd42 rfl <| dw_gqn (s := 75) rfl rfl rfl hd42 rfl <| dw_gqn (s := 75) rfl rfl rfl hd42 rfl <| dw_gqn (s := 75) rfl rfl rfl hd42 rfl <| dw_gqn (s := 75) rfl rfl rfl hd42 rfl <| dw_gqn (s := 75) rfl rfl rfl hd42 rfl ?_
       refine dw_nil (fun w43 _ew43 => ?_)
       have hm43 := hm38.ext _ew43
       refine rw_gn (s := 75) rfl rfl hd42 rfl <| rw_gyq (s := 71) rfl rfl hd41 rfl (ev_pick_fk rfl hd42 rfl) <| rw_q rfl (ev_pick_fk rfl hd41 rfl) <| rN ?_
       refine CW.abs (fun g => g 0 = (agg u8 old) ∧ g 1 = (agg u8 b) ∧ g 2 = (u8 p) ∧ g 3 = (ptr b3 0) ∧ g 4 = (ptr b4 0) ∧ g 7 = (ptr bdq6 0) ∧ g 8 = (i64 0) ∧ g 9 = (ptr b9 0) ∧ g 10 = (i64 (errB L2 (1 : Int))) ∧ g 11 = (i64 (n35 : Int)) ∧ g 12 = (i64 (k : Int)) ∧ g 16 = (bl false) ∧ g 32 = (bl ((errB L0 (1 : Int)) != 0)) ∧ g 56 = (i64 (k : Int)) ∧ g 57 = (bl (decide ((k : Int) < 64))) ∧ g 84 = (bl false) ∧ True) ⟨s0, s1, s2, s3, s4, s7, s8, s9, s10, s11, rfl, s16, s32, s56, rfl, rfl, trivial⟩ ?_
       rintro fr44 ⟨s0, s1, s2, s3, s4, s7, s8, s9, s10, s11, s12, s16, s32, s56, s57, s84, _⟩
       refine cw_cond_f s84 (by decide) ?_
       refine cw_skip (kBlk_normal (cw_region ?_))
       refine rw_q rfl (ev_i64_add (b := 1) s56 rfl oM oM) <| rw_q rfl (ev_move (v := (i64 ((k : Int) + 1))) rfl) <| rN ?_
       exact ⟨⟨(k + 1), oM, s0, s1, s2, s3, s4, s7, s8, s9, s10, s11, s16, s32, rfl, hm43⟩, meas (rfl) z56 oM oM⟩
     · -- false
       have hb40p := of_decide_eq_false hb40
       refine dw_gqn (s := 62) rfl rfl rfl hb40 rfl <| dw_gqn (s := 62) rfl rfl rfl hb40 rfl <| dw_gqn (s := 62) rfl rfl rfl hb40 rfl <| dw_gqn (s := 62) rfl rfl rfl hb40 rfl <| dw_gqn (s := 62) rfl rfl rfl hb40 rfl <| dw_gqn (s := 62) rfl rfl rfl hb40 rfl ?_
       refine dw_gqn (s := 62) rfl rfl rfl hb40 rfl <| dw_q rfl rfl (fun _ _hx => ev_pick_fk rfl hb40 rfl) <| dw_q rfl rfl (fun _ _hx => ev_move (v := (bl false)) rfl) <| dw_gqy (s := 71) rfl rfl rfl rfl rfl (fun _ _hx => ev_move (v := (i64 (k : Int))) rfl) <| dw_gqy (s := 71) rfl rfl rfl rfl rfl (fun _ _hx => ev_move s11) <| dw_gqy (s := 71) rfl rfl rfl rfl rfl (fun _ _hx => ev_i64_geq rfl rfl) ?_
       refine dw_gqy (s := 71) rfl rfl rfl rfl rfl (fun _ _hx => ev_move (v := (bl (decide ((n35 : Int) ≤ (k : Int))))) rfl) ?_
       have hd45 : (decide ((n35 : Int) ≤ (k : Int))) = true := decide_eq_true (by have h := of_decide_eq_false hb40; omega)
       refine dw_gqy (s := 75) rfl rfl rfl hd45 rfl (fun _ _hx => ev_move (v := (i64 (k : Int))) rfl) <| dw_gqy (s := 75) rfl rfl rfl hd45 rfl (fun _ _hx => ev_ia_arr (r := k) oM uT43 ti5 s9 rfl oM sL) <| dw_gqy (s := 75) rfl rfl rfl hd45 rfl (fun _ _hx => ev_load1 uT5 rfl rfl (hm38.ext _hx).h0 (get_clD _ _ 0 sL)) <| dw_gqy (s := 75) rfl rfl rfl hd45 rfl (fun _ _hx => ev_move (v := (i64 (k : Int))) rfl) <| dw_gqy (s := 75) rfl rfl rfl hd45 rfl (fun _ _hx => ev_ia_arr (r := k) oM uT43 ti5 s3 rfl oM sL) <| dw_gqy (s := 75) rfl rfl rfl hd45 rfl (fun _ _hx => ev_load1 uT5 rfl rfl ((Mem.pick3 [_, _] Hl2q26 [_] [_] _ (hm38.ext _hx))).h0 (get_clD _ _ 0 sL)) ?_
       refine dw_nil (fun w46 _ew46 => ?_)
       have hm46 := hm38.ext _ew46
       refine rw_gyq (s := 75) rfl rfl hd45 rfl (ev_u8_neq rfl rfl) <| rw_gyq (s := 71) rfl rfl rfl rfl (ev_pick_tk rfl hd45 rfl) <| rw_q rfl (ev_pick_f rfl rfl) <| rN ?_
       refine CW.abs (fun g => g 0 = (agg u8 old) ∧ g 1 = (agg u8 b) ∧ g 2 = (u8 p) ∧ g 3 = (ptr b3 0) ∧ g 4 = (ptr b4 0) ∧ g 7 = (ptr bdq6 0) ∧ g 8 = (i64 0) ∧ g 9 = (ptr b9 0) ∧ g 10 = (i64 (errB L2 (1 : Int))) ∧ g 11 = (i64 (n35 : Int)) ∧ g 12 = (i64 (k : Int)) ∧ g 16 = (bl false) ∧ g 32 = (bl ((errB L0 (1 : Int)) != 0)) ∧ g 56 = (i64 (k : Int)) ∧ g 57 = (bl (decide ((k : Int) < 64))) ∧ g 84 = (bl (((readB L2 ([]) (1 : Int)).getD k 0) != (old.getD k 0))) ∧ True) ⟨s0, s1, s2, s3, s4, s7, s8, s9, s10, s11, rfl, s16, s32, s56, rfl, rfl, trivial⟩ ?_
       rintro fr47 ⟨s0, s1, s2, s3, s4, s7, s8, s9, s10, s11, s12, s16, s32, s56, s57, s84, _⟩
       have hd48 : (((readB L2 ([]) (1 : Int)).getD k 0) != (old.getD k 0)) = false := told_ne (by rw [htl.1]; exact torn_ge hcl hbl (by have h := of_decide_eq_false hb40; omega))
       refine cw_cond_f s84 hd48 ?_
       refine cw_skip (kBlk_normal (cw_region ?_))
       refine rw_q rfl (ev_i64_add (b := 1) s56 rfl oM oM) <| rw_q rfl (ev_move (v := (i64 ((k : Int) + 1))) rfl) <| rN ?_
       exact ⟨⟨(k + 1), oM, s0, s1, s2, s3, s4, s7, s8, s9, s10, s11, s16, s32, rfl, hm46⟩, meas (rfl) z56 oM oM⟩
   · -- false
     have hc39p := of_decide_eq_false hc39
     refine cw_exit ?_
     refine kThen_exit (kThen_exit (kBlk_hit ?_))
     refine sR <| rM rfl s7 <| rw_c rfl (opR_call Try.func28 bd28 nm28 (args2 rfl rfl) (c_dread bdq6 vlq6 L2 (Value.slice none 0 0) ([]) (0 : Int) _ hm38.h1 (gg27.rd (Mem.pick [_, _] Hl2q26 _ hm38)) (RdK.nil _ _) sL sL)) ?_
     rintro _ w49 ⟨rfl, _ew49⟩
     have hm49 := hm38.ext _ew49
     refine rw_q rfl (ev_move (v := (Value.tuple #[(agg u8 (readB L2 ([]) (0 : Int))), (i64 (errB L2 (0 : Int)))])) rfl) <| rw_q (v := (agg u8 (readB L2 ([]) (0 : Int)))) rfl (ev_extract rfl rfl) <| rw_q (v := (i64 (errB L2 (0 : Int)))) rfl (ev_extract rfl rfl) <| rw_c rfl (or_alloc_agg hm49 ti43) ?_
     rintro _ w51 ⟨b13, rfl, _ew51, hm51⟩
     refine rw_n (or_store_agg (f := u8) (l := readB L2 ([]) (0 : Int)) u8_one ti43 rfl rfl sL hm51.h0 (by rw [size_cl]; first | omega | (simp only [List.length_set, List.length_append, List.length_replicate, List.length_map, List.length_cons, List.length_nil]; omega) | (simp; done) | (simp; omega) | decide) rfl) ?_
     rintro _ w52 uq52
     have hm52 := hm51.upd0 uq52
     refine rw_q rfl (ev_assign (v := (i64 (errB L2 (0 : Int)))) rfl) ?_
     refine rN (sR ?_)
     refine rM rfl s10 <| rw_q rfl (ev_i64_eql (b := 0) rfl rfl) <| rw_q rfl (ev_move (v := (bl ((errB L2 (1 : Int)) == 0))) rfl) ?_
     have hd53 : ((errB L2 (1 : Int)) == 0) = true := told_true (err_ok hin_L2_1)
     refine rw_gyq (s := 93) rfl rfl hd53 rfl (ev_move (v := (i64 (errB L2 (0 : Int)))) rfl) <| rw_gyq (s := 93) rfl rfl hd53 rfl (ev_i64_eql (b := 0) rfl rfl) <| rw_q rfl (ev_pick_tk rfl hd53 rfl) <| rw_q rfl (ev_move (v := (bl ((errB L2 (0 : Int)) == 0))) rfl) ?_
     have hd54 : ((errB L2 (0 : Int)) == 0) = true := told_true (err_ok hin_L2_0)
     refine rw_gyq (s := 97) rfl rfl hd54 rfl (ev_loadA uT43 rfl ti43 rfl hm52.h0 (by rw [size_cl]; first | omega | (simp only [List.length_set, List.length_append, List.length_replicate, List.length_map, List.length_cons, List.length_nil]; omega) | (simp; done) | (simp; omega) | decide)) <| rw_gyq (s := 97) rfl rfl hd54 rfl (ev_build_arr (ps := []) (c := (cl u8 (List.replicate 64 0))) ti43 uT43 ti5 (by simp) rfl) <| rw_gyq (s := 97) rfl rfl hd54 rfl (ev_u8arr_eql (l := readB L2 ([]) (0 : Int)) (m := List.replicate 64 0) uT43 uT5 ti5 Try.eqGuardType43 rfl rfl (by first | rfl | first | omega | (simp only [List.length_set, List.length_append, List.length_replicate, List.length_map, List.length_cons, List.length_nil]; omega) | (simp; done) | (simp; omega) | decide) (by first | rfl | first | omega | (simp only [List.length_set, List.length_append, List.length_replicate, List.length_map, List.length_cons, List.length_nil]; omega) | (simp; done) | (simp; omega) | decide)) <| rw_q rfl (ev_pick_tk rfl hd54 rfl) <| rw_q rfl (ev_assign (v := (bl ((readB L2 ([]) (0 : Int)) == (List.replicate 64 0)))) rfl) <| rN ?_
     refine CW.abs (fun g => g 0 = (agg u8 old) ∧ g 1 = (agg u8 b) ∧ g 2 = (u8 p) ∧ g 3 = (ptr b3 0) ∧ g 4 = (ptr b4 0) ∧ g 6 = (bl ((readB L2 ([]) (0 : Int)) == (List.replicate 64 0))) ∧ g 7 = (ptr bdq6 0) ∧ g 8 = (i64 0) ∧ g 9 = (ptr b9 0) ∧ g 10 = (i64 (errB L2 (1 : Int))) ∧ g 11 = (i64 (n35 : Int)) ∧ g 13 = (ptr b13 0) ∧ g 14 = (i64 (errB L2 (0 : Int))) ∧ g 16 = (bl false) ∧ g 32 = (bl ((errB L0 (1 : Int)) != 0)) ∧ g 56 = (i64 (k : Int)) ∧ g 57 = (bl (decide ((k : Int) < 64))) ∧ True) ⟨s0, s1, s2, s3, s4, rfl, s7, s8, s9, s10, s11, rfl, rfl, s16, s32, s56, rfl, trivial⟩ ?_
     rintro fr55 ⟨s0, s1, s2, s3, s4, s6, s7, s8, s9, s10, s11, s13, s14, s16, s32, s56, s57, _⟩
     refine cw_ret <| fnPost_ret [(bl ((readB L2 ([]) (0 : Int)) == (List.replicate 64 0)))] ⟨s6, trivial⟩ ?_
     have hd56 : ((readB L2 ([]) (0 : Int)) == (List.replicate 64 0)) = true := told_true htl.2
     exact ⟨congrArg bl hd56, Mem.below w0 hm52⟩


end Go.Proofs.Ytfmjfojhcmmgcaa
