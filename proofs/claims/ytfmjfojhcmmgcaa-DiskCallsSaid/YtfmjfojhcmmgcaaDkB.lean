/- The law of the calls: its walk. Conditions: none beyond those that each theorem states. -/
import Derived.Test.YtfmjfojhcmmgcaaDkA
namespace Go.Proofs.Ytfmjfojhcmmgcaa
set_option linter.unusedVariables false
set_option linter.unusedSimpArgs false
attribute [local irreducible] crashB crashK pushB readB inB errB cutN seenW okW setB addB inN

set_option maxHeartbeats 8000000 in
theorem law_calls (nb : Int) (vc : Value) (lc : List CallT) (w0 : World)  (hnb : -9223372036854775808 ≤ nb ∧ nb ≤ 9223372036854775807) (hrc : RdK (blks w0) encC 67 vc lc) (hqc : ∀ a ∈ lc, Rd (blks w0) u8 (slv a.picks) a.picks.2) (hlc : lc.length ≤ 9223372036854775807) : CallsR Try.prog 8 #[(i64 nb), vc] w0 (fun r w1 => r = bl true ∧ RowKit.Below w0.heap.size w0 w1) := by
 refine callsR_of_cw (args := [(i64 nb), vc]) Try.func8 rfl Try.ntmps8 Try.results8 rfl ?_
 have hm0 : Mem w0 (restOf w0) [] := Mem.of_world w0
 refine sR <| rw_q rfl (ev_assign (v := (bl false)) rfl) ?_
 refine rN (cw_seq (sR ?_))
 refine rw_c rfl (opR_call Try.func23 bd23 nm23 (args0) (c_speaks14 _)) ?_
 rintro _ w1 ⟨rfl, _ew1⟩
 have hm1 := hm0.ext _ew1
 refine rw_q (v := (bl false)) rfl (ev_not (b := true) rfl) <| rN <| cw_cond_f rfl (by decide) ?_
 refine cw_skip (kThen_normal (cw_seq (sR ?_)))
 refine rM rfl (v := vc) rfl <| rw_q (v := (i64 (lc.length : Int))) rfl (ev_len_rk (RdK.ofRest hrc hm1) uT53 rfl) <| rw_q rfl (ev_i64_gtr (b := 200) rfl rfl) <| rN ?_
 refine cw_cond rfl (fun hc3 => ?_) (fun hc3 => ?_)
 · -- true
   have hc3p := of_decide_eq_true hc3
   refine sR <| rw_q rfl (ev_assign (v := (bl true)) rfl) ?_
   refine rN (cw_ret (kThen_ret ?_))
   refine fnPost_ret [(bl true)] ⟨rfl, trivial⟩ ?_
   exact ⟨rfl, Mem.below w0 hm1⟩
 · -- false
   have hc3p := of_decide_eq_false hc3
   refine cw_skip (kThen_normal (cw_seq ?_))
   rcases Bool.eq_false_or_eq_true (inN nb) with hb4 | hb4
   · -- true
     have hnn := inN_t hb4
     refine cw_region <| rw_q rfl (ev_move (v := (i64 nb)) rfl) <| rw_c rfl (opR_call Try.func24 bd24 nm24 (args1 rfl) (c_dnew nb _ sL)) ?_
     rintro _ w5 ⟨bdq6, vlq6, Hlq6, rfl, glq6, k_w5⟩
     have hm5 : Mem w5 (restOf w0) ([(bdq6, .cells #[vlq6, (Value.slice none 0 0)] 88 (0, 0))] ++ (Hlq6 ++ ([]))) := (by
       have hT := Mem.new (H := []) (H' := _) hm1 k_w5
       simp only [List.append_assoc, List.cons_append, List.nil_append, List.append_nil] at hT ⊢
       exact hT)
     obtain ⟨L0, hL0⟩ : ∃ q : List (List (BitVec 8)), q = (List.replicate nb.toNat (List.replicate 64 0)) := ⟨_, rfl⟩
     have hL0l : L0.length = nb.toNat := by rw [hL0]; simp
     have gg7 : GrowK (encA u8) 64 43 vlq6 L0 Hlq6 := GrowK.cast glq6 (hL0.symm)
     refine rw_q rfl (ev_move (v := (Value.tuple #[(ptr bdq6 0), (i64 0)])) rfl) <| rw_q (v := (ptr bdq6 0)) rfl (ev_extract rfl rfl) <| rw_q (v := (i64 0)) rfl (ev_extract rfl rfl) <| rw_q rfl (ev_assign (v := (ptr bdq6 0)) rfl) <| rw_q rfl (ev_assign (v := (i64 0)) rfl) ?_
     refine rN (cw_seq (sR ?_))
     refine rw_q rfl (ev_move (v := (i64 nb)) rfl) <| rw_q rfl (ev_i64_lss (b := 1) rfl rfl) <| rw_q rfl (ev_move (v := (bl (decide (nb < 1)))) rfl) ?_
     have hd8 : (decide (nb < 1)) = false := decide_eq_false oM
     refine rw_gyq (s := 30) rfl rfl hd8 rfl (ev_move (v := (i64 nb)) rfl) <| rw_gyq (s := 30) rfl rfl hd8 rfl (ev_i64_gtr (b := 65536) rfl rfl) <| rw_q rfl (ev_pick_fk rfl hd8 rfl) <| rN ?_
     refine CW.abs (fun g => g 0 = (i64 nb) ∧ g 1 = vc ∧ g 4 = (bl false) ∧ g 5 = (ptr bdq6 0) ∧ g 6 = (i64 0) ∧ g 19 = (bl false) ∧ g 22 = (bl (decide (200 < (lc.length : Int)))) ∧ g 33 = (bl (decide (65536 < nb))) ∧ True) ⟨rfl, rfl, rfl, rfl, rfl, rfl, rfl, rfl, trivial⟩ ?_
     rintro fr9 ⟨s0, s1, s4, s5, s6, s19, s22, s33, _⟩
     have hd10 : (decide (65536 < nb)) = false := decide_eq_false oM
     refine cw_cond_f s33 hd10 ?_
     refine cw_skip (kThen_normal (cw_seq (sR ?_)))
     refine rM rfl s6 <| rw_q rfl (ev_i64_neq (b := 0) rfl rfl) <| rw_q rfl (ev_move (v := (bl (0 != 0))) rfl) ?_
     have hd11 : (0 != 0) = false := told_ne rfl
     refine rw_gyq (s := 42) rfl rfl hd11 rfl (ev_move s5) <| rw_gyq (s := 42) rfl rfl hd11 rfl (ev_ptr_nil_eql uT44 rfl rfl) <| rw_q rfl (ev_pick_fk rfl hd11 rfl) <| rw_q rfl (ev_move (v := (bl false)) rfl) <| rw_gyq (s := 46) rfl rfl rfl rfl (ev_move s5) <| rw_gy (s := 46) rfl rfl rfl rfl (opR_call Try.func30 bd30 nm30 (args1 rfl) (c_dsize bdq6 vlq6 L0 (Value.slice none 0 0) ([]) _ hm5.h0 (gg7.rd (Mem.pick [_] Hlq6 _ hm5)) (RdK.nil _ _))) ?_
     rintro _ w12 ⟨rfl, _ew12⟩
     have hm12 := hm5.ext _ew12
     refine rw_gyq (s := 46) rfl rfl rfl rfl (ev_move s0) <| rw_gyq (s := 46) rfl rfl rfl rfl (ev_i64_neq rfl rfl) <| rw_q rfl (ev_pick_f rfl rfl) <| rN ?_
     have hd14 : ((L0.length : Int) != nb) = false := told_ne oM
     refine cw_cond_f rfl hd14 ?_
     refine cw_skip (kThen_normal (cw_seq (sR ?_)))
     refine rM rfl s0 <| rw_q rfl (ev_i64_gtr (b := 200) rfl rfl) <| rN ?_
     refine cw_cond rfl (fun hc15 => ?_) (fun hc15 => ?_)
     · -- true
       have hc15p := of_decide_eq_true hc15
       refine sR <| rw_q rfl (ev_assign (v := (bl true)) rfl) <| rN ?_
       refine CW.abs (fun g => g 0 = (i64 nb) ∧ g 1 = vc ∧ g 4 = (bl true) ∧ g 5 = (ptr bdq6 0) ∧ g 6 = (i64 0) ∧ g 19 = (bl false) ∧ g 22 = (bl (decide (200 < (lc.length : Int)))) ∧ g 33 = (bl (decide (65536 < nb))) ∧ g 51 = (bl ((L0.length : Int) != nb)) ∧ g 53 = (bl (decide (200 < nb))) ∧ True) ⟨s0, s1, rfl, s5, s6, s19, s22, s33, rfl, rfl, trivial⟩ ?_
       rintro fr16 ⟨s0, s1, s4, s5, s6, s19, s22, s33, s51, s53, _⟩
       refine cw_ret (kThen_ret ?_)
       refine fnPost_ret [(bl true)] ⟨s4, trivial⟩ ?_
       exact ⟨rfl, Mem.below w0 hm12⟩
     · -- false
       have hc15p := of_decide_eq_false hc15
       refine cw_skip (kThen_normal (sR ?_))
       refine rM rfl s0 <| rw_c rfl (opR_call Try.func31 bd31 nm31 (args1 rfl) (c_rnew nb _ sL)) ?_
       rintro _ w17 ⟨brq18, vsq18, Hsq18, vlq18, Hlq18, rfl, gsq18, glq18, k_w17⟩
       have hm17 : Mem w17 (restOf w0) ([(brq18, .cells #[vsq18, vlq18, (Value.slice none 0 0), (Value.slice none 0 0)] 63 (0, 0))] ++ (Hsq18 ++ (Hlq18 ++ ([(bdq6, .cells #[vlq6, (Value.slice none 0 0)] 88 (0, 0))] ++ (Hlq6 ++ ([])))))) := (by
         have hT := Mem.new (H := [(bdq6, .cells #[vlq6, (Value.slice none 0 0)] 88 (0, 0))] ++ (Hlq6 ++ ([]))) (H' := _) hm12 k_w17
         simp only [List.append_assoc, List.cons_append, List.nil_append, List.append_nil] at hT ⊢
         exact hT)
       have gg19 : GrowK (encA u8) 64 43 vsq18 L0 Hsq18 := GrowK.cast gsq18 hL0.symm
       have gg20 : GrowK (encA u8) 64 43 vlq18 L0 Hlq18 := GrowK.cast glq18 hL0.symm
       refine rw_q rfl (ev_assign (v := (ptr brq18 0)) rfl) <| rN ?_
       refine CW.abs (fun g => g 0 = (i64 nb) ∧ g 1 = vc ∧ g 4 = (bl false) ∧ g 5 = (ptr bdq6 0) ∧ g 6 = (i64 0) ∧ g 7 = (ptr brq18 0) ∧ g 19 = (bl false) ∧ g 22 = (bl (decide (200 < (lc.length : Int)))) ∧ g 33 = (bl (decide (65536 < nb))) ∧ g 51 = (bl ((L0.length : Int) != nb)) ∧ g 53 = (bl (decide (200 < nb))) ∧ True) ⟨s0, s1, s4, s5, s6, rfl, s19, s22, s33, rfl, rfl, trivial⟩ ?_
       rintro fr21 ⟨s0, s1, s4, s5, s6, s7, s19, s22, s33, s51, s53, _⟩
       refine cw_seq (sR ?_)
       refine rM rfl s1 <| rw_q (v := (i64 (lc.length : Int))) rfl (ev_len_rk (RdK.ofRest hrc hm17) uT53 rfl) <| rw_q rfl (ev_move (v := (i64 0)) rfl) ?_
       refine rN (cw_block ?_)
       refine cw_loop (fun g wv => ∃ (k : Nat) (lk sk : List (List (BitVec 8))) (pk : List WriteT) (Hl : List (Nat × Obj)) (vk : Value) (Hk : List (Nat × Obj)) (vs : Value) (Hs : List (Nat × Obj)) (vm : Value) (Hm : List (Nat × Obj)) (va : Value) (Ha : List (Nat × Obj)) (vw : Value) (Hw : List (Nat × Obj)), (k ≤ lc.length) ∧ (GrowK (encA u8) 64 43 vlq6 lk Hl) ∧ (GrowK encW 65 91 vk pk Hk) ∧ (GrowK (encA u8) 64 43 vs sk Hs) ∧ (GrowK (encA u8) 64 43 vm lk Hm) ∧ (Grow i64 3 va (pk.map WriteT.at_) Ha) ∧ (GrowK (encA u8) 64 43 vw (pk.map WriteT.b) Hw) ∧ (RI lk sk pk) ∧ ((lk.length : Int) = nb) ∧ (pk.length ≤ k) ∧ g 0 = (i64 nb) ∧ g 1 = vc ∧ g 5 = (ptr bdq6 0) ∧ g 6 = (i64 0) ∧ g 7 = (ptr brq18 0) ∧ g 19 = (bl false) ∧ g 22 = (bl (decide (200 < (lc.length : Int)))) ∧ g 33 = (bl (decide (65536 < nb))) ∧ g 51 = (bl ((L0.length : Int) != nb)) ∧ g 53 = (bl (decide (200 < nb))) ∧ g 56 = vc ∧ g 57 = (i64 (lc.length : Int)) ∧ g 58 = (i64 (k : Int)) ∧ Mem wv (restOf w0) ([(bdq6, .cells #[vlq6, vk] 88 (0, 0))] ++ (Hl ++ (Hk ++ ([(brq18, .cells #[vs, vm, va, vw] 63 (0, 0))] ++ (Hs ++ (Hm ++ (Ha ++ (Hw ++ ([])))))))))) (fun g wv => ((lc.length : Int) - RowKit.intOf (g 58)).toNat) ?_ ?_
       have hm22 := (Mem.pick2 [_] Hsq18 Hlq18 _ hm17)
       have hm23 := (Mem.pick2 Hlq18 [_] Hsq18 _ hm22)
       have hm24 := (Mem.pick2 Hsq18 Hlq18 [_] _ hm23)
       have hm25 := (Mem.pick4 [_] Hsq18 Hlq18 [_] Hlq6 _ hm24)
       have hm26 := (Mem.pick4 Hlq6 [_] Hsq18 Hlq18 [_] _ hm25)
       · exact ⟨0, L0, L0, [], Hlq6, (.slice none 0 0), [], vsq18, Hsq18, vlq18, Hlq18, (.slice none 0 0), [], (.slice none 0 0), [], (Nat.zero_le _), gg7, (GrowK.none encW 65 91), gg19, gg20, (Grow.none i64 3), (GrowK.none (encA u8) 64 43), (ri_new L0), oM, (Nat.le_refl _), s0, s1, s5, s6, s7, s19, s22, s33, s51, s53, rfl, rfl, rfl, (by
         have hT := hm26
         simp only [List.append_assoc, List.cons_append, List.nil_append, List.append_nil] at hT ⊢
         exact hT)⟩
       · rintro fr27 w28 ⟨k, lk, sk, pk, Hl, vk, Hk, vs, Hs, vm, Hm, va, Ha, vw, Hw, hk, gl, gk, gs, gm, ga, gw, hri, hln, hpk, s0, s1, s5, s6, s7, s19, s22, s33, s51, s53, s56, s57, s58, hm28⟩
         have z58 := s58
         have hcb2 : (crashB lk pk [1#8]).length = lk.length := crashB_len
         have hlA := growA_all gl
         have hpB := growW_b gk
         have hrl := hri.len
         have hmA : (pk.map WriteT.at_).length = pk.length := by simp
         have hmB : (pk.map WriteT.b).length = pk.length := by simp
         refine sR <| rw_q rfl (ev_i64_lss s58 s57) ?_
         refine rN (cw_seq ?_)
         refine cw_cond rfl (fun hc29 => ?_) (fun hc29 => ?_)
         · -- true
           have hc29p := of_decide_eq_true hc29
           have hbk := encC_b hrc (show k < lc.length by omega)
           refine cw_skip (kThen_normal (cw_seq (cw_block (sR ?_))))
           refine rw_q rfl (ev_indexAddr_rk (i := (k : Int)) (RdK.ofRest hrc hm28) uT53 ti55 s56 s58 oM sL) <| rw_q (v := (Value.agg (segs [[(i64 ((lc.getD k call0).what_))], [(i64 ((lc.getD k call0).n_))], ((lc.getD k call0).b).map u8, [(slv (lc.getD k call0).picks)]]))) rfl (ev_load_rkW (i := (k : Int)) (dflt := call0) (cs := (segs [[(i64 ((lc.getD k call0).what_))], [(i64 ((lc.getD k call0).n_))], ((lc.getD k call0).b).map u8, [(slv (lc.getD k call0).picks)]])) (RdK.ofRest hrc hm28) sL uT55 rfl ti55 rfl rfl rfl) <| rw_c rfl (or_allocX hm28 ti55) ?_
           rintro _ w30 ⟨b9, rfl, _ew30, hm30⟩
           refine rw_n (or_storeW_segs [[(i64 ((lc.getD k call0).what_))], [(i64 ((lc.getD k call0).n_))], ((lc.getD k call0).b).map u8, [(slv (lc.getD k call0).picks)]] ti55 rfl rfl (fl_cons (n := 1) (m := 66) (k := 67) rfl (fl_cons (n := 1) (m := 65) (k := 66) rfl (fl_cons (n := 64) (m := 1) (k := 65) (by first | rfl | (rw [List.length_map]; first | omega | (simp; done) | (simp; omega))) (fl_cons (n := 1) (m := 0) (k := 1) rfl fl_nil rfl) rfl) rfl) rfl) (so_cons (one_cons (i64_one _) one_nil) (so_cons (one_cons (i64_one _) one_nil) (so_cons (encA_one u8_one _) (so_cons (one_cons rfl one_nil) so_nil)))) hm30.h0 (by rw [segs_size]; exact (fl_cons (n := 1) (m := 66) (k := 67) rfl (fl_cons (n := 1) (m := 65) (k := 66) rfl (fl_cons (n := 64) (m := 1) (k := 65) (by first | rfl | (rw [List.length_map]; first | omega | (simp; done) | (simp; omega))) (fl_cons (n := 1) (m := 0) (k := 1) rfl fl_nil rfl) rfl) rfl) rfl)) rfl) ?_
           rintro _ w31 uq31
           have hm31 : Mem w31 (restOf w0) ([(b9, .cells (segs [[(i64 ((lc.getD k call0).what_))], [(i64 ((lc.getD k call0).n_))], ((lc.getD k call0).b).map u8, [(slv (lc.getD k call0).picks)]]) 55 (0, 0)), (bdq6, .cells #[vlq6, vk] 88 (0, 0))] ++ (Hl ++ (Hk ++ ([(brq18, .cells #[vs, vm, va, vw] 63 (0, 0))] ++ (Hs ++ (Hm ++ (Ha ++ (Hw ++ ([]))))))))) := hm30.upd0 uq31
           refine rN (cw_seq (sR ?_))
           refine rw_q rfl (ev_fa (r := 66) uT55 rfl (by first | rfl | omega) ti24 rfl rfl) <| rw_q (v := (slv (lc.getD k call0).picks)) rfl (ev_load_segv (v := (slv (lc.getD k call0).picks)) [[(i64 ((lc.getD k call0).what_))], [(i64 ((lc.getD k call0).n_))], ((lc.getD k call0).b).map u8] [] uT24 rfl rfl hm31.h0 (fl_cons (n := 1) (m := 65) (k := 66) rfl (fl_cons (n := 1) (m := 64) (k := 65) rfl (fl_cons (n := 64) (m := 0) (k := 64) (by first | rfl | (rw [List.length_map]; first | omega | (simp; done) | (simp; omega))) fl_nil rfl) rfl) rfl)) <| rw_q (v := (i64 (((lc.getD k call0).picks.2).length : Int))) rfl (ev_len_rd (Rd.ofRest (rdQ CallT.picks hqc (k := k) sD) hm31) uT24 rfl) <| rw_q rfl (ev_i64_gtr (b := 300) rfl rfl) <| rN ?_
           refine cw_cond rfl (fun hc32 => ?_) (fun hc32 => ?_)
           · -- true
             have hc32p := of_decide_eq_true hc32
             refine sR <| rw_q rfl (ev_assign (v := (bl true)) rfl) ?_
             refine rN (cw_ret ?_)
             refine kThen_ret (kBlk_ret (kThen_ret (kBlk_ret ?_)))
             refine fnPost_ret [(bl true)] ⟨rfl, trivial⟩ ?_
             exact ⟨rfl, Mem.below w0 hm31⟩
           · -- false
             have hc32p := of_decide_eq_false hc32
             refine cw_skip (kThen_normal (cw_seq (sR ?_)))
             refine rw_q rfl (ev_fa (r := 0) uT55 rfl (by first | rfl | omega) ti3 rfl rfl) <| rw_q (v := (i64 ((lc.getD k call0).what_))) rfl (ev_load_segv (v := (i64 ((lc.getD k call0).what_))) [] [[(i64 ((lc.getD k call0).n_))], ((lc.getD k call0).b).map u8, [(slv (lc.getD k call0).picks)]] uT3 rfl rfl hm31.h0 fl_nil) ?_
             refine rN (cw_block (sR ?_))
             refine rw_q rfl (ev_i64_eql (b := 0) rfl rfl) <| rw_q rfl (ev_assign (v := (bl (((lc.getD k call0).what_) == 0))) rfl) <| rN ?_
             refine cw_cond rfl (fun hc33 => ?_) (fun hc33 => ?_)
             · -- true
               have hc33p := eq_of_beq hc33
               refine cw_seq <| cw_drawE (by kernel_rfl) ?_
               have hm34 := (Mem.pick7 [_, _] Hl Hk [_] Hs Hm Ha Hw _ hm31)
               have hm35 := (Mem.pick7 Hw [_, _] Hl Hk [_] Hs Hm Ha _ hm34)
               have hm36 := (Mem.pick7 Ha Hw [_, _] Hl Hk [_] Hs Hm _ hm35)
               have hm37 := (Mem.pick7 Hm Ha Hw [_, _] Hl Hk [_] Hs _ hm36)
               have hm38 := (Mem.pick7 Hs Hm Ha Hw [_, _] Hl Hk [_] _ hm37)
               have hm39 := (Mem.pick5 [_] Hs Hm Ha Hw [_] _ hm38)
               have hm40 := (Mem.pick7 [_, _] Hs Hm Ha Hw [_] Hl Hk _ hm39)
               have hm41 := (Mem.pick7 Hk [_, _] Hs Hm Ha Hw [_] Hl _ hm40)
               have hm42 := (Mem.pick7 Hl Hk [_, _] Hs Hm Ha Hw [_] _ hm41)
               have hFM43 : Mem w31 (restOf w0) (([(bdq6, .cells #[vlq6, vk] 88 (0, 0))] ++ (Hl ++ (Hk ++ ([])))) ++ ([(b9, .cells (segs [[(i64 ((lc.getD k call0).what_))], [(i64 ((lc.getD k call0).n_))], ((lc.getD k call0).b).map u8, [(slv (lc.getD k call0).picks)]]) 55 (0, 0)), (brq18, .cells #[vs, vm, va, vw] 63 (0, 0))] ++ (Hs ++ (Hm ++ (Ha ++ (Hw ++ ([]))))))) := (by
                 have hT := hm42
                 simp only [List.append_assoc, List.cons_append, List.nil_append, List.append_nil] at hT ⊢
                 exact hT)
               obtain ⟨RM43, hRM43⟩ : ∃ R2, R2 = Rest.add (restOf w0) ([(b9, .cells (segs [[(i64 ((lc.getD k call0).what_))], [(i64 ((lc.getD k call0).n_))], ((lc.getD k call0).b).map u8, [(slv (lc.getD k call0).picks)]]) 55 (0, 0)), (brq18, .cells #[vs, vm, va, vw] 63 (0, 0))] ++ (Hs ++ (Hm ++ (Ha ++ (Hw ++ ([])))))) := ⟨_, rfl⟩
               have M430 : Mem w31 RM43 ([(bdq6, .cells #[vlq6, vk] 88 (0, 0))] ++ (Hl ++ (Hk ++ ([])))) := by rw [hRM43]; exact Mem.give hFM43
               have hr44 : Rd RM43.blk u8 (slv (lc.getD k call0).picks) ((lc.getD k call0).picks.2) := by rw [hRM43]; exact Rd.mono (rdQ CallT.picks hqc (k := k) sD) fun b o e => Mem.addRest hFM43 e
               have ho45 : RM43.blk b9 = some (.cells (segs [[(i64 ((lc.getD k call0).what_))], [(i64 ((lc.getD k call0).n_))], ((lc.getD k call0).b).map u8, [(slv (lc.getD k call0).picks)]]) 55 (0, 0)) := by rw [hRM43]; exact Mem.addOwn hFM43 (List.mem_append_left _ (List.Mem.head _))
               have ho46 : RM43.blk brq18 = some (.cells #[vs, vm, va, vw] 63 (0, 0)) := by rw [hRM43]; exact Mem.addOwn hFM43 (List.mem_append_left _ (List.Mem.tail _ (List.Mem.head _)))
               have hg47 : RdK RM43.blk (encA u8) 64 vs sk := gs.rdIn (fun p hp => by rw [hRM43]; exact Mem.addOwn hFM43 (List.mem_append_right _ (List.mem_append_left _ hp)))
               have hg48 : RdK RM43.blk (encA u8) 64 vm lk := gm.rdIn (fun p hp => by rw [hRM43]; exact Mem.addOwn hFM43 (List.mem_append_right _ (List.mem_append_right _ (List.mem_append_left _ hp))))
               have hg49 : Rd RM43.blk i64 va (pk.map WriteT.at_) := ga.rdIn (fun p hp => by rw [hRM43]; exact Mem.addOwn hFM43 (List.mem_append_right _ (List.mem_append_right _ (List.mem_append_right _ (List.mem_append_left _ hp)))))
               have hg50 : RdK RM43.blk (encA u8) 64 vw (pk.map WriteT.b) := gw.rdIn (fun p hp => by rw [hRM43]; exact Mem.addOwn hFM43 (List.mem_append_right _ (List.mem_append_right _ (List.mem_append_right _ (List.mem_append_right _ (List.mem_append_left _ hp))))))
               refine re_planM M430 [(0, false), (1, false), (2, false), (3, false), (4, false), (6, false), (7, false), (8, false), (9, false), (10, false), (5, true)] 11 rfl (by kernel_rfl) <| dk_q rfl rfl (fun w _H _hx => ev_move s5) <| dk_q rfl rfl (fun w _H _hx => ev_fa (r := 1) uT55 rfl (by first | rfl | omega) ti3 rfl rfl) <| dk_q (v := (i64 ((lc.getD k call0).n_))) rfl rfl (fun w _H _hx => ev_load_segv (v := (i64 ((lc.getD k call0).n_))) [[(i64 ((lc.getD k call0).what_))]] [((lc.getD k call0).b).map u8, [(slv (lc.getD k call0).picks)]] uT3 rfl rfl (_hx.rest _ _ ho45) (fl_cons (n := 1) (m := 0) (k := 1) rfl fl_nil rfl)) <| dk_q rfl rfl (fun w _H _hx => ev_fa (r := 2) uT55 rfl (by first | rfl | omega) ti43 rfl rfl) <| dk_q (v := (agg u8 ((lc.getD k call0).b))) rfl rfl (fun w _H _hx => ev_load_seg1 (f := u8) [[(i64 ((lc.getD k call0).what_))], [(i64 ((lc.getD k call0).n_))]] [[(slv (lc.getD k call0).picks)]] ((lc.getD k call0).b) uT43 rfl ti43 rfl (_hx.rest _ _ ho45) (fl_cons (n := 1) (m := 1) (k := 2) rfl (fl_cons (n := 1) (m := 0) (k := 1) rfl fl_nil rfl) rfl) (by first | rfl | omega | (simp; done) | (simp; omega))) ?_
               refine dk_q rfl rfl (fun w _H _hx => ev_move s7) <| dk_q rfl rfl (fun w _H _hx => ev_fa (r := 1) uT55 rfl (by first | rfl | omega) ti3 rfl rfl) <| dk_q (v := (i64 ((lc.getD k call0).n_))) rfl rfl (fun w _H _hx => ev_load_segv (v := (i64 ((lc.getD k call0).n_))) [[(i64 ((lc.getD k call0).what_))]] [((lc.getD k call0).b).map u8, [(slv (lc.getD k call0).picks)]] uT3 rfl rfl (_hx.rest _ _ ho45) (fl_cons (n := 1) (m := 0) (k := 1) rfl fl_nil rfl)) <| dk_q rfl rfl (fun w _H _hx => ev_fa (r := 2) uT55 rfl (by first | rfl | omega) ti43 rfl rfl) <| dk_q (v := (agg u8 ((lc.getD k call0).b))) rfl rfl (fun w _H _hx => ev_load_seg1 (f := u8) [[(i64 ((lc.getD k call0).what_))], [(i64 ((lc.getD k call0).n_))]] [[(slv (lc.getD k call0).picks)]] ((lc.getD k call0).b) uT43 rfl ti43 rfl (_hx.rest _ _ ho45) (fl_cons (n := 1) (m := 1) (k := 2) rfl (fl_cons (n := 1) (m := 0) (k := 1) rfl fl_nil rfl) rfl) (by first | rfl | omega | (simp; done) | (simp; omega))) ?_
               refine dk_c rfl rfl (fun w51 _ew51 => ?_)
               have hm51 := M430.ext _ew51
               have hF53 : Mem w51 RM43 (([(bdq6, .cells #[vlq6, vk] 88 (0, 0))] ++ (Hl ++ (Hk ++ ([])))) ++ ([])) := by
                 have hT := (Mem.pick2 Hl Hk [_] _ (Mem.pick2 Hk [_] Hl _ (Mem.pick2 [_] Hl Hk _ hm51)))
                 simp only [List.append_assoc, List.cons_append, List.nil_append, List.append_nil] at hT ⊢
                 exact hT
               refine OpR.mono (opR_call Try.func25 bd25 nm25 (args3 rfl rfl rfl) (c_dwrite bdq6 vlq6 lk Hl vk pk Hk ((lc.getD k call0).n_) ((lc.getD k call0).b) _ _ (Mem.give hF53) gl gk sL sL sL)) ?_
               rintro _ w52 ⟨vp2q54, Hp2q54, rfl, gp2q54, k_w52⟩
               have hm52 : Mem w52 RM43 ([(bdq6, .cells #[vlq6, vp2q54] 88 (0, 0))] ++ (Hl ++ (Hp2q54 ++ ([])))) := (by
                 have hT := Mem.back hF53 k_w52
                 simp only [List.append_assoc, List.cons_append, List.nil_append, List.append_nil] at hT ⊢
                 exact hT)
               refine ⟨⟨_, hm52⟩, ?_⟩
               refine dw_nil (fun w55 _ew55 => ?_)
               have hm55 := hm52.ext _ew55
               have hX56 := hm55
               rw [hRM43] at hX56
               have hm57 : Mem w55 (restOf w0) ([(bdq6, .cells #[vlq6, vp2q54] 88 (0, 0))] ++ (Hl ++ (Hp2q54 ++ ([(b9, .cells (segs [[(i64 ((lc.getD k call0).what_))], [(i64 ((lc.getD k call0).n_))], ((lc.getD k call0).b).map u8, [(slv (lc.getD k call0).picks)]]) 55 (0, 0)), (brq18, .cells #[vs, vm, va, vw] 63 (0, 0))] ++ (Hs ++ (Hm ++ (Ha ++ (Hw ++ ([]))))))))) := (by
                 have hT := Mem.back hFM43 hX56
                 simp only [List.append_assoc, List.cons_append, List.nil_append, List.append_nil] at hT ⊢
                 exact hT)
               have hF59 : Mem w55 (restOf w0) (([(brq18, .cells #[vs, vm, va, vw] 63 (0, 0))] ++ (Hs ++ (Hm ++ (Ha ++ (Hw ++ ([])))))) ++ ([(bdq6, .cells #[vlq6, vp2q54] 88 (0, 0))] ++ (Hl ++ (Hp2q54 ++ ([(b9, .cells (segs [[(i64 ((lc.getD k call0).what_))], [(i64 ((lc.getD k call0).n_))], ((lc.getD k call0).b).map u8, [(slv (lc.getD k call0).picks)]]) 55 (0, 0))]))))) := by
                 have hT := (Mem.pick8 Hs Hm Ha Hw [_] Hl Hp2q54 [_] [_] _ (Mem.pick7 Hm Ha Hw [_] Hl Hp2q54 [_, _] Hs _ (Mem.pick7 Ha Hw [_] Hl Hp2q54 [_, _] Hs Hm _ (Mem.pick7 Hw [_] Hl Hp2q54 [_, _] Hs Hm Ha _ (Mem.pick7 [_] Hl Hp2q54 [_, _] Hs Hm Ha Hw _ hm57)))))
                 simp only [List.append_assoc, List.cons_append, List.nil_append, List.append_nil] at hT ⊢
                 exact hT
               refine rw_c rfl (opR_call Try.func32 bd32 nm32 (args3 rfl rfl rfl) (c_rwrite brq18 vs sk Hs vm lk Hm va (pk.map WriteT.at_) Ha vw (pk.map WriteT.b) Hw ((lc.getD k call0).n_) ((lc.getD k call0).b) _ _ (Mem.give hF59) gs gm ga gw sL sL sL sL)) ?_
               rintro _ w58 ⟨Hs2q60, va2q60, Ha2q60, vw2q60, Hw2q60, rfl, gs2q60, ga2q60, gw2q60, k_w58⟩
               have hm58 : Mem w58 (restOf w0) ([(brq18, .cells #[vs, vm, va2q60, vw2q60] 63 (0, 0))] ++ (Hs2q60 ++ (Hm ++ (Ha2q60 ++ (Hw2q60 ++ ([(bdq6, .cells #[vlq6, vp2q54] 88 (0, 0))] ++ (Hl ++ (Hp2q54 ++ ([(b9, .cells (segs [[(i64 ((lc.getD k call0).what_))], [(i64 ((lc.getD k call0).n_))], ((lc.getD k call0).b).map u8, [(slv (lc.getD k call0).picks)]]) 55 (0, 0))]))))))))) := (by
                 have hT := Mem.back hF59 k_w58
                 simp only [List.append_assoc, List.cons_append, List.nil_append, List.append_nil] at hT ⊢
                 exact hT)
               refine rw_q rfl (ev_i64_neq rfl rfl) <| rN ?_
               refine CW.abs (fun g => g 0 = (i64 nb) ∧ g 1 = vc ∧ g 5 = (ptr bdq6 0) ∧ g 6 = (i64 0) ∧ g 7 = (ptr brq18 0) ∧ g 9 = (ptr b9 0) ∧ g 19 = (bl false) ∧ g 22 = (bl (decide (200 < (lc.length : Int)))) ∧ g 33 = (bl (decide (65536 < nb))) ∧ g 51 = (bl ((L0.length : Int) != nb)) ∧ g 53 = (bl (decide (200 < nb))) ∧ g 56 = vc ∧ g 57 = (i64 (lc.length : Int)) ∧ g 58 = (i64 (k : Int)) ∧ g 59 = (bl (decide ((k : Int) < (lc.length : Int)))) ∧ g 65 = (bl (decide (300 < (((lc.getD k call0).picks.2).length : Int)))) ∧ g 67 = (i64 ((lc.getD k call0).what_)) ∧ g 105 = (bl (((lc.getD k call0).what_) == 0)) ∧ g 119 = (bl ((errB lk ((lc.getD k call0).n_)) != (errB sk ((lc.getD k call0).n_)))) ∧ True) ⟨s0, s1, s5, s6, s7, rfl, s19, s22, s33, s51, s53, s56, s57, s58, rfl, rfl, rfl, rfl, rfl, trivial⟩ ?_
               rintro fr61 ⟨s0, s1, s5, s6, s7, s9, s19, s22, s33, s51, s53, s56, s57, s58, s59, s65, s67, s105, s119, _⟩
               have hd62 : ((errB lk ((lc.getD k call0).n_)) != (errB sk ((lc.getD k call0).n_))) = false := told_ne (err_len hri.len _).symm
               refine cw_cond_f s119 hd62 ?_
               refine cw_skip (kBlk_normal (cw_seq ?_))
               refine cw_draw [(0, false), (1, false), (2, false), (3, false), (4, false), (5, false), (6, false)] 7 (by kernel_rfl) <| dM rfl rfl s5 <| dw_x (v := (i64 (((pushB lk pk ((lc.getD k call0).n_) ((lc.getD k call0).b)) : List WriteT).length : Int))) rfl rfl (fun w63 _ew63 => OpR.mono (opR_call Try.func29 bd29 nm29 (args1 rfl) (c_dpend bdq6 vlq6 lk vp2q54 (pushB lk pk ((lc.getD k call0).n_) ((lc.getD k call0).b)) _ ((Mem.pick5 [_] Hs2q60 Hm Ha2q60 Hw2q60 [_] _ (hm58.ext _ew63))).h0 (gl.rd (Mem.pick6 [_] Hs2q60 Hm Ha2q60 Hw2q60 [_] Hl _ (hm58.ext _ew63))) (gp2q54.rd (Mem.pick7 [_] Hs2q60 Hm Ha2q60 Hw2q60 [_] Hl Hp2q54 _ (hm58.ext _ew63))))) (by rintro _ w64 ⟨rfl, _ew64⟩; exact ⟨rfl, _ew64⟩)) <| dM rfl rfl s7 <| dw_q rfl rfl (fun _ _hx => ev_nilCheck rfl) <| dw_q rfl rfl (fun _ _hx => ev_fa (r := 2) uT63 rfl (by first | rfl | omega) ti35 rfl rfl) ?_
               refine dw_q (v := va2q60) rfl rfl (fun _ _hx => ev_load1 uT35 rfl rfl (hm58.ext _hx).h0 rfl) <| dw_q (v := (i64 ((addB sk ((lc.getD k call0).n_) (pk.map WriteT.at_) ((lc.getD k call0).n_)).length : Int))) rfl rfl (fun _ _hx => ev_len_rd (ga2q60.rd (Mem.pick3 [_] Hs2q60 Hm Ha2q60 _ (hm58.ext _hx))) uT35 rfl) ?_
               refine dw_nil (fun w66 _ew66 => ?_)
               have hm66 := hm58.ext _ew66
               refine rw_q rfl (ev_i64_neq rfl rfl) <| rN ?_
               have hd67 : ((((pushB lk pk ((lc.getD k call0).n_) ((lc.getD k call0).b)) : List WriteT).length : Int) != ((addB sk ((lc.getD k call0).n_) (pk.map WriteT.at_) ((lc.getD k call0).n_)).length : Int)) = false := told_ne (by first | rfl | (simp; done) | (rw [map_push_at (b := (lc.getD k call0).b) hri]; simp))
               refine cw_cond_f rfl hd67 ?_
               refine cw_skip (kBlk_normal (cw_region ?_))
               refine rw_q rfl (ev_i64_add (b := 1) s58 rfl oM oM) <| rw_q rfl (ev_move (v := (i64 ((k : Int) + 1))) rfl) <| rN ?_
               have hm68 := Mem.drop ([(b9, .cells (segs [[(i64 ((lc.getD k call0).what_))], [(i64 ((lc.getD k call0).n_))], ((lc.getD k call0).b).map u8, [(slv (lc.getD k call0).picks)]]) 55 (0, 0))]) _ (Mem.pick8 [_] Hs2q60 Hm Ha2q60 Hw2q60 [_] Hl Hp2q54 [_] _ hm66)
               have hm69 := (Mem.pick4 [_] Hs2q60 Hm Ha2q60 Hw2q60 _ hm68)
               have hm70 := (Mem.pick4 Hw2q60 [_] Hs2q60 Hm Ha2q60 _ hm69)
               have hm71 := (Mem.pick4 Ha2q60 Hw2q60 [_] Hs2q60 Hm _ hm70)
               have hm72 := (Mem.pick4 Hm Ha2q60 Hw2q60 [_] Hs2q60 _ hm71)
               have hm73 := (Mem.pick4 Hs2q60 Hm Ha2q60 Hw2q60 [_] _ hm72)
               have hm74 := (Mem.pick7 [_] Hs2q60 Hm Ha2q60 Hw2q60 [_] Hl Hp2q54 _ hm73)
               have hm75 := (Mem.pick7 Hp2q54 [_] Hs2q60 Hm Ha2q60 Hw2q60 [_] Hl _ hm74)
               have hm76 := (Mem.pick7 Hl Hp2q54 [_] Hs2q60 Hm Ha2q60 Hw2q60 [_] _ hm75)
               exact ⟨⟨(k + 1), lk, (setB sk ((lc.getD k call0).n_) ((lc.getD k call0).b)), (pushB lk pk ((lc.getD k call0).n_) ((lc.getD k call0).b)), Hl, vp2q54, Hp2q54, vs, Hs2q60, vm, Hm, va2q60, Ha2q60, vw2q60, Hw2q60, oM, gl, gp2q54, gs2q60, gm, (Grow.cast ga2q60 (map_push_at hri)), (GrowK.cast gw2q60 (map_push_b hri)), (ri_write hri), hln, (Nat.le_trans push_len oM), s0, s1, s5, s6, s7, s19, s22, s33, s51, s53, s56, s57, rfl, (by
                 have hT := hm76
                 simp only [List.append_assoc, List.cons_append, List.nil_append, List.append_nil] at hT ⊢
                 exact hT)⟩, meas (rfl) z58 oM oM⟩
             · -- false
               have hc33p := ne_of_beq_false hc33
               refine sR <| rw_q rfl (ev_i64_eql (b := 1) rfl rfl) <| rw_q rfl (ev_assign (v := (bl (((lc.getD k call0).what_) == 1))) rfl) <| rN ?_
               refine cw_cond rfl (fun hc77 => ?_) (fun hc77 => ?_)
               · -- true
                 have hc77p := eq_of_beq hc77
                 refine sR <| rM rfl s5 ?_
                 have hF79 : Mem w31 (restOf w0) (([(bdq6, .cells #[vlq6, vk] 88 (0, 0))] ++ (Hl ++ (Hk ++ ([])))) ++ ([(b9, .cells (segs [[(i64 ((lc.getD k call0).what_))], [(i64 ((lc.getD k call0).n_))], ((lc.getD k call0).b).map u8, [(slv (lc.getD k call0).picks)]]) 55 (0, 0)), (brq18, .cells #[vs, vm, va, vw] 63 (0, 0))] ++ (Hs ++ (Hm ++ (Ha ++ (Hw ++ ([]))))))) := by
                   have hT := (Mem.pick3 Hl Hk [_] [_] _ (Mem.pick2 Hk [_, _] Hl _ (Mem.pick2 [_, _] Hl Hk _ hm31)))
                   simp only [List.append_assoc, List.cons_append, List.nil_append, List.append_nil] at hT ⊢
                   exact hT
                 refine rw_c rfl (opR_call Try.func26 bd26 nm26 (args1 rfl) (c_dsync bdq6 vlq6 lk Hl vk pk Hk _ _ (Mem.give hF79) gl gk hri.hat sL sL)) ?_
                 rintro _ w78 ⟨Hl2q80, rfl, gl2q80, k_w78⟩
                 have hm78 : Mem w78 (restOf w0) ([(bdq6, .cells #[vlq6, (Value.slice none 0 0)] 88 (0, 0))] ++ (Hl2q80 ++ ([(b9, .cells (segs [[(i64 ((lc.getD k call0).what_))], [(i64 ((lc.getD k call0).n_))], ((lc.getD k call0).b).map u8, [(slv (lc.getD k call0).picks)]]) 55 (0, 0)), (brq18, .cells #[vs, vm, va, vw] 63 (0, 0))] ++ (Hs ++ (Hm ++ (Ha ++ (Hw ++ ([])))))))) := (by
                   have hT := Mem.back hF79 k_w78
                   simp only [List.append_assoc, List.cons_append, List.nil_append, List.append_nil] at hT ⊢
                   exact hT)
                 refine rN ?_
                 refine CW.abs (fun g => g 0 = (i64 nb) ∧ g 1 = vc ∧ g 5 = (ptr bdq6 0) ∧ g 6 = (i64 0) ∧ g 7 = (ptr brq18 0) ∧ g 9 = (ptr b9 0) ∧ g 19 = (bl false) ∧ g 22 = (bl (decide (200 < (lc.length : Int)))) ∧ g 33 = (bl (decide (65536 < nb))) ∧ g 51 = (bl ((L0.length : Int) != nb)) ∧ g 53 = (bl (decide (200 < nb))) ∧ g 56 = vc ∧ g 57 = (i64 (lc.length : Int)) ∧ g 58 = (i64 (k : Int)) ∧ g 59 = (bl (decide ((k : Int) < (lc.length : Int)))) ∧ g 65 = (bl (decide (300 < (((lc.getD k call0).picks.2).length : Int)))) ∧ g 67 = (i64 ((lc.getD k call0).what_)) ∧ g 105 = (bl (((lc.getD k call0).what_) == 0)) ∧ g 120 = (bl (((lc.getD k call0).what_) == 1)) ∧ True) ⟨s0, s1, s5, s6, s7, rfl, s19, s22, s33, s51, s53, s56, s57, s58, rfl, rfl, rfl, rfl, rfl, trivial⟩ ?_
                 rintro fr81 ⟨s0, s1, s5, s6, s7, s9, s19, s22, s33, s51, s53, s56, s57, s58, s59, s65, s67, s105, s120, _⟩
                 refine cw_region <| rM rfl s7 ?_
                 have hF83 : Mem w78 (restOf w0) (([(brq18, .cells #[vs, vm, va, vw] 63 (0, 0))] ++ (Hs ++ (Hm ++ (Ha ++ (Hw ++ ([])))))) ++ ([(bdq6, .cells #[vlq6, (Value.slice none 0 0)] 88 (0, 0))] ++ (Hl2q80 ++ ([(b9, .cells (segs [[(i64 ((lc.getD k call0).what_))], [(i64 ((lc.getD k call0).n_))], ((lc.getD k call0).b).map u8, [(slv (lc.getD k call0).picks)]]) 55 (0, 0))])))) := by
                   have hT := (Mem.pick7 Hs Hm Ha Hw [_] Hl2q80 [_] [_] _ (Mem.pick6 Hm Ha Hw [_] Hl2q80 [_, _] Hs _ (Mem.pick6 Ha Hw [_] Hl2q80 [_, _] Hs Hm _ (Mem.pick6 Hw [_] Hl2q80 [_, _] Hs Hm Ha _ (Mem.pick6 [_] Hl2q80 [_, _] Hs Hm Ha Hw _ hm78)))))
                   simp only [List.append_assoc, List.cons_append, List.nil_append, List.append_nil] at hT ⊢
                   exact hT
                 refine rw_c rfl (opR_call Try.func33 bd33 nm33 (args1 rfl) (c_rsync brq18 vs sk Hs vm lk Hm va (pk.map WriteT.at_) Ha vw (pk.map WriteT.b) Hw _ _ (Mem.give hF83) gs gm ga gw sL)) ?_
                 rintro _ w82 ⟨Hs2q84, vl2q84, Hl2q84, va2q84, Ha2q84, vw2q84, Hw2q84, rfl, gs2q84, gl2q84, ga2q84, gw2q84, k_w82⟩
                 have hm82 : Mem w82 (restOf w0) ([(brq18, .cells #[vs, vl2q84, va2q84, vw2q84] 63 (0, 0))] ++ (Hs2q84 ++ (Hl2q84 ++ (Ha2q84 ++ (Hw2q84 ++ ([(bdq6, .cells #[vlq6, (Value.slice none 0 0)] 88 (0, 0))] ++ (Hl2q80 ++ ([(b9, .cells (segs [[(i64 ((lc.getD k call0).what_))], [(i64 ((lc.getD k call0).n_))], ((lc.getD k call0).b).map u8, [(slv (lc.getD k call0).picks)]]) 55 (0, 0))])))))))) := (by
                   have hT := Mem.back hF83 k_w82
                   simp only [List.append_assoc, List.cons_append, List.nil_append, List.append_nil] at hT ⊢
                   exact hT)
                 refine rw_nil (kBlk_normal (cw_seq ?_))
                 refine cw_draw [(0, false), (1, false), (2, false), (3, false), (4, false), (5, false), (6, false)] 7 (by kernel_rfl) <| dM rfl rfl s5 <| dw_x (v := (i64 ((([]) : List WriteT).length : Int))) rfl rfl (fun w85 _ew85 => OpR.mono (opR_call Try.func29 bd29 nm29 (args1 rfl) (c_dpend bdq6 vlq6 (crashB lk pk [1#8]) (Value.slice none 0 0) ([]) _ ((Mem.pick5 [_] Hs2q84 Hl2q84 Ha2q84 Hw2q84 [_] _ (hm82.ext _ew85))).h0 (gl2q80.rd (Mem.pick6 [_] Hs2q84 Hl2q84 Ha2q84 Hw2q84 [_] Hl2q80 _ (hm82.ext _ew85))) (RdK.nil _ _))) (by rintro _ w86 ⟨rfl, _ew86⟩; exact ⟨rfl, _ew86⟩)) <| dM rfl rfl s7 <| dw_q rfl rfl (fun _ _hx => ev_nilCheck rfl) <| dw_q rfl rfl (fun _ _hx => ev_fa (r := 2) uT63 rfl (by first | rfl | omega) ti35 rfl rfl) ?_
                 refine dw_q (v := va2q84) rfl rfl (fun _ _hx => ev_load1 uT35 rfl rfl (hm82.ext _hx).h0 rfl) <| dw_q (v := (i64 0)) rfl rfl (fun _ _hx => ev_len_rd (l := []) (ga2q84.rd (Mem.pick3 [_] Hs2q84 Hl2q84 Ha2q84 _ (hm82.ext _hx))) uT35 rfl) ?_
                 refine dw_nil (fun w88 _ew88 => ?_)
                 have hm88 := hm82.ext _ew88
                 refine rw_q rfl (ev_i64_neq (b := 0) rfl rfl) <| rN ?_
                 have hd89 : (((([]) : List WriteT).length : Int) != 0) = false := rfl
                 refine cw_cond_f rfl hd89 ?_
                 refine cw_skip (kBlk_normal (cw_region ?_))
                 refine rw_q rfl (ev_i64_add (b := 1) s58 rfl oM oM) <| rw_q rfl (ev_move (v := (i64 ((k : Int) + 1))) rfl) <| rN ?_
                 have hm90 := Mem.drop ([(b9, .cells (segs [[(i64 ((lc.getD k call0).what_))], [(i64 ((lc.getD k call0).n_))], ((lc.getD k call0).b).map u8, [(slv (lc.getD k call0).picks)]]) 55 (0, 0))]) _ (Mem.pick7 [_] Hs2q84 Hl2q84 Ha2q84 Hw2q84 [_] Hl2q80 [_] _ hm88)
                 have hm91 := (Mem.pick4 [_] Hs2q84 Hl2q84 Ha2q84 Hw2q84 _ hm90)
                 have hm92 := (Mem.pick4 Hw2q84 [_] Hs2q84 Hl2q84 Ha2q84 _ hm91)
                 have hm93 := (Mem.pick4 Ha2q84 Hw2q84 [_] Hs2q84 Hl2q84 _ hm92)
                 have hm94 := (Mem.pick4 Hl2q84 Ha2q84 Hw2q84 [_] Hs2q84 _ hm93)
                 have hm95 := (Mem.pick4 Hs2q84 Hl2q84 Ha2q84 Hw2q84 [_] _ hm94)
                 have hm96 := (Mem.pick6 [_] Hs2q84 Hl2q84 Ha2q84 Hw2q84 [_] Hl2q80 _ hm95)
                 have hm97 := (Mem.pick6 Hl2q80 [_] Hs2q84 Hl2q84 Ha2q84 Hw2q84 [_] _ hm96)
                 exact ⟨⟨(k + 1), (crashB lk pk [1#8]), sk, [], Hl2q80, (.slice none 0 0), [], vs, Hs2q84, vl2q84, Hl2q84, va2q84, Ha2q84, vw2q84, Hw2q84, oM, gl2q80, (GrowK.none encW 65 91), gs2q84, (GrowK.cast gl2q84 (sync_eq hlA hpB hri)), ga2q84, gw2q84, (ri_sync hlA hpB hri), (by rw [crashB_len]; exact hln), (Nat.zero_le _), s0, s1, s5, s6, s7, s19, s22, s33, s51, s53, s56, s57, rfl, (by
                   have hT := hm97
                   simp only [List.append_assoc, List.cons_append, List.nil_append, List.append_nil] at hT ⊢
                   exact hT)⟩, meas (rfl) z58 oM oM⟩
               · -- false
                 have hc77p := ne_of_beq_false hc77
                 refine sR <| rw_q rfl (ev_i64_eql (b := 2) rfl rfl) <| rw_q rfl (ev_assign (v := (bl (((lc.getD k call0).what_) == 2))) rfl) <| rN ?_
                 refine CW.abs (fun g => g 0 = (i64 nb) ∧ g 1 = vc ∧ g 5 = (ptr bdq6 0) ∧ g 6 = (i64 0) ∧ g 7 = (ptr brq18 0) ∧ g 9 = (ptr b9 0) ∧ g 19 = (bl false) ∧ g 22 = (bl (decide (200 < (lc.length : Int)))) ∧ g 33 = (bl (decide (65536 < nb))) ∧ g 51 = (bl ((L0.length : Int) != nb)) ∧ g 53 = (bl (decide (200 < nb))) ∧ g 56 = vc ∧ g 57 = (i64 (lc.length : Int)) ∧ g 58 = (i64 (k : Int)) ∧ g 59 = (bl (decide ((k : Int) < (lc.length : Int)))) ∧ g 65 = (bl (decide (300 < (((lc.getD k call0).picks.2).length : Int)))) ∧ g 67 = (i64 ((lc.getD k call0).what_)) ∧ g 105 = (bl (((lc.getD k call0).what_) == 0)) ∧ g 120 = (bl (((lc.getD k call0).what_) == 1)) ∧ g 126 = (bl (((lc.getD k call0).what_) == 2)) ∧ True) ⟨s0, s1, s5, s6, s7, rfl, s19, s22, s33, s51, s53, s56, s57, s58, rfl, rfl, rfl, rfl, rfl, rfl, trivial⟩ ?_
                 rintro fr98 ⟨s0, s1, s5, s6, s7, s9, s19, s22, s33, s51, s53, s56, s57, s58, s59, s65, s67, s105, s120, s126, _⟩
                 refine cw_cond s126 (fun hc99 => ?_) (fun hc99 => ?_)
                 · -- true
                   have hc99p := eq_of_beq hc99
                   refine sR <| rM rfl s5 <| rw_q rfl (ev_fa (r := 66) uT55 rfl (by first | rfl | omega) ti24 rfl s9) <| rw_q (v := (slv (lc.getD k call0).picks)) rfl (ev_load_segv (v := (slv (lc.getD k call0).picks)) [[(i64 ((lc.getD k call0).what_))], [(i64 ((lc.getD k call0).n_))], ((lc.getD k call0).b).map u8] [] uT24 rfl rfl hm31.h0 (fl_cons (n := 1) (m := 65) (k := 66) rfl (fl_cons (n := 1) (m := 64) (k := 65) rfl (fl_cons (n := 64) (m := 0) (k := 64) (by first | rfl | (rw [List.length_map]; first | omega | (simp; done) | (simp; omega))) fl_nil rfl) rfl) rfl)) ?_
                   have hF101 : Mem w31 (restOf w0) (([(bdq6, .cells #[vlq6, vk] 88 (0, 0))] ++ (Hl ++ (Hk ++ ([])))) ++ ([(b9, .cells (segs [[(i64 ((lc.getD k call0).what_))], [(i64 ((lc.getD k call0).n_))], ((lc.getD k call0).b).map u8, [(slv (lc.getD k call0).picks)]]) 55 (0, 0)), (brq18, .cells #[vs, vm, va, vw] 63 (0, 0))] ++ (Hs ++ (Hm ++ (Ha ++ (Hw ++ ([]))))))) := by
                     have hT := (Mem.pick3 Hl Hk [_] [_] _ (Mem.pick2 Hk [_, _] Hl _ (Mem.pick2 [_, _] Hl Hk _ hm31)))
                     simp only [List.append_assoc, List.cons_append, List.nil_append, List.append_nil] at hT ⊢
                     exact hT
                   refine rw_c rfl (opR_call Try.func27 bd27 nm27 (args2 rfl rfl) (c_dcrash bdq6 vlq6 lk Hl vk pk Hk (slv (lc.getD k call0).picks) ((lc.getD k call0).picks.2) _ _ (Mem.give hF101) gl gk (Rd.addRest hF101 (rdQ CallT.picks hqc (k := k) sD)) hri.hat sL sL sL)) ?_
                   rintro _ w100 ⟨Hl2q102, rfl, gl2q102, k_w100⟩
                   have hm100 : Mem w100 (restOf w0) ([(bdq6, .cells #[vlq6, (Value.slice none 0 0)] 88 (0, 0))] ++ (Hl2q102 ++ ([(b9, .cells (segs [[(i64 ((lc.getD k call0).what_))], [(i64 ((lc.getD k call0).n_))], ((lc.getD k call0).b).map u8, [(slv (lc.getD k call0).picks)]]) 55 (0, 0)), (brq18, .cells #[vs, vm, va, vw] 63 (0, 0))] ++ (Hs ++ (Hm ++ (Ha ++ (Hw ++ ([])))))))) := (by
                     have hT := Mem.back hF101 k_w100
                     simp only [List.append_assoc, List.cons_append, List.nil_append, List.append_nil] at hT ⊢
                     exact hT)
                   refine rN (cw_region ?_)
                   refine rM rfl s7 <| rw_q rfl (ev_fa (r := 66) uT55 rfl (by first | rfl | omega) ti24 rfl s9) <| rw_q (v := (slv (lc.getD k call0).picks)) rfl (ev_load_segv (v := (slv (lc.getD k call0).picks)) [[(i64 ((lc.getD k call0).what_))], [(i64 ((lc.getD k call0).n_))], ((lc.getD k call0).b).map u8] [] uT24 rfl rfl ((Mem.pick2 [_] Hl2q102 [_] _ hm100)).h0 (fl_cons (n := 1) (m := 65) (k := 66) rfl (fl_cons (n := 1) (m := 64) (k := 65) rfl (fl_cons (n := 64) (m := 0) (k := 64) (by first | rfl | (rw [List.length_map]; first | omega | (simp; done) | (simp; omega))) fl_nil rfl) rfl) rfl)) ?_
                   have hF104 : Mem w100 (restOf w0) (([(brq18, .cells #[vs, vm, va, vw] 63 (0, 0))] ++ (Hs ++ (Hm ++ (Ha ++ (Hw ++ ([])))))) ++ ([(bdq6, .cells #[vlq6, (Value.slice none 0 0)] 88 (0, 0))] ++ (Hl2q102 ++ ([(b9, .cells (segs [[(i64 ((lc.getD k call0).what_))], [(i64 ((lc.getD k call0).n_))], ((lc.getD k call0).b).map u8, [(slv (lc.getD k call0).picks)]]) 55 (0, 0))])))) := by
                     have hT := (Mem.pick7 Hs Hm Ha Hw [_] Hl2q102 [_] [_] _ (Mem.pick6 Hm Ha Hw [_] Hl2q102 [_, _] Hs _ (Mem.pick6 Ha Hw [_] Hl2q102 [_, _] Hs Hm _ (Mem.pick6 Hw [_] Hl2q102 [_, _] Hs Hm Ha _ (Mem.pick6 [_] Hl2q102 [_, _] Hs Hm Ha Hw _ hm100)))))
                     simp only [List.append_assoc, List.cons_append, List.nil_append, List.append_nil] at hT ⊢
                     exact hT
                   refine rw_c rfl (opR_call Try.func34 bd34 nm34 (args2 rfl rfl) (c_rcrash brq18 vs sk Hs vm lk Hm va Ha vw Hw pk (slv (lc.getD k call0).picks) ((lc.getD k call0).picks.2) _ _ (Mem.give hF104) gs gm ga gw (Rd.addRest hF104 (rdQ CallT.picks hqc (k := k) sD)) hri.hat sL sL sL)) ?_
                   rintro _ w103 ⟨vs2q105, Hs2q105, vl2q105, Hl2q105, va2q105, Ha2q105, vw2q105, Hw2q105, rfl, gs2q105, gl2q105, ga2q105, gw2q105, k_w103⟩
                   have hm103 : Mem w103 (restOf w0) ([(brq18, .cells #[vs2q105, vl2q105, va2q105, vw2q105] 63 (0, 0))] ++ (Hs2q105 ++ (Hl2q105 ++ (Ha2q105 ++ (Hw2q105 ++ ([(bdq6, .cells #[vlq6, (Value.slice none 0 0)] 88 (0, 0))] ++ (Hl2q102 ++ ([(b9, .cells (segs [[(i64 ((lc.getD k call0).what_))], [(i64 ((lc.getD k call0).n_))], ((lc.getD k call0).b).map u8, [(slv (lc.getD k call0).picks)]]) 55 (0, 0))])))))))) := (by
                     have hT := Mem.back hF104 k_w103
                     simp only [List.append_assoc, List.cons_append, List.nil_append, List.append_nil] at hT ⊢
                     exact hT)
                   refine rw_nil (kBlk_normal (cw_seq ?_))
                   refine cw_draw [(0, false), (1, false), (2, false), (3, false), (4, false), (5, false), (6, false)] 7 (by kernel_rfl) <| dM rfl rfl s5 <| dw_x (v := (i64 ((([]) : List WriteT).length : Int))) rfl rfl (fun w106 _ew106 => OpR.mono (opR_call Try.func29 bd29 nm29 (args1 rfl) (c_dpend bdq6 vlq6 (crashB lk pk ((lc.getD k call0).picks.2)) (Value.slice none 0 0) ([]) _ ((Mem.pick5 [_] Hs2q105 Hl2q105 Ha2q105 Hw2q105 [_] _ (hm103.ext _ew106))).h0 (gl2q102.rd (Mem.pick6 [_] Hs2q105 Hl2q105 Ha2q105 Hw2q105 [_] Hl2q102 _ (hm103.ext _ew106))) (RdK.nil _ _))) (by rintro _ w107 ⟨rfl, _ew107⟩; exact ⟨rfl, _ew107⟩)) <| dM rfl rfl s7 <| dw_q rfl rfl (fun _ _hx => ev_nilCheck rfl) <| dw_q rfl rfl (fun _ _hx => ev_fa (r := 2) uT63 rfl (by first | rfl | omega) ti35 rfl rfl) ?_
                   refine dw_q (v := va2q105) rfl rfl (fun _ _hx => ev_load1 uT35 rfl rfl (hm103.ext _hx).h0 rfl) <| dw_q (v := (i64 0)) rfl rfl (fun _ _hx => ev_len_rd (l := []) (ga2q105.rd (Mem.pick3 [_] Hs2q105 Hl2q105 Ha2q105 _ (hm103.ext _hx))) uT35 rfl) ?_
                   refine dw_nil (fun w109 _ew109 => ?_)
                   have hm109 := hm103.ext _ew109
                   refine rw_q rfl (ev_i64_neq (b := 0) rfl rfl) <| rN ?_
                   refine CW.abs (fun g => g 0 = (i64 nb) ∧ g 1 = vc ∧ g 5 = (ptr bdq6 0) ∧ g 6 = (i64 0) ∧ g 7 = (ptr brq18 0) ∧ g 9 = (ptr b9 0) ∧ g 19 = (bl false) ∧ g 22 = (bl (decide (200 < (lc.length : Int)))) ∧ g 33 = (bl (decide (65536 < nb))) ∧ g 51 = (bl ((L0.length : Int) != nb)) ∧ g 53 = (bl (decide (200 < nb))) ∧ g 56 = vc ∧ g 57 = (i64 (lc.length : Int)) ∧ g 58 = (i64 (k : Int)) ∧ g 59 = (bl (decide ((k : Int) < (lc.length : Int)))) ∧ g 65 = (bl (decide (300 < (((lc.getD k call0).picks.2).length : Int)))) ∧ g 67 = (i64 ((lc.getD k call0).what_)) ∧ g 105 = (bl (((lc.getD k call0).what_) == 0)) ∧ g 120 = (bl (((lc.getD k call0).what_) == 1)) ∧ g 126 = (bl (((lc.getD k call0).what_) == 2)) ∧ g 143 = (bl (((([]) : List WriteT).length : Int) != 0)) ∧ True) ⟨s0, s1, s5, s6, s7, s9, s19, s22, s33, s51, s53, s56, s57, s58, s59, s65, s67, s105, s120, s126, rfl, trivial⟩ ?_
                   rintro fr110 ⟨s0, s1, s5, s6, s7, s9, s19, s22, s33, s51, s53, s56, s57, s58, s59, s65, s67, s105, s120, s126, s143, _⟩
                   have hd111 : (((([]) : List WriteT).length : Int) != 0) = false := rfl
                   refine cw_cond_f s143 hd111 ?_
                   refine cw_skip (kBlk_normal (cw_region ?_))
                   refine rw_q rfl (ev_i64_add (b := 1) s58 rfl oM oM) <| rw_q rfl (ev_move (v := (i64 ((k : Int) + 1))) rfl) <| rN ?_
                   have hm112 := Mem.drop ([(b9, .cells (segs [[(i64 ((lc.getD k call0).what_))], [(i64 ((lc.getD k call0).n_))], ((lc.getD k call0).b).map u8, [(slv (lc.getD k call0).picks)]]) 55 (0, 0))]) _ (Mem.pick7 [_] Hs2q105 Hl2q105 Ha2q105 Hw2q105 [_] Hl2q102 [_] _ hm109)
                   have hm113 := (Mem.pick4 [_] Hs2q105 Hl2q105 Ha2q105 Hw2q105 _ hm112)
                   have hm114 := (Mem.pick4 Hw2q105 [_] Hs2q105 Hl2q105 Ha2q105 _ hm113)
                   have hm115 := (Mem.pick4 Ha2q105 Hw2q105 [_] Hs2q105 Hl2q105 _ hm114)
                   have hm116 := (Mem.pick4 Hl2q105 Ha2q105 Hw2q105 [_] Hs2q105 _ hm115)
                   have hm117 := (Mem.pick4 Hs2q105 Hl2q105 Ha2q105 Hw2q105 [_] _ hm116)
                   have hm118 := (Mem.pick6 [_] Hs2q105 Hl2q105 Ha2q105 Hw2q105 [_] Hl2q102 _ hm117)
                   have hm119 := (Mem.pick6 Hl2q102 [_] Hs2q105 Hl2q105 Ha2q105 Hw2q105 [_] _ hm118)
                   exact ⟨⟨(k + 1), (crashB lk pk ((lc.getD k call0).picks.2)), (crashB lk pk ((lc.getD k call0).picks.2)), [], Hl2q102, (.slice none 0 0), [], vs2q105, Hs2q105, vl2q105, Hl2q105, va2q105, Ha2q105, vw2q105, Hw2q105, oM, gl2q102, (GrowK.none encW 65 91), gs2q105, gl2q105, ga2q105, gw2q105, (ri_new _), (by rw [crashB_len]; exact hln), (Nat.zero_le _), s0, s1, s5, s6, s7, s19, s22, s33, s51, s53, s56, s57, rfl, (by
                     have hT := hm119
                     simp only [List.append_assoc, List.cons_append, List.nil_append, List.append_nil] at hT ⊢
                     exact hT)⟩, meas (rfl) z58 oM oM⟩
                 · -- false
                   have hc99p := ne_of_beq_false hc99
                   refine sR <| rM rfl s5 <| rw_q rfl (ev_fa (r := 1) uT55 rfl (by first | rfl | omega) ti3 rfl s9) <| rw_q (v := (i64 ((lc.getD k call0).n_))) rfl (ev_load_segv (v := (i64 ((lc.getD k call0).n_))) [[(i64 ((lc.getD k call0).what_))]] [((lc.getD k call0).b).map u8, [(slv (lc.getD k call0).picks)]] uT3 rfl rfl hm31.h0 (fl_cons (n := 1) (m := 0) (k := 1) rfl fl_nil rfl)) <| rw_c rfl (opR_call Try.func28 bd28 nm28 (args2 rfl rfl) (c_dread bdq6 vlq6 lk vk pk ((lc.getD k call0).n_) _ hm31.h1 (gl.rd (Mem.pick [_, _] Hl _ hm31)) (gk.rd (Mem.pick2 [_, _] Hl Hk _ hm31)) sL sL)) ?_
                   rintro _ w120 ⟨rfl, _ew120⟩
                   have hm120 := hm31.ext _ew120
                   have hrd := read_len (ls := lk) (ps := pk) hlA hpB ((lc.getD k call0).n_)
                   refine rM rfl rfl <| rw_q (v := (agg u8 (readB lk pk ((lc.getD k call0).n_)))) rfl (ev_extract rfl rfl) <| rw_q (v := (i64 (errB lk ((lc.getD k call0).n_)))) rfl (ev_extract rfl rfl) <| rw_c rfl (or_alloc_agg hm120 ti43) ?_
                   rintro _ w122 ⟨b10, rfl, _ew122, hm122⟩
                   refine rw_n (or_store_agg (f := u8) (l := readB lk pk ((lc.getD k call0).n_)) u8_one ti43 rfl rfl sL hm122.h0 (by rw [size_cl]; first | omega | (simp only [List.length_set, List.length_append, List.length_replicate, List.length_map, List.length_cons, List.length_nil]; omega) | (simp; done) | (simp; omega) | decide) rfl) ?_
                   rintro _ w123 uq123
                   have hm123 := hm122.upd0 uq123
                   refine rw_q rfl (ev_assign (v := (i64 (errB lk ((lc.getD k call0).n_)))) rfl) ?_
                   refine rN (sR ?_)
                   refine rw_q rfl (ev_fa (r := 1) uT55 rfl (by first | rfl | omega) ti3 rfl s9) <| rw_q (v := (i64 ((lc.getD k call0).n_))) rfl (ev_load_segv (v := (i64 ((lc.getD k call0).n_))) [[(i64 ((lc.getD k call0).what_))]] [((lc.getD k call0).b).map u8, [(slv (lc.getD k call0).picks)]] uT3 rfl rfl hm123.h1 (fl_cons (n := 1) (m := 0) (k := 1) rfl fl_nil rfl)) <| rw_q rfl (ev_i64_lss (b := 0) rfl rfl) <| rw_q rfl (ev_move (v := (bl (decide (((lc.getD k call0).n_) < 0)))) rfl) ?_
                   rcases Bool.eq_false_or_eq_true (decide (((lc.getD k call0).n_) < 0)) with hb124 | hb124
                   · -- true
                     have hb124p := of_decide_eq_true hb124
                     refine rw_gn (s := 78) rfl rfl hb124 rfl <| rw_gn (s := 78) rfl rfl hb124 rfl <| rw_gn (s := 78) rfl rfl hb124 rfl <| rw_gn (s := 78) rfl rfl hb124 rfl <| rw_q rfl (ev_pick_tk rfl hb124 rfl) <| rN ?_
                     refine CW.abs (fun g => g 0 = (i64 nb) ∧ g 1 = vc ∧ g 5 = (ptr bdq6 0) ∧ g 6 = (i64 0) ∧ g 7 = (ptr brq18 0) ∧ g 9 = (ptr b9 0) ∧ g 10 = (ptr b10 0) ∧ g 11 = (i64 (errB lk ((lc.getD k call0).n_))) ∧ g 19 = (bl false) ∧ g 22 = (bl (decide (200 < (lc.length : Int)))) ∧ g 33 = (bl (decide (65536 < nb))) ∧ g 51 = (bl ((L0.length : Int) != nb)) ∧ g 53 = (bl (decide (200 < nb))) ∧ g 56 = vc ∧ g 57 = (i64 (lc.length : Int)) ∧ g 58 = (i64 (k : Int)) ∧ g 59 = (bl (decide ((k : Int) < (lc.length : Int)))) ∧ g 65 = (bl (decide (300 < (((lc.getD k call0).picks.2).length : Int)))) ∧ g 67 = (i64 ((lc.getD k call0).what_)) ∧ g 83 = (bl true) ∧ g 105 = (bl (((lc.getD k call0).what_) == 0)) ∧ g 120 = (bl (((lc.getD k call0).what_) == 1)) ∧ g 126 = (bl (((lc.getD k call0).what_) == 2)) ∧ True) ⟨s0, s1, s5, s6, s7, s9, rfl, rfl, s19, s22, s33, s51, s53, s56, s57, s58, s59, s65, s67, rfl, s105, s120, s126, trivial⟩ ?_
                     rintro fr125 ⟨s0, s1, s5, s6, s7, s9, s10, s11, s19, s22, s33, s51, s53, s56, s57, s58, s59, s65, s67, s83, s105, s120, s126, _⟩
                     refine cw_cond_t s83 (by decide) <| sR <| rM rfl s11 <| rw_q rfl (ev_i64_neq (b := 2) rfl rfl) <| rw_q rfl (ev_move (v := (bl ((errB lk ((lc.getD k call0).n_)) != 2))) rfl) ?_
                     have hd126 : ((errB lk ((lc.getD k call0).n_)) != 2) = false := told_ne (err_no (inB_out (.inl (of_decide_eq_true hb124))))
                     refine rw_gyq (s := 86) rfl rfl hd126 rfl (ev_loadA uT43 rfl ti43 s10 hm123.h0 (by rw [size_cl]; first | omega | (simp only [List.length_set, List.length_append, List.length_replicate, List.length_map, List.length_cons, List.length_nil]; omega) | (simp; done) | (simp; omega) | decide)) <| rw_gyq (s := 86) rfl rfl hd126 rfl (ev_build_arr (ps := []) (c := (cl u8 (List.replicate 64 0))) ti43 uT43 ti5 (by simp) rfl) <| rw_gyq (s := 86) rfl rfl hd126 rfl (ev_u8arr_neq (l := readB lk pk ((lc.getD k call0).n_)) (m := List.replicate 64 0) uT43 uT5 ti5 Try.eqGuardType43 rfl rfl (by first | rfl | first | omega | (simp only [List.length_set, List.length_append, List.length_replicate, List.length_map, List.length_cons, List.length_nil]; omega) | (simp; done) | (simp; omega) | decide) (by first | rfl | first | omega | (simp only [List.length_set, List.length_append, List.length_replicate, List.length_map, List.length_cons, List.length_nil]; omega) | (simp; done) | (simp; omega) | decide)) <| rw_q rfl (ev_pick_fk rfl hd126 rfl) <| rN ?_
                     have hd127 : ((readB lk pk ((lc.getD k call0).n_)) != (List.replicate 64 0)) = false := told_ne (read_no (inB_out (.inl (of_decide_eq_true hb124))))
                     refine cw_cond_f rfl hd127 ?_
                     refine cw_skip (kBlk_normal (cw_seq ?_))
                     refine cw_draw [(0, false), (1, false), (2, false), (3, false), (4, false), (5, false), (6, false)] 7 (by kernel_rfl) <| dM rfl rfl s5 <| dw_x (v := (i64 ((pk : List WriteT).length : Int))) rfl rfl (fun w128 _ew128 => OpR.mono (opR_call Try.func29 bd29 nm29 (args1 rfl) (c_dpend bdq6 vlq6 lk vk pk _ (hm123.ext _ew128).h2 (gl.rd (Mem.pick [_, _, _] Hl _ (hm123.ext _ew128))) (gk.rd (Mem.pick2 [_, _, _] Hl Hk _ (hm123.ext _ew128))))) (by rintro _ w129 ⟨rfl, _ew129⟩; exact ⟨rfl, _ew129⟩)) <| dM rfl rfl s7 <| dw_q rfl rfl (fun _ _hx => ev_nilCheck rfl) <| dw_q rfl rfl (fun _ _hx => ev_fa (r := 2) uT63 rfl (by first | rfl | omega) ti35 rfl rfl) ?_
                     refine dw_q (v := va) rfl rfl (fun _ _hx => ev_load1 uT35 rfl rfl ((Mem.pick3 [_, _, _] Hl Hk [_] _ (hm123.ext _hx))).h0 rfl) <| dw_q (v := (i64 ((pk.map WriteT.at_).length : Int))) rfl rfl (fun _ _hx => ev_len_rd (ga.rd (Mem.pick6 [_, _, _] Hl Hk [_] Hs Hm Ha _ (hm123.ext _hx))) uT35 rfl) ?_
                     refine dw_nil (fun w131 _ew131 => ?_)
                     have hm131 := hm123.ext _ew131
                     refine rw_q rfl (ev_i64_neq rfl rfl) <| rN ?_
                     refine CW.abs (fun g => g 0 = (i64 nb) ∧ g 1 = vc ∧ g 5 = (ptr bdq6 0) ∧ g 6 = (i64 0) ∧ g 7 = (ptr brq18 0) ∧ g 9 = (ptr b9 0) ∧ g 10 = (ptr b10 0) ∧ g 11 = (i64 (errB lk ((lc.getD k call0).n_))) ∧ g 19 = (bl false) ∧ g 22 = (bl (decide (200 < (lc.length : Int)))) ∧ g 33 = (bl (decide (65536 < nb))) ∧ g 51 = (bl ((L0.length : Int) != nb)) ∧ g 53 = (bl (decide (200 < nb))) ∧ g 56 = vc ∧ g 57 = (i64 (lc.length : Int)) ∧ g 58 = (i64 (k : Int)) ∧ g 59 = (bl (decide ((k : Int) < (lc.length : Int)))) ∧ g 65 = (bl (decide (300 < (((lc.getD k call0).picks.2).length : Int)))) ∧ g 67 = (i64 ((lc.getD k call0).what_)) ∧ g 83 = (bl true) ∧ g 90 = (bl ((readB lk pk ((lc.getD k call0).n_)) != (List.replicate 64 0))) ∧ g 105 = (bl (((lc.getD k call0).what_) == 0)) ∧ g 120 = (bl (((lc.getD k call0).what_) == 1)) ∧ g 126 = (bl (((lc.getD k call0).what_) == 2)) ∧ g 143 = (bl (((pk : List WriteT).length : Int) != ((pk.map WriteT.at_).length : Int))) ∧ True) ⟨s0, s1, s5, s6, s7, s9, s10, s11, s19, s22, s33, s51, s53, s56, s57, s58, s59, s65, s67, s83, rfl, s105, s120, s126, rfl, trivial⟩ ?_
                     rintro fr132 ⟨s0, s1, s5, s6, s7, s9, s10, s11, s19, s22, s33, s51, s53, s56, s57, s58, s59, s65, s67, s83, s90, s105, s120, s126, s143, _⟩
                     have hd133 : (((pk : List WriteT).length : Int) != ((pk.map WriteT.at_).length : Int)) = false := told_ne (by first | rfl | (simp; done) | (rw [map_push_at (b := (lc.getD k call0).b) hri]; simp))
                     refine cw_cond_f s143 hd133 ?_
                     refine cw_skip (kBlk_normal (cw_region ?_))
                     refine rw_q rfl (ev_i64_add (b := 1) s58 rfl oM oM) <| rw_q rfl (ev_move (v := (i64 ((k : Int) + 1))) rfl) <| rN ?_
                     have hm134 := Mem.drop ([(b10, .cells (cl u8 (readB lk pk ((lc.getD k call0).n_))) 43 (0, 0))]) _ hm131
                     have hm135 := Mem.drop ([(b9, .cells (segs [[(i64 ((lc.getD k call0).what_))], [(i64 ((lc.getD k call0).n_))], ((lc.getD k call0).b).map u8, [(slv (lc.getD k call0).picks)]]) 55 (0, 0))]) _ hm134
                     exact ⟨⟨(k + 1), lk, sk, pk, Hl, vk, Hk, vs, Hs, vm, Hm, va, Ha, vw, Hw, oM, gl, gk, gs, gm, ga, gw, hri, hln, oM, s0, s1, s5, s6, s7, s19, s22, s33, s51, s53, s56, s57, rfl, (by
                       have hT := hm135
                       simp only [List.append_assoc, List.cons_append, List.nil_append, List.append_nil] at hT ⊢
                       exact hT)⟩, meas (rfl) z58 oM oM⟩
                   · -- false
                     have hb124p := of_decide_eq_false hb124
                     refine rw_gyq (s := 78) rfl rfl hb124 rfl (ev_fa (r := 1) uT55 rfl (by first | rfl | omega) ti3 rfl s9) <| rw_gyq (s := 78) rfl rfl hb124 rfl (ev_load_segv (v := (i64 ((lc.getD k call0).n_))) [[(i64 ((lc.getD k call0).what_))]] [((lc.getD k call0).b).map u8, [(slv (lc.getD k call0).picks)]] uT3 rfl rfl hm123.h1 (fl_cons (n := 1) (m := 0) (k := 1) rfl fl_nil rfl)) <| rw_gyq (s := 78) rfl rfl hb124 rfl (ev_move s0) <| rw_gyq (s := 78) rfl rfl hb124 rfl (ev_i64_geq rfl rfl) <| rw_q rfl (ev_pick_fk rfl hb124 rfl) <| rN ?_
                     refine CW.abs (fun g => g 0 = (i64 nb) ∧ g 1 = vc ∧ g 5 = (ptr bdq6 0) ∧ g 6 = (i64 0) ∧ g 7 = (ptr brq18 0) ∧ g 9 = (ptr b9 0) ∧ g 10 = (ptr b10 0) ∧ g 11 = (i64 (errB lk ((lc.getD k call0).n_))) ∧ g 19 = (bl false) ∧ g 22 = (bl (decide (200 < (lc.length : Int)))) ∧ g 33 = (bl (decide (65536 < nb))) ∧ g 51 = (bl ((L0.length : Int) != nb)) ∧ g 53 = (bl (decide (200 < nb))) ∧ g 56 = vc ∧ g 57 = (i64 (lc.length : Int)) ∧ g 58 = (i64 (k : Int)) ∧ g 59 = (bl (decide ((k : Int) < (lc.length : Int)))) ∧ g 65 = (bl (decide (300 < (((lc.getD k call0).picks.2).length : Int)))) ∧ g 67 = (i64 ((lc.getD k call0).what_)) ∧ g 83 = (bl (decide (nb ≤ ((lc.getD k call0).n_)))) ∧ g 105 = (bl (((lc.getD k call0).what_) == 0)) ∧ g 120 = (bl (((lc.getD k call0).what_) == 1)) ∧ g 126 = (bl (((lc.getD k call0).what_) == 2)) ∧ True) ⟨s0, s1, s5, s6, s7, s9, rfl, rfl, s19, s22, s33, s51, s53, s56, s57, s58, s59, s65, s67, rfl, s105, s120, s126, trivial⟩ ?_
                     rintro fr136 ⟨s0, s1, s5, s6, s7, s9, s10, s11, s19, s22, s33, s51, s53, s56, s57, s58, s59, s65, s67, s83, s105, s120, s126, _⟩
                     refine cw_cond s83 (fun hc137 => ?_) (fun hc137 => ?_)
                     · -- true
                       have hc137p := of_decide_eq_true hc137
                       have hout : inB lk ((lc.getD k call0).n_) = false := inB_out oM
                       refine sR <| rM rfl s11 <| rw_q rfl (ev_i64_neq (b := 2) rfl rfl) <| rw_q rfl (ev_move (v := (bl ((errB lk ((lc.getD k call0).n_)) != 2))) rfl) ?_
                       have hd138 : ((errB lk ((lc.getD k call0).n_)) != 2) = false := told_ne (err_no hout)
                       refine rw_gyq (s := 86) rfl rfl hd138 rfl (ev_loadA uT43 rfl ti43 s10 hm123.h0 (by rw [size_cl]; first | omega | (simp only [List.length_set, List.length_append, List.length_replicate, List.length_map, List.length_cons, List.length_nil]; omega) | (simp; done) | (simp; omega) | decide)) <| rw_gyq (s := 86) rfl rfl hd138 rfl (ev_build_arr (ps := []) (c := (cl u8 (List.replicate 64 0))) ti43 uT43 ti5 (by simp) rfl) <| rw_gyq (s := 86) rfl rfl hd138 rfl (ev_u8arr_neq (l := readB lk pk ((lc.getD k call0).n_)) (m := List.replicate 64 0) uT43 uT5 ti5 Try.eqGuardType43 rfl rfl (by first | rfl | first | omega | (simp only [List.length_set, List.length_append, List.length_replicate, List.length_map, List.length_cons, List.length_nil]; omega) | (simp; done) | (simp; omega) | decide) (by first | rfl | first | omega | (simp only [List.length_set, List.length_append, List.length_replicate, List.length_map, List.length_cons, List.length_nil]; omega) | (simp; done) | (simp; omega) | decide)) <| rw_q rfl (ev_pick_fk rfl hd138 rfl) <| rN ?_
                       have hd139 : ((readB lk pk ((lc.getD k call0).n_)) != (List.replicate 64 0)) = false := told_ne (read_no hout)
                       refine cw_cond_f rfl hd139 ?_
                       refine cw_skip (kBlk_normal (cw_seq ?_))
                       refine cw_draw [(0, false), (1, false), (2, false), (3, false), (4, false), (5, false), (6, false)] 7 (by kernel_rfl) <| dM rfl rfl s5 <| dw_x (v := (i64 ((pk : List WriteT).length : Int))) rfl rfl (fun w140 _ew140 => OpR.mono (opR_call Try.func29 bd29 nm29 (args1 rfl) (c_dpend bdq6 vlq6 lk vk pk _ (hm123.ext _ew140).h2 (gl.rd (Mem.pick [_, _, _] Hl _ (hm123.ext _ew140))) (gk.rd (Mem.pick2 [_, _, _] Hl Hk _ (hm123.ext _ew140))))) (by rintro _ w141 ⟨rfl, _ew141⟩; exact ⟨rfl, _ew141⟩)) <| dM rfl rfl s7 <| dw_q rfl rfl (fun _ _hx => ev_nilCheck rfl) <| dw_q rfl rfl (fun _ _hx => ev_fa (r := 2) uT63 rfl (by first | rfl | omega) ti35 rfl rfl) ?_
                       refine dw_q (v := va) rfl rfl (fun _ _hx => ev_load1 uT35 rfl rfl ((Mem.pick3 [_, _, _] Hl Hk [_] _ (hm123.ext _hx))).h0 rfl) <| dw_q (v := (i64 ((pk.map WriteT.at_).length : Int))) rfl rfl (fun _ _hx => ev_len_rd (ga.rd (Mem.pick6 [_, _, _] Hl Hk [_] Hs Hm Ha _ (hm123.ext _hx))) uT35 rfl) ?_
                       refine dw_nil (fun w143 _ew143 => ?_)
                       have hm143 := hm123.ext _ew143
                       refine rw_q rfl (ev_i64_neq rfl rfl) <| rN ?_
                       refine CW.abs (fun g => g 0 = (i64 nb) ∧ g 1 = vc ∧ g 5 = (ptr bdq6 0) ∧ g 6 = (i64 0) ∧ g 7 = (ptr brq18 0) ∧ g 9 = (ptr b9 0) ∧ g 10 = (ptr b10 0) ∧ g 11 = (i64 (errB lk ((lc.getD k call0).n_))) ∧ g 19 = (bl false) ∧ g 22 = (bl (decide (200 < (lc.length : Int)))) ∧ g 33 = (bl (decide (65536 < nb))) ∧ g 51 = (bl ((L0.length : Int) != nb)) ∧ g 53 = (bl (decide (200 < nb))) ∧ g 56 = vc ∧ g 57 = (i64 (lc.length : Int)) ∧ g 58 = (i64 (k : Int)) ∧ g 59 = (bl (decide ((k : Int) < (lc.length : Int)))) ∧ g 65 = (bl (decide (300 < (((lc.getD k call0).picks.2).length : Int)))) ∧ g 67 = (i64 ((lc.getD k call0).what_)) ∧ g 83 = (bl (decide (nb ≤ ((lc.getD k call0).n_)))) ∧ g 90 = (bl ((readB lk pk ((lc.getD k call0).n_)) != (List.replicate 64 0))) ∧ g 105 = (bl (((lc.getD k call0).what_) == 0)) ∧ g 120 = (bl (((lc.getD k call0).what_) == 1)) ∧ g 126 = (bl (((lc.getD k call0).what_) == 2)) ∧ g 143 = (bl (((pk : List WriteT).length : Int) != ((pk.map WriteT.at_).length : Int))) ∧ True) ⟨s0, s1, s5, s6, s7, s9, s10, s11, s19, s22, s33, s51, s53, s56, s57, s58, s59, s65, s67, s83, rfl, s105, s120, s126, rfl, trivial⟩ ?_
                       rintro fr144 ⟨s0, s1, s5, s6, s7, s9, s10, s11, s19, s22, s33, s51, s53, s56, s57, s58, s59, s65, s67, s83, s90, s105, s120, s126, s143, _⟩
                       have hd145 : (((pk : List WriteT).length : Int) != ((pk.map WriteT.at_).length : Int)) = false := told_ne (by first | rfl | (simp; done) | (rw [map_push_at (b := (lc.getD k call0).b) hri]; simp))
                       refine cw_cond_f s143 hd145 ?_
                       refine cw_skip (kBlk_normal (cw_region ?_))
                       refine rw_q rfl (ev_i64_add (b := 1) s58 rfl oM oM) <| rw_q rfl (ev_move (v := (i64 ((k : Int) + 1))) rfl) <| rN ?_
                       have hm146 := Mem.drop ([(b10, .cells (cl u8 (readB lk pk ((lc.getD k call0).n_))) 43 (0, 0))]) _ hm143
                       have hm147 := Mem.drop ([(b9, .cells (segs [[(i64 ((lc.getD k call0).what_))], [(i64 ((lc.getD k call0).n_))], ((lc.getD k call0).b).map u8, [(slv (lc.getD k call0).picks)]]) 55 (0, 0))]) _ hm146
                       exact ⟨⟨(k + 1), lk, sk, pk, Hl, vk, Hk, vs, Hs, vm, Hm, va, Ha, vw, Hw, oM, gl, gk, gs, gm, ga, gw, hri, hln, oM, s0, s1, s5, s6, s7, s19, s22, s33, s51, s53, s56, s57, rfl, (by
                         have hT := hm147
                         simp only [List.append_assoc, List.cons_append, List.nil_append, List.append_nil] at hT ⊢
                         exact hT)⟩, meas (rfl) z58 oM oM⟩
                     · -- false
                       have hc137p := of_decide_eq_false hc137
                       have hin3 : inB lk ((lc.getD k call0).n_) = true := inB_of oM oM
                       have hskl := growA_b gs (show ((lc.getD k call0).n_).toNat < sk.length by omega)
                       refine cw_seq <| cw_draw [(0, false), (1, false), (2, false), (3, false), (4, false), (5, false), (6, false), (7, false), (8, false), (9, false), (10, false), (11, false)] 12 (by kernel_rfl) <| dM rfl rfl s11 <| dw_q rfl rfl (fun _ _hx => ev_i64_neq (b := 0) rfl rfl) <| dw_q rfl rfl (fun _ _hx => ev_move (v := (bl ((errB lk ((lc.getD k call0).n_)) != 0))) rfl) ?_
                       have hd148 : ((errB lk ((lc.getD k call0).n_)) != 0) = false := told_ne (err_ok hin3)
                       refine dw_gqy (s := 93) rfl rfl rfl hd148 rfl (fun _ _hx => ev_loadA uT43 rfl ti43 s10 (hm123.ext _hx).h0 (by rw [size_cl]; first | omega | (simp only [List.length_set, List.length_append, List.length_replicate, List.length_map, List.length_cons, List.length_nil]; omega) | (simp; done) | (simp; omega) | decide)) <| dw_gqy (s := 93) rfl rfl rfl hd148 rfl (fun _ _hx => ev_move s7) <| dw_gqy (s := 93) rfl rfl rfl hd148 rfl (fun _ _hx => ev_nilCheck rfl) <| dw_gqy (s := 93) rfl rfl rfl hd148 rfl (fun _ _hx => ev_fa (r := 0) uT63 rfl (by first | rfl | omega) ti61 rfl rfl) <| dw_gqy (s := 93) rfl rfl rfl hd148 rfl (fun _ _hx => ev_load1 uT61 rfl rfl ((Mem.pick3 [_, _, _] Hl Hk [_] _ (hm123.ext _hx))).h0 rfl) <| dw_gqy (s := 93) rfl rfl rfl hd148 rfl (fun _ _hx => ev_fa (r := 1) uT55 rfl (by first | rfl | omega) ti3 rfl s9) ?_
                       refine dw_gqy (s := 93) rfl rfl rfl hd148 rfl (fun _ _hx => ev_load_segv (v := (i64 ((lc.getD k call0).n_))) [[(i64 ((lc.getD k call0).what_))]] [((lc.getD k call0).b).map u8, [(slv (lc.getD k call0).picks)]] uT3 rfl rfl (hm123.ext _hx).h1 (fl_cons (n := 1) (m := 0) (k := 1) rfl fl_nil rfl)) <| dw_gqy (s := 93) rfl rfl rfl hd148 rfl (fun _ _hx => ev_indexAddr_rk (i := (lc.getD k call0).n_) (gs.rd (Mem.pick4 [_, _, _] Hl Hk [_] Hs _ (hm123.ext _hx))) uT61 ti43 rfl rfl oM sL) <| dw_gqy (s := 93) rfl rfl rfl hd148 rfl (fun _ _hx => ev_load_rka (i := (lc.getD k call0).n_) (gs.rd (Mem.pick4 [_, _, _] Hl Hk [_] Hs _ (hm123.ext _hx))) sL uT43 ti43 rfl rfl) ?_
                       refine dw_nil (fun w149 _ew149 => ?_)
                       have hm149 := hm123.ext _ew149
                       refine rw_gyq (s := 93) rfl rfl hd148 rfl (ev_u8arr_neq (l := readB lk pk ((lc.getD k call0).n_)) (m := sk.getD (((lc.getD k call0).n_ : Int).toNat) []) uT43 uT5 ti5 Try.eqGuardType43 rfl rfl (by first | rfl | first | omega | (simp only [List.length_set, List.length_append, List.length_replicate, List.length_map, List.length_cons, List.length_nil]; omega) | (simp; done) | (simp; omega) | decide) (by first | rfl | first | omega | (simp only [List.length_set, List.length_append, List.length_replicate, List.length_map, List.length_cons, List.length_nil]; omega) | (simp; done) | (simp; omega) | decide)) <| rw_q rfl (ev_pick_fk rfl hd148 rfl) <| rN ?_
                       have hd150 : ((readB lk pk ((lc.getD k call0).n_)) != (sk.getD (((lc.getD k call0).n_ : Int).toNat) [])) = false := told_ne (hri.seen _ hin3).symm
                       refine cw_cond_f rfl hd150 ?_
                       refine cw_skip (kBlk_normal (cw_seq ?_))
                       refine cw_draw [(0, false), (1, false), (2, false), (3, false), (4, false), (5, false), (6, false)] 7 (by kernel_rfl) <| dM rfl rfl s5 <| dw_x (v := (i64 ((pk : List WriteT).length : Int))) rfl rfl (fun w151 _ew151 => OpR.mono (opR_call Try.func29 bd29 nm29 (args1 rfl) (c_dpend bdq6 vlq6 lk vk pk _ (hm149.ext _ew151).h2 (gl.rd (Mem.pick [_, _, _] Hl _ (hm149.ext _ew151))) (gk.rd (Mem.pick2 [_, _, _] Hl Hk _ (hm149.ext _ew151))))) (by rintro _ w152 ⟨rfl, _ew152⟩; exact ⟨rfl, _ew152⟩)) <| dM rfl rfl s7 <| dw_q rfl rfl (fun _ _hx => ev_nilCheck rfl) <| dw_q rfl rfl (fun _ _hx => ev_fa (r := 2) uT63 rfl (by first | rfl | omega) ti35 rfl rfl) ?_
                       refine dw_q (v := va) rfl rfl (fun _ _hx => ev_load1 uT35 rfl rfl ((Mem.pick3 [_, _, _] Hl Hk [_] _ (hm149.ext _hx))).h0 rfl) <| dw_q (v := (i64 ((pk.map WriteT.at_).length : Int))) rfl rfl (fun _ _hx => ev_len_rd (ga.rd (Mem.pick6 [_, _, _] Hl Hk [_] Hs Hm Ha _ (hm149.ext _hx))) uT35 rfl) ?_
                       refine dw_nil (fun w154 _ew154 => ?_)
                       have hm154 := hm149.ext _ew154
                       refine rw_q rfl (ev_i64_neq rfl rfl) <| rN ?_
                       refine CW.abs (fun g => g 0 = (i64 nb) ∧ g 1 = vc ∧ g 5 = (ptr bdq6 0) ∧ g 6 = (i64 0) ∧ g 7 = (ptr brq18 0) ∧ g 9 = (ptr b9 0) ∧ g 10 = (ptr b10 0) ∧ g 11 = (i64 (errB lk ((lc.getD k call0).n_))) ∧ g 19 = (bl false) ∧ g 22 = (bl (decide (200 < (lc.length : Int)))) ∧ g 33 = (bl (decide (65536 < nb))) ∧ g 51 = (bl ((L0.length : Int) != nb)) ∧ g 53 = (bl (decide (200 < nb))) ∧ g 56 = vc ∧ g 57 = (i64 (lc.length : Int)) ∧ g 58 = (i64 (k : Int)) ∧ g 59 = (bl (decide ((k : Int) < (lc.length : Int)))) ∧ g 65 = (bl (decide (300 < (((lc.getD k call0).picks.2).length : Int)))) ∧ g 67 = (i64 ((lc.getD k call0).what_)) ∧ g 83 = (bl (decide (nb ≤ ((lc.getD k call0).n_)))) ∧ g 104 = (bl ((readB lk pk ((lc.getD k call0).n_)) != (sk.getD (((lc.getD k call0).n_ : Int).toNat) []))) ∧ g 105 = (bl (((lc.getD k call0).what_) == 0)) ∧ g 120 = (bl (((lc.getD k call0).what_) == 1)) ∧ g 126 = (bl (((lc.getD k call0).what_) == 2)) ∧ g 143 = (bl (((pk : List WriteT).length : Int) != ((pk.map WriteT.at_).length : Int))) ∧ True) ⟨s0, s1, s5, s6, s7, s9, s10, s11, s19, s22, s33, s51, s53, s56, s57, s58, s59, s65, s67, s83, rfl, s105, s120, s126, rfl, trivial⟩ ?_
                       rintro fr155 ⟨s0, s1, s5, s6, s7, s9, s10, s11, s19, s22, s33, s51, s53, s56, s57, s58, s59, s65, s67, s83, s104, s105, s120, s126, s143, _⟩
                       have hd156 : (((pk : List WriteT).length : Int) != ((pk.map WriteT.at_).length : Int)) = false := told_ne (by first | rfl | (simp; done) | (rw [map_push_at (b := (lc.getD k call0).b) hri]; simp))
                       refine cw_cond_f s143 hd156 ?_
                       refine cw_skip (kBlk_normal (cw_region ?_))
                       refine rw_q rfl (ev_i64_add (b := 1) s58 rfl oM oM) <| rw_q rfl (ev_move (v := (i64 ((k : Int) + 1))) rfl) <| rN ?_
                       have hm157 := Mem.drop ([(b10, .cells (cl u8 (readB lk pk ((lc.getD k call0).n_))) 43 (0, 0))]) _ hm154
                       have hm158 := Mem.drop ([(b9, .cells (segs [[(i64 ((lc.getD k call0).what_))], [(i64 ((lc.getD k call0).n_))], ((lc.getD k call0).b).map u8, [(slv (lc.getD k call0).picks)]]) 55 (0, 0))]) _ hm157
                       exact ⟨⟨(k + 1), lk, sk, pk, Hl, vk, Hk, vs, Hs, vm, Hm, va, Ha, vw, Hw, oM, gl, gk, gs, gm, ga, gw, hri, hln, oM, s0, s1, s5, s6, s7, s19, s22, s33, s51, s53, s56, s57, rfl, (by
                         have hT := hm158
                         simp only [List.append_assoc, List.cons_append, List.nil_append, List.append_nil] at hT ⊢
                         exact hT)⟩, meas (rfl) z58 oM oM⟩
         · -- false
           have hc29p := of_decide_eq_false hc29
           refine cw_exit ?_
           refine kThen_exit (kThen_exit (kBlk_hit ?_))
           refine sR <| rM rfl s5 <| rw_c rfl (opR_call Try.func35 bd35 nm35 (args1 rfl) (c_twin bdq6 vlq6 lk vk pk _ hm28.h0 (gl.rd (Mem.pick [_] Hl _ hm28)) (gk.rd (Mem.pick2 [_] Hl Hk _ hm28)) hri.hat sL sL)) ?_
           rintro _ w159 ⟨btq160, vtq160, Htq160, rfl, gtq160, k_w159⟩
           have hm159 : Mem w159 (restOf w0) ([(btq160, .cells #[vtq160, (Value.slice none 0 0)] 88 (0, 0))] ++ (Htq160 ++ ([(bdq6, .cells #[vlq6, vk] 88 (0, 0))] ++ (Hl ++ (Hk ++ ([(brq18, .cells #[vs, vm, va, vw] 63 (0, 0))] ++ (Hs ++ (Hm ++ (Ha ++ (Hw ++ ([]))))))))))) := (by
             have hT := Mem.new (H := [(bdq6, .cells #[vlq6, vk] 88 (0, 0))] ++ (Hl ++ (Hk ++ ([(brq18, .cells #[vs, vm, va, vw] 63 (0, 0))] ++ (Hs ++ (Hm ++ (Ha ++ (Hw ++ ([]))))))))) (H' := _) hm28 k_w159
             simp only [List.append_assoc, List.cons_append, List.nil_append, List.append_nil] at hT ⊢
             exact hT)
           refine rw_q rfl (ev_assign (v := (ptr btq160 0)) rfl) ?_
           refine rN (cw_seq (sR ?_))
           refine rw_q rfl (ev_assign (v := (i64 0)) rfl) ?_
           refine rN (cw_block ?_)
           refine cw_loop (fun g wv => ∃ (i : Nat), ((i : Int) ≤ nb) ∧ g 0 = (i64 nb) ∧ g 1 = vc ∧ g 5 = (ptr bdq6 0) ∧ g 6 = (i64 0) ∧ g 7 = (ptr brq18 0) ∧ g 12 = (ptr btq160 0) ∧ g 13 = (i64 (i : Int)) ∧ g 19 = (bl false) ∧ g 22 = (bl (decide (200 < (lc.length : Int)))) ∧ g 33 = (bl (decide (65536 < nb))) ∧ g 51 = (bl ((L0.length : Int) != nb)) ∧ g 53 = (bl (decide (200 < nb))) ∧ g 56 = vc ∧ g 57 = (i64 (lc.length : Int)) ∧ g 58 = (i64 (k : Int)) ∧ g 59 = (bl (decide ((k : Int) < (lc.length : Int)))) ∧ Mem wv (restOf w0) ([(btq160, .cells #[vtq160, (Value.slice none 0 0)] 88 (0, 0))] ++ (Htq160 ++ ([(bdq6, .cells #[vlq6, vk] 88 (0, 0))] ++ (Hl ++ (Hk ++ ([(brq18, .cells #[vs, vm, va, vw] 63 (0, 0))] ++ (Hs ++ (Hm ++ (Ha ++ (Hw ++ ([])))))))))))) (fun g wv => (nb - RowKit.intOf (g 13)).toNat) ?_ ?_
           · exact ⟨0, oM, s0, s1, s5, s6, s7, rfl, rfl, s19, s22, s33, s51, s53, s56, s57, s58, rfl, hm159⟩
           · rintro fr161 w162 ⟨i, hi, s0, s1, s5, s6, s7, s12, s13, s19, s22, s33, s51, s53, s56, s57, s58, s59, hm162⟩
             have z13 := s13
             refine cw_seq (sR ?_)
             refine rM rfl s13 <| rM rfl s0 <| rw_q rfl (ev_i64_lss rfl rfl) <| rN ?_
             refine cw_cond rfl (fun hc163 => ?_) (fun hc163 => ?_)
             · -- true
               have hc163p := of_decide_eq_true hc163
               have hini : inB lk (i : Int) = true := inB_of oM oM
               have hskl := growA_b gs (show i < sk.length by omega)
               refine cw_skip (kThen_normal (cw_seq (cw_block (sR ?_))))
               refine rM rfl s5 <| rM rfl s13 <| rw_c rfl (opR_call Try.func28 bd28 nm28 (args2 rfl rfl) (c_dread bdq6 vlq6 lk vk pk (i : Int) _ ((Mem.pick2 [_] Htq160 [_] _ hm162)).h0 (gl.rd (Mem.pick3 [_] Htq160 [_] Hl _ hm162)) (gk.rd (Mem.pick4 [_] Htq160 [_] Hl Hk _ hm162)) sL sL)) ?_
               rintro _ w164 ⟨rfl, _ew164⟩
               have hm164 := hm162.ext _ew164
               have hrd1 := read_len (ls := lk) (ps := pk) hlA hpB (i : Int)
               refine rw_q rfl (ev_move (v := (Value.tuple #[(agg u8 (readB lk pk (i : Int))), (i64 (errB lk (i : Int)))])) rfl) <| rw_q (v := (agg u8 (readB lk pk (i : Int)))) rfl (ev_extract rfl rfl) <| rw_q (v := (i64 (errB lk (i : Int)))) rfl (ev_extract rfl rfl) <| rw_c rfl (or_alloc_agg hm164 ti43) ?_
               rintro _ w166 ⟨b14, rfl, _ew166, hm166⟩
               refine rw_n (or_store_agg (f := u8) (l := readB lk pk (i : Int)) u8_one ti43 rfl rfl sL hm166.h0 (by rw [size_cl]; first | omega | (simp only [List.length_set, List.length_append, List.length_replicate, List.length_map, List.length_cons, List.length_nil]; omega) | (simp; done) | (simp; omega) | decide) rfl) ?_
               rintro _ w167 uq167
               have hm167 := hm166.upd0 uq167
               refine rw_q rfl (ev_assign (v := (i64 (errB lk (i : Int)))) rfl) ?_
               refine rN (sR ?_)
               refine rM rfl s12 <| rM rfl s13 <| rw_c rfl (opR_call Try.func28 bd28 nm28 (args2 rfl rfl) (c_dread btq160 vtq160 (crashB lk pk [1#8]) (Value.slice none 0 0) ([]) (i : Int) _ hm167.h1 (gtq160.rd (Mem.pick [_, _] Htq160 _ hm167)) (RdK.nil _ _) sL sL)) ?_
               rintro _ w168 ⟨rfl, _ew168⟩
               have hm168 := hm167.ext _ew168
               have hrd2 : (readB (crashB lk pk [1#8]) [] (i : Int)).length = 64 := by rw [twin_read hlA hpB hri hini]; exact hrd1
               refine rM rfl rfl <| rw_q (v := (agg u8 (readB (crashB lk pk [1#8]) ([]) (i : Int)))) rfl (ev_extract rfl rfl) <| rw_q (v := (i64 (errB (crashB lk pk [1#8]) (i : Int)))) rfl (ev_extract rfl rfl) <| rw_c rfl (or_alloc_agg hm168 ti43) ?_
               rintro _ w170 ⟨b16, rfl, _ew170, hm170⟩
               refine rw_n (or_store_agg (f := u8) (l := readB (crashB lk pk [1#8]) ([]) (i : Int)) u8_one ti43 rfl rfl sL hm170.h0 (by rw [size_cl]; first | omega | (simp only [List.length_set, List.length_append, List.length_replicate, List.length_map, List.length_cons, List.length_nil]; omega) | (simp; done) | (simp; omega) | decide) rfl) ?_
               rintro _ w171 uq171
               have hm171 := hm170.upd0 uq171
               refine rw_q rfl (ev_assign (v := (i64 (errB (crashB lk pk [1#8]) (i : Int)))) rfl) <| rN ?_
               refine CW.abs (fun g => g 0 = (i64 nb) ∧ g 1 = vc ∧ g 5 = (ptr bdq6 0) ∧ g 6 = (i64 0) ∧ g 7 = (ptr brq18 0) ∧ g 12 = (ptr btq160 0) ∧ g 13 = (i64 (i : Int)) ∧ g 14 = (ptr b14 0) ∧ g 15 = (i64 (errB lk (i : Int))) ∧ g 16 = (ptr b16 0) ∧ g 17 = (i64 (errB (crashB lk pk [1#8]) (i : Int))) ∧ g 19 = (bl false) ∧ g 22 = (bl (decide (200 < (lc.length : Int)))) ∧ g 33 = (bl (decide (65536 < nb))) ∧ g 51 = (bl ((L0.length : Int) != nb)) ∧ g 53 = (bl (decide (200 < nb))) ∧ g 56 = vc ∧ g 57 = (i64 (lc.length : Int)) ∧ g 58 = (i64 (k : Int)) ∧ g 59 = (bl (decide ((k : Int) < (lc.length : Int)))) ∧ g 149 = (bl (decide ((i : Int) < nb))) ∧ True) ⟨s0, s1, s5, s6, s7, s12, s13, rfl, rfl, rfl, rfl, s19, s22, s33, s51, s53, s56, s57, s58, s59, rfl, trivial⟩ ?_
               rintro fr172 ⟨s0, s1, s5, s6, s7, s12, s13, s14, s15, s16, s17, s19, s22, s33, s51, s53, s56, s57, s58, s59, s149, _⟩
               refine cw_seq <| cw_draw [(0, false), (1, false), (2, false), (3, false), (4, false), (5, false), (6, false), (7, false), (8, false), (9, false), (10, false), (11, false), (12, false), (13, false), (14, false), (15, false), (16, false), (17, false), (18, false), (19, false)] 20 (by kernel_rfl) <| dM rfl rfl s15 <| dw_q rfl rfl (fun _ _hx => ev_i64_neq (b := 0) rfl rfl) <| dw_q rfl rfl (fun _ _hx => ev_move (v := (bl ((errB lk (i : Int)) != 0))) rfl) ?_
               have hd173 : ((errB lk (i : Int)) != 0) = false := told_ne (err_ok hini)
               refine dw_gqy (s := 166) rfl rfl rfl hd173 rfl (fun _ _hx => ev_move s17) <| dw_gqy (s := 166) rfl rfl rfl hd173 rfl (fun _ _hx => ev_i64_neq (b := 0) rfl rfl) <| dw_q rfl rfl (fun _ _hx => ev_pick_fk rfl hd173 rfl) <| dw_q rfl rfl (fun _ _hx => ev_move (v := (bl ((errB (crashB lk pk [1#8]) (i : Int)) != 0))) rfl) ?_
               have hd174 : ((errB (crashB lk pk [1#8]) (i : Int)) != 0) = false := told_ne (err_ok (by rw [inB_len crashB_len]; exact hini))
               refine dw_gqy (s := 170) rfl rfl rfl hd174 rfl (fun _ _hx => ev_loadA uT43 rfl ti43 s14 (hm171.ext _hx).h1 (by rw [size_cl]; first | omega | (simp only [List.length_set, List.length_append, List.length_replicate, List.length_map, List.length_cons, List.length_nil]; omega) | (simp; done) | (simp; omega) | decide)) <| dw_gqy (s := 170) rfl rfl rfl hd174 rfl (fun _ _hx => ev_move s7) <| dw_gqy (s := 170) rfl rfl rfl hd174 rfl (fun _ _hx => ev_nilCheck rfl) <| dw_gqy (s := 170) rfl rfl rfl hd174 rfl (fun _ _hx => ev_fa (r := 0) uT63 rfl (by first | rfl | omega) ti61 rfl rfl) <| dw_gqy (s := 170) rfl rfl rfl hd174 rfl (fun _ _hx => ev_load1 uT61 rfl rfl ((Mem.pick5 [_, _, _] Htq160 [_] Hl Hk [_] _ (hm171.ext _hx))).h0 rfl) <| dw_gqy (s := 170) rfl rfl rfl hd174 rfl (fun _ _hx => ev_move s13) ?_
               refine dw_gqy (s := 170) rfl rfl rfl hd174 rfl (fun _ _hx => ev_indexAddr_rk (i := (i : Int)) (gs.rd (Mem.pick6 [_, _, _] Htq160 [_] Hl Hk [_] Hs _ (hm171.ext _hx))) uT61 ti43 rfl rfl oM sL) <| dw_gqy (s := 170) rfl rfl rfl hd174 rfl (fun _ _hx => ev_load_rka (i := (i : Int)) (gs.rd (Mem.pick6 [_, _, _] Htq160 [_] Hl Hk [_] Hs _ (hm171.ext _hx))) sL uT43 ti43 rfl rfl) <| dw_gqy (s := 170) rfl rfl rfl hd174 rfl (fun _ _hx => ev_u8arr_neq (l := readB lk pk (i : Int)) (m := sk.getD i []) uT43 uT5 ti5 Try.eqGuardType43 rfl rfl (by first | rfl | first | omega | (simp only [List.length_set, List.length_append, List.length_replicate, List.length_map, List.length_cons, List.length_nil]; omega) | (simp; done) | (simp; omega) | decide) (by first | rfl | first | omega | (simp only [List.length_set, List.length_append, List.length_replicate, List.length_map, List.length_cons, List.length_nil]; omega) | (simp; done) | (simp; omega) | decide)) <| dw_q rfl rfl (fun _ _hx => ev_pick_fk rfl hd174 rfl) <| dw_q rfl rfl (fun _ _hx => ev_move (v := (bl ((readB lk pk (i : Int)) != (sk.getD i [])))) rfl) ?_
               have hd175 : ((readB lk pk (i : Int)) != (sk.getD i [])) = false := told_ne (hri.seen _ hini).symm
               refine dw_gqy (s := 181) rfl rfl rfl hd175 rfl (fun _ _hx => ev_loadA uT43 rfl ti43 s16 (hm171.ext _hx).h0 (by rw [size_cl]; first | omega | (simp only [List.length_set, List.length_append, List.length_replicate, List.length_map, List.length_cons, List.length_nil]; omega) | (simp; done) | (simp; omega) | decide)) <| dw_gqy (s := 181) rfl rfl rfl hd175 rfl (fun _ _hx => ev_loadA uT43 rfl ti43 s14 (hm171.ext _hx).h1 (by rw [size_cl]; first | omega | (simp only [List.length_set, List.length_append, List.length_replicate, List.length_map, List.length_cons, List.length_nil]; omega) | (simp; done) | (simp; omega) | decide)) ?_
               refine dw_nil (fun w176 _ew176 => ?_)
               have hm176 := hm171.ext _ew176
               refine rw_gyq (s := 181) rfl rfl hd175 rfl (ev_u8arr_neq (l := readB (crashB lk pk [1#8]) ([]) (i : Int)) (m := readB lk pk (i : Int)) uT43 uT5 ti5 Try.eqGuardType43 rfl rfl (by first | rfl | first | omega | (simp only [List.length_set, List.length_append, List.length_replicate, List.length_map, List.length_cons, List.length_nil]; omega) | (simp; done) | (simp; omega) | decide) (by first | rfl | first | omega | (simp only [List.length_set, List.length_append, List.length_replicate, List.length_map, List.length_cons, List.length_nil]; omega) | (simp; done) | (simp; omega) | decide)) <| rw_q rfl (ev_pick_fk rfl hd175 rfl) <| rN ?_
               refine CW.abs (fun g => g 0 = (i64 nb) ∧ g 1 = vc ∧ g 5 = (ptr bdq6 0) ∧ g 6 = (i64 0) ∧ g 7 = (ptr brq18 0) ∧ g 12 = (ptr btq160 0) ∧ g 13 = (i64 (i : Int)) ∧ g 14 = (ptr b14 0) ∧ g 15 = (i64 (errB lk (i : Int))) ∧ g 16 = (ptr b16 0) ∧ g 17 = (i64 (errB (crashB lk pk [1#8]) (i : Int))) ∧ g 19 = (bl false) ∧ g 22 = (bl (decide (200 < (lc.length : Int)))) ∧ g 33 = (bl (decide (65536 < nb))) ∧ g 51 = (bl ((L0.length : Int) != nb)) ∧ g 53 = (bl (decide (200 < nb))) ∧ g 56 = vc ∧ g 57 = (i64 (lc.length : Int)) ∧ g 58 = (i64 (k : Int)) ∧ g 59 = (bl (decide ((k : Int) < (lc.length : Int)))) ∧ g 149 = (bl (decide ((i : Int) < nb))) ∧ g 185 = (bl ((readB (crashB lk pk [1#8]) ([]) (i : Int)) != (readB lk pk (i : Int)))) ∧ True) ⟨s0, s1, s5, s6, s7, s12, s13, s14, s15, s16, s17, s19, s22, s33, s51, s53, s56, s57, s58, s59, s149, rfl, trivial⟩ ?_
               rintro fr177 ⟨s0, s1, s5, s6, s7, s12, s13, s14, s15, s16, s17, s19, s22, s33, s51, s53, s56, s57, s58, s59, s149, s185, _⟩
               have hd178 : ((readB (crashB lk pk [1#8]) ([]) (i : Int)) != (readB lk pk (i : Int))) = false := told_ne (twin_read hlA hpB hri hini)
               refine cw_cond_f s185 hd178 ?_
               refine cw_skip (kBlk_normal (cw_region ?_))
               refine rM rfl s13 <| rw_q rfl (ev_i64_add (b := 1) rfl rfl oM oM) <| rw_q rfl (ev_assign (v := (i64 ((i : Int) + 1))) rfl) <| rN ?_
               have hm179 := Mem.drop ([(b16, .cells (cl u8 (readB (crashB lk pk [1#8]) ([]) (i : Int))) 43 (0, 0))]) _ hm176
               have hm180 := Mem.drop ([(b14, .cells (cl u8 (readB lk pk (i : Int))) 43 (0, 0))]) _ hm179
               exact ⟨⟨(i + 1), oM, s0, s1, s5, s6, s7, s12, rfl, s19, s22, s33, s51, s53, s56, s57, s58, s59, hm180⟩, meas (rfl) z13 oM oM⟩
             · -- false
               have hc163p := of_decide_eq_false hc163
               refine cw_exit ?_
               refine kThen_exit (kThen_exit (kBlk_hit ?_))
               refine cw_seq <| cw_draw [(0, false), (1, false), (2, false), (3, false), (4, false), (5, false), (6, false), (7, false), (8, false), (9, false), (10, false)] 11 (by kernel_rfl) <| dM rfl rfl s12 <| dw_x (v := (i64 ((([]) : List WriteT).length : Int))) rfl rfl (fun w181 _ew181 => OpR.mono (opR_call Try.func29 bd29 nm29 (args1 rfl) (c_dpend btq160 vtq160 (crashB lk pk [1#8]) (Value.slice none 0 0) ([]) _ (hm162.ext _ew181).h0 (gtq160.rd (Mem.pick [_] Htq160 _ (hm162.ext _ew181))) (RdK.nil _ _))) (by rintro _ w182 ⟨rfl, _ew182⟩; exact ⟨rfl, _ew182⟩)) <| dw_q rfl rfl (fun _ _hx => ev_i64_eql (b := 0) rfl rfl) <| dw_q rfl rfl (fun _ _hx => ev_move (v := (bl (((([]) : List WriteT).length : Int) == 0))) rfl) ?_
               have hd184 : (((([]) : List WriteT).length : Int) == 0) = true := rfl
               refine dw_gqy (s := 189) rfl rfl rfl hd184 rfl (fun _ _hx => ev_move s5) <| dw_gxy (s := 189) (v := (i64 ((pk : List WriteT).length : Int))) rfl rfl rfl hd184 rfl (fun w185 _ew185 => OpR.mono (opR_call Try.func29 bd29 nm29 (args1 rfl) (c_dpend bdq6 vlq6 lk vk pk _ ((Mem.pick2 [_] Htq160 [_] _ (hm162.ext _ew185))).h0 (gl.rd (Mem.pick3 [_] Htq160 [_] Hl _ (hm162.ext _ew185))) (gk.rd (Mem.pick4 [_] Htq160 [_] Hl Hk _ (hm162.ext _ew185))))) (by rintro _ w186 ⟨rfl, _ew186⟩; exact ⟨rfl, _ew186⟩)) <| dw_gqy (s := 189) rfl rfl rfl hd184 rfl (fun _ _hx => ev_move s7) <| dw_gqy (s := 189) rfl rfl rfl hd184 rfl (fun _ _hx => ev_nilCheck rfl) <| dw_gqy (s := 189) rfl rfl rfl hd184 rfl (fun _ _hx => ev_fa (r := 2) uT63 rfl (by first | rfl | omega) ti35 rfl rfl) <| dw_gqy (s := 189) rfl rfl rfl hd184 rfl (fun _ _hx => ev_load1 uT35 rfl rfl ((Mem.pick5 [_] Htq160 [_] Hl Hk [_] _ (hm162.ext _hx))).h0 rfl) ?_
               refine dw_gqy (s := 189) rfl rfl rfl hd184 rfl (fun _ _hx => ev_len_rd (ga.rd (Mem.pick8 [_] Htq160 [_] Hl Hk [_] Hs Hm Ha _ (hm162.ext _hx))) uT35 rfl) ?_
               refine dw_nil (fun w188 _ew188 => ?_)
               have hm188 := hm162.ext _ew188
               refine rw_gyq (s := 189) rfl rfl hd184 rfl (ev_i64_eql rfl rfl) <| rw_q rfl (ev_pick_tk rfl hd184 rfl) <| rw_q rfl (ev_assign (v := (bl (((pk : List WriteT).length : Int) == ((pk.map WriteT.at_).length : Int)))) rfl) <| rN ?_
               refine CW.abs (fun g => g 0 = (i64 nb) ∧ g 1 = vc ∧ g 4 = (bl (((pk : List WriteT).length : Int) == ((pk.map WriteT.at_).length : Int))) ∧ g 5 = (ptr bdq6 0) ∧ g 6 = (i64 0) ∧ g 7 = (ptr brq18 0) ∧ g 12 = (ptr btq160 0) ∧ g 13 = (i64 (i : Int)) ∧ g 19 = (bl false) ∧ g 22 = (bl (decide (200 < (lc.length : Int)))) ∧ g 33 = (bl (decide (65536 < nb))) ∧ g 51 = (bl ((L0.length : Int) != nb)) ∧ g 53 = (bl (decide (200 < nb))) ∧ g 56 = vc ∧ g 57 = (i64 (lc.length : Int)) ∧ g 58 = (i64 (k : Int)) ∧ g 59 = (bl (decide ((k : Int) < (lc.length : Int)))) ∧ g 149 = (bl (decide ((i : Int) < nb))) ∧ True) ⟨s0, s1, rfl, s5, s6, s7, s12, s13, s19, s22, s33, s51, s53, s56, s57, s58, s59, rfl, trivial⟩ ?_
               rintro fr189 ⟨s0, s1, s4, s5, s6, s7, s12, s13, s19, s22, s33, s51, s53, s56, s57, s58, s59, s149, _⟩
               refine cw_ret <| fnPost_ret [(bl (((pk : List WriteT).length : Int) == ((pk.map WriteT.at_).length : Int)))] ⟨s4, trivial⟩ ?_
               have hd190 : (((pk : List WriteT).length : Int) == ((pk.map WriteT.at_).length : Int)) = true := told_true (by first | rfl | (simp; done) | (rw [map_push_at (b := (lc.getD k call0).b) hri]; simp))
               exact ⟨congrArg bl hd190, Mem.below w0 hm188⟩
   · -- false
     have hnn := inN_f hb4
     refine cw_region <| rw_q rfl (ev_move (v := (i64 nb)) rfl) <| rw_c rfl (opR_call Try.func24 bd24 nm24 (args1 rfl) (c_dnew0 nb _ sL)) ?_
     rintro _ w191 ⟨rfl, _ew191⟩
     have hm191 := hm1.ext _ew191
     refine rw_q rfl (ev_move (v := (Value.tuple #[(Value.pointer none), (i64 2)])) rfl) <| rw_q (v := (Value.pointer none)) rfl (ev_extract rfl rfl) <| rw_q (v := (i64 2)) rfl (ev_extract rfl rfl) <| rw_q rfl (ev_assign (v := (Value.pointer none)) rfl) <| rw_q rfl (ev_assign (v := (i64 2)) rfl) ?_
     refine rN (cw_seq (sR ?_))
     refine rw_q rfl (ev_move (v := (i64 nb)) rfl) <| rw_q rfl (ev_i64_lss (b := 1) rfl rfl) <| rw_q rfl (ev_move (v := (bl (decide (nb < 1)))) rfl) ?_
     rcases Bool.eq_false_or_eq_true (decide (nb < 1)) with hb193 | hb193
     · -- true
       have hb193p := of_decide_eq_true hb193
       refine rw_gn (s := 30) rfl rfl hb193 rfl <| rw_gn (s := 30) rfl rfl hb193 rfl <| rw_q rfl (ev_pick_tk rfl hb193 rfl) <| rN ?_
       refine CW.abs (fun g => g 0 = (i64 nb) ∧ g 1 = vc ∧ g 4 = (bl false) ∧ g 5 = (Value.pointer none) ∧ g 6 = (i64 2) ∧ g 19 = (bl false) ∧ g 22 = (bl (decide (200 < (lc.length : Int)))) ∧ g 33 = (bl true) ∧ True) ⟨rfl, rfl, rfl, rfl, rfl, rfl, rfl, rfl, trivial⟩ ?_
       rintro fr194 ⟨s0, s1, s4, s5, s6, s19, s22, s33, _⟩
       refine cw_cond_t s33 (by decide) <| sR <| rM rfl s6 <| rw_q rfl (ev_i64_eql (b := 2) rfl rfl) <| rw_q rfl (ev_move (v := (bl (2 == 2))) rfl) ?_
       have hd195 : (2 == 2) = true := told_true rfl
       refine rw_gyq (s := 36) rfl rfl hd195 rfl (ev_move s5) <| rw_gyq (s := 36) rfl rfl hd195 rfl (ev_nil_nil_eql uT44 rfl rfl) <| rw_q rfl (ev_pick_tk rfl hd195 rfl) <| rw_q rfl (ev_assign (v := (bl true)) rfl) ?_
       refine rN (cw_ret (kThen_ret ?_))
       refine fnPost_ret [(bl true)] ⟨rfl, trivial⟩ ?_
       exact ⟨rfl, Mem.below w0 hm191⟩
     · -- false
       have hb193p := of_decide_eq_false hb193
       refine rw_gyq (s := 30) rfl rfl hb193 rfl (ev_move (v := (i64 nb)) rfl) <| rw_gyq (s := 30) rfl rfl hb193 rfl (ev_i64_gtr (b := 65536) rfl rfl) <| rw_q rfl (ev_pick_fk rfl hb193 rfl) <| rN ?_
       refine CW.abs (fun g => g 0 = (i64 nb) ∧ g 1 = vc ∧ g 4 = (bl false) ∧ g 5 = (Value.pointer none) ∧ g 6 = (i64 2) ∧ g 19 = (bl false) ∧ g 22 = (bl (decide (200 < (lc.length : Int)))) ∧ g 33 = (bl (decide (65536 < nb))) ∧ True) ⟨rfl, rfl, rfl, rfl, rfl, rfl, rfl, rfl, trivial⟩ ?_
       rintro fr196 ⟨s0, s1, s4, s5, s6, s19, s22, s33, _⟩
       have hd197 : (decide (65536 < nb)) = true := decide_eq_true oM
       refine cw_cond_t s33 hd197 <| sR <| rM rfl s6 <| rw_q rfl (ev_i64_eql (b := 2) rfl rfl) <| rw_q rfl (ev_move (v := (bl (2 == 2))) rfl) ?_
       have hd198 : (2 == 2) = true := told_true rfl
       refine rw_gyq (s := 36) rfl rfl hd198 rfl (ev_move s5) <| rw_gyq (s := 36) rfl rfl hd198 rfl (ev_nil_nil_eql uT44 rfl rfl) <| rw_q rfl (ev_pick_tk rfl hd198 rfl) <| rw_q rfl (ev_assign (v := (bl true)) rfl) ?_
       refine rN (cw_ret (kThen_ret ?_))
       refine fnPost_ret [(bl true)] ⟨rfl, trivial⟩ ?_
       exact ⟨rfl, Mem.below w0 hm191⟩


end Go.Proofs.Ytfmjfojhcmmgcaa
