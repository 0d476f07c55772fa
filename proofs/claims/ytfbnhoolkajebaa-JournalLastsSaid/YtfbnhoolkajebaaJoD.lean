/- The law that records last: its walk. Conditions: none beyond those that each theorem states. -/
import Derived.Test.YtfbnhoolkajebaaJoC
namespace Go.Proofs.Ytfbnhoolkajebaa
set_option linter.unusedVariables false
set_option linter.unusedSimpArgs false
attribute [local irreducible] crashB crashK pushB readB inB errB cutN seenW
attribute [local irreducible] markB putB getB getK partB placeF blkOf rawB writeK blocksN
attribute [local irreducible] mostK newB roomB
attribute [local irreducible] recB recF recN genF badB lastP dataB gOf rOf pOf nOf loopH readH
attribute [local irreducible] okP layK turnL turnP oldB
attribute [local irreducible] openD
attribute [local irreducible] okG okV GB natB fitsB
attribute [local irreducible] syncF

set_option maxHeartbeats 2000000 in
theorem law_lasts (size : Int) (vL : Value) (rl : List SlT) (vq : Value) (qs : List (BitVec 8)) (w0 : World)  (hs : -9223372036854775808 ≤ size ∧ size ≤ 9223372036854775807) (hrl : RdL (blks w0) vL rl) (hre : ∀ p ∈ rl, p.2.length ≤ 9223372036854775807) (hrn : rl.length ≤ 9223372036854775807) (hq : Rd (blks w0) u8 vq qs) (hql : qs.length ≤ 9223372036854775807) : CallsR Try.prog 3 #[(i64 size), vL, vq] w0 (fun r w1 => r = bl true ∧ RowKit.Below w0.heap.size w0 w1) := by
 refine callsR_of_cw (args := [(i64 size), vL, vq]) Try.func3 rfl Try.ntmps3 Try.results3 rfl ?_
 have hm0 : Mem w0 (restOf w0) [] := Mem.of_world w0
 refine sR <| rw_q rfl (ev_assign (v := (bl false)) rfl) ?_
 refine rN (cw_seq (sR ?_))
 refine rw_c rfl (opR_call Try.func12 bd12 nm12 (args0) (c_speaks15 _)) ?_
 rintro _ w1 ⟨rfl, _ew1⟩
 have hm1 := hm0.ext _ew1
 refine rw_q (v := (bl false)) rfl (ev_not (b := true) rfl) <| rN <| cw_cond_f rfl (by decide) ?_
 refine cw_skip (kThen_normal (cw_seq (sR ?_)))
 refine rw_q rfl (ev_move (v := (i64 size)) rfl) <| rw_q rfl (ev_i64_lss (b := 4) rfl rfl) <| rw_q rfl (ev_move (v := (bl (decide (size < 4)))) rfl) ?_
 rcases Bool.eq_false_or_eq_true (decide (size < 4)) with hb3 | hb3
 · -- true
   have hb3p := of_decide_eq_true hb3
   refine rw_gn (s := 18) rfl rfl hb3 rfl <| rw_gn (s := 18) rfl rfl hb3 rfl <| rw_q rfl (ev_pick_tk rfl hb3 rfl) <| rw_q rfl (ev_move (v := (bl true)) rfl) <| rw_gn (s := 22) rfl rfl rfl rfl <| rw_gn (s := 22) rfl rfl rfl rfl ?_
   refine rw_gn (s := 22) rfl rfl rfl rfl <| rw_q rfl (ev_pick_t rfl rfl) <| rw_q rfl (ev_move (v := (bl true)) rfl) <| rw_gn (s := 27) rfl rfl rfl rfl <| rw_gn (s := 27) rfl rfl rfl rfl <| rw_gn (s := 27) rfl rfl rfl rfl ?_
   refine rw_q rfl (ev_pick_t rfl rfl) <| rN ?_
   refine CW.abs (fun g => g 0 = (i64 size) ∧ g 1 = vL ∧ g 2 = vq ∧ g 6 = (bl false) ∧ g 15 = (bl false) ∧ g 31 = (bl true) ∧ True) ⟨rfl, rfl, rfl, rfl, rfl, rfl, trivial⟩ ?_
   rintro fr4 ⟨s0, s1, s2, s6, s15, s31, _⟩
   refine cw_cond_t s31 (by decide) <| sR <| rw_q rfl (ev_assign (v := (bl true)) rfl) ?_
   refine rN (cw_ret (kThen_ret ?_))
   refine fnPost_ret [(bl true)] ⟨rfl, trivial⟩ ?_
   exact ⟨rfl, Mem.below w0 hm1⟩
 · -- false
   have hb3p := of_decide_eq_false hb3
   refine rw_gyq (s := 18) rfl rfl hb3 rfl (ev_move (v := (i64 size)) rfl) <| rw_gyq (s := 18) rfl rfl hb3 rfl (ev_i64_gtr (b := 200) rfl rfl) <| rw_q rfl (ev_pick_fk rfl hb3 rfl) <| rw_q rfl (ev_move (v := (bl (decide (200 < size)))) rfl) ?_
   rcases Bool.eq_false_or_eq_true (decide (200 < size)) with hb5 | hb5
   · -- true
     have hb5p := of_decide_eq_true hb5
     refine rw_gn (s := 22) rfl rfl hb5 rfl <| rw_gn (s := 22) rfl rfl hb5 rfl <| rw_gn (s := 22) rfl rfl hb5 rfl <| rw_q rfl (ev_pick_tk rfl hb5 rfl) <| rw_q rfl (ev_move (v := (bl true)) rfl) <| rw_gn (s := 27) rfl rfl rfl rfl ?_
     refine rw_gn (s := 27) rfl rfl rfl rfl <| rw_gn (s := 27) rfl rfl rfl rfl <| rw_q rfl (ev_pick_t rfl rfl) <| rN ?_
     refine CW.abs (fun g => g 0 = (i64 size) ∧ g 1 = vL ∧ g 2 = vq ∧ g 6 = (bl false) ∧ g 15 = (bl false) ∧ g 31 = (bl true) ∧ True) ⟨rfl, rfl, rfl, rfl, rfl, rfl, trivial⟩ ?_
     rintro fr6 ⟨s0, s1, s2, s6, s15, s31, _⟩
     refine cw_cond_t s31 (by decide) <| sR <| rw_q rfl (ev_assign (v := (bl true)) rfl) ?_
     refine rN (cw_ret (kThen_ret ?_))
     refine fnPost_ret [(bl true)] ⟨rfl, trivial⟩ ?_
     exact ⟨rfl, Mem.below w0 hm1⟩
   · -- false
     have hb5p := of_decide_eq_false hb5
     refine rw_gyq (s := 22) rfl rfl hb5 rfl (ev_move (v := vL) rfl) <| rw_gyq (s := 22) rfl rfl hb5 rfl (ev_len_rd (RdL.row (RdL.ofRest (R := (restOf w0)) hrl hm1)) uT22 rfl) <| rw_gyq (s := 22) rfl rfl hb5 rfl (ev_i64_gtr (b := 60) rfl rfl) <| rw_q rfl (ev_pick_fk rfl hb5 rfl) <| rw_q rfl (ev_move (v := (bl (decide (60 < (rl.length : Int))))) rfl) ?_
     rcases Bool.eq_false_or_eq_true (decide (60 < (rl.length : Int))) with hb7 | hb7
     · -- true
       have hb7p := of_decide_eq_true hb7
       refine rw_gn (s := 27) rfl rfl hb7 rfl <| rw_gn (s := 27) rfl rfl hb7 rfl <| rw_gn (s := 27) rfl rfl hb7 rfl <| rw_q rfl (ev_pick_tk rfl hb7 rfl) <| rN ?_
       refine CW.abs (fun g => g 0 = (i64 size) ∧ g 1 = vL ∧ g 2 = vq ∧ g 6 = (bl false) ∧ g 15 = (bl false) ∧ g 31 = (bl true) ∧ True) ⟨rfl, rfl, rfl, rfl, rfl, rfl, trivial⟩ ?_
       rintro fr8 ⟨s0, s1, s2, s6, s15, s31, _⟩
       refine cw_cond_t s31 (by decide) <| sR <| rw_q rfl (ev_assign (v := (bl true)) rfl) ?_
       refine rN (cw_ret (kThen_ret ?_))
       refine fnPost_ret [(bl true)] ⟨rfl, trivial⟩ ?_
       exact ⟨rfl, Mem.below w0 hm1⟩
     · -- false
       have hb7p := of_decide_eq_false hb7
       refine rw_gyq (s := 27) rfl rfl hb7 rfl (ev_move (v := vq) rfl) <| rw_gyq (s := 27) rfl rfl hb7 rfl (ev_len_rd (Rd.ofRest hq hm1) uT23 rfl) <| rw_gyq (s := 27) rfl rfl hb7 rfl (ev_i64_gtr (b := 200) rfl rfl) <| rw_q rfl (ev_pick_fk rfl hb7 rfl) <| rN ?_
       refine CW.abs (fun g => g 0 = (i64 size) ∧ g 1 = vL ∧ g 2 = vq ∧ g 6 = (bl false) ∧ g 15 = (bl false) ∧ g 31 = (bl (decide (200 < (qs.length : Int)))) ∧ True) ⟨rfl, rfl, rfl, rfl, rfl, rfl, trivial⟩ ?_
       rintro fr9 ⟨s0, s1, s2, s6, s15, s31, _⟩
       refine cw_cond s31 (fun hc10 => ?_) (fun hc10 => ?_)
       · -- true
         have hc10p := of_decide_eq_true hc10
         refine sR <| rw_q rfl (ev_assign (v := (bl true)) rfl) ?_
         refine rN (cw_ret (kThen_ret ?_))
         refine fnPost_ret [(bl true)] ⟨rfl, trivial⟩ ?_
         exact ⟨rfl, Mem.below w0 hm1⟩
       · -- false
         have hc10p := of_decide_eq_false hc10
         refine cw_skip (kThen_normal (sR ?_))
         refine rM rfl s0 <| rw_c rfl (opR_call Try.func13 bd13 nm13 (args1 rfl) (c_dnew size _ sL)) ?_
         rintro _ w11 ⟨bdq12, vlq12, Hlq12, rfl, glq12, k_w11⟩
         have hm11 : Mem w11 (restOf w0) ([(bdq12, .cells #[vlq12, (Value.slice none 0 0)] 94 (0, 0))] ++ (Hlq12 ++ ([]))) := (by
           have hT := Mem.new (H := []) (H' := _) hm1 k_w11
           try simp only [List.append_assoc, List.cons_append, List.nil_append, List.append_nil] at hT ⊢
           exact hT)
         have hbl0 : List.replicate size.toNat (List.replicate 64 0) = blank size.toNat := rfl
         obtain ⟨L0, hL0⟩ : ∃ q : List (List (BitVec 8)), q = (List.replicate size.toNat (List.replicate 64 0)) := ⟨_, rfl⟩
         have hL0l : L0.length = size.toNat := by rw [hL0, hbl0]; simp
         have gg13 : GrowK (encA u8) 64 83 vlq12 L0 Hlq12 := GrowK.cast glq12 (hL0.symm)
         rw [hbl0] at hL0
         obtain ⟨hbJ, hbn⟩ := blank_JI (n := size.toNat) oM oM
         rw [← hL0] at hbJ hbn
         have hn0 := new_le (ls := L0) (by rw [hL0]; exact blank_G _) (by decide)
         obtain ⟨hh, hhh⟩ : ∃ q : Nat, q = size.toNat / 2 := ⟨_, rfl⟩
         rw [← hhh] at hbJ
         have hhb : 2 ≤ hh ∧ hh ≤ 100 := by omega
         refine rw_q rfl (ev_move (v := (Value.tuple #[(ptr bdq12 0), (i64 0)])) rfl) <| rw_q (v := (ptr bdq12 0)) rfl (ev_extract rfl rfl) <| rw_q (v := (i64 0)) rfl (ev_extract rfl rfl) <| rw_q rfl (ev_assign (v := (ptr bdq12 0)) rfl) <| rw_q rfl (ev_assign (v := (i64 0)) rfl) ?_
         refine rN (cw_seq (sR ?_))
         refine rw_q rfl (ev_move (v := (i64 0)) rfl) <| rw_q rfl (ev_i64_neq (b := 0) rfl rfl) <| rw_q rfl (ev_move (v := (bl (0 != 0))) rfl) ?_
         have hd14 : (0 != 0) = false := told_ne rfl
         refine rw_gyq (s := 39) rfl rfl hd14 rfl (ev_move (v := (ptr bdq12 0)) rfl) <| rw_gyq (s := 39) rfl rfl hd14 rfl (ev_ptr_nil_eql uT25 rfl rfl) <| rw_q rfl (ev_pick_fk rfl hd14 rfl) <| rN <| cw_cond_f rfl (by decide) ?_
         refine cw_skip (kThen_normal (sR ?_))
         refine rw_q rfl (ev_move (v := (ptr bdq12 0)) rfl) ?_
         have hF16 : Mem w11 (restOf w0) (([(bdq12, .cells #[vlq12, (Value.slice none 0 0)] 94 (0, 0))] ++ (Hlq12 ++ ([] ++ ([])))) ++ ([])) := by
           have hT := (Mem.pick Hlq12 [_] _ (Mem.pick [_] Hlq12 _ hm11))
           try simp only [List.append_assoc, List.cons_append, List.nil_append, List.append_nil] at hT ⊢
           exact hT
         refine rw_c rfl (opR_call Try.func14 bd14 nm14 (args1 rfl) (c_jopen bdq12 vlq12 L0 Hlq12 (Value.slice none 0 0) ([]) ([]) _ _ (Mem.give hF16) gg13 (GrowK.none encW 65 104) sL sL okP_nil hn0.1)) ?_
         rintro _ w15 ⟨bnq17, vrq17, rsq17, Hrq17, Hl2q17, rfl, hMq17, hLq17, grq17, gl2q17, k_w15⟩
         have hm15 : Mem w15 (restOf w0) ([(bnq17, .cells #[(ptr bdq12 0), (i64 (((L0.length : Int) / 2) - (oldB L0 ([])).1)), (i64 ((L0.length : Int) / 2)), (u64 (newB L0 ([]))), vrq17, (i64 (roomB (oldB L0 ([])).2 : Int))] 100 (0, 0))] ++ (Hrq17 ++ ([(bdq12, .cells #[vlq12, (Value.slice none 0 0)] 94 (0, 0))] ++ (Hl2q17 ++ ([]))))) := (by
           have hT := Mem.back hF16 k_w15
           try simp only [List.append_assoc, List.cons_append, List.nil_append, List.append_nil] at hT ⊢
           exact hT)
         have hob : oldB L0 [] = ((L0.length : Int) / 2, [[]]) := by rw [hL0]; exact blank_old
         have hr1 : rsq17.map (·.2) = [[]] := by rw [hMq17, hob]
         have hm18 : Mem w15 (restOf w0) ([(bnq17, .cells #[(ptr bdq12 0), (i64 ((0 : Nat) : Int)), (i64 ((L0.length : Int) / 2)), (u64 (newB L0 ([]))), vrq17, (i64 (roomB (oldB L0 ([])).2 : Int))] 100 (0, 0))] ++ (Hrq17 ++ ([(bdq12, .cells #[vlq12, (Value.slice none 0 0)] 94 (0, 0))] ++ (Hl2q17 ++ ([]))))) := by rw [show ((0 : Nat) : Int) = (L0.length : Int) / 2 - (oldB L0 []).1 by rw [hob]; simp]; exact hm15
         have hm19 : Mem w15 (restOf w0) ([(bnq17, .cells #[(ptr bdq12 0), (i64 ((0 : Nat) : Int)), (i64 (hh : Int)), (u64 (newB L0 ([]))), vrq17, (i64 (roomB (oldB L0 ([])).2 : Int))] 100 (0, 0))] ++ (Hrq17 ++ ([(bdq12, .cells #[vlq12, (Value.slice none 0 0)] 94 (0, 0))] ++ (Hl2q17 ++ ([]))))) := by rw [show (hh : Int) = (L0.length : Int) / 2 by omega]; exact hm18
         have hm20 : Mem w15 (restOf w0) ([(bnq17, .cells #[(ptr bdq12 0), (i64 ((0 : Nat) : Int)), (i64 (hh : Int)), (u64 (newB L0 ([]))), vrq17, (i64 (roomB [[]] : Int))] 100 (0, 0))] ++ (Hrq17 ++ ([(bdq12, .cells #[vlq12, (Value.slice none 0 0)] 94 (0, 0))] ++ (Hl2q17 ++ ([]))))) := by rw [show (roomB [[]] : Int) = (roomB (oldB L0 []).2 : Int) by rw [hob]]; exact hm19
         refine rw_q rfl (ev_move (v := (Value.tuple #[(ptr bnq17 0), (i64 0)])) rfl) <| rw_q (v := (ptr bnq17 0)) rfl (ev_extract rfl rfl) <| rw_q (v := (i64 0)) rfl (ev_extract rfl rfl) <| rw_q rfl (ev_assign (v := (ptr bnq17 0)) rfl) <| rw_q rfl (ev_assign (v := (i64 0)) rfl) <| rN ?_
         refine CW.abs (fun g => g 0 = (i64 size) ∧ g 1 = vL ∧ g 2 = vq ∧ g 6 = (bl false) ∧ g 7 = (ptr bdq12 0) ∧ g 8 = (i64 0) ∧ g 9 = (ptr bnq17 0) ∧ g 10 = (i64 0) ∧ g 15 = (bl false) ∧ g 31 = (bl (decide (200 < (qs.length : Int)))) ∧ g 42 = (bl false) ∧ True) ⟨s0, s1, s2, s6, rfl, rfl, rfl, rfl, s15, s31, rfl, trivial⟩ ?_
         rintro fr21 ⟨s0, s1, s2, s6, s7, s8, s9, s10, s15, s31, s42, _⟩
         refine cw_seq (sR ?_)
         refine rM rfl s10 <| rw_q rfl (ev_i64_neq (b := 0) rfl rfl) <| rw_q rfl (ev_move (v := (bl (0 != 0))) rfl) <| rw_gyq (s := 50) rfl rfl hd14 rfl (ev_move s9) <| rw_gyq (s := 50) rfl rfl hd14 rfl (ev_ptr_nil_eql uT29 rfl rfl) <| rw_q rfl (ev_pick_fk rfl hd14 rfl) ?_
         refine rN <| cw_cond_f rfl (by decide) ?_
         refine cw_skip (kThen_normal (sR ?_))
         refine rw_c rfl (or_buildSlice_cl u8 [] u8_one hm20 uT23 ti5 rfl (by simp [pairs]) rfl) ?_
         rintro _ w22 ⟨b54, rfl, _ew22, hm22⟩
         refine rw_c rfl (or_buildSlice_ones [(slc b54 0 0 0)] (by simp [slc, ptr, Value.oneCell', i64, u8, u32, u64, bl]) hm22 uT22 ti23 rfl rfl rfl) ?_
         rintro _ w23 ⟨b55, rfl, _ew23, hm23⟩
         have hm23 : Mem w23 (restOf w0) ([(b55, .cells #[(slc b54 0 0 0)] 23 (0, 0)), (b54, .cells (cl u8 ([])) 5 (0, 0)), (bnq17, .cells #[(ptr bdq12 0), (i64 ((0 : Nat) : Int)), (i64 (hh : Int)), (u64 (newB L0 ([]))), vrq17, (i64 (roomB [[]] : Int))] 100 (0, 0))] ++ (Hrq17 ++ ([(bdq12, .cells #[vlq12, (Value.slice none 0 0)] 94 (0, 0))] ++ (Hl2q17 ++ ([]))))) := hm23
         obtain ⟨HL23, gL23, hmL23⟩ : ∃ q, GrowL (blks w0) 23 (slc b55 0 1 1) [toSl (slc b54 0 0 0) ([])] q ∧ Mem w23 (restOf w0) (q ++ ([(bnq17, .cells #[(ptr bdq12 0), (i64 ((0 : Nat) : Int)), (i64 (hh : Int)), (u64 (newB L0 ([]))), vrq17, (i64 (roomB [[]] : Int))] 100 (0, 0))] ++ (Hrq17 ++ ([(bdq12, .cells #[vlq12, (Value.slice none 0 0)] 94 (0, 0))] ++ (Hl2q17 ++ ([])))))) := ⟨_, GrowL.of1 (Grow.toSl ([]) (Grow.of u8 5 b54 ([]))) (el_grow (Grow.of u8 5 b54 ([]))), (by
           have hT := hm23
           try simp only [List.append_assoc, List.cons_append, List.nil_append, List.append_nil] at hT ⊢
           exact hT)⟩
         refine rw_q rfl (ev_assign (v := (slc b55 0 1 1)) rfl) ?_
         refine rN (cw_seq (sR ?_))
         refine rM rfl s1 <| rw_q (v := (i64 (rl.length : Int))) rfl (ev_len_rd (RdL.row (RdL.ofRest (R := (restOf w0)) hrl hmL23)) uT22 rfl) <| rw_q rfl (ev_move (v := (i64 0)) rfl) ?_
         refine rN (cw_block ?_)
         refine cw_loop (fun g wv => ∃ (k bn fr : Nat) (ge : BitVec 64) (vr1 : Value) (rs1 : List SlT) (Hr1 : List (Nat × Obj)) (L1 : List (List (BitVec 8))) (Hl1 : List (Nat × Obj)) (LW : List (List (BitVec 8))) (vw : Value) (ws : List SlT) (Hw : List (Nat × Obj)), (k ≤ rl.length) ∧ (JI L1 fr hh ge LW) ∧ (ge.toNat = k + 1) ∧ (rs1.map (·.2) = LW) ∧ (ws.map (·.2) = LW) ∧ (LW.length ≤ k + 1) ∧ (∀ b ∈ LW, b.length ≤ 2000) ∧ (GrowL mN 23 vr1 rs1 Hr1) ∧ (GrowK (encA u8) 64 83 vlq12 L1 Hl1) ∧ (GrowL (blks w0) 23 vw ws Hw) ∧ g 0 = (i64 size) ∧ g 1 = vL ∧ g 2 = vq ∧ g 7 = (ptr bdq12 0) ∧ g 8 = (i64 0) ∧ g 9 = (ptr bn 0) ∧ g 11 = vw ∧ g 15 = (bl false) ∧ g 31 = (bl (decide (200 < (qs.length : Int)))) ∧ g 42 = (bl false) ∧ g 53 = (bl false) ∧ g 56 = vL ∧ g 57 = (i64 (rl.length : Int)) ∧ g 58 = (i64 (k : Int)) ∧ Mem wv (restOf w0) ([(bn, .cells #[(ptr bdq12 0), (i64 (fr : Int)), (i64 (hh : Int)), (u64 ge), vr1, (i64 (roomB LW : Int))] 100 (0, 0))] ++ (Hr1 ++ ([(bdq12, .cells #[vlq12, (Value.slice none 0 0)] 94 (0, 0))] ++ (Hl1 ++ (Hw ++ ([]))))))) (fun g wv => ((rl.length : Int) - RowKit.intOf (g 58)).toNat) ?_ ?_
         have hm24 := (Mem.pick4 HL23 [_] Hrq17 [_] Hl2q17 _ hmL23)
         have hm25 := (Mem.pick4 Hl2q17 HL23 [_] Hrq17 [_] _ hm24)
         have hm26 := (Mem.pick4 [_] Hl2q17 HL23 [_] Hrq17 _ hm25)
         have hm27 := (Mem.pick4 Hrq17 [_] Hl2q17 HL23 [_] _ hm26)
         · exact ⟨0, bnq17, 0, (newB L0 ([])), vrq17, rsq17, Hrq17, (openD L0 ([])), Hl2q17, [[]], (slc b55 0 1 1), [toSl (slc b54 0 0 0) ([])], HL23, (Nat.zero_le _), hbJ, hbn, hr1, (one_map _ _), (Nat.le_refl _), (fun b hb => by obtain rfl := List.mem_singleton.1 hb; exact Nat.zero_le _), grq17, gl2q17, gL23, s0, s1, s2, s7, s8, s9, rfl, s15, s31, s42, rfl, rfl, rfl, rfl, (by
           have hT := hm27
           try simp only [List.append_assoc, List.cons_append, List.nil_append, List.append_nil] at hT ⊢
           exact hT)⟩
         · rintro fr28 w29 ⟨k, bn, fr, ge, vr1, rs1, Hr1, L1, Hl1, LW, vw, ws, Hw, hk, hJ, hg, hMr, hMw, hlw, hel, gr1, gl1, gw, s0, s1, s2, s7, s8, s9, s11, s15, s31, s42, s53, s56, s57, s58, hm29⟩
           have z9 := s9
           have z11 := s11
           have z58 := s58
           have hlwr := congrArg List.length hMr; rw [List.length_map] at hlwr
           have hlww := congrArg List.length hMw; rw [List.length_map] at hlww
           have hJl := hJ.len; have hJr := hJ.room; have hJh := hJ.half; have hJs := hJ.small
           refine sR <| rw_q rfl (ev_i64_lss s58 s57) ?_
           refine rN (cw_seq ?_)
           refine cw_cond rfl (fun hc30 => ?_) (fun hc30 => ?_)
           · -- true
             have hc30p := of_decide_eq_true hc30
             refine cw_skip (kThen_normal (cw_seq (cw_block (sR ?_))))
             refine rw_q rfl (ev_indexAddr_rdv (RdL.row (RdL.ofRest (R := (restOf w0)) hrl hm29)) uT22 ti23 s56 s58 oM sL) <| rw_q (v := (slv (rl.getD k sl0))) rfl (ev_load_rdD (l := rl) (i := (k : Int)) (dflt := sl0) (RdL.row (RdL.ofRest (R := (restOf w0)) hrl hm29)) uT23 rfl oM sL rfl) <| rw_q rfl (ev_assign (v := (slv (rl.getD k sl0))) rfl) ?_
             refine rN (cw_seq (sR ?_))
             refine rw_q rfl (ev_move (v := (slv (rl.getD k sl0))) rfl) <| rw_q (v := (i64 (((rl.getD k sl0).2).length : Int))) rfl (ev_len_rd (RdL.get (k := k) (RdL.ofRest (R := (restOf w0)) hrl hm29) sL) uT23 rfl) <| rw_q rfl (ev_i64_gtr (b := 2000) rfl rfl) <| rN ?_
             refine cw_cond rfl (fun hc31 => ?_) (fun hc31 => ?_)
             · -- true
               have hc31p := of_decide_eq_true hc31
               refine sR <| rw_q rfl (ev_assign (v := (bl true)) rfl) ?_
               refine rN (cw_ret ?_)
               refine kThen_ret (kBlk_ret (kThen_ret (kBlk_ret ?_)))
               refine fnPost_ret [(bl true)] ⟨rfl, trivial⟩ ?_
               exact ⟨rfl, Mem.below w0 hm29⟩
             · -- false
               have hc31p := of_decide_eq_false hc31
               have hb0 := hre _ (getD_mem (d := sl0) (show k < rl.length by omega))
               refine cw_skip (kThen_normal (cw_seq (cw_seq ?_)))
               rcases Bool.eq_false_or_eq_true (fitsB (hh : Int) (roomB LW : Int) (rl.getD k sl0).2.length) with hb32 | hb32
               · -- true
                 refine cw_region <| rM rfl s9 <| rw_q rfl (ev_move (v := (slv (rl.getD k sl0))) rfl) ?_
                 have hF34 : Mem w29 (restOf w0) (([(bn, .cells #[(ptr bdq12 0), (i64 (fr : Int)), (i64 (hh : Int)), (u64 ge), vr1, (i64 (roomB LW : Int))] 100 (0, 0))] ++ (Hr1 ++ ([(bdq12, .cells #[vlq12, (Value.slice none 0 0)] 94 (0, 0))] ++ (Hl1 ++ ([] ++ ([])))))) ++ (Hw ++ ([]))) := by
                   have hT := (Mem.pick3 Hr1 [_] Hl1 [_] _ (Mem.pick3 [_] Hl1 [_] Hr1 _ (Mem.pick3 Hl1 [_] Hr1 [_] _ (Mem.pick3 [_] Hr1 [_] Hl1 _ hm29))))
                   try simp only [List.append_assoc, List.cons_append, List.nil_append, List.append_nil] at hT ⊢
                   exact hT
                 refine rw_c rfl (opR_call Try.func15 bd15 nm15 (args2 rfl rfl) (c_jappend1 bn (fr : Int) (hh : Int) ge vr1 rs1 Hr1 (roomB LW : Int) bdq12 vlq12 L1 Hl1 (Value.slice none 0 0) ([]) ([]) (slv (rl.getD k sl0)) ((rl.getD k sl0).2) _ _ (Mem.give hF34) gr1 gl1 (GrowK.none encW 65 104) (RdL.get (k := k) (RdL.addRest hF34 hrl) sL) sL sL sL sL sL sL sL okP_nil hb32)) ?_
                 rintro _ w33 ⟨vr2q35, rs2q35, Hr2q35, Hl2q35, rfl, hMq35, hLq35, gr2q35, gl2q35, k_w33⟩
                 have hm33 : Mem w33 (restOf w0) ([(bn, .cells #[(ptr bdq12 0), (i64 (fr : Int)), (i64 (hh : Int)), (u64 ge), vr2q35, (i64 ((roomB LW : Int) + (blocksN ((rl.getD k sl0).2).length : Int)))] 100 (0, 0))] ++ (Hr2q35 ++ ([(bdq12, .cells #[vlq12, (Value.slice none 0 0)] 94 (0, 0))] ++ (Hl2q35 ++ (Hw ++ ([])))))) := (by
                   have hT := Mem.back hF34 k_w33
                   try simp only [List.append_assoc, List.cons_append, List.nil_append, List.append_nil] at hT ⊢
                   exact hT)
                 have hfy := fits_yes hb32
                 have hJ2 := append_JI (pI := (fr : Int) + (roomB LW : Int)) (m := (rs1.length : Int)) hJ (b := (rl.getD k sl0).2) oM (by push_cast; rfl) oM
                 obtain ⟨L2, hL2⟩ : ∃ q : List (List (BitVec 8)), q = (crashB L1 (writeK L1 ([]) ((fr : Int) + (roomB LW : Int)) ge (BitVec.ofInt 64 (rs1.length : Int)) ((rl.getD k sl0).2) (blocksN ((rl.getD k sl0).2).length)) [1#8]) := ⟨_, rfl⟩
                 have gg36 : GrowK (encA u8) 64 83 vlq12 L2 Hl2q35 := GrowK.cast gl2q35 (hL2.symm)
                 rw [← hL2] at hJ2
                 have hJ2l0 := hJ2.len
                 have hMr2 : rs2q35.map (·.2) = LW ++ [(rl.getD k sl0).2] := by rw [hMq35, hMr]
                 have hel2 : ∀ b ∈ LW ++ [(rl.getD k sl0).2], b.length ≤ 2000 := fun b hb => by rcases List.mem_append.1 hb with h | h; (exact hel b h); (obtain rfl := List.mem_singleton.1 h; omega)
                 refine rw_q rfl (ev_i64_eql (b := 0) rfl rfl) <| rN ?_
                 have hd37 : (0 == 0) = true := told_true rfl
                 refine cw_cond_t rfl hd37 <| cw_region <| rM rfl s11 <| rw_q rfl (ev_move (v := (slv (rl.getD k sl0))) rfl) <| rw_c rfl (or_buildSlice_ones [(slv (rl.getD k sl0))] (List.all_eq_true.1 (one_cons rfl one_nil)) hm33 uT22 ti23 rfl rfl rfl) ?_
                 rintro _ w38 ⟨b71, rfl, _ew38, hm38⟩
                 have hm38 : Mem w38 (restOf w0) ([(b71, .cells #[(slv (rl.getD k sl0))] 23 (0, 0)), (bn, .cells #[(ptr bdq12 0), (i64 (fr : Int)), (i64 (hh : Int)), (u64 ge), vr2q35, (i64 ((roomB LW : Int) + (blocksN ((rl.getD k sl0).2).length : Int)))] 100 (0, 0))] ++ (Hr2q35 ++ ([(bdq12, .cells #[vlq12, (Value.slice none 0 0)] 94 (0, 0))] ++ (Hl2q35 ++ (Hw ++ ([])))))) := hm38
                 refine rw_c rfl (or_appendL (Hs := Hw) (Hv := []) (H := [(b71, .cells #[(slv (rl.getD k sl0))] 23 (0, 0)), (bn, .cells #[(ptr bdq12 0), (i64 (fr : Int)), (i64 (hh : Int)), (u64 ge), vr2q35, (i64 ((roomB LW : Int) + (blocksN ((rl.getD k sl0).2).length : Int)))] 100 (0, 0))] ++ (Hr2q35 ++ ([(bdq12, .cells #[vlq12, (Value.slice none 0 0)] 94 (0, 0))] ++ (Hl2q35 ++ ([]))))) (u0 := (slv (rl.getD k sl0))) (l0 := (rl.getD k sl0).2) (show Mem _ _ (Hw ++ ([] ++ ([(b71, .cells #[(slv (rl.getD k sl0))] 23 (0, 0)), (bn, .cells #[(ptr bdq12 0), (i64 (fr : Int)), (i64 (hh : Int)), (u64 ge), vr2q35, (i64 ((roomB LW : Int) + (blocksN ((rl.getD k sl0).2).length : Int)))] 100 (0, 0))] ++ (Hr2q35 ++ ([(bdq12, .cells #[vlq12, (Value.slice none 0 0)] 94 (0, 0))] ++ (Hl2q35 ++ ([]))))))) from (Mem.pick4 [_, _] Hr2q35 [_] Hl2q35 Hw _ hm38)) gw rfl rfl (Rd.oneS (l := (rl.getD k sl0).2) hm38.h0 (Rd.toSl ((rl.getD k sl0).2) (RdL.get (k := k) hrl sL))) (Rd.toSl ((rl.getD k sl0).2) (RdL.get (k := k) hrl sL)) (el_rest (RdL.get (k := k) hrl sL)) uT22 uT22 ti23 rfl sL sL) ?_
                 rintro sv39 w39 ⟨ls39, Hs39, hM39, hL39, hm39, g39⟩
                 refine rA rfl (v := sv39) rfl ?_
                 refine rN (sR ?_)
                 refine rM rfl s7 <| rM rfl s2 ?_
                 have hF41 : Mem w39 (restOf w0) (([(bdq12, .cells #[vlq12, (Value.slice none 0 0)] 94 (0, 0))] ++ (Hl2q35 ++ ([] ++ ([])))) ++ (Hs39 ++ ([(b71, .cells #[(slv (rl.getD k sl0))] 23 (0, 0)), (bn, .cells #[(ptr bdq12 0), (i64 (fr : Int)), (i64 (hh : Int)), (u64 ge), vr2q35, (i64 ((roomB LW : Int) + (blocksN ((rl.getD k sl0).2).length : Int)))] 100 (0, 0))] ++ (Hr2q35 ++ ([]))))) := by
                   have hT := (Mem.pick4 Hl2q35 Hs39 [_, _] Hr2q35 [_] _ (Mem.pick4 Hs39 [_, _] Hr2q35 [_] Hl2q35 _ hm39))
                   try simp only [List.append_assoc, List.cons_append, List.nil_append, List.append_nil] at hT ⊢
                   exact hT
                 refine rw_c rfl (opR_call Try.func17 bd17 nm17 (args2 rfl rfl) (c_dcrash bdq12 vlq12 L2 Hl2q35 (Value.slice none 0 0) ([]) ([]) vq qs _ _ (Mem.give hF41) gg36 (GrowK.none encW 65 104) (Rd.addRest hF41 hq) (okP_hat okP_nil) sL sL sL)) ?_
                 rintro _ w40 ⟨Hl2q42, rfl, gl2q42, k_w40⟩
                 have hm40 : Mem w40 (restOf w0) ([(bdq12, .cells #[vlq12, (Value.slice none 0 0)] 94 (0, 0))] ++ (Hl2q42 ++ (Hs39 ++ ([(b71, .cells #[(slv (rl.getD k sl0))] 23 (0, 0)), (bn, .cells #[(ptr bdq12 0), (i64 (fr : Int)), (i64 (hh : Int)), (u64 ge), vr2q35, (i64 ((roomB LW : Int) + (blocksN ((rl.getD k sl0).2).length : Int)))] 100 (0, 0))] ++ (Hr2q35 ++ ([])))))) := (by
                   have hT := Mem.back hF41 k_w40
                   try simp only [List.append_assoc, List.cons_append, List.nil_append, List.append_nil] at hT ⊢
                   exact hT)
                 have gg43 : GrowK (encA u8) 64 83 vlq12 L2 Hl2q42 := GrowK.cast gl2q42 (crash_none)
                 have hnn := hJ2.new oM
                 have hJ2l := hJ2.len
                 have hJ3 := open_JI hJ2 oM
                 have hob2 := hJ2.old
                 refine rN ?_
                 have hm44 := Mem.drop ([(b71, .cells #[(slv (rl.getD k sl0))] 23 (0, 0))]) _ (Mem.pick3 [_] Hl2q42 Hs39 [_] _ hm40)
                 refine CW.abs (fun g => g 0 = (i64 size) ∧ g 1 = vL ∧ g 2 = vq ∧ g 7 = (ptr bdq12 0) ∧ g 8 = (i64 0) ∧ g 9 = (ptr bn 0) ∧ g 11 = sv39 ∧ g 13 = (slv (rl.getD k sl0)) ∧ g 15 = (bl false) ∧ g 31 = (bl (decide (200 < (qs.length : Int)))) ∧ g 42 = (bl false) ∧ g 53 = (bl false) ∧ g 56 = vL ∧ g 57 = (i64 (rl.length : Int)) ∧ g 58 = (i64 (k : Int)) ∧ g 59 = (bl (decide ((k : Int) < (rl.length : Int)))) ∧ g 64 = (bl (decide (2000 < (((rl.getD k sl0).2).length : Int)))) ∧ g 68 = (bl (0 == 0)) ∧ True) ⟨s0, s1, s2, s7, s8, s9, rfl, rfl, s15, s31, s42, s53, s56, s57, s58, rfl, rfl, rfl, trivial⟩ ?_
                 rintro fr45 ⟨s0, s1, s2, s7, s8, s9, s11, s13, s15, s31, s42, s53, s56, s57, s58, s59, s64, s68, _⟩
                 refine sR <| rM rfl s7 ?_
                 have hF47 : Mem w40 (restOf w0) (([(bdq12, .cells #[vlq12, (Value.slice none 0 0)] 94 (0, 0))] ++ (Hl2q42 ++ ([] ++ ([])))) ++ (Hs39 ++ ([(bn, .cells #[(ptr bdq12 0), (i64 (fr : Int)), (i64 (hh : Int)), (u64 ge), vr2q35, (i64 ((roomB LW : Int) + (blocksN ((rl.getD k sl0).2).length : Int)))] 100 (0, 0))] ++ (Hr2q35 ++ ([]))))) := by
                   have hT := (Mem.pick Hl2q42 [_] _ (Mem.pick [_] Hl2q42 _ hm44))
                   try simp only [List.append_assoc, List.cons_append, List.nil_append, List.append_nil] at hT ⊢
                   exact hT
                 refine rw_c rfl (opR_call Try.func14 bd14 nm14 (args1 rfl) (c_jopen bdq12 vlq12 L2 Hl2q42 (Value.slice none 0 0) ([]) ([]) _ _ (Mem.give hF47) gg43 (GrowK.none encW 65 104) sL sL okP_nil hnn.2)) ?_
                 rintro _ w46 ⟨bnq48, vrq48, rsq48, Hrq48, Hl2q48, rfl, hMq48, hLq48, grq48, gl2q48, k_w46⟩
                 have hm46 : Mem w46 (restOf w0) ([(bnq48, .cells #[(ptr bdq12 0), (i64 (((L2.length : Int) / 2) - (oldB L2 ([])).1)), (i64 ((L2.length : Int) / 2)), (u64 (newB L2 ([]))), vrq48, (i64 (roomB (oldB L2 ([])).2 : Int))] 100 (0, 0))] ++ (Hrq48 ++ ([(bdq12, .cells #[vlq12, (Value.slice none 0 0)] 94 (0, 0))] ++ (Hl2q48 ++ (Hs39 ++ ([(bn, .cells #[(ptr bdq12 0), (i64 (fr : Int)), (i64 (hh : Int)), (u64 ge), vr2q35, (i64 ((roomB LW : Int) + (blocksN ((rl.getD k sl0).2).length : Int)))] 100 (0, 0))] ++ (Hr2q35 ++ ([])))))))) := (by
                   have hT := Mem.back hF47 k_w46
                   try simp only [List.append_assoc, List.cons_append, List.nil_append, List.append_nil] at hT ⊢
                   exact hT)
                 refine rw_q rfl (ev_move (v := (Value.tuple #[(ptr bnq48 0), (i64 0)])) rfl) ?_
                 have hm49 := Mem.drop ([(bn, .cells #[(ptr bdq12 0), (i64 (fr : Int)), (i64 (hh : Int)), (u64 ge), vr2q35, (i64 ((roomB LW : Int) + (blocksN ((rl.getD k sl0).2).length : Int)))] 100 (0, 0))]) _ (Mem.pick5 [_] Hrq48 [_] Hl2q48 Hs39 [_] _ hm46)
                 have hm50 := Mem.drop Hr2q35 _ (Mem.pick5 [_] Hrq48 [_] Hl2q48 Hs39 Hr2q35 _ hm49)
                 have hMr3 : rsq48.map (·.2) = (LW ++ [(rl.getD k sl0).2]) := by rw [hMq48, hob2]
                 have hlr3 := congrArg List.length hMr3; rw [List.length_map] at hlr3
                 have hlw3 : (LW ++ [(rl.getD k sl0).2]).length ≤ k + 2 := by rw [List.length_append, List.length_singleton]; omega
                 have hm51 : Mem w46 (restOf w0) ([(bnq48, .cells #[(ptr bdq12 0), (i64 ((hh - fr : Nat) : Int)), (i64 ((L2.length : Int) / 2)), (u64 (newB L2 ([]))), vrq48, (i64 (roomB (oldB L2 ([])).2 : Int))] 100 (0, 0))] ++ (Hrq48 ++ ([(bdq12, .cells #[vlq12, (Value.slice none 0 0)] 94 (0, 0))] ++ (Hl2q48 ++ (Hs39 ++ ([])))))) := by rw [show ((hh - fr : Nat) : Int) = (L2.length : Int) / 2 - (oldB L2 []).1 by rw [hob2]; show _ = _ - (fr : Int); omega]; exact hm50
                 have hm52 : Mem w46 (restOf w0) ([(bnq48, .cells #[(ptr bdq12 0), (i64 ((hh - fr : Nat) : Int)), (i64 (hh : Int)), (u64 (newB L2 ([]))), vrq48, (i64 (roomB (oldB L2 ([])).2 : Int))] 100 (0, 0))] ++ (Hrq48 ++ ([(bdq12, .cells #[vlq12, (Value.slice none 0 0)] 94 (0, 0))] ++ (Hl2q48 ++ (Hs39 ++ ([])))))) := by rw [show (hh : Int) = (L2.length : Int) / 2 by omega]; exact hm51
                 have hm53 : Mem w46 (restOf w0) ([(bnq48, .cells #[(ptr bdq12 0), (i64 ((hh - fr : Nat) : Int)), (i64 (hh : Int)), (u64 (newB L2 ([]))), vrq48, (i64 (roomB (LW ++ [(rl.getD k sl0).2]) : Int))] 100 (0, 0))] ++ (Hrq48 ++ ([(bdq12, .cells #[vlq12, (Value.slice none 0 0)] 94 (0, 0))] ++ (Hl2q48 ++ (Hs39 ++ ([])))))) := by rw [show (roomB (LW ++ [(rl.getD k sl0).2]) : Int) = (roomB (oldB L2 []).2 : Int) by rw [hob2]]; exact hm52
                 refine rw_q (v := (ptr bnq48 0)) rfl (ev_extract rfl rfl) <| rw_q (v := (i64 0)) rfl (ev_extract rfl rfl) <| rw_q rfl (ev_assign (v := (ptr bnq48 0)) rfl) <| rw_q rfl (ev_assign (v := (i64 0)) rfl) ?_
                 refine rN (sR ?_)
                 refine rw_q rfl (ev_move (v := (i64 0)) rfl) <| rw_q rfl (ev_i64_neq (b := 0) rfl rfl) <| rw_q rfl (ev_move (v := (bl (0 != 0))) rfl) <| rw_gyq (s := 87) rfl rfl hd14 rfl (ev_move (v := (ptr bnq48 0)) rfl) <| rw_gyq (s := 87) rfl rfl hd14 rfl (ev_ptr_nil_eql uT29 rfl rfl) <| rw_q rfl (ev_pick_fk rfl hd14 rfl) ?_
                 refine rw_q rfl (ev_move (v := (bl false)) rfl) <| rw_gyq (s := 91) rfl rfl rfl rfl (ev_move (v := (ptr bnq48 0)) rfl) <| rw_gy (s := 91) rfl rfl rfl rfl (opR_call Try.func19 bd19 nm19 (args1 rfl) (c_jrecords bnq48 bdq12 ((hh - fr : Nat) : Int) (hh : Int) (newB L2 ([])) vrq48 rsq48 (roomB (LW ++ [(rl.getD k sl0).2]) : Int) _ hm53.h0 (GrowL.rd grq48 (Mem.pick [_] Hrq48 _ hm53) nN) sL (map_el hMr3 (P := fun b => b.length ≤ 35184372088832) (fun b hb => by have := hel2 b hb; omega)))) ?_
                 rintro rq55 w54 ⟨ls2q55, Hsq55, hMq55, hLq55, grq55, k_w54⟩
                 have hm54 : Mem w54 (restOf w0) (Hsq55 ++ ([(bnq48, .cells #[(ptr bdq12 0), (i64 ((hh - fr : Nat) : Int)), (i64 (hh : Int)), (u64 (newB L2 ([]))), vrq48, (i64 (roomB (LW ++ [(rl.getD k sl0).2]) : Int))] 100 (0, 0))] ++ (Hrq48 ++ ([(bdq12, .cells #[vlq12, (Value.slice none 0 0)] 94 (0, 0))] ++ (Hl2q48 ++ (Hs39 ++ ([]))))))) := Mem.new (H := [(bnq48, .cells #[(ptr bdq12 0), (i64 ((hh - fr : Nat) : Int)), (i64 (hh : Int)), (u64 (newB L2 ([]))), vrq48, (i64 (roomB (LW ++ [(rl.getD k sl0).2]) : Int))] 100 (0, 0))] ++ (Hrq48 ++ ([(bdq12, .cells #[vlq12, (Value.slice none 0 0)] 94 (0, 0))] ++ (Hl2q48 ++ (Hs39 ++ ([])))))) (H' := Hsq55) hm53 k_w54
                 refine rw_gyq (s := 91) rfl rfl rfl rfl (ev_move s11) <| rw_gy (s := 91) rfl rfl rfl rfl (opR_call Try.func18 bd18 nm18 (args2 rfl rfl) (c_samelist rq55 ls2q55 sv39 ls39 _ (GrowL.rd grq55 hm54 nN) (GrowL.rd g39 (Mem.pick5 Hsq55 [_] Hrq48 [_] Hl2q48 Hs39 _ hm54) (fun b o e => (hm54).rest b o e)) sL (map_el (hMq55.trans hMr3) (P := fun b => b.length ≤ 281474976710656) (fun b hb => by have := hel2 b hb; omega)))) ?_
                 rintro _ w56 ⟨rfl, _ew56⟩
                 have hm56 := hm54.ext _ew56
                 refine rw_gyq (s := 91) rfl rfl rfl rfl (ev_not rfl) <| rw_q rfl (ev_pick_f rfl rfl) <| rN ?_
                 have hm58 := Mem.drop Hsq55 _ hm56
                 refine CW.abs (fun g => g 0 = (i64 size) ∧ g 1 = vL ∧ g 2 = vq ∧ g 7 = (ptr bdq12 0) ∧ g 8 = (i64 0) ∧ g 9 = (ptr bnq48 0) ∧ g 10 = (i64 0) ∧ g 11 = sv39 ∧ g 13 = (slv (rl.getD k sl0)) ∧ g 15 = (bl false) ∧ g 31 = (bl (decide (200 < (qs.length : Int)))) ∧ g 42 = (bl false) ∧ g 53 = (bl false) ∧ g 56 = vL ∧ g 57 = (i64 (rl.length : Int)) ∧ g 58 = (i64 (k : Int)) ∧ g 59 = (bl (decide ((k : Int) < (rl.length : Int)))) ∧ g 64 = (bl (decide (2000 < (((rl.getD k sl0).2).length : Int)))) ∧ g 68 = (bl (0 == 0)) ∧ g 97 = (bl (!((ls2q55.map (·.2)) == (ls39.map (·.2))))) ∧ True) ⟨s0, s1, s2, s7, s8, rfl, rfl, s11, s13, s15, s31, s42, s53, s56, s57, s58, s59, s64, s68, rfl, trivial⟩ ?_
                 rintro fr59 ⟨s0, s1, s2, s7, s8, s9, s10, s11, s13, s15, s31, s42, s53, s56, s57, s58, s59, s64, s68, s97, _⟩
                 have hd60 : ((ls2q55.map (·.2)) == (ls39.map (·.2))) = true := told_true (by rw [hMq55, hMr3, hM39, hMw])
                 have hd61 : (!((ls2q55.map (·.2)) == (ls39.map (·.2)))) = false := congrArg Bool.not hd60
                 refine cw_cond_f s97 hd61 ?_
                 refine cw_skip (kBlk_normal (cw_region ?_))
                 refine rw_q rfl (ev_i64_add (b := 1) s58 rfl oM oM) <| rw_q rfl (ev_move (v := (i64 ((k : Int) + 1))) rfl) <| rN ?_
                 exact ⟨⟨(k + 1), bnq48, (hh - fr), (newB L2 []), vrq48, rsq48, Hrq48, (openD L2 ([])), Hl2q48, (LW ++ [(rl.getD k sl0).2]), sv39, ls39, Hs39, oM, hJ3, (by rw [hnn.1, hg]), hMr3, (by rw [hM39, hMw]), (by rw [List.length_append, List.length_singleton]; omega), hel2, grq48, gl2q48, g39, s0, s1, s2, s7, s8, s9, s11, s15, s31, s42, s53, s56, s57, rfl, hm58⟩, meas (rfl) z58 oM oM⟩
               · -- false
                 refine cw_region <| rM rfl s9 <| rw_q rfl (ev_move (v := (slv (rl.getD k sl0))) rfl) <| rw_c rfl (opR_call Try.func15 bd15 nm15 (args2 rfl rfl) (c_jappend0 bn bdq12 (fr : Int) (hh : Int) ge vr1 (roomB LW : Int) (slv (rl.getD k sl0)) ((rl.getD k sl0).2) _ hm29.h0 (RdL.get (k := k) (RdL.ofRest (R := (restOf w0)) hrl hm29) sL) sL sL sL hb32)) ?_
                 rintro _ w62 ⟨rfl, _ew62⟩
                 have hm62 := hm29.ext _ew62
                 have hJ2 := hJ
                 have hel2 := hel
                 refine rw_q rfl (ev_i64_eql (b := 0) rfl rfl) <| rN ?_
                 have hd64 : (6 == 0) = false := by decide
                 refine cw_cond_f rfl hd64 <| sR <| rM rfl s9 <| rw_q rfl (ev_move (v := (slv (rl.getD k sl0))) rfl) <| rw_q (v := (i64 (((rl.getD k sl0).2).length : Int))) rfl (ev_len_rd (RdL.get (k := k) (RdL.ofRest (R := (restOf w0)) hrl hm62) sL) uT23 rfl) <| rw_c rfl (opR_call Try.func16 bd16 nm16 (args2 rfl rfl) (c_jfits bn bdq12 (fr : Int) (hh : Int) ge vr1 (roomB LW : Int) (((rl.getD k sl0).2).length) _ hm62.h0 sL sL sL)) ?_
                 rintro _ w65 ⟨rfl, _ew65⟩
                 have hm65 := hm62.ext _ew65
                 refine rN ?_
                 have hd67 : (fitsB (hh : Int) (roomB LW : Int) (((rl.getD k sl0).2).length)) = false := hb32
                 refine cw_cond_f rfl hd67 ?_
                 refine cw_skip (kThen_normal (sR ?_))
                 refine rM rfl s7 <| rM rfl s2 ?_
                 have hF69 : Mem w65 (restOf w0) (([(bdq12, .cells #[vlq12, (Value.slice none 0 0)] 94 (0, 0))] ++ (Hl1 ++ ([] ++ ([])))) ++ ([(bn, .cells #[(ptr bdq12 0), (i64 (fr : Int)), (i64 (hh : Int)), (u64 ge), vr1, (i64 (roomB LW : Int))] 100 (0, 0))] ++ (Hr1 ++ (Hw ++ ([]))))) := by
                   have hT := (Mem.pick3 Hl1 [_] Hr1 [_] _ (Mem.pick3 [_] Hr1 [_] Hl1 _ hm65))
                   try simp only [List.append_assoc, List.cons_append, List.nil_append, List.append_nil] at hT ⊢
                   exact hT
                 refine rw_c rfl (opR_call Try.func17 bd17 nm17 (args2 rfl rfl) (c_dcrash bdq12 vlq12 L1 Hl1 (Value.slice none 0 0) ([]) ([]) vq qs _ _ (Mem.give hF69) gl1 (GrowK.none encW 65 104) (Rd.addRest hF69 hq) (okP_hat okP_nil) sL sL sL)) ?_
                 rintro _ w68 ⟨Hl2q70, rfl, gl2q70, k_w68⟩
                 have hm68 : Mem w68 (restOf w0) ([(bdq12, .cells #[vlq12, (Value.slice none 0 0)] 94 (0, 0))] ++ (Hl2q70 ++ ([(bn, .cells #[(ptr bdq12 0), (i64 (fr : Int)), (i64 (hh : Int)), (u64 ge), vr1, (i64 (roomB LW : Int))] 100 (0, 0))] ++ (Hr1 ++ (Hw ++ ([])))))) := (by
                   have hT := Mem.back hF69 k_w68
                   try simp only [List.append_assoc, List.cons_append, List.nil_append, List.append_nil] at hT ⊢
                   exact hT)
                 have gg71 : GrowK (encA u8) 64 83 vlq12 L1 Hl2q70 := GrowK.cast gl2q70 (crash_none)
                 have hnn := hJ2.new oM
                 have hJ2l := hJ2.len
                 have hJ3 := open_JI hJ2 oM
                 have hob2 := hJ2.old
                 refine rN ?_
                 refine CW.abs (fun g => g 0 = (i64 size) ∧ g 1 = vL ∧ g 2 = vq ∧ g 7 = (ptr bdq12 0) ∧ g 8 = (i64 0) ∧ g 9 = (ptr bn 0) ∧ g 11 = vw ∧ g 13 = (slv (rl.getD k sl0)) ∧ g 15 = (bl false) ∧ g 31 = (bl (decide (200 < (qs.length : Int)))) ∧ g 42 = (bl false) ∧ g 53 = (bl false) ∧ g 56 = vL ∧ g 57 = (i64 (rl.length : Int)) ∧ g 58 = (i64 (k : Int)) ∧ g 59 = (bl (decide ((k : Int) < (rl.length : Int)))) ∧ g 64 = (bl (decide (2000 < (((rl.getD k sl0).2).length : Int)))) ∧ g 68 = (bl (6 == 0)) ∧ g 76 = (bl (fitsB (hh : Int) (roomB LW : Int) (((rl.getD k sl0).2).length))) ∧ True) ⟨s0, s1, s2, s7, s8, s9, s11, rfl, s15, s31, s42, s53, s56, s57, s58, rfl, rfl, rfl, rfl, trivial⟩ ?_
                 rintro fr72 ⟨s0, s1, s2, s7, s8, s9, s11, s13, s15, s31, s42, s53, s56, s57, s58, s59, s64, s68, s76, _⟩
                 refine sR <| rM rfl s7 ?_
                 have hF74 : Mem w68 (restOf w0) (([(bdq12, .cells #[vlq12, (Value.slice none 0 0)] 94 (0, 0))] ++ (Hl2q70 ++ ([] ++ ([])))) ++ ([(bn, .cells #[(ptr bdq12 0), (i64 (fr : Int)), (i64 (hh : Int)), (u64 ge), vr1, (i64 (roomB LW : Int))] 100 (0, 0))] ++ (Hr1 ++ (Hw ++ ([]))))) := by
                   have hT := (Mem.pick Hl2q70 [_] _ (Mem.pick [_] Hl2q70 _ hm68))
                   try simp only [List.append_assoc, List.cons_append, List.nil_append, List.append_nil] at hT ⊢
                   exact hT
                 refine rw_c rfl (opR_call Try.func14 bd14 nm14 (args1 rfl) (c_jopen bdq12 vlq12 L1 Hl2q70 (Value.slice none 0 0) ([]) ([]) _ _ (Mem.give hF74) gg71 (GrowK.none encW 65 104) sL sL okP_nil hnn.2)) ?_
                 rintro _ w73 ⟨bnq75, vrq75, rsq75, Hrq75, Hl2q75, rfl, hMq75, hLq75, grq75, gl2q75, k_w73⟩
                 have hm73 : Mem w73 (restOf w0) ([(bnq75, .cells #[(ptr bdq12 0), (i64 (((L1.length : Int) / 2) - (oldB L1 ([])).1)), (i64 ((L1.length : Int) / 2)), (u64 (newB L1 ([]))), vrq75, (i64 (roomB (oldB L1 ([])).2 : Int))] 100 (0, 0))] ++ (Hrq75 ++ ([(bdq12, .cells #[vlq12, (Value.slice none 0 0)] 94 (0, 0))] ++ (Hl2q75 ++ ([(bn, .cells #[(ptr bdq12 0), (i64 (fr : Int)), (i64 (hh : Int)), (u64 ge), vr1, (i64 (roomB LW : Int))] 100 (0, 0))] ++ (Hr1 ++ (Hw ++ ([])))))))) := (by
                   have hT := Mem.back hF74 k_w73
                   try simp only [List.append_assoc, List.cons_append, List.nil_append, List.append_nil] at hT ⊢
                   exact hT)
                 refine rw_q rfl (ev_move (v := (Value.tuple #[(ptr bnq75 0), (i64 0)])) rfl) ?_
                 have hm76 := Mem.drop ([(bn, .cells #[(ptr bdq12 0), (i64 (fr : Int)), (i64 (hh : Int)), (u64 ge), vr1, (i64 (roomB LW : Int))] 100 (0, 0))]) _ (Mem.pick4 [_] Hrq75 [_] Hl2q75 [_] _ hm73)
                 have hm77 := Mem.drop Hr1 _ (Mem.pick4 [_] Hrq75 [_] Hl2q75 Hr1 _ hm76)
                 have hMr3 : rsq75.map (·.2) = LW := by rw [hMq75, hob2]
                 have hlr3 := congrArg List.length hMr3; rw [List.length_map] at hlr3
                 have hlw3 : LW.length ≤ k + 2 := by omega
                 have hm78 : Mem w73 (restOf w0) ([(bnq75, .cells #[(ptr bdq12 0), (i64 ((hh - fr : Nat) : Int)), (i64 ((L1.length : Int) / 2)), (u64 (newB L1 ([]))), vrq75, (i64 (roomB (oldB L1 ([])).2 : Int))] 100 (0, 0))] ++ (Hrq75 ++ ([(bdq12, .cells #[vlq12, (Value.slice none 0 0)] 94 (0, 0))] ++ (Hl2q75 ++ (Hw ++ ([])))))) := by rw [show ((hh - fr : Nat) : Int) = (L1.length : Int) / 2 - (oldB L1 []).1 by rw [hob2]; show _ = _ - (fr : Int); omega]; exact hm77
                 have hm79 : Mem w73 (restOf w0) ([(bnq75, .cells #[(ptr bdq12 0), (i64 ((hh - fr : Nat) : Int)), (i64 (hh : Int)), (u64 (newB L1 ([]))), vrq75, (i64 (roomB (oldB L1 ([])).2 : Int))] 100 (0, 0))] ++ (Hrq75 ++ ([(bdq12, .cells #[vlq12, (Value.slice none 0 0)] 94 (0, 0))] ++ (Hl2q75 ++ (Hw ++ ([])))))) := by rw [show (hh : Int) = (L1.length : Int) / 2 by omega]; exact hm78
                 have hm80 : Mem w73 (restOf w0) ([(bnq75, .cells #[(ptr bdq12 0), (i64 ((hh - fr : Nat) : Int)), (i64 (hh : Int)), (u64 (newB L1 ([]))), vrq75, (i64 (roomB LW : Int))] 100 (0, 0))] ++ (Hrq75 ++ ([(bdq12, .cells #[vlq12, (Value.slice none 0 0)] 94 (0, 0))] ++ (Hl2q75 ++ (Hw ++ ([])))))) := by rw [show (roomB LW : Int) = (roomB (oldB L1 []).2 : Int) by rw [hob2]]; exact hm79
                 refine rw_q (v := (ptr bnq75 0)) rfl (ev_extract rfl rfl) <| rw_q (v := (i64 0)) rfl (ev_extract rfl rfl) <| rw_q rfl (ev_assign (v := (ptr bnq75 0)) rfl) <| rw_q rfl (ev_assign (v := (i64 0)) rfl) ?_
                 refine rN (sR ?_)
                 refine rw_q rfl (ev_move (v := (i64 0)) rfl) <| rw_q rfl (ev_i64_neq (b := 0) rfl rfl) <| rw_q rfl (ev_move (v := (bl (0 != 0))) rfl) <| rw_gyq (s := 87) rfl rfl hd14 rfl (ev_move (v := (ptr bnq75 0)) rfl) <| rw_gyq (s := 87) rfl rfl hd14 rfl (ev_ptr_nil_eql uT29 rfl rfl) <| rw_q rfl (ev_pick_fk rfl hd14 rfl) ?_
                 refine rw_q rfl (ev_move (v := (bl false)) rfl) <| rw_gyq (s := 91) rfl rfl rfl rfl (ev_move (v := (ptr bnq75 0)) rfl) <| rw_gy (s := 91) rfl rfl rfl rfl (opR_call Try.func19 bd19 nm19 (args1 rfl) (c_jrecords bnq75 bdq12 ((hh - fr : Nat) : Int) (hh : Int) (newB L1 ([])) vrq75 rsq75 (roomB LW : Int) _ hm80.h0 (GrowL.rd grq75 (Mem.pick [_] Hrq75 _ hm80) nN) sL (map_el hMr3 (P := fun b => b.length ≤ 35184372088832) (fun b hb => by have := hel2 b hb; omega)))) ?_
                 rintro rq82 w81 ⟨ls2q82, Hsq82, hMq82, hLq82, grq82, k_w81⟩
                 have hm81 : Mem w81 (restOf w0) (Hsq82 ++ ([(bnq75, .cells #[(ptr bdq12 0), (i64 ((hh - fr : Nat) : Int)), (i64 (hh : Int)), (u64 (newB L1 ([]))), vrq75, (i64 (roomB LW : Int))] 100 (0, 0))] ++ (Hrq75 ++ ([(bdq12, .cells #[vlq12, (Value.slice none 0 0)] 94 (0, 0))] ++ (Hl2q75 ++ (Hw ++ ([]))))))) := Mem.new (H := [(bnq75, .cells #[(ptr bdq12 0), (i64 ((hh - fr : Nat) : Int)), (i64 (hh : Int)), (u64 (newB L1 ([]))), vrq75, (i64 (roomB LW : Int))] 100 (0, 0))] ++ (Hrq75 ++ ([(bdq12, .cells #[vlq12, (Value.slice none 0 0)] 94 (0, 0))] ++ (Hl2q75 ++ (Hw ++ ([])))))) (H' := Hsq82) hm80 k_w81
                 refine rw_gyq (s := 91) rfl rfl rfl rfl (ev_move s11) <| rw_gy (s := 91) rfl rfl rfl rfl (opR_call Try.func18 bd18 nm18 (args2 rfl rfl) (c_samelist rq82 ls2q82 vw ws _ (GrowL.rd grq82 hm81 nN) (GrowL.rd gw (Mem.pick5 Hsq82 [_] Hrq75 [_] Hl2q75 Hw _ hm81) (fun b o e => (hm81).rest b o e)) sL (map_el (hMq82.trans hMr3) (P := fun b => b.length ≤ 281474976710656) (fun b hb => by have := hel2 b hb; omega)))) ?_
                 rintro _ w83 ⟨rfl, _ew83⟩
                 have hm83 := hm81.ext _ew83
                 refine rw_gyq (s := 91) rfl rfl rfl rfl (ev_not rfl) <| rw_q rfl (ev_pick_f rfl rfl) <| rN ?_
                 have hm85 := Mem.drop Hsq82 _ hm83
                 refine CW.abs (fun g => g 0 = (i64 size) ∧ g 1 = vL ∧ g 2 = vq ∧ g 7 = (ptr bdq12 0) ∧ g 8 = (i64 0) ∧ g 9 = (ptr bnq75 0) ∧ g 10 = (i64 0) ∧ g 11 = vw ∧ g 13 = (slv (rl.getD k sl0)) ∧ g 15 = (bl false) ∧ g 31 = (bl (decide (200 < (qs.length : Int)))) ∧ g 42 = (bl false) ∧ g 53 = (bl false) ∧ g 56 = vL ∧ g 57 = (i64 (rl.length : Int)) ∧ g 58 = (i64 (k : Int)) ∧ g 59 = (bl (decide ((k : Int) < (rl.length : Int)))) ∧ g 64 = (bl (decide (2000 < (((rl.getD k sl0).2).length : Int)))) ∧ g 68 = (bl (6 == 0)) ∧ g 76 = (bl (fitsB (hh : Int) (roomB LW : Int) (((rl.getD k sl0).2).length))) ∧ g 97 = (bl (!((ls2q82.map (·.2)) == (ws.map (·.2))))) ∧ True) ⟨s0, s1, s2, s7, s8, rfl, rfl, s11, s13, s15, s31, s42, s53, s56, s57, s58, s59, s64, s68, s76, rfl, trivial⟩ ?_
                 rintro fr86 ⟨s0, s1, s2, s7, s8, s9, s10, s11, s13, s15, s31, s42, s53, s56, s57, s58, s59, s64, s68, s76, s97, _⟩
                 have hd87 : ((ls2q82.map (·.2)) == (ws.map (·.2))) = true := told_true (by rw [hMq82, hMr3, hMw])
                 have hd88 : (!((ls2q82.map (·.2)) == (ws.map (·.2)))) = false := congrArg Bool.not hd87
                 refine cw_cond_f s97 hd88 ?_
                 refine cw_skip (kBlk_normal (cw_region ?_))
                 refine rw_q rfl (ev_i64_add (b := 1) s58 rfl oM oM) <| rw_q rfl (ev_move (v := (i64 ((k : Int) + 1))) rfl) <| rN ?_
                 exact ⟨⟨(k + 1), bnq75, (hh - fr), (newB L1 []), vrq75, rsq75, Hrq75, (openD L1 ([])), Hl2q75, LW, vw, ws, Hw, oM, hJ3, (by rw [hnn.1, hg]), hMr3, hMw, oM, hel2, grq75, gl2q75, gw, s0, s1, s2, s7, s8, s9, s11, s15, s31, s42, s53, s56, s57, rfl, hm85⟩, meas (rfl) z58 oM oM⟩
           · -- false
             have hc30p := of_decide_eq_false hc30
             refine cw_exit ?_
             refine kThen_exit (kThen_exit (kBlk_hit ?_))
             refine sR <| rw_q rfl (ev_assign (v := (bl true)) rfl) ?_
             refine rN (cw_ret ?_)
             refine fnPost_ret [(bl true)] ⟨rfl, trivial⟩ ?_
             exact ⟨rfl, Mem.below w0 hm29⟩


end Go.Proofs.Ytfbnhoolkajebaa
