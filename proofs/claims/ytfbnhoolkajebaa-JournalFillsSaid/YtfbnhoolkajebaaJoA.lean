/- The law of journals that fill: its walk. Conditions: none beyond those that each theorem states. -/
import Derived.Test.YtfbnhoolkajebaaJo9
namespace Go.Proofs.Ytfbnhoolkajebaa
set_option linter.unusedVariables false
set_option linter.unusedSimpArgs false
attribute [local irreducible] crashB crashK pushB readB inB errB cutN seenW
attribute [local irreducible] markB putB getB getK partB placeF blkOf rawB writeK blocksN
attribute [local irreducible] mostK newB roomB
attribute [local irreducible] recB recF recN genF badB lastP dataB gOf rOf pOf nOf loopH readH
attribute [local irreducible] okP layK turnL turnP oldB
attribute [local irreducible] openD
attribute [local irreducible] okG okV GB natB fitsB

set_option maxHeartbeats 2000000 in
theorem law_fills (size : Int) (vb : Value) (b : List (BitVec 8)) (w0 : World)  (hs : -9223372036854775808 ≤ size ∧ size ≤ 9223372036854775807) (hb : Rd (blks w0) u8 vb b) (hbl : b.length ≤ 9223372036854775807) : CallsR Try.prog 4 #[(i64 size), vb] w0 (fun r w1 => r = bl true ∧ RowKit.Below w0.heap.size w0 w1) := by
 refine callsR_of_cw (args := [(i64 size), vb]) Try.func4 rfl Try.ntmps4 Try.results4 rfl ?_
 have hm0 : Mem w0 (restOf w0) [] := Mem.of_world w0
 refine sR <| rw_q rfl (ev_assign (v := (bl false)) rfl) ?_
 refine rN (cw_seq (sR ?_))
 refine rw_c rfl (opR_call Try.func12 bd12 nm12 (args0) (c_speaks15 _)) ?_
 rintro _ w1 ⟨rfl, _ew1⟩
 have hm1 := hm0.ext _ew1
 refine rw_q (v := (bl false)) rfl (ev_not (b := true) rfl) <| rN <| cw_cond_f rfl (by decide) ?_
 refine cw_skip (kThen_normal (cw_seq (sR ?_)))
 refine rw_q rfl (ev_move (v := (i64 size)) rfl) <| rw_q rfl (ev_i64_lss (b := 4) rfl rfl) <| rw_q rfl (ev_move (v := (bl (decide (size < 4)))) rfl) ?_
 rcases Bool.eq_false_or_eq_true (decide (size < 4)) with hb3 | hb3
 · -- true
   have hb3p := of_decide_eq_true hb3
   refine rw_gn (s := 16) rfl rfl hb3 rfl <| rw_gn (s := 16) rfl rfl hb3 rfl <| rw_q rfl (ev_pick_tk rfl hb3 rfl) <| rw_q rfl (ev_move (v := (bl true)) rfl) <| rw_gn (s := 20) rfl rfl rfl rfl <| rw_gn (s := 20) rfl rfl rfl rfl ?_
   refine rw_gn (s := 20) rfl rfl rfl rfl <| rw_q rfl (ev_pick_t rfl rfl) <| rN <| cw_cond_t rfl (by decide) <| sR <| rw_q rfl (ev_assign (v := (bl true)) rfl) ?_
   refine rN (cw_ret (kThen_ret ?_))
   refine fnPost_ret [(bl true)] ⟨rfl, trivial⟩ ?_
   exact ⟨rfl, Mem.below w0 hm1⟩
 · -- false
   have hb3p := of_decide_eq_false hb3
   refine rw_gyq (s := 16) rfl rfl hb3 rfl (ev_move (v := (i64 size)) rfl) <| rw_gyq (s := 16) rfl rfl hb3 rfl (ev_i64_gtr (b := 200) rfl rfl) <| rw_q rfl (ev_pick_fk rfl hb3 rfl) <| rw_q rfl (ev_move (v := (bl (decide (200 < size)))) rfl) ?_
   rcases Bool.eq_false_or_eq_true (decide (200 < size)) with hb4 | hb4
   · -- true
     have hb4p := of_decide_eq_true hb4
     refine rw_gn (s := 20) rfl rfl hb4 rfl <| rw_gn (s := 20) rfl rfl hb4 rfl <| rw_gn (s := 20) rfl rfl hb4 rfl <| rw_q rfl (ev_pick_tk rfl hb4 rfl) <| rN <| cw_cond_t rfl (by decide) ?_
     refine sR <| rw_q rfl (ev_assign (v := (bl true)) rfl) ?_
     refine rN (cw_ret (kThen_ret ?_))
     refine fnPost_ret [(bl true)] ⟨rfl, trivial⟩ ?_
     exact ⟨rfl, Mem.below w0 hm1⟩
   · -- false
     have hb4p := of_decide_eq_false hb4
     refine rw_gyq (s := 20) rfl rfl hb4 rfl (ev_move (v := vb) rfl) <| rw_gyq (s := 20) rfl rfl hb4 rfl (ev_len_rd (Rd.ofRest hb hm1) uT23 rfl) <| rw_gyq (s := 20) rfl rfl hb4 rfl (ev_i64_gtr (b := 2000) rfl rfl) <| rw_q rfl (ev_pick_fk rfl hb4 rfl) <| rN ?_
     refine cw_cond rfl (fun hc5 => ?_) (fun hc5 => ?_)
     · -- true
       have hc5p := of_decide_eq_true hc5
       refine sR <| rw_q rfl (ev_assign (v := (bl true)) rfl) ?_
       refine rN (cw_ret (kThen_ret ?_))
       refine fnPost_ret [(bl true)] ⟨rfl, trivial⟩ ?_
       exact ⟨rfl, Mem.below w0 hm1⟩
     · -- false
       have hc5p := of_decide_eq_false hc5
       refine cw_skip (kThen_normal (sR ?_))
       refine rw_q rfl (ev_move (v := (i64 size)) rfl) <| rw_c rfl (opR_call Try.func13 bd13 nm13 (args1 rfl) (c_dnew size _ sL)) ?_
       rintro _ w6 ⟨bdq7, vlq7, Hlq7, rfl, glq7, k_w6⟩
       have hm6 : Mem w6 (restOf w0) ([(bdq7, .cells #[vlq7, (Value.slice none 0 0)] 94 (0, 0))] ++ (Hlq7 ++ ([]))) := (by
         have hT := Mem.new (H := []) (H' := _) hm1 k_w6
         try simp only [List.append_assoc, List.cons_append, List.nil_append, List.append_nil] at hT ⊢
         exact hT)
       have hbl0 : List.replicate size.toNat (List.replicate 64 0) = blank size.toNat := rfl
       obtain ⟨L0, hL0⟩ : ∃ q : List (List (BitVec 8)), q = (List.replicate size.toNat (List.replicate 64 0)) := ⟨_, rfl⟩
       have hL0l : L0.length = size.toNat := by rw [hL0, hbl0]; simp
       have gg8 : GrowK (encA u8) 64 83 vlq7 L0 Hlq7 := GrowK.cast glq7 (hL0.symm)
       rw [hbl0] at hL0
       have hG0 : okG 0 L0 := by rw [hL0]; exact blank_G _
       have hn0 := new_le hG0 (by decide)
       refine rw_q rfl (ev_move (v := (Value.tuple #[(ptr bdq7 0), (i64 0)])) rfl) <| rw_q (v := (ptr bdq7 0)) rfl (ev_extract rfl rfl) <| rw_q (v := (i64 0)) rfl (ev_extract rfl rfl) <| rw_q rfl (ev_assign (v := (ptr bdq7 0)) rfl) <| rw_q rfl (ev_assign (v := (i64 0)) rfl) <| rN ?_
       refine CW.abs (fun g => g 0 = (i64 size) ∧ g 1 = vb ∧ g 4 = (bl false) ∧ g 5 = (ptr bdq7 0) ∧ g 6 = (i64 0) ∧ g 13 = (bl false) ∧ g 24 = (bl (decide (2000 < (b.length : Int)))) ∧ True) ⟨rfl, rfl, rfl, rfl, rfl, rfl, rfl, trivial⟩ ?_
       rintro fr9 ⟨s0, s1, s4, s5, s6, s13, s24, _⟩
       refine cw_seq (sR ?_)
       refine rM rfl s6 <| rw_q rfl (ev_i64_neq (b := 0) rfl rfl) <| rw_q rfl (ev_move (v := (bl (0 != 0))) rfl) ?_
       have hd10 : (0 != 0) = false := told_ne rfl
       refine rw_gyq (s := 32) rfl rfl hd10 rfl (ev_move s5) <| rw_gyq (s := 32) rfl rfl hd10 rfl (ev_ptr_nil_eql uT25 rfl rfl) <| rw_q rfl (ev_pick_fk rfl hd10 rfl) <| rN <| cw_cond_f rfl (by decide) ?_
       refine cw_skip (kThen_normal (sR ?_))
       refine rM rfl s5 ?_
       have hF12 : Mem w6 (restOf w0) (([(bdq7, .cells #[vlq7, (Value.slice none 0 0)] 94 (0, 0))] ++ (Hlq7 ++ ([] ++ ([])))) ++ ([])) := by
         have hT := (Mem.pick Hlq7 [_] _ (Mem.pick [_] Hlq7 _ hm6))
         try simp only [List.append_assoc, List.cons_append, List.nil_append, List.append_nil] at hT ⊢
         exact hT
       refine rw_c rfl (opR_call Try.func14 bd14 nm14 (args1 rfl) (c_jopen bdq7 vlq7 L0 Hlq7 (Value.slice none 0 0) ([]) ([]) _ _ (Mem.give hF12) gg8 (GrowK.none encW 65 104) sL sL okP_nil hn0.1)) ?_
       rintro _ w11 ⟨bnq13, vrq13, rsq13, Hrq13, Hl2q13, rfl, hMq13, hLq13, grq13, gl2q13, k_w11⟩
       have hm11 : Mem w11 (restOf w0) ([(bnq13, .cells #[(ptr bdq7 0), (i64 (((L0.length : Int) / 2) - (oldB L0 ([])).1)), (i64 ((L0.length : Int) / 2)), (u64 (newB L0 ([]))), vrq13, (i64 (roomB (oldB L0 ([])).2 : Int))] 100 (0, 0))] ++ (Hrq13 ++ ([(bdq7, .cells #[vlq7, (Value.slice none 0 0)] 94 (0, 0))] ++ (Hl2q13 ++ ([]))))) := (by
         have hT := Mem.back hF12 k_w11
         try simp only [List.append_assoc, List.cons_append, List.nil_append, List.append_nil] at hT ⊢
         exact hT)
       have hob : oldB L0 [] = ((L0.length : Int) / 2, [[]]) := by rw [hL0]; exact blank_old
       have hr1 : rsq13.map (·.2) = [[]] := by rw [hMq13, hob]
       have hr1l : rsq13.length = 1 := by rw [hLq13, hob]; rfl
       have hm14 : Mem w11 (restOf w0) ([(bnq13, .cells #[(ptr bdq7 0), (i64 0), (i64 ((L0.length : Int) / 2)), (u64 (newB L0 ([]))), vrq13, (i64 (roomB (oldB L0 ([])).2 : Int))] 100 (0, 0))] ++ (Hrq13 ++ ([(bdq7, .cells #[vlq7, (Value.slice none 0 0)] 94 (0, 0))] ++ (Hl2q13 ++ ([]))))) := by rw [show (0 : Int) = (L0.length : Int) / 2 - (oldB L0 []).1 by rw [hob]; omega]; exact hm11
       have hm15 : Mem w11 (restOf w0) ([(bnq13, .cells #[(ptr bdq7 0), (i64 0), (i64 ((L0.length : Int) / 2)), (u64 (newB L0 ([]))), vrq13, (i64 ((1 + 0 * blocksN b.length : Nat) : Int))] 100 (0, 0))] ++ (Hrq13 ++ ([(bdq7, .cells #[vlq7, (Value.slice none 0 0)] 94 (0, 0))] ++ (Hl2q13 ++ ([]))))) := by rw [show ((1 + 0 * blocksN b.length : Nat) : Int) = (roomB (oldB L0 []).2 : Int) by rw [hob]; exact one1]; exact hm14
       have hre1 : ∀ p ∈ rsq13, p.2.length ≤ 35184372088832 := map_el hr1 (P := fun b => b.length ≤ 35184372088832) (fun b hb => by have := nil_el b hb; omega)
       have hL1l : (openD L0 []).length = L0.length := openD_len
       have hsz2 : (L0.length : Int) / 2 = size / 2 := by omega
       have hm16 : Mem w11 (restOf w0) ([(bnq13, .cells #[(ptr bdq7 0), (i64 0), (i64 (size / 2)), (u64 (newB L0 ([]))), vrq13, (i64 ((1 + 0 * blocksN b.length : Nat) : Int))] 100 (0, 0))] ++ (Hrq13 ++ ([(bdq7, .cells #[vlq7, (Value.slice none 0 0)] 94 (0, 0))] ++ (Hl2q13 ++ ([]))))) := by rw [← hsz2]; exact hm15
       have hgo : (newB L0 []).toNat ≤ 0 + 1 := hn0.2
       have hG1 : okG (0 + 1) (openD L0 []) := by unfold openD; exact okG_sync (okG_turn (okG_mono hG0 oM) okV_nil hgo (by decide)).1 (okG_turn (okG_mono hG0 oM) okV_nil hgo (by decide)).2
       refine rw_q rfl (ev_move (v := (Value.tuple #[(ptr bnq13 0), (i64 0)])) rfl) <| rw_q (v := (ptr bnq13 0)) rfl (ev_extract rfl rfl) <| rw_q (v := (i64 0)) rfl (ev_extract rfl rfl) <| rw_q rfl (ev_assign (v := (ptr bnq13 0)) rfl) <| rw_q rfl (ev_assign (v := (i64 0)) rfl) ?_
       refine rN (cw_seq (sR ?_))
       refine rw_q rfl (ev_move (v := (i64 0)) rfl) <| rw_q rfl (ev_i64_neq (b := 0) rfl rfl) <| rw_q rfl (ev_move (v := (bl (0 != 0))) rfl) <| rw_gyq (s := 43) rfl rfl hd10 rfl (ev_move (v := (ptr bnq13 0)) rfl) <| rw_gyq (s := 43) rfl rfl hd10 rfl (ev_ptr_nil_eql uT29 rfl rfl) <| rw_q rfl (ev_pick_fk rfl hd10 rfl) ?_
       refine rN ?_
       refine CW.abs (fun g => g 0 = (i64 size) ∧ g 1 = vb ∧ g 4 = (bl false) ∧ g 5 = (ptr bdq7 0) ∧ g 6 = (i64 0) ∧ g 7 = (ptr bnq13 0) ∧ g 8 = (i64 0) ∧ g 13 = (bl false) ∧ g 24 = (bl (decide (2000 < (b.length : Int)))) ∧ g 35 = (bl false) ∧ g 46 = (bl false) ∧ True) ⟨s0, s1, s4, s5, s6, rfl, rfl, s13, s24, rfl, rfl, trivial⟩ ?_
       rintro fr17 ⟨s0, s1, s4, s5, s6, s7, s8, s13, s24, s35, s46, _⟩
       refine cw_cond_f s46 (by decide) ?_
       refine cw_skip (kThen_normal (sR ?_))
       refine rM rfl s1 <| rw_c rfl (or_buildSlice_ones [vb] (List.all_eq_true.1 (one_cons (Rd.one (Rd.ofRest hb hm16)) one_nil)) hm16 uT22 ti23 rfl rfl rfl) ?_
       rintro _ w18 ⟨b48, rfl, _ew18, hm18⟩
       have hm18 : Mem w18 (restOf w0) ([(b48, .cells #[vb] 23 (0, 0)), (bnq13, .cells #[(ptr bdq7 0), (i64 0), (i64 (size / 2)), (u64 (newB L0 ([]))), vrq13, (i64 ((1 + 0 * blocksN b.length : Nat) : Int))] 100 (0, 0))] ++ (Hrq13 ++ ([(bdq7, .cells #[vlq7, (Value.slice none 0 0)] 94 (0, 0))] ++ (Hl2q13 ++ ([]))))) := hm18
       refine rw_c rfl (opR_call Try.func20 bd20 nm20 (args1 rfl) (c_rroom (slc b48 0 1 1) ([toSl vb b]) _ (RdL.one1 (l0 := b) hm18.h0 (Rd.ofRest hb hm18)) sL (map_el1 (n := 42000) oM))) ?_
       rintro _ w19 ⟨rfl, _ew19⟩
       have hm19 := hm18.ext _ew19
       refine rw_q rfl (ev_assign (v := (i64 (roomB (([toSl vb b]).map (·.2)) : Int))) rfl) ?_
       refine rN (cw_seq (cw_seq ?_))
       have hrm : (roomB ([toSl vb b].map (·.2)) : Int) = (blocksN b.length : Int) := by rw [one_map, room_1]
       have hm21 := Mem.drop ([(b48, .cells #[vb] 23 (0, 0))]) _ hm19
       refine CW.abs (fun g => g 0 = (i64 size) ∧ g 1 = vb ∧ g 4 = (bl false) ∧ g 5 = (ptr bdq7 0) ∧ g 6 = (i64 0) ∧ g 7 = (ptr bnq13 0) ∧ g 8 = (i64 0) ∧ g 9 = (i64 (blocksN b.length : Int)) ∧ g 13 = (bl false) ∧ g 24 = (bl (decide (2000 < (b.length : Int)))) ∧ g 35 = (bl false) ∧ g 46 = (bl false) ∧ True) ⟨s0, s1, s4, s5, s6, s7, s8, (Eq.trans rfl (congrArg i64 hrm)), s13, s24, s35, s46, trivial⟩ ?_
       rintro fr22 ⟨s0, s1, s4, s5, s6, s7, s8, s9, s13, s24, s35, s46, _⟩
       refine cw_region <| rw_q rfl (ev_assign (v := (i64 0)) rfl) ?_
       refine rN (cw_block ?_)
       refine cw_loop (fun g wv => ∃ (k : Nat) (fr1 : Int) (g1 : BitVec 64) (v1 : Value) (rs1 : List SlT) (Hr1 : List (Nat × Obj)) (L1 : List (List (BitVec 8))) (Hl1 : List (Nat × Obj)), (k ≤ 2) ∧ (0 ≤ fr1 ∧ fr1 ≤ (size / 2)) ∧ (g1.toNat ≤ k + 1) ∧ (rs1.length = 1) ∧ (GrowL mN 23 v1 rs1 Hr1) ∧ ((L1.length : Int) = size) ∧ (okG (k + 1) L1) ∧ (GrowK (encA u8) 64 83 vlq7 L1 Hl1) ∧ (∀ p ∈ rs1, p.2.length ≤ 35184372088832) ∧ g 0 = (i64 size) ∧ g 1 = vb ∧ g 5 = (ptr bdq7 0) ∧ g 6 = (i64 0) ∧ g 7 = (ptr bnq13 0) ∧ g 8 = (i64 0) ∧ g 9 = (i64 (blocksN b.length : Int)) ∧ g 10 = (i64 (k : Int)) ∧ g 13 = (bl false) ∧ g 24 = (bl (decide (2000 < (b.length : Int)))) ∧ g 35 = (bl false) ∧ g 46 = (bl false) ∧ Mem wv (restOf w0) ([(bnq13, .cells #[(ptr bdq7 0), (i64 fr1), (i64 (size / 2)), (u64 g1), v1, (i64 ((1 + 0 * blocksN b.length : Nat) : Int))] 100 (0, 0))] ++ (Hr1 ++ ([(bdq7, .cells #[vlq7, (Value.slice none 0 0)] 94 (0, 0))] ++ (Hl1 ++ ([])))))) (fun g wv => (2 - RowKit.intOf (g 10)).toNat) ?_ ?_
       · exact ⟨0, 0, (newB L0 []), vrq13, rsq13, Hrq13, (openD L0 ([])), Hl2q13, oM, oM, hgo, hr1l, grq13, (by rw [hL1l]; omega), hG1, gl2q13, hre1, s0, s1, s5, s6, s7, s8, s9, rfl, s13, s24, s35, s46, (by
         have hT := hm21
         try simp only [List.append_assoc, List.cons_append, List.nil_append, List.append_nil] at hT ⊢
         exact hT)⟩
       · rintro fr23 w24 ⟨k, fr1, g1, v1, rs1, Hr1, L1, Hl1, hk, hfr, hge, hrs, hgr, hLl, hG, hgl, hre1, s0, s1, s5, s6, s7, s8, s9, s10, s13, s24, s35, s46, hm24⟩
         have z10 := s10
         refine cw_seq (sR ?_)
         refine rM rfl s10 <| rw_q rfl (ev_i64_lss (b := 2) rfl rfl) <| rN ?_
         refine cw_cond rfl (fun hc25 => ?_) (fun hc25 => ?_)
         · -- true
           have hc25p := of_decide_eq_true hc25
           have hbp := blocksN_pos b.length
           refine cw_skip (kThen_normal (cw_seq (cw_block (sR ?_))))
           refine rw_q rfl (ev_assign (v := (i64 0)) rfl) ?_
           refine rN (cw_seq (cw_block ?_))
           refine cw_loop (fun g wv => ∃ (n : Nat) (v2 : Value) (rs2 : List SlT) (Hr2 : List (Nat × Obj)) (L2 : List (List (BitVec 8))) (Hl2 : List (Nat × Obj)), (((1 + n * blocksN b.length : Nat) : Int) ≤ (size / 2)) ∧ (rs2.length = n + 1) ∧ (GrowL mN 23 v2 rs2 Hr2) ∧ ((L2.length : Int) = size) ∧ (okG (k + 1) L2) ∧ (GrowK (encA u8) 64 83 vlq7 L2 Hl2) ∧ (∀ p ∈ rs2, p.2.length ≤ 35184372088832) ∧ g 0 = (i64 size) ∧ g 1 = vb ∧ g 5 = (ptr bdq7 0) ∧ g 6 = (i64 0) ∧ g 7 = (ptr bnq13 0) ∧ g 8 = (i64 0) ∧ g 9 = (i64 (blocksN b.length : Int)) ∧ g 10 = (i64 (k : Int)) ∧ g 11 = (i64 (n : Int)) ∧ g 13 = (bl false) ∧ g 24 = (bl (decide (2000 < (b.length : Int)))) ∧ g 35 = (bl false) ∧ g 46 = (bl false) ∧ g 51 = (bl (decide ((k : Int) < 2))) ∧ Mem wv (restOf w0) ([(bnq13, .cells #[(ptr bdq7 0), (i64 fr1), (i64 (size / 2)), (u64 g1), v2, (i64 ((1 + n * blocksN b.length : Nat) : Int))] 100 (0, 0))] ++ (Hr2 ++ ([(bdq7, .cells #[vlq7, (Value.slice none 0 0)] 94 (0, 0))] ++ (Hl2 ++ ([])))))) (fun g wv => (size + 1 - RowKit.intOf (g 11)).toNat) ?_ ?_
           · exact ⟨0, v1, rs1, Hr1, L1, Hl1, (by rw [Nat.zero_mul]; omega), hrs, hgr, hLl, hG, hgl, hre1, s0, s1, s5, s6, s7, s8, s9, s10, rfl, s13, s24, s35, s46, rfl, (by
             have hT := hm24
             try simp only [List.append_assoc, List.cons_append, List.nil_append, List.append_nil] at hT ⊢
             exact hT)⟩
           · rintro fr26 w27 ⟨n, v2, rs2, Hr2, L2, Hl2, hat, hrs2, hgr2, hL2l, hG2, hgl2, hre2, s0, s1, s5, s6, s7, s8, s9, s10, s11, s13, s24, s35, s46, s51, hm27⟩
             have z11 := s11
             have hnn : n * 1 ≤ n * blocksN b.length := Nat.mul_le_mul_left n oM
             have hns : (n + 1) * blocksN b.length = n * blocksN b.length + blocksN b.length := Nat.succ_mul n _
             refine cw_seq (cw_seq ?_)
             rcases Bool.eq_false_or_eq_true (fitsB (size / 2) ((1 + n * blocksN b.length : Nat) : Int) b.length) with hb28 | hb28
             · -- true
               refine cw_region <| rM rfl s7 <| rM rfl s1 ?_
               have hF30 : Mem w27 (restOf w0) (([(bnq13, .cells #[(ptr bdq7 0), (i64 fr1), (i64 (size / 2)), (u64 g1), v2, (i64 ((1 + n * blocksN b.length : Nat) : Int))] 100 (0, 0))] ++ (Hr2 ++ ([(bdq7, .cells #[vlq7, (Value.slice none 0 0)] 94 (0, 0))] ++ (Hl2 ++ ([] ++ ([])))))) ++ ([])) := by
                 have hT := (Mem.pick3 Hr2 [_] Hl2 [_] _ (Mem.pick3 [_] Hl2 [_] Hr2 _ (Mem.pick3 Hl2 [_] Hr2 [_] _ (Mem.pick3 [_] Hr2 [_] Hl2 _ hm27))))
                 try simp only [List.append_assoc, List.cons_append, List.nil_append, List.append_nil] at hT ⊢
                 exact hT
               refine rw_c rfl (opR_call Try.func15 bd15 nm15 (args2 rfl rfl) (c_jappend1 bnq13 fr1 (size / 2) g1 v2 rs2 Hr2 ((1 + n * blocksN b.length : Nat) : Int) bdq7 vlq7 L2 Hl2 (Value.slice none 0 0) ([]) ([]) vb b _ _ (Mem.give hF30) hgr2 hgl2 (GrowK.none encW 65 104) (Rd.addRest hF30 hb) sL sL sL sL sL sL sL okP_nil hb28)) ?_
               rintro _ w29 ⟨vr2q31, rs2q31, Hr2q31, Hl2q31, rfl, hMq31, hLq31, gr2q31, gl2q31, k_w29⟩
               have hm29 : Mem w29 (restOf w0) ([(bnq13, .cells #[(ptr bdq7 0), (i64 fr1), (i64 (size / 2)), (u64 g1), vr2q31, (i64 (((1 + n * blocksN b.length : Nat) : Int) + (blocksN b.length : Int)))] 100 (0, 0))] ++ (Hr2q31 ++ ([(bdq7, .cells #[vlq7, (Value.slice none 0 0)] 94 (0, 0))] ++ (Hl2q31 ++ ([]))))) := (by
                 have hT := Mem.back hF30 k_w29
                 try simp only [List.append_assoc, List.cons_append, List.nil_append, List.append_nil] at hT ⊢
                 exact hT)
               have hfy := fits_yes hb28
               refine rw_q rfl (ev_i64_eql (b := 0) rfl rfl) <| rN ?_
               have hd32 : (0 == 0) = true := told_true rfl
               refine cw_cond_t rfl hd32 ?_
               refine cw_skip (kThen_normal (cw_block' (sR ?_)))
               refine rM rfl s11 <| rw_q rfl (ev_i64_add (b := 1) rfl rfl oM oM) <| rw_q rfl (ev_assign (v := (i64 ((n : Int) + 1))) rfl) ?_
               refine rN (sR ?_)
               refine rw_q rfl (ev_move (v := (i64 ((n : Int) + 1))) rfl) <| rM rfl s0 <| rw_q rfl (ev_i64_gtr rfl rfl) <| rN ?_
               have hd33 : (decide (size < ((n : Int) + 1))) = false := decide_eq_false oM
               refine cw_cond_f rfl hd33 ?_
               refine cw_skip (kBlk_normal (kThen_normal ?_))
               exact ⟨⟨(n + 1), vr2q31, rs2q31, Hr2q31, (crashB L2 (writeK L2 ([]) (fr1 + ((1 + n * blocksN b.length : Nat) : Int)) g1 (BitVec.ofInt 64 (rs2.length : Int)) b (blocksN b.length)) [1#8]), Hl2q31, oM, oM, gr2q31, (by rw [crashB_len']; exact hL2l), (okG_sync hG2 (okV_write okV_nil hge oM _)), gl2q31, (map_el hMq31 (P := fun b => b.length ≤ 35184372088832) (fun c hc => by rcases List.mem_append.1 hc with h | h; (obtain ⟨p, hp, rfl⟩ := List.mem_map.1 h; exact hre2 p hp); (obtain rfl := List.mem_singleton.1 h; omega))), s0, s1, s5, s6, s7, s8, s9, s10, rfl, s13, s24, s35, s46, s51, (by rw [show ((1 + (n + 1) * blocksN b.length : Nat) : Int) = ((1 + n * blocksN b.length : Nat) : Int) + (blocksN b.length : Int) by omega]; exact hm29)⟩, meas (rfl) z11 oM oM⟩
             · -- false
               refine cw_region <| rM rfl s7 <| rM rfl s1 <| rw_c rfl (opR_call Try.func15 bd15 nm15 (args2 rfl rfl) (c_jappend0 bnq13 bdq7 fr1 (size / 2) g1 v2 ((1 + n * blocksN b.length : Nat) : Int) vb b _ hm27.h0 (Rd.ofRest hb hm27) sL sL sL hb28)) ?_
               rintro _ w34 ⟨rfl, _ew34⟩
               have hm34 := hm27.ext _ew34
               have hfn := fits_no oM hb28
               refine rw_q rfl (ev_i64_eql (b := 0) rfl rfl) <| rN ?_
               have hd36 : (6 == 0) = false := by decide
               refine cw_cond_f rfl hd36 <| cw_exit ?_
               refine kThen_exit (kThen_exit (kBlk_hit ?_))
               refine cw_seq ?_
               have hn1 := new_le hG2 oM
               refine cw_region <| rM rfl s11 <| rM rfl s0 <| rw_q rfl (ev_i64_quo (b := 2) rfl rfl oM oM oM) <| rw_q rfl (ev_i64_sub (b := 1) rfl rfl oM oM) <| rM rfl s9 ?_
               refine rw_q rfl (ev_i64_quo rfl rfl oM oM oM) <| rw_q rfl (ev_i64_neq rfl rfl) <| rw_q rfl (ev_move (v := (bl ((n : Int) != (((size / 2) - 1) / (blocksN b.length : Int))))) rfl) ?_
               have hd37 : ((n : Int) != (((size / 2) - 1) / (blocksN b.length : Int))) = false := told_ne (fills_n oM oM oM).symm
               refine rw_gyq (s := 70) rfl rfl hd37 rfl (ev_move s7) <| rw_gyq (s := 70) rfl rfl hd37 rfl (ev_move s1) <| rw_gyq (s := 70) rfl rfl hd37 rfl (ev_len_rd (Rd.ofRest hb hm34) uT23 rfl) <| rw_gy (s := 70) rfl rfl hd37 rfl (opR_call Try.func16 bd16 nm16 (args2 rfl rfl) (c_jfits bnq13 bdq7 fr1 (size / 2) g1 v2 ((1 + n * blocksN b.length : Nat) : Int) b.length _ hm34.h0 sL sL sL)) ?_
               rintro _ w38 ⟨rfl, _ew38⟩
               have hm38 := hm34.ext _ew38
               refine rw_q rfl (ev_pick_fk rfl hd37 rfl) <| rw_q rfl (ev_move (v := (bl (fitsB (size / 2) ((1 + n * blocksN b.length : Nat) : Int) b.length))) rfl) <| rw_gyq (s := 76) rfl rfl hb28 rfl (ev_move s7) <| rw_gy (s := 76) rfl rfl hb28 rfl (opR_call Try.func19 bd19 nm19 (args1 rfl) (c_jrecords bnq13 bdq7 fr1 (size / 2) g1 v2 rs2 ((1 + n * blocksN b.length : Nat) : Int) _ hm38.h0 (GrowL.rd hgr2 (Mem.pick [_] Hr2 _ hm38) nN) sL hre2)) ?_
               rintro rq41 w40 ⟨ls2q41, Hsq41, hMq41, hLq41, grq41, k_w40⟩
               have hm40 : Mem w40 (restOf w0) (Hsq41 ++ ([(bnq13, .cells #[(ptr bdq7 0), (i64 fr1), (i64 (size / 2)), (u64 g1), v2, (i64 ((1 + n * blocksN b.length : Nat) : Int))] 100 (0, 0))] ++ (Hr2 ++ ([(bdq7, .cells #[vlq7, (Value.slice none 0 0)] 94 (0, 0))] ++ (Hl2 ++ ([])))))) := Mem.new (H := [(bnq13, .cells #[(ptr bdq7 0), (i64 fr1), (i64 (size / 2)), (u64 g1), v2, (i64 ((1 + n * blocksN b.length : Nat) : Int))] 100 (0, 0))] ++ (Hr2 ++ ([(bdq7, .cells #[vlq7, (Value.slice none 0 0)] 94 (0, 0))] ++ (Hl2 ++ ([]))))) (H' := Hsq41) hm38 k_w40
               refine rw_gyq (s := 76) rfl rfl hb28 rfl (ev_len_rd (RdL.row (GrowL.rd grq41 hm40 nN)) uT22 rfl) <| rw_gyq (s := 76) rfl rfl hb28 rfl (ev_move s11) <| rw_gyq (s := 76) rfl rfl hb28 rfl (ev_i64_add (b := 1) rfl rfl oM oM) <| rw_gyq (s := 76) rfl rfl hb28 rfl (ev_i64_neq rfl rfl) <| rw_q rfl (ev_pick_fk rfl hb28 rfl) <| rw_q rfl (ev_move (v := (bl ((ls2q41.length : Int) != ((n : Int) + 1)))) rfl) ?_
               have hd42 : ((ls2q41.length : Int) != ((n : Int) + 1)) = false := told_ne oM
               refine rw_gyq (s := 84) rfl rfl hd42 rfl (ev_move s7) ?_
               have hF44 : Mem w40 (restOf w0) (([(bnq13, .cells #[(ptr bdq7 0), (i64 fr1), (i64 (size / 2)), (u64 g1), v2, (i64 ((1 + n * blocksN b.length : Nat) : Int))] 100 (0, 0))] ++ (Hr2 ++ ([(bdq7, .cells #[vlq7, (Value.slice none 0 0)] 94 (0, 0))] ++ (Hl2 ++ ([] ++ ([])))))) ++ (Hsq41 ++ ([]))) := by
                 have hT := (Mem.pick4 Hr2 [_] Hl2 Hsq41 [_] _ (Mem.pick4 [_] Hl2 Hsq41 [_] Hr2 _ (Mem.pick4 Hl2 Hsq41 [_] Hr2 [_] _ (Mem.pick4 Hsq41 [_] Hr2 [_] Hl2 _ hm40))))
                 try simp only [List.append_assoc, List.cons_append, List.nil_append, List.append_nil] at hT ⊢
                 exact hT
               refine rw_gy (s := 84) rfl rfl hd42 rfl (opR_call Try.func21 bd21 nm21 (args2 rfl rfl) (c_jrestart1 bnq13 fr1 (size / 2) g1 v2 rs2 Hr2 ((1 + n * blocksN b.length : Nat) : Int) bdq7 vlq7 L2 Hl2 (Value.slice none 0 0) ([]) ([]) (Value.slice none 0 0) ([]) _ _ (Mem.give hF44) hgr2 hgl2 (GrowK.none encW 65 104) (Rd.nil _ _) sL sL sL sL okP_nil (by rw [blocks_nil]; omega) hn1.1)) ?_
               rintro _ w43 ⟨vr2q45, rs2q45, Hr2q45, Hl2q45, rfl, hMq45, hLq45, gr2q45, gl2q45, k_w43⟩
               have hm43 : Mem w43 (restOf w0) ([(bnq13, .cells #[(ptr bdq7 0), (i64 ((size / 2) - fr1)), (i64 (size / 2)), (u64 (newB L2 ([]))), vr2q45, (i64 (blocksN ([]).length : Int))] 100 (0, 0))] ++ (Hr2q45 ++ ([(bdq7, .cells #[vlq7, (Value.slice none 0 0)] 94 (0, 0))] ++ (Hl2q45 ++ (Hsq41 ++ ([])))))) := (by
                 have hT := Mem.back hF44 k_w43
                 try simp only [List.append_assoc, List.cons_append, List.nil_append, List.append_nil] at hT ⊢
                 exact hT)
               have hG3 : okG (k + 1 + 1) (crashB (turnL L2 ([]) ((size / 2) - fr1) (newB L2 ([])) [([])]) (turnP L2 ([]) ((size / 2) - fr1) (newB L2 ([])) [([])]) [1#8]) := okG_sync (okG_turn (okG_mono hG2 oM) okV_nil hn1.2 oM).1 (okG_turn (okG_mono hG2 oM) okV_nil hn1.2 oM).2
               refine rw_gyq (s := 84) rfl rfl hd42 rfl (ev_i64_neq (b := 0) rfl rfl) <| rw_q rfl (ev_pick_fk rfl hd42 rfl) <| rw_q rfl (ev_move (v := (bl (0 != 0))) rfl) <| rw_gyq (s := 89) rfl rfl hd10 rfl (ev_move s7) <| rw_gy (s := 89) rfl rfl hd10 rfl (opR_call Try.func19 bd19 nm19 (args1 rfl) (c_jrecords bnq13 bdq7 ((size / 2) - fr1) (size / 2) (newB L2 ([])) vr2q45 rs2q45 (blocksN ([]).length : Int) _ hm43.h0 (GrowL.rd gr2q45 (Mem.pick [_] Hr2q45 _ hm43) nN) sL (map_el hMq45 (P := fun b => b.length ≤ 35184372088832) (fun c hc => by obtain rfl := List.mem_singleton.1 hc; exact Nat.zero_le _)))) ?_
               rintro rq47 w46 ⟨ls2q47, Hsq47, hMq47, hLq47, grq47, k_w46⟩
               have hm46 : Mem w46 (restOf w0) (Hsq47 ++ ([(bnq13, .cells #[(ptr bdq7 0), (i64 ((size / 2) - fr1)), (i64 (size / 2)), (u64 (newB L2 ([]))), vr2q45, (i64 (blocksN ([]).length : Int))] 100 (0, 0))] ++ (Hr2q45 ++ ([(bdq7, .cells #[vlq7, (Value.slice none 0 0)] 94 (0, 0))] ++ (Hl2q45 ++ (Hsq41 ++ ([]))))))) := Mem.new (H := [(bnq13, .cells #[(ptr bdq7 0), (i64 ((size / 2) - fr1)), (i64 (size / 2)), (u64 (newB L2 ([]))), vr2q45, (i64 (blocksN ([]).length : Int))] 100 (0, 0))] ++ (Hr2q45 ++ ([(bdq7, .cells #[vlq7, (Value.slice none 0 0)] 94 (0, 0))] ++ (Hl2q45 ++ (Hsq41 ++ ([])))))) (H' := Hsq47) hm43 k_w46
               refine rw_gyq (s := 89) rfl rfl hd10 rfl (ev_len_rd (RdL.row (GrowL.rd grq47 hm46 nN)) uT22 rfl) <| rw_gyq (s := 89) rfl rfl hd10 rfl (ev_i64_neq (b := 1) rfl rfl) <| rw_q rfl (ev_pick_fk rfl hd10 rfl) <| rN ?_
               have hm48 := Mem.drop Hsq47 _ hm46
               have hm49 := Mem.drop Hsq41 _ (Mem.pick4 [_] Hr2q45 [_] Hl2q45 Hsq41 _ hm48)
               refine CW.abs (fun g => g 0 = (i64 size) ∧ g 1 = vb ∧ g 5 = (ptr bdq7 0) ∧ g 6 = (i64 0) ∧ g 7 = (ptr bnq13 0) ∧ g 8 = (i64 0) ∧ g 9 = (i64 (blocksN b.length : Int)) ∧ g 10 = (i64 (k : Int)) ∧ g 11 = (i64 (n : Int)) ∧ g 13 = (bl false) ∧ g 24 = (bl (decide (2000 < (b.length : Int)))) ∧ g 35 = (bl false) ∧ g 46 = (bl false) ∧ g 51 = (bl (decide ((k : Int) < 2))) ∧ g 57 = (bl (6 == 0)) ∧ g 94 = (bl ((ls2q47.length : Int) != 1)) ∧ True) ⟨s0, s1, s5, s6, s7, s8, s9, s10, s11, s13, s24, s35, s46, s51, rfl, rfl, trivial⟩ ?_
               rintro fr50 ⟨s0, s1, s5, s6, s7, s8, s9, s10, s11, s13, s24, s35, s46, s51, s57, s94, _⟩
               have hd51 : ((ls2q47.length : Int) != 1) = false := told_ne oM
               refine cw_cond_f s94 hd51 ?_
               refine cw_skip (kBlk_normal (cw_region ?_))
               refine rM rfl s10 <| rw_q rfl (ev_i64_add (b := 1) rfl rfl oM oM) <| rw_q rfl (ev_assign (v := (i64 ((k : Int) + 1))) rfl) <| rN ?_
               exact ⟨⟨(k + 1), ((size / 2) - fr1), (newB L2 ([])), vr2q45, rs2q45, Hr2q45, (crashB (turnL L2 ([]) ((size / 2) - fr1) (newB L2 ([])) [([])]) (turnP L2 ([]) ((size / 2) - fr1) (newB L2 ([])) [([])]) [1#8]), Hl2q45, oM, oM, (by have := hn1.2; omega), hLq45, gr2q45, (by rw [crashB_len', turnL_len]; exact hL2l), hG3, gl2q45, (map_el hMq45 (P := fun b => b.length ≤ 35184372088832) (fun c hc => by obtain rfl := List.mem_singleton.1 hc; exact Nat.zero_le _)), s0, s1, s5, s6, s7, s8, s9, rfl, s13, s24, s35, s46, (by rw [one0]; exact hm49)⟩, meas (rfl) z10 oM oM⟩
         · -- false
           have hc25p := of_decide_eq_false hc25
           refine cw_exit ?_
           refine kThen_exit (kThen_exit (kBlk_hit ?_))
           refine sR <| rw_q rfl (ev_assign (v := (bl true)) rfl) ?_
           refine rN (cw_ret ?_)
           refine fnPost_ret [(bl true)] ⟨rfl, trivial⟩ ?_
           exact ⟨rfl, Mem.below w0 hm24⟩


end Go.Proofs.Ytfbnhoolkajebaa
