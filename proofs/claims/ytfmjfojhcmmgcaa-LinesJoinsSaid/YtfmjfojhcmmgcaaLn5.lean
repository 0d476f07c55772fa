/- The laws of lines: their walks. Conditions: none beyond those that each theorem states. -/
import Derived.Test.YtfmjfojhcmmgcaaLn4
namespace Go.Proofs.Ytfmjfojhcmmgcaa
set_option linter.unusedVariables false
set_option linter.unusedSimpArgs false
theorem sub_zero (x : List (BitVec 8)) (n : Nat) : ((x.drop (0 : Int).toNat).take (((n : Int)).toNat - (0 : Int).toNat)) = x.take n := by simp
attribute [local irreducible] wholeB linesB restB cutF befB aftB cutAv cutBv laidB stfL stuffB unB

set_option maxHeartbeats 1000000 in
theorem c_speaks8  (w0 : World)  (hT : Tabs (blks w0)) : CallsR Try.prog 36 #[] w0 (fun r w1 => r = (bl true) ∧ Ext w0 w1) := by
 refine callsR_of_cw (args := []) Try.func36 rfl Try.ntmps36 Try.results36 rfl ?_
 have hm0 : Mem w0 (restOf w0) [] := Mem.of_world w0
 refine sR <| rw_q rfl (ev_assign (v := (bl false)) rfl) ?_
 refine rN (sR ?_)
 refine rw_c rfl (or_buildSlice_cl u8 [46#8, 97#8] u8_one hm0 uT24 ti5 rfl rfl rfl) ?_
 rintro _ w1 ⟨b1, rfl, _ew1, hm1⟩
 refine rw_c rfl (or_conv_mark (m := 2) uT24 uT5 rfl hm1.h0 rfl) ?_
 rintro _ w2 ⟨rfl, uq2⟩
 have hm2 : Mem w2 (restOf w0) [(b1, .cells (cl u8 ([46#8, 97#8])) 5 (2, 3))] := hm1.upd0 uq2
 refine rw_c rfl (opR_call Try.func46 bd46 nm46 (args1 rfl) (c_stuff (slc b1 0 2 2) ([46#8, 97#8]) _ (hT.mono fun b o e => (hm2).rest b o e) (Rd.mkA hm2.h0) (capOk_slc _ _ _ _) sL)) ?_
 rintro rq4 w3 ⟨Hsq4, grq4, k_w3⟩
 have hm3 : Mem w3 (restOf w0) (Hsq4 ++ ([(b1, .cells (cl u8 ([46#8, 97#8])) 5 (2, 3))])) := Mem.new (H := [(b1, .cells (cl u8 ([46#8, 97#8])) 5 (2, 3))]) (H' := Hsq4) hm2 k_w3
 refine rw_q rfl (ev_b2s (l := stuffB ([46#8, 97#8])) (grq4.rd hm3) uT24 uT5 uT9 rfl) <| rw_q rfl (ev_str_eql (s := (strOf (stuffB ([46#8, 97#8])))) (t := ⟨#[46, 46, 97, 13, 10, 46, 13, 10]⟩) rfl rfl) <| rM rfl rfl ?_
 have hd5 : (decide ((strOf (stuffB ([46#8, 97#8]))) = ⟨#[46, 46, 97, 13, 10, 46, 13, 10]⟩)) = true := by decide +kernel
 refine rw_gy (s := 6) rfl rfl hd5 rfl (or_buildSlice_cl u8 [97#8, 10#8, 98#8, 13#8] u8_one hm3 uT24 ti5 rfl rfl rfl) ?_
 rintro _ w6 ⟨b7, rfl, _ew6, hm6⟩
 refine rw_gy (s := 6) rfl rfl hd5 rfl (or_conv_mark (m := 4) uT24 uT5 rfl hm6.h0 rfl) ?_
 rintro _ w7 ⟨rfl, uq7⟩
 have hm7 : Mem w7 (restOf w0) ([(b7, .cells (cl u8 ([97#8, 10#8, 98#8, 13#8])) 5 (4, 5))] ++ (Hsq4 ++ ([(b1, .cells (cl u8 ([46#8, 97#8])) 5 (2, 3))]))) := hm6.upd0 uq7
 refine rw_gy (s := 6) rfl rfl hd5 rfl (opR_call Try.func37 bd37 nm37 (args1 rfl) (c_whole (slc b7 0 4 4) ([97#8, 10#8, 98#8, 13#8]) _ (Rd.mkA hm7.h0) sL)) ?_
 rintro rq9 w8 ⟨Hsq9, grq9, k_w8⟩
 have hm8 : Mem w8 (restOf w0) (Hsq9 ++ ([(b7, .cells (cl u8 ([97#8, 10#8, 98#8, 13#8])) 5 (4, 5))] ++ (Hsq4 ++ ([(b1, .cells (cl u8 ([46#8, 97#8])) 5 (2, 3))])))) := Mem.new (H := [(b7, .cells (cl u8 ([97#8, 10#8, 98#8, 13#8])) 5 (4, 5))] ++ (Hsq4 ++ ([(b1, .cells (cl u8 ([46#8, 97#8])) 5 (2, 3))]))) (H' := Hsq9) hm7 k_w8
 refine rw_gyq (s := 6) rfl rfl hd5 rfl (ev_b2s (l := wholeB ([97#8, 10#8, 98#8, 13#8])) (grq9.rd hm8) uT24 uT5 uT9 rfl) <| rw_gyq (s := 6) rfl rfl hd5 rfl (ev_str_eql (s := (strOf (wholeB ([97#8, 10#8, 98#8, 13#8])))) (t := ⟨#[97, 13, 10, 98, 13, 10]⟩) rfl rfl) <| rw_q rfl (ev_pick_tk rfl hd5 rfl) <| rA rfl rfl <| rN ?_
 have hm10 := Mem.drop Hsq9 _ hm8
 have hm11 := Mem.drop ([(b7, .cells (cl u8 ([97#8, 10#8, 98#8, 13#8])) 5 (4, 5))]) _ hm10
 have hm12 := Mem.drop Hsq4 _ hm11
 have hm13 := Mem.drop ([(b1, .cells (cl u8 ([46#8, 97#8])) 5 (2, 3))]) _ hm12
 refine CW.abs (fun g => g 0 = (bl (decide ((strOf (wholeB ([97#8, 10#8, 98#8, 13#8]))) = ⟨#[97, 13, 10, 98, 13, 10]⟩))) ∧ True) ⟨rfl, trivial⟩ ?_
 rintro fr14 ⟨s0, _⟩
 refine cw_ret <| fnPost_ret [(bl (decide ((strOf (wholeB ([97#8, 10#8, 98#8, 13#8]))) = ⟨#[97, 13, 10, 98, 13, 10]⟩)))] ⟨s0, trivial⟩ ?_
 have hd15 : (decide ((strOf (wholeB ([97#8, 10#8, 98#8, 13#8]))) = ⟨#[97, 13, 10, 98, 13, 10]⟩)) = true := by decide +kernel
 exact ⟨congrArg bl hd15, hm13.toExt⟩

set_option maxHeartbeats 1000000 in
theorem law_lwhole (v : Value) (l : List (BitVec 8)) (w0 : World)  (hT : Tabs (blks w0)) (hr : Rd (blks w0) u8 v l) (hb : l.length ≤ 9223372036854775807) : CallsR Try.prog 9 #[v] w0 (fun r w1 => r = bl true ∧ RowKit.Below w0.heap.size w0 w1) := by
 refine callsR_of_cw (args := [v]) Try.func9 rfl Try.ntmps9 Try.results9 rfl ?_
 have hm0 : Mem w0 (restOf w0) [] := Mem.of_world w0
 have hwl := wholeB_length l; have hww := wholeB_length (wholeB l)
 refine sR <| rw_q rfl (ev_assign (v := (bl false)) rfl) ?_
 refine rN (cw_seq (sR ?_))
 refine rw_c rfl (opR_call Try.func36 bd36 nm36 (args0) (c_speaks8 _ (hT.mono fun b o e => (hm0).rest b o e))) ?_
 rintro _ w1 ⟨rfl, _ew1⟩
 have hm1 := hm0.ext _ew1
 refine rw_q (v := (bl false)) rfl (ev_not (b := true) rfl) <| rN <| cw_cond_f rfl (by decide) ?_
 refine cw_skip (kThen_normal (cw_seq (sR ?_)))
 refine rM rfl (v := v) rfl <| rw_q (v := (i64 (l.length : Int))) rfl (ev_len_rd (Rd.ofRest hr hm1) uT24 rfl) <| rw_q rfl (ev_i64_gtr (b := 2000) rfl rfl) <| rN ?_
 refine cw_cond rfl (fun hc3 => ?_) (fun hc3 => ?_)
 · -- true
   have hc3p := of_decide_eq_true hc3
   refine sR <| rw_q rfl (ev_assign (v := (bl true)) rfl) ?_
   refine rN (cw_ret (kThen_ret ?_))
   refine fnPost_ret [(bl true)] ⟨rfl, trivial⟩ ?_
   exact ⟨rfl, Mem.below w0 hm1⟩
 · -- false
   have hc3p := of_decide_eq_false hc3
   refine cw_skip (kThen_normal (sR ?_))
   refine rM rfl (v := v) rfl <| rw_c rfl (opR_call Try.func37 bd37 nm37 (args1 rfl) (c_whole v l _ (Rd.ofRest hr hm1) sL)) ?_
   rintro rq5 w4 ⟨Hsq5, grq5, k_w4⟩
   have hm4 : Mem w4 (restOf w0) (Hsq5 ++ ([])) := Mem.new (H := []) (H' := Hsq5) hm1 k_w4
   refine rA rfl (v := rq5) rfl ?_
   refine rN (cw_seq (sR ?_))
   refine rM rfl (v := rq5) rfl <| rw_q (v := (i64 ((wholeB l).length : Int))) rfl (ev_len_rd (grq5.rd hm4) uT24 rfl) <| rw_q rfl (ev_move (v := (i64 0)) rfl) ?_
   refine rN (cw_block ?_)
   refine cw_loop (fun g wv => ∃ (k : Nat), (k ≤ (wholeB l).length) ∧ g 0 = v ∧ g 3 = rq5 ∧ g 7 = (bl false) ∧ g 10 = (bl (decide (2000 < (l.length : Int)))) ∧ g 13 = rq5 ∧ g 14 = (i64 ((wholeB l).length : Int)) ∧ g 15 = (i64 (k : Int)) ∧ Mem wv (restOf w0) (Hsq5 ++ ([]))) (fun g wv => (((wholeB l).length : Int) - RowKit.intOf (g 15)).toNat) ?_ ?_
   · exact ⟨0, (Nat.zero_le _), rfl, rfl, rfl, rfl, rfl, rfl, rfl, hm4⟩
   · rintro fr6 w7 ⟨k, hk, s0, s3, s7, s10, s13, s14, s15, hm7⟩
     have z15 := s15
     refine sR <| rw_q rfl (ev_i64_lss s15 s14) ?_
     refine rN (cw_seq ?_)
     refine cw_cond rfl (fun hc8 => ?_) (fun hc8 => ?_)
     · -- true
       have hc8p := of_decide_eq_true hc8
       refine cw_skip (kThen_normal (cw_seq (cw_block (sR ?_))))
       refine rM rfl s15 <| rw_q rfl (ev_indexAddr_rdv (grq5.rd hm7) uT24 ti5 s13 s15 oM sL) <| rw_q (v := (u8 ((wholeB l).getD k 0))) rfl (ev_load_rdD (l := wholeB l) (i := (k : Int)) (dflt := 0) (grq5.rd hm7) uT5 rfl oM sL rfl) <| rw_q rfl (ev_assign (v := (i64 (k : Int))) rfl) <| rw_q rfl (ev_assign (v := (u8 ((wholeB l).getD k 0))) rfl) ?_
       refine rN (sR ?_)
       refine rw_q rfl (ev_move (v := (u8 ((wholeB l).getD k 0))) rfl) <| rw_q rfl (ev_u8_eql (b := 10#8) rfl rfl) <| rw_q rfl (ev_move (v := (bl (((wholeB l).getD k 0) == 10#8))) rfl) ?_
       rcases Bool.eq_false_or_eq_true (((wholeB l).getD k 0) == 10#8) with hb9 | hb9
       · -- true
         have hb9p := eq_of_beq hb9
         refine rw_gyq (s := 22) rfl rfl hb9 rfl (ev_move (v := (i64 (k : Int))) rfl) <| rw_gyq (s := 22) rfl rfl hb9 rfl (ev_i64_eql (b := 0) rfl rfl) <| rw_gyq (s := 22) rfl rfl hb9 rfl (ev_move (v := (bl ((k : Int) == 0))) rfl) ?_
         rcases Bool.eq_false_or_eq_true ((k : Int) == 0) with hb10 | hb10
         · -- true
           have hb10p := eq_of_beq hb10
           refine rw_gn (s := 25) rfl rfl hb10 rfl <| rw_gn (s := 25) rfl rfl hb10 rfl <| rw_gn (s := 25) rfl rfl hb10 rfl <| rw_gn (s := 25) rfl rfl hb10 rfl <| rw_gn (s := 25) rfl rfl hb10 rfl <| rw_gn (s := 25) rfl rfl hb10 rfl ?_
           refine rw_gyq (s := 22) rfl rfl hb9 rfl (ev_pick_tk rfl hb10 rfl) <| rw_q rfl (ev_pick_tk rfl hb9 rfl) <| rw_q rfl (ev_move (v := (bl true)) rfl) <| rw_gn (s := 34) rfl rfl rfl rfl <| rw_gn (s := 34) rfl rfl rfl rfl <| rw_gn (s := 34) rfl rfl rfl rfl ?_
           refine rw_gu (s := 37) rfl rfl rfl <| rw_gu (s := 37) rfl rfl rfl <| rw_gu (s := 37) rfl rfl rfl <| rw_gu (s := 37) rfl rfl rfl <| rw_gu (s := 37) rfl rfl rfl <| rw_gu (s := 37) rfl rfl rfl ?_
           refine rw_gu (s := 43) rfl rfl rfl <| rw_gu (s := 43) rfl rfl rfl <| rw_gu (s := 43) rfl rfl rfl <| rw_gu (s := 43) rfl rfl rfl <| rw_gu (s := 43) rfl rfl rfl <| rw_gu (s := 43) rfl rfl rfl ?_
           refine rw_gu (s := 37) rfl rfl rfl <| rw_gn (s := 34) rfl rfl rfl rfl <| rw_q rfl (ev_pick_t rfl rfl) <| rN ?_
           refine CW.abs (fun g => g 0 = v ∧ g 3 = rq5 ∧ g 4 = (i64 (k : Int)) ∧ g 5 = (u8 ((wholeB l).getD k 0)) ∧ g 7 = (bl false) ∧ g 10 = (bl (decide (2000 < (l.length : Int)))) ∧ g 13 = rq5 ∧ g 14 = (i64 ((wholeB l).length : Int)) ∧ g 15 = (i64 (k : Int)) ∧ g 16 = (bl (decide ((k : Int) < ((wholeB l).length : Int)))) ∧ g 52 = (bl true) ∧ True) ⟨s0, s3, rfl, rfl, s7, s10, s13, s14, s15, rfl, rfl, trivial⟩ ?_
           rintro fr11 ⟨s0, s3, s4, s5, s7, s10, s13, s14, s15, s16, s52, _⟩
           refine cw_cond_t s52 (by decide) <| sR <| rw_q rfl (ev_assign (v := (bl false)) rfl) ?_
           refine rN (cw_ret ?_)
           refine kBlk_ret (kThen_ret (kBlk_ret ?_))
           refine fnPost_ret [(bl false)] ⟨rfl, trivial⟩ ?_
           obtain ⟨wa, wb⟩ := whole_at l (i := k) oM
           exact absurd (wa hb9p).1 oM
         · -- false
           have hb10p := ne_of_beq_false hb10
           refine rw_gyq (s := 25) rfl rfl hb10 rfl (ev_move s3) <| rw_gyq (s := 25) rfl rfl hb10 rfl (ev_move (v := (i64 (k : Int))) rfl) <| rw_gyq (s := 25) rfl rfl hb10 rfl (ev_i64_sub (b := 1) rfl rfl oM oM) <| rw_gyq (s := 25) rfl rfl hb10 rfl (ev_indexAddr_rdv (grq5.rd hm7) uT24 ti5 rfl rfl oM sL) <| rw_gyq (s := 25) rfl rfl hb10 rfl (ev_load_rdD (l := wholeB l) (i := (k : Int) - 1) (dflt := 0) (grq5.rd hm7) uT5 rfl oM sL rfl) <| rw_gyq (s := 25) rfl rfl hb10 rfl (ev_u8_neq (b := 13#8) rfl rfl) ?_
           refine rw_gyq (s := 22) rfl rfl hb9 rfl (ev_pick_fk rfl hb10 rfl) <| rw_q rfl (ev_pick_tk rfl hb9 rfl) <| rw_q rfl (ev_move (v := (bl (((wholeB l).getD (((k : Int) - 1 : Int).toNat) 0) != 13#8))) rfl) ?_
           rcases Bool.eq_false_or_eq_true (((wholeB l).getD (((k : Int) - 1 : Int).toNat) 0) != 13#8) with hb12 | hb12
           · -- true
             have hb12p := bne_iff_ne.1 hb12
             refine rw_gn (s := 34) rfl rfl hb12 rfl <| rw_gn (s := 34) rfl rfl hb12 rfl <| rw_gn (s := 34) rfl rfl hb12 rfl <| rw_gu (s := 37) rfl rfl rfl <| rw_gu (s := 37) rfl rfl rfl <| rw_gu (s := 37) rfl rfl rfl ?_
             refine rw_gu (s := 37) rfl rfl rfl <| rw_gu (s := 37) rfl rfl rfl <| rw_gu (s := 37) rfl rfl rfl <| rw_gu (s := 43) rfl rfl rfl <| rw_gu (s := 43) rfl rfl rfl <| rw_gu (s := 43) rfl rfl rfl ?_
             refine rw_gu (s := 43) rfl rfl rfl <| rw_gu (s := 43) rfl rfl rfl <| rw_gu (s := 43) rfl rfl rfl <| rw_gu (s := 37) rfl rfl rfl <| rw_gn (s := 34) rfl rfl hb12 rfl <| rw_q rfl (ev_pick_tk rfl hb12 rfl) ?_
             refine rN ?_
             refine CW.abs (fun g => g 0 = v ∧ g 3 = rq5 ∧ g 4 = (i64 (k : Int)) ∧ g 5 = (u8 ((wholeB l).getD k 0)) ∧ g 7 = (bl false) ∧ g 10 = (bl (decide (2000 < (l.length : Int)))) ∧ g 13 = rq5 ∧ g 14 = (i64 ((wholeB l).length : Int)) ∧ g 15 = (i64 (k : Int)) ∧ g 16 = (bl (decide ((k : Int) < ((wholeB l).length : Int)))) ∧ g 52 = (bl true) ∧ True) ⟨s0, s3, rfl, rfl, s7, s10, s13, s14, s15, rfl, rfl, trivial⟩ ?_
             rintro fr13 ⟨s0, s3, s4, s5, s7, s10, s13, s14, s15, s16, s52, _⟩
             refine cw_cond_t s52 (by decide) <| sR <| rw_q rfl (ev_assign (v := (bl false)) rfl) ?_
             refine rN (cw_ret ?_)
             refine kBlk_ret (kThen_ret (kBlk_ret ?_))
             refine fnPost_ret [(bl false)] ⟨rfl, trivial⟩ ?_
             obtain ⟨wa, wb⟩ := whole_at l (i := k) oM
             exact absurd (wa hb9p).2 (by have h' := hb12p; rw [show ((k : Int) - 1 : Int).toNat = k - 1 by omega] at h'; exact h')
           · -- false
             have hb12p := eq_of_bne_false hb12
             refine rw_gyq (s := 34) rfl rfl hb12 rfl (ev_move (v := (u8 ((wholeB l).getD k 0))) rfl) <| rw_gyq (s := 34) rfl rfl hb12 rfl (ev_u8_eql (b := 13#8) rfl rfl) <| rw_gyq (s := 34) rfl rfl hb12 rfl (ev_move (v := (bl (((wholeB l).getD k 0) == 13#8))) rfl) ?_
             have hd14 : (((wholeB l).getD k 0) == 13#8) = false := by rw [hb9p]; rfl
             refine rw_gn (s := 37) rfl rfl hd14 rfl <| rw_gn (s := 37) rfl rfl hd14 rfl <| rw_gn (s := 37) rfl rfl hd14 rfl <| rw_gn (s := 37) rfl rfl hd14 rfl <| rw_gn (s := 37) rfl rfl hd14 rfl <| rw_gn (s := 37) rfl rfl hd14 rfl ?_
             refine rw_gu (s := 43) rfl rfl rfl <| rw_gu (s := 43) rfl rfl rfl <| rw_gu (s := 43) rfl rfl rfl <| rw_gu (s := 43) rfl rfl rfl <| rw_gu (s := 43) rfl rfl rfl <| rw_gu (s := 43) rfl rfl rfl ?_
             refine rw_gn (s := 37) rfl rfl hd14 rfl <| rw_gyq (s := 34) rfl rfl hb12 rfl (ev_pick_fk rfl hd14 rfl) <| rw_q rfl (ev_pick_fk rfl hb12 rfl) <| rN ?_
             refine CW.abs (fun g => g 0 = v ∧ g 3 = rq5 ∧ g 4 = (i64 (k : Int)) ∧ g 5 = (u8 ((wholeB l).getD k 0)) ∧ g 7 = (bl false) ∧ g 10 = (bl (decide (2000 < (l.length : Int)))) ∧ g 13 = rq5 ∧ g 14 = (i64 ((wholeB l).length : Int)) ∧ g 15 = (i64 (k : Int)) ∧ g 16 = (bl (decide ((k : Int) < ((wholeB l).length : Int)))) ∧ g 52 = (bl false) ∧ True) ⟨s0, s3, rfl, rfl, s7, s10, s13, s14, s15, rfl, rfl, trivial⟩ ?_
             rintro fr15 ⟨s0, s3, s4, s5, s7, s10, s13, s14, s15, s16, s52, _⟩
             refine cw_cond_f s52 (by decide) ?_
             refine cw_skip (kBlk_normal (cw_region ?_))
             refine rw_q rfl (ev_i64_add (b := 1) s15 rfl oM oM) <| rw_q rfl (ev_move (v := (i64 ((k : Int) + 1))) rfl) <| rN ?_
             exact ⟨⟨(k + 1), oM, s0, s3, s7, s10, s13, s14, rfl, hm7⟩, meas rfl z15 oM oM⟩
       · -- false
         have hb9p := ne_of_beq_false hb9
         refine rw_gn (s := 22) rfl rfl hb9 rfl <| rw_gn (s := 22) rfl rfl hb9 rfl <| rw_gn (s := 22) rfl rfl hb9 rfl <| rw_gu (s := 25) rfl rfl rfl <| rw_gu (s := 25) rfl rfl rfl <| rw_gu (s := 25) rfl rfl rfl ?_
         refine rw_gu (s := 25) rfl rfl rfl <| rw_gu (s := 25) rfl rfl rfl <| rw_gu (s := 25) rfl rfl rfl <| rw_gn (s := 22) rfl rfl hb9 rfl <| rw_q rfl (ev_pick_fk rfl hb9 rfl) <| rw_q rfl (ev_move (v := (bl false)) rfl) ?_
         refine rw_gyq (s := 34) rfl rfl rfl rfl (ev_move (v := (u8 ((wholeB l).getD k 0))) rfl) <| rw_gyq (s := 34) rfl rfl rfl rfl (ev_u8_eql (b := 13#8) rfl rfl) <| rw_gyq (s := 34) rfl rfl rfl rfl (ev_move (v := (bl (((wholeB l).getD k 0) == 13#8))) rfl) ?_
         rcases Bool.eq_false_or_eq_true (((wholeB l).getD k 0) == 13#8) with hb16 | hb16
         · -- true
           have hb16p := eq_of_beq hb16
           refine rw_gyq (s := 37) rfl rfl hb16 rfl (ev_move (v := (i64 (k : Int))) rfl) <| rw_gyq (s := 37) rfl rfl hb16 rfl (ev_i64_add (b := 1) rfl rfl oM oM) <| rw_gyq (s := 37) rfl rfl hb16 rfl (ev_move s3) <| rw_gyq (s := 37) rfl rfl hb16 rfl (ev_len_rd (grq5.rd hm7) uT24 rfl) <| rw_gyq (s := 37) rfl rfl hb16 rfl (ev_i64_eql rfl rfl) <| rw_gyq (s := 37) rfl rfl hb16 rfl (ev_move (v := (bl (((k : Int) + 1) == ((wholeB l).length : Int)))) rfl) ?_
           rcases Bool.eq_false_or_eq_true (((k : Int) + 1) == ((wholeB l).length : Int)) with hb17 | hb17
           · -- true
             have hb17p := eq_of_beq hb17
             refine rw_gn (s := 43) rfl rfl hb17 rfl <| rw_gn (s := 43) rfl rfl hb17 rfl <| rw_gn (s := 43) rfl rfl hb17 rfl <| rw_gn (s := 43) rfl rfl hb17 rfl <| rw_gn (s := 43) rfl rfl hb17 rfl <| rw_gn (s := 43) rfl rfl hb17 rfl ?_
             refine rw_gyq (s := 37) rfl rfl hb16 rfl (ev_pick_tk rfl hb17 rfl) <| rw_gyq (s := 34) rfl rfl rfl rfl (ev_pick_tk rfl hb16 rfl) <| rw_q rfl (ev_pick_f rfl rfl) <| rN ?_
             refine CW.abs (fun g => g 0 = v ∧ g 3 = rq5 ∧ g 4 = (i64 (k : Int)) ∧ g 5 = (u8 ((wholeB l).getD k 0)) ∧ g 7 = (bl false) ∧ g 10 = (bl (decide (2000 < (l.length : Int)))) ∧ g 13 = rq5 ∧ g 14 = (i64 ((wholeB l).length : Int)) ∧ g 15 = (i64 (k : Int)) ∧ g 16 = (bl (decide ((k : Int) < ((wholeB l).length : Int)))) ∧ g 52 = (bl true) ∧ True) ⟨s0, s3, rfl, rfl, s7, s10, s13, s14, s15, rfl, rfl, trivial⟩ ?_
             rintro fr18 ⟨s0, s3, s4, s5, s7, s10, s13, s14, s15, s16, s52, _⟩
             refine cw_cond_t s52 (by decide) <| sR <| rw_q rfl (ev_assign (v := (bl false)) rfl) ?_
             refine rN (cw_ret ?_)
             refine kBlk_ret (kThen_ret (kBlk_ret ?_))
             refine fnPost_ret [(bl false)] ⟨rfl, trivial⟩ ?_
             obtain ⟨wa, wb⟩ := whole_at l (i := k) oM
             exact absurd (wb hb16p).1 oM
           · -- false
             have hb17p := ne_of_beq_false hb17
             refine rw_gyq (s := 43) rfl rfl hb17 rfl (ev_move s3) <| rw_gyq (s := 43) rfl rfl hb17 rfl (ev_move (v := (i64 (k : Int))) rfl) <| rw_gyq (s := 43) rfl rfl hb17 rfl (ev_i64_add (b := 1) rfl rfl oM oM) <| rw_gyq (s := 43) rfl rfl hb17 rfl (ev_indexAddr_rdv (grq5.rd hm7) uT24 ti5 rfl rfl oM sL) <| rw_gyq (s := 43) rfl rfl hb17 rfl (ev_load_rdD (l := wholeB l) (i := (k : Int) + 1) (dflt := 0) (grq5.rd hm7) uT5 rfl oM sL rfl) <| rw_gyq (s := 43) rfl rfl hb17 rfl (ev_u8_neq (b := 10#8) rfl rfl) ?_
             refine rw_gyq (s := 37) rfl rfl hb16 rfl (ev_pick_fk rfl hb17 rfl) <| rw_gyq (s := 34) rfl rfl rfl rfl (ev_pick_tk rfl hb16 rfl) <| rw_q rfl (ev_pick_f rfl rfl) <| rN ?_
             refine CW.abs (fun g => g 0 = v ∧ g 3 = rq5 ∧ g 4 = (i64 (k : Int)) ∧ g 5 = (u8 ((wholeB l).getD k 0)) ∧ g 7 = (bl false) ∧ g 10 = (bl (decide (2000 < (l.length : Int)))) ∧ g 13 = rq5 ∧ g 14 = (i64 ((wholeB l).length : Int)) ∧ g 15 = (i64 (k : Int)) ∧ g 16 = (bl (decide ((k : Int) < ((wholeB l).length : Int)))) ∧ g 52 = (bl (((wholeB l).getD (((k : Int) + 1 : Int).toNat) 0) != 10#8)) ∧ True) ⟨s0, s3, rfl, rfl, s7, s10, s13, s14, s15, rfl, rfl, trivial⟩ ?_
             rintro fr19 ⟨s0, s3, s4, s5, s7, s10, s13, s14, s15, s16, s52, _⟩
             refine cw_cond s52 (fun hc20 => ?_) (fun hc20 => ?_)
             · -- true
               have hc20p := bne_iff_ne.1 hc20
               refine sR <| rw_q rfl (ev_assign (v := (bl false)) rfl) ?_
               refine rN (cw_ret ?_)
               refine kBlk_ret (kThen_ret (kBlk_ret ?_))
               refine fnPost_ret [(bl false)] ⟨rfl, trivial⟩ ?_
               obtain ⟨wa, wb⟩ := whole_at l (i := k) oM
               exact absurd (wb hb16p).2 (by have h' := hc20p; rw [toNat_succ] at h'; exact h')
             · -- false
               have hc20p := eq_of_bne_false hc20
               refine cw_skip (kBlk_normal (cw_region ?_))
               refine rw_q rfl (ev_i64_add (b := 1) s15 rfl oM oM) <| rw_q rfl (ev_move (v := (i64 ((k : Int) + 1))) rfl) <| rN ?_
               exact ⟨⟨(k + 1), oM, s0, s3, s7, s10, s13, s14, rfl, hm7⟩, meas rfl z15 oM oM⟩
         · -- false
           have hb16p := ne_of_beq_false hb16
           refine rw_gn (s := 37) rfl rfl hb16 rfl <| rw_gn (s := 37) rfl rfl hb16 rfl <| rw_gn (s := 37) rfl rfl hb16 rfl <| rw_gn (s := 37) rfl rfl hb16 rfl <| rw_gn (s := 37) rfl rfl hb16 rfl <| rw_gn (s := 37) rfl rfl hb16 rfl ?_
           refine rw_gu (s := 43) rfl rfl rfl <| rw_gu (s := 43) rfl rfl rfl <| rw_gu (s := 43) rfl rfl rfl <| rw_gu (s := 43) rfl rfl rfl <| rw_gu (s := 43) rfl rfl rfl <| rw_gu (s := 43) rfl rfl rfl ?_
           refine rw_gn (s := 37) rfl rfl hb16 rfl <| rw_gyq (s := 34) rfl rfl rfl rfl (ev_pick_fk rfl hb16 rfl) <| rw_q rfl (ev_pick_f rfl rfl) <| rN ?_
           refine CW.abs (fun g => g 0 = v ∧ g 3 = rq5 ∧ g 4 = (i64 (k : Int)) ∧ g 5 = (u8 ((wholeB l).getD k 0)) ∧ g 7 = (bl false) ∧ g 10 = (bl (decide (2000 < (l.length : Int)))) ∧ g 13 = rq5 ∧ g 14 = (i64 ((wholeB l).length : Int)) ∧ g 15 = (i64 (k : Int)) ∧ g 16 = (bl (decide ((k : Int) < ((wholeB l).length : Int)))) ∧ g 52 = (bl false) ∧ True) ⟨s0, s3, rfl, rfl, s7, s10, s13, s14, s15, rfl, rfl, trivial⟩ ?_
           rintro fr21 ⟨s0, s3, s4, s5, s7, s10, s13, s14, s15, s16, s52, _⟩
           refine cw_cond_f s52 (by decide) ?_
           refine cw_skip (kBlk_normal (cw_region ?_))
           refine rw_q rfl (ev_i64_add (b := 1) s15 rfl oM oM) <| rw_q rfl (ev_move (v := (i64 ((k : Int) + 1))) rfl) <| rN ?_
           exact ⟨⟨(k + 1), oM, s0, s3, s7, s10, s13, s14, rfl, hm7⟩, meas rfl z15 oM oM⟩
     · -- false
       have hc8p := of_decide_eq_false hc8
       refine cw_exit ?_
       refine kThen_exit (kThen_exit (kBlk_hit ?_))
       refine sR <| rM rfl s3 <| rw_c rfl (opR_call Try.func37 bd37 nm37 (args1 rfl) (c_whole rq5 (wholeB l) _ (grq5.rd hm7) sL)) ?_
       rintro rq23 w22 ⟨Hsq23, grq23, k_w22⟩
       have hm22 : Mem w22 (restOf w0) (Hsq23 ++ (Hsq5 ++ ([]))) := Mem.new (H := Hsq5 ++ ([])) (H' := Hsq23) hm7 k_w22
       refine rM rfl s3 <| rw_c rfl (opR_call Try.func38 bd38 nm38 (args2 rfl rfl) (c_same rq23 rq5 (wholeB (wholeB l)) (wholeB l) _ (grq23.rd hm22) (grq5.rd (Mem.pick Hsq23 Hsq5 _ hm22)) sL)) ?_
       rintro _ w24 ⟨rfl, _ew24⟩
       have hm24 := hm22.ext _ew24
       refine rw_q rfl (ev_move (v := (bl ((wholeB (wholeB l)) == (wholeB l)))) rfl) ?_
       have hd26 : ((wholeB (wholeB l)) == (wholeB l)) = true := told_true (whole_whole l)
       refine rw_gyq (s := 58) rfl rfl hd26 rfl (ev_move s3) <| rw_gyq (s := 58) rfl rfl hd26 rfl (ev_len_rd (grq5.rd (Mem.pick Hsq23 Hsq5 _ hm24)) uT24 rfl) <| rw_gyq (s := 58) rfl rfl hd26 rfl (ev_move s0) <| rw_gyq (s := 58) rfl rfl hd26 rfl (ev_len_rd (Rd.ofRest hr hm24) uT24 rfl) <| rw_gyq (s := 58) rfl rfl hd26 rfl (ev_i64_geq rfl rfl) <| rw_q rfl (ev_pick_tk rfl hd26 rfl) ?_
       refine rw_q rfl (ev_assign (v := (bl (decide ((l.length : Int) ≤ ((wholeB l).length : Int))))) rfl) <| rN ?_
       have hm27 := Mem.drop Hsq23 _ hm24
       refine CW.abs (fun g => g 0 = v ∧ g 2 = (bl (decide ((l.length : Int) ≤ ((wholeB l).length : Int)))) ∧ g 3 = rq5 ∧ g 7 = (bl false) ∧ g 10 = (bl (decide (2000 < (l.length : Int)))) ∧ g 13 = rq5 ∧ g 14 = (i64 ((wholeB l).length : Int)) ∧ g 15 = (i64 (k : Int)) ∧ g 16 = (bl (decide ((k : Int) < ((wholeB l).length : Int)))) ∧ True) ⟨s0, rfl, s3, s7, s10, s13, s14, s15, rfl, trivial⟩ ?_
       rintro fr28 ⟨s0, s2, s3, s7, s10, s13, s14, s15, s16, _⟩
       refine cw_ret <| fnPost_ret [(bl (decide ((l.length : Int) ≤ ((wholeB l).length : Int))))] ⟨s2, trivial⟩ ?_
       exact ⟨congrArg bl (decide_eq_true oM), Mem.below w0 hm27⟩

set_option maxHeartbeats 1000000 in
theorem law_lstuff (v : Value) (l : List (BitVec 8)) (w0 : World)  (hT : Tabs (blks w0)) (hr : Rd (blks w0) u8 v l) (hb : l.length ≤ 9223372036854775807) (hcap : capOk v) : CallsR Try.prog 12 #[v] w0 (fun r w1 => r = bl true ∧ RowKit.Below w0.heap.size w0 w1) := by
 refine callsR_of_cw (args := [v]) Try.func12 rfl Try.ntmps12 Try.results12 rfl ?_
 have hm0 : Mem w0 (restOf w0) [] := Mem.of_world w0
 have hul := unB_len l; have hsl := (stuffB_len l).1
 refine sR <| rw_q rfl (ev_assign (v := (bl false)) rfl) ?_
 refine rN (cw_seq (sR ?_))
 refine rw_c rfl (opR_call Try.func36 bd36 nm36 (args0) (c_speaks8 _ (hT.mono fun b o e => (hm0).rest b o e))) ?_
 rintro _ w1 ⟨rfl, _ew1⟩
 have hm1 := hm0.ext _ew1
 refine rw_q (v := (bl false)) rfl (ev_not (b := true) rfl) <| rN <| cw_cond_f rfl (by decide) ?_
 refine cw_skip (kThen_normal (cw_seq (sR ?_)))
 refine rM rfl (v := v) rfl <| rw_q (v := (i64 (l.length : Int))) rfl (ev_len_rd (Rd.ofRest hr hm1) uT24 rfl) <| rw_q rfl (ev_i64_gtr (b := 2000) rfl rfl) <| rN ?_
 refine cw_cond rfl (fun hc3 => ?_) (fun hc3 => ?_)
 · -- true
   have hc3p := of_decide_eq_true hc3
   refine sR <| rw_q rfl (ev_assign (v := (bl true)) rfl) ?_
   refine rN (cw_ret (kThen_ret ?_))
   refine fnPost_ret [(bl true)] ⟨rfl, trivial⟩ ?_
   exact ⟨rfl, Mem.below w0 hm1⟩
 · -- false
   have hc3p := of_decide_eq_false hc3
   refine cw_skip (kThen_normal (sR ?_))
   refine rw_c rfl (or_buildSlice_cl u8 [] u8_one hm1 uT24 ti5 rfl (by simp [pairs]) rfl) ?_
   rintro _ w4 ⟨b15, rfl, _ew4, hm4⟩
   refine rM rfl (v := v) rfl <| rw_c rfl (or_append (f := u8) (Hs := [(b15, .cells (cl u8 ([])) 5 (0, 0))]) (H := []) hm4 (Grow.of u8 5 b15 ([])) rfl rfl (Rd.ofRest hr hm4) uT24 uT24 ti5 rfl u8_one sL sL) ?_
   rintro sv5 w5 ⟨Hs5, hm5, g5⟩
   replace g5 : Grow u8 5 sv5 l Hs5 := g5
   refine rw_c rfl (opR_call Try.func44 bd44 nm44 (args1 rfl) (c_unstuff sv5 l _ (hT.mono fun b o e => (hm5).rest b o e) (g5.rd hm5) (Grow.capOk g5) sL)) ?_
   rintro _ w6 ⟨r1q7, r2q7, H1q7, H2q7, rfl, gr1q7, gr2q7, k_w6⟩
   have hm6 : Mem w6 (restOf w0) (H1q7 ++ (H2q7 ++ (Hs5 ++ ([])))) := (by
     have hT := Mem.new (H := Hs5 ++ ([])) (H' := _) hm5 k_w6
     simp only [List.append_assoc, List.cons_append, List.nil_append, List.append_nil] at hT ⊢
     exact hT)
   refine rw_q rfl (ev_move (v := (Value.tuple #[r1q7, r2q7, (i64 ((unB l).2.2))])) rfl) <| rw_q (v := r1q7) rfl (ev_extract rfl rfl) <| rw_q (v := r2q7) rfl (ev_extract rfl rfl) <| rw_q (v := (i64 ((unB l).2.2))) rfl (ev_extract rfl rfl) <| rA rfl (v := r1q7) rfl <| rA rfl (v := r2q7) rfl ?_
   refine rw_q rfl (ev_assign (v := (i64 ((unB l).2.2))) rfl) <| rN ?_
   have hm8 := Mem.drop Hs5 _ (Mem.pick2 H1q7 H2q7 Hs5 _ hm6)
   refine CW.abs (fun g => g 0 = v ∧ g 2 = (bl false) ∧ g 3 = r1q7 ∧ g 4 = r2q7 ∧ g 5 = (i64 ((unB l).2.2)) ∧ g 10 = (bl false) ∧ g 13 = (bl (decide (2000 < (l.length : Int)))) ∧ True) ⟨rfl, rfl, rfl, rfl, rfl, rfl, rfl, trivial⟩ ?_
   rintro fr9 ⟨s0, s2, s3, s4, s5, s10, s13, _⟩
   refine sR <| rM rfl s0 <| rw_c rfl (opR_call Try.func45 bd45 nm45 (args1 rfl) (c_runstuff v l _ (Rd.ofRest hr hm8) sL)) ?_
   rintro _ w10 ⟨r1q11, r2q11, H1q11, H2q11, rfl, gr1q11, gr2q11, k_w10⟩
   have hm10 : Mem w10 (restOf w0) (H1q11 ++ (H2q11 ++ (H1q7 ++ (H2q7 ++ ([]))))) := (by
     have hT := Mem.new (H := H1q7 ++ (H2q7 ++ ([]))) (H' := _) hm8 k_w10
     simp only [List.append_assoc, List.cons_append, List.nil_append, List.append_nil] at hT ⊢
     exact hT)
   refine rw_q rfl (ev_move (v := (Value.tuple #[r1q11, r2q11, (i64 ((unB l).2.2))])) rfl) <| rw_q (v := r1q11) rfl (ev_extract rfl rfl) <| rw_q (v := r2q11) rfl (ev_extract rfl rfl) <| rw_q (v := (i64 ((unB l).2.2))) rfl (ev_extract rfl rfl) <| rA rfl (v := r1q11) rfl <| rA rfl (v := r2q11) rfl ?_
   refine rw_q rfl (ev_assign (v := (i64 ((unB l).2.2))) rfl) ?_
   refine rN (sR ?_)
   refine rM rfl s0 <| rw_c rfl (opR_call Try.func46 bd46 nm46 (args1 rfl) (c_stuff v l _ (hT.mono fun b o e => (hm10).rest b o e) (Rd.ofRest hr hm10) hcap sL)) ?_
   rintro rq13 w12 ⟨Hsq13, grq13, k_w12⟩
   have hm12 : Mem w12 (restOf w0) (Hsq13 ++ (H1q11 ++ (H2q11 ++ (H1q7 ++ (H2q7 ++ ([])))))) := Mem.new (H := H1q11 ++ (H2q11 ++ (H1q7 ++ (H2q7 ++ ([]))))) (H' := Hsq13) hm10 k_w12
   refine rM rfl s0 <| rw_c rfl (opR_call Try.func47 bd47 nm47 (args1 rfl) (c_rstuff v l _ (Rd.ofRest hr hm12) sL)) ?_
   rintro rq15 w14 ⟨Hsq15, grq15, k_w14⟩
   have hm14 : Mem w14 (restOf w0) (Hsq15 ++ (Hsq13 ++ (H1q11 ++ (H2q11 ++ (H1q7 ++ (H2q7 ++ ([]))))))) := Mem.new (H := Hsq13 ++ (H1q11 ++ (H2q11 ++ (H1q7 ++ (H2q7 ++ ([])))))) (H' := Hsq15) hm12 k_w14
   refine rw_c rfl (opR_call Try.func38 bd38 nm38 (args2 rfl rfl) (c_same rq13 rq15 (stuffB l) (stuffB l) _ (grq13.rd (Mem.pick Hsq15 Hsq13 _ hm14)) (grq15.rd hm14) sL)) ?_
   rintro _ w16 ⟨rfl, _ew16⟩
   have hm16 := hm14.ext _ew16
   refine rw_q rfl (ev_move (v := (bl ((stuffB l) == (stuffB l)))) rfl) ?_
   have hd18 : ((stuffB l) == (stuffB l)) = true := told_true rfl
   refine rw_gyq (s := 33) rfl rfl hd18 rfl (ev_move s5) <| rw_gyq (s := 33) rfl rfl hd18 rfl (ev_move (v := (i64 ((unB l).2.2))) rfl) <| rw_gyq (s := 33) rfl rfl hd18 rfl (ev_i64_eql rfl rfl) <| rw_q rfl (ev_pick_tk rfl hd18 rfl) <| rw_q rfl (ev_move (v := (bl (((unB l).2.2) == ((unB l).2.2)))) rfl) ?_
   have hd19 : (((unB l).2.2) == ((unB l).2.2)) = true := told_true rfl
   refine rw_gyq (s := 38) rfl rfl hd19 rfl (ev_move s3) <| rw_gyq (s := 38) rfl rfl hd19 rfl (ev_move (v := r1q11) rfl) <| rw_gy (s := 38) rfl rfl hd19 rfl (opR_call Try.func38 bd38 nm38 (args2 rfl rfl) (c_same r1q7 r1q11 ((unB l).1) ((unB l).1) _ (gr1q7.rd (Mem.pick4 Hsq15 Hsq13 H1q11 H2q11 H1q7 _ hm16)) (gr1q11.rd (Mem.pick2 Hsq15 Hsq13 H1q11 _ hm16)) sL)) ?_
   rintro _ w20 ⟨rfl, _ew20⟩
   have hm20 := hm16.ext _ew20
   refine rw_q rfl (ev_pick_tk rfl hd19 rfl) <| rw_q rfl (ev_move (v := (bl (((unB l).1) == ((unB l).1)))) rfl) ?_
   have hd22 : (((unB l).1) == ((unB l).1)) = true := told_true rfl
   refine rw_gyq (s := 43) rfl rfl hd22 rfl (ev_move s4) <| rw_gyq (s := 43) rfl rfl hd22 rfl (ev_move (v := r2q11) rfl) <| rw_gy (s := 43) rfl rfl hd22 rfl (opR_call Try.func38 bd38 nm38 (args2 rfl rfl) (c_same r2q7 r2q11 ((unB l).2.1) ((unB l).2.1) _ (gr2q7.rd (Mem.pick5 Hsq15 Hsq13 H1q11 H2q11 H1q7 H2q7 _ hm20)) (gr2q11.rd (Mem.pick3 Hsq15 Hsq13 H1q11 H2q11 _ hm20)) sL)) ?_
   rintro _ w23 ⟨rfl, _ew23⟩
   have hm23 := hm20.ext _ew23
   refine rw_q rfl (ev_pick_tk rfl hd22 rfl) <| rw_q rfl (ev_assign (v := (bl (((unB l).2.1) == ((unB l).2.1)))) rfl) <| rN ?_
   have hm25 := Mem.drop Hsq15 _ hm23
   have hm26 := Mem.drop Hsq13 _ hm25
   refine CW.abs (fun g => g 0 = v ∧ g 2 = (bl (((unB l).2.1) == ((unB l).2.1))) ∧ g 3 = r1q7 ∧ g 4 = r2q7 ∧ g 5 = (i64 ((unB l).2.2)) ∧ g 6 = r1q11 ∧ g 7 = r2q11 ∧ g 8 = (i64 ((unB l).2.2)) ∧ g 10 = (bl false) ∧ g 13 = (bl (decide (2000 < (l.length : Int)))) ∧ True) ⟨s0, rfl, s3, s4, s5, rfl, rfl, rfl, s10, s13, trivial⟩ ?_
   rintro fr27 ⟨s0, s2, s3, s4, s5, s6, s7, s8, s10, s13, _⟩
   refine cw_ret <| fnPost_ret [(bl (((unB l).2.1) == ((unB l).2.1)))] ⟨s2, trivial⟩ ?_
   have hd28 : (((unB l).2.1) == ((unB l).2.1)) = true := told_true rfl
   exact ⟨congrArg bl hd28, Mem.below w0 hm26⟩

set_option maxHeartbeats 1000000 in
theorem law_lback (v : Value) (l : List (BitVec 8)) (v2 : Value) (l2 : List (BitVec 8)) (n : Int) (w0 : World)  (hT : Tabs (blks w0)) (hr : Rd (blks w0) u8 v l) (hb : l.length ≤ 9223372036854775807) (hcap : capOk v) (hr2 : Rd (blks w0) u8 v2 l2) (hb2 : l2.length ≤ 9223372036854775807) (hn : -9223372036854775808 ≤ n ∧ n ≤ 9223372036854775807) : CallsR Try.prog 13 #[v, v2, (i64 n)] w0 (fun r w1 => r = bl true ∧ RowKit.Below w0.heap.size w0 w1) := by
 refine callsR_of_cw (args := [v, v2, (i64 n)]) Try.func13 rfl Try.ntmps13 Try.results13 rfl ?_
 have hm0 : Mem w0 (restOf w0) [] := Mem.of_world w0
 have hsl := stuffB_len l; have hul := unB_len (stuffB l ++ l2); rw [List.length_append] at hul; have hwl := wholeB_length l; have hll := laid_length (wholeB l)
 refine sR <| rw_q rfl (ev_assign (v := (bl false)) rfl) ?_
 refine rN (cw_seq (sR ?_))
 refine rw_c rfl (opR_call Try.func36 bd36 nm36 (args0) (c_speaks8 _ (hT.mono fun b o e => (hm0).rest b o e))) ?_
 rintro _ w1 ⟨rfl, _ew1⟩
 have hm1 := hm0.ext _ew1
 refine rw_q (v := (bl false)) rfl (ev_not (b := true) rfl) <| rN <| cw_cond_f rfl (by decide) ?_
 refine cw_skip (kThen_normal (cw_seq (sR ?_)))
 refine rM rfl (v := v) rfl <| rw_q (v := (i64 (l.length : Int))) rfl (ev_len_rd (Rd.ofRest hr hm1) uT24 rfl) <| rw_q rfl (ev_i64_gtr (b := 1000) rfl rfl) <| rw_q rfl (ev_move (v := (bl (decide (1000 < (l.length : Int))))) rfl) ?_
 rcases Bool.eq_false_or_eq_true (decide (1000 < (l.length : Int))) with hb3 | hb3
 · -- true
   have hb3p := of_decide_eq_true hb3
   refine rw_gn (s := 16) rfl rfl hb3 rfl <| rw_gn (s := 16) rfl rfl hb3 rfl <| rw_gn (s := 16) rfl rfl hb3 rfl <| rw_q rfl (ev_pick_tk rfl hb3 rfl) <| rN <| cw_cond_t rfl (by decide) ?_
   refine sR <| rw_q rfl (ev_assign (v := (bl true)) rfl) ?_
   refine rN (cw_ret (kThen_ret ?_))
   refine fnPost_ret [(bl true)] ⟨rfl, trivial⟩ ?_
   exact ⟨rfl, Mem.below w0 hm1⟩
 · -- false
   have hb3p := of_decide_eq_false hb3
   refine rw_gyq (s := 16) rfl rfl hb3 rfl (ev_move (v := v2) rfl) <| rw_gyq (s := 16) rfl rfl hb3 rfl (ev_len_rd (Rd.ofRest hr2 hm1) uT24 rfl) <| rw_gyq (s := 16) rfl rfl hb3 rfl (ev_i64_gtr (b := 500) rfl rfl) <| rw_q rfl (ev_pick_fk rfl hb3 rfl) <| rN ?_
   refine cw_cond rfl (fun hc4 => ?_) (fun hc4 => ?_)
   · -- true
     have hc4p := of_decide_eq_true hc4
     refine sR <| rw_q rfl (ev_assign (v := (bl true)) rfl) ?_
     refine rN (cw_ret (kThen_ret ?_))
     refine fnPost_ret [(bl true)] ⟨rfl, trivial⟩ ?_
     exact ⟨rfl, Mem.below w0 hm1⟩
   · -- false
     have hc4p := of_decide_eq_false hc4
     refine cw_skip (kThen_normal (sR ?_))
     refine rM rfl (v := v) rfl <| rw_c rfl (opR_call Try.func46 bd46 nm46 (args1 rfl) (c_stuff v l _ (hT.mono fun b o e => (hm1).rest b o e) (Rd.ofRest hr hm1) hcap sL)) ?_
     rintro rq6 w5 ⟨Hsq6, grq6, k_w5⟩
     have hm5 : Mem w5 (restOf w0) (Hsq6 ++ ([])) := Mem.new (H := []) (H' := Hsq6) hm1 k_w5
     refine rA rfl (v := rq6) rfl <| rN ?_
     refine CW.abs (fun g => g 0 = v ∧ g 1 = v2 ∧ g 2 = (i64 n) ∧ g 6 = (bl false) ∧ g 7 = rq6 ∧ g 12 = (bl false) ∧ g 20 = (bl (decide (500 < (l2.length : Int)))) ∧ True) ⟨rfl, rfl, rfl, rfl, rfl, rfl, rfl, trivial⟩ ?_
     rintro fr7 ⟨s0, s1, s2, s6, s7, s12, s20, _⟩
     refine sR <| rw_c rfl (or_buildSlice_cl u8 [] u8_one hm5 uT24 ti5 rfl (by simp [pairs]) rfl) ?_
     rintro _ w8 ⟨b24, rfl, _ew8, hm8⟩
     refine rM rfl s7 <| rw_c rfl (or_append (f := u8) (Hs := [(b24, .cells (cl u8 ([])) 5 (0, 0))]) (H := Hsq6 ++ ([])) hm8 (Grow.of u8 5 b24 ([])) rfl rfl (grq6.rd (Mem.pick [_] Hsq6 _ hm8)) uT24 uT24 ti5 rfl u8_one sL sL) ?_
     rintro sv9 w9 ⟨Hs9, hm9, g9⟩
     replace g9 : Grow u8 5 sv9 (stuffB l) Hs9 := g9
     refine rM rfl s1 <| rw_c rfl (or_append (f := u8) (Hs := Hs9) (H := Hsq6 ++ ([])) hm9 g9 rfl rfl (Rd.ofRest hr2 hm9) uT24 uT24 ti5 rfl u8_one sL sL) ?_
     rintro sv10 w10 ⟨Hs10, hm10, g10⟩
     replace g10 : Grow u8 5 sv10 ((stuffB l) ++ l2) Hs10 := g10
     refine rw_c rfl (opR_call Try.func44 bd44 nm44 (args1 rfl) (c_unstuff sv10 ((stuffB l) ++ l2) _ (hT.mono fun b o e => (hm10).rest b o e) (g10.rd hm10) (Grow.capOk g10) sL)) ?_
     rintro _ w11 ⟨r1q12, r2q12, H1q12, H2q12, rfl, gr1q12, gr2q12, k_w11⟩
     have hm11 : Mem w11 (restOf w0) (H1q12 ++ (H2q12 ++ (Hs10 ++ (Hsq6 ++ ([]))))) := (by
       have hT := Mem.new (H := Hs10 ++ (Hsq6 ++ ([]))) (H' := _) hm10 k_w11
       simp only [List.append_assoc, List.cons_append, List.nil_append, List.append_nil] at hT ⊢
       exact hT)
     refine rw_q rfl (ev_move (v := (Value.tuple #[r1q12, r2q12, (i64 ((unB ((stuffB l) ++ l2)).2.2))])) rfl) <| rw_q (v := r1q12) rfl (ev_extract rfl rfl) <| rw_q (v := r2q12) rfl (ev_extract rfl rfl) <| rw_q (v := (i64 ((unB ((stuffB l) ++ l2)).2.2))) rfl (ev_extract rfl rfl) <| rA rfl (v := r1q12) rfl <| rA rfl (v := r2q12) rfl ?_
     refine rw_q rfl (ev_assign (v := (i64 ((unB ((stuffB l) ++ l2)).2.2))) rfl) <| rN ?_
     have hm13 := Mem.drop Hs10 _ (Mem.pick2 H1q12 H2q12 Hs10 _ hm11)
     refine CW.abs (fun g => g 0 = v ∧ g 1 = v2 ∧ g 2 = (i64 n) ∧ g 6 = (bl false) ∧ g 7 = rq6 ∧ g 8 = r1q12 ∧ g 9 = r2q12 ∧ g 10 = (i64 ((unB ((stuffB l) ++ l2)).2.2)) ∧ g 12 = (bl false) ∧ g 20 = (bl (decide (500 < (l2.length : Int)))) ∧ True) ⟨s0, s1, s2, s6, s7, rfl, rfl, rfl, s12, s20, trivial⟩ ?_
     rintro fr14 ⟨s0, s1, s2, s6, s7, s8, s9, s10, s12, s20, _⟩
     refine cw_seq (sR ?_)
     refine rM rfl s10 <| rw_q rfl (ev_i64_neq (b := 0) rfl rfl) <| rw_q rfl (ev_move (v := (bl (((unB ((stuffB l) ++ l2)).2.2) != 0))) rfl) ?_
     have hd15 : (((unB ((stuffB l) ++ l2)).2.2) != 0) = false := by rw [back_whole]; rfl
     refine rw_gyq (s := 35) rfl rfl hd15 rfl (ev_move s8) <| rw_gyq (s := 35) rfl rfl hd15 rfl (ev_move s0) <| rw_gy (s := 35) rfl rfl hd15 rfl (opR_call Try.func48 bd48 nm48 (args1 rfl) (c_rlaid v l _ (Rd.ofRest hr hm13) sL)) ?_
     rintro rq17 w16 ⟨Hsq17, grq17, k_w16⟩
     have hm16 : Mem w16 (restOf w0) (Hsq17 ++ (H1q12 ++ (H2q12 ++ (Hsq6 ++ ([]))))) := Mem.new (H := H1q12 ++ (H2q12 ++ (Hsq6 ++ ([])))) (H' := Hsq17) hm13 k_w16
     refine rw_gy (s := 35) rfl rfl hd15 rfl (opR_call Try.func38 bd38 nm38 (args2 rfl rfl) (c_same r1q12 rq17 ((unB ((stuffB l) ++ l2)).1) (laidB (wholeB l)) _ (gr1q12.rd (Mem.pick Hsq17 H1q12 _ hm16)) (grq17.rd hm16) sL)) ?_
     rintro _ w18 ⟨rfl, _ew18⟩
     have hm18 := hm16.ext _ew18
     refine rw_gyq (s := 35) rfl rfl hd15 rfl (ev_not rfl) <| rw_q rfl (ev_pick_fk rfl hd15 rfl) <| rw_q rfl (ev_move (v := (bl (!(((unB ((stuffB l) ++ l2)).1) == (laidB (wholeB l)))))) rfl) ?_
     have hd20 : (((unB ((stuffB l) ++ l2)).1) == (laidB (wholeB l))) = true := told_true (by rw [back_whole])
     have hd21 : (!(((unB ((stuffB l) ++ l2)).1) == (laidB (wholeB l)))) = false := congrArg Bool.not hd20
     refine rw_gyq (s := 42) rfl rfl hd21 rfl (ev_move s9) <| rw_gyq (s := 42) rfl rfl hd21 rfl (ev_move s1) <| rw_gy (s := 42) rfl rfl hd21 rfl (opR_call Try.func38 bd38 nm38 (args2 rfl rfl) (c_same r2q12 v2 ((unB ((stuffB l) ++ l2)).2.1) l2 _ (gr2q12.rd (Mem.pick2 Hsq17 H1q12 H2q12 _ hm18)) (Rd.ofRest hr2 hm18) sL)) ?_
     rintro _ w22 ⟨rfl, _ew22⟩
     have hm22 := hm18.ext _ew22
     refine rw_gyq (s := 42) rfl rfl hd21 rfl (ev_not rfl) <| rw_q rfl (ev_pick_fk rfl hd21 rfl) <| rN ?_
     have hm24 := Mem.drop Hsq17 _ hm22
     refine CW.abs (fun g => g 0 = v ∧ g 1 = v2 ∧ g 2 = (i64 n) ∧ g 6 = (bl false) ∧ g 7 = rq6 ∧ g 8 = r1q12 ∧ g 9 = r2q12 ∧ g 10 = (i64 ((unB ((stuffB l) ++ l2)).2.2)) ∧ g 12 = (bl false) ∧ g 20 = (bl (decide (500 < (l2.length : Int)))) ∧ g 47 = (bl (!(((unB ((stuffB l) ++ l2)).2.1) == l2))) ∧ True) ⟨s0, s1, s2, s6, s7, s8, s9, s10, s12, s20, rfl, trivial⟩ ?_
     rintro fr25 ⟨s0, s1, s2, s6, s7, s8, s9, s10, s12, s20, s47, _⟩
     have hd26 : (((unB ((stuffB l) ++ l2)).2.1) == l2) = true := told_true (by rw [back_whole])
     have hd27 : (!(((unB ((stuffB l) ++ l2)).2.1) == l2)) = false := congrArg Bool.not hd26
     refine cw_cond_f s47 hd27 ?_
     refine cw_skip (kThen_normal (sR ?_))
     refine rM rfl s7 <| rM rfl s2 ?_
     obtain ⟨n28, hn28, hn28l⟩ : ∃ q : Nat, (((BitVec.ofInt 64 n).toNat &&& (65535 : Int).toNat : Nat) : Int) = (q : Int) ∧ q ≤ 65535 := ⟨_, rfl, Nat.and_le_right⟩
     refine rw_q rfl (EvQ.cast (congrArg i64 hn28) (ev_i64_and (b := 65535) rfl rfl oM oM)) <| rM rfl s7 <| rw_q (v := (i64 ((stuffB l).length : Int))) rfl (ev_len_rd (grq6.rd (Mem.pick2 H1q12 H2q12 Hsq6 _ hm24)) uT24 rfl) ?_
     obtain ⟨n29, hn29, hn29l⟩ : ∃ q : Nat, (n28 : Int) % ((stuffB l).length : Int) = (q : Int) ∧ q < (stuffB l).length := ⟨((n28 : Int) % ((stuffB l).length : Int)).toNat, (Int.toNat_of_nonneg (Int.emod_nonneg _ oM)).symm, by have h1 := Int.emod_nonneg (n28 : Int) (b := ((stuffB l).length : Int)) oM; have h2 := Int.emod_lt_of_pos (n28 : Int) (b := ((stuffB l).length : Int)) oM; omega⟩
     refine rw_q rfl (EvQ.cast (congrArg i64 hn29) (ev_i64_rem rfl rfl oM oM oM)) <| rw_q rfl (ev_slice_rd (i := 0) (j := (n29 : Int)) (grq6.rd (Mem.pick2 H1q12 H2q12 Hsq6 _ hm24)) uT24 ti5 rfl (optI_none _ _) (optI_some (k := .i64) (i := (n29 : Int)) rfl) oM sL sL) <| rw_c rfl (opR_call Try.func44 bd44 nm44 (args1 rfl) (c_unstuff (subv rq6 0 (n29 : Int)) (((stuffB l).drop (0 : Int).toNat).take (((n29 : Int) : Int).toNat - (0 : Int).toNat)) _ (hT.mono fun b o e => (hm24).rest b o e) ((Grow.cast (l' := ((stuffB l).drop (0 : Int).toNat).take (((n29 : Int) : Int).toNat - (0 : Int).toNat)) (Grow.sub (i := 0) (j := (n29 : Int)) grq6 oM sL sL) rfl).rd (Mem.pick2 H1q12 H2q12 Hsq6 _ hm24)) (Grow.capOk (Grow.cast (l' := ((stuffB l).drop (0 : Int).toNat).take (((n29 : Int) : Int).toNat - (0 : Int).toNat)) (Grow.sub (i := 0) (j := (n29 : Int)) grq6 oM sL sL) rfl)) sL)) ?_
     rintro _ w30 ⟨r1q31, r2q31, H1q31, H2q31, rfl, gr1q31, gr2q31, k_w30⟩
     have hm30 : Mem w30 (restOf w0) (H1q31 ++ (H2q31 ++ (H1q12 ++ (H2q12 ++ (Hsq6 ++ ([])))))) := (by
       have hT := Mem.new (H := H1q12 ++ (H2q12 ++ (Hsq6 ++ ([])))) (H' := _) hm24 k_w30
       simp only [List.append_assoc, List.cons_append, List.nil_append, List.append_nil] at hT ⊢
       exact hT)
     refine rM rfl rfl <| rw_q (v := r1q31) rfl (ev_extract rfl rfl) <| rw_q (v := r2q31) rfl (ev_extract rfl rfl) <| rw_q (v := (i64 ((unB (((stuffB l).drop (0 : Int).toNat).take (((n29 : Int) : Int).toNat - (0 : Int).toNat))).2.2))) rfl (ev_extract rfl rfl) <| rA rfl rfl <| rN ?_
     have hm32 := Mem.drop H1q31 _ hm30
     have hm33 := Mem.drop H2q31 _ hm32
     refine CW.abs (fun g => g 0 = v ∧ g 1 = v2 ∧ g 2 = (i64 n) ∧ g 6 = (bl false) ∧ g 7 = rq6 ∧ g 8 = r1q12 ∧ g 9 = r2q12 ∧ g 10 = (i64 ((unB (((stuffB l).drop (0 : Int).toNat).take (((n29 : Int) : Int).toNat - (0 : Int).toNat))).2.2)) ∧ g 12 = (bl false) ∧ g 20 = (bl (decide (500 < (l2.length : Int)))) ∧ g 47 = (bl (!(((unB ((stuffB l) ++ l2)).2.1) == l2))) ∧ True) ⟨s0, s1, s2, s6, s7, s8, s9, rfl, s12, s20, s47, trivial⟩ ?_
     rintro fr34 ⟨s0, s1, s2, s6, s7, s8, s9, s10, s12, s20, s47, _⟩
     refine sR <| rM rfl s10 <| rw_q rfl (ev_i64_eql (b := 7) rfl rfl) <| rA rfl rfl ?_
     refine rN (cw_ret ?_)
     refine fnPost_ret [(bl (((unB (((stuffB l).drop (0 : Int).toNat).take (((n29 : Int) : Int).toNat - (0 : Int).toNat))).2.2) == 7))] ⟨rfl, trivial⟩ ?_
     have hd35 : (((unB (((stuffB l).drop (0 : Int).toNat).take (((n29 : Int) : Int).toNat - (0 : Int).toNat))).2.2) == 7) = true := by rw [sub_zero, back_cut l oM]; rfl
     exact ⟨congrArg bl hd35, Mem.below w0 hm33⟩


end Go.Proofs.Ytfmjfojhcmmgcaa
