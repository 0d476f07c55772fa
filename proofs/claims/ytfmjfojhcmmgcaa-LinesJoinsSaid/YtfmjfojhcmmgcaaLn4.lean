/- Contracts: mails that came over a line. Conditions: none beyond those that each theorem states. -/
import Derived.Test.YtfmjfojhcmmgcaaLn3
namespace Go.Proofs.Ytfmjfojhcmmgcaa
set_option linter.unusedVariables false
set_option linter.unusedSimpArgs false
attribute [local irreducible] wholeB linesB restB cutF befB aftB cutAv cutBv laidB stfL stuffB unB
set_option maxHeartbeats 1000000 in
theorem c_unstuff (v : Value) (l : List (BitVec 8)) (w0 : World)  (hT : Tabs (blks w0)) (hr : Rd (blks w0) u8 v l) (hc : capOk v) (hl : l.length ≤ 1048576) : CallsR Try.prog 44 #[v] w0 (fun r w1 => ∃ (r1 r2 : Value) (H1 H2 : List (Nat × Obj)), r = .tuple #[r1, r2, i64 (unB l).2.2] ∧ Grow u8 5 r1 (unB l).1 H1 ∧ Grow u8 5 r2 (unB l).2.1 H2 ∧ Mem w1 (restOf w0) (H1 ++ H2)) := by
 refine callsR_of_cw (args := [v]) Try.func44 rfl Try.ntmps44 Try.results44 rfl ?_
 have hm0 : Mem w0 (restOf w0) [] := Mem.of_world w0
 refine sR <| rw_q rfl (ev_assign (v := (Value.slice none 0 0)) rfl) <| rw_q rfl (ev_assign (v := (Value.slice none 0 0)) rfl) <| rw_q rfl (ev_assign (v := (i64 0)) rfl) ?_
 refine rN (cw_seq (cw_block ?_))
 refine cw_loop (fun g wv => ∃ (vb : Value) (lb : List (BitVec 8)) (v2 : Value) (mail : List (BitVec 8)) (Hs : List (Nat × Obj)), (Rd (blks w0) u8 vb lb) ∧ (capOk vb) ∧ (lb.length + mail.length ≤ l.length) ∧ (unL mail (linesB lb) (restB lb) = unB l) ∧ (Grow u8 5 v2 mail Hs) ∧ g 0 = vb ∧ g 2 = v2 ∧ Mem wv (restOf w0) (Hs ++ ([]))) (fun g wv => sllen (g 0)) ?_ ?_
 · exact ⟨v, l, (Value.slice none 0 0), [], [], hr, hc, (by simp), (by unfold unB; rfl), (Grow.none _ _), rfl, rfl, hm0⟩
 · rintro fr1 w2 ⟨vb, lb, v2, mail, Hs, hrb, hcap, hlb, hu, hg, s0, s2, hm2⟩
   have z0 := s0
   have z2 := s2
   have hb1 := (cut_lens lb).1; have hb2 := (cut_lens lb).2.1
   refine cw_seq (sR ?_)
   refine rM rfl s0 <| rw_q (v := (i64 (lb.length : Int))) rfl (ev_len_rd (Rd.ofRest hrb hm2) uT24 rfl) <| rw_q rfl (ev_i64_gtr (b := 0) rfl rfl) <| rN ?_
   refine cw_cond rfl (fun hc3 => ?_) (fun hc3 => ?_)
   · -- true
     have hc3p := of_decide_eq_true hc3
     refine cw_skip (kThen_normal (cw_block' (sR ?_)))
     refine rM rfl s0 <| rw_c rfl (or_buildSlice_cl u8 [13#8, 10#8] u8_one hm2 uT24 ti5 rfl rfl rfl) ?_
     rintro _ w4 ⟨b13, rfl, _ew4, hm4⟩
     refine rw_c rfl (or_conv_mark (m := 2) uT24 uT5 rfl hm4.h0 rfl) ?_
     rintro _ w5 ⟨rfl, uq5⟩
     have hm5 : Mem w5 (restOf w0) ([(b13, .cells (cl u8 ([13#8, 10#8])) 5 (2, 3))] ++ (Hs ++ ([]))) := hm4.upd0 uq5
     refine rw_c rfl (opR_call Try.func56 bd56 nm56 (args2 rfl rfl) (c_cut vb (slc b13 0 2 2) lb _ (hT.mono fun b o e => (hm5).rest b o e) (Rd.ofRest hrb hm5) (Rd.mkA hm5.h0) sL sL)) ?_
     rintro _ w6 ⟨rfl, _ew6⟩
     have hm6 := hm5.ext _ew6
     refine rw_q rfl (ev_move (v := (Value.tuple #[(cutBv vb lb), (cutAv vb lb), (bl ((cutF lb).isSome))])) rfl) <| rw_q (v := (cutBv vb lb)) rfl (ev_extract rfl rfl) <| rw_q (v := (cutAv vb lb)) rfl (ev_extract rfl rfl) <| rw_q (v := (bl ((cutF lb).isSome))) rfl (ev_extract rfl rfl) <| rw_q rfl (ev_assign (v := (cutBv vb lb)) rfl) <| rw_q rfl (ev_assign (v := (cutAv vb lb)) rfl) ?_
     refine rw_q rfl (ev_assign (v := (bl ((cutF lb).isSome))) rfl) <| rN ?_
     have hm8 := Mem.drop ([(b13, .cells (cl u8 ([13#8, 10#8])) 5 (2, 3))]) _ hm6
     refine CW.abs (fun g => g 0 = vb ∧ g 2 = v2 ∧ g 5 = (cutBv vb lb) ∧ g 6 = (cutAv vb lb) ∧ g 7 = (bl ((cutF lb).isSome)) ∧ g 10 = (bl (decide (0 < (lb.length : Int)))) ∧ True) ⟨s0, s2, rfl, rfl, rfl, rfl, trivial⟩ ?_
     rintro fr9 ⟨s0, s2, s5, s6, s7, s10, _⟩
     refine cw_seq (cw_block (sR ?_))
     refine rM rfl s7 <| rw_q rfl (ev_not rfl) <| rw_q rfl (ev_assign (v := (bl (!((cutF lb).isSome)))) rfl) <| rN ?_
     refine cw_cond rfl (fun hc10 => ?_) (fun hc10 => ?_)
     · -- true
       have hc10n : ((cutF lb).isSome) = false := by simpa using hc10
       refine sR <| rw_q rfl (ev_assign (v := (Value.slice none 0 0)) rfl) <| rw_q rfl (ev_assign (v := (Value.slice none 0 0)) rfl) <| rw_q rfl (ev_assign (v := (i64 7)) rfl) ?_
       refine rN (cw_ret ?_)
       refine kBlk_ret (kBlk_ret (kThen_ret (kBlk_ret ?_)))
       refine fnPost_ret [(Value.slice none 0 0), (Value.slice none 0 0), (i64 7)] ⟨rfl, rfl, rfl, trivial⟩ ?_
       have hm11 := Mem.drop Hs _ hm8
       have hz : unB l = ([], [], 7) := by rw [← hu, (lines_nocut hc10n).1]; rfl
       rw [hz]
       exact ⟨.slice none 0 0, .slice none 0 0, [], [], rfl, Grow.none _ _, Grow.none _ _, hm11⟩
     · -- false
       have hc10n : ((cutF lb).isSome) = true := by simpa using hc10
       refine sR <| rM rfl s5 <| rw_q (v := (i64 ((befB lb).length : Int))) rfl (ev_len_rd (Rd.cutB (Rd.ofRest hrb hm8)) uT24 rfl) <| rw_q rfl (ev_i64_eql (b := 1) rfl rfl) <| rw_q rfl (ev_move (v := (bl (((befB lb).length : Int) == 1))) rfl) ?_
       rcases Bool.eq_false_or_eq_true (((befB lb).length : Int) == 1) with hb12 | hb12
       · -- true
         have hb12p := eq_of_beq hb12
         refine rw_gyq (s := 26) rfl rfl hb12 rfl (ev_move s5) <| rw_gyq (s := 26) rfl rfl hb12 rfl (ev_indexAddr_rdv (i := 0) (Rd.cutB (Rd.ofRest hrb hm8)) uT24 ti5 rfl rfl oM sL) <| rw_gyq (s := 26) rfl rfl hb12 rfl (ev_load_rdD (l := (befB lb)) (i := 0) (dflt := 0) (Rd.cutB (Rd.ofRest hrb hm8)) uT5 rfl oM sL rfl) <| rw_gyq (s := 26) rfl rfl hb12 rfl (ev_u8_eql (b := 46#8) rfl rfl) <| rw_q rfl (ev_pick_tk rfl hb12 rfl) <| rw_q rfl (ev_assign (v := (bl (((befB lb).getD 0 0) == 46#8))) rfl) ?_
         refine rN ?_
         refine CW.abs (fun g => g 0 = vb ∧ g 2 = v2 ∧ g 5 = (cutBv vb lb) ∧ g 6 = (cutAv vb lb) ∧ g 7 = (bl ((cutF lb).isSome)) ∧ g 10 = (bl (decide (0 < (lb.length : Int)))) ∧ g 19 = (bl (!((cutF lb).isSome))) ∧ g 22 = (bl (((befB lb).getD 0 0) == 46#8)) ∧ True) ⟨s0, s2, s5, s6, s7, s10, rfl, rfl, trivial⟩ ?_
         rintro fr13 ⟨s0, s2, s5, s6, s7, s10, s19, s22, _⟩
         refine cw_cond s22 (fun hc14 => ?_) (fun hc14 => ?_)
         · -- true
           have hc14p := eq_of_beq hc14
           refine sR <| rM rfl s2 <| rM rfl s6 <| rw_c rfl (opR_call Try.func57 bd57 nm57 (args1 rfl) (c_clone (cutAv vb lb) (aftB lb) _ (Rd.cutA (Rd.ofRest hrb hm8)) sL)) ?_
           rintro rq16 w15 ⟨Hsq16, grq16, k_w15⟩
           have hm15 : Mem w15 (restOf w0) (Hsq16 ++ (Hs ++ ([]))) := Mem.new (H := Hs ++ ([])) (H' := Hsq16) hm8 k_w15
           refine rA rfl (v := v2) rfl <| rA rfl (v := rq16) rfl <| rw_q rfl (ev_assign (v := (i64 0)) rfl) ?_
           refine rN (cw_ret ?_)
           refine kBlk_ret (kBlk_ret (kThen_ret (kBlk_ret ?_)))
           refine fnPost_ret [v2, rq16, (i64 0)] ⟨rfl, rfl, rfl, trivial⟩ ?_
           have hz : unB l = (mail, aftB lb, 0) := by rw [← hu, (lines_cut (by simpa using hc10 : (cutF lb).isSome = true)).1, (lines_cut (by simpa using hc10 : (cutF lb).isSome = true)).2.1, un_one (one_dot hb12p hc14p), lines_join]
           have hm17 := (Mem.pick Hsq16 Hs _ hm15)
           rw [hz]
           exact ⟨v2, rq16, Hs, Hsq16, rfl, hg, grq16, by simpa using hm17⟩
         · -- false
           have hc14p := ne_of_beq_false hc14
           refine sR <| rM rfl s5 <| rw_q (v := (i64 ((befB lb).length : Int))) rfl (ev_len_rd (Rd.cutB (Rd.ofRest hrb hm8)) uT24 rfl) <| rw_q rfl (ev_i64_gtr (b := 0) rfl rfl) <| rw_q rfl (ev_move (v := (bl (decide (0 < ((befB lb).length : Int))))) rfl) ?_
           rcases Bool.eq_false_or_eq_true (decide (0 < ((befB lb).length : Int))) with hb18 | hb18
           · -- true
             have hb18p := of_decide_eq_true hb18
             refine rw_gyq (s := 39) rfl rfl hb18 rfl (ev_move s5) <| rw_gyq (s := 39) rfl rfl hb18 rfl (ev_indexAddr_rdv (i := 0) (Rd.cutB (Rd.ofRest hrb hm8)) uT24 ti5 rfl rfl oM sL) <| rw_gyq (s := 39) rfl rfl hb18 rfl (ev_load_rdD (l := (befB lb)) (i := 0) (dflt := 0) (Rd.cutB (Rd.ofRest hrb hm8)) uT5 rfl oM sL rfl) <| rw_gyq (s := 39) rfl rfl hb18 rfl (ev_u8_eql (b := 46#8) rfl rfl) <| rw_q rfl (ev_pick_tk rfl hb18 rfl) <| rw_q rfl (ev_assign (v := (bl (((befB lb).getD 0 0) == 46#8))) rfl) ?_
             refine rN <| cw_cond_f rfl hc14 ?_
             refine cw_skip (kBlk_normal (sR ?_))
             refine rM rfl s2 <| rM rfl s5 <| rw_c rfl (or_append (f := u8) (Hs := Hs) (H := []) hm8 hg rfl rfl (Rd.cutB (Rd.ofRest hrb hm8)) uT24 uT24 ti5 rfl u8_one sL sL) ?_
             rintro sv19 w19 ⟨Hs19, hm19, g19⟩
             replace g19 : Grow u8 5 sv19 (mail ++ (befB lb)) Hs19 := g19
             refine rw_c rfl (or_appendS (f := u8) (ms := [13#8, 10#8]) (Hs := Hs19) (H := []) hm19 g19 rfl rfl (fun w => str_run w) uT24 uT9 ti5 rfl u8_one sL sL) ?_
             rintro sv20 w20 ⟨Hs20, hm20, g20⟩
             replace g20 : Grow u8 5 sv20 ((mail ++ (befB lb)) ++ ([13#8, 10#8])) Hs20 := g20
             refine rA rfl (v := sv20) rfl <| rN ?_
             refine CW.abs (fun g => g 0 = vb ∧ g 2 = sv20 ∧ g 5 = (cutBv vb lb) ∧ g 6 = (cutAv vb lb) ∧ g 7 = (bl ((cutF lb).isSome)) ∧ g 10 = (bl (decide (0 < (lb.length : Int)))) ∧ g 19 = (bl (!((cutF lb).isSome))) ∧ g 22 = (bl (((befB lb).getD 0 0) == 46#8)) ∧ g 35 = (bl (((befB lb).getD 0 0) == 46#8)) ∧ True) ⟨s0, rfl, s5, s6, s7, s10, s19, s22, rfl, trivial⟩ ?_
             rintro fr21 ⟨s0, s2, s5, s6, s7, s10, s19, s22, s35, _⟩
             refine cw_region <| rM rfl s6 <| rw_q rfl (ev_assign (v := (cutAv vb lb)) rfl) ?_
             refine rw_nil (kBlk_normal (kThen_normal ?_))
             have hsl := strip_len (befB lb); have hlc := (lines_cut (by simpa using hc10 : (cutF lb).isSome = true)).2.2
             exact ⟨⟨(cutAv vb lb), (aftB lb), sv20, (mail ++ stripB (befB lb) ++ [13#8, 10#8]), Hs20, (Rd.cutA hrb), (capOk_cutA hcap), (by simp only [List.length_append, List.length_cons, List.length_nil]; omega), (by rw [← hu, (lines_cut (by simpa using hc10 : (cutF lb).isSome = true)).1, (lines_cut (by simpa using hc10 : (cutF lb).isSome = true)).2.1, un_more (not_dot (fun _ => hc14p))]), (Grow.cast g20 (by rw [strip_no (fun _ => hc14p)])), rfl, s2, hm20⟩, meas_sl (rfl) z0 (Rd.cutA hrb) hrb oM⟩
           · -- false
             have hb18p := of_decide_eq_false hb18
             refine rw_gn (s := 39) rfl rfl hb18 rfl <| rw_gn (s := 39) rfl rfl hb18 rfl <| rw_gn (s := 39) rfl rfl hb18 rfl <| rw_gn (s := 39) rfl rfl hb18 rfl <| rw_q rfl (ev_pick_fk rfl hb18 rfl) <| rw_q rfl (ev_assign (v := (bl false)) rfl) ?_
             refine rN <| cw_cond_f rfl (by decide) ?_
             refine cw_skip (kBlk_normal (sR ?_))
             refine rM rfl s2 <| rM rfl s5 <| rw_c rfl (or_append (f := u8) (Hs := Hs) (H := []) hm8 hg rfl rfl (Rd.cutB (Rd.ofRest hrb hm8)) uT24 uT24 ti5 rfl u8_one sL sL) ?_
             rintro sv22 w22 ⟨Hs22, hm22, g22⟩
             replace g22 : Grow u8 5 sv22 (mail ++ (befB lb)) Hs22 := g22
             refine rw_c rfl (or_appendS (f := u8) (ms := [13#8, 10#8]) (Hs := Hs22) (H := []) hm22 g22 rfl rfl (fun w => str_run w) uT24 uT9 ti5 rfl u8_one sL sL) ?_
             rintro sv23 w23 ⟨Hs23, hm23, g23⟩
             replace g23 : Grow u8 5 sv23 ((mail ++ (befB lb)) ++ ([13#8, 10#8])) Hs23 := g23
             refine rA rfl (v := sv23) rfl <| rN ?_
             refine CW.abs (fun g => g 0 = vb ∧ g 2 = sv23 ∧ g 5 = (cutBv vb lb) ∧ g 6 = (cutAv vb lb) ∧ g 7 = (bl ((cutF lb).isSome)) ∧ g 10 = (bl (decide (0 < (lb.length : Int)))) ∧ g 19 = (bl (!((cutF lb).isSome))) ∧ g 22 = (bl (((befB lb).getD 0 0) == 46#8)) ∧ g 35 = (bl false) ∧ True) ⟨s0, rfl, s5, s6, s7, s10, s19, s22, rfl, trivial⟩ ?_
             rintro fr24 ⟨s0, s2, s5, s6, s7, s10, s19, s22, s35, _⟩
             refine cw_region <| rM rfl s6 <| rw_q rfl (ev_assign (v := (cutAv vb lb)) rfl) ?_
             refine rw_nil (kBlk_normal (kThen_normal ?_))
             have hsl := strip_len (befB lb); have hlc := (lines_cut (by simpa using hc10 : (cutF lb).isSome = true)).2.2
             exact ⟨⟨(cutAv vb lb), (aftB lb), sv23, (mail ++ stripB (befB lb) ++ [13#8, 10#8]), Hs23, (Rd.cutA hrb), (capOk_cutA hcap), (by simp only [List.length_append, List.length_cons, List.length_nil]; omega), (by rw [← hu, (lines_cut (by simpa using hc10 : (cutF lb).isSome = true)).1, (lines_cut (by simpa using hc10 : (cutF lb).isSome = true)).2.1, un_more (not_dot (fun _ => hc14p))]), (Grow.cast g23 (by rw [strip_no (fun h => absurd h oM)])), rfl, s2, hm23⟩, meas_sl (rfl) z0 (Rd.cutA hrb) hrb oM⟩
       · -- false
         have hb12p := ne_of_beq_false hb12
         refine rw_gn (s := 26) rfl rfl hb12 rfl <| rw_gn (s := 26) rfl rfl hb12 rfl <| rw_gn (s := 26) rfl rfl hb12 rfl <| rw_gn (s := 26) rfl rfl hb12 rfl <| rw_q rfl (ev_pick_fk rfl hb12 rfl) <| rw_q rfl (ev_assign (v := (bl false)) rfl) ?_
         refine rN ?_
         refine CW.abs (fun g => g 0 = vb ∧ g 2 = v2 ∧ g 5 = (cutBv vb lb) ∧ g 6 = (cutAv vb lb) ∧ g 7 = (bl ((cutF lb).isSome)) ∧ g 10 = (bl (decide (0 < (lb.length : Int)))) ∧ g 19 = (bl (!((cutF lb).isSome))) ∧ g 22 = (bl false) ∧ True) ⟨s0, s2, s5, s6, s7, s10, rfl, rfl, trivial⟩ ?_
         rintro fr25 ⟨s0, s2, s5, s6, s7, s10, s19, s22, _⟩
         refine cw_cond_f s22 (by decide) <| sR <| rM rfl s5 <| rw_q (v := (i64 ((befB lb).length : Int))) rfl (ev_len_rd (Rd.cutB (Rd.ofRest hrb hm8)) uT24 rfl) <| rw_q rfl (ev_i64_gtr (b := 0) rfl rfl) <| rw_q rfl (ev_move (v := (bl (decide (0 < ((befB lb).length : Int))))) rfl) ?_
         rcases Bool.eq_false_or_eq_true (decide (0 < ((befB lb).length : Int))) with hb26 | hb26
         · -- true
           have hb26p := of_decide_eq_true hb26
           refine rw_gyq (s := 39) rfl rfl hb26 rfl (ev_move s5) <| rw_gyq (s := 39) rfl rfl hb26 rfl (ev_indexAddr_rdv (i := 0) (Rd.cutB (Rd.ofRest hrb hm8)) uT24 ti5 rfl rfl oM sL) <| rw_gyq (s := 39) rfl rfl hb26 rfl (ev_load_rdD (l := (befB lb)) (i := 0) (dflt := 0) (Rd.cutB (Rd.ofRest hrb hm8)) uT5 rfl oM sL rfl) <| rw_gyq (s := 39) rfl rfl hb26 rfl (ev_u8_eql (b := 46#8) rfl rfl) <| rw_q rfl (ev_pick_tk rfl hb26 rfl) <| rw_q rfl (ev_assign (v := (bl (((befB lb).getD 0 0) == 46#8))) rfl) ?_
           refine rN ?_
           refine cw_cond rfl (fun hc27 => ?_) (fun hc27 => ?_)
           · -- true
             have hc27p := eq_of_beq hc27
             refine cw_region <| rM rfl s5 <| rw_q rfl (ev_slice_rd (i := 1) (j := ((befB lb).length : Int)) (Rd.cutB (Rd.ofRest hrb hm8)) uT24 ti5 rfl (optI_some (k := .i64) (i := 1) rfl) (optI_none _ _) oM sL sL) <| rw_q rfl (ev_assign (v := (subv (cutBv vb lb) 1 ((befB lb).length : Int))) rfl) ?_
             refine rw_nil (kBlk_normal ?_)
             refine CW.abs (fun g => g 0 = vb ∧ g 2 = v2 ∧ g 5 = (subv (cutBv vb lb) 1 ((befB lb).length : Int)) ∧ g 6 = (cutAv vb lb) ∧ g 7 = (bl ((cutF lb).isSome)) ∧ g 10 = (bl (decide (0 < (lb.length : Int)))) ∧ g 19 = (bl (!((cutF lb).isSome))) ∧ g 22 = (bl false) ∧ g 35 = (bl (((befB lb).getD 0 0) == 46#8)) ∧ True) ⟨s0, s2, rfl, s6, s7, s10, s19, s22, rfl, trivial⟩ ?_
             rintro fr28 ⟨s0, s2, s5, s6, s7, s10, s19, s22, s35, _⟩
             refine sR <| rM rfl s2 <| rM rfl s5 <| rw_c rfl (or_append (f := u8) (Hs := Hs) (H := []) hm8 hg rfl rfl (Rd.cast (l' := ((befB lb).drop (1 : Int).toNat).take ((((befB lb).length : Int) : Int).toNat - (1 : Int).toNat)) (Rd.sub (Rd.cutB (Rd.ofRest hrb hm8)) oM sL sL) rfl) uT24 uT24 ti5 rfl u8_one sL sL) ?_
             rintro sv29 w29 ⟨Hs29, hm29, g29⟩
             replace g29 : Grow u8 5 sv29 (mail ++ (((befB lb).drop (1 : Int).toNat).take ((((befB lb).length : Int) : Int).toNat - (1 : Int).toNat))) Hs29 := g29
             refine rw_c rfl (or_appendS (f := u8) (ms := [13#8, 10#8]) (Hs := Hs29) (H := []) hm29 g29 rfl rfl (fun w => str_run w) uT24 uT9 ti5 rfl u8_one sL sL) ?_
             rintro sv30 w30 ⟨Hs30, hm30, g30⟩
             replace g30 : Grow u8 5 sv30 ((mail ++ (((befB lb).drop (1 : Int).toNat).take ((((befB lb).length : Int) : Int).toNat - (1 : Int).toNat))) ++ ([13#8, 10#8])) Hs30 := g30
             refine rA rfl (v := sv30) rfl ?_
             refine rN (cw_region ?_)
             refine rM rfl s6 <| rw_q rfl (ev_assign (v := (cutAv vb lb)) rfl) ?_
             refine rw_nil (kBlk_normal (kThen_normal ?_))
             have hsl := strip_len (befB lb); have hlc := (lines_cut (by simpa using hc10 : (cutF lb).isSome = true)).2.2
             exact ⟨⟨(cutAv vb lb), (aftB lb), sv30, (mail ++ stripB (befB lb) ++ [13#8, 10#8]), Hs30, (Rd.cutA hrb), (capOk_cutA hcap), (by simp only [List.length_append, List.length_cons, List.length_nil]; omega), (by rw [← hu, (lines_cut (by simpa using hc10 : (cutF lb).isSome = true)).1, (lines_cut (by simpa using hc10 : (cutF lb).isSome = true)).2.1, un_more (not_dot (fun h => absurd h hb12p))]), (Grow.cast g30 (by rw [strip_yes oM hc27p, ← sub_one (befB lb)])), rfl, rfl, hm30⟩, meas_sl (rfl) z0 (Rd.cutA hrb) hrb oM⟩
           · -- false
             have hc27p := ne_of_beq_false hc27
             refine cw_skip (kBlk_normal (sR ?_))
             refine rM rfl s2 <| rM rfl s5 <| rw_c rfl (or_append (f := u8) (Hs := Hs) (H := []) hm8 hg rfl rfl (Rd.cutB (Rd.ofRest hrb hm8)) uT24 uT24 ti5 rfl u8_one sL sL) ?_
             rintro sv31 w31 ⟨Hs31, hm31, g31⟩
             replace g31 : Grow u8 5 sv31 (mail ++ (befB lb)) Hs31 := g31
             refine rw_c rfl (or_appendS (f := u8) (ms := [13#8, 10#8]) (Hs := Hs31) (H := []) hm31 g31 rfl rfl (fun w => str_run w) uT24 uT9 ti5 rfl u8_one sL sL) ?_
             rintro sv32 w32 ⟨Hs32, hm32, g32⟩
             replace g32 : Grow u8 5 sv32 ((mail ++ (befB lb)) ++ ([13#8, 10#8])) Hs32 := g32
             refine rA rfl (v := sv32) rfl <| rN ?_
             refine CW.abs (fun g => g 0 = vb ∧ g 2 = sv32 ∧ g 5 = (cutBv vb lb) ∧ g 6 = (cutAv vb lb) ∧ g 7 = (bl ((cutF lb).isSome)) ∧ g 10 = (bl (decide (0 < (lb.length : Int)))) ∧ g 19 = (bl (!((cutF lb).isSome))) ∧ g 22 = (bl false) ∧ g 35 = (bl (((befB lb).getD 0 0) == 46#8)) ∧ True) ⟨s0, rfl, s5, s6, s7, s10, s19, s22, rfl, trivial⟩ ?_
             rintro fr33 ⟨s0, s2, s5, s6, s7, s10, s19, s22, s35, _⟩
             refine cw_region <| rM rfl s6 <| rw_q rfl (ev_assign (v := (cutAv vb lb)) rfl) ?_
             refine rw_nil (kBlk_normal (kThen_normal ?_))
             have hsl := strip_len (befB lb); have hlc := (lines_cut (by simpa using hc10 : (cutF lb).isSome = true)).2.2
             exact ⟨⟨(cutAv vb lb), (aftB lb), sv32, (mail ++ stripB (befB lb) ++ [13#8, 10#8]), Hs32, (Rd.cutA hrb), (capOk_cutA hcap), (by simp only [List.length_append, List.length_cons, List.length_nil]; omega), (by rw [← hu, (lines_cut (by simpa using hc10 : (cutF lb).isSome = true)).1, (lines_cut (by simpa using hc10 : (cutF lb).isSome = true)).2.1, un_more (not_dot (fun h => absurd h hb12p))]), (Grow.cast g32 (by rw [strip_no (fun _ => hc27p)])), rfl, s2, hm32⟩, meas_sl (rfl) z0 (Rd.cutA hrb) hrb oM⟩
         · -- false
           have hb26p := of_decide_eq_false hb26
           refine rw_gn (s := 39) rfl rfl hb26 rfl <| rw_gn (s := 39) rfl rfl hb26 rfl <| rw_gn (s := 39) rfl rfl hb26 rfl <| rw_gn (s := 39) rfl rfl hb26 rfl <| rw_q rfl (ev_pick_fk rfl hb26 rfl) <| rw_q rfl (ev_assign (v := (bl false)) rfl) ?_
           refine rN <| cw_cond_f rfl (by decide) ?_
           refine cw_skip (kBlk_normal (sR ?_))
           refine rM rfl s2 <| rM rfl s5 <| rw_c rfl (or_append (f := u8) (Hs := Hs) (H := []) hm8 hg rfl rfl (Rd.cutB (Rd.ofRest hrb hm8)) uT24 uT24 ti5 rfl u8_one sL sL) ?_
           rintro sv34 w34 ⟨Hs34, hm34, g34⟩
           replace g34 : Grow u8 5 sv34 (mail ++ (befB lb)) Hs34 := g34
           refine rw_c rfl (or_appendS (f := u8) (ms := [13#8, 10#8]) (Hs := Hs34) (H := []) hm34 g34 rfl rfl (fun w => str_run w) uT24 uT9 ti5 rfl u8_one sL sL) ?_
           rintro sv35 w35 ⟨Hs35, hm35, g35⟩
           replace g35 : Grow u8 5 sv35 ((mail ++ (befB lb)) ++ ([13#8, 10#8])) Hs35 := g35
           refine rA rfl (v := sv35) rfl <| rN ?_
           refine CW.abs (fun g => g 0 = vb ∧ g 2 = sv35 ∧ g 5 = (cutBv vb lb) ∧ g 6 = (cutAv vb lb) ∧ g 7 = (bl ((cutF lb).isSome)) ∧ g 10 = (bl (decide (0 < (lb.length : Int)))) ∧ g 19 = (bl (!((cutF lb).isSome))) ∧ g 22 = (bl false) ∧ g 35 = (bl false) ∧ True) ⟨s0, rfl, s5, s6, s7, s10, s19, s22, rfl, trivial⟩ ?_
           rintro fr36 ⟨s0, s2, s5, s6, s7, s10, s19, s22, s35, _⟩
           refine cw_region <| rM rfl s6 <| rw_q rfl (ev_assign (v := (cutAv vb lb)) rfl) ?_
           refine rw_nil (kBlk_normal (kThen_normal ?_))
           have hsl := strip_len (befB lb); have hlc := (lines_cut (by simpa using hc10 : (cutF lb).isSome = true)).2.2
           exact ⟨⟨(cutAv vb lb), (aftB lb), sv35, (mail ++ stripB (befB lb) ++ [13#8, 10#8]), Hs35, (Rd.cutA hrb), (capOk_cutA hcap), (by simp only [List.length_append, List.length_cons, List.length_nil]; omega), (by rw [← hu, (lines_cut (by simpa using hc10 : (cutF lb).isSome = true)).1, (lines_cut (by simpa using hc10 : (cutF lb).isSome = true)).2.1, un_more (not_dot (fun h => absurd h hb12p))]), (Grow.cast g35 (by rw [strip_no (fun h => absurd h oM)])), rfl, s2, hm35⟩, meas_sl (rfl) z0 (Rd.cutA hrb) hrb oM⟩
   · -- false
     have hc3p := of_decide_eq_false hc3
     refine cw_exit ?_
     refine kThen_exit (kThen_exit (kBlk_hit ?_))
     refine sR <| rw_q rfl (ev_assign (v := (Value.slice none 0 0)) rfl) <| rw_q rfl (ev_assign (v := (Value.slice none 0 0)) rfl) <| rw_q rfl (ev_assign (v := (i64 7)) rfl) ?_
     refine rN (cw_ret ?_)
     refine fnPost_ret [(Value.slice none 0 0), (Value.slice none 0 0), (i64 7)] ⟨rfl, rfl, rfl, trivial⟩ ?_
     have hm37 := Mem.drop Hs _ hm2
     have hz : unB l = ([], [], 7) := by rw [← hu]; exact un_end oM
     rw [hz]
     exact ⟨.slice none 0 0, .slice none 0 0, [], [], rfl, Grow.none _ _, Grow.none _ _, hm37⟩

set_option maxHeartbeats 1000000 in
theorem c_runstuff (v : Value) (l : List (BitVec 8)) (w0 : World)  (hr : Rd (blks w0) u8 v l) (hl : l.length ≤ 1048576) : CallsR Try.prog 45 #[v] w0 (fun r w1 => ∃ (r1 r2 : Value) (H1 H2 : List (Nat × Obj)), r = .tuple #[r1, r2, i64 (unB l).2.2] ∧ Grow u8 5 r1 (unB l).1 H1 ∧ Grow u8 5 r2 (unB l).2.1 H2 ∧ Mem w1 (restOf w0) (H1 ++ H2)) := by
 refine callsR_of_cw (args := [v]) Try.func45 rfl Try.ntmps45 Try.results45 rfl ?_
 have hm0 : Mem w0 (restOf w0) [] := Mem.of_world w0
 refine sR <| rw_q rfl (ev_assign (v := (Value.slice none 0 0)) rfl) <| rw_q rfl (ev_assign (v := (Value.slice none 0 0)) rfl) <| rw_q rfl (ev_assign (v := (i64 0)) rfl) ?_
 refine rN (sR ?_)
 refine rM rfl (v := v) rfl <| rw_c rfl (opR_call Try.func40 bd40 nm40 (args1 rfl) (c_rsplit v l _ (Rd.ofRest hr hm0) sL)) ?_
 rintro _ w1 ⟨lsq2, r1q2, r2q2, Hsq2, Heq2, Hrq2, rfl, hMq2, grq2, hEq2, gr2q2, k_w1⟩
 have hm1 : Mem w1 (restOf w0) (Hsq2 ++ (Heq2 ++ (Hrq2 ++ ([])))) := (by
   have hT := Mem.new (H := []) (H' := _) hm0 k_w1
   simp only [List.append_assoc, List.cons_append, List.nil_append, List.append_nil] at hT ⊢
   exact hT)
 have hl3 := map_snd_len hMq2; have hb0 := lines_num l
 refine rw_q rfl (ev_move (v := (Value.tuple #[r1q2, r2q2])) rfl) <| rw_q (v := r1q2) rfl (ev_extract rfl rfl) <| rw_q (v := r2q2) rfl (ev_extract rfl rfl) <| rA rfl (v := r1q2) rfl <| rA rfl (v := r2q2) rfl ?_
 refine rN (sR ?_)
 refine rw_c rfl (or_buildSlice_cl u8 [] u8_one hm1 uT24 ti5 rfl (by simp [pairs]) rfl) ?_
 rintro _ w4 ⟨b16, rfl, _ew4, hm4⟩
 refine rw_q rfl (ev_assign (v := (slc b16 0 0 0)) rfl) ?_
 refine rN (cw_seq (sR ?_))
 refine rw_q rfl (ev_assign (v := (i64 0)) rfl) <| rN ?_
 refine CW.abs (fun g => g 0 = v ∧ g 2 = (Value.slice none 0 0) ∧ g 3 = (Value.slice none 0 0) ∧ g 4 = (i64 0) ∧ g 5 = r1q2 ∧ g 6 = r2q2 ∧ g 7 = (slc b16 0 0 0) ∧ g 8 = (i64 0) ∧ True) ⟨rfl, rfl, rfl, rfl, rfl, rfl, rfl, rfl, trivial⟩ ?_
 rintro fr5 ⟨s0, s2, s3, s4, s5, s6, s7, s8, _⟩
 refine cw_block ?_
 refine cw_loop (fun g wv => ∃ (k : Nat) (v7 : Value) (mail : List (BitVec 8)) (Hm : List (Nat × Obj)), (k ≤ (linesB l).length) ∧ (unL mail ((linesB l).drop k) (restB l) = unB l) ∧ (mail.length ≤ (joinL ((linesB l).take k)).length) ∧ (Grow u8 5 v7 mail Hm) ∧ g 0 = v ∧ g 5 = r1q2 ∧ g 6 = r2q2 ∧ g 7 = v7 ∧ g 8 = (i64 (k : Int)) ∧ Mem wv (restOf w0) (Hsq2 ++ (Heq2 ++ (Hrq2 ++ (Hm ++ ([])))))) (fun g wv => (((linesB l).length : Int) - RowKit.intOf (g 8)).toNat) ?_ ?_
 have hm6 := (Mem.pick3 [_] Hsq2 Heq2 Hrq2 _ hm4)
 have hm7 := (Mem.pick3 Hrq2 [_] Hsq2 Heq2 _ hm6)
 have hm8 := (Mem.pick3 Heq2 Hrq2 [_] Hsq2 _ hm7)
 · exact ⟨0, (slc b16 0 0 0), [], [(b16, .cells (cl u8 ([])) 5 (0, 0))], (Nat.zero_le _), (by unfold unB; rfl), (Nat.zero_le _), (Grow.of u8 5 b16 []), s0, s5, s6, s7, s8, (by
   have hT := hm8
   simp only [List.append_assoc, List.cons_append, List.nil_append, List.append_nil] at hT ⊢
   exact hT)⟩
 · rintro fr9 w10 ⟨k, v7, mail, Hm, hk, hu, hml, hg, s0, s5, s6, s7, s8, hm10⟩
   have z7 := s7
   have z8 := s8
   refine cw_seq (sR ?_)
   refine rM rfl s8 <| rM rfl s5 <| rw_q (v := (i64 (lsq2.length : Int))) rfl (ev_len_rd (grq2.rd hm10) uT69 rfl) <| rw_q rfl (ev_i64_lss rfl rfl) <| rN ?_
   refine cw_cond rfl (fun hc11 => ?_) (fun hc11 => ?_)
   · -- true
     have hc11p := of_decide_eq_true hc11
     have hel := join_el (L := linesB l) (k := k) oM
     refine cw_skip (kThen_normal (cw_seq (cw_block (cw_seq (sR ?_)))))
     refine rM rfl s5 <| rM rfl s8 <| rw_q rfl (ev_indexAddr_rdv (grq2.rd hm10) uT69 ti24 rfl rfl oM sL) <| rw_q (v := (slv (lsq2.getD k sl0))) rfl (ev_load_rdD (l := lsq2) (i := (k : Int)) (dflt := sl0) (grq2.rd hm10) uT24 rfl oM sL rfl) <| rw_q (v := (i64 (((linesB l).getD k []).length : Int))) rfl (ev_len_rd (ElIn.get (m := blks _) (k := k) hEq2 hMq2 sL (fun q hq => (hm10).own q (List.mem_append_right _ (List.mem_append_left _ hq)))) uT24 rfl) <| rw_q rfl (ev_i64_eql (b := 1) rfl rfl) ?_
     refine rw_q rfl (ev_move (v := (bl ((((linesB l).getD k []).length : Int) == 1))) rfl) ?_
     rcases Bool.eq_false_or_eq_true ((((linesB l).getD k []).length : Int) == 1) with hb12 | hb12
     · -- true
       have hb12p := eq_of_beq hb12
       refine rw_gyq (s := 29) rfl rfl hb12 rfl (ev_move s5) <| rw_gyq (s := 29) rfl rfl hb12 rfl (ev_move s8) <| rw_gyq (s := 29) rfl rfl hb12 rfl (ev_indexAddr_rdv (grq2.rd hm10) uT69 ti24 rfl rfl oM sL) <| rw_gyq (s := 29) rfl rfl hb12 rfl (ev_load_rdD (l := lsq2) (i := (k : Int)) (dflt := sl0) (grq2.rd hm10) uT24 rfl oM sL rfl) <| rw_gyq (s := 29) rfl rfl hb12 rfl (ev_indexAddr_rdv (i := 0) (ElIn.get (m := blks _) (k := k) hEq2 hMq2 sL (fun q hq => (hm10).own q (List.mem_append_right _ (List.mem_append_left _ hq)))) uT24 ti5 rfl rfl oM sL) <| rw_gyq (s := 29) rfl rfl hb12 rfl (ev_load_rdD (l := (linesB l).getD k []) (i := 0) (dflt := 0) (ElIn.get (m := blks _) (k := k) hEq2 hMq2 sL (fun q hq => (hm10).own q (List.mem_append_right _ (List.mem_append_left _ hq)))) uT5 rfl oM sL rfl) ?_
       refine rw_gyq (s := 29) rfl rfl hb12 rfl (ev_u8_eql (b := 46#8) rfl rfl) <| rw_q rfl (ev_pick_tk rfl hb12 rfl) <| rN ?_
       refine CW.abs (fun g => g 0 = v ∧ g 5 = r1q2 ∧ g 6 = r2q2 ∧ g 7 = v7 ∧ g 8 = (i64 (k : Int)) ∧ g 20 = (bl (decide ((k : Int) < (lsq2.length : Int)))) ∧ g 37 = (bl ((((linesB l).getD k []).getD 0 0) == 46#8)) ∧ True) ⟨s0, s5, s6, s7, s8, rfl, rfl, trivial⟩ ?_
       rintro fr13 ⟨s0, s5, s6, s7, s8, s20, s37, _⟩
       refine cw_cond s37 (fun hc14 => ?_) (fun hc14 => ?_)
       · -- true
         have hc14p := eq_of_beq hc14
         refine sR <| rw_c rfl (or_buildSlice_cl u8 [] u8_one hm10 uT24 ti5 rfl (by simp [pairs]) rfl) ?_
         rintro _ w15 ⟨b38, rfl, _ew15, hm15⟩
         refine rw_q rfl (ev_assign (v := (slc b38 0 0 0)) rfl) ?_
         refine rN (cw_seq (sR ?_))
         refine rM rfl s8 <| rw_q rfl (ev_i64_add (b := 1) rfl rfl oM oM) <| rw_q rfl (ev_assign (v := (i64 ((k : Int) + 1))) rfl) ?_
         refine rN (cw_block ?_)
         refine cw_loop (fun g wv => ∃ (k2 : Nat) (v9 : Value) (beh : List (BitVec 8)) (Hb : List (Nat × Obj)), (k2 ≤ (linesB l).length) ∧ (beh ++ joinL ((linesB l).drop k2) = joinL ((linesB l).drop (k + 1))) ∧ (Grow u8 5 v9 beh Hb) ∧ g 0 = v ∧ g 5 = r1q2 ∧ g 6 = r2q2 ∧ g 7 = v7 ∧ g 8 = (i64 (k : Int)) ∧ g 9 = v9 ∧ g 10 = (i64 (k2 : Int)) ∧ g 20 = (bl (decide ((k : Int) < (lsq2.length : Int)))) ∧ g 37 = (bl ((((linesB l).getD k []).getD 0 0) == 46#8)) ∧ Mem wv (restOf w0) (Hsq2 ++ (Heq2 ++ (Hrq2 ++ (Hm ++ (Hb ++ ([]))))))) (fun g wv => (((linesB l).length : Int) - RowKit.intOf (g 10)).toNat) ?_ ?_
         have hm16 := (Mem.pick4 [_] Hsq2 Heq2 Hrq2 Hm _ hm15)
         have hm17 := (Mem.pick4 Hm [_] Hsq2 Heq2 Hrq2 _ hm16)
         have hm18 := (Mem.pick4 Hrq2 Hm [_] Hsq2 Heq2 _ hm17)
         have hm19 := (Mem.pick4 Heq2 Hrq2 Hm [_] Hsq2 _ hm18)
         · exact ⟨(k + 1), (slc b38 0 0 0), [], [(b38, .cells (cl u8 ([])) 5 (0, 0))], oM, (List.nil_append _), (Grow.of u8 5 b38 []), s0, s5, s6, s7, s8, rfl, rfl, s20, s37, (by
           have hT := hm19
           simp only [List.append_assoc, List.cons_append, List.nil_append, List.append_nil] at hT ⊢
           exact hT)⟩
         · rintro fr20 w21 ⟨k2, v9, beh, Hb, hk2, hb, hg2, s0, s5, s6, s7, s8, s9, s10, s20, s37, hm21⟩
           have z9 := s9
           have z10 := s10
           have hbl : beh.length + (joinL ((linesB l).drop k2)).length ≤ (joinL (linesB l)).length := by have h1 := congrArg List.length hb; have h2 := join_drop_le (linesB l) (k + 1); rw [List.length_append] at h1; omega
           refine cw_seq (sR ?_)
           refine rM rfl s10 <| rM rfl s5 <| rw_q (v := (i64 (lsq2.length : Int))) rfl (ev_len_rd (grq2.rd hm21) uT69 rfl) <| rw_q rfl (ev_i64_lss rfl rfl) <| rN ?_
           refine cw_cond rfl (fun hc22 => ?_) (fun hc22 => ?_)
           · -- true
             have hc22p := of_decide_eq_true hc22
             have hel2 : (joinL ((linesB l).drop k2)).length = ((linesB l).getD k2 []).length + 2 + (joinL ((linesB l).drop (k2 + 1))).length := by rw [getD_drop (d := []) (by omega : k2 < (linesB l).length)]; simp only [joinL, List.flatMap_cons, List.length_append, List.length_cons, List.length_nil]
             refine cw_skip (kThen_normal (cw_seq (cw_block (sR ?_))))
             refine rM rfl s9 <| rM rfl s5 <| rM rfl s10 <| rw_q rfl (ev_indexAddr_rdv (grq2.rd hm21) uT69 ti24 rfl rfl oM sL) <| rw_q (v := (slv (lsq2.getD k2 sl0))) rfl (ev_load_rdD (l := lsq2) (i := (k2 : Int)) (dflt := sl0) (grq2.rd hm21) uT24 rfl oM sL rfl) <| rw_c rfl (or_append (f := u8) (Hs := Hb) (H := Hsq2 ++ (Heq2 ++ (Hrq2 ++ (Hm ++ ([]))))) (Mem.pick4 Hsq2 Heq2 Hrq2 Hm Hb _ hm21) hg2 rfl rfl (ElIn.get (m := blks _) (k := k2) hEq2 hMq2 sL (fun q hq => (hm21).own q (List.mem_append_right _ (List.mem_append_left _ hq)))) uT24 uT24 ti5 rfl u8_one sL sL) ?_
             rintro sv23 w23 ⟨Hs23, hm23, g23⟩
             replace g23 : Grow u8 5 sv23 (beh ++ ((linesB l).getD k2 [])) Hs23 := g23
             refine rA rfl (v := sv23) rfl ?_
             refine rN (cw_region ?_)
             refine rM rfl (v := sv23) rfl <| rw_c rfl (or_buildSlice_cl u8 [13#8, 10#8] u8_one hm23 uT24 ti5 rfl rfl rfl) ?_
             rintro _ w24 ⟨b54, rfl, _ew24, hm24⟩
             refine rw_c rfl (or_append (f := u8) (Hs := Hs23) (H := [(b54, .cells (cl u8 ([13#8, 10#8])) 5 (0, 0))] ++ (Hsq2 ++ (Heq2 ++ (Hrq2 ++ (Hm ++ ([])))))) (Mem.pick [_] Hs23 _ hm24) g23 rfl rfl (Rd.mkA hm24.h0) uT24 uT24 ti5 rfl u8_one sL sL) ?_
             rintro sv25 w25 ⟨Hs25, hm25, g25⟩
             replace g25 : Grow u8 5 sv25 ((beh ++ ((linesB l).getD k2 [])) ++ ([13#8, 10#8])) Hs25 := g25
             refine rA rfl (v := sv25) rfl ?_
             refine rw_nil (kBlk_normal ?_)
             have hm26 := Mem.drop ([(b54, .cells (cl u8 ([13#8, 10#8])) 5 (0, 0))]) _ (Mem.pick Hs25 [_] _ hm25)
             refine CW.abs (fun g => g 0 = v ∧ g 5 = r1q2 ∧ g 6 = r2q2 ∧ g 7 = v7 ∧ g 8 = (i64 (k : Int)) ∧ g 9 = sv25 ∧ g 10 = (i64 (k2 : Int)) ∧ g 20 = (bl (decide ((k : Int) < (lsq2.length : Int)))) ∧ g 37 = (bl ((((linesB l).getD k []).getD 0 0) == 46#8)) ∧ g 44 = (bl (decide ((k2 : Int) < (lsq2.length : Int)))) ∧ True) ⟨s0, s5, s6, s7, s8, rfl, s10, s20, s37, rfl, trivial⟩ ?_
             rintro fr27 ⟨s0, s5, s6, s7, s8, s9, s10, s20, s37, s44, _⟩
             refine cw_region <| rM rfl s10 <| rw_q rfl (ev_i64_add (b := 1) rfl rfl oM oM) <| rw_q rfl (ev_assign (v := (i64 ((k2 : Int) + 1))) rfl) <| rN ?_
             have hm28 := (Mem.pick4 Hs25 Hsq2 Heq2 Hrq2 Hm _ hm26)
             have hm29 := (Mem.pick4 Hm Hs25 Hsq2 Heq2 Hrq2 _ hm28)
             have hm30 := (Mem.pick4 Hrq2 Hm Hs25 Hsq2 Heq2 _ hm29)
             have hm31 := (Mem.pick4 Heq2 Hrq2 Hm Hs25 Hsq2 _ hm30)
             exact ⟨⟨(k2 + 1), sv25, ((beh ++ ((linesB l).getD k2 [])) ++ ([13#8, 10#8])), Hs25, oM, (join_succ hb oM), g25, s0, s5, s6, s7, s8, s9, rfl, s20, s37, hm31⟩, meas rfl z10 oM oM⟩
           · -- false
             have hc22p := of_decide_eq_false hc22
             have hel3 : beh.length ≤ (joinL (linesB l)).length := by have h1 := congrArg List.length hb; have h2 := join_drop_le (linesB l) (k + 1); rw [List.length_append] at h1; omega
             refine cw_exit ?_
             refine kThen_exit (kThen_exit (kBlk_hit ?_))
             refine sR <| rM rfl s7 <| rM rfl s9 <| rM rfl s6 <| rw_c rfl (or_append (f := u8) (Hs := Hb) (H := Hsq2 ++ (Heq2 ++ (Hrq2 ++ (Hm ++ ([]))))) (Mem.pick4 Hsq2 Heq2 Hrq2 Hm Hb _ hm21) hg2 rfl rfl (gr2q2.rd (Mem.pick2 Hsq2 Heq2 Hrq2 _ hm21)) uT24 uT24 ti5 rfl u8_one sL sL) ?_
             rintro sv32 w32 ⟨Hs32, hm32, g32⟩
             replace g32 : Grow u8 5 sv32 (beh ++ (restB l)) Hs32 := g32
             refine rA rfl (v := v7) rfl <| rA rfl (v := sv32) rfl <| rw_q rfl (ev_assign (v := (i64 0)) rfl) ?_
             refine rN (cw_ret ?_)
             refine kThen_ret (kBlk_ret (kThen_ret (kBlk_ret ?_)))
             refine fnPost_ret [v7, sv32, (i64 0)] ⟨rfl, rfl, rfl, trivial⟩ ?_
             have hz : unB l = (mail, joinL ((linesB l).drop (k + 1)) ++ restB l, 0) := by rw [← hu, getD_drop (d := []) (by omega : k < (linesB l).length), un_one (one_dot hb12p hc14p)]
             have hbe : beh = joinL ((linesB l).drop (k + 1)) := by have h := hb; rw [List.drop_of_length_le (by omega : (linesB l).length ≤ k2)] at h; simpa [joinL] using h
             have hm33 := Mem.drop Hsq2 _ (Mem.pick Hs32 Hsq2 _ hm32)
             have hm34 := Mem.drop Heq2 _ (Mem.pick Hs32 Heq2 _ hm33)
             have hm35 := Mem.drop Hrq2 _ (Mem.pick Hs32 Hrq2 _ hm34)
             have hm36 := (Mem.pick Hs32 Hm _ hm35)
             rw [hz]
             exact ⟨v7, sv32, Hm, Hs32, rfl, hg, Grow.cast g32 (by rw [hbe]), by simpa using hm36⟩
       · -- false
         have hc14p := ne_of_beq_false hc14
         refine cw_skip (kThen_normal (cw_seq (sR ?_)))
         refine rM rfl s5 <| rM rfl s8 <| rw_q rfl (ev_indexAddr_rdv (grq2.rd hm10) uT69 ti24 rfl rfl oM sL) <| rw_q (v := (slv (lsq2.getD k sl0))) rfl (ev_load_rdD (l := lsq2) (i := (k : Int)) (dflt := sl0) (grq2.rd hm10) uT24 rfl oM sL rfl) <| rw_q (v := (i64 (((linesB l).getD k []).length : Int))) rfl (ev_len_rd (ElIn.get (m := blks _) (k := k) hEq2 hMq2 sL (fun q hq => (hm10).own q (List.mem_append_right _ (List.mem_append_left _ hq)))) uT24 rfl) <| rw_q rfl (ev_i64_gtr (b := 0) rfl rfl) ?_
         refine rw_q rfl (ev_move (v := (bl (decide (0 < (((linesB l).getD k []).length : Int))))) rfl) ?_
         rcases Bool.eq_false_or_eq_true (decide (0 < (((linesB l).getD k []).length : Int))) with hb37 | hb37
         · -- true
           have hb37p := of_decide_eq_true hb37
           refine rw_gyq (s := 66) rfl rfl hb37 rfl (ev_move s5) <| rw_gyq (s := 66) rfl rfl hb37 rfl (ev_move s8) <| rw_gyq (s := 66) rfl rfl hb37 rfl (ev_indexAddr_rdv (grq2.rd hm10) uT69 ti24 rfl rfl oM sL) <| rw_gyq (s := 66) rfl rfl hb37 rfl (ev_load_rdD (l := lsq2) (i := (k : Int)) (dflt := sl0) (grq2.rd hm10) uT24 rfl oM sL rfl) <| rw_gyq (s := 66) rfl rfl hb37 rfl (ev_indexAddr_rdv (i := 0) (ElIn.get (m := blks _) (k := k) hEq2 hMq2 sL (fun q hq => (hm10).own q (List.mem_append_right _ (List.mem_append_left _ hq)))) uT24 ti5 rfl rfl oM sL) <| rw_gyq (s := 66) rfl rfl hb37 rfl (ev_load_rdD (l := (linesB l).getD k []) (i := 0) (dflt := 0) (ElIn.get (m := blks _) (k := k) hEq2 hMq2 sL (fun q hq => (hm10).own q (List.mem_append_right _ (List.mem_append_left _ hq)))) uT5 rfl oM sL rfl) ?_
           refine rw_gyq (s := 66) rfl rfl hb37 rfl (ev_u8_eql (b := 46#8) rfl rfl) <| rw_q rfl (ev_pick_tk rfl hb37 rfl) <| rN ?_
           refine CW.abs (fun g => g 0 = v ∧ g 5 = r1q2 ∧ g 6 = r2q2 ∧ g 7 = v7 ∧ g 8 = (i64 (k : Int)) ∧ g 20 = (bl (decide ((k : Int) < (lsq2.length : Int)))) ∧ g 37 = (bl ((((linesB l).getD k []).getD 0 0) == 46#8)) ∧ g 74 = (bl ((((linesB l).getD k []).getD 0 0) == 46#8)) ∧ True) ⟨s0, s5, s6, s7, s8, s20, s37, rfl, trivial⟩ ?_
           rintro fr38 ⟨s0, s5, s6, s7, s8, s20, s37, s74, _⟩
           refine cw_cond_f s74 hc14 <| cw_region <| rM rfl s7 <| rM rfl s5 <| rM rfl s8 <| rw_q rfl (ev_indexAddr_rdv (grq2.rd hm10) uT69 ti24 rfl rfl oM sL) ?_
           refine rw_q (v := (slv (lsq2.getD k sl0))) rfl (ev_load_rdD (l := lsq2) (i := (k : Int)) (dflt := sl0) (grq2.rd hm10) uT24 rfl oM sL rfl) <| rw_c rfl (or_append (f := u8) (Hs := Hm) (H := Hsq2 ++ (Heq2 ++ (Hrq2 ++ ([])))) (Mem.pick3 Hsq2 Heq2 Hrq2 Hm _ hm10) hg rfl rfl (ElIn.get (m := blks _) (k := k) hEq2 hMq2 sL (fun q hq => (hm10).own q (List.mem_append_right _ (List.mem_append_left _ hq)))) uT24 uT24 ti5 rfl u8_one sL sL) ?_
           rintro sv39 w39 ⟨Hs39, hm39, g39⟩
           replace g39 : Grow u8 5 sv39 (mail ++ ((linesB l).getD k [])) Hs39 := g39
           refine rA rfl (v := sv39) rfl ?_
           refine rN (cw_region ?_)
           refine rM rfl (v := sv39) rfl <| rw_c rfl (or_buildSlice_cl u8 [13#8, 10#8] u8_one hm39 uT24 ti5 rfl rfl rfl) ?_
           rintro _ w40 ⟨b89, rfl, _ew40, hm40⟩
           refine rw_c rfl (or_append (f := u8) (Hs := Hs39) (H := [(b89, .cells (cl u8 ([13#8, 10#8])) 5 (0, 0))] ++ (Hsq2 ++ (Heq2 ++ (Hrq2 ++ ([]))))) (Mem.pick [_] Hs39 _ hm40) g39 rfl rfl (Rd.mkA hm40.h0) uT24 uT24 ti5 rfl u8_one (by (try rw [sub_one]); simp only [List.length_append, List.length_drop, List.length_cons, List.length_nil]; omega) (by (try rw [sub_one]); simp only [List.length_append, List.length_drop, List.length_cons, List.length_nil]; omega)) ?_
           rintro sv41 w41 ⟨Hs41, hm41, g41⟩
           replace g41 : Grow u8 5 sv41 ((mail ++ ((linesB l).getD k [])) ++ ([13#8, 10#8])) Hs41 := g41
           refine rA rfl (v := sv41) rfl ?_
           refine rw_nil (kBlk_normal (cw_region ?_))
           refine rM rfl s8 <| rw_q rfl (ev_i64_add (b := 1) rfl rfl oM oM) <| rw_q rfl (ev_assign (v := (i64 ((k : Int) + 1))) rfl) <| rN ?_
           have hm42 := Mem.drop ([(b89, .cells (cl u8 ([13#8, 10#8])) 5 (0, 0))]) _ (Mem.pick Hs41 [_] _ hm41)
           have hm43 := (Mem.pick3 Hs41 Hsq2 Heq2 Hrq2 _ hm42)
           have hm44 := (Mem.pick3 Hrq2 Hs41 Hsq2 Heq2 _ hm43)
           have hm45 := (Mem.pick3 Heq2 Hrq2 Hs41 Hsq2 _ hm44)
           exact ⟨⟨(k + 1), sv41, (mail ++ stripB ((linesB l).getD k []) ++ [13#8, 10#8]), Hs41, oM, (by rw [← hu, getD_drop (d := []) (by omega : k < (linesB l).length), un_more (not_dot (fun _ => hc14p))]), (by have h1 := join_take_succ (L := linesB l) (k := k) oM; have h2 := strip_len ((linesB l).getD k []); rw [h1]; simp only [List.length_append, List.length_cons, List.length_nil]; omega), (Grow.cast g41 (by rw [strip_no (fun _ => hc14p)])), s0, s5, s6, rfl, rfl, hm45⟩, meas rfl z8 oM oM⟩
         · -- false
           have hb37p := of_decide_eq_false hb37
           refine rw_gn (s := 66) rfl rfl hb37 rfl <| rw_gn (s := 66) rfl rfl hb37 rfl <| rw_gn (s := 66) rfl rfl hb37 rfl <| rw_gn (s := 66) rfl rfl hb37 rfl <| rw_gn (s := 66) rfl rfl hb37 rfl <| rw_gn (s := 66) rfl rfl hb37 rfl ?_
           refine rw_gn (s := 66) rfl rfl hb37 rfl <| rw_q rfl (ev_pick_fk rfl hb37 rfl) <| rN ?_
           refine CW.abs (fun g => g 0 = v ∧ g 5 = r1q2 ∧ g 6 = r2q2 ∧ g 7 = v7 ∧ g 8 = (i64 (k : Int)) ∧ g 20 = (bl (decide ((k : Int) < (lsq2.length : Int)))) ∧ g 37 = (bl ((((linesB l).getD k []).getD 0 0) == 46#8)) ∧ g 74 = (bl false) ∧ True) ⟨s0, s5, s6, s7, s8, s20, s37, rfl, trivial⟩ ?_
           rintro fr46 ⟨s0, s5, s6, s7, s8, s20, s37, s74, _⟩
           refine cw_cond_f s74 (by decide) <| cw_region <| rM rfl s7 <| rM rfl s5 <| rM rfl s8 <| rw_q rfl (ev_indexAddr_rdv (grq2.rd hm10) uT69 ti24 rfl rfl oM sL) ?_
           refine rw_q (v := (slv (lsq2.getD k sl0))) rfl (ev_load_rdD (l := lsq2) (i := (k : Int)) (dflt := sl0) (grq2.rd hm10) uT24 rfl oM sL rfl) <| rw_c rfl (or_append (f := u8) (Hs := Hm) (H := Hsq2 ++ (Heq2 ++ (Hrq2 ++ ([])))) (Mem.pick3 Hsq2 Heq2 Hrq2 Hm _ hm10) hg rfl rfl (ElIn.get (m := blks _) (k := k) hEq2 hMq2 sL (fun q hq => (hm10).own q (List.mem_append_right _ (List.mem_append_left _ hq)))) uT24 uT24 ti5 rfl u8_one sL sL) ?_
           rintro sv47 w47 ⟨Hs47, hm47, g47⟩
           replace g47 : Grow u8 5 sv47 (mail ++ ((linesB l).getD k [])) Hs47 := g47
           refine rA rfl (v := sv47) rfl ?_
           refine rN (cw_region ?_)
           refine rM rfl (v := sv47) rfl <| rw_c rfl (or_buildSlice_cl u8 [13#8, 10#8] u8_one hm47 uT24 ti5 rfl rfl rfl) ?_
           rintro _ w48 ⟨b89_1, rfl, _ew48, hm48⟩
           refine rw_c rfl (or_append (f := u8) (Hs := Hs47) (H := [(b89_1, .cells (cl u8 ([13#8, 10#8])) 5 (0, 0))] ++ (Hsq2 ++ (Heq2 ++ (Hrq2 ++ ([]))))) (Mem.pick [_] Hs47 _ hm48) g47 rfl rfl (Rd.mkA hm48.h0) uT24 uT24 ti5 rfl u8_one (by (try rw [sub_one]); simp only [List.length_append, List.length_drop, List.length_cons, List.length_nil]; omega) (by (try rw [sub_one]); simp only [List.length_append, List.length_drop, List.length_cons, List.length_nil]; omega)) ?_
           rintro sv49 w49 ⟨Hs49, hm49, g49⟩
           replace g49 : Grow u8 5 sv49 ((mail ++ ((linesB l).getD k [])) ++ ([13#8, 10#8])) Hs49 := g49
           refine rA rfl (v := sv49) rfl ?_
           refine rw_nil (kBlk_normal (cw_region ?_))
           refine rM rfl s8 <| rw_q rfl (ev_i64_add (b := 1) rfl rfl oM oM) <| rw_q rfl (ev_assign (v := (i64 ((k : Int) + 1))) rfl) <| rN ?_
           have hm50 := Mem.drop ([(b89_1, .cells (cl u8 ([13#8, 10#8])) 5 (0, 0))]) _ (Mem.pick Hs49 [_] _ hm49)
           have hm51 := (Mem.pick3 Hs49 Hsq2 Heq2 Hrq2 _ hm50)
           have hm52 := (Mem.pick3 Hrq2 Hs49 Hsq2 Heq2 _ hm51)
           have hm53 := (Mem.pick3 Heq2 Hrq2 Hs49 Hsq2 _ hm52)
           exact ⟨⟨(k + 1), sv49, (mail ++ stripB ((linesB l).getD k []) ++ [13#8, 10#8]), Hs49, oM, (by rw [← hu, getD_drop (d := []) (by omega : k < (linesB l).length), un_more (not_dot (fun _ => hc14p))]), (by have h1 := join_take_succ (L := linesB l) (k := k) oM; have h2 := strip_len ((linesB l).getD k []); rw [h1]; simp only [List.length_append, List.length_cons, List.length_nil]; omega), (Grow.cast g49 (by rw [strip_no (fun h => absurd h oM)])), s0, s5, s6, rfl, rfl, hm53⟩, meas rfl z8 oM oM⟩
     · -- false
       have hb12p := ne_of_beq_false hb12
       refine rw_gn (s := 29) rfl rfl hb12 rfl <| rw_gn (s := 29) rfl rfl hb12 rfl <| rw_gn (s := 29) rfl rfl hb12 rfl <| rw_gn (s := 29) rfl rfl hb12 rfl <| rw_gn (s := 29) rfl rfl hb12 rfl <| rw_gn (s := 29) rfl rfl hb12 rfl ?_
       refine rw_gn (s := 29) rfl rfl hb12 rfl <| rw_q rfl (ev_pick_fk rfl hb12 rfl) <| rN ?_
       refine CW.abs (fun g => g 0 = v ∧ g 5 = r1q2 ∧ g 6 = r2q2 ∧ g 7 = v7 ∧ g 8 = (i64 (k : Int)) ∧ g 20 = (bl (decide ((k : Int) < (lsq2.length : Int)))) ∧ g 37 = (bl false) ∧ True) ⟨s0, s5, s6, s7, s8, rfl, rfl, trivial⟩ ?_
       rintro fr54 ⟨s0, s5, s6, s7, s8, s20, s37, _⟩
       refine cw_cond_f s37 (by decide) ?_
       refine cw_skip (kThen_normal (cw_seq (sR ?_)))
       refine rM rfl s5 <| rM rfl s8 <| rw_q rfl (ev_indexAddr_rdv (grq2.rd hm10) uT69 ti24 rfl rfl oM sL) <| rw_q (v := (slv (lsq2.getD k sl0))) rfl (ev_load_rdD (l := lsq2) (i := (k : Int)) (dflt := sl0) (grq2.rd hm10) uT24 rfl oM sL rfl) <| rw_q (v := (i64 (((linesB l).getD k []).length : Int))) rfl (ev_len_rd (ElIn.get (m := blks _) (k := k) hEq2 hMq2 sL (fun q hq => (hm10).own q (List.mem_append_right _ (List.mem_append_left _ hq)))) uT24 rfl) <| rw_q rfl (ev_i64_gtr (b := 0) rfl rfl) ?_
       refine rw_q rfl (ev_move (v := (bl (decide (0 < (((linesB l).getD k []).length : Int))))) rfl) ?_
       rcases Bool.eq_false_or_eq_true (decide (0 < (((linesB l).getD k []).length : Int))) with hb55 | hb55
       · -- true
         have hb55p := of_decide_eq_true hb55
         refine rw_gyq (s := 66) rfl rfl hb55 rfl (ev_move s5) <| rw_gyq (s := 66) rfl rfl hb55 rfl (ev_move s8) <| rw_gyq (s := 66) rfl rfl hb55 rfl (ev_indexAddr_rdv (grq2.rd hm10) uT69 ti24 rfl rfl oM sL) <| rw_gyq (s := 66) rfl rfl hb55 rfl (ev_load_rdD (l := lsq2) (i := (k : Int)) (dflt := sl0) (grq2.rd hm10) uT24 rfl oM sL rfl) <| rw_gyq (s := 66) rfl rfl hb55 rfl (ev_indexAddr_rdv (i := 0) (ElIn.get (m := blks _) (k := k) hEq2 hMq2 sL (fun q hq => (hm10).own q (List.mem_append_right _ (List.mem_append_left _ hq)))) uT24 ti5 rfl rfl oM sL) <| rw_gyq (s := 66) rfl rfl hb55 rfl (ev_load_rdD (l := (linesB l).getD k []) (i := 0) (dflt := 0) (ElIn.get (m := blks _) (k := k) hEq2 hMq2 sL (fun q hq => (hm10).own q (List.mem_append_right _ (List.mem_append_left _ hq)))) uT5 rfl oM sL rfl) ?_
         refine rw_gyq (s := 66) rfl rfl hb55 rfl (ev_u8_eql (b := 46#8) rfl rfl) <| rw_q rfl (ev_pick_tk rfl hb55 rfl) <| rN ?_
         refine CW.abs (fun g => g 0 = v ∧ g 5 = r1q2 ∧ g 6 = r2q2 ∧ g 7 = v7 ∧ g 8 = (i64 (k : Int)) ∧ g 20 = (bl (decide ((k : Int) < (lsq2.length : Int)))) ∧ g 37 = (bl false) ∧ g 74 = (bl ((((linesB l).getD k []).getD 0 0) == 46#8)) ∧ True) ⟨s0, s5, s6, s7, s8, s20, s37, rfl, trivial⟩ ?_
         rintro fr56 ⟨s0, s5, s6, s7, s8, s20, s37, s74, _⟩
         refine cw_cond s74 (fun hc57 => ?_) (fun hc57 => ?_)
         · -- true
           have hc57p := eq_of_beq hc57
           refine cw_region <| rM rfl s7 <| rM rfl s5 <| rM rfl s8 <| rw_q rfl (ev_indexAddr_rdv (grq2.rd hm10) uT69 ti24 rfl rfl oM sL) <| rw_q (v := (slv (lsq2.getD k sl0))) rfl (ev_load_rdD (l := lsq2) (i := (k : Int)) (dflt := sl0) (grq2.rd hm10) uT24 rfl oM sL rfl) ?_
           refine rw_q rfl (ev_slice_rd (i := 1) (j := (((linesB l).getD k []).length : Int)) (ElIn.get (m := blks _) (k := k) hEq2 hMq2 sL (fun q hq => (hm10).own q (List.mem_append_right _ (List.mem_append_left _ hq)))) uT24 ti5 rfl (optI_some (k := .i64) (i := 1) rfl) (optI_none _ _) oM sL sL) <| rw_c rfl (or_append (f := u8) (Hs := Hm) (H := Hsq2 ++ (Heq2 ++ (Hrq2 ++ ([])))) (Mem.pick3 Hsq2 Heq2 Hrq2 Hm _ hm10) hg rfl rfl (Rd.cast (l' := (((linesB l).getD k []).drop (1 : Int).toNat).take (((((linesB l).getD k []).length : Int) : Int).toNat - (1 : Int).toNat)) (Rd.sub (ElIn.get (m := blks _) (k := k) hEq2 hMq2 sL (fun q hq => (hm10).own q (List.mem_append_right _ (List.mem_append_left _ hq)))) oM sL sL) rfl) uT24 uT24 ti5 rfl u8_one (by (try rw [sub_one]); simp only [List.length_append, List.length_drop, List.length_cons, List.length_nil]; omega) (by (try rw [sub_one]); simp only [List.length_append, List.length_drop, List.length_cons, List.length_nil]; omega)) ?_
           rintro sv58 w58 ⟨Hs58, hm58, g58⟩
           replace g58 : Grow u8 5 sv58 (mail ++ ((((linesB l).getD k []).drop (1 : Int).toNat).take (((((linesB l).getD k []).length : Int) : Int).toNat - (1 : Int).toNat))) Hs58 := g58
           refine rA rfl (v := sv58) rfl ?_
           refine rN (cw_region ?_)
           refine rM rfl (v := sv58) rfl <| rw_c rfl (or_buildSlice_cl u8 [13#8, 10#8] u8_one hm58 uT24 ti5 rfl rfl rfl) ?_
           rintro _ w59 ⟨b89_2, rfl, _ew59, hm59⟩
           refine rw_c rfl (or_append (f := u8) (Hs := Hs58) (H := [(b89_2, .cells (cl u8 ([13#8, 10#8])) 5 (0, 0))] ++ (Hsq2 ++ (Heq2 ++ (Hrq2 ++ ([]))))) (Mem.pick [_] Hs58 _ hm59) g58 rfl rfl (Rd.mkA hm59.h0) uT24 uT24 ti5 rfl u8_one (by (try rw [sub_one]); simp only [List.length_append, List.length_drop, List.length_cons, List.length_nil]; omega) (by (try rw [sub_one]); simp only [List.length_append, List.length_drop, List.length_cons, List.length_nil]; omega)) ?_
           rintro sv60 w60 ⟨Hs60, hm60, g60⟩
           replace g60 : Grow u8 5 sv60 ((mail ++ ((((linesB l).getD k []).drop (1 : Int).toNat).take (((((linesB l).getD k []).length : Int) : Int).toNat - (1 : Int).toNat))) ++ ([13#8, 10#8])) Hs60 := g60
           refine rA rfl (v := sv60) rfl ?_
           refine rw_nil (kBlk_normal (cw_region ?_))
           refine rM rfl s8 <| rw_q rfl (ev_i64_add (b := 1) rfl rfl oM oM) <| rw_q rfl (ev_assign (v := (i64 ((k : Int) + 1))) rfl) <| rN ?_
           have hm61 := Mem.drop ([(b89_2, .cells (cl u8 ([13#8, 10#8])) 5 (0, 0))]) _ (Mem.pick Hs60 [_] _ hm60)
           have hm62 := (Mem.pick3 Hs60 Hsq2 Heq2 Hrq2 _ hm61)
           have hm63 := (Mem.pick3 Hrq2 Hs60 Hsq2 Heq2 _ hm62)
           have hm64 := (Mem.pick3 Heq2 Hrq2 Hs60 Hsq2 _ hm63)
           exact ⟨⟨(k + 1), sv60, (mail ++ stripB ((linesB l).getD k []) ++ [13#8, 10#8]), Hs60, oM, (by rw [← hu, getD_drop (d := []) (by omega : k < (linesB l).length), un_more (not_dot (fun h => absurd h hb12p))]), (by have h1 := join_take_succ (L := linesB l) (k := k) oM; have h2 := strip_len ((linesB l).getD k []); rw [h1]; simp only [List.length_append, List.length_cons, List.length_nil]; omega), (Grow.cast g60 (by rw [strip_yes oM hc57p, ← sub_one ((linesB l).getD k [])])), s0, s5, s6, rfl, rfl, hm64⟩, meas rfl z8 oM oM⟩
         · -- false
           have hc57p := ne_of_beq_false hc57
           refine cw_region <| rM rfl s7 <| rM rfl s5 <| rM rfl s8 <| rw_q rfl (ev_indexAddr_rdv (grq2.rd hm10) uT69 ti24 rfl rfl oM sL) <| rw_q (v := (slv (lsq2.getD k sl0))) rfl (ev_load_rdD (l := lsq2) (i := (k : Int)) (dflt := sl0) (grq2.rd hm10) uT24 rfl oM sL rfl) ?_
           refine rw_c rfl (or_append (f := u8) (Hs := Hm) (H := Hsq2 ++ (Heq2 ++ (Hrq2 ++ ([])))) (Mem.pick3 Hsq2 Heq2 Hrq2 Hm _ hm10) hg rfl rfl (ElIn.get (m := blks _) (k := k) hEq2 hMq2 sL (fun q hq => (hm10).own q (List.mem_append_right _ (List.mem_append_left _ hq)))) uT24 uT24 ti5 rfl u8_one sL sL) ?_
           rintro sv65 w65 ⟨Hs65, hm65, g65⟩
           replace g65 : Grow u8 5 sv65 (mail ++ ((linesB l).getD k [])) Hs65 := g65
           refine rA rfl (v := sv65) rfl ?_
           refine rN (cw_region ?_)
           refine rM rfl (v := sv65) rfl <| rw_c rfl (or_buildSlice_cl u8 [13#8, 10#8] u8_one hm65 uT24 ti5 rfl rfl rfl) ?_
           rintro _ w66 ⟨b89_3, rfl, _ew66, hm66⟩
           refine rw_c rfl (or_append (f := u8) (Hs := Hs65) (H := [(b89_3, .cells (cl u8 ([13#8, 10#8])) 5 (0, 0))] ++ (Hsq2 ++ (Heq2 ++ (Hrq2 ++ ([]))))) (Mem.pick [_] Hs65 _ hm66) g65 rfl rfl (Rd.mkA hm66.h0) uT24 uT24 ti5 rfl u8_one (by (try rw [sub_one]); simp only [List.length_append, List.length_drop, List.length_cons, List.length_nil]; omega) (by (try rw [sub_one]); simp only [List.length_append, List.length_drop, List.length_cons, List.length_nil]; omega)) ?_
           rintro sv67 w67 ⟨Hs67, hm67, g67⟩
           replace g67 : Grow u8 5 sv67 ((mail ++ ((linesB l).getD k [])) ++ ([13#8, 10#8])) Hs67 := g67
           refine rA rfl (v := sv67) rfl ?_
           refine rw_nil (kBlk_normal (cw_region ?_))
           refine rM rfl s8 <| rw_q rfl (ev_i64_add (b := 1) rfl rfl oM oM) <| rw_q rfl (ev_assign (v := (i64 ((k : Int) + 1))) rfl) <| rN ?_
           have hm68 := Mem.drop ([(b89_3, .cells (cl u8 ([13#8, 10#8])) 5 (0, 0))]) _ (Mem.pick Hs67 [_] _ hm67)
           have hm69 := (Mem.pick3 Hs67 Hsq2 Heq2 Hrq2 _ hm68)
           have hm70 := (Mem.pick3 Hrq2 Hs67 Hsq2 Heq2 _ hm69)
           have hm71 := (Mem.pick3 Heq2 Hrq2 Hs67 Hsq2 _ hm70)
           exact ⟨⟨(k + 1), sv67, (mail ++ stripB ((linesB l).getD k []) ++ [13#8, 10#8]), Hs67, oM, (by rw [← hu, getD_drop (d := []) (by omega : k < (linesB l).length), un_more (not_dot (fun h => absurd h hb12p))]), (by have h1 := join_take_succ (L := linesB l) (k := k) oM; have h2 := strip_len ((linesB l).getD k []); rw [h1]; simp only [List.length_append, List.length_cons, List.length_nil]; omega), (Grow.cast g67 (by rw [strip_no (fun _ => hc57p)])), s0, s5, s6, rfl, rfl, hm71⟩, meas rfl z8 oM oM⟩
       · -- false
         have hb55p := of_decide_eq_false hb55
         refine rw_gn (s := 66) rfl rfl hb55 rfl <| rw_gn (s := 66) rfl rfl hb55 rfl <| rw_gn (s := 66) rfl rfl hb55 rfl <| rw_gn (s := 66) rfl rfl hb55 rfl <| rw_gn (s := 66) rfl rfl hb55 rfl <| rw_gn (s := 66) rfl rfl hb55 rfl ?_
         refine rw_gn (s := 66) rfl rfl hb55 rfl <| rw_q rfl (ev_pick_fk rfl hb55 rfl) <| rN ?_
         refine CW.abs (fun g => g 0 = v ∧ g 5 = r1q2 ∧ g 6 = r2q2 ∧ g 7 = v7 ∧ g 8 = (i64 (k : Int)) ∧ g 20 = (bl (decide ((k : Int) < (lsq2.length : Int)))) ∧ g 37 = (bl false) ∧ g 74 = (bl false) ∧ True) ⟨s0, s5, s6, s7, s8, s20, s37, rfl, trivial⟩ ?_
         rintro fr72 ⟨s0, s5, s6, s7, s8, s20, s37, s74, _⟩
         refine cw_cond_f s74 (by decide) <| cw_region <| rM rfl s7 <| rM rfl s5 <| rM rfl s8 <| rw_q rfl (ev_indexAddr_rdv (grq2.rd hm10) uT69 ti24 rfl rfl oM sL) ?_
         refine rw_q (v := (slv (lsq2.getD k sl0))) rfl (ev_load_rdD (l := lsq2) (i := (k : Int)) (dflt := sl0) (grq2.rd hm10) uT24 rfl oM sL rfl) <| rw_c rfl (or_append (f := u8) (Hs := Hm) (H := Hsq2 ++ (Heq2 ++ (Hrq2 ++ ([])))) (Mem.pick3 Hsq2 Heq2 Hrq2 Hm _ hm10) hg rfl rfl (ElIn.get (m := blks _) (k := k) hEq2 hMq2 sL (fun q hq => (hm10).own q (List.mem_append_right _ (List.mem_append_left _ hq)))) uT24 uT24 ti5 rfl u8_one sL sL) ?_
         rintro sv73 w73 ⟨Hs73, hm73, g73⟩
         replace g73 : Grow u8 5 sv73 (mail ++ ((linesB l).getD k [])) Hs73 := g73
         refine rA rfl (v := sv73) rfl ?_
         refine rN (cw_region ?_)
         refine rM rfl (v := sv73) rfl <| rw_c rfl (or_buildSlice_cl u8 [13#8, 10#8] u8_one hm73 uT24 ti5 rfl rfl rfl) ?_
         rintro _ w74 ⟨b89_4, rfl, _ew74, hm74⟩
         refine rw_c rfl (or_append (f := u8) (Hs := Hs73) (H := [(b89_4, .cells (cl u8 ([13#8, 10#8])) 5 (0, 0))] ++ (Hsq2 ++ (Heq2 ++ (Hrq2 ++ ([]))))) (Mem.pick [_] Hs73 _ hm74) g73 rfl rfl (Rd.mkA hm74.h0) uT24 uT24 ti5 rfl u8_one (by (try rw [sub_one]); simp only [List.length_append, List.length_drop, List.length_cons, List.length_nil]; omega) (by (try rw [sub_one]); simp only [List.length_append, List.length_drop, List.length_cons, List.length_nil]; omega)) ?_
         rintro sv75 w75 ⟨Hs75, hm75, g75⟩
         replace g75 : Grow u8 5 sv75 ((mail ++ ((linesB l).getD k [])) ++ ([13#8, 10#8])) Hs75 := g75
         refine rA rfl (v := sv75) rfl ?_
         refine rw_nil (kBlk_normal (cw_region ?_))
         refine rM rfl s8 <| rw_q rfl (ev_i64_add (b := 1) rfl rfl oM oM) <| rw_q rfl (ev_assign (v := (i64 ((k : Int) + 1))) rfl) <| rN ?_
         have hm76 := Mem.drop ([(b89_4, .cells (cl u8 ([13#8, 10#8])) 5 (0, 0))]) _ (Mem.pick Hs75 [_] _ hm75)
         have hm77 := (Mem.pick3 Hs75 Hsq2 Heq2 Hrq2 _ hm76)
         have hm78 := (Mem.pick3 Hrq2 Hs75 Hsq2 Heq2 _ hm77)
         have hm79 := (Mem.pick3 Heq2 Hrq2 Hs75 Hsq2 _ hm78)
         exact ⟨⟨(k + 1), sv75, (mail ++ stripB ((linesB l).getD k []) ++ [13#8, 10#8]), Hs75, oM, (by rw [← hu, getD_drop (d := []) (by omega : k < (linesB l).length), un_more (not_dot (fun h => absurd h hb12p))]), (by have h1 := join_take_succ (L := linesB l) (k := k) oM; have h2 := strip_len ((linesB l).getD k []); rw [h1]; simp only [List.length_append, List.length_cons, List.length_nil]; omega), (Grow.cast g75 (by rw [strip_no (fun h => absurd h oM)])), s0, s5, s6, rfl, rfl, hm79⟩, meas rfl z8 oM oM⟩
   · -- false
     have hc11p := of_decide_eq_false hc11
     refine cw_exit ?_
     refine kThen_exit (kThen_exit (kBlk_hit ?_))
     refine sR <| rw_q rfl (ev_assign (v := (Value.slice none 0 0)) rfl) <| rw_q rfl (ev_assign (v := (Value.slice none 0 0)) rfl) <| rw_q rfl (ev_assign (v := (i64 7)) rfl) ?_
     refine rN (cw_ret ?_)
     refine fnPost_ret [(Value.slice none 0 0), (Value.slice none 0 0), (i64 7)] ⟨rfl, rfl, rfl, trivial⟩ ?_
     have hm80 := Mem.drop Hsq2 _ hm10
     have hm81 := Mem.drop Heq2 _ hm80
     have hm82 := Mem.drop Hrq2 _ hm81
     have hm83 := Mem.drop Hm _ hm82
     have hz : unB l = ([], [], 7) := by rw [← hu]; exact un_over oM
     rw [hz]
     exact ⟨.slice none 0 0, .slice none 0 0, [], [], rfl, Grow.none _ _, Grow.none _ _, hm83⟩


end Go.Proofs.Ytfmjfojhcmmgcaa
