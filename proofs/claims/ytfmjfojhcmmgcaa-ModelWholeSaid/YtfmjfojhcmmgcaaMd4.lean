/- Contracts: faults by the document. Conditions: none beyond those that each theorem states. -/
import Derived.Test.YtfmjfojhcmmgcaaMd3
namespace Go.Proofs.Ytfmjfojhcmmgcaa
set_option linter.unusedVariables false
set_option linter.unusedSimpArgs false
attribute [local irreducible] judgeF missF atI accF seenF jpre missK stepF

set_option maxHeartbeats 4000000 in
theorem c_rjudge (vs : Value) (ls : List SentT) (who : ByteArray) (vn : Value) (ln : List NoteT) (w0 : World)  (hrs : RdK (blks w0) encS 6 vs ls) (hqs : ∀ a ∈ ls, Rd (blks w0) u8 (slv a.body) a.body.2) (hls : ls.length ≤ 1048576) (hrn : RdK (blks w0) encN 5 vn ln) (hqn : ∀ a ∈ ln, Rd (blks w0) u8 (slv a.body) a.body.2) (hln : ln.length ≤ 1048576) : CallsR Try.prog 22 #[vs, (Value.string who), vn] w0 (fun r w1 => ∃ Hs, Grow i64 3 r (judgeF ls who ln) Hs ∧ Mem w1 (restOf w0) Hs) := by
 refine callsR_of_cw (args := [vs, (Value.string who), vn]) Try.func22 rfl Try.ntmps22 Try.results22 rfl ?_
 have hm0 : Mem w0 (restOf w0) [] := Mem.of_world w0
 refine sR <| rw_q rfl (ev_assign (v := (Value.slice none 0 0)) rfl) ?_
 refine rN (sR ?_)
 refine rw_c rfl (or_buildSlice_cl i64 [] i64_one hm0 uT35 ti3 rfl (by simp [pairs]) rfl) ?_
 rintro _ w1 ⟨b15, rfl, _ew1, hm1⟩
 refine rw_q rfl (ev_assign (v := (slc b15 0 0 0)) rfl) ?_
 refine rN (cw_seq (sR ?_))
 refine rw_q rfl (ev_assign (v := (i64 1)) rfl) ?_
 refine rN (cw_block ?_)
 refine cw_loop (fun g wv => ∃ (k : Nat) (v7 : Value) (Hs : List (Nat × Obj)), (k ≤ 5) ∧ (Grow i64 3 v7 (jpre ls who ln k) Hs) ∧ g 0 = vs ∧ g 1 = (Value.string who) ∧ g 2 = vn ∧ g 6 = (Value.slice none 0 0) ∧ g 7 = v7 ∧ g 8 = (i64 ((k : Int) + 1)) ∧ Mem wv (restOf w0) (Hs ++ ([]))) (fun g wv => (6 - RowKit.intOf (g 8)).toNat) ?_ ?_
 · exact ⟨0, (slc b15 0 0 0), [(b15, .cells (cl i64 ([])) 3 (0, 0))], (Nat.zero_le _), (Grow.cast (Grow.of i64 3 b15 []) jpre_0), rfl, rfl, rfl, rfl, rfl, rfl, hm1⟩
 · rintro fr2 w3 ⟨k, v7, Hs, hk, hg, s0, s1, s2, s6, s7, s8, hm3⟩
   have z7 := s7
   have z8 := s8
   have hjl := jpre_len (sent := ls) (who := who) (notes := ln) k
   refine cw_seq (sR ?_)
   refine rM rfl s8 <| rw_q rfl (ev_i64_leq (b := 5) rfl rfl) <| rN ?_
   refine cw_cond rfl (fun hc4 => ?_) (fun hc4 => ?_)
   · -- true
     have hc4p := of_decide_eq_true hc4
     refine cw_skip (kThen_normal (cw_seq (cw_block (sR ?_))))
     refine rw_q rfl (ev_assign (v := (bl false)) rfl) ?_
     refine rN (cw_seq (sR ?_))
     refine rw_q rfl (ev_assign (v := (i64 0)) rfl) ?_
     refine rN (cw_block ?_)
     refine cw_loop (fun g wv => ∃ (k2 : Nat) (fnd : Bool), (k2 ≤ ln.length) ∧ (fnd = accF ls who ln k2 ((k : Int) + 1)) ∧ g 0 = vs ∧ g 1 = (Value.string who) ∧ g 2 = vn ∧ g 6 = (Value.slice none 0 0) ∧ g 7 = v7 ∧ g 8 = (i64 ((k : Int) + 1)) ∧ g 9 = (bl fnd) ∧ g 10 = (i64 (k2 : Int)) ∧ g 17 = (bl (decide (((k : Int) + 1) ≤ 5))) ∧ Mem wv (restOf w0) (Hs ++ ([]))) (fun g wv => ((ln.length : Int) - RowKit.intOf (g 10)).toNat) ?_ ?_
     · exact ⟨0, false, (Nat.zero_le _), (acc_0 _), s0, s1, s2, s6, s7, s8, rfl, rfl, rfl, hm3⟩
     · rintro fr5 w6 ⟨k2, fnd, hk2, hf, s0, s1, s2, s6, s7, s8, s9, s10, s17, hm6⟩
       have z9 := s9
       have z10 := s10
       refine cw_seq (sR ?_)
       refine rM rfl s10 <| rM rfl s2 <| rw_q (v := (i64 (ln.length : Int))) rfl (ev_len_rk (RdK.ofRest hrn hm6) uT23 rfl) <| rw_q rfl (ev_i64_lss rfl rfl) <| rN ?_
       refine cw_cond rfl (fun hc7 => ?_) (fun hc7 => ?_)
       · -- true
         have hc7p := of_decide_eq_true hc7
         refine cw_skip (kThen_normal (cw_seq (cw_block (sR ?_))))
         refine rM rfl s2 <| rM rfl s10 <| rw_q rfl (ev_indexAddr_rk (i := (k2 : Int)) (RdK.ofRest hrn hm6) uT23 ti26 rfl rfl oM sL) <| rw_q (v := (Value.agg #[(Value.string ((ln.getD k2 note0).th)), (Value.string ((ln.getD k2 note0).frm)), (Value.string ((ln.getD k2 note0).id_)), (bl ((ln.getD k2 note0).sl)), (slv (ln.getD k2 note0).body)])) rfl (ev_load_rkA (i := (k2 : Int)) (dflt := note0) (cs := #[(Value.string ((ln.getD k2 note0).th)), (Value.string ((ln.getD k2 note0).frm)), (Value.string ((ln.getD k2 note0).id_)), (bl ((ln.getD k2 note0).sl)), (slv (ln.getD k2 note0).body)]) (RdK.ofRest hrn hm6) sL uT26 rfl ti26 rfl rfl (by decide) rfl) <| rw_c rfl (or_allocX hm6 ti26) ?_
         rintro _ w8 ⟨b11, rfl, _ew8, hm8⟩
         refine rw_n (or_storeW (cs := #[(Value.string ((ln.getD k2 note0).th)), (Value.string ((ln.getD k2 note0).frm)), (Value.string ((ln.getD k2 note0).id_)), (bl ((ln.getD k2 note0).sl)), (slv (ln.getD k2 note0).body)]) ti26 rfl rfl (by kernel_rfl) (one_arr (one_cons rfl (one_cons rfl (one_cons rfl (one_cons rfl (one_cons rfl one_nil)))))) hm8.h0 (by kernel_rfl) rfl) ?_
         rintro _ w9 uq9
         have hm9 : Mem w9 (restOf w0) ([(b11, .cells #[(Value.string ((ln.getD k2 note0).th)), (Value.string ((ln.getD k2 note0).frm)), (Value.string ((ln.getD k2 note0).id_)), (bl ((ln.getD k2 note0).sl)), (slv (ln.getD k2 note0).body)] 26 (0, 0))] ++ (Hs ++ ([]))) := hm8.upd0 uq9
         refine rN (sR ?_)
         refine rM rfl s0 <| rM rfl s1 <| rw_q (v := (Value.agg #[(Value.string ((ln.getD k2 note0).th)), (Value.string ((ln.getD k2 note0).frm)), (Value.string ((ln.getD k2 note0).id_)), (bl ((ln.getD k2 note0).sl)), (slv (ln.getD k2 note0).body)])) rfl (ev_loadW uT26 rfl ti26 rfl hm9.h0 (by kernel_rfl)) <| rw_c rfl (opR_call Try.func17 bd17 nm17 (args3 rfl rfl rfl) (c_mrplace vs ls who (ln.getD k2 note0) _ (RdK.ofRest hrs hm9) (fun a h => Rd.ofRest (hqs a h) hm9) sL (Rd.ofRest (rdQ NoteT.body hqn (k := k2) sD) hm9))) ?_
         rintro _ w10 ⟨rfl, _ew10⟩
         have hm10 := hm9.ext _ew10
         refine rw_q rfl (ev_assign (v := (i64 (atI ls who (ln.getD k2 note0)))) rfl) <| rN ?_
         refine CW.abs (fun g => g 0 = vs ∧ g 1 = (Value.string who) ∧ g 2 = vn ∧ g 6 = (Value.slice none 0 0) ∧ g 7 = v7 ∧ g 8 = (i64 ((k : Int) + 1)) ∧ g 9 = (bl fnd) ∧ g 10 = (i64 (k2 : Int)) ∧ g 11 = (ptr b11 0) ∧ g 12 = (i64 (atI ls who (ln.getD k2 note0))) ∧ g 17 = (bl (decide (((k : Int) + 1) ≤ 5))) ∧ g 23 = (bl (decide ((k2 : Int) < (ln.length : Int)))) ∧ True) ⟨s0, s1, s2, s6, s7, s8, s9, s10, rfl, rfl, s17, rfl, trivial⟩ ?_
         rintro fr12 ⟨s0, s1, s2, s6, s7, s8, s9, s10, s11, s12, s17, s23, _⟩
         refine cw_seq (sR ?_)
         refine rM rfl s8 <| rw_q rfl (ev_i64_eql (b := 1) rfl rfl) <| rN ?_
         refine cw_meet (J := fun g wv => ∃ (fa : Bool), (fa = (fnd || ((((k : Int) + 1) == 1) && decide ((atI ls who (ln.getD k2 note0)) < 0)))) ∧ g 0 = vs ∧ g 1 = (Value.string who) ∧ g 2 = vn ∧ g 6 = (Value.slice none 0 0) ∧ g 7 = v7 ∧ g 8 = (i64 ((k : Int) + 1)) ∧ g 9 = (bl fa) ∧ g 10 = (i64 (k2 : Int)) ∧ g 11 = (ptr b11 0) ∧ g 12 = (i64 (atI ls who (ln.getD k2 note0))) ∧ g 17 = (bl (decide (((k : Int) + 1) ≤ 5))) ∧ g 23 = (bl (decide ((k2 : Int) < (ln.length : Int)))) ∧ g 35 = (bl (((k : Int) + 1) == 1)) ∧ Mem wv (restOf w0) ([(b11, .cells #[(Value.string ((ln.getD k2 note0).th)), (Value.string ((ln.getD k2 note0).frm)), (Value.string ((ln.getD k2 note0).id_)), (bl ((ln.getD k2 note0).sl)), (slv (ln.getD k2 note0).body)] 26 (0, 0))] ++ (Hs ++ ([])))) ?_ ?_
         · skip
           refine cw_cond rfl (fun hc13 => ?_) (fun hc13 => ?_)
           · -- true
             have hc13p := eq_of_beq hc13
             refine cw_region <| rM rfl s9 <| rw_q rfl (ev_move (v := (bl fnd)) rfl) ?_
             rcases Bool.eq_false_or_eq_true fnd with hb14 | hb14
             · -- true
               refine rw_gn (s := 37) rfl rfl hb14 rfl <| rw_gn (s := 37) rfl rfl hb14 rfl <| rw_q rfl (ev_pick_tk rfl hb14 rfl) <| rw_q rfl (ev_assign (v := (bl true)) rfl) <| rN ?_
               exact ⟨(true), (by rw [hb14]; rfl), s0, s1, s2, s6, s7, s8, rfl, s10, s11, s12, s17, s23, rfl, hm10⟩
             · -- false
               refine rw_gyq (s := 37) rfl rfl hb14 rfl (ev_move s12) <| rw_gyq (s := 37) rfl rfl hb14 rfl (ev_i64_lss (b := 0) rfl rfl) <| rw_q rfl (ev_pick_fk rfl hb14 rfl) <| rw_q rfl (ev_assign (v := (bl (decide ((atI ls who (ln.getD k2 note0)) < 0)))) rfl) <| rN ?_
               exact ⟨(decide ((atI ls who (ln.getD k2 note0)) < 0)), (by rw [hb14, hc13]; simp), s0, s1, s2, s6, s7, s8, rfl, s10, s11, s12, s17, s23, rfl, hm10⟩
           · -- false
             have hc13p := ne_of_beq_false hc13
             refine cw_skip (kThen_normal ?_)
             exact ⟨(fnd), (by rw [hc13]; simp), s0, s1, s2, s6, s7, s8, s9, s10, s11, s12, s17, s23, rfl, hm10⟩
         · rintro fr15 w16 ⟨fa, hfa, s0, s1, s2, s6, s7, s8, s9, s10, s11, s12, s17, s23, s35, hm16⟩
           refine cw_seq (sR ?_)
           refine rw_q rfl (ev_assign (v := (i64 0)) rfl) ?_
           refine rN (cw_block ?_)
           refine cw_loop (fun g wv => ∃ (k3 : Nat) (fb : Bool), (k3 ≤ k2) ∧ (fb = (fa || ((((k : Int) + 1) == 2) && (ln.take k3).any (sameF (ln.getD k2 note0).frm (ln.getD k2 note0).id_)))) ∧ g 0 = vs ∧ g 1 = (Value.string who) ∧ g 2 = vn ∧ g 6 = (Value.slice none 0 0) ∧ g 7 = v7 ∧ g 8 = (i64 ((k : Int) + 1)) ∧ g 9 = (bl fb) ∧ g 10 = (i64 (k2 : Int)) ∧ g 11 = (ptr b11 0) ∧ g 12 = (i64 (atI ls who (ln.getD k2 note0))) ∧ g 13 = (i64 (k3 : Int)) ∧ g 17 = (bl (decide (((k : Int) + 1) ≤ 5))) ∧ g 23 = (bl (decide ((k2 : Int) < (ln.length : Int)))) ∧ g 35 = (bl (((k : Int) + 1) == 1)) ∧ Mem wv (restOf w0) ([(b11, .cells #[(Value.string ((ln.getD k2 note0).th)), (Value.string ((ln.getD k2 note0).frm)), (Value.string ((ln.getD k2 note0).id_)), (bl ((ln.getD k2 note0).sl)), (slv (ln.getD k2 note0).body)] 26 (0, 0))] ++ (Hs ++ ([])))) (fun g wv => ((k2 : Int) - RowKit.intOf (g 13)).toNat) ?_ ?_
           · exact ⟨0, fa, (Nat.zero_le _), (by simp), s0, s1, s2, s6, s7, s8, s9, s10, s11, s12, rfl, s17, s23, s35, hm16⟩
           · rintro fr17 w18 ⟨k3, fb, hk3, hfb, s0, s1, s2, s6, s7, s8, s9, s10, s11, s12, s13, s17, s23, s35, hm18⟩
             have z9 := s9
             have z13 := s13
             refine cw_seq (cw_seq ?_)
             refine cw_meet (J := fun g wv => ∃ (cd : Bool), (cd = (decide ((k3 : Int) < (k2 : Int)) && (((k : Int) + 1) == 2))) ∧ g 0 = vs ∧ g 1 = (Value.string who) ∧ g 2 = vn ∧ g 6 = (Value.slice none 0 0) ∧ g 7 = v7 ∧ g 8 = (i64 ((k : Int) + 1)) ∧ g 9 = (bl fb) ∧ g 10 = (i64 (k2 : Int)) ∧ g 11 = (ptr b11 0) ∧ g 12 = (i64 (atI ls who (ln.getD k2 note0))) ∧ g 13 = (i64 (k3 : Int)) ∧ g 17 = (bl (decide (((k : Int) + 1) ≤ 5))) ∧ g 23 = (bl (decide ((k2 : Int) < (ln.length : Int)))) ∧ g 35 = (bl (((k : Int) + 1) == 1)) ∧ g 47 = (bl cd) ∧ Mem wv (restOf w0) ([(b11, .cells #[(Value.string ((ln.getD k2 note0).th)), (Value.string ((ln.getD k2 note0).frm)), (Value.string ((ln.getD k2 note0).id_)), (bl ((ln.getD k2 note0).sl)), (slv (ln.getD k2 note0).body)] 26 (0, 0))] ++ (Hs ++ ([])))) ?_ ?_
             · skip
               refine cw_region <| rM rfl s13 <| rM rfl s10 <| rw_q rfl (ev_i64_lss rfl rfl) <| rw_q rfl (ev_move (v := (bl (decide ((k3 : Int) < (k2 : Int))))) rfl) ?_
               rcases Bool.eq_false_or_eq_true (decide ((k3 : Int) < (k2 : Int))) with hb19 | hb19
               · -- true
                 have hb19p := of_decide_eq_true hb19
                 refine rw_gyq (s := 44) rfl rfl hb19 rfl (ev_move s8) <| rw_gyq (s := 44) rfl rfl hb19 rfl (ev_i64_eql (b := 2) rfl rfl) <| rw_q rfl (ev_pick_tk rfl hb19 rfl) <| rN ?_
                 exact ⟨(((k : Int) + 1) == 2), (by rw [hb19, Bool.true_and]), s0, s1, s2, s6, s7, s8, s9, s10, s11, s12, s13, s17, s23, s35, rfl, hm18⟩
               · -- false
                 have hb19p := of_decide_eq_false hb19
                 refine rw_gn (s := 44) rfl rfl hb19 rfl <| rw_gn (s := 44) rfl rfl hb19 rfl <| rw_q rfl (ev_pick_fk rfl hb19 rfl) <| rN ?_
                 exact ⟨(false), (by rw [hb19]; rfl), s0, s1, s2, s6, s7, s8, s9, s10, s11, s12, s13, s17, s23, s35, rfl, hm18⟩
             · rintro fr20 w21 ⟨cd, hcd, s0, s1, s2, s6, s7, s8, s9, s10, s11, s12, s13, s17, s23, s35, s47, hm21⟩
               refine cw_cond s47 (fun hc22 => ?_) (fun hc22 => ?_)
               · -- true
                 have hcd2 := (Bool.and_eq_true_iff.1 (hcd.symm.trans hc22)); have hcd3 := of_decide_eq_true hcd2.1
                 refine cw_skip (kThen_normal (cw_seq (cw_block ?_)))
                 refine cw_draw [(0, false), (1, false), (2, false), (3, false), (4, false), (5, false), (6, false), (7, false), (8, false), (9, false), (10, false), (11, false), (12, false), (13, false), (14, false), (15, false), (16, false), (17, false)] 18 (by kernel_rfl) <| dM rfl rfl s9 <| dw_q rfl rfl (fun _ _hx => ev_move (v := (bl fb)) rfl) ?_
                 rcases Bool.eq_false_or_eq_true fb with hb23 | hb23
                 · -- true
                   refine dw_gqn (s := 51) rfl rfl rfl hb23 rfl <| dw_gqn (s := 51) rfl rfl rfl hb23 rfl <| dw_gqn (s := 51) rfl rfl rfl hb23 rfl <| dw_gqn (s := 51) rfl rfl rfl hb23 rfl <| dw_gqn (s := 51) rfl rfl rfl hb23 rfl <| dw_gqn (s := 51) rfl rfl rfl hb23 rfl ?_
                   refine dw_gqn (s := 51) rfl rfl rfl hb23 rfl <| dw_gqn (s := 51) rfl rfl rfl hb23 rfl <| dw_gqn (s := 51) rfl rfl rfl hb23 rfl <| dw_gun (s := 60) rfl rfl rfl rfl <| dw_gun (s := 60) rfl rfl rfl rfl <| dw_gun (s := 60) rfl rfl rfl rfl ?_
                   refine dw_gun (s := 60) rfl rfl rfl rfl <| dw_gun (s := 60) rfl rfl rfl rfl <| dw_gun (s := 60) rfl rfl rfl rfl <| dw_gun (s := 60) rfl rfl rfl rfl ?_
                   refine dw_nil (fun w24 _ew24 => ?_)
                   have hm24 := hm21.ext _ew24
                   refine rw_gu (s := 60) rfl rfl rfl <| rw_gn (s := 51) rfl rfl hb23 rfl <| rw_q rfl (ev_pick_tk rfl hb23 rfl) <| rw_q rfl (ev_assign (v := (bl true)) rfl) ?_
                   refine rw_nil (kBlk_normal ?_)
                   refine CW.abs (fun g => g 0 = vs ∧ g 1 = (Value.string who) ∧ g 2 = vn ∧ g 6 = (Value.slice none 0 0) ∧ g 7 = v7 ∧ g 8 = (i64 ((k : Int) + 1)) ∧ g 9 = (bl true) ∧ g 10 = (i64 (k2 : Int)) ∧ g 11 = (ptr b11 0) ∧ g 12 = (i64 (atI ls who (ln.getD k2 note0))) ∧ g 13 = (i64 (k3 : Int)) ∧ g 17 = (bl (decide (((k : Int) + 1) ≤ 5))) ∧ g 23 = (bl (decide ((k2 : Int) < (ln.length : Int)))) ∧ g 35 = (bl (((k : Int) + 1) == 1)) ∧ g 47 = (bl cd) ∧ True) ⟨s0, s1, s2, s6, s7, s8, rfl, s10, s11, s12, s13, s17, s23, s35, s47, trivial⟩ ?_
                   rintro fr25 ⟨s0, s1, s2, s6, s7, s8, s9, s10, s11, s12, s13, s17, s23, s35, s47, _⟩
                   refine cw_region <| rM rfl s13 <| rw_q rfl (ev_i64_add (b := 1) rfl rfl oM oM) <| rw_q rfl (ev_assign (v := (i64 ((k3 : Int) + 1))) rfl) <| rN ?_
                   exact ⟨⟨(k3 + 1), (true), oM, (by rw [← (any_succ (k := k3) oM (sameF (ln.getD k2 note0).frm (ln.getD k2 note0).id_)), hcd2.2, Bool.true_and, ← Bool.or_assoc]; have h := hfb; rw [hcd2.2, Bool.true_and] at h; rw [← h, hb23]; rfl), s0, s1, s2, s6, s7, s8, s9, s10, s11, s12, rfl, s17, s23, s35, hm24⟩, meas (rfl) z13 oM oM⟩
                 · -- false
                   refine dw_gqy (s := 51) rfl rfl rfl hb23 rfl (fun _ _hx => ev_move s2) <| dw_gqy (s := 51) rfl rfl rfl hb23 rfl (fun _ _hx => ev_move s13) <| dw_gqy (s := 51) rfl rfl rfl hb23 rfl (fun _ _hx => ev_indexAddr_rk (i := (k3 : Int)) (RdK.ofRest hrn (hm21.ext _hx)) uT23 ti26 rfl rfl oM sL) <| dw_gqy (s := 51) rfl rfl rfl hb23 rfl (fun _ _hx => ev_fa_rk (i := (k3 : Int)) (RdK.ofRest hrn (hm21.ext _hx)) sL uT26 rfl (by first | rfl | omega) ti9 rfl rfl) <| dw_gqy (s := 51) rfl rfl rfl hb23 rfl (fun _ _hx => ev_load_rk1 (i := (k3 : Int)) (dflt := note0) (u := (Value.string ((ln.getD k3 note0).frm))) (RdK.ofRest hrn (hm21.ext _hx)) sL uT9 rfl rfl (by decide) rfl) <| dw_gqy (s := 51) rfl rfl rfl hb23 rfl (fun _ _hx => ev_fa (r := 1) uT26 rfl (by first | rfl | omega) ti9 rfl s11) ?_
                   refine dw_gqy (s := 51) rfl rfl rfl hb23 rfl (fun _ _hx => ev_load1 uT9 rfl rfl (hm21.ext _hx).h0 rfl) <| dw_gqy (s := 51) rfl rfl rfl hb23 rfl (fun _ _hx => ev_str_eql (s := (ln.getD k3 note0).frm) (t := (ln.getD k2 note0).frm) rfl rfl) <| dw_gqy (s := 51) rfl rfl rfl hb23 rfl (fun _ _hx => ev_move (v := (bl (decide ((ln.getD k3 note0).frm = (ln.getD k2 note0).frm)))) rfl) ?_
                   rcases Bool.eq_false_or_eq_true (decide ((ln.getD k3 note0).frm = (ln.getD k2 note0).frm)) with hb26 | hb26
                   · -- true
                     have hb26p := of_decide_eq_true hb26
                     refine dw_gqy (s := 60) rfl rfl rfl hb26 rfl (fun _ _hx => ev_move s2) <| dw_gqy (s := 60) rfl rfl rfl hb26 rfl (fun _ _hx => ev_move s13) <| dw_gqy (s := 60) rfl rfl rfl hb26 rfl (fun _ _hx => ev_indexAddr_rk (i := (k3 : Int)) (RdK.ofRest hrn (hm21.ext _hx)) uT23 ti26 rfl rfl oM sL) <| dw_gqy (s := 60) rfl rfl rfl hb26 rfl (fun _ _hx => ev_fa_rk (i := (k3 : Int)) (RdK.ofRest hrn (hm21.ext _hx)) sL uT26 rfl (by first | rfl | omega) ti9 rfl rfl) <| dw_gqy (s := 60) rfl rfl rfl hb26 rfl (fun _ _hx => ev_load_rk1 (i := (k3 : Int)) (dflt := note0) (u := (Value.string ((ln.getD k3 note0).id_))) (RdK.ofRest hrn (hm21.ext _hx)) sL uT9 rfl rfl (by decide) rfl) <| dw_gqy (s := 60) rfl rfl rfl hb26 rfl (fun _ _hx => ev_fa (r := 2) uT26 rfl (by first | rfl | omega) ti9 rfl s11) ?_
                     refine dw_gqy (s := 60) rfl rfl rfl hb26 rfl (fun _ _hx => ev_load1 uT9 rfl rfl (hm21.ext _hx).h0 rfl) ?_
                     refine dw_nil (fun w27 _ew27 => ?_)
                     have hm27 := hm21.ext _ew27
                     refine rw_gyq (s := 60) rfl rfl hb26 rfl (ev_str_eql (s := (ln.getD k3 note0).id_) (t := (ln.getD k2 note0).id_) rfl rfl) <| rw_gyq (s := 51) rfl rfl hb23 rfl (ev_pick_tk rfl hb26 rfl) <| rw_q rfl (ev_pick_fk rfl hb23 rfl) <| rw_q rfl (ev_assign (v := (bl (decide ((ln.getD k3 note0).id_ = (ln.getD k2 note0).id_)))) rfl) ?_
                     refine rw_nil (kBlk_normal ?_)
                     refine CW.abs (fun g => g 0 = vs ∧ g 1 = (Value.string who) ∧ g 2 = vn ∧ g 6 = (Value.slice none 0 0) ∧ g 7 = v7 ∧ g 8 = (i64 ((k : Int) + 1)) ∧ g 9 = (bl (decide ((ln.getD k3 note0).id_ = (ln.getD k2 note0).id_))) ∧ g 10 = (i64 (k2 : Int)) ∧ g 11 = (ptr b11 0) ∧ g 12 = (i64 (atI ls who (ln.getD k2 note0))) ∧ g 13 = (i64 (k3 : Int)) ∧ g 17 = (bl (decide (((k : Int) + 1) ≤ 5))) ∧ g 23 = (bl (decide ((k2 : Int) < (ln.length : Int)))) ∧ g 35 = (bl (((k : Int) + 1) == 1)) ∧ g 47 = (bl cd) ∧ True) ⟨s0, s1, s2, s6, s7, s8, rfl, s10, s11, s12, s13, s17, s23, s35, s47, trivial⟩ ?_
                     rintro fr28 ⟨s0, s1, s2, s6, s7, s8, s9, s10, s11, s12, s13, s17, s23, s35, s47, _⟩
                     refine cw_region <| rM rfl s13 <| rw_q rfl (ev_i64_add (b := 1) rfl rfl oM oM) <| rw_q rfl (ev_assign (v := (i64 ((k3 : Int) + 1))) rfl) <| rN ?_
                     exact ⟨⟨(k3 + 1), (decide ((ln.getD k3 note0).id_ = (ln.getD k2 note0).id_)), oM, (by rw [← (any_succ (k := k3) oM (sameF (ln.getD k2 note0).frm (ln.getD k2 note0).id_)), hcd2.2, Bool.true_and, ← Bool.or_assoc]; have h := hfb; rw [hcd2.2, Bool.true_and] at h; rw [← h, hb23, show sameF (ln.getD k2 note0).frm (ln.getD k2 note0).id_ (ln.getD k3 note0) = (decide ((ln.getD k3 note0).id_ = (ln.getD k2 note0).id_)) from by unfold sameF; rw [hb26, Bool.true_and]]; rfl), s0, s1, s2, s6, s7, s8, s9, s10, s11, s12, rfl, s17, s23, s35, hm27⟩, meas (rfl) z13 oM oM⟩
                   · -- false
                     have hb26p := of_decide_eq_false hb26
                     refine dw_gqn (s := 60) rfl rfl rfl hb26 rfl <| dw_gqn (s := 60) rfl rfl rfl hb26 rfl <| dw_gqn (s := 60) rfl rfl rfl hb26 rfl <| dw_gqn (s := 60) rfl rfl rfl hb26 rfl <| dw_gqn (s := 60) rfl rfl rfl hb26 rfl <| dw_gqn (s := 60) rfl rfl rfl hb26 rfl ?_
                     refine dw_gqn (s := 60) rfl rfl rfl hb26 rfl ?_
                     refine dw_nil (fun w29 _ew29 => ?_)
                     have hm29 := hm21.ext _ew29
                     refine rw_gn (s := 60) rfl rfl hb26 rfl <| rw_gyq (s := 51) rfl rfl hb23 rfl (ev_pick_fk rfl hb26 rfl) <| rw_q rfl (ev_pick_fk rfl hb23 rfl) <| rw_q rfl (ev_assign (v := (bl false)) rfl) ?_
                     refine rw_nil (kBlk_normal ?_)
                     refine CW.abs (fun g => g 0 = vs ∧ g 1 = (Value.string who) ∧ g 2 = vn ∧ g 6 = (Value.slice none 0 0) ∧ g 7 = v7 ∧ g 8 = (i64 ((k : Int) + 1)) ∧ g 9 = (bl false) ∧ g 10 = (i64 (k2 : Int)) ∧ g 11 = (ptr b11 0) ∧ g 12 = (i64 (atI ls who (ln.getD k2 note0))) ∧ g 13 = (i64 (k3 : Int)) ∧ g 17 = (bl (decide (((k : Int) + 1) ≤ 5))) ∧ g 23 = (bl (decide ((k2 : Int) < (ln.length : Int)))) ∧ g 35 = (bl (((k : Int) + 1) == 1)) ∧ g 47 = (bl cd) ∧ True) ⟨s0, s1, s2, s6, s7, s8, rfl, s10, s11, s12, s13, s17, s23, s35, s47, trivial⟩ ?_
                     rintro fr30 ⟨s0, s1, s2, s6, s7, s8, s9, s10, s11, s12, s13, s17, s23, s35, s47, _⟩
                     refine cw_region <| rM rfl s13 <| rw_q rfl (ev_i64_add (b := 1) rfl rfl oM oM) <| rw_q rfl (ev_assign (v := (i64 ((k3 : Int) + 1))) rfl) <| rN ?_
                     exact ⟨⟨(k3 + 1), (false), oM, (by rw [← (any_succ (k := k3) oM (sameF (ln.getD k2 note0).frm (ln.getD k2 note0).id_)), hcd2.2, Bool.true_and, ← Bool.or_assoc]; have h := hfb; rw [hcd2.2, Bool.true_and] at h; rw [← h, hb23, show sameF (ln.getD k2 note0).frm (ln.getD k2 note0).id_ (ln.getD k3 note0) = false from by unfold sameF; rw [hb26]; rfl]; rfl), s0, s1, s2, s6, s7, s8, s9, s10, s11, s12, rfl, s17, s23, s35, hm29⟩, meas (rfl) z13 oM oM⟩
               · -- false
                 have hfb2 : fb = (fa || ((((k : Int) + 1) == 2) && (ln.take k2).any (sameF (ln.getD k2 note0).frm (ln.getD k2 note0).id_))) := by
                   rcases Bool.and_eq_false_iff.1 (hcd.symm.trans hc22) with h1 | h1
                   · have h2 := of_decide_eq_false h1; rw [hfb, show k3 = k2 by omega]
                   · rw [hfb, h1]; simp
                 refine cw_exit ?_
                 refine kThen_exit (kThen_exit (kBlk_hit ?_))
                 refine sR <| rM rfl s12 <| rw_q rfl (ev_i64_geq (b := 0) rfl rfl) <| rN ?_
                 refine cw_cond rfl (fun hc31 => ?_) (fun hc31 => ?_)
                 · -- true
                   have hc31p := of_decide_eq_true hc31
                   obtain ⟨aq, haq⟩ : ∃ q : Nat, (atI ls who (ln.getD k2 note0)) = (q : Int) := ⟨((atI ls who (ln.getD k2 note0))).toNat, (Int.toNat_of_nonneg (of_decide_eq_true hc31)).symm⟩
                   have har := at_range (sent := ls) (who := who) (n := (ln.getD k2 note0))
                   have e12 : i64 (atI ls who (ln.getD k2 note0)) = i64 (aq : Int) := congrArg i64 haq
                   refine CW.abs (fun g => g 0 = vs ∧ g 1 = (Value.string who) ∧ g 2 = vn ∧ g 6 = (Value.slice none 0 0) ∧ g 7 = v7 ∧ g 8 = (i64 ((k : Int) + 1)) ∧ g 9 = (bl fb) ∧ g 10 = (i64 (k2 : Int)) ∧ g 11 = (ptr b11 0) ∧ g 12 = (i64 (aq : Int)) ∧ g 13 = (i64 (k3 : Int)) ∧ g 17 = (bl (decide (((k : Int) + 1) ≤ 5))) ∧ g 23 = (bl (decide ((k2 : Int) < (ln.length : Int)))) ∧ g 35 = (bl (((k : Int) + 1) == 1)) ∧ g 47 = (bl cd) ∧ g 72 = (bl (decide (0 ≤ (atI ls who (ln.getD k2 note0))))) ∧ True) ⟨s0, s1, s2, s6, s7, s8, s9, s10, s11, (Eq.trans s12 e12), s13, s17, s23, s35, s47, rfl, trivial⟩ ?_
                   rintro fr32 ⟨s0, s1, s2, s6, s7, s8, s9, s10, s11, s12, s13, s17, s23, s35, s47, s72, _⟩
                   refine sR <| rM rfl s0 <| rM rfl s12 <| rw_q rfl (ev_indexAddr_rk (i := (aq : Int)) (RdK.ofRest hrs hm21) uT22 ti39 rfl rfl oM sL) <| rw_q (v := (Value.agg #[(Value.string ((ls.getD aq sent0).frm)), (Value.string ((ls.getD aq sent0).to_)), (Value.string ((ls.getD aq sent0).id_)), (Value.string ((ls.getD aq sent0).th)), (bl ((ls.getD aq sent0).sl)), (slv (ls.getD aq sent0).body)])) rfl (ev_load_rkA (i := (aq : Int)) (dflt := sent0) (cs := #[(Value.string ((ls.getD aq sent0).frm)), (Value.string ((ls.getD aq sent0).to_)), (Value.string ((ls.getD aq sent0).id_)), (Value.string ((ls.getD aq sent0).th)), (bl ((ls.getD aq sent0).sl)), (slv (ls.getD aq sent0).body)]) (RdK.ofRest hrs hm21) sL uT39 rfl ti39 rfl rfl (by decide) rfl) <| rw_c rfl (or_allocX hm21 ti39) ?_
                   rintro _ w33 ⟨b14, rfl, _ew33, hm33⟩
                   refine rw_n (or_storeW (cs := #[(Value.string ((ls.getD aq sent0).frm)), (Value.string ((ls.getD aq sent0).to_)), (Value.string ((ls.getD aq sent0).id_)), (Value.string ((ls.getD aq sent0).th)), (bl ((ls.getD aq sent0).sl)), (slv (ls.getD aq sent0).body)]) ti39 rfl rfl (by kernel_rfl) (one_arr (one_cons rfl (one_cons rfl (one_cons rfl (one_cons rfl (one_cons rfl (one_cons rfl one_nil))))))) hm33.h0 (by kernel_rfl) rfl) ?_
                   rintro _ w34 uq34
                   have hm34 : Mem w34 (restOf w0) ([(b14, .cells #[(Value.string ((ls.getD aq sent0).frm)), (Value.string ((ls.getD aq sent0).to_)), (Value.string ((ls.getD aq sent0).id_)), (Value.string ((ls.getD aq sent0).th)), (bl ((ls.getD aq sent0).sl)), (slv (ls.getD aq sent0).body)] 39 (0, 0)), (b11, .cells #[(Value.string ((ln.getD k2 note0).th)), (Value.string ((ln.getD k2 note0).frm)), (Value.string ((ln.getD k2 note0).id_)), (bl ((ln.getD k2 note0).sl)), (slv (ln.getD k2 note0).body)] 26 (0, 0))] ++ (Hs ++ ([]))) := hm33.upd0 uq34
                   refine rN (cw_region ?_)
                   refine rM rfl s9 <| rw_q rfl (ev_move (v := (bl fb)) rfl) ?_
                   rcases Bool.eq_false_or_eq_true fb with hb35 | hb35
                   · -- true
                     refine rw_gn (s := 78) rfl rfl hb35 rfl <| rw_gn (s := 78) rfl rfl hb35 rfl <| rw_gn (s := 78) rfl rfl hb35 rfl <| rw_gu (s := 81) rfl rfl rfl <| rw_gu (s := 81) rfl rfl rfl <| rw_gu (s := 81) rfl rfl rfl ?_
                     refine rw_gu (s := 81) rfl rfl rfl <| rw_gu (s := 81) rfl rfl rfl <| rw_gn (s := 78) rfl rfl hb35 rfl <| rw_q rfl (ev_pick_tk rfl hb35 rfl) <| rw_q rfl (ev_move (v := (bl true)) rfl) <| rw_gn (s := 89) rfl rfl rfl rfl ?_
                     refine rw_gn (s := 89) rfl rfl rfl rfl <| rw_gn (s := 89) rfl rfl rfl rfl <| rw_gu (s := 92) rfl rfl rfl <| rw_gu (s := 92) rfl rfl rfl <| rw_gu (s := 92) rfl rfl rfl <| rw_gu (s := 92) rfl rfl rfl ?_
                     refine rw_gu (s := 92) rfl rfl rfl <| rw_gu (s := 92) rfl rfl rfl <| rw_gu (s := 92) rfl rfl rfl <| rw_gn (s := 89) rfl rfl rfl rfl <| rw_q rfl (ev_pick_t rfl rfl) <| rw_q rfl (ev_move (v := (bl true)) rfl) ?_
                     refine rw_gn (s := 102) rfl rfl rfl rfl <| rw_gn (s := 102) rfl rfl rfl rfl <| rw_gn (s := 102) rfl rfl rfl rfl <| rw_gu (s := 105) rfl rfl rfl <| rw_gu (s := 105) rfl rfl rfl <| rw_gu (s := 105) rfl rfl rfl ?_
                     refine rw_gu (s := 105) rfl rfl rfl <| rw_gu (s := 105) rfl rfl rfl <| rw_gn (s := 102) rfl rfl rfl rfl <| rw_q rfl (ev_pick_t rfl rfl) <| rw_q rfl (ev_assign (v := (bl true)) rfl) ?_
                     refine rw_nil (kBlk_normal ?_)
                     refine CW.abs (fun g => g 0 = vs ∧ g 1 = (Value.string who) ∧ g 2 = vn ∧ g 6 = (Value.slice none 0 0) ∧ g 7 = v7 ∧ g 8 = (i64 ((k : Int) + 1)) ∧ g 9 = (bl true) ∧ g 10 = (i64 (k2 : Int)) ∧ g 11 = (ptr b11 0) ∧ g 12 = (i64 (aq : Int)) ∧ g 13 = (i64 (k3 : Int)) ∧ g 14 = (ptr b14 0) ∧ g 17 = (bl (decide (((k : Int) + 1) ≤ 5))) ∧ g 23 = (bl (decide ((k2 : Int) < (ln.length : Int)))) ∧ g 35 = (bl (((k : Int) + 1) == 1)) ∧ g 47 = (bl cd) ∧ g 72 = (bl (decide (0 ≤ (atI ls who (ln.getD k2 note0))))) ∧ True) ⟨s0, s1, s2, s6, s7, s8, rfl, s10, s11, s12, s13, rfl, s17, s23, s35, s47, s72, trivial⟩ ?_
                     rintro fr36 ⟨s0, s1, s2, s6, s7, s8, s9, s10, s11, s12, s13, s14, s17, s23, s35, s47, s72, _⟩
                     refine cw_region <| rM rfl s10 <| rw_q rfl (ev_i64_add (b := 1) rfl rfl oM oM) <| rw_q rfl (ev_assign (v := (i64 ((k2 : Int) + 1))) rfl) <| rN ?_
                     have hm37 := Mem.drop ([(b14, .cells #[(Value.string ((ls.getD aq sent0).frm)), (Value.string ((ls.getD aq sent0).to_)), (Value.string ((ls.getD aq sent0).id_)), (Value.string ((ls.getD aq sent0).th)), (bl ((ls.getD aq sent0).sl)), (slv (ls.getD aq sent0).body)] 39 (0, 0))]) _ hm34
                     have hm38 := Mem.drop ([(b11, .cells #[(Value.string ((ln.getD k2 note0).th)), (Value.string ((ln.getD k2 note0).frm)), (Value.string ((ln.getD k2 note0).id_)), (bl ((ln.getD k2 note0).sl)), (slv (ln.getD k2 note0).body)] 26 (0, 0))]) _ hm37
                     exact ⟨⟨(k2 + 1), (true), oM, (acc_of (C := (((((k : Int) + 1) == 3 && !decide ((ls.getD aq sent0).th = (ln.getD k2 note0).th)) || (((k : Int) + 1) == 4 && !((ls.getD aq sent0).body.2 == (ln.getD k2 note0).body.2))) || (((k : Int) + 1) == 5 && ((ls.getD aq sent0).sl != (ln.getD k2 note0).sl)))) oM oM hf hfa hfb2 (by rw [hc31, Bool.true_and, haq]; rfl) (by rw [hb35]; rfl)), s0, s1, s2, s6, s7, s8, s9, rfl, s17, hm38⟩, meas (rfl) z10 oM oM⟩
                   · -- false
                     refine rw_gyq (s := 78) rfl rfl hb35 rfl (ev_move s8) <| rw_gyq (s := 78) rfl rfl hb35 rfl (ev_i64_eql (b := 3) rfl rfl) <| rw_gyq (s := 78) rfl rfl hb35 rfl (ev_move (v := (bl (((k : Int) + 1) == 3))) rfl) ?_
                     rcases Bool.eq_false_or_eq_true (((k : Int) + 1) == 3) with hb39 | hb39
                     · -- true
                       have hb39p := eq_of_beq hb39
                       refine rw_gyq (s := 81) rfl rfl hb39 rfl (ev_fa (r := 3) uT39 rfl (by first | rfl | omega) ti9 rfl rfl) <| rw_gyq (s := 81) rfl rfl hb39 rfl (ev_load1 uT9 rfl rfl hm34.h0 rfl) <| rw_gyq (s := 81) rfl rfl hb39 rfl (ev_fa (r := 0) uT26 rfl (by first | rfl | omega) ti9 rfl s11) <| rw_gyq (s := 81) rfl rfl hb39 rfl (ev_load1 uT9 rfl rfl hm34.h1 rfl) <| rw_gyq (s := 81) rfl rfl hb39 rfl (ev_str_neq (s := (ls.getD aq sent0).th) (t := (ln.getD k2 note0).th) rfl rfl) <| rw_gyq (s := 78) rfl rfl hb35 rfl (ev_pick_tk rfl hb39 rfl) ?_
                       refine rw_q rfl (ev_pick_fk rfl hb35 rfl) <| rw_q rfl (ev_move (v := (bl (!decide ((ls.getD aq sent0).th = (ln.getD k2 note0).th)))) rfl) ?_
                       rcases Bool.eq_false_or_eq_true (!decide ((ls.getD aq sent0).th = (ln.getD k2 note0).th)) with hb40 | hb40
                       · -- true
                         have hb40n : decide ((ls.getD aq sent0).th = (ln.getD k2 note0).th) = false := by simpa using hb40
                         have hb40p := of_decide_eq_false hb40n
                         refine rw_gn (s := 89) rfl rfl hb40 rfl <| rw_gn (s := 89) rfl rfl hb40 rfl <| rw_gn (s := 89) rfl rfl hb40 rfl <| rw_gu (s := 92) rfl rfl rfl <| rw_gu (s := 92) rfl rfl rfl <| rw_gu (s := 92) rfl rfl rfl ?_
                         refine rw_gu (s := 92) rfl rfl rfl <| rw_gu (s := 92) rfl rfl rfl <| rw_gu (s := 92) rfl rfl rfl <| rw_gu (s := 92) rfl rfl rfl <| rw_gn (s := 89) rfl rfl hb40 rfl <| rw_q rfl (ev_pick_tk rfl hb40 rfl) ?_
                         refine rw_q rfl (ev_move (v := (bl true)) rfl) <| rw_gn (s := 102) rfl rfl rfl rfl <| rw_gn (s := 102) rfl rfl rfl rfl <| rw_gn (s := 102) rfl rfl rfl rfl <| rw_gu (s := 105) rfl rfl rfl <| rw_gu (s := 105) rfl rfl rfl ?_
                         refine rw_gu (s := 105) rfl rfl rfl <| rw_gu (s := 105) rfl rfl rfl <| rw_gu (s := 105) rfl rfl rfl <| rw_gn (s := 102) rfl rfl rfl rfl <| rw_q rfl (ev_pick_t rfl rfl) <| rw_q rfl (ev_assign (v := (bl true)) rfl) ?_
                         refine rw_nil (kBlk_normal ?_)
                         refine CW.abs (fun g => g 0 = vs ∧ g 1 = (Value.string who) ∧ g 2 = vn ∧ g 6 = (Value.slice none 0 0) ∧ g 7 = v7 ∧ g 8 = (i64 ((k : Int) + 1)) ∧ g 9 = (bl true) ∧ g 10 = (i64 (k2 : Int)) ∧ g 11 = (ptr b11 0) ∧ g 12 = (i64 (aq : Int)) ∧ g 13 = (i64 (k3 : Int)) ∧ g 14 = (ptr b14 0) ∧ g 17 = (bl (decide (((k : Int) + 1) ≤ 5))) ∧ g 23 = (bl (decide ((k2 : Int) < (ln.length : Int)))) ∧ g 35 = (bl (((k : Int) + 1) == 1)) ∧ g 47 = (bl cd) ∧ g 72 = (bl (decide (0 ≤ (atI ls who (ln.getD k2 note0))))) ∧ True) ⟨s0, s1, s2, s6, s7, s8, rfl, s10, s11, s12, s13, rfl, s17, s23, s35, s47, s72, trivial⟩ ?_
                         rintro fr41 ⟨s0, s1, s2, s6, s7, s8, s9, s10, s11, s12, s13, s14, s17, s23, s35, s47, s72, _⟩
                         refine cw_region <| rM rfl s10 <| rw_q rfl (ev_i64_add (b := 1) rfl rfl oM oM) <| rw_q rfl (ev_assign (v := (i64 ((k2 : Int) + 1))) rfl) <| rN ?_
                         have hso := @strOf_inj (ls.getD aq sent0).body.2 (ln.getD k2 note0).body.2
                         have hm42 := Mem.drop ([(b14, .cells #[(Value.string ((ls.getD aq sent0).frm)), (Value.string ((ls.getD aq sent0).to_)), (Value.string ((ls.getD aq sent0).id_)), (Value.string ((ls.getD aq sent0).th)), (bl ((ls.getD aq sent0).sl)), (slv (ls.getD aq sent0).body)] 39 (0, 0))]) _ hm34
                         have hm43 := Mem.drop ([(b11, .cells #[(Value.string ((ln.getD k2 note0).th)), (Value.string ((ln.getD k2 note0).frm)), (Value.string ((ln.getD k2 note0).id_)), (bl ((ln.getD k2 note0).sl)), (slv (ln.getD k2 note0).body)] 26 (0, 0))]) _ hm42
                         exact ⟨⟨(k2 + 1), (true), oM, (acc_of (C := (((((k : Int) + 1) == 3 && !decide ((ls.getD aq sent0).th = (ln.getD k2 note0).th)) || (((k : Int) + 1) == 4 && !((ls.getD aq sent0).body.2 == (ln.getD k2 note0).body.2))) || (((k : Int) + 1) == 5 && ((ls.getD aq sent0).sl != (ln.getD k2 note0).sl)))) oM oM hf hfa hfb2 (by rw [hc31, Bool.true_and, haq]; rfl) (by rw [hb35, Bool.false_or]; simp only [← hso, hb39, hb40, Bool.true_and, Bool.false_and, Bool.and_true, Bool.and_false, Bool.or_true, Bool.true_or, Bool.or_false, Bool.false_or])), s0, s1, s2, s6, s7, s8, s9, rfl, s17, hm43⟩, meas (rfl) z10 oM oM⟩
                       · -- false
                         have hb40n : decide ((ls.getD aq sent0).th = (ln.getD k2 note0).th) = true := by simpa using hb40
                         have hb40p := of_decide_eq_true hb40n
                         refine rw_gyq (s := 89) rfl rfl hb40 rfl (ev_move s8) <| rw_gyq (s := 89) rfl rfl hb40 rfl (ev_i64_eql (b := 4) rfl rfl) <| rw_gyq (s := 89) rfl rfl hb40 rfl (ev_move (v := (bl (((k : Int) + 1) == 4))) rfl) ?_
                         rcases Bool.eq_false_or_eq_true (((k : Int) + 1) == 4) with hb44 | hb44
                         · -- true
                           have hb44p := eq_of_beq hb44
                           refine rw_gyq (s := 92) rfl rfl hb44 rfl (ev_fa (r := 5) uT39 rfl (by first | rfl | omega) ti24 rfl rfl) <| rw_gyq (s := 92) rfl rfl hb44 rfl (ev_load1 uT24 rfl rfl hm34.h0 rfl) <| rw_gyq (s := 92) rfl rfl hb44 rfl (ev_b2s (l := (ls.getD aq sent0).body.2) (Rd.ofRest (rdQ SentT.body hqs (k := aq) sD) hm34) uT24 uT5 uT9 rfl) <| rw_gyq (s := 92) rfl rfl hb44 rfl (ev_fa (r := 4) uT26 rfl (by first | rfl | omega) ti24 rfl s11) <| rw_gyq (s := 92) rfl rfl hb44 rfl (ev_load1 uT24 rfl rfl hm34.h1 rfl) <| rw_gyq (s := 92) rfl rfl hb44 rfl (ev_b2s (l := (ln.getD k2 note0).body.2) (Rd.ofRest (rdQ NoteT.body hqn (k := k2) sD) hm34) uT24 uT5 uT9 rfl) ?_
                           refine rw_gyq (s := 92) rfl rfl hb44 rfl (ev_str_neq (s := (strOf ((ls.getD aq sent0).body.2))) (t := (strOf ((ln.getD k2 note0).body.2))) rfl rfl) <| rw_gyq (s := 89) rfl rfl hb40 rfl (ev_pick_tk rfl hb44 rfl) <| rw_q rfl (ev_pick_fk rfl hb40 rfl) <| rM rfl rfl ?_
                           rcases Bool.eq_false_or_eq_true (!decide ((strOf ((ls.getD aq sent0).body.2)) = (strOf ((ln.getD k2 note0).body.2)))) with hb45 | hb45
                           · -- true
                             have hb45n : decide ((strOf ((ls.getD aq sent0).body.2)) = (strOf ((ln.getD k2 note0).body.2))) = false := by simpa using hb45
                             have hb45p := of_decide_eq_false hb45n
                             refine rw_gn (s := 102) rfl rfl hb45 rfl <| rw_gn (s := 102) rfl rfl hb45 rfl <| rw_gn (s := 102) rfl rfl hb45 rfl <| rw_gu (s := 105) rfl rfl rfl <| rw_gu (s := 105) rfl rfl rfl <| rw_gu (s := 105) rfl rfl rfl ?_
                             refine rw_gu (s := 105) rfl rfl rfl <| rw_gu (s := 105) rfl rfl rfl <| rw_gn (s := 102) rfl rfl hb45 rfl <| rw_q rfl (ev_pick_tk rfl hb45 rfl) <| rw_q rfl (ev_assign (v := (bl true)) rfl) ?_
                             refine rw_nil (kBlk_normal ?_)
                             refine CW.abs (fun g => g 0 = vs ∧ g 1 = (Value.string who) ∧ g 2 = vn ∧ g 6 = (Value.slice none 0 0) ∧ g 7 = v7 ∧ g 8 = (i64 ((k : Int) + 1)) ∧ g 9 = (bl true) ∧ g 10 = (i64 (k2 : Int)) ∧ g 11 = (ptr b11 0) ∧ g 12 = (i64 (aq : Int)) ∧ g 13 = (i64 (k3 : Int)) ∧ g 14 = (ptr b14 0) ∧ g 17 = (bl (decide (((k : Int) + 1) ≤ 5))) ∧ g 23 = (bl (decide ((k2 : Int) < (ln.length : Int)))) ∧ g 35 = (bl (((k : Int) + 1) == 1)) ∧ g 47 = (bl cd) ∧ g 72 = (bl (decide (0 ≤ (atI ls who (ln.getD k2 note0))))) ∧ True) ⟨s0, s1, s2, s6, s7, s8, rfl, s10, s11, s12, s13, rfl, s17, s23, s35, s47, s72, trivial⟩ ?_
                             rintro fr46 ⟨s0, s1, s2, s6, s7, s8, s9, s10, s11, s12, s13, s14, s17, s23, s35, s47, s72, _⟩
                             refine cw_region <| rM rfl s10 <| rw_q rfl (ev_i64_add (b := 1) rfl rfl oM oM) <| rw_q rfl (ev_assign (v := (i64 ((k2 : Int) + 1))) rfl) <| rN ?_
                             have hso := @strOf_inj (ls.getD aq sent0).body.2 (ln.getD k2 note0).body.2
                             have hm47 := Mem.drop ([(b14, .cells #[(Value.string ((ls.getD aq sent0).frm)), (Value.string ((ls.getD aq sent0).to_)), (Value.string ((ls.getD aq sent0).id_)), (Value.string ((ls.getD aq sent0).th)), (bl ((ls.getD aq sent0).sl)), (slv (ls.getD aq sent0).body)] 39 (0, 0))]) _ hm34
                             have hm48 := Mem.drop ([(b11, .cells #[(Value.string ((ln.getD k2 note0).th)), (Value.string ((ln.getD k2 note0).frm)), (Value.string ((ln.getD k2 note0).id_)), (bl ((ln.getD k2 note0).sl)), (slv (ln.getD k2 note0).body)] 26 (0, 0))]) _ hm47
                             exact ⟨⟨(k2 + 1), (true), oM, (acc_of (C := (((((k : Int) + 1) == 3 && !decide ((ls.getD aq sent0).th = (ln.getD k2 note0).th)) || (((k : Int) + 1) == 4 && !((ls.getD aq sent0).body.2 == (ln.getD k2 note0).body.2))) || (((k : Int) + 1) == 5 && ((ls.getD aq sent0).sl != (ln.getD k2 note0).sl)))) oM oM hf hfa hfb2 (by rw [hc31, Bool.true_and, haq]; rfl) (by rw [hb35, Bool.false_or]; simp only [← hso, hb39, hb44, hb40, hb45, Bool.true_and, Bool.false_and, Bool.and_true, Bool.and_false, Bool.or_true, Bool.true_or, Bool.or_false, Bool.false_or])), s0, s1, s2, s6, s7, s8, s9, rfl, s17, hm48⟩, meas (rfl) z10 oM oM⟩
                           · -- false
                             have hb45n : decide ((strOf ((ls.getD aq sent0).body.2)) = (strOf ((ln.getD k2 note0).body.2))) = true := by simpa using hb45
                             have hb45p := of_decide_eq_true hb45n
                             refine rw_gyq (s := 102) rfl rfl hb45 rfl (ev_move s8) <| rw_gyq (s := 102) rfl rfl hb45 rfl (ev_i64_eql (b := 5) rfl rfl) <| rw_gyq (s := 102) rfl rfl hb45 rfl (ev_move (v := (bl (((k : Int) + 1) == 5))) rfl) ?_
                             rcases Bool.eq_false_or_eq_true (((k : Int) + 1) == 5) with hb49 | hb49
                             · -- true
                               have hb49p := eq_of_beq hb49
                               refine rw_gyq (s := 105) rfl rfl hb49 rfl (ev_fa (r := 4) uT39 rfl (by first | rfl | omega) ti4 rfl rfl) <| rw_gyq (s := 105) rfl rfl hb49 rfl (ev_load1 uT4 rfl rfl hm34.h0 rfl) <| rw_gyq (s := 105) rfl rfl hb49 rfl (ev_fa (r := 3) uT26 rfl (by first | rfl | omega) ti4 rfl s11) <| rw_gyq (s := 105) rfl rfl hb49 rfl (ev_load1 uT4 rfl rfl hm34.h1 rfl) <| rw_gyq (s := 105) rfl rfl hb49 rfl (ev_bool_neq uT4 rfl rfl) <| rw_gyq (s := 102) rfl rfl hb45 rfl (ev_pick_tk rfl hb49 rfl) ?_
                               refine rw_q rfl (ev_pick_fk rfl hb45 rfl) <| rw_q rfl (ev_assign (v := (bl (((ls.getD aq sent0).sl) != ((ln.getD k2 note0).sl)))) rfl) ?_
                               refine rw_nil (kBlk_normal ?_)
                               refine CW.abs (fun g => g 0 = vs ∧ g 1 = (Value.string who) ∧ g 2 = vn ∧ g 6 = (Value.slice none 0 0) ∧ g 7 = v7 ∧ g 8 = (i64 ((k : Int) + 1)) ∧ g 9 = (bl (((ls.getD aq sent0).sl) != ((ln.getD k2 note0).sl))) ∧ g 10 = (i64 (k2 : Int)) ∧ g 11 = (ptr b11 0) ∧ g 12 = (i64 (aq : Int)) ∧ g 13 = (i64 (k3 : Int)) ∧ g 14 = (ptr b14 0) ∧ g 17 = (bl (decide (((k : Int) + 1) ≤ 5))) ∧ g 23 = (bl (decide ((k2 : Int) < (ln.length : Int)))) ∧ g 35 = (bl (((k : Int) + 1) == 1)) ∧ g 47 = (bl cd) ∧ g 72 = (bl (decide (0 ≤ (atI ls who (ln.getD k2 note0))))) ∧ True) ⟨s0, s1, s2, s6, s7, s8, rfl, s10, s11, s12, s13, rfl, s17, s23, s35, s47, s72, trivial⟩ ?_
                               rintro fr50 ⟨s0, s1, s2, s6, s7, s8, s9, s10, s11, s12, s13, s14, s17, s23, s35, s47, s72, _⟩
                               refine cw_region <| rM rfl s10 <| rw_q rfl (ev_i64_add (b := 1) rfl rfl oM oM) <| rw_q rfl (ev_assign (v := (i64 ((k2 : Int) + 1))) rfl) <| rN ?_
                               have hso := @strOf_inj (ls.getD aq sent0).body.2 (ln.getD k2 note0).body.2
                               have hm51 := Mem.drop ([(b14, .cells #[(Value.string ((ls.getD aq sent0).frm)), (Value.string ((ls.getD aq sent0).to_)), (Value.string ((ls.getD aq sent0).id_)), (Value.string ((ls.getD aq sent0).th)), (bl ((ls.getD aq sent0).sl)), (slv (ls.getD aq sent0).body)] 39 (0, 0))]) _ hm34
                               have hm52 := Mem.drop ([(b11, .cells #[(Value.string ((ln.getD k2 note0).th)), (Value.string ((ln.getD k2 note0).frm)), (Value.string ((ln.getD k2 note0).id_)), (bl ((ln.getD k2 note0).sl)), (slv (ln.getD k2 note0).body)] 26 (0, 0))]) _ hm51
                               exact ⟨⟨(k2 + 1), (((ls.getD aq sent0).sl) != ((ln.getD k2 note0).sl)), oM, (acc_of (C := (((((k : Int) + 1) == 3 && !decide ((ls.getD aq sent0).th = (ln.getD k2 note0).th)) || (((k : Int) + 1) == 4 && !((ls.getD aq sent0).body.2 == (ln.getD k2 note0).body.2))) || (((k : Int) + 1) == 5 && ((ls.getD aq sent0).sl != (ln.getD k2 note0).sl)))) oM oM hf hfa hfb2 (by rw [hc31, Bool.true_and, haq]; rfl) (by rw [hb35, Bool.false_or]; simp only [← hso, hb39, hb44, hb49, hb40, hb45, Bool.true_and, Bool.false_and, Bool.and_true, Bool.and_false, Bool.or_true, Bool.true_or, Bool.or_false, Bool.false_or])), s0, s1, s2, s6, s7, s8, s9, rfl, s17, hm52⟩, meas (rfl) z10 oM oM⟩
                             · -- false
                               have hb49p := ne_of_beq_false hb49
                               refine rw_gn (s := 105) rfl rfl hb49 rfl <| rw_gn (s := 105) rfl rfl hb49 rfl <| rw_gn (s := 105) rfl rfl hb49 rfl <| rw_gn (s := 105) rfl rfl hb49 rfl <| rw_gn (s := 105) rfl rfl hb49 rfl <| rw_gyq (s := 102) rfl rfl hb45 rfl (ev_pick_fk rfl hb49 rfl) ?_
                               refine rw_q rfl (ev_pick_fk rfl hb45 rfl) <| rw_q rfl (ev_assign (v := (bl false)) rfl) ?_
                               refine rw_nil (kBlk_normal ?_)
                               refine CW.abs (fun g => g 0 = vs ∧ g 1 = (Value.string who) ∧ g 2 = vn ∧ g 6 = (Value.slice none 0 0) ∧ g 7 = v7 ∧ g 8 = (i64 ((k : Int) + 1)) ∧ g 9 = (bl false) ∧ g 10 = (i64 (k2 : Int)) ∧ g 11 = (ptr b11 0) ∧ g 12 = (i64 (aq : Int)) ∧ g 13 = (i64 (k3 : Int)) ∧ g 14 = (ptr b14 0) ∧ g 17 = (bl (decide (((k : Int) + 1) ≤ 5))) ∧ g 23 = (bl (decide ((k2 : Int) < (ln.length : Int)))) ∧ g 35 = (bl (((k : Int) + 1) == 1)) ∧ g 47 = (bl cd) ∧ g 72 = (bl (decide (0 ≤ (atI ls who (ln.getD k2 note0))))) ∧ True) ⟨s0, s1, s2, s6, s7, s8, rfl, s10, s11, s12, s13, rfl, s17, s23, s35, s47, s72, trivial⟩ ?_
                               rintro fr53 ⟨s0, s1, s2, s6, s7, s8, s9, s10, s11, s12, s13, s14, s17, s23, s35, s47, s72, _⟩
                               refine cw_region <| rM rfl s10 <| rw_q rfl (ev_i64_add (b := 1) rfl rfl oM oM) <| rw_q rfl (ev_assign (v := (i64 ((k2 : Int) + 1))) rfl) <| rN ?_
                               have hso := @strOf_inj (ls.getD aq sent0).body.2 (ln.getD k2 note0).body.2
                               have hm54 := Mem.drop ([(b14, .cells #[(Value.string ((ls.getD aq sent0).frm)), (Value.string ((ls.getD aq sent0).to_)), (Value.string ((ls.getD aq sent0).id_)), (Value.string ((ls.getD aq sent0).th)), (bl ((ls.getD aq sent0).sl)), (slv (ls.getD aq sent0).body)] 39 (0, 0))]) _ hm34
                               have hm55 := Mem.drop ([(b11, .cells #[(Value.string ((ln.getD k2 note0).th)), (Value.string ((ln.getD k2 note0).frm)), (Value.string ((ln.getD k2 note0).id_)), (bl ((ln.getD k2 note0).sl)), (slv (ln.getD k2 note0).body)] 26 (0, 0))]) _ hm54
                               exact ⟨⟨(k2 + 1), (false), oM, (acc_of (C := (((((k : Int) + 1) == 3 && !decide ((ls.getD aq sent0).th = (ln.getD k2 note0).th)) || (((k : Int) + 1) == 4 && !((ls.getD aq sent0).body.2 == (ln.getD k2 note0).body.2))) || (((k : Int) + 1) == 5 && ((ls.getD aq sent0).sl != (ln.getD k2 note0).sl)))) oM oM hf hfa hfb2 (by rw [hc31, Bool.true_and, haq]; rfl) (by rw [hb35, Bool.false_or]; simp only [← hso, hb39, hb44, hb49, hb40, hb45, Bool.true_and, Bool.false_and, Bool.and_true, Bool.and_false, Bool.or_true, Bool.true_or, Bool.or_false, Bool.false_or])), s0, s1, s2, s6, s7, s8, s9, rfl, s17, hm55⟩, meas (rfl) z10 oM oM⟩
                         · -- false
                           have hb44p := ne_of_beq_false hb44
                           refine rw_gn (s := 92) rfl rfl hb44 rfl <| rw_gn (s := 92) rfl rfl hb44 rfl <| rw_gn (s := 92) rfl rfl hb44 rfl <| rw_gn (s := 92) rfl rfl hb44 rfl <| rw_gn (s := 92) rfl rfl hb44 rfl <| rw_gn (s := 92) rfl rfl hb44 rfl ?_
                           refine rw_gn (s := 92) rfl rfl hb44 rfl <| rw_gyq (s := 89) rfl rfl hb40 rfl (ev_pick_fk rfl hb44 rfl) <| rw_q rfl (ev_pick_fk rfl hb40 rfl) <| rw_q rfl (ev_move (v := (bl false)) rfl) <| rw_gyq (s := 102) rfl rfl rfl rfl (ev_move s8) <| rw_gyq (s := 102) rfl rfl rfl rfl (ev_i64_eql (b := 5) rfl rfl) ?_
                           refine rw_gyq (s := 102) rfl rfl rfl rfl (ev_move (v := (bl (((k : Int) + 1) == 5))) rfl) ?_
                           rcases Bool.eq_false_or_eq_true (((k : Int) + 1) == 5) with hb56 | hb56
                           · -- true
                             have hb56p := eq_of_beq hb56
                             refine rw_gyq (s := 105) rfl rfl hb56 rfl (ev_fa (r := 4) uT39 rfl (by first | rfl | omega) ti4 rfl rfl) <| rw_gyq (s := 105) rfl rfl hb56 rfl (ev_load1 uT4 rfl rfl hm34.h0 rfl) <| rw_gyq (s := 105) rfl rfl hb56 rfl (ev_fa (r := 3) uT26 rfl (by first | rfl | omega) ti4 rfl s11) <| rw_gyq (s := 105) rfl rfl hb56 rfl (ev_load1 uT4 rfl rfl hm34.h1 rfl) <| rw_gyq (s := 105) rfl rfl hb56 rfl (ev_bool_neq uT4 rfl rfl) <| rw_gyq (s := 102) rfl rfl rfl rfl (ev_pick_tk rfl hb56 rfl) ?_
                             refine rw_q rfl (ev_pick_f rfl rfl) <| rw_q rfl (ev_assign (v := (bl (((ls.getD aq sent0).sl) != ((ln.getD k2 note0).sl)))) rfl) ?_
                             refine rw_nil (kBlk_normal ?_)
                             refine CW.abs (fun g => g 0 = vs ∧ g 1 = (Value.string who) ∧ g 2 = vn ∧ g 6 = (Value.slice none 0 0) ∧ g 7 = v7 ∧ g 8 = (i64 ((k : Int) + 1)) ∧ g 9 = (bl (((ls.getD aq sent0).sl) != ((ln.getD k2 note0).sl))) ∧ g 10 = (i64 (k2 : Int)) ∧ g 11 = (ptr b11 0) ∧ g 12 = (i64 (aq : Int)) ∧ g 13 = (i64 (k3 : Int)) ∧ g 14 = (ptr b14 0) ∧ g 17 = (bl (decide (((k : Int) + 1) ≤ 5))) ∧ g 23 = (bl (decide ((k2 : Int) < (ln.length : Int)))) ∧ g 35 = (bl (((k : Int) + 1) == 1)) ∧ g 47 = (bl cd) ∧ g 72 = (bl (decide (0 ≤ (atI ls who (ln.getD k2 note0))))) ∧ True) ⟨s0, s1, s2, s6, s7, s8, rfl, s10, s11, s12, s13, rfl, s17, s23, s35, s47, s72, trivial⟩ ?_
                             rintro fr57 ⟨s0, s1, s2, s6, s7, s8, s9, s10, s11, s12, s13, s14, s17, s23, s35, s47, s72, _⟩
                             refine cw_region <| rM rfl s10 <| rw_q rfl (ev_i64_add (b := 1) rfl rfl oM oM) <| rw_q rfl (ev_assign (v := (i64 ((k2 : Int) + 1))) rfl) <| rN ?_
                             have hso := @strOf_inj (ls.getD aq sent0).body.2 (ln.getD k2 note0).body.2
                             have hm58 := Mem.drop ([(b14, .cells #[(Value.string ((ls.getD aq sent0).frm)), (Value.string ((ls.getD aq sent0).to_)), (Value.string ((ls.getD aq sent0).id_)), (Value.string ((ls.getD aq sent0).th)), (bl ((ls.getD aq sent0).sl)), (slv (ls.getD aq sent0).body)] 39 (0, 0))]) _ hm34
                             have hm59 := Mem.drop ([(b11, .cells #[(Value.string ((ln.getD k2 note0).th)), (Value.string ((ln.getD k2 note0).frm)), (Value.string ((ln.getD k2 note0).id_)), (bl ((ln.getD k2 note0).sl)), (slv (ln.getD k2 note0).body)] 26 (0, 0))]) _ hm58
                             exact ⟨⟨(k2 + 1), (((ls.getD aq sent0).sl) != ((ln.getD k2 note0).sl)), oM, (acc_of (C := (((((k : Int) + 1) == 3 && !decide ((ls.getD aq sent0).th = (ln.getD k2 note0).th)) || (((k : Int) + 1) == 4 && !((ls.getD aq sent0).body.2 == (ln.getD k2 note0).body.2))) || (((k : Int) + 1) == 5 && ((ls.getD aq sent0).sl != (ln.getD k2 note0).sl)))) oM oM hf hfa hfb2 (by rw [hc31, Bool.true_and, haq]; rfl) (by rw [hb35, Bool.false_or]; simp only [← hso, hb39, hb44, hb56, hb40, Bool.true_and, Bool.false_and, Bool.and_true, Bool.and_false, Bool.or_true, Bool.true_or, Bool.or_false, Bool.false_or])), s0, s1, s2, s6, s7, s8, s9, rfl, s17, hm59⟩, meas (rfl) z10 oM oM⟩
                           · -- false
                             have hb56p := ne_of_beq_false hb56
                             refine rw_gn (s := 105) rfl rfl hb56 rfl <| rw_gn (s := 105) rfl rfl hb56 rfl <| rw_gn (s := 105) rfl rfl hb56 rfl <| rw_gn (s := 105) rfl rfl hb56 rfl <| rw_gn (s := 105) rfl rfl hb56 rfl <| rw_gyq (s := 102) rfl rfl rfl rfl (ev_pick_fk rfl hb56 rfl) ?_
                             refine rw_q rfl (ev_pick_f rfl rfl) <| rw_q rfl (ev_assign (v := (bl false)) rfl) ?_
                             refine rw_nil (kBlk_normal ?_)
                             refine CW.abs (fun g => g 0 = vs ∧ g 1 = (Value.string who) ∧ g 2 = vn ∧ g 6 = (Value.slice none 0 0) ∧ g 7 = v7 ∧ g 8 = (i64 ((k : Int) + 1)) ∧ g 9 = (bl false) ∧ g 10 = (i64 (k2 : Int)) ∧ g 11 = (ptr b11 0) ∧ g 12 = (i64 (aq : Int)) ∧ g 13 = (i64 (k3 : Int)) ∧ g 14 = (ptr b14 0) ∧ g 17 = (bl (decide (((k : Int) + 1) ≤ 5))) ∧ g 23 = (bl (decide ((k2 : Int) < (ln.length : Int)))) ∧ g 35 = (bl (((k : Int) + 1) == 1)) ∧ g 47 = (bl cd) ∧ g 72 = (bl (decide (0 ≤ (atI ls who (ln.getD k2 note0))))) ∧ True) ⟨s0, s1, s2, s6, s7, s8, rfl, s10, s11, s12, s13, rfl, s17, s23, s35, s47, s72, trivial⟩ ?_
                             rintro fr60 ⟨s0, s1, s2, s6, s7, s8, s9, s10, s11, s12, s13, s14, s17, s23, s35, s47, s72, _⟩
                             refine cw_region <| rM rfl s10 <| rw_q rfl (ev_i64_add (b := 1) rfl rfl oM oM) <| rw_q rfl (ev_assign (v := (i64 ((k2 : Int) + 1))) rfl) <| rN ?_
                             have hso := @strOf_inj (ls.getD aq sent0).body.2 (ln.getD k2 note0).body.2
                             have hm61 := Mem.drop ([(b14, .cells #[(Value.string ((ls.getD aq sent0).frm)), (Value.string ((ls.getD aq sent0).to_)), (Value.string ((ls.getD aq sent0).id_)), (Value.string ((ls.getD aq sent0).th)), (bl ((ls.getD aq sent0).sl)), (slv (ls.getD aq sent0).body)] 39 (0, 0))]) _ hm34
                             have hm62 := Mem.drop ([(b11, .cells #[(Value.string ((ln.getD k2 note0).th)), (Value.string ((ln.getD k2 note0).frm)), (Value.string ((ln.getD k2 note0).id_)), (bl ((ln.getD k2 note0).sl)), (slv (ln.getD k2 note0).body)] 26 (0, 0))]) _ hm61
                             exact ⟨⟨(k2 + 1), (false), oM, (acc_of (C := (((((k : Int) + 1) == 3 && !decide ((ls.getD aq sent0).th = (ln.getD k2 note0).th)) || (((k : Int) + 1) == 4 && !((ls.getD aq sent0).body.2 == (ln.getD k2 note0).body.2))) || (((k : Int) + 1) == 5 && ((ls.getD aq sent0).sl != (ln.getD k2 note0).sl)))) oM oM hf hfa hfb2 (by rw [hc31, Bool.true_and, haq]; rfl) (by rw [hb35, Bool.false_or]; simp only [← hso, hb39, hb44, hb56, hb40, Bool.true_and, Bool.false_and, Bool.and_true, Bool.and_false, Bool.or_true, Bool.true_or, Bool.or_false, Bool.false_or])), s0, s1, s2, s6, s7, s8, s9, rfl, s17, hm62⟩, meas (rfl) z10 oM oM⟩
                     · -- false
                       have hb39p := ne_of_beq_false hb39
                       refine rw_gn (s := 81) rfl rfl hb39 rfl <| rw_gn (s := 81) rfl rfl hb39 rfl <| rw_gn (s := 81) rfl rfl hb39 rfl <| rw_gn (s := 81) rfl rfl hb39 rfl <| rw_gn (s := 81) rfl rfl hb39 rfl <| rw_gyq (s := 78) rfl rfl hb35 rfl (ev_pick_fk rfl hb39 rfl) ?_
                       refine rw_q rfl (ev_pick_fk rfl hb35 rfl) <| rw_q rfl (ev_move (v := (bl false)) rfl) <| rw_gyq (s := 89) rfl rfl rfl rfl (ev_move s8) <| rw_gyq (s := 89) rfl rfl rfl rfl (ev_i64_eql (b := 4) rfl rfl) <| rw_gyq (s := 89) rfl rfl rfl rfl (ev_move (v := (bl (((k : Int) + 1) == 4))) rfl) ?_
                       rcases Bool.eq_false_or_eq_true (((k : Int) + 1) == 4) with hb63 | hb63
                       · -- true
                         have hb63p := eq_of_beq hb63
                         refine rw_gyq (s := 92) rfl rfl hb63 rfl (ev_fa (r := 5) uT39 rfl (by first | rfl | omega) ti24 rfl rfl) <| rw_gyq (s := 92) rfl rfl hb63 rfl (ev_load1 uT24 rfl rfl hm34.h0 rfl) <| rw_gyq (s := 92) rfl rfl hb63 rfl (ev_b2s (l := (ls.getD aq sent0).body.2) (Rd.ofRest (rdQ SentT.body hqs (k := aq) sD) hm34) uT24 uT5 uT9 rfl) <| rw_gyq (s := 92) rfl rfl hb63 rfl (ev_fa (r := 4) uT26 rfl (by first | rfl | omega) ti24 rfl s11) <| rw_gyq (s := 92) rfl rfl hb63 rfl (ev_load1 uT24 rfl rfl hm34.h1 rfl) <| rw_gyq (s := 92) rfl rfl hb63 rfl (ev_b2s (l := (ln.getD k2 note0).body.2) (Rd.ofRest (rdQ NoteT.body hqn (k := k2) sD) hm34) uT24 uT5 uT9 rfl) ?_
                         refine rw_gyq (s := 92) rfl rfl hb63 rfl (ev_str_neq (s := (strOf ((ls.getD aq sent0).body.2))) (t := (strOf ((ln.getD k2 note0).body.2))) rfl rfl) <| rw_gyq (s := 89) rfl rfl rfl rfl (ev_pick_tk rfl hb63 rfl) <| rw_q rfl (ev_pick_f rfl rfl) <| rM rfl rfl ?_
                         rcases Bool.eq_false_or_eq_true (!decide ((strOf ((ls.getD aq sent0).body.2)) = (strOf ((ln.getD k2 note0).body.2)))) with hb64 | hb64
                         · -- true
                           have hb64n : decide ((strOf ((ls.getD aq sent0).body.2)) = (strOf ((ln.getD k2 note0).body.2))) = false := by simpa using hb64
                           have hb64p := of_decide_eq_false hb64n
                           refine rw_gn (s := 102) rfl rfl hb64 rfl <| rw_gn (s := 102) rfl rfl hb64 rfl <| rw_gn (s := 102) rfl rfl hb64 rfl <| rw_gu (s := 105) rfl rfl rfl <| rw_gu (s := 105) rfl rfl rfl <| rw_gu (s := 105) rfl rfl rfl ?_
                           refine rw_gu (s := 105) rfl rfl rfl <| rw_gu (s := 105) rfl rfl rfl <| rw_gn (s := 102) rfl rfl hb64 rfl <| rw_q rfl (ev_pick_tk rfl hb64 rfl) <| rw_q rfl (ev_assign (v := (bl true)) rfl) ?_
                           refine rw_nil (kBlk_normal ?_)
                           refine CW.abs (fun g => g 0 = vs ∧ g 1 = (Value.string who) ∧ g 2 = vn ∧ g 6 = (Value.slice none 0 0) ∧ g 7 = v7 ∧ g 8 = (i64 ((k : Int) + 1)) ∧ g 9 = (bl true) ∧ g 10 = (i64 (k2 : Int)) ∧ g 11 = (ptr b11 0) ∧ g 12 = (i64 (aq : Int)) ∧ g 13 = (i64 (k3 : Int)) ∧ g 14 = (ptr b14 0) ∧ g 17 = (bl (decide (((k : Int) + 1) ≤ 5))) ∧ g 23 = (bl (decide ((k2 : Int) < (ln.length : Int)))) ∧ g 35 = (bl (((k : Int) + 1) == 1)) ∧ g 47 = (bl cd) ∧ g 72 = (bl (decide (0 ≤ (atI ls who (ln.getD k2 note0))))) ∧ True) ⟨s0, s1, s2, s6, s7, s8, rfl, s10, s11, s12, s13, rfl, s17, s23, s35, s47, s72, trivial⟩ ?_
                           rintro fr65 ⟨s0, s1, s2, s6, s7, s8, s9, s10, s11, s12, s13, s14, s17, s23, s35, s47, s72, _⟩
                           refine cw_region <| rM rfl s10 <| rw_q rfl (ev_i64_add (b := 1) rfl rfl oM oM) <| rw_q rfl (ev_assign (v := (i64 ((k2 : Int) + 1))) rfl) <| rN ?_
                           have hso := @strOf_inj (ls.getD aq sent0).body.2 (ln.getD k2 note0).body.2
                           have hm66 := Mem.drop ([(b14, .cells #[(Value.string ((ls.getD aq sent0).frm)), (Value.string ((ls.getD aq sent0).to_)), (Value.string ((ls.getD aq sent0).id_)), (Value.string ((ls.getD aq sent0).th)), (bl ((ls.getD aq sent0).sl)), (slv (ls.getD aq sent0).body)] 39 (0, 0))]) _ hm34
                           have hm67 := Mem.drop ([(b11, .cells #[(Value.string ((ln.getD k2 note0).th)), (Value.string ((ln.getD k2 note0).frm)), (Value.string ((ln.getD k2 note0).id_)), (bl ((ln.getD k2 note0).sl)), (slv (ln.getD k2 note0).body)] 26 (0, 0))]) _ hm66
                           exact ⟨⟨(k2 + 1), (true), oM, (acc_of (C := (((((k : Int) + 1) == 3 && !decide ((ls.getD aq sent0).th = (ln.getD k2 note0).th)) || (((k : Int) + 1) == 4 && !((ls.getD aq sent0).body.2 == (ln.getD k2 note0).body.2))) || (((k : Int) + 1) == 5 && ((ls.getD aq sent0).sl != (ln.getD k2 note0).sl)))) oM oM hf hfa hfb2 (by rw [hc31, Bool.true_and, haq]; rfl) (by rw [hb35, Bool.false_or]; simp only [← hso, hb39, hb63, hb64, Bool.true_and, Bool.false_and, Bool.and_true, Bool.and_false, Bool.or_true, Bool.true_or, Bool.or_false, Bool.false_or])), s0, s1, s2, s6, s7, s8, s9, rfl, s17, hm67⟩, meas (rfl) z10 oM oM⟩
                         · -- false
                           have hb64n : decide ((strOf ((ls.getD aq sent0).body.2)) = (strOf ((ln.getD k2 note0).body.2))) = true := by simpa using hb64
                           have hb64p := of_decide_eq_true hb64n
                           refine rw_gyq (s := 102) rfl rfl hb64 rfl (ev_move s8) <| rw_gyq (s := 102) rfl rfl hb64 rfl (ev_i64_eql (b := 5) rfl rfl) <| rw_gyq (s := 102) rfl rfl hb64 rfl (ev_move (v := (bl (((k : Int) + 1) == 5))) rfl) ?_
                           rcases Bool.eq_false_or_eq_true (((k : Int) + 1) == 5) with hb68 | hb68
                           · -- true
                             have hb68p := eq_of_beq hb68
                             refine rw_gyq (s := 105) rfl rfl hb68 rfl (ev_fa (r := 4) uT39 rfl (by first | rfl | omega) ti4 rfl rfl) <| rw_gyq (s := 105) rfl rfl hb68 rfl (ev_load1 uT4 rfl rfl hm34.h0 rfl) <| rw_gyq (s := 105) rfl rfl hb68 rfl (ev_fa (r := 3) uT26 rfl (by first | rfl | omega) ti4 rfl s11) <| rw_gyq (s := 105) rfl rfl hb68 rfl (ev_load1 uT4 rfl rfl hm34.h1 rfl) <| rw_gyq (s := 105) rfl rfl hb68 rfl (ev_bool_neq uT4 rfl rfl) <| rw_gyq (s := 102) rfl rfl hb64 rfl (ev_pick_tk rfl hb68 rfl) ?_
                             refine rw_q rfl (ev_pick_fk rfl hb64 rfl) <| rw_q rfl (ev_assign (v := (bl (((ls.getD aq sent0).sl) != ((ln.getD k2 note0).sl)))) rfl) ?_
                             refine rw_nil (kBlk_normal ?_)
                             refine CW.abs (fun g => g 0 = vs ∧ g 1 = (Value.string who) ∧ g 2 = vn ∧ g 6 = (Value.slice none 0 0) ∧ g 7 = v7 ∧ g 8 = (i64 ((k : Int) + 1)) ∧ g 9 = (bl (((ls.getD aq sent0).sl) != ((ln.getD k2 note0).sl))) ∧ g 10 = (i64 (k2 : Int)) ∧ g 11 = (ptr b11 0) ∧ g 12 = (i64 (aq : Int)) ∧ g 13 = (i64 (k3 : Int)) ∧ g 14 = (ptr b14 0) ∧ g 17 = (bl (decide (((k : Int) + 1) ≤ 5))) ∧ g 23 = (bl (decide ((k2 : Int) < (ln.length : Int)))) ∧ g 35 = (bl (((k : Int) + 1) == 1)) ∧ g 47 = (bl cd) ∧ g 72 = (bl (decide (0 ≤ (atI ls who (ln.getD k2 note0))))) ∧ True) ⟨s0, s1, s2, s6, s7, s8, rfl, s10, s11, s12, s13, rfl, s17, s23, s35, s47, s72, trivial⟩ ?_
                             rintro fr69 ⟨s0, s1, s2, s6, s7, s8, s9, s10, s11, s12, s13, s14, s17, s23, s35, s47, s72, _⟩
                             refine cw_region <| rM rfl s10 <| rw_q rfl (ev_i64_add (b := 1) rfl rfl oM oM) <| rw_q rfl (ev_assign (v := (i64 ((k2 : Int) + 1))) rfl) <| rN ?_
                             have hso := @strOf_inj (ls.getD aq sent0).body.2 (ln.getD k2 note0).body.2
                             have hm70 := Mem.drop ([(b14, .cells #[(Value.string ((ls.getD aq sent0).frm)), (Value.string ((ls.getD aq sent0).to_)), (Value.string ((ls.getD aq sent0).id_)), (Value.string ((ls.getD aq sent0).th)), (bl ((ls.getD aq sent0).sl)), (slv (ls.getD aq sent0).body)] 39 (0, 0))]) _ hm34
                             have hm71 := Mem.drop ([(b11, .cells #[(Value.string ((ln.getD k2 note0).th)), (Value.string ((ln.getD k2 note0).frm)), (Value.string ((ln.getD k2 note0).id_)), (bl ((ln.getD k2 note0).sl)), (slv (ln.getD k2 note0).body)] 26 (0, 0))]) _ hm70
                             exact ⟨⟨(k2 + 1), (((ls.getD aq sent0).sl) != ((ln.getD k2 note0).sl)), oM, (acc_of (C := (((((k : Int) + 1) == 3 && !decide ((ls.getD aq sent0).th = (ln.getD k2 note0).th)) || (((k : Int) + 1) == 4 && !((ls.getD aq sent0).body.2 == (ln.getD k2 note0).body.2))) || (((k : Int) + 1) == 5 && ((ls.getD aq sent0).sl != (ln.getD k2 note0).sl)))) oM oM hf hfa hfb2 (by rw [hc31, Bool.true_and, haq]; rfl) (by rw [hb35, Bool.false_or]; simp only [← hso, hb39, hb63, hb68, hb64, Bool.true_and, Bool.false_and, Bool.and_true, Bool.and_false, Bool.or_true, Bool.true_or, Bool.or_false, Bool.false_or])), s0, s1, s2, s6, s7, s8, s9, rfl, s17, hm71⟩, meas (rfl) z10 oM oM⟩
                           · -- false
                             have hb68p := ne_of_beq_false hb68
                             refine rw_gn (s := 105) rfl rfl hb68 rfl <| rw_gn (s := 105) rfl rfl hb68 rfl <| rw_gn (s := 105) rfl rfl hb68 rfl <| rw_gn (s := 105) rfl rfl hb68 rfl <| rw_gn (s := 105) rfl rfl hb68 rfl <| rw_gyq (s := 102) rfl rfl hb64 rfl (ev_pick_fk rfl hb68 rfl) ?_
                             refine rw_q rfl (ev_pick_fk rfl hb64 rfl) <| rw_q rfl (ev_assign (v := (bl false)) rfl) ?_
                             refine rw_nil (kBlk_normal ?_)
                             refine CW.abs (fun g => g 0 = vs ∧ g 1 = (Value.string who) ∧ g 2 = vn ∧ g 6 = (Value.slice none 0 0) ∧ g 7 = v7 ∧ g 8 = (i64 ((k : Int) + 1)) ∧ g 9 = (bl false) ∧ g 10 = (i64 (k2 : Int)) ∧ g 11 = (ptr b11 0) ∧ g 12 = (i64 (aq : Int)) ∧ g 13 = (i64 (k3 : Int)) ∧ g 14 = (ptr b14 0) ∧ g 17 = (bl (decide (((k : Int) + 1) ≤ 5))) ∧ g 23 = (bl (decide ((k2 : Int) < (ln.length : Int)))) ∧ g 35 = (bl (((k : Int) + 1) == 1)) ∧ g 47 = (bl cd) ∧ g 72 = (bl (decide (0 ≤ (atI ls who (ln.getD k2 note0))))) ∧ True) ⟨s0, s1, s2, s6, s7, s8, rfl, s10, s11, s12, s13, rfl, s17, s23, s35, s47, s72, trivial⟩ ?_
                             rintro fr72 ⟨s0, s1, s2, s6, s7, s8, s9, s10, s11, s12, s13, s14, s17, s23, s35, s47, s72, _⟩
                             refine cw_region <| rM rfl s10 <| rw_q rfl (ev_i64_add (b := 1) rfl rfl oM oM) <| rw_q rfl (ev_assign (v := (i64 ((k2 : Int) + 1))) rfl) <| rN ?_
                             have hso := @strOf_inj (ls.getD aq sent0).body.2 (ln.getD k2 note0).body.2
                             have hm73 := Mem.drop ([(b14, .cells #[(Value.string ((ls.getD aq sent0).frm)), (Value.string ((ls.getD aq sent0).to_)), (Value.string ((ls.getD aq sent0).id_)), (Value.string ((ls.getD aq sent0).th)), (bl ((ls.getD aq sent0).sl)), (slv (ls.getD aq sent0).body)] 39 (0, 0))]) _ hm34
                             have hm74 := Mem.drop ([(b11, .cells #[(Value.string ((ln.getD k2 note0).th)), (Value.string ((ln.getD k2 note0).frm)), (Value.string ((ln.getD k2 note0).id_)), (bl ((ln.getD k2 note0).sl)), (slv (ln.getD k2 note0).body)] 26 (0, 0))]) _ hm73
                             exact ⟨⟨(k2 + 1), (false), oM, (acc_of (C := (((((k : Int) + 1) == 3 && !decide ((ls.getD aq sent0).th = (ln.getD k2 note0).th)) || (((k : Int) + 1) == 4 && !((ls.getD aq sent0).body.2 == (ln.getD k2 note0).body.2))) || (((k : Int) + 1) == 5 && ((ls.getD aq sent0).sl != (ln.getD k2 note0).sl)))) oM oM hf hfa hfb2 (by rw [hc31, Bool.true_and, haq]; rfl) (by rw [hb35, Bool.false_or]; simp only [← hso, hb39, hb63, hb68, hb64, Bool.true_and, Bool.false_and, Bool.and_true, Bool.and_false, Bool.or_true, Bool.true_or, Bool.or_false, Bool.false_or])), s0, s1, s2, s6, s7, s8, s9, rfl, s17, hm74⟩, meas (rfl) z10 oM oM⟩
                       · -- false
                         have hb63p := ne_of_beq_false hb63
                         refine rw_gn (s := 92) rfl rfl hb63 rfl <| rw_gn (s := 92) rfl rfl hb63 rfl <| rw_gn (s := 92) rfl rfl hb63 rfl <| rw_gn (s := 92) rfl rfl hb63 rfl <| rw_gn (s := 92) rfl rfl hb63 rfl <| rw_gn (s := 92) rfl rfl hb63 rfl ?_
                         refine rw_gn (s := 92) rfl rfl hb63 rfl <| rw_gyq (s := 89) rfl rfl rfl rfl (ev_pick_fk rfl hb63 rfl) <| rw_q rfl (ev_pick_f rfl rfl) <| rw_q rfl (ev_move (v := (bl false)) rfl) <| rw_gyq (s := 102) rfl rfl rfl rfl (ev_move s8) <| rw_gyq (s := 102) rfl rfl rfl rfl (ev_i64_eql (b := 5) rfl rfl) ?_
                         refine rw_gyq (s := 102) rfl rfl rfl rfl (ev_move (v := (bl (((k : Int) + 1) == 5))) rfl) ?_
                         rcases Bool.eq_false_or_eq_true (((k : Int) + 1) == 5) with hb75 | hb75
                         · -- true
                           have hb75p := eq_of_beq hb75
                           refine rw_gyq (s := 105) rfl rfl hb75 rfl (ev_fa (r := 4) uT39 rfl (by first | rfl | omega) ti4 rfl rfl) <| rw_gyq (s := 105) rfl rfl hb75 rfl (ev_load1 uT4 rfl rfl hm34.h0 rfl) <| rw_gyq (s := 105) rfl rfl hb75 rfl (ev_fa (r := 3) uT26 rfl (by first | rfl | omega) ti4 rfl s11) <| rw_gyq (s := 105) rfl rfl hb75 rfl (ev_load1 uT4 rfl rfl hm34.h1 rfl) <| rw_gyq (s := 105) rfl rfl hb75 rfl (ev_bool_neq uT4 rfl rfl) <| rw_gyq (s := 102) rfl rfl rfl rfl (ev_pick_tk rfl hb75 rfl) ?_
                           refine rw_q rfl (ev_pick_f rfl rfl) <| rw_q rfl (ev_assign (v := (bl (((ls.getD aq sent0).sl) != ((ln.getD k2 note0).sl)))) rfl) ?_
                           refine rw_nil (kBlk_normal ?_)
                           refine CW.abs (fun g => g 0 = vs ∧ g 1 = (Value.string who) ∧ g 2 = vn ∧ g 6 = (Value.slice none 0 0) ∧ g 7 = v7 ∧ g 8 = (i64 ((k : Int) + 1)) ∧ g 9 = (bl (((ls.getD aq sent0).sl) != ((ln.getD k2 note0).sl))) ∧ g 10 = (i64 (k2 : Int)) ∧ g 11 = (ptr b11 0) ∧ g 12 = (i64 (aq : Int)) ∧ g 13 = (i64 (k3 : Int)) ∧ g 14 = (ptr b14 0) ∧ g 17 = (bl (decide (((k : Int) + 1) ≤ 5))) ∧ g 23 = (bl (decide ((k2 : Int) < (ln.length : Int)))) ∧ g 35 = (bl (((k : Int) + 1) == 1)) ∧ g 47 = (bl cd) ∧ g 72 = (bl (decide (0 ≤ (atI ls who (ln.getD k2 note0))))) ∧ True) ⟨s0, s1, s2, s6, s7, s8, rfl, s10, s11, s12, s13, rfl, s17, s23, s35, s47, s72, trivial⟩ ?_
                           rintro fr76 ⟨s0, s1, s2, s6, s7, s8, s9, s10, s11, s12, s13, s14, s17, s23, s35, s47, s72, _⟩
                           refine cw_region <| rM rfl s10 <| rw_q rfl (ev_i64_add (b := 1) rfl rfl oM oM) <| rw_q rfl (ev_assign (v := (i64 ((k2 : Int) + 1))) rfl) <| rN ?_
                           have hso := @strOf_inj (ls.getD aq sent0).body.2 (ln.getD k2 note0).body.2
                           have hm77 := Mem.drop ([(b14, .cells #[(Value.string ((ls.getD aq sent0).frm)), (Value.string ((ls.getD aq sent0).to_)), (Value.string ((ls.getD aq sent0).id_)), (Value.string ((ls.getD aq sent0).th)), (bl ((ls.getD aq sent0).sl)), (slv (ls.getD aq sent0).body)] 39 (0, 0))]) _ hm34
                           have hm78 := Mem.drop ([(b11, .cells #[(Value.string ((ln.getD k2 note0).th)), (Value.string ((ln.getD k2 note0).frm)), (Value.string ((ln.getD k2 note0).id_)), (bl ((ln.getD k2 note0).sl)), (slv (ln.getD k2 note0).body)] 26 (0, 0))]) _ hm77
                           exact ⟨⟨(k2 + 1), (((ls.getD aq sent0).sl) != ((ln.getD k2 note0).sl)), oM, (acc_of (C := (((((k : Int) + 1) == 3 && !decide ((ls.getD aq sent0).th = (ln.getD k2 note0).th)) || (((k : Int) + 1) == 4 && !((ls.getD aq sent0).body.2 == (ln.getD k2 note0).body.2))) || (((k : Int) + 1) == 5 && ((ls.getD aq sent0).sl != (ln.getD k2 note0).sl)))) oM oM hf hfa hfb2 (by rw [hc31, Bool.true_and, haq]; rfl) (by rw [hb35, Bool.false_or]; simp only [← hso, hb39, hb63, hb75, Bool.true_and, Bool.false_and, Bool.and_true, Bool.and_false, Bool.or_true, Bool.true_or, Bool.or_false, Bool.false_or])), s0, s1, s2, s6, s7, s8, s9, rfl, s17, hm78⟩, meas (rfl) z10 oM oM⟩
                         · -- false
                           have hb75p := ne_of_beq_false hb75
                           refine rw_gn (s := 105) rfl rfl hb75 rfl <| rw_gn (s := 105) rfl rfl hb75 rfl <| rw_gn (s := 105) rfl rfl hb75 rfl <| rw_gn (s := 105) rfl rfl hb75 rfl <| rw_gn (s := 105) rfl rfl hb75 rfl <| rw_gyq (s := 102) rfl rfl rfl rfl (ev_pick_fk rfl hb75 rfl) ?_
                           refine rw_q rfl (ev_pick_f rfl rfl) <| rw_q rfl (ev_assign (v := (bl false)) rfl) ?_
                           refine rw_nil (kBlk_normal ?_)
                           refine CW.abs (fun g => g 0 = vs ∧ g 1 = (Value.string who) ∧ g 2 = vn ∧ g 6 = (Value.slice none 0 0) ∧ g 7 = v7 ∧ g 8 = (i64 ((k : Int) + 1)) ∧ g 9 = (bl false) ∧ g 10 = (i64 (k2 : Int)) ∧ g 11 = (ptr b11 0) ∧ g 12 = (i64 (aq : Int)) ∧ g 13 = (i64 (k3 : Int)) ∧ g 14 = (ptr b14 0) ∧ g 17 = (bl (decide (((k : Int) + 1) ≤ 5))) ∧ g 23 = (bl (decide ((k2 : Int) < (ln.length : Int)))) ∧ g 35 = (bl (((k : Int) + 1) == 1)) ∧ g 47 = (bl cd) ∧ g 72 = (bl (decide (0 ≤ (atI ls who (ln.getD k2 note0))))) ∧ True) ⟨s0, s1, s2, s6, s7, s8, rfl, s10, s11, s12, s13, rfl, s17, s23, s35, s47, s72, trivial⟩ ?_
                           rintro fr79 ⟨s0, s1, s2, s6, s7, s8, s9, s10, s11, s12, s13, s14, s17, s23, s35, s47, s72, _⟩
                           refine cw_region <| rM rfl s10 <| rw_q rfl (ev_i64_add (b := 1) rfl rfl oM oM) <| rw_q rfl (ev_assign (v := (i64 ((k2 : Int) + 1))) rfl) <| rN ?_
                           have hso := @strOf_inj (ls.getD aq sent0).body.2 (ln.getD k2 note0).body.2
                           have hm80 := Mem.drop ([(b14, .cells #[(Value.string ((ls.getD aq sent0).frm)), (Value.string ((ls.getD aq sent0).to_)), (Value.string ((ls.getD aq sent0).id_)), (Value.string ((ls.getD aq sent0).th)), (bl ((ls.getD aq sent0).sl)), (slv (ls.getD aq sent0).body)] 39 (0, 0))]) _ hm34
                           have hm81 := Mem.drop ([(b11, .cells #[(Value.string ((ln.getD k2 note0).th)), (Value.string ((ln.getD k2 note0).frm)), (Value.string ((ln.getD k2 note0).id_)), (bl ((ln.getD k2 note0).sl)), (slv (ln.getD k2 note0).body)] 26 (0, 0))]) _ hm80
                           exact ⟨⟨(k2 + 1), (false), oM, (acc_of (C := (((((k : Int) + 1) == 3 && !decide ((ls.getD aq sent0).th = (ln.getD k2 note0).th)) || (((k : Int) + 1) == 4 && !((ls.getD aq sent0).body.2 == (ln.getD k2 note0).body.2))) || (((k : Int) + 1) == 5 && ((ls.getD aq sent0).sl != (ln.getD k2 note0).sl)))) oM oM hf hfa hfb2 (by rw [hc31, Bool.true_and, haq]; rfl) (by rw [hb35, Bool.false_or]; simp only [← hso, hb39, hb63, hb75, Bool.true_and, Bool.false_and, Bool.and_true, Bool.and_false, Bool.or_true, Bool.true_or, Bool.or_false, Bool.false_or])), s0, s1, s2, s6, s7, s8, s9, rfl, s17, hm81⟩, meas (rfl) z10 oM oM⟩
                 · -- false
                   have hc31p := of_decide_eq_false hc31
                   refine cw_skip (kBlk_normal (cw_region ?_))
                   refine rM rfl s10 <| rw_q rfl (ev_i64_add (b := 1) rfl rfl oM oM) <| rw_q rfl (ev_assign (v := (i64 ((k2 : Int) + 1))) rfl) <| rN ?_
                   have hm82 := Mem.drop ([(b11, .cells #[(Value.string ((ln.getD k2 note0).th)), (Value.string ((ln.getD k2 note0).frm)), (Value.string ((ln.getD k2 note0).id_)), (bl ((ln.getD k2 note0).sl)), (slv (ln.getD k2 note0).body)] 26 (0, 0))]) _ hm21
                   exact ⟨⟨(k2 + 1), (fb), oM, (acc_of (C := false) oM oM hf hfa hfb2 (by rw [hc31]; rfl) ((Bool.or_false _).symm)), s0, s1, s2, s6, s7, s8, s9, rfl, s17, hm82⟩, meas (rfl) z10 oM oM⟩
       · -- false
         have hc7p := of_decide_eq_false hc7
         have hk2n : k2 = ln.length := by omega
         refine cw_exit ?_
         refine kThen_exit (kThen_exit (kBlk_hit ?_))
         refine sR <| rM rfl s9 <| rN ?_
         refine cw_cond rfl (fun hc83 => ?_) (fun hc83 => ?_)
         · -- true
           refine cw_region <| rM rfl s7 <| rM rfl s8 <| rw_c rfl (or_buildSlice_cl i64 [((k : Int) + 1)] i64_one hm6 uT35 ti3 rfl rfl rfl) ?_
           rintro _ w84 ⟨b116, rfl, _ew84, hm84⟩
           refine rw_c rfl (or_append (f := i64) (Hs := Hs) (H := [(b116, .cells (cl i64 ([((k : Int) + 1)])) 3 (0, 0))]) (Mem.pick [_] Hs _ hm84) hg rfl rfl (Rd.mkA hm84.h0) uT35 uT35 ti3 rfl i64_one sL sL) ?_
           rintro sv85 w85 ⟨Hs85, hm85, g85⟩
           replace g85 : Grow i64 3 sv85 ((jpre ls who ln k) ++ ([((k : Int) + 1)])) Hs85 := g85
           refine rA rfl (v := sv85) rfl ?_
           refine rw_nil (kBlk_normal (cw_region ?_))
           refine rM rfl s8 <| rw_q rfl (ev_i64_add (b := 1) rfl rfl oM oM) <| rw_q rfl (ev_assign (v := (i64 (((k : Int) + 1) + 1))) rfl) <| rN ?_
           have hm86 := Mem.drop ([(b116, .cells (cl i64 ([((k : Int) + 1)])) 3 (0, 0))]) _ (Mem.pick Hs85 [_] _ hm85)
           exact ⟨⟨(k + 1), sv85, Hs85, oM, (Grow.cast g85 (by rw [jpre_succ oM, ← hk2n, ← hf, hc83]; simp)), s0, s1, s2, s6, rfl, rfl, hm86⟩, meas (rfl) z8 oM oM⟩
         · -- false
           refine cw_skip (kBlk_normal (cw_region ?_))
           refine rM rfl s8 <| rw_q rfl (ev_i64_add (b := 1) rfl rfl oM oM) <| rw_q rfl (ev_assign (v := (i64 (((k : Int) + 1) + 1))) rfl) <| rN ?_
           exact ⟨⟨(k + 1), v7, Hs, oM, (Grow.cast hg (by rw [jpre_succ oM, ← hk2n, ← hf, hc83]; simp)), s0, s1, s2, s6, s7, rfl, hm6⟩, meas (rfl) z8 oM oM⟩
   · -- false
     have hc4p := of_decide_eq_false hc4
     refine cw_exit ?_
     refine kThen_exit (kThen_exit (kBlk_hit ?_))
     refine sR <| rM rfl s7 <| rA rfl (v := v7) rfl ?_
     refine rN (cw_ret ?_)
     refine fnPost_ret [v7] ⟨rfl, trivial⟩ ?_
     have h5 : k = 5 := by omega
     exact ⟨Hs, Grow.cast hg (by rw [h5, jpre_5]), by simpa using hm3⟩


end Go.Proofs.Ytfmjfojhcmmgcaa
