/- The law of the faults: its walk. Conditions: none beyond those that each theorem states. -/
import Derived.Test.YtfmjfojhcmmgcaaMd4
namespace Go.Proofs.Ytfmjfojhcmmgcaa
set_option linter.unusedVariables false
set_option linter.unusedSimpArgs false
attribute [local irreducible] judgeF missF atI accF seenF jpre missK stepF

set_option maxHeartbeats 4000000 in
theorem c_great (vs : Value) (ls : List SentT) (vn : Value) (ln : List NoteT) (w0 : World)  (hrs : RdK (blks w0) encS 6 vs ls) (hqs : ∀ a ∈ ls, Rd (blks w0) u8 (slv a.body) a.body.2) (hls : ls.length ≤ 9223372036854775807) (hrn : RdK (blks w0) encN 5 vn ln) (hqn : ∀ a ∈ ln, Rd (blks w0) u8 (slv a.body) a.body.2) (hln : ln.length ≤ 9223372036854775807) : CallsR Try.prog 15 #[vs, vn] w0 (fun r w1 => ∃ g : Bool, r = bl g ∧ (g = false → ls.length ≤ 40 ∧ ln.length ≤ 40) ∧ Mem w1 (restOf w0) []) := by
 refine callsR_of_cw (args := [vs, vn]) Try.func15 rfl Try.ntmps15 Try.results15 rfl ?_
 have hm0 : Mem w0 (restOf w0) [] := Mem.of_world w0
 refine sR <| rw_q rfl (ev_assign (v := (bl false)) rfl) ?_
 refine rN (cw_seq (sR ?_))
 refine rM rfl (v := vs) rfl <| rw_q (v := (i64 (ls.length : Int))) rfl (ev_len_rk (RdK.ofRest hrs hm0) uT22 rfl) <| rw_q rfl (ev_i64_gtr (b := 40) rfl rfl) <| rw_q rfl (ev_move (v := (bl (decide (40 < (ls.length : Int))))) rfl) ?_
 rcases Bool.eq_false_or_eq_true (decide (40 < (ls.length : Int))) with hb1 | hb1
 · -- true
   have hb1p := of_decide_eq_true hb1
   refine rw_gn (s := 12) rfl rfl hb1 rfl <| rw_gn (s := 12) rfl rfl hb1 rfl <| rw_gn (s := 12) rfl rfl hb1 rfl <| rw_q rfl (ev_pick_tk rfl hb1 rfl) <| rN <| cw_cond_t rfl (by decide) ?_
   refine sR <| rw_q rfl (ev_assign (v := (bl true)) rfl) ?_
   refine rN (cw_ret (kThen_ret ?_))
   refine fnPost_ret [(bl true)] ⟨rfl, trivial⟩ ?_
   exact ⟨true, rfl, (fun h => by cases h), hm0⟩
 · -- false
   have hb1p := of_decide_eq_false hb1
   refine rw_gyq (s := 12) rfl rfl hb1 rfl (ev_move (v := vn) rfl) <| rw_gyq (s := 12) rfl rfl hb1 rfl (ev_len_rk (RdK.ofRest hrn hm0) uT23 rfl) <| rw_gyq (s := 12) rfl rfl hb1 rfl (ev_i64_gtr (b := 40) rfl rfl) <| rw_q rfl (ev_pick_fk rfl hb1 rfl) <| rN ?_
   refine cw_cond rfl (fun hc2 => ?_) (fun hc2 => ?_)
   · -- true
     have hc2p := of_decide_eq_true hc2
     refine sR <| rw_q rfl (ev_assign (v := (bl true)) rfl) ?_
     refine rN (cw_ret (kThen_ret ?_))
     refine fnPost_ret [(bl true)] ⟨rfl, trivial⟩ ?_
     exact ⟨true, rfl, (fun h => by cases h), hm0⟩
   · -- false
     have hc2p := of_decide_eq_false hc2
     refine cw_skip (kThen_normal (cw_seq (sR ?_)))
     refine rM rfl (v := vs) rfl <| rw_q (v := (i64 (ls.length : Int))) rfl (ev_len_rk (RdK.ofRest hrs hm0) uT22 rfl) <| rw_q rfl (ev_move (v := (i64 0)) rfl) ?_
     refine rN (cw_block ?_)
     refine cw_loop (fun g wv => ∃ (k : Nat), (k ≤ ls.length) ∧ g 0 = vs ∧ g 1 = vn ∧ g 16 = (bl (decide (40 < (ln.length : Int)))) ∧ g 17 = vs ∧ g 18 = (i64 (ls.length : Int)) ∧ g 19 = (i64 (k : Int)) ∧ Mem wv (restOf w0) []) (fun g wv => ((ls.length : Int) - RowKit.intOf (g 19)).toNat) ?_ ?_
     · exact ⟨0, (Nat.zero_le _), rfl, rfl, rfl, rfl, rfl, rfl, hm0⟩
     · rintro fr3 w4 ⟨k, hk, s0, s1, s16, s17, s18, s19, hm4⟩
       have z19 := s19
       refine sR <| rw_q rfl (ev_i64_lss s19 s18) ?_
       refine rN (cw_seq ?_)
       refine cw_cond rfl (fun hc5 => ?_) (fun hc5 => ?_)
       · -- true
         have hc5p := of_decide_eq_true hc5
         refine cw_skip (kThen_normal (cw_seq (cw_block (sR ?_))))
         refine rw_q rfl (ev_indexAddr_rk (i := (k : Int)) (RdK.ofRest hrs hm4) uT22 ti39 s17 s19 oM sL) <| rw_q (v := (Value.agg #[(Value.string ((ls.getD k sent0).frm)), (Value.string ((ls.getD k sent0).to_)), (Value.string ((ls.getD k sent0).id_)), (Value.string ((ls.getD k sent0).th)), (bl ((ls.getD k sent0).sl)), (slv (ls.getD k sent0).body)])) rfl (ev_load_rkA (i := (k : Int)) (dflt := sent0) (cs := #[(Value.string ((ls.getD k sent0).frm)), (Value.string ((ls.getD k sent0).to_)), (Value.string ((ls.getD k sent0).id_)), (Value.string ((ls.getD k sent0).th)), (bl ((ls.getD k sent0).sl)), (slv (ls.getD k sent0).body)]) (RdK.ofRest hrs hm4) sL uT39 rfl ti39 rfl rfl (by decide) rfl) <| rw_c rfl (or_allocX hm4 ti39) ?_
         rintro _ w6 ⟨b6, rfl, _ew6, hm6⟩
         refine rw_n (or_storeW (cs := #[(Value.string ((ls.getD k sent0).frm)), (Value.string ((ls.getD k sent0).to_)), (Value.string ((ls.getD k sent0).id_)), (Value.string ((ls.getD k sent0).th)), (bl ((ls.getD k sent0).sl)), (slv (ls.getD k sent0).body)]) ti39 rfl rfl (by kernel_rfl) (one_arr (one_cons rfl (one_cons rfl (one_cons rfl (one_cons rfl (one_cons rfl (one_cons rfl one_nil))))))) hm6.h0 (by kernel_rfl) rfl) ?_
         rintro _ w7 uq7
         have hm7 : Mem w7 (restOf w0) [(b6, .cells #[(Value.string ((ls.getD k sent0).frm)), (Value.string ((ls.getD k sent0).to_)), (Value.string ((ls.getD k sent0).id_)), (Value.string ((ls.getD k sent0).th)), (bl ((ls.getD k sent0).sl)), (slv (ls.getD k sent0).body)] 39 (0, 0))] := hm6.upd0 uq7
         refine rN (sR ?_)
         refine rw_q rfl (ev_fa (r := 5) uT39 rfl (by first | rfl | omega) ti24 rfl rfl) <| rw_q (v := (slv (ls.getD k sent0).body)) rfl (ev_load1 uT24 rfl rfl hm7.h0 rfl) <| rw_q (v := (i64 (((ls.getD k sent0).body.2).length : Int))) rfl (ev_len_rd (Rd.ofRest (rdQ SentT.body hqs (k := k) sD) hm7) uT24 rfl) <| rw_q rfl (ev_i64_gtr (b := 500) rfl rfl) <| rN ?_
         refine cw_cond rfl (fun hc8 => ?_) (fun hc8 => ?_)
         · -- true
           have hc8p := of_decide_eq_true hc8
           refine sR <| rw_q rfl (ev_assign (v := (bl true)) rfl) ?_
           refine rN (cw_ret ?_)
           refine kBlk_ret (kThen_ret (kBlk_ret ?_))
           refine fnPost_ret [(bl true)] ⟨rfl, trivial⟩ ?_
           have hm9 := Mem.drop ([(b6, .cells #[(Value.string ((ls.getD k sent0).frm)), (Value.string ((ls.getD k sent0).to_)), (Value.string ((ls.getD k sent0).id_)), (Value.string ((ls.getD k sent0).th)), (bl ((ls.getD k sent0).sl)), (slv (ls.getD k sent0).body)] 39 (0, 0))]) _ hm7
           exact ⟨true, rfl, (fun h => by cases h), hm9⟩
         · -- false
           have hc8p := of_decide_eq_false hc8
           refine cw_skip (kBlk_normal (cw_region ?_))
           refine rw_q rfl (ev_i64_add (b := 1) s19 rfl oM oM) <| rw_q rfl (ev_move (v := (i64 ((k : Int) + 1))) rfl) <| rN ?_
           have hm10 := Mem.drop ([(b6, .cells #[(Value.string ((ls.getD k sent0).frm)), (Value.string ((ls.getD k sent0).to_)), (Value.string ((ls.getD k sent0).id_)), (Value.string ((ls.getD k sent0).th)), (bl ((ls.getD k sent0).sl)), (slv (ls.getD k sent0).body)] 39 (0, 0))]) _ hm7
           exact ⟨⟨(k + 1), oM, s0, s1, s16, s17, s18, rfl, hm10⟩, meas (rfl) z19 oM oM⟩
       · -- false
         have hc5p := of_decide_eq_false hc5
         refine cw_exit ?_
         refine kThen_exit (kThen_exit (kBlk_hit ?_))
         refine cw_seq (sR ?_)
         refine rM rfl s1 <| rw_q (v := (i64 (ln.length : Int))) rfl (ev_len_rk (RdK.ofRest hrn hm4) uT23 rfl) <| rw_q rfl (ev_move (v := (i64 0)) rfl) ?_
         refine rN (cw_block ?_)
         refine cw_loop (fun g wv => ∃ (k2 : Nat), (k2 ≤ ln.length) ∧ g 0 = vs ∧ g 1 = vn ∧ g 16 = (bl (decide (40 < (ln.length : Int)))) ∧ g 17 = vs ∧ g 18 = (i64 (ls.length : Int)) ∧ g 19 = (i64 (k : Int)) ∧ g 20 = (bl (decide ((k : Int) < (ls.length : Int)))) ∧ g 28 = vn ∧ g 29 = (i64 (ln.length : Int)) ∧ g 30 = (i64 (k2 : Int)) ∧ Mem wv (restOf w0) []) (fun g wv => ((ln.length : Int) - RowKit.intOf (g 30)).toNat) ?_ ?_
         · exact ⟨0, (Nat.zero_le _), s0, s1, s16, s17, s18, s19, rfl, rfl, rfl, rfl, hm4⟩
         · rintro fr11 w12 ⟨k2, hk2, s0, s1, s16, s17, s18, s19, s20, s28, s29, s30, hm12⟩
           have z30 := s30
           refine sR <| rw_q rfl (ev_i64_lss s30 s29) ?_
           refine rN (cw_seq ?_)
           refine cw_cond rfl (fun hc13 => ?_) (fun hc13 => ?_)
           · -- true
             have hc13p := of_decide_eq_true hc13
             refine cw_skip (kThen_normal (cw_seq (cw_block (sR ?_))))
             refine rw_q rfl (ev_indexAddr_rk (i := (k2 : Int)) (RdK.ofRest hrn hm12) uT23 ti26 s28 s30 oM sL) <| rw_q (v := (Value.agg #[(Value.string ((ln.getD k2 note0).th)), (Value.string ((ln.getD k2 note0).frm)), (Value.string ((ln.getD k2 note0).id_)), (bl ((ln.getD k2 note0).sl)), (slv (ln.getD k2 note0).body)])) rfl (ev_load_rkA (i := (k2 : Int)) (dflt := note0) (cs := #[(Value.string ((ln.getD k2 note0).th)), (Value.string ((ln.getD k2 note0).frm)), (Value.string ((ln.getD k2 note0).id_)), (bl ((ln.getD k2 note0).sl)), (slv (ln.getD k2 note0).body)]) (RdK.ofRest hrn hm12) sL uT26 rfl ti26 rfl rfl (by decide) rfl) <| rw_c rfl (or_allocX hm12 ti26) ?_
             rintro _ w14 ⟨b8, rfl, _ew14, hm14⟩
             refine rw_n (or_storeW (cs := #[(Value.string ((ln.getD k2 note0).th)), (Value.string ((ln.getD k2 note0).frm)), (Value.string ((ln.getD k2 note0).id_)), (bl ((ln.getD k2 note0).sl)), (slv (ln.getD k2 note0).body)]) ti26 rfl rfl (by kernel_rfl) (one_arr (one_cons rfl (one_cons rfl (one_cons rfl (one_cons rfl (one_cons rfl one_nil)))))) hm14.h0 (by kernel_rfl) rfl) ?_
             rintro _ w15 uq15
             have hm15 : Mem w15 (restOf w0) [(b8, .cells #[(Value.string ((ln.getD k2 note0).th)), (Value.string ((ln.getD k2 note0).frm)), (Value.string ((ln.getD k2 note0).id_)), (bl ((ln.getD k2 note0).sl)), (slv (ln.getD k2 note0).body)] 26 (0, 0))] := hm14.upd0 uq15
             refine rN (sR ?_)
             refine rw_q rfl (ev_fa (r := 4) uT26 rfl (by first | rfl | omega) ti24 rfl rfl) <| rw_q (v := (slv (ln.getD k2 note0).body)) rfl (ev_load1 uT24 rfl rfl hm15.h0 rfl) <| rw_q (v := (i64 (((ln.getD k2 note0).body.2).length : Int))) rfl (ev_len_rd (Rd.ofRest (rdQ NoteT.body hqn (k := k2) sD) hm15) uT24 rfl) <| rw_q rfl (ev_i64_gtr (b := 500) rfl rfl) <| rN ?_
             refine cw_cond rfl (fun hc16 => ?_) (fun hc16 => ?_)
             · -- true
               have hc16p := of_decide_eq_true hc16
               refine sR <| rw_q rfl (ev_assign (v := (bl true)) rfl) ?_
               refine rN (cw_ret ?_)
               refine kBlk_ret (kThen_ret (kBlk_ret ?_))
               refine fnPost_ret [(bl true)] ⟨rfl, trivial⟩ ?_
               have hm17 := Mem.drop ([(b8, .cells #[(Value.string ((ln.getD k2 note0).th)), (Value.string ((ln.getD k2 note0).frm)), (Value.string ((ln.getD k2 note0).id_)), (bl ((ln.getD k2 note0).sl)), (slv (ln.getD k2 note0).body)] 26 (0, 0))]) _ hm15
               exact ⟨true, rfl, (fun h => by cases h), hm17⟩
             · -- false
               have hc16p := of_decide_eq_false hc16
               refine cw_skip (kBlk_normal (cw_region ?_))
               refine rw_q rfl (ev_i64_add (b := 1) s30 rfl oM oM) <| rw_q rfl (ev_move (v := (i64 ((k2 : Int) + 1))) rfl) <| rN ?_
               have hm18 := Mem.drop ([(b8, .cells #[(Value.string ((ln.getD k2 note0).th)), (Value.string ((ln.getD k2 note0).frm)), (Value.string ((ln.getD k2 note0).id_)), (bl ((ln.getD k2 note0).sl)), (slv (ln.getD k2 note0).body)] 26 (0, 0))]) _ hm15
               exact ⟨⟨(k2 + 1), oM, s0, s1, s16, s17, s18, s19, s20, s28, s29, rfl, hm18⟩, meas (rfl) z30 oM oM⟩
           · -- false
             have hc13p := of_decide_eq_false hc13
             refine cw_exit ?_
             refine kThen_exit (kThen_exit (kBlk_hit ?_))
             refine sR <| rw_q rfl (ev_assign (v := (bl false)) rfl) ?_
             refine rN (cw_ret ?_)
             refine fnPost_ret [(bl false)] ⟨rfl, trivial⟩ ?_
             exact ⟨false, rfl, fun _ => ⟨by omega, by omega⟩, hm12⟩

set_option maxHeartbeats 4000000 in
theorem c_speaks24  (w0 : World)   : CallsR Try.prog 14 #[] w0 (fun r w1 => r = (bl true) ∧ Ext w0 w1) := by
 refine callsR_of_cw (args := []) Try.func14 rfl Try.ntmps14 Try.results14 rfl ?_
 have hm0 : Mem w0 (restOf w0) [] := Mem.of_world w0
 have hjl := judge_len (sent := []) (who := ⟨#[97]⟩) (notes := [note0])
 refine sR <| rw_q rfl (ev_assign (v := (bl false)) rfl) ?_
 refine rN (sR ?_)
 refine rw_q rfl (ev_build_pt (c := #[(Value.string ByteArray.empty), (Value.string ByteArray.empty), (Value.string ByteArray.empty), (bl false), (Value.slice none 0 0)]) (pl := [(0, 1), (1, 1), (2, 1), (3, 1), (4, 1)]) ti26 uT26 (by kernel_rfl) pm_nil (by kernel_rfl)) <| rw_c rfl (or_buildSlice_k1 (cs := #[(Value.string ByteArray.empty), (Value.string ByteArray.empty), (Value.string ByteArray.empty), (bl false), (Value.slice none 0 0)]) hm0 uT23 ti26 rfl rfl rfl rfl) ?_
 rintro _ w1 ⟨b2, rfl, _ew1, hm1⟩
 have hm1 : Mem w1 (restOf w0) [(b2, .cells #[(Value.string ByteArray.empty), (Value.string ByteArray.empty), (Value.string ByteArray.empty), (bl false), (Value.slice none 0 0)] 26 (0, 0))] := hm1
 refine rw_c rfl (opR_call Try.func21 bd21 nm21 (args3 rfl rfl rfl) (c_judge (Value.slice none 0 0) ([]) (⟨#[97]⟩) (slc b2 0 1 1) ([note0]) _ (RdK.nil _ _) (fun a h => by cases h) sL (RdK.ofOne (enc := encN) (k := 5) (a := note0) hm1.h0 rfl rfl) (fun a h => by rw [List.mem_singleton.1 h]; exact Rd.nil _ _) sL)) ?_
 rintro rq3 w2 ⟨Hsq3, grq3, k_w2⟩
 have hm2 : Mem w2 (restOf w0) (Hsq3 ++ ([(b2, .cells #[(Value.string ByteArray.empty), (Value.string ByteArray.empty), (Value.string ByteArray.empty), (bl false), (Value.slice none 0 0)] 26 (0, 0))])) := Mem.new (H := [(b2, .cells #[(Value.string ByteArray.empty), (Value.string ByteArray.empty), (Value.string ByteArray.empty), (bl false), (Value.slice none 0 0)] 26 (0, 0))]) (H' := Hsq3) hm1 k_w2
 refine rw_c rfl (or_buildSlice_cl i64 [1] i64_one hm2 uT35 ti3 rfl rfl rfl) ?_
 rintro _ w4 ⟨b4, rfl, _ew4, hm4⟩
 refine rw_c rfl (opR_call Try.func20 bd20 nm20 (args2 rfl rfl) (c_sameI rq3 (slc b4 0 1 1) (judgeF ([]) (⟨#[97]⟩) ([note0])) ([1]) _ (grq3.rd (Mem.pick [_] Hsq3 _ hm4)) (Rd.mkA hm4.h0) sL)) ?_
 rintro _ w5 ⟨rfl, _ew5⟩
 have hm5 := hm4.ext _ew5
 refine rw_q rfl (ev_assign (v := (bl ((judgeF ([]) (⟨#[97]⟩) ([note0])) == ([1])))) rfl) ?_
 refine rN (cw_ret ?_)
 refine fnPost_ret [(bl ((judgeF ([]) (⟨#[97]⟩) ([note0])) == ([1])))] ⟨rfl, trivial⟩ ?_
 exact ⟨congrArg bl (show (judgeF [] ⟨#[97]⟩ [note0] == [1]) = true by decide +kernel), hm5.toExt⟩

set_option maxHeartbeats 4000000 in
theorem law_judges (vs : Value) (ls : List SentT) (who : ByteArray) (vn : Value) (ln : List NoteT) (n : NoteT) (w0 : World)  (hrs : RdK (blks w0) encS 6 vs ls) (hqs : ∀ a ∈ ls, Rd (blks w0) u8 (slv a.body) a.body.2) (hls : ls.length ≤ 9223372036854775807) (hwho : who.size ≤ 9223372036854775807) (hrn : RdK (blks w0) encN 5 vn ln) (hqn : ∀ a ∈ ln, Rd (blks w0) u8 (slv a.body) a.body.2) (hln : ln.length ≤ 9223372036854775807) (hnb : Rd (blks w0) u8 (slv n.body) n.body.2) : CallsR Try.prog 3 #[vs, (Value.string who), vn, (Value.agg #[(Value.string n.th), (Value.string n.frm), (Value.string n.id_), (bl n.sl), (slv n.body)])] w0 (fun r w1 => r = bl true ∧ RowKit.Below w0.heap.size w0 w1) := by
 refine callsR_of_cw (args := [vs, (Value.string who), vn, (Value.agg #[(Value.string n.th), (Value.string n.frm), (Value.string n.id_), (bl n.sl), (slv n.body)])]) Try.func3 rfl Try.ntmps3 Try.results3 rfl ?_
 have hm0 : Mem w0 (restOf w0) [] := Mem.of_world w0
 have hjl := judge_len (sent := ls) (who := who) (notes := ln); have hml : (missF ls who ln).length ≤ ls.length := by unfold missF; exact miss_len _
 refine sR <| rw_c rfl (or_boxX (cs := #[(Value.string n.th), (Value.string n.frm), (Value.string n.id_), (bl n.sl), (slv n.body)]) hm0 rfl) ?_
 rintro _ w1 ⟨b7, rfl, _ew1, hm1⟩
 refine rw_q rfl (ev_assign (v := (bl false)) rfl) ?_
 refine rN (cw_seq (sR ?_))
 refine rw_c rfl (opR_call Try.func14 bd14 nm14 (args0) (c_speaks24 _)) ?_
 rintro _ w2 ⟨rfl, _ew2⟩
 have hm2 := hm1.ext _ew2
 refine rw_q (v := (bl false)) rfl (ev_not (b := true) rfl) <| rN <| cw_cond_f rfl (by decide) ?_
 refine cw_skip (kThen_normal (cw_seq (sR ?_)))
 refine rM rfl (v := vs) rfl <| rM rfl (v := vn) rfl <| rw_c rfl (opR_call Try.func15 bd15 nm15 (args2 rfl rfl) (c_great vs ls vn ln _ (RdK.ofRest hrs hm2) (fun a h => Rd.ofRest (hqs a h) hm2) sL (RdK.ofRest hrn hm2) (fun a h => Rd.ofRest (hqn a h) hm2) sL)) ?_
 rintro _ w4 ⟨gq5, rfl, hgq5, k_w4⟩
 have hm4 : Mem w4 (restOf w0) [(b7, .cells #[(Value.string n.th), (Value.string n.frm), (Value.string n.id_), (bl n.sl), (slv n.body)] 26 (0, 0))] := Mem.new (H := [(b7, .cells #[(Value.string n.th), (Value.string n.frm), (Value.string n.id_), (bl n.sl), (slv n.body)] 26 (0, 0))]) (H' := []) hm2 k_w4
 refine rN ?_
 refine cw_cond rfl (fun hc6 => ?_) (fun hc6 => ?_)
 · -- true
   refine sR <| rw_q rfl (ev_assign (v := (bl true)) rfl) ?_
   refine rN (cw_ret (kThen_ret ?_))
   refine fnPost_ret [(bl true)] ⟨rfl, trivial⟩ ?_
   exact ⟨rfl, Mem.below w0 hm4⟩
 · -- false
   have hgl := hgq5 hc6
   refine cw_skip (kThen_normal (sR ?_))
   refine rM rfl (v := vs) rfl <| rw_q rfl (ev_move (v := (Value.string who)) rfl) <| rw_q (v := (Value.agg #[(Value.string n.th), (Value.string n.frm), (Value.string n.id_), (bl n.sl), (slv n.body)])) rfl (ev_loadW uT26 rfl ti26 rfl hm4.h0 (by kernel_rfl)) <| rw_c rfl (opR_call Try.func16 bd16 nm16 (args3 rfl rfl rfl) (c_mplace vs ls who n _ (RdK.ofRest hrs hm4) (fun a h => Rd.ofRest (hqs a h) hm4) sL (Rd.ofRest hnb hm4))) ?_
   rintro _ w7 ⟨rfl, _ew7⟩
   have hm7 := hm4.ext _ew7
   refine rM rfl rfl <| rw_q (v := (i64 (if 0 > atI ls who n then 0 else atI ls who n))) rfl (ev_extract rfl rfl) <| rw_q (v := (bl (decide (0 ≤ atI ls who n)))) rfl (ev_extract rfl rfl) <| rw_q rfl (ev_assign (v := (i64 (if 0 > atI ls who n then 0 else atI ls who n))) rfl) <| rw_q rfl (ev_assign (v := (bl (decide (0 ≤ atI ls who n)))) rfl) <| rN ?_
   refine CW.abs (fun g => g 0 = vs ∧ g 1 = (Value.string who) ∧ g 2 = vn ∧ g 3 = (Value.agg #[(Value.string n.th), (Value.string n.frm), (Value.string n.id_), (bl n.sl), (slv n.body)]) ∧ g 7 = (ptr b7 0) ∧ g 8 = (bl false) ∧ g 9 = (i64 (if 0 > atI ls who n then 0 else atI ls who n)) ∧ g 10 = (bl (decide (0 ≤ atI ls who n))) ∧ g 16 = (bl false) ∧ g 19 = (bl gq5) ∧ True) ⟨rfl, rfl, rfl, rfl, rfl, rfl, rfl, rfl, rfl, rfl, trivial⟩ ?_
   rintro fr9 ⟨s0, s1, s2, s3, s7, s8, s9, s10, s16, s19, _⟩
   refine sR <| rM rfl s0 <| rM rfl s1 <| rw_q (v := (Value.agg #[(Value.string n.th), (Value.string n.frm), (Value.string n.id_), (bl n.sl), (slv n.body)])) rfl (ev_loadW uT26 rfl ti26 s7 hm7.h0 (by kernel_rfl)) <| rw_c rfl (opR_call Try.func17 bd17 nm17 (args3 rfl rfl rfl) (c_mrplace vs ls who n _ (RdK.ofRest hrs hm7) (fun a h => Rd.ofRest (hqs a h) hm7) sL (Rd.ofRest hnb hm7))) ?_
   rintro _ w10 ⟨rfl, _ew10⟩
   have hm10 := hm7.ext _ew10
   refine rw_q rfl (ev_assign (v := (i64 (atI ls who n))) rfl) ?_
   refine rN (sR ?_)
   refine rM rfl s0 <| rM rfl s1 <| rM rfl s2 <| rw_c rfl (opR_call Try.func18 bd18 nm18 (args3 rfl rfl rfl) (c_missing vs ls who vn ln _ (RdK.ofRest hrs hm10) (fun a h => Rd.ofRest (hqs a h) hm10) sL (RdK.ofRest hrn hm10) (fun a h => Rd.ofRest (hqn a h) hm10) sL)) ?_
   rintro rq13 w12 ⟨Hsq13, grq13, k_w12⟩
   have hm12 : Mem w12 (restOf w0) (Hsq13 ++ ([(b7, .cells #[(Value.string n.th), (Value.string n.frm), (Value.string n.id_), (bl n.sl), (slv n.body)] 26 (0, 0))])) := Mem.new (H := [(b7, .cells #[(Value.string n.th), (Value.string n.frm), (Value.string n.id_), (bl n.sl), (slv n.body)] 26 (0, 0))]) (H' := Hsq13) hm10 k_w12
   refine rM rfl s0 <| rM rfl s1 <| rM rfl s2 <| rw_c rfl (opR_call Try.func19 bd19 nm19 (args3 rfl rfl rfl) (c_rmissing vs ls who vn ln _ (RdK.ofRest hrs hm12) (fun a h => Rd.ofRest (hqs a h) hm12) sL (RdK.ofRest hrn hm12) (fun a h => Rd.ofRest (hqn a h) hm12) sL)) ?_
   rintro rq15 w14 ⟨Hsq15, grq15, k_w14⟩
   have hm14 : Mem w14 (restOf w0) (Hsq15 ++ (Hsq13 ++ ([(b7, .cells #[(Value.string n.th), (Value.string n.frm), (Value.string n.id_), (bl n.sl), (slv n.body)] 26 (0, 0))]))) := Mem.new (H := Hsq13 ++ ([(b7, .cells #[(Value.string n.th), (Value.string n.frm), (Value.string n.id_), (bl n.sl), (slv n.body)] 26 (0, 0))])) (H' := Hsq15) hm12 k_w14
   refine rA rfl (v := rq13) rfl <| rA rfl (v := rq15) rfl <| rN ?_
   refine CW.abs (fun g => g 0 = vs ∧ g 1 = (Value.string who) ∧ g 2 = vn ∧ g 3 = (Value.agg #[(Value.string n.th), (Value.string n.frm), (Value.string n.id_), (bl n.sl), (slv n.body)]) ∧ g 7 = (ptr b7 0) ∧ g 8 = (bl false) ∧ g 9 = (i64 (if 0 > atI ls who n then 0 else atI ls who n)) ∧ g 10 = (bl (decide (0 ≤ atI ls who n))) ∧ g 11 = (i64 (atI ls who n)) ∧ g 12 = rq13 ∧ g 13 = rq15 ∧ g 16 = (bl false) ∧ g 19 = (bl gq5) ∧ True) ⟨s0, s1, s2, s3, s7, s8, s9, s10, rfl, rfl, rfl, s16, s19, trivial⟩ ?_
   rintro fr16 ⟨s0, s1, s2, s3, s7, s8, s9, s10, s11, s12, s13, s16, s19, _⟩
   refine cw_seq (sR ?_)
   refine rM rfl s10 <| rM rfl s11 <| rw_q rfl (ev_i64_geq (b := 0) rfl rfl) <| rw_q rfl (ev_bool_neq uT4 rfl rfl) <| rw_q rfl (ev_move (v := (bl ((decide (0 ≤ atI ls who n)) != (decide (0 ≤ (atI ls who n)))))) rfl) ?_
   have hd17 : ((decide (0 ≤ atI ls who n)) != (decide (0 ≤ (atI ls who n)))) = false := told_ne rfl
   refine rw_gyq (s := 43) rfl rfl hd17 rfl (ev_move s10) <| rw_gyq (s := 43) rfl rfl hd17 rfl (ev_move (v := (bl (decide (0 ≤ atI ls who n)))) rfl) ?_
   rcases Bool.eq_false_or_eq_true (decide (0 ≤ atI ls who n)) with hb18 | hb18
   · -- true
     have hb18p := of_decide_eq_true hb18
     refine rw_gyq (s := 45) rfl rfl hb18 rfl (ev_move s9) <| rw_gyq (s := 45) rfl rfl hb18 rfl (ev_move s11) <| rw_gyq (s := 45) rfl rfl hb18 rfl (ev_i64_neq rfl rfl) <| rw_gyq (s := 43) rfl rfl hd17 rfl (ev_pick_tk rfl hb18 rfl) <| rw_q rfl (ev_pick_fk rfl hd17 rfl) <| rw_q rfl (ev_move (v := (bl ((if 0 > atI ls who n then 0 else atI ls who n) != (atI ls who n)))) rfl) ?_
     have hd19 : ((if 0 > atI ls who n then 0 else atI ls who n) != (atI ls who n)) = false := told_ne (if_neg (by have h := of_decide_eq_true hb18; omega))
     refine rw_gyq (s := 51) rfl rfl hd19 rfl (ev_move s10) <| rw_gyq (s := 51) rfl rfl hd19 rfl (ev_not rfl) <| rw_gyq (s := 51) rfl rfl hd19 rfl (ev_move (v := (bl (!(decide (0 ≤ atI ls who n))))) rfl) ?_
     have hd20 : (!(decide (0 ≤ atI ls who n))) = false := congrArg Bool.not hb18
     refine rw_gn (s := 54) rfl rfl hd20 rfl <| rw_gn (s := 54) rfl rfl hd20 rfl <| rw_gyq (s := 51) rfl rfl hd19 rfl (ev_pick_fk rfl hd20 rfl) <| rw_q rfl (ev_pick_fk rfl hd19 rfl) <| rw_q rfl (ev_move (v := (bl false)) rfl) <| rw_gyq (s := 59) rfl rfl rfl rfl (ev_move s12) ?_
     refine rw_gyq (s := 59) rfl rfl rfl rfl (ev_len_rd (grq13.rd (Mem.pick Hsq15 Hsq13 _ hm14)) uT32 rfl) <| rw_gyq (s := 59) rfl rfl rfl rfl (ev_move s13) <| rw_gyq (s := 59) rfl rfl rfl rfl (ev_len_rd (grq15.rd hm14) uT32 rfl) <| rw_gyq (s := 59) rfl rfl rfl rfl (ev_i64_neq rfl rfl) <| rw_q rfl (ev_pick_f rfl rfl) <| rN ?_
     refine CW.abs (fun g => g 0 = vs ∧ g 1 = (Value.string who) ∧ g 2 = vn ∧ g 3 = (Value.agg #[(Value.string n.th), (Value.string n.frm), (Value.string n.id_), (bl n.sl), (slv n.body)]) ∧ g 7 = (ptr b7 0) ∧ g 8 = (bl false) ∧ g 9 = (i64 (if 0 > atI ls who n then 0 else atI ls who n)) ∧ g 10 = (bl (decide (0 ≤ atI ls who n))) ∧ g 11 = (i64 (atI ls who n)) ∧ g 12 = rq13 ∧ g 13 = rq15 ∧ g 16 = (bl false) ∧ g 19 = (bl gq5) ∧ g 65 = (bl (((missF ls who ln).length : Int) != ((missF ls who ln).length : Int))) ∧ True) ⟨s0, s1, s2, s3, s7, s8, s9, s10, s11, s12, s13, s16, s19, rfl, trivial⟩ ?_
     rintro fr21 ⟨s0, s1, s2, s3, s7, s8, s9, s10, s11, s12, s13, s16, s19, s65, _⟩
     have hd22 : (((missF ls who ln).length : Int) != ((missF ls who ln).length : Int)) = false := told_ne rfl
     refine cw_cond_f s65 hd22 ?_
     refine cw_skip (kThen_normal (cw_seq (sR ?_)))
     refine rM rfl s12 <| rw_q (v := (i64 ((missF ls who ln).length : Int))) rfl (ev_len_rd (grq13.rd (Mem.pick Hsq15 Hsq13 _ hm14)) uT32 rfl) <| rw_q rfl (ev_move (v := (i64 0)) rfl) ?_
     refine rN (cw_block ?_)
     refine cw_loop (fun g wv => ∃ (k : Nat), (k ≤ (missF ls who ln).length) ∧ g 0 = vs ∧ g 1 = (Value.string who) ∧ g 2 = vn ∧ g 3 = (Value.agg #[(Value.string n.th), (Value.string n.frm), (Value.string n.id_), (bl n.sl), (slv n.body)]) ∧ g 7 = (ptr b7 0) ∧ g 9 = (i64 (if 0 > atI ls who n then 0 else atI ls who n)) ∧ g 10 = (bl (decide (0 ≤ atI ls who n))) ∧ g 11 = (i64 (atI ls who n)) ∧ g 12 = rq13 ∧ g 13 = rq15 ∧ g 16 = (bl false) ∧ g 19 = (bl gq5) ∧ g 65 = (bl (((missF ls who ln).length : Int) != ((missF ls who ln).length : Int))) ∧ g 67 = (i64 ((missF ls who ln).length : Int)) ∧ g 68 = (i64 (k : Int)) ∧ Mem wv (restOf w0) (Hsq15 ++ (Hsq13 ++ ([(b7, .cells #[(Value.string n.th), (Value.string n.frm), (Value.string n.id_), (bl n.sl), (slv n.body)] 26 (0, 0))])))) (fun g wv => (((missF ls who ln).length : Int) - RowKit.intOf (g 68)).toNat) ?_ ?_
     · exact ⟨0, (Nat.zero_le _), s0, s1, s2, s3, s7, s9, s10, s11, s12, s13, s16, s19, s65, rfl, rfl, hm14⟩
     · rintro fr23 w24 ⟨k, hk, s0, s1, s2, s3, s7, s9, s10, s11, s12, s13, s16, s19, s65, s67, s68, hm24⟩
       have z68 := s68
       refine sR <| rw_q rfl (ev_i64_lss s68 s67) ?_
       refine rN (cw_seq ?_)
       refine cw_cond rfl (fun hc25 => ?_) (fun hc25 => ?_)
       · -- true
         have hc25p := of_decide_eq_true hc25
         refine cw_skip (kThen_normal (cw_seq (cw_block (sR ?_))))
         refine rM rfl s68 <| rw_q rfl (ev_assign (v := (i64 (k : Int))) rfl) ?_
         refine rN (cw_seq ?_)
         refine cw_draw [(0, false), (1, false), (2, false), (3, false), (4, false), (5, false), (6, false), (7, false)] 8 (by kernel_rfl) <| dM rfl rfl s12 <| dw_q rfl rfl (fun _ _hx => ev_move (v := (i64 (k : Int))) rfl) <| dw_q rfl rfl (fun _ _hx => ev_indexAddr_rdv (grq13.rd (Mem.pick Hsq15 Hsq13 _ (hm24.ext _hx))) uT32 ti9 rfl rfl oM sL) <| dw_q (v := (Value.string ((missF ls who ln).getD k ByteArray.empty))) rfl rfl (fun _ _hx => ev_load_rdD (l := missF ls who ln) (i := (k : Int)) (dflt := ByteArray.empty) (grq13.rd (Mem.pick Hsq15 Hsq13 _ (hm24.ext _hx))) uT9 rfl oM sL rfl) <| dM rfl rfl s13 ?_
         refine dw_q rfl rfl (fun _ _hx => ev_move (v := (i64 (k : Int))) rfl) <| dw_q rfl rfl (fun _ _hx => ev_indexAddr_rdv (grq15.rd (hm24.ext _hx)) uT32 ti9 rfl rfl oM sL) <| dw_q (v := (Value.string ((missF ls who ln).getD k ByteArray.empty))) rfl rfl (fun _ _hx => ev_load_rdD (l := missF ls who ln) (i := (k : Int)) (dflt := ByteArray.empty) (grq15.rd (hm24.ext _hx)) uT9 rfl oM sL rfl) ?_
         refine dw_nil (fun w26 _ew26 => ?_)
         have hm26 := hm24.ext _ew26
         refine rw_q rfl (ev_str_neq (s := ((missF ls who ln).getD k ByteArray.empty)) (t := ((missF ls who ln).getD k ByteArray.empty)) rfl rfl) <| rN ?_
         have hd27 : (!decide (((missF ls who ln).getD k ByteArray.empty) = ((missF ls who ln).getD k ByteArray.empty))) = false := by simp
         refine cw_cond_f rfl hd27 ?_
         refine cw_skip (kBlk_normal (cw_region ?_))
         refine rw_q rfl (ev_i64_add (b := 1) s68 rfl oM oM) <| rw_q rfl (ev_move (v := (i64 ((k : Int) + 1))) rfl) <| rN ?_
         exact ⟨⟨(k + 1), oM, s0, s1, s2, s3, s7, s9, s10, s11, s12, s13, s16, s19, s65, s67, rfl, hm26⟩, meas (rfl) z68 oM oM⟩
       · -- false
         have hc25p := of_decide_eq_false hc25
         refine cw_exit ?_
         refine kThen_exit (kThen_exit (kBlk_hit ?_))
         refine sR <| rM rfl s0 <| rM rfl s1 <| rM rfl s2 <| rw_c rfl (opR_call Try.func21 bd21 nm21 (args3 rfl rfl rfl) (c_judge vs ls who vn ln _ (RdK.ofRest hrs hm24) (fun a h => Rd.ofRest (hqs a h) hm24) sL (RdK.ofRest hrn hm24) (fun a h => Rd.ofRest (hqn a h) hm24) sL)) ?_
         rintro rq29 w28 ⟨Hsq29, grq29, k_w28⟩
         have hm28 : Mem w28 (restOf w0) (Hsq29 ++ (Hsq15 ++ (Hsq13 ++ ([(b7, .cells #[(Value.string n.th), (Value.string n.frm), (Value.string n.id_), (bl n.sl), (slv n.body)] 26 (0, 0))])))) := Mem.new (H := Hsq15 ++ (Hsq13 ++ ([(b7, .cells #[(Value.string n.th), (Value.string n.frm), (Value.string n.id_), (bl n.sl), (slv n.body)] 26 (0, 0))]))) (H' := Hsq29) hm24 k_w28
         refine rM rfl s0 <| rM rfl s1 <| rM rfl s2 <| rw_c rfl (opR_call Try.func22 bd22 nm22 (args3 rfl rfl rfl) (c_rjudge vs ls who vn ln _ (RdK.ofRest hrs hm28) (fun a h => Rd.ofRest (hqs a h) hm28) sL (RdK.ofRest hrn hm28) (fun a h => Rd.ofRest (hqn a h) hm28) sL)) ?_
         rintro rq31 w30 ⟨Hsq31, grq31, k_w30⟩
         have hm30 : Mem w30 (restOf w0) (Hsq31 ++ (Hsq29 ++ (Hsq15 ++ (Hsq13 ++ ([(b7, .cells #[(Value.string n.th), (Value.string n.frm), (Value.string n.id_), (bl n.sl), (slv n.body)] 26 (0, 0))]))))) := Mem.new (H := Hsq29 ++ (Hsq15 ++ (Hsq13 ++ ([(b7, .cells #[(Value.string n.th), (Value.string n.frm), (Value.string n.id_), (bl n.sl), (slv n.body)] 26 (0, 0))])))) (H' := Hsq31) hm28 k_w30
         refine rw_c rfl (opR_call Try.func20 bd20 nm20 (args2 rfl rfl) (c_sameI rq29 rq31 (judgeF ls who ln) (judgeF ls who ln) _ (grq29.rd (Mem.pick Hsq31 Hsq29 _ hm30)) (grq31.rd hm30) sL)) ?_
         rintro _ w32 ⟨rfl, _ew32⟩
         have hm32 := hm30.ext _ew32
         refine rw_q rfl (ev_assign (v := (bl ((judgeF ls who ln) == (judgeF ls who ln)))) rfl) ?_
         refine rN (cw_ret ?_)
         refine fnPost_ret [(bl ((judgeF ls who ln) == (judgeF ls who ln)))] ⟨rfl, trivial⟩ ?_
         have hd34 : ((judgeF ls who ln) == (judgeF ls who ln)) = true := told_true rfl
         exact ⟨congrArg bl hd34, Mem.below w0 hm32⟩
   · -- false
     have hb18p := of_decide_eq_false hb18
     refine rw_gn (s := 45) rfl rfl hb18 rfl <| rw_gn (s := 45) rfl rfl hb18 rfl <| rw_gn (s := 45) rfl rfl hb18 rfl <| rw_gyq (s := 43) rfl rfl hd17 rfl (ev_pick_fk rfl hb18 rfl) <| rw_q rfl (ev_pick_fk rfl hd17 rfl) <| rw_q rfl (ev_move (v := (bl false)) rfl) ?_
     refine rw_gyq (s := 51) rfl rfl rfl rfl (ev_move s10) <| rw_gyq (s := 51) rfl rfl rfl rfl (ev_not rfl) <| rw_gyq (s := 51) rfl rfl rfl rfl (ev_move (v := (bl (!(decide (0 ≤ atI ls who n))))) rfl) ?_
     have hd35 : (!(decide (0 ≤ atI ls who n))) = true := congrArg Bool.not hb18
     refine rw_gyq (s := 54) rfl rfl hd35 rfl (ev_move s9) <| rw_gyq (s := 54) rfl rfl hd35 rfl (ev_i64_neq (b := 0) rfl rfl) <| rw_gyq (s := 51) rfl rfl rfl rfl (ev_pick_tk rfl hd35 rfl) <| rw_q rfl (ev_pick_f rfl rfl) <| rw_q rfl (ev_move (v := (bl ((if 0 > atI ls who n then 0 else atI ls who n) != 0))) rfl) ?_
     have hd36 : ((if 0 > atI ls who n then 0 else atI ls who n) != 0) = false := told_ne (if_pos (by have h := of_decide_eq_false hb18; omega))
     refine rw_gyq (s := 59) rfl rfl hd36 rfl (ev_move s12) <| rw_gyq (s := 59) rfl rfl hd36 rfl (ev_len_rd (grq13.rd (Mem.pick Hsq15 Hsq13 _ hm14)) uT32 rfl) <| rw_gyq (s := 59) rfl rfl hd36 rfl (ev_move s13) <| rw_gyq (s := 59) rfl rfl hd36 rfl (ev_len_rd (grq15.rd hm14) uT32 rfl) <| rw_gyq (s := 59) rfl rfl hd36 rfl (ev_i64_neq rfl rfl) <| rw_q rfl (ev_pick_fk rfl hd36 rfl) ?_
     refine rN ?_
     refine CW.abs (fun g => g 0 = vs ∧ g 1 = (Value.string who) ∧ g 2 = vn ∧ g 3 = (Value.agg #[(Value.string n.th), (Value.string n.frm), (Value.string n.id_), (bl n.sl), (slv n.body)]) ∧ g 7 = (ptr b7 0) ∧ g 8 = (bl false) ∧ g 9 = (i64 (if 0 > atI ls who n then 0 else atI ls who n)) ∧ g 10 = (bl (decide (0 ≤ atI ls who n))) ∧ g 11 = (i64 (atI ls who n)) ∧ g 12 = rq13 ∧ g 13 = rq15 ∧ g 16 = (bl false) ∧ g 19 = (bl gq5) ∧ g 65 = (bl (((missF ls who ln).length : Int) != ((missF ls who ln).length : Int))) ∧ True) ⟨s0, s1, s2, s3, s7, s8, s9, s10, s11, s12, s13, s16, s19, rfl, trivial⟩ ?_
     rintro fr37 ⟨s0, s1, s2, s3, s7, s8, s9, s10, s11, s12, s13, s16, s19, s65, _⟩
     have hd38 : (((missF ls who ln).length : Int) != ((missF ls who ln).length : Int)) = false := told_ne rfl
     refine cw_cond_f s65 hd38 ?_
     refine cw_skip (kThen_normal (cw_seq (sR ?_)))
     refine rM rfl s12 <| rw_q (v := (i64 ((missF ls who ln).length : Int))) rfl (ev_len_rd (grq13.rd (Mem.pick Hsq15 Hsq13 _ hm14)) uT32 rfl) <| rw_q rfl (ev_move (v := (i64 0)) rfl) ?_
     refine rN (cw_block ?_)
     refine cw_loop (fun g wv => ∃ (k : Nat), (k ≤ (missF ls who ln).length) ∧ g 0 = vs ∧ g 1 = (Value.string who) ∧ g 2 = vn ∧ g 3 = (Value.agg #[(Value.string n.th), (Value.string n.frm), (Value.string n.id_), (bl n.sl), (slv n.body)]) ∧ g 7 = (ptr b7 0) ∧ g 9 = (i64 (if 0 > atI ls who n then 0 else atI ls who n)) ∧ g 10 = (bl (decide (0 ≤ atI ls who n))) ∧ g 11 = (i64 (atI ls who n)) ∧ g 12 = rq13 ∧ g 13 = rq15 ∧ g 16 = (bl false) ∧ g 19 = (bl gq5) ∧ g 65 = (bl (((missF ls who ln).length : Int) != ((missF ls who ln).length : Int))) ∧ g 67 = (i64 ((missF ls who ln).length : Int)) ∧ g 68 = (i64 (k : Int)) ∧ Mem wv (restOf w0) (Hsq15 ++ (Hsq13 ++ ([(b7, .cells #[(Value.string n.th), (Value.string n.frm), (Value.string n.id_), (bl n.sl), (slv n.body)] 26 (0, 0))])))) (fun g wv => (((missF ls who ln).length : Int) - RowKit.intOf (g 68)).toNat) ?_ ?_
     · exact ⟨0, (Nat.zero_le _), s0, s1, s2, s3, s7, s9, s10, s11, s12, s13, s16, s19, s65, rfl, rfl, hm14⟩
     · rintro fr39 w40 ⟨k, hk, s0, s1, s2, s3, s7, s9, s10, s11, s12, s13, s16, s19, s65, s67, s68, hm40⟩
       have z68 := s68
       refine sR <| rw_q rfl (ev_i64_lss s68 s67) ?_
       refine rN (cw_seq ?_)
       refine cw_cond rfl (fun hc41 => ?_) (fun hc41 => ?_)
       · -- true
         have hc41p := of_decide_eq_true hc41
         refine cw_skip (kThen_normal (cw_seq (cw_block (sR ?_))))
         refine rM rfl s68 <| rw_q rfl (ev_assign (v := (i64 (k : Int))) rfl) ?_
         refine rN (cw_seq ?_)
         refine cw_draw [(0, false), (1, false), (2, false), (3, false), (4, false), (5, false), (6, false), (7, false)] 8 (by kernel_rfl) <| dM rfl rfl s12 <| dw_q rfl rfl (fun _ _hx => ev_move (v := (i64 (k : Int))) rfl) <| dw_q rfl rfl (fun _ _hx => ev_indexAddr_rdv (grq13.rd (Mem.pick Hsq15 Hsq13 _ (hm40.ext _hx))) uT32 ti9 rfl rfl oM sL) <| dw_q (v := (Value.string ((missF ls who ln).getD k ByteArray.empty))) rfl rfl (fun _ _hx => ev_load_rdD (l := missF ls who ln) (i := (k : Int)) (dflt := ByteArray.empty) (grq13.rd (Mem.pick Hsq15 Hsq13 _ (hm40.ext _hx))) uT9 rfl oM sL rfl) <| dM rfl rfl s13 ?_
         refine dw_q rfl rfl (fun _ _hx => ev_move (v := (i64 (k : Int))) rfl) <| dw_q rfl rfl (fun _ _hx => ev_indexAddr_rdv (grq15.rd (hm40.ext _hx)) uT32 ti9 rfl rfl oM sL) <| dw_q (v := (Value.string ((missF ls who ln).getD k ByteArray.empty))) rfl rfl (fun _ _hx => ev_load_rdD (l := missF ls who ln) (i := (k : Int)) (dflt := ByteArray.empty) (grq15.rd (hm40.ext _hx)) uT9 rfl oM sL rfl) ?_
         refine dw_nil (fun w42 _ew42 => ?_)
         have hm42 := hm40.ext _ew42
         refine rw_q rfl (ev_str_neq (s := ((missF ls who ln).getD k ByteArray.empty)) (t := ((missF ls who ln).getD k ByteArray.empty)) rfl rfl) <| rN ?_
         have hd43 : (!decide (((missF ls who ln).getD k ByteArray.empty) = ((missF ls who ln).getD k ByteArray.empty))) = false := by simp
         refine cw_cond_f rfl hd43 ?_
         refine cw_skip (kBlk_normal (cw_region ?_))
         refine rw_q rfl (ev_i64_add (b := 1) s68 rfl oM oM) <| rw_q rfl (ev_move (v := (i64 ((k : Int) + 1))) rfl) <| rN ?_
         exact ⟨⟨(k + 1), oM, s0, s1, s2, s3, s7, s9, s10, s11, s12, s13, s16, s19, s65, s67, rfl, hm42⟩, meas (rfl) z68 oM oM⟩
       · -- false
         have hc41p := of_decide_eq_false hc41
         refine cw_exit ?_
         refine kThen_exit (kThen_exit (kBlk_hit ?_))
         refine sR <| rM rfl s0 <| rM rfl s1 <| rM rfl s2 <| rw_c rfl (opR_call Try.func21 bd21 nm21 (args3 rfl rfl rfl) (c_judge vs ls who vn ln _ (RdK.ofRest hrs hm40) (fun a h => Rd.ofRest (hqs a h) hm40) sL (RdK.ofRest hrn hm40) (fun a h => Rd.ofRest (hqn a h) hm40) sL)) ?_
         rintro rq45 w44 ⟨Hsq45, grq45, k_w44⟩
         have hm44 : Mem w44 (restOf w0) (Hsq45 ++ (Hsq15 ++ (Hsq13 ++ ([(b7, .cells #[(Value.string n.th), (Value.string n.frm), (Value.string n.id_), (bl n.sl), (slv n.body)] 26 (0, 0))])))) := Mem.new (H := Hsq15 ++ (Hsq13 ++ ([(b7, .cells #[(Value.string n.th), (Value.string n.frm), (Value.string n.id_), (bl n.sl), (slv n.body)] 26 (0, 0))]))) (H' := Hsq45) hm40 k_w44
         refine rM rfl s0 <| rM rfl s1 <| rM rfl s2 <| rw_c rfl (opR_call Try.func22 bd22 nm22 (args3 rfl rfl rfl) (c_rjudge vs ls who vn ln _ (RdK.ofRest hrs hm44) (fun a h => Rd.ofRest (hqs a h) hm44) sL (RdK.ofRest hrn hm44) (fun a h => Rd.ofRest (hqn a h) hm44) sL)) ?_
         rintro rq47 w46 ⟨Hsq47, grq47, k_w46⟩
         have hm46 : Mem w46 (restOf w0) (Hsq47 ++ (Hsq45 ++ (Hsq15 ++ (Hsq13 ++ ([(b7, .cells #[(Value.string n.th), (Value.string n.frm), (Value.string n.id_), (bl n.sl), (slv n.body)] 26 (0, 0))]))))) := Mem.new (H := Hsq45 ++ (Hsq15 ++ (Hsq13 ++ ([(b7, .cells #[(Value.string n.th), (Value.string n.frm), (Value.string n.id_), (bl n.sl), (slv n.body)] 26 (0, 0))])))) (H' := Hsq47) hm44 k_w46
         refine rw_c rfl (opR_call Try.func20 bd20 nm20 (args2 rfl rfl) (c_sameI rq45 rq47 (judgeF ls who ln) (judgeF ls who ln) _ (grq45.rd (Mem.pick Hsq47 Hsq45 _ hm46)) (grq47.rd hm46) sL)) ?_
         rintro _ w48 ⟨rfl, _ew48⟩
         have hm48 := hm46.ext _ew48
         refine rw_q rfl (ev_assign (v := (bl ((judgeF ls who ln) == (judgeF ls who ln)))) rfl) ?_
         refine rN (cw_ret ?_)
         refine fnPost_ret [(bl ((judgeF ls who ln) == (judgeF ls who ln)))] ⟨rfl, trivial⟩ ?_
         have hd50 : ((judgeF ls who ln) == (judgeF ls who ln)) = true := told_true rfl
         exact ⟨congrArg bl hd50, Mem.below w0 hm48⟩


end Go.Proofs.Ytfmjfojhcmmgcaa
