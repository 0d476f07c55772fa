/- All that was sent. Conditions: none beyond those that each theorem states. -/
import Derived.Test.YtfmjfojhcmmgcaaMd6
namespace Go.Proofs.Ytfmjfojhcmmgcaa
set_option linter.unusedVariables false
set_option linter.unusedSimpArgs false
attribute [local irreducible] judgeF missF atI accF seenF jpre missK stepF mineK

set_option maxHeartbeats 4000000 in
theorem law_mwhole (vs : Value) (ls : List SentT) (who : ByteArray) (vo : Value) (lo : List Int) (w0 : World)  (hrs : RdK (blks w0) encS 6 vs ls) (hqs : ∀ a ∈ ls, Rd (blks w0) u8 (slv a.body) a.body.2) (hls : ls.length ≤ 9223372036854775807) (hwho : who.size ≤ 9223372036854775807) (hro : Rd (blks w0) i64 vo lo) (hlo : lo.length ≤ 9223372036854775807) : CallsR Try.prog 4 #[vs, (Value.string who), vo] w0 (fun r w1 => r = bl true ∧ RowKit.Below w0.heap.size w0 w1) := by
 refine callsR_of_cw (args := [vs, (Value.string who), vo]) Try.func4 rfl Try.ntmps4 Try.results4 rfl ?_
 have hm0 : Mem w0 (restOf w0) [] := Mem.of_world w0
 refine sR <| rw_q rfl (ev_assign (v := (bl false)) rfl) ?_
 refine rN (cw_seq (sR ?_))
 refine rw_c rfl (opR_call Try.func14 bd14 nm14 (args0) (c_speaks24 _)) ?_
 rintro _ w1 ⟨rfl, _ew1⟩
 have hm1 := hm0.ext _ew1
 refine rw_q (v := (bl false)) rfl (ev_not (b := true) rfl) <| rN <| cw_cond_f rfl (by decide) ?_
 refine cw_skip (kThen_normal (cw_seq (sR ?_)))
 refine rM rfl (v := vs) rfl <| rw_c rfl (opR_call Try.func15 bd15 nm15 (args2 rfl rfl) (c_great vs ls (Value.slice none 0 0) ([]) _ (RdK.ofRest hrs hm1) (fun a h => Rd.ofRest (hqs a h) hm1) sL (RdK.nil _ _) (fun a h => by cases h) sL)) ?_
 rintro _ w3 ⟨gq4, rfl, hgq4, k_w3⟩
 have hm3 : Mem w3 (restOf w0) [] := Mem.new (H := []) (H' := []) hm1 k_w3
 refine rw_q rfl (ev_move (v := (bl gq4)) rfl) ?_
 rcases Bool.eq_false_or_eq_true gq4 with hb5 | hb5
 · -- true
   refine rw_gn (s := 20) rfl rfl hb5 rfl <| rw_gn (s := 20) rfl rfl hb5 rfl <| rw_gn (s := 20) rfl rfl hb5 rfl <| rw_q rfl (ev_pick_tk rfl hb5 rfl) <| rN <| cw_cond_t rfl (by decide) ?_
   refine sR <| rw_q rfl (ev_assign (v := (bl true)) rfl) ?_
   refine rN (cw_ret (kThen_ret ?_))
   refine fnPost_ret [(bl true)] ⟨rfl, trivial⟩ ?_
   exact ⟨rfl, Mem.below w0 hm3⟩
 · -- false
   refine rw_gyq (s := 20) rfl rfl hb5 rfl (ev_move (v := vo) rfl) <| rw_gyq (s := 20) rfl rfl hb5 rfl (ev_len_rd (Rd.ofRest hro hm3) uT35 rfl) <| rw_gyq (s := 20) rfl rfl hb5 rfl (ev_i64_gtr (b := 100) rfl rfl) <| rw_q rfl (ev_pick_fk rfl hb5 rfl) <| rN ?_
   refine cw_cond rfl (fun hc6 => ?_) (fun hc6 => ?_)
   · -- true
     have hc6p := of_decide_eq_true hc6
     refine sR <| rw_q rfl (ev_assign (v := (bl true)) rfl) ?_
     refine rN (cw_ret (kThen_ret ?_))
     refine fnPost_ret [(bl true)] ⟨rfl, trivial⟩ ?_
     exact ⟨rfl, Mem.below w0 hm3⟩
   · -- false
     have hc6p := of_decide_eq_false hc6
     have hgl := hgq4 hb5
     refine cw_skip (kThen_normal (sR ?_))
     refine rw_c rfl (or_buildSlice_p (c := #[]) hm3 uT23 ti26 rfl pm_nil (by kernel_rfl)) ?_
     rintro _ w7 ⟨b25, rfl, _ew7, hm7⟩
     have hm7 : Mem w7 (restOf w0) [(b25, .cells #[] 26 (0, 0))] := hm7
     refine rw_q rfl (ev_assign (v := (slc b25 0 0 0)) rfl) ?_
     refine rN (cw_seq (sR ?_))
     refine rM rfl (v := vs) rfl <| rw_q (v := (i64 (ls.length : Int))) rfl (ev_len_rk (RdK.ofRest hrs hm7) uT22 rfl) <| rw_q rfl (ev_move (v := (i64 0)) rfl) <| rN ?_
     refine CW.abs (fun g => g 0 = vs ∧ g 1 = (Value.string who) ∧ g 2 = vo ∧ g 6 = (bl false) ∧ g 7 = (slc b25 0 0 0) ∧ g 17 = (bl false) ∧ g 24 = (bl (decide (100 < (lo.length : Int)))) ∧ g 26 = vs ∧ g 27 = (i64 (ls.length : Int)) ∧ g 28 = (i64 0) ∧ True) ⟨rfl, rfl, rfl, rfl, rfl, rfl, rfl, rfl, rfl, rfl, trivial⟩ ?_
     rintro fr8 ⟨s0, s1, s2, s6, s7, s17, s24, s26, s27, s28, _⟩
     refine cw_block ?_
     refine cw_loop (fun g wv => ∃ (k : Nat) (vm : Value) (Hs : List (Nat × Obj)), (k ≤ ls.length) ∧ (GrowK encN 5 26 vm (mineK ls who k) Hs) ∧ ((ls.take k).Pairwise offS) ∧ g 0 = vs ∧ g 1 = (Value.string who) ∧ g 2 = vo ∧ g 7 = vm ∧ g 17 = (bl false) ∧ g 24 = (bl (decide (100 < (lo.length : Int)))) ∧ g 26 = vs ∧ g 27 = (i64 (ls.length : Int)) ∧ g 28 = (i64 (k : Int)) ∧ Mem wv (restOf w0) (Hs ++ ([]))) (fun g wv => ((ls.length : Int) - RowKit.intOf (g 28)).toNat) ?_ ?_
     · exact ⟨0, (slc b25 0 0 0), [(b25, .cells #[] 26 (0, 0))], (Nat.zero_le _), (GrowK.cast (GrowK.of encN 5 26 b25 [] rfl (by simp)) mine_0), off_0, s0, s1, s2, s7, s17, s24, s26, s27, s28, hm7⟩
     · rintro fr9 w10 ⟨k, vm, Hs, hk, hg, hu, s0, s1, s2, s7, s17, s24, s26, s27, s28, hm10⟩
       have z7 := s7
       have z28 := s28
       have hml := mine_len (sent := ls) (who := who) k
       refine sR <| rw_q rfl (ev_i64_lss s28 s27) ?_
       refine rN (cw_seq ?_)
       refine cw_cond rfl (fun hc11 => ?_) (fun hc11 => ?_)
       · -- true
         have hc11p := of_decide_eq_true hc11
         refine cw_skip (kThen_normal (cw_seq (cw_block (sR ?_))))
         refine rM rfl s28 <| rw_q rfl (ev_indexAddr_rk (i := (k : Int)) (RdK.ofRest hrs hm10) uT22 ti39 s26 s28 oM sL) <| rw_q (v := (Value.agg #[(Value.string ((ls.getD k sent0).frm)), (Value.string ((ls.getD k sent0).to_)), (Value.string ((ls.getD k sent0).id_)), (Value.string ((ls.getD k sent0).th)), (bl ((ls.getD k sent0).sl)), (slv (ls.getD k sent0).body)])) rfl (ev_load_rkA (i := (k : Int)) (dflt := sent0) (cs := #[(Value.string ((ls.getD k sent0).frm)), (Value.string ((ls.getD k sent0).to_)), (Value.string ((ls.getD k sent0).id_)), (Value.string ((ls.getD k sent0).th)), (bl ((ls.getD k sent0).sl)), (slv (ls.getD k sent0).body)]) (RdK.ofRest hrs hm10) sL uT39 rfl ti39 rfl rfl (by decide) rfl) <| rw_c rfl (or_allocX hm10 ti39) ?_
         rintro _ w12 ⟨b9, rfl, _ew12, hm12⟩
         refine rw_q rfl (ev_assign (v := (i64 (k : Int))) rfl) <| rw_n (or_storeW (cs := #[(Value.string ((ls.getD k sent0).frm)), (Value.string ((ls.getD k sent0).to_)), (Value.string ((ls.getD k sent0).id_)), (Value.string ((ls.getD k sent0).th)), (bl ((ls.getD k sent0).sl)), (slv (ls.getD k sent0).body)]) ti39 rfl rfl (by kernel_rfl) (one_arr (one_cons rfl (one_cons rfl (one_cons rfl (one_cons rfl (one_cons rfl (one_cons rfl one_nil))))))) hm12.h0 (by kernel_rfl) rfl) ?_
         rintro _ w13 uq13
         have hm13 : Mem w13 (restOf w0) ([(b9, .cells #[(Value.string ((ls.getD k sent0).frm)), (Value.string ((ls.getD k sent0).to_)), (Value.string ((ls.getD k sent0).id_)), (Value.string ((ls.getD k sent0).th)), (bl ((ls.getD k sent0).sl)), (slv (ls.getD k sent0).body)] 39 (0, 0))] ++ (Hs ++ ([]))) := hm12.upd0 uq13
         refine rN (cw_seq (sR ?_))
         refine rw_q rfl (ev_assign (v := (i64 0)) rfl) ?_
         refine rN (cw_block ?_)
         refine cw_loop (fun g wv => ∃ (k2 : Nat), (k2 ≤ k) ∧ (∀ j, j < k2 → offS (ls.getD j sent0) (ls.getD k sent0)) ∧ g 0 = vs ∧ g 1 = (Value.string who) ∧ g 2 = vo ∧ g 7 = vm ∧ g 8 = (i64 (k : Int)) ∧ g 9 = (ptr b9 0) ∧ g 10 = (i64 (k2 : Int)) ∧ g 17 = (bl false) ∧ g 24 = (bl (decide (100 < (lo.length : Int)))) ∧ g 26 = vs ∧ g 27 = (i64 (ls.length : Int)) ∧ g 28 = (i64 (k : Int)) ∧ g 29 = (bl (decide ((k : Int) < (ls.length : Int)))) ∧ Mem wv (restOf w0) ([(b9, .cells #[(Value.string ((ls.getD k sent0).frm)), (Value.string ((ls.getD k sent0).to_)), (Value.string ((ls.getD k sent0).id_)), (Value.string ((ls.getD k sent0).th)), (bl ((ls.getD k sent0).sl)), (slv (ls.getD k sent0).body)] 39 (0, 0))] ++ (Hs ++ ([])))) (fun g wv => ((k : Int) - RowKit.intOf (g 10)).toNat) ?_ ?_
         · exact ⟨0, (Nat.zero_le _), (fun j hj => absurd hj (Nat.not_lt_zero j)), s0, s1, s2, s7, rfl, rfl, rfl, s17, s24, s26, s27, s28, rfl, hm13⟩
         · rintro fr14 w15 ⟨k2, hk2, hno, s0, s1, s2, s7, s8, s9, s10, s17, s24, s26, s27, s28, s29, hm15⟩
           have z10 := s10
           refine cw_seq (sR ?_)
           refine rM rfl s10 <| rM rfl s8 <| rw_q rfl (ev_i64_lss rfl rfl) <| rN ?_
           refine cw_cond rfl (fun hc16 => ?_) (fun hc16 => ?_)
           · -- true
             have hc16p := of_decide_eq_true hc16
             refine cw_skip (kThen_normal (cw_seq (cw_block (cw_seq ?_))))
             refine cw_draw [(0, false), (1, false), (2, false), (3, false), (4, false), (5, false), (6, false), (7, false), (8, false), (9, false), (10, false), (11, false), (12, false), (13, false), (14, false), (15, false)] 16 (by kernel_rfl) <| dM rfl rfl s0 <| dM rfl rfl s10 <| dw_q rfl rfl (fun _ _hx => ev_indexAddr_rk (i := (k2 : Int)) (RdK.ofRest hrs (hm15.ext _hx)) uT22 ti39 rfl rfl oM sL) <| dw_q rfl rfl (fun _ _hx => ev_fa_rk (i := (k2 : Int)) (RdK.ofRest hrs (hm15.ext _hx)) sL uT39 rfl (by first | rfl | omega) ti9 rfl rfl) <| dw_q (v := (Value.string ((ls.getD k2 sent0).frm))) rfl rfl (fun _ _hx => ev_load_rk1 (i := (k2 : Int)) (dflt := sent0) (u := (Value.string ((ls.getD k2 sent0).frm))) (RdK.ofRest hrs (hm15.ext _hx)) sL uT9 rfl rfl (by decide) rfl) ?_
             refine dw_q rfl rfl (fun _ _hx => ev_fa (r := 0) uT39 rfl (by first | rfl | omega) ti9 rfl s9) <| dw_q (v := (Value.string ((ls.getD k sent0).frm))) rfl rfl (fun _ _hx => ev_load1 uT9 rfl rfl (hm15.ext _hx).h0 rfl) <| dw_q rfl rfl (fun _ _hx => ev_str_eql (s := (ls.getD k2 sent0).frm) (t := (ls.getD k sent0).frm) rfl rfl) <| dw_q rfl rfl (fun _ _hx => ev_move (v := (bl (decide ((ls.getD k2 sent0).frm = (ls.getD k sent0).frm)))) rfl) ?_
             rcases Bool.eq_false_or_eq_true (decide ((ls.getD k2 sent0).frm = (ls.getD k sent0).frm)) with hb17 | hb17
             · -- true
               have hb17p := of_decide_eq_true hb17
               refine dw_gqy (s := 46) rfl rfl rfl hb17 rfl (fun _ _hx => ev_move s0) <| dw_gqy (s := 46) rfl rfl rfl hb17 rfl (fun _ _hx => ev_move s10) <| dw_gqy (s := 46) rfl rfl rfl hb17 rfl (fun _ _hx => ev_indexAddr_rk (i := (k2 : Int)) (RdK.ofRest hrs (hm15.ext _hx)) uT22 ti39 rfl rfl oM sL) <| dw_gqy (s := 46) rfl rfl rfl hb17 rfl (fun _ _hx => ev_fa_rk (i := (k2 : Int)) (RdK.ofRest hrs (hm15.ext _hx)) sL uT39 rfl (by first | rfl | omega) ti9 rfl rfl) <| dw_gqy (s := 46) rfl rfl rfl hb17 rfl (fun _ _hx => ev_load_rk1 (i := (k2 : Int)) (dflt := sent0) (u := (Value.string ((ls.getD k2 sent0).id_))) (RdK.ofRest hrs (hm15.ext _hx)) sL uT9 rfl rfl (by decide) rfl) <| dw_gqy (s := 46) rfl rfl rfl hb17 rfl (fun _ _hx => ev_fa (r := 2) uT39 rfl (by first | rfl | omega) ti9 rfl s9) ?_
               refine dw_gqy (s := 46) rfl rfl rfl hb17 rfl (fun _ _hx => ev_load1 uT9 rfl rfl (hm15.ext _hx).h0 rfl) ?_
               refine dw_nil (fun w18 _ew18 => ?_)
               have hm18 := hm15.ext _ew18
               refine rw_gyq (s := 46) rfl rfl hb17 rfl (ev_str_eql (s := (ls.getD k2 sent0).id_) (t := (ls.getD k sent0).id_) rfl rfl) <| rw_q rfl (ev_pick_tk rfl hb17 rfl) <| rN ?_
               refine CW.abs (fun g => g 0 = vs ∧ g 1 = (Value.string who) ∧ g 2 = vo ∧ g 7 = vm ∧ g 8 = (i64 (k : Int)) ∧ g 9 = (ptr b9 0) ∧ g 10 = (i64 (k2 : Int)) ∧ g 17 = (bl false) ∧ g 24 = (bl (decide (100 < (lo.length : Int)))) ∧ g 26 = vs ∧ g 27 = (i64 (ls.length : Int)) ∧ g 28 = (i64 (k : Int)) ∧ g 29 = (bl (decide ((k : Int) < (ls.length : Int)))) ∧ g 35 = (bl (decide ((k2 : Int) < (k : Int)))) ∧ g 55 = (bl (decide ((ls.getD k2 sent0).id_ = (ls.getD k sent0).id_))) ∧ True) ⟨s0, s1, s2, s7, s8, s9, s10, s17, s24, s26, s27, s28, s29, rfl, rfl, trivial⟩ ?_
               rintro fr19 ⟨s0, s1, s2, s7, s8, s9, s10, s17, s24, s26, s27, s28, s29, s35, s55, _⟩
               refine cw_cond s55 (fun hc20 => ?_) (fun hc20 => ?_)
               · -- true
                 have hc20p := of_decide_eq_true hc20
                 refine sR <| rw_q rfl (ev_assign (v := (bl true)) rfl) ?_
                 refine rN (cw_ret ?_)
                 refine kBlk_ret (kThen_ret (kBlk_ret (kBlk_ret (kThen_ret (kBlk_ret ?_)))))
                 refine fnPost_ret [(bl true)] ⟨rfl, trivial⟩ ?_
                 exact ⟨rfl, Mem.below w0 hm18⟩
               · -- false
                 have hc20p := of_decide_eq_false hc20
                 refine cw_skip (kBlk_normal (cw_region ?_))
                 refine rM rfl s10 <| rw_q rfl (ev_i64_add (b := 1) rfl rfl oM oM) <| rw_q rfl (ev_assign (v := (i64 ((k2 : Int) + 1))) rfl) <| rN ?_
                 exact ⟨⟨(k2 + 1), oM, (all_succ hno (fun h => (of_decide_eq_false hc20) h.2)), s0, s1, s2, s7, s8, s9, rfl, s17, s24, s26, s27, s28, s29, hm18⟩, meas (rfl) z10 oM oM⟩
             · -- false
               have hb17p := of_decide_eq_false hb17
               refine dw_gqn (s := 46) rfl rfl rfl hb17 rfl <| dw_gqn (s := 46) rfl rfl rfl hb17 rfl <| dw_gqn (s := 46) rfl rfl rfl hb17 rfl <| dw_gqn (s := 46) rfl rfl rfl hb17 rfl <| dw_gqn (s := 46) rfl rfl rfl hb17 rfl <| dw_gqn (s := 46) rfl rfl rfl hb17 rfl ?_
               refine dw_gqn (s := 46) rfl rfl rfl hb17 rfl ?_
               refine dw_nil (fun w21 _ew21 => ?_)
               have hm21 := hm15.ext _ew21
               refine rw_gn (s := 46) rfl rfl hb17 rfl <| rw_q rfl (ev_pick_fk rfl hb17 rfl) <| rN ?_
               refine CW.abs (fun g => g 0 = vs ∧ g 1 = (Value.string who) ∧ g 2 = vo ∧ g 7 = vm ∧ g 8 = (i64 (k : Int)) ∧ g 9 = (ptr b9 0) ∧ g 10 = (i64 (k2 : Int)) ∧ g 17 = (bl false) ∧ g 24 = (bl (decide (100 < (lo.length : Int)))) ∧ g 26 = vs ∧ g 27 = (i64 (ls.length : Int)) ∧ g 28 = (i64 (k : Int)) ∧ g 29 = (bl (decide ((k : Int) < (ls.length : Int)))) ∧ g 35 = (bl (decide ((k2 : Int) < (k : Int)))) ∧ g 55 = (bl false) ∧ True) ⟨s0, s1, s2, s7, s8, s9, s10, s17, s24, s26, s27, s28, s29, rfl, rfl, trivial⟩ ?_
               rintro fr22 ⟨s0, s1, s2, s7, s8, s9, s10, s17, s24, s26, s27, s28, s29, s35, s55, _⟩
               refine cw_cond_f s55 (by decide) ?_
               refine cw_skip (kBlk_normal (cw_region ?_))
               refine rM rfl s10 <| rw_q rfl (ev_i64_add (b := 1) rfl rfl oM oM) <| rw_q rfl (ev_assign (v := (i64 ((k2 : Int) + 1))) rfl) <| rN ?_
               exact ⟨⟨(k2 + 1), oM, (all_succ hno (fun h => (of_decide_eq_false hb17) h.1)), s0, s1, s2, s7, s8, s9, rfl, s17, s24, s26, s27, s28, s29, hm21⟩, meas (rfl) z10 oM oM⟩
           · -- false
             have hc16p := of_decide_eq_false hc16
             have hu2 := off_succ oM hu (fun j hj => hno j oM)
             refine cw_exit ?_
             refine kThen_exit (kThen_exit (kBlk_hit ?_))
             refine sR <| rw_q rfl (ev_fa (r := 1) uT39 rfl (by first | rfl | omega) ti9 rfl s9) <| rw_q (v := (Value.string ((ls.getD k sent0).to_))) rfl (ev_load1 uT9 rfl rfl hm15.h0 rfl) <| rM rfl s1 <| rw_q rfl (ev_str_eql (s := (ls.getD k sent0).to_) (t := who) rfl rfl) <| rN ?_
             refine cw_cond rfl (fun hc23 => ?_) (fun hc23 => ?_)
             · -- true
               have hc23p := of_decide_eq_true hc23
               refine cw_region <| rM rfl s7 <| rw_q rfl (ev_fa (r := 3) uT39 rfl (by first | rfl | omega) ti9 rfl s9) <| rw_q (v := (Value.string ((ls.getD k sent0).th))) rfl (ev_load1 uT9 rfl rfl hm15.h0 rfl) <| rw_q rfl (ev_fa (r := 0) uT39 rfl (by first | rfl | omega) ti9 rfl s9) <| rw_q (v := (Value.string ((ls.getD k sent0).frm))) rfl (ev_load1 uT9 rfl rfl hm15.h0 rfl) ?_
               refine rw_q rfl (ev_fa (r := 2) uT39 rfl (by first | rfl | omega) ti9 rfl s9) <| rw_q (v := (Value.string ((ls.getD k sent0).id_))) rfl (ev_load1 uT9 rfl rfl hm15.h0 rfl) <| rw_q rfl (ev_fa (r := 4) uT39 rfl (by first | rfl | omega) ti4 rfl s9) <| rw_q (v := (bl ((ls.getD k sent0).sl))) rfl (ev_load1 uT4 rfl rfl hm15.h0 rfl) <| rw_q rfl (ev_fa (r := 5) uT39 rfl (by first | rfl | omega) ti24 rfl s9) <| rw_q (v := (slv (ls.getD k sent0).body)) rfl (ev_load1 uT24 rfl rfl hm15.h0 rfl) ?_
               refine rw_q rfl (ev_build_pt (c := #[(Value.string ((ls.getD k sent0).th)), (Value.string ((ls.getD k sent0).frm)), (Value.string ((ls.getD k sent0).id_)), (bl ((ls.getD k sent0).sl)), (slv (ls.getD k sent0).body)]) (pl := [(0, 1), (1, 1), (2, 1), (3, 1), (4, 1)]) ti26 uT26 (by kernel_rfl) (pm_cons (i := 0) (v := (Value.string ((ls.getD k sent0).th))) (cs := #[(Value.string ((ls.getD k sent0).th))]) rfl rfl (pm_cons (i := 1) (v := (Value.string ((ls.getD k sent0).frm))) (cs := #[(Value.string ((ls.getD k sent0).frm))]) rfl rfl (pm_cons (i := 2) (v := (Value.string ((ls.getD k sent0).id_))) (cs := #[(Value.string ((ls.getD k sent0).id_))]) rfl rfl (pm_cons (i := 3) (v := (bl ((ls.getD k sent0).sl))) (cs := #[(bl ((ls.getD k sent0).sl))]) rfl rfl (pm_cons (i := 4) (v := (slv (ls.getD k sent0).body)) (cs := #[(slv (ls.getD k sent0).body)]) rfl (one_cells rfl) pm_nil))))) (by kernel_rfl)) <| rw_c rfl (or_buildSlice_k1 (cs := #[(Value.string ((ls.getD k sent0).th)), (Value.string ((ls.getD k sent0).frm)), (Value.string ((ls.getD k sent0).id_)), (bl ((ls.getD k sent0).sl)), (slv (ls.getD k sent0).body)]) hm15 uT23 ti26 rfl rfl rfl rfl) ?_
               rintro _ w24 ⟨b72, rfl, _ew24, hm24⟩
               have hm24 : Mem w24 (restOf w0) ([(b72, .cells #[(Value.string ((ls.getD k sent0).th)), (Value.string ((ls.getD k sent0).frm)), (Value.string ((ls.getD k sent0).id_)), (bl ((ls.getD k sent0).sl)), (slv (ls.getD k sent0).body)] 26 (0, 0)), (b9, .cells #[(Value.string ((ls.getD k sent0).frm)), (Value.string ((ls.getD k sent0).to_)), (Value.string ((ls.getD k sent0).id_)), (Value.string ((ls.getD k sent0).th)), (bl ((ls.getD k sent0).sl)), (slv (ls.getD k sent0).body)] 39 (0, 0))] ++ (Hs ++ ([]))) := hm24
               refine rw_c rfl (or_appendK (enc := encN) (k := 5) (Hs := Hs) (H := [(b72, .cells #[(Value.string ((ls.getD k sent0).th)), (Value.string ((ls.getD k sent0).frm)), (Value.string ((ls.getD k sent0).id_)), (bl ((ls.getD k sent0).sl)), (slv (ls.getD k sent0).body)] 26 (0, 0)), (b9, .cells #[(Value.string ((ls.getD k sent0).frm)), (Value.string ((ls.getD k sent0).to_)), (Value.string ((ls.getD k sent0).id_)), (Value.string ((ls.getD k sent0).th)), (bl ((ls.getD k sent0).sl)), (slv (ls.getD k sent0).body)] 39 (0, 0))]) (Mem.pick [_, _] Hs _ hm24) hg rfl rfl (RdK.ofOne (enc := encN) (k := 5) (a := (noteOf (ls.getD k sent0))) hm24.h0 rfl rfl) uT23 uT23 ti26 rfl rfl (fun a _ => encN_one a) sL sL) ?_
               rintro sv25 w25 ⟨Hs25, hm25, g25⟩
               replace g25 : GrowK encN 5 26 sv25 ((mineK ls who k) ++ ([(noteOf (ls.getD k sent0))])) Hs25 := g25
               refine rA rfl (v := sv25) rfl ?_
               refine rw_nil (kBlk_normal ?_)
               have hm26 := Mem.drop ([(b72, .cells #[(Value.string ((ls.getD k sent0).th)), (Value.string ((ls.getD k sent0).frm)), (Value.string ((ls.getD k sent0).id_)), (bl ((ls.getD k sent0).sl)), (slv (ls.getD k sent0).body)] 26 (0, 0))]) _ (Mem.pick Hs25 [_] _ hm25)
               refine CW.abs (fun g => g 0 = vs ∧ g 1 = (Value.string who) ∧ g 2 = vo ∧ g 7 = sv25 ∧ g 8 = (i64 (k : Int)) ∧ g 9 = (ptr b9 0) ∧ g 10 = (i64 (k2 : Int)) ∧ g 17 = (bl false) ∧ g 24 = (bl (decide (100 < (lo.length : Int)))) ∧ g 26 = vs ∧ g 27 = (i64 (ls.length : Int)) ∧ g 28 = (i64 (k : Int)) ∧ g 29 = (bl (decide ((k : Int) < (ls.length : Int)))) ∧ g 35 = (bl (decide ((k2 : Int) < (k : Int)))) ∧ g 59 = (bl (decide ((ls.getD k sent0).to_ = who))) ∧ True) ⟨s0, s1, s2, rfl, s8, s9, s10, s17, s24, s26, s27, s28, s29, rfl, rfl, trivial⟩ ?_
               rintro fr27 ⟨s0, s1, s2, s7, s8, s9, s10, s17, s24, s26, s27, s28, s29, s35, s59, _⟩
               refine cw_region <| rw_q rfl (ev_i64_add (b := 1) s28 rfl oM oM) <| rw_q rfl (ev_move (v := (i64 ((k : Int) + 1))) rfl) <| rN ?_
               have hm28 := Mem.drop ([(b9, .cells #[(Value.string ((ls.getD k sent0).frm)), (Value.string ((ls.getD k sent0).to_)), (Value.string ((ls.getD k sent0).id_)), (Value.string ((ls.getD k sent0).th)), (bl ((ls.getD k sent0).sl)), (slv (ls.getD k sent0).body)] 39 (0, 0))]) _ (Mem.pick Hs25 [_] _ hm26)
               exact ⟨⟨(k + 1), sv25, Hs25, oM, (GrowK.cast g25 (mine_yes oM hc23)), hu2, s0, s1, s2, s7, s17, s24, s26, s27, rfl, hm28⟩, meas (rfl) z28 oM oM⟩
             · -- false
               have hc23p := of_decide_eq_false hc23
               refine cw_skip (kBlk_normal (cw_region ?_))
               refine rw_q rfl (ev_i64_add (b := 1) s28 rfl oM oM) <| rw_q rfl (ev_move (v := (i64 ((k : Int) + 1))) rfl) <| rN ?_
               have hm29 := Mem.drop ([(b9, .cells #[(Value.string ((ls.getD k sent0).frm)), (Value.string ((ls.getD k sent0).to_)), (Value.string ((ls.getD k sent0).id_)), (Value.string ((ls.getD k sent0).th)), (bl ((ls.getD k sent0).sl)), (slv (ls.getD k sent0).body)] 39 (0, 0))]) _ hm15
               exact ⟨⟨(k + 1), vm, Hs, oM, (GrowK.cast hg (mine_no oM hc23)), hu2, s0, s1, s2, s7, s17, s24, s26, s27, rfl, hm29⟩, meas (rfl) z28 oM oM⟩
       · -- false
         have hc11p := of_decide_eq_false hc11
         have hkn : k = ls.length := by omega
         have hu3 : ls.Pairwise offS := by have h := hu; rw [hkn, List.take_length] at h; exact h
         have hml2 := mine_len (sent := ls) (who := who) ls.length
         refine cw_exit ?_
         refine kThen_exit (kThen_exit (kBlk_hit ?_))
         refine cw_seq (sR ?_)
         refine rM rfl s2 <| rw_q (v := (i64 (lo.length : Int))) rfl (ev_len_rd (Rd.ofRest hro hm10) uT35 rfl) <| rw_q rfl (ev_move (v := (i64 0)) rfl) ?_
         refine rN (cw_block ?_)
         refine cw_loop (fun g wv => ∃ (k4 : Nat) (v4 : Value) (lm : List NoteT) (H4 : List (Nat × Obj)), (k4 ≤ lo.length) ∧ (GrowK encN 5 26 v4 lm H4) ∧ (lm.Perm (mineK ls who ls.length)) ∧ g 0 = vs ∧ g 1 = (Value.string who) ∧ g 2 = vo ∧ g 7 = v4 ∧ g 17 = (bl false) ∧ g 24 = (bl (decide (100 < (lo.length : Int)))) ∧ g 26 = vs ∧ g 27 = (i64 (ls.length : Int)) ∧ g 28 = (i64 (k : Int)) ∧ g 29 = (bl (decide ((k : Int) < (ls.length : Int)))) ∧ g 75 = vo ∧ g 76 = (i64 (lo.length : Int)) ∧ g 77 = (i64 (k4 : Int)) ∧ Mem wv (restOf w0) (H4 ++ ([]))) (fun g wv => ((lo.length : Int) - RowKit.intOf (g 77)).toNat) ?_ ?_
         · exact ⟨0, vm, (mineK ls who k), Hs, (Nat.zero_le _), hg, (List.Perm.of_eq (by rw [← hkn])), s0, s1, s2, s7, s17, s24, s26, s27, s28, rfl, rfl, rfl, rfl, hm10⟩
         · rintro fr30 w31 ⟨k4, v4, lm, H4, hk4, hg4, hp, s0, s1, s2, s7, s17, s24, s26, s27, s28, s29, s75, s76, s77, hm31⟩
           have z7 := s7
           have z77 := s77
           have hqm : ∀ a ∈ lm, Rd (blks w0) u8 (slv a.body) a.body.2 := fun a h => mine_rd hqs a (hp.mem_iff.1 h)
           have hlm := hp.length_eq
           refine sR <| rw_q rfl (ev_i64_lss s77 s76) ?_
           refine rN (cw_seq ?_)
           refine cw_cond rfl (fun hc32 => ?_) (fun hc32 => ?_)
           · -- true
             have hc32p := of_decide_eq_true hc32
             refine cw_skip (kThen_normal (cw_seq (cw_block (sR ?_))))
             refine rM rfl s77 <| rw_q rfl (ev_indexAddr_rdv (Rd.ofRest hro hm31) uT35 ti3 s75 s77 oM sL) <| rw_q (v := (i64 (lo.getD k4 0))) rfl (ev_load_rdD (l := lo) (i := (k4 : Int)) (dflt := 0) (Rd.ofRest hro hm31) uT3 rfl oM sL rfl) <| rw_q rfl (ev_assign (v := (i64 (k4 : Int))) rfl) <| rw_q rfl (ev_assign (v := (i64 (lo.getD k4 0))) rfl) ?_
             refine rN (sR ?_)
             refine rM rfl s7 <| rw_q (v := (i64 (lm.length : Int))) rfl (ev_len_rk (hg4.rd hm31) uT23 rfl) <| rw_q rfl (ev_i64_gtr (b := 0) rfl rfl) <| rN ?_
             refine cw_cond rfl (fun hc33 => ?_) (fun hc33 => ?_)
             · -- true
               have hc33p := of_decide_eq_true hc33
               refine cw_seq <| cw_draw [(0, false), (1, false), (2, false), (3, false), (4, false), (5, false), (6, false), (7, false), (8, false), (9, false)] 10 (by kernel_rfl) <| dw_q rfl rfl (fun _ _hx => ev_move (v := (i64 (k4 : Int))) rfl) <| dM rfl rfl s7 <| dw_q (v := (i64 (lm.length : Int))) rfl rfl (fun _ _hx => ev_len_rk (hg4.rd (hm31.ext _hx)) uT23 rfl) ?_
               obtain ⟨n34, hn34, hn34l⟩ : ∃ q : Nat, (k4 : Int) % (lm.length : Int) = (q : Int) ∧ q < lm.length := ⟨((k4 : Int) % (lm.length : Int)).toNat, (Int.toNat_of_nonneg (Int.emod_nonneg _ oM)).symm, by have h1 := Int.emod_nonneg (k4 : Int) (b := (lm.length : Int)) oM; have h2 := Int.emod_lt_of_pos (k4 : Int) (b := (lm.length : Int)) oM; omega⟩
               refine dw_q rfl rfl (fun _ _hx => EvQ.cast (congrArg i64 hn34) (ev_i64_rem rfl rfl oM oM oM)) <| dw_q rfl rfl (fun _ _hx => ev_move (v := (i64 (lo.getD k4 0))) rfl) ?_
               obtain ⟨n35, hn35, hn35l⟩ : ∃ q : Nat, (((BitVec.ofInt 64 (lo.getD k4 0)).toNat &&& (65535 : Int).toNat : Nat) : Int) = (q : Int) ∧ q ≤ 65535 := ⟨_, rfl, Nat.and_le_right⟩
               refine dw_q rfl rfl (fun _ _hx => EvQ.cast (congrArg i64 hn35) (ev_i64_and (b := 65535) rfl rfl oM oM)) <| dM rfl rfl s7 <| dw_q (v := (i64 (lm.length : Int))) rfl rfl (fun _ _hx => ev_len_rk (hg4.rd (hm31.ext _hx)) uT23 rfl) ?_
               obtain ⟨n36, hn36, hn36l⟩ : ∃ q : Nat, (n35 : Int) % (lm.length : Int) = (q : Int) ∧ q < lm.length := ⟨((n35 : Int) % (lm.length : Int)).toNat, (Int.toNat_of_nonneg (Int.emod_nonneg _ oM)).symm, by have h1 := Int.emod_nonneg (n35 : Int) (b := (lm.length : Int)) oM; have h2 := Int.emod_lt_of_pos (n35 : Int) (b := (lm.length : Int)) oM; omega⟩
               refine dw_q rfl rfl (fun _ _hx => EvQ.cast (congrArg i64 hn36) (ev_i64_rem rfl rfl oM oM oM)) <| dw_q rfl rfl (fun _ _hx => ev_assign (v := (i64 (n34 : Int))) rfl) ?_
               refine dw_nil (fun w37 _ew37 => ?_)
               have hm37 := hm31.ext _ew37
               refine rw_q rfl (ev_assign (v := (i64 (n36 : Int))) rfl) <| rN ?_
               refine CW.abs (fun g => g 0 = vs ∧ g 1 = (Value.string who) ∧ g 2 = vo ∧ g 7 = v4 ∧ g 11 = (i64 (k4 : Int)) ∧ g 12 = (i64 (lo.getD k4 0)) ∧ g 13 = (i64 (n34 : Int)) ∧ g 14 = (i64 (n36 : Int)) ∧ g 17 = (bl false) ∧ g 24 = (bl (decide (100 < (lo.length : Int)))) ∧ g 26 = vs ∧ g 27 = (i64 (ls.length : Int)) ∧ g 28 = (i64 (k : Int)) ∧ g 29 = (bl (decide ((k : Int) < (ls.length : Int)))) ∧ g 75 = vo ∧ g 76 = (i64 (lo.length : Int)) ∧ g 77 = (i64 (k4 : Int)) ∧ g 78 = (bl (decide ((k4 : Int) < (lo.length : Int)))) ∧ g 84 = (bl (decide (0 < (lm.length : Int)))) ∧ True) ⟨s0, s1, s2, s7, rfl, rfl, rfl, rfl, s17, s24, s26, s27, s28, s29, s75, s76, s77, rfl, rfl, trivial⟩ ?_
               rintro fr38 ⟨s0, s1, s2, s7, s11, s12, s13, s14, s17, s24, s26, s27, s28, s29, s75, s76, s77, s78, s84, _⟩
               refine cw_drawE (by kernel_rfl) ?_
               refine re_or 2 13 rfl rfl ?_ ?_
               · -- 2 ahead of 13
                 refine re_or 3 13 rfl rfl ?_ ?_
                 · -- 3 ahead of 13
                   refine re_plan [(0, false), (1, false), (2, false), (3, false), (4, false), (5, false), (6, false), (7, false), (8, false), (9, false), (10, false), (11, false), (12, false)] 13 rfl (by kernel_rfl) <| dM rfl rfl s7 <| dM rfl rfl s13 <| dM rfl rfl s7 <| dM rfl rfl s14 <| dM rfl rfl s7 ?_
                   refine dM rfl rfl s14 <| dw_q rfl rfl (fun _ _hx => ev_indexAddr_rk (i := (n36 : Int)) (hg4.rd (hm37.ext _hx)) uT23 ti26 rfl rfl oM sL) <| dw_q (v := (Value.agg #[(Value.string ((lm.getD n36 note0).th)), (Value.string ((lm.getD n36 note0).frm)), (Value.string ((lm.getD n36 note0).id_)), (bl ((lm.getD n36 note0).sl)), (slv (lm.getD n36 note0).body)])) rfl rfl (fun _ _hx => ev_load_rkA (i := (n36 : Int)) (dflt := note0) (cs := #[(Value.string ((lm.getD n36 note0).th)), (Value.string ((lm.getD n36 note0).frm)), (Value.string ((lm.getD n36 note0).id_)), (bl ((lm.getD n36 note0).sl)), (slv (lm.getD n36 note0).body)]) (hg4.rd (hm37.ext _hx)) sL uT26 rfl ti26 rfl rfl (by decide) rfl) <| dM rfl rfl s7 <| dM rfl rfl s13 <| dw_q rfl rfl (fun _ _hx => ev_indexAddr_rk (i := (n34 : Int)) (hg4.rd (hm37.ext _hx)) uT23 ti26 rfl rfl oM sL) ?_
                   refine dw_q (v := (Value.agg #[(Value.string ((lm.getD n34 note0).th)), (Value.string ((lm.getD n34 note0).frm)), (Value.string ((lm.getD n34 note0).id_)), (bl ((lm.getD n34 note0).sl)), (slv (lm.getD n34 note0).body)])) rfl rfl (fun _ _hx => ev_load_rkA (i := (n34 : Int)) (dflt := note0) (cs := #[(Value.string ((lm.getD n34 note0).th)), (Value.string ((lm.getD n34 note0).frm)), (Value.string ((lm.getD n34 note0).id_)), (bl ((lm.getD n34 note0).sl)), (slv (lm.getD n34 note0).body)]) (hg4.rd (hm37.ext _hx)) sL uT26 rfl ti26 rfl rfl (by decide) rfl) <| dw_q rfl rfl (fun _ _hx => ev_indexAddr_rk (i := (n34 : Int)) (hg4.rd (hm37.ext _hx)) uT23 ti26 rfl rfl oM sL) ?_
                   refine dw_nil (fun w39 _ew39 => ?_)
                   have hm39 := hm37.ext _ew39
                   refine rw_n (or_storeK (Hs := H4) (H := []) (a' := (lm.getD n36 note0)) (dflt := note0) (i := (n34 : Int)) (cs := #[(Value.string ((lm.getD n36 note0).th)), (Value.string ((lm.getD n36 note0).frm)), (Value.string ((lm.getD n36 note0).id_)), (bl ((lm.getD n36 note0).sl)), (slv (lm.getD n36 note0).body)]) hm39 hg4 ti26 sL rfl rfl rfl (by decide) rfl rfl) ?_
                   rintro _ w40 ⟨Hs40, hm40, g40⟩
                   replace g40 : GrowK encN 5 26 v4 (lm.set n34 (lm.getD n36 note0)) Hs40 := g40
                   refine rw_q rfl (ev_indexAddr_rk (i := (n36 : Int)) (g40.rd hm40) uT23 ti26 rfl rfl oM sL) <| rw_n (or_storeK (Hs := Hs40) (H := []) (a' := (lm.getD n34 note0)) (dflt := note0) (i := (n36 : Int)) (cs := #[(Value.string ((lm.getD n34 note0).th)), (Value.string ((lm.getD n34 note0).frm)), (Value.string ((lm.getD n34 note0).id_)), (bl ((lm.getD n34 note0).sl)), (slv (lm.getD n34 note0).body)]) hm40 g40 ti26 sL rfl rfl rfl (by decide) rfl rfl) ?_
                   rintro _ w41 ⟨Hs41, hm41, g41⟩
                   replace g41 : GrowK encN 5 26 v4 ((lm.set n34 (lm.getD n36 note0)).set n36 (lm.getD n34 note0)) Hs41 := g41
                   refine rw_nil (kBlk_normal ?_)
                   refine CW.abs (fun g => g 0 = vs ∧ g 1 = (Value.string who) ∧ g 2 = vo ∧ g 7 = v4 ∧ g 11 = (i64 (k4 : Int)) ∧ g 12 = (i64 (lo.getD k4 0)) ∧ g 13 = (i64 (n34 : Int)) ∧ g 14 = (i64 (n36 : Int)) ∧ g 17 = (bl false) ∧ g 24 = (bl (decide (100 < (lo.length : Int)))) ∧ g 26 = vs ∧ g 27 = (i64 (ls.length : Int)) ∧ g 28 = (i64 (k : Int)) ∧ g 29 = (bl (decide ((k : Int) < (ls.length : Int)))) ∧ g 75 = vo ∧ g 76 = (i64 (lo.length : Int)) ∧ g 77 = (i64 (k4 : Int)) ∧ g 78 = (bl (decide ((k4 : Int) < (lo.length : Int)))) ∧ g 84 = (bl (decide (0 < (lm.length : Int)))) ∧ True) ⟨s0, s1, s2, s7, s11, s12, s13, s14, s17, s24, s26, s27, s28, s29, s75, s76, s77, s78, s84, trivial⟩ ?_
                   rintro fr42 ⟨s0, s1, s2, s7, s11, s12, s13, s14, s17, s24, s26, s27, s28, s29, s75, s76, s77, s78, s84, _⟩
                   refine cw_region <| rw_q rfl (ev_i64_add (b := 1) s77 rfl oM oM) <| rw_q rfl (ev_move (v := (i64 ((k4 : Int) + 1))) rfl) <| rN ?_
                   exact ⟨⟨(k4 + 1), v4, ((lm.set n34 (lm.getD n36 note0)).set n36 (lm.getD n34 note0)), Hs41, oM, g41, ((swap_perm oM oM).trans hp), s0, s1, s2, s7, s17, s24, s26, s27, s28, s29, s75, s76, rfl, hm41⟩, meas (rfl) z77 oM oM⟩
                 · -- 13 ahead of 3
                   refine re_planB [(0, false), (1, false), (2, false), (4, false), (5, false), (6, false), (7, false), (8, false), (9, false), (10, false), (11, false), (12, false), (13, true), (3, false)] 14 rfl (by kernel_rfl) <| db_q rfl rfl (fun _ _hx => ev_move s7) <| db_q rfl rfl (fun _ _hx => ev_move s13) <| db_q rfl rfl (fun _ _hx => ev_move s7) <| db_q rfl rfl (fun _ _hx => ev_move s7) <| db_q rfl rfl (fun _ _hx => ev_move s14) ?_
                   refine db_q rfl rfl (fun _ _hx => ev_indexAddr_rk (i := (n36 : Int)) (hg4.rd (hm37.ext _hx)) uT23 ti26 rfl rfl oM sL) <| db_q rfl rfl (fun _ _hx => ev_load_rkA (i := (n36 : Int)) (dflt := note0) (cs := #[(Value.string ((lm.getD n36 note0).th)), (Value.string ((lm.getD n36 note0).frm)), (Value.string ((lm.getD n36 note0).id_)), (bl ((lm.getD n36 note0).sl)), (slv (lm.getD n36 note0).body)]) (hg4.rd (hm37.ext _hx)) sL uT26 rfl ti26 rfl rfl (by decide) rfl) <| db_q rfl rfl (fun _ _hx => ev_move s7) <| db_q rfl rfl (fun _ _hx => ev_move s13) <| db_q rfl rfl (fun _ _hx => ev_indexAddr_rk (i := (n34 : Int)) (hg4.rd (hm37.ext _hx)) uT23 ti26 rfl rfl oM sL) <| db_q rfl rfl (fun _ _hx => ev_load_rkA (i := (n34 : Int)) (dflt := note0) (cs := #[(Value.string ((lm.getD n34 note0).th)), (Value.string ((lm.getD n34 note0).frm)), (Value.string ((lm.getD n34 note0).id_)), (bl ((lm.getD n34 note0).sl)), (slv (lm.getD n34 note0).body)]) (hg4.rd (hm37.ext _hx)) sL uT26 rfl ti26 rfl rfl (by decide) rfl) ?_
                   refine db_q rfl rfl (fun _ _hx => ev_indexAddr_rk (i := (n34 : Int)) (hg4.rd (hm37.ext _hx)) uT23 ti26 rfl rfl oM sL) ?_
                   refine db_n (by kernel_rfl) rfl (fun w43 _ew43 => ?_)
                   have hm43 := hm37.ext _ew43
                   refine OpR.mono (or_storeK (Hs := H4) (H := []) (a' := (lm.getD n36 note0)) (dflt := note0) (i := (n34 : Int)) (cs := #[(Value.string ((lm.getD n36 note0).th)), (Value.string ((lm.getD n36 note0).frm)), (Value.string ((lm.getD n36 note0).id_)), (bl ((lm.getD n36 note0).sl)), (slv (lm.getD n36 note0).body)]) hm43 hg4 ti26 sL rfl rfl rfl (by decide) rfl rfl) ?_
                   rintro _ w44 ⟨Hs44, hm44, g44⟩
                   replace g44 : GrowK encN 5 26 v4 (lm.set n34 (lm.getD n36 note0)) Hs44 := g44
                   refine db_q rfl rfl (fun _ _hx => ev_move s14) ?_
                   refine db_nil (fun w45 _ew45 => ?_)
                   have hm45 := hm44.ext _ew45
                   refine rw_q rfl (ev_indexAddr_rk (i := (n36 : Int)) (g44.rd hm45) uT23 ti26 rfl rfl oM sL) <| rw_n (or_storeK (Hs := Hs44) (H := []) (a' := (lm.getD n34 note0)) (dflt := note0) (i := (n36 : Int)) (cs := #[(Value.string ((lm.getD n34 note0).th)), (Value.string ((lm.getD n34 note0).frm)), (Value.string ((lm.getD n34 note0).id_)), (bl ((lm.getD n34 note0).sl)), (slv (lm.getD n34 note0).body)]) hm45 g44 ti26 sL rfl rfl rfl (by decide) rfl rfl) ?_
                   rintro _ w46 ⟨Hs46, hm46, g46⟩
                   replace g46 : GrowK encN 5 26 v4 ((lm.set n34 (lm.getD n36 note0)).set n36 (lm.getD n34 note0)) Hs46 := g46
                   refine rw_nil (kBlk_normal ?_)
                   refine CW.abs (fun g => g 0 = vs ∧ g 1 = (Value.string who) ∧ g 2 = vo ∧ g 7 = v4 ∧ g 11 = (i64 (k4 : Int)) ∧ g 12 = (i64 (lo.getD k4 0)) ∧ g 13 = (i64 (n34 : Int)) ∧ g 14 = (i64 (n36 : Int)) ∧ g 17 = (bl false) ∧ g 24 = (bl (decide (100 < (lo.length : Int)))) ∧ g 26 = vs ∧ g 27 = (i64 (ls.length : Int)) ∧ g 28 = (i64 (k : Int)) ∧ g 29 = (bl (decide ((k : Int) < (ls.length : Int)))) ∧ g 75 = vo ∧ g 76 = (i64 (lo.length : Int)) ∧ g 77 = (i64 (k4 : Int)) ∧ g 78 = (bl (decide ((k4 : Int) < (lo.length : Int)))) ∧ g 84 = (bl (decide (0 < (lm.length : Int)))) ∧ True) ⟨s0, s1, s2, s7, s11, s12, s13, s14, s17, s24, s26, s27, s28, s29, s75, s76, s77, s78, s84, trivial⟩ ?_
                   rintro fr47 ⟨s0, s1, s2, s7, s11, s12, s13, s14, s17, s24, s26, s27, s28, s29, s75, s76, s77, s78, s84, _⟩
                   refine cw_region <| rw_q rfl (ev_i64_add (b := 1) s77 rfl oM oM) <| rw_q rfl (ev_move (v := (i64 ((k4 : Int) + 1))) rfl) <| rN ?_
                   exact ⟨⟨(k4 + 1), v4, ((lm.set n34 (lm.getD n36 note0)).set n36 (lm.getD n34 note0)), Hs46, oM, g46, ((swap_perm oM oM).trans hp), s0, s1, s2, s7, s17, s24, s26, s27, s28, s29, s75, s76, rfl, hm46⟩, meas (rfl) z77 oM oM⟩
               · -- 13 ahead of 2
                 refine re_or 3 13 rfl rfl ?_ ?_
                 · -- 3 ahead of 13
                   refine re_planB [(0, false), (1, false), (3, false), (4, false), (5, false), (6, false), (7, false), (8, false), (9, false), (10, false), (11, false), (12, false), (13, true), (2, false)] 14 rfl (by kernel_rfl) <| db_q rfl rfl (fun _ _hx => ev_move s7) <| db_q rfl rfl (fun _ _hx => ev_move s13) <| db_q rfl rfl (fun _ _hx => ev_move s14) <| db_q rfl rfl (fun _ _hx => ev_move s7) <| db_q rfl rfl (fun _ _hx => ev_move s14) ?_
                   refine db_q rfl rfl (fun _ _hx => ev_indexAddr_rk (i := (n36 : Int)) (hg4.rd (hm37.ext _hx)) uT23 ti26 rfl rfl oM sL) <| db_q rfl rfl (fun _ _hx => ev_load_rkA (i := (n36 : Int)) (dflt := note0) (cs := #[(Value.string ((lm.getD n36 note0).th)), (Value.string ((lm.getD n36 note0).frm)), (Value.string ((lm.getD n36 note0).id_)), (bl ((lm.getD n36 note0).sl)), (slv (lm.getD n36 note0).body)]) (hg4.rd (hm37.ext _hx)) sL uT26 rfl ti26 rfl rfl (by decide) rfl) <| db_q rfl rfl (fun _ _hx => ev_move s7) <| db_q rfl rfl (fun _ _hx => ev_move s13) <| db_q rfl rfl (fun _ _hx => ev_indexAddr_rk (i := (n34 : Int)) (hg4.rd (hm37.ext _hx)) uT23 ti26 rfl rfl oM sL) <| db_q rfl rfl (fun _ _hx => ev_load_rkA (i := (n34 : Int)) (dflt := note0) (cs := #[(Value.string ((lm.getD n34 note0).th)), (Value.string ((lm.getD n34 note0).frm)), (Value.string ((lm.getD n34 note0).id_)), (bl ((lm.getD n34 note0).sl)), (slv (lm.getD n34 note0).body)]) (hg4.rd (hm37.ext _hx)) sL uT26 rfl ti26 rfl rfl (by decide) rfl) ?_
                   refine db_q rfl rfl (fun _ _hx => ev_indexAddr_rk (i := (n34 : Int)) (hg4.rd (hm37.ext _hx)) uT23 ti26 rfl rfl oM sL) ?_
                   refine db_n (by kernel_rfl) rfl (fun w48 _ew48 => ?_)
                   have hm48 := hm37.ext _ew48
                   refine OpR.mono (or_storeK (Hs := H4) (H := []) (a' := (lm.getD n36 note0)) (dflt := note0) (i := (n34 : Int)) (cs := #[(Value.string ((lm.getD n36 note0).th)), (Value.string ((lm.getD n36 note0).frm)), (Value.string ((lm.getD n36 note0).id_)), (bl ((lm.getD n36 note0).sl)), (slv (lm.getD n36 note0).body)]) hm48 hg4 ti26 sL rfl rfl rfl (by decide) rfl rfl) ?_
                   rintro _ w49 ⟨Hs49, hm49, g49⟩
                   replace g49 : GrowK encN 5 26 v4 (lm.set n34 (lm.getD n36 note0)) Hs49 := g49
                   refine db_q rfl rfl (fun _ _hx => ev_move s7) ?_
                   refine db_nil (fun w50 _ew50 => ?_)
                   have hm50 := hm49.ext _ew50
                   refine rw_q rfl (ev_indexAddr_rk (i := (n36 : Int)) (g49.rd hm50) uT23 ti26 rfl rfl oM sL) <| rw_n (or_storeK (Hs := Hs49) (H := []) (a' := (lm.getD n34 note0)) (dflt := note0) (i := (n36 : Int)) (cs := #[(Value.string ((lm.getD n34 note0).th)), (Value.string ((lm.getD n34 note0).frm)), (Value.string ((lm.getD n34 note0).id_)), (bl ((lm.getD n34 note0).sl)), (slv (lm.getD n34 note0).body)]) hm50 g49 ti26 sL rfl rfl rfl (by decide) rfl rfl) ?_
                   rintro _ w51 ⟨Hs51, hm51, g51⟩
                   replace g51 : GrowK encN 5 26 v4 ((lm.set n34 (lm.getD n36 note0)).set n36 (lm.getD n34 note0)) Hs51 := g51
                   refine rw_nil (kBlk_normal ?_)
                   refine CW.abs (fun g => g 0 = vs ∧ g 1 = (Value.string who) ∧ g 2 = vo ∧ g 7 = v4 ∧ g 11 = (i64 (k4 : Int)) ∧ g 12 = (i64 (lo.getD k4 0)) ∧ g 13 = (i64 (n34 : Int)) ∧ g 14 = (i64 (n36 : Int)) ∧ g 17 = (bl false) ∧ g 24 = (bl (decide (100 < (lo.length : Int)))) ∧ g 26 = vs ∧ g 27 = (i64 (ls.length : Int)) ∧ g 28 = (i64 (k : Int)) ∧ g 29 = (bl (decide ((k : Int) < (ls.length : Int)))) ∧ g 75 = vo ∧ g 76 = (i64 (lo.length : Int)) ∧ g 77 = (i64 (k4 : Int)) ∧ g 78 = (bl (decide ((k4 : Int) < (lo.length : Int)))) ∧ g 84 = (bl (decide (0 < (lm.length : Int)))) ∧ True) ⟨s0, s1, s2, s7, s11, s12, s13, s14, s17, s24, s26, s27, s28, s29, s75, s76, s77, s78, s84, trivial⟩ ?_
                   rintro fr52 ⟨s0, s1, s2, s7, s11, s12, s13, s14, s17, s24, s26, s27, s28, s29, s75, s76, s77, s78, s84, _⟩
                   refine cw_region <| rw_q rfl (ev_i64_add (b := 1) s77 rfl oM oM) <| rw_q rfl (ev_move (v := (i64 ((k4 : Int) + 1))) rfl) <| rN ?_
                   exact ⟨⟨(k4 + 1), v4, ((lm.set n34 (lm.getD n36 note0)).set n36 (lm.getD n34 note0)), Hs51, oM, g51, ((swap_perm oM oM).trans hp), s0, s1, s2, s7, s17, s24, s26, s27, s28, s29, s75, s76, rfl, hm51⟩, meas (rfl) z77 oM oM⟩
                 · -- 13 ahead of 3
                   refine re_planB [(0, false), (1, false), (4, false), (5, false), (6, false), (7, false), (8, false), (9, false), (10, false), (11, false), (12, false), (13, true), (2, false), (3, false)] 14 rfl (by kernel_rfl) <| db_q rfl rfl (fun _ _hx => ev_move s7) <| db_q rfl rfl (fun _ _hx => ev_move s13) <| db_q rfl rfl (fun _ _hx => ev_move s7) <| db_q rfl rfl (fun _ _hx => ev_move s14) <| db_q rfl rfl (fun _ _hx => ev_indexAddr_rk (i := (n36 : Int)) (hg4.rd (hm37.ext _hx)) uT23 ti26 rfl rfl oM sL) ?_
                   refine db_q rfl rfl (fun _ _hx => ev_load_rkA (i := (n36 : Int)) (dflt := note0) (cs := #[(Value.string ((lm.getD n36 note0).th)), (Value.string ((lm.getD n36 note0).frm)), (Value.string ((lm.getD n36 note0).id_)), (bl ((lm.getD n36 note0).sl)), (slv (lm.getD n36 note0).body)]) (hg4.rd (hm37.ext _hx)) sL uT26 rfl ti26 rfl rfl (by decide) rfl) <| db_q rfl rfl (fun _ _hx => ev_move s7) <| db_q rfl rfl (fun _ _hx => ev_move s13) <| db_q rfl rfl (fun _ _hx => ev_indexAddr_rk (i := (n34 : Int)) (hg4.rd (hm37.ext _hx)) uT23 ti26 rfl rfl oM sL) <| db_q rfl rfl (fun _ _hx => ev_load_rkA (i := (n34 : Int)) (dflt := note0) (cs := #[(Value.string ((lm.getD n34 note0).th)), (Value.string ((lm.getD n34 note0).frm)), (Value.string ((lm.getD n34 note0).id_)), (bl ((lm.getD n34 note0).sl)), (slv (lm.getD n34 note0).body)]) (hg4.rd (hm37.ext _hx)) sL uT26 rfl ti26 rfl rfl (by decide) rfl) <| db_q rfl rfl (fun _ _hx => ev_indexAddr_rk (i := (n34 : Int)) (hg4.rd (hm37.ext _hx)) uT23 ti26 rfl rfl oM sL) ?_
                   refine db_n (by kernel_rfl) rfl (fun w53 _ew53 => ?_)
                   have hm53 := hm37.ext _ew53
                   refine OpR.mono (or_storeK (Hs := H4) (H := []) (a' := (lm.getD n36 note0)) (dflt := note0) (i := (n34 : Int)) (cs := #[(Value.string ((lm.getD n36 note0).th)), (Value.string ((lm.getD n36 note0).frm)), (Value.string ((lm.getD n36 note0).id_)), (bl ((lm.getD n36 note0).sl)), (slv (lm.getD n36 note0).body)]) hm53 hg4 ti26 sL rfl rfl rfl (by decide) rfl rfl) ?_
                   rintro _ w54 ⟨Hs54, hm54, g54⟩
                   replace g54 : GrowK encN 5 26 v4 (lm.set n34 (lm.getD n36 note0)) Hs54 := g54
                   refine db_q rfl rfl (fun _ _hx => ev_move s7) <| db_q rfl rfl (fun _ _hx => ev_move s14) ?_
                   refine db_nil (fun w55 _ew55 => ?_)
                   have hm55 := hm54.ext _ew55
                   refine rw_q rfl (ev_indexAddr_rk (i := (n36 : Int)) (g54.rd hm55) uT23 ti26 rfl rfl oM sL) <| rw_n (or_storeK (Hs := Hs54) (H := []) (a' := (lm.getD n34 note0)) (dflt := note0) (i := (n36 : Int)) (cs := #[(Value.string ((lm.getD n34 note0).th)), (Value.string ((lm.getD n34 note0).frm)), (Value.string ((lm.getD n34 note0).id_)), (bl ((lm.getD n34 note0).sl)), (slv (lm.getD n34 note0).body)]) hm55 g54 ti26 sL rfl rfl rfl (by decide) rfl rfl) ?_
                   rintro _ w56 ⟨Hs56, hm56, g56⟩
                   replace g56 : GrowK encN 5 26 v4 ((lm.set n34 (lm.getD n36 note0)).set n36 (lm.getD n34 note0)) Hs56 := g56
                   refine rw_nil (kBlk_normal ?_)
                   refine CW.abs (fun g => g 0 = vs ∧ g 1 = (Value.string who) ∧ g 2 = vo ∧ g 7 = v4 ∧ g 11 = (i64 (k4 : Int)) ∧ g 12 = (i64 (lo.getD k4 0)) ∧ g 13 = (i64 (n34 : Int)) ∧ g 14 = (i64 (n36 : Int)) ∧ g 17 = (bl false) ∧ g 24 = (bl (decide (100 < (lo.length : Int)))) ∧ g 26 = vs ∧ g 27 = (i64 (ls.length : Int)) ∧ g 28 = (i64 (k : Int)) ∧ g 29 = (bl (decide ((k : Int) < (ls.length : Int)))) ∧ g 75 = vo ∧ g 76 = (i64 (lo.length : Int)) ∧ g 77 = (i64 (k4 : Int)) ∧ g 78 = (bl (decide ((k4 : Int) < (lo.length : Int)))) ∧ g 84 = (bl (decide (0 < (lm.length : Int)))) ∧ True) ⟨s0, s1, s2, s7, s11, s12, s13, s14, s17, s24, s26, s27, s28, s29, s75, s76, s77, s78, s84, trivial⟩ ?_
                   rintro fr57 ⟨s0, s1, s2, s7, s11, s12, s13, s14, s17, s24, s26, s27, s28, s29, s75, s76, s77, s78, s84, _⟩
                   refine cw_region <| rw_q rfl (ev_i64_add (b := 1) s77 rfl oM oM) <| rw_q rfl (ev_move (v := (i64 ((k4 : Int) + 1))) rfl) <| rN ?_
                   exact ⟨⟨(k4 + 1), v4, ((lm.set n34 (lm.getD n36 note0)).set n36 (lm.getD n34 note0)), Hs56, oM, g56, ((swap_perm oM oM).trans hp), s0, s1, s2, s7, s17, s24, s26, s27, s28, s29, s75, s76, rfl, hm56⟩, meas (rfl) z77 oM oM⟩
             · -- false
               have hc33p := of_decide_eq_false hc33
               refine cw_skip (kBlk_normal (cw_region ?_))
               refine rw_q rfl (ev_i64_add (b := 1) s77 rfl oM oM) <| rw_q rfl (ev_move (v := (i64 ((k4 : Int) + 1))) rfl) <| rN ?_
               exact ⟨⟨(k4 + 1), v4, lm, H4, oM, hg4, hp, s0, s1, s2, s7, s17, s24, s26, s27, s28, s29, s75, s76, rfl, hm31⟩, meas (rfl) z77 oM oM⟩
           · -- false
             have hc32p := of_decide_eq_false hc32
             have hj0 : judgeF ls who lm = [] := whole_judge hu3 hp
             have hmz : missF ls who lm = [] := whole_miss hp
             refine cw_exit ?_
             refine kThen_exit (kThen_exit (kBlk_hit ?_))
             refine cw_seq (sR ?_)
             refine rM rfl s0 <| rM rfl s1 <| rM rfl s7 <| rw_c rfl (opR_call Try.func21 bd21 nm21 (args3 rfl rfl rfl) (c_judge vs ls who v4 lm _ (RdK.ofRest hrs hm31) (fun a h => Rd.ofRest (hqs a h) hm31) sL (hg4.rd hm31) (fun a h => Rd.ofRest (hqm a h) hm31) sL)) ?_
             rintro rq59 w58 ⟨Hsq59, grq59, k_w58⟩
             have hm58 : Mem w58 (restOf w0) (Hsq59 ++ (H4 ++ ([]))) := Mem.new (H := H4 ++ ([])) (H' := Hsq59) hm31 k_w58
             refine rw_q (v := (i64 ((judgeF ls who lm).length : Int))) rfl (ev_len_rd (grq59.rd hm58) uT35 rfl) <| rw_q rfl (ev_i64_neq (b := 0) rfl rfl) <| rw_q rfl (ev_move (v := (bl (((judgeF ls who lm).length : Int) != 0))) rfl) ?_
             have hd60 : (((judgeF ls who lm).length : Int) != 0) = false := told_ne (by rw [hj0]; rfl)
             refine rw_gyq (s := 115) rfl rfl hd60 rfl (ev_move s0) <| rw_gyq (s := 115) rfl rfl hd60 rfl (ev_move s1) <| rw_gyq (s := 115) rfl rfl hd60 rfl (ev_move s7) <| rw_gy (s := 115) rfl rfl hd60 rfl (opR_call Try.func18 bd18 nm18 (args3 rfl rfl rfl) (c_missing vs ls who v4 lm _ (RdK.ofRest hrs hm58) (fun a h => Rd.ofRest (hqs a h) hm58) sL (hg4.rd (Mem.pick Hsq59 H4 _ hm58)) (fun a h => Rd.ofRest (hqm a h) hm58) sL)) ?_
             rintro rq62 w61 ⟨Hsq62, grq62, k_w61⟩
             have hm61 : Mem w61 (restOf w0) (Hsq62 ++ (Hsq59 ++ (H4 ++ ([])))) := Mem.new (H := Hsq59 ++ (H4 ++ ([]))) (H' := Hsq62) hm58 k_w61
             refine rw_gyq (s := 115) rfl rfl hd60 rfl (ev_len_rd (grq62.rd hm61) uT32 rfl) <| rw_gyq (s := 115) rfl rfl hd60 rfl (ev_i64_neq (b := 0) rfl rfl) <| rw_q rfl (ev_pick_fk rfl hd60 rfl) <| rN ?_
             have hm63 := Mem.drop Hsq62 _ hm61
             have hm64 := Mem.drop Hsq59 _ hm63
             refine CW.abs (fun g => g 0 = vs ∧ g 1 = (Value.string who) ∧ g 2 = vo ∧ g 7 = v4 ∧ g 17 = (bl false) ∧ g 24 = (bl (decide (100 < (lo.length : Int)))) ∧ g 26 = vs ∧ g 27 = (i64 (ls.length : Int)) ∧ g 28 = (i64 (k : Int)) ∧ g 29 = (bl (decide ((k : Int) < (ls.length : Int)))) ∧ g 75 = vo ∧ g 76 = (i64 (lo.length : Int)) ∧ g 77 = (i64 (k4 : Int)) ∧ g 78 = (bl (decide ((k4 : Int) < (lo.length : Int)))) ∧ g 122 = (bl (((missF ls who lm).length : Int) != 0)) ∧ True) ⟨s0, s1, s2, s7, s17, s24, s26, s27, s28, s29, s75, s76, s77, rfl, rfl, trivial⟩ ?_
             rintro fr65 ⟨s0, s1, s2, s7, s17, s24, s26, s27, s28, s29, s75, s76, s77, s78, s122, _⟩
             have hd66 : (((missF ls who lm).length : Int) != 0) = false := told_ne (by rw [hmz]; rfl)
             refine cw_cond_f s122 hd66 ?_
             refine cw_skip (kThen_normal (cw_seq (sR ?_)))
             refine rM rfl s7 <| rw_q (v := (i64 (lm.length : Int))) rfl (ev_len_rk (hg4.rd hm64) uT23 rfl) <| rw_q rfl (ev_i64_eql (b := 0) rfl rfl) <| rN ?_
             refine cw_cond rfl (fun hc67 => ?_) (fun hc67 => ?_)
             · -- true
               have hc67p := eq_of_beq hc67
               refine sR <| rw_q rfl (ev_assign (v := (bl true)) rfl) ?_
               refine rN (cw_ret (kThen_ret ?_))
               refine fnPost_ret [(bl true)] ⟨rfl, trivial⟩ ?_
               exact ⟨rfl, Mem.below w0 hm64⟩
             · -- false
               have hc67p := ne_of_beq_false hc67
               have hj1 : judgeF ls who (lm.drop 1) = [] := tail_judge hu3 hp
               have hm1 := tail_miss hu3 hp oM
               have hm1l : (missF ls who (lm.drop 1)).length = 1 := by rw [hm1]; rfl
               have hj1l : (judgeF ls who (lm.drop 1)).length = 0 := by rw [hj1]; rfl
               refine cw_skip (kThen_normal (sR ?_))
               refine rM rfl s0 <| rM rfl s1 <| rM rfl s7 <| rw_q rfl (ev_slice_rk (i := 1) (j := (lm.length : Int)) (hg4.rd hm64) uT23 ti26 rfl (optI_some (k := .i64) (i := 1) rfl) (optI_none _ _) oM sL sL) <| rw_c rfl (opR_call Try.func18 bd18 nm18 (args3 rfl rfl rfl) (c_missing vs ls who (subvK v4 1 (lm.length : Int) 5) (lm.drop 1) _ (RdK.ofRest hrs hm64) (fun a h => Rd.ofRest (hqs a h) hm64) sL (RdK.cast (RdK.sub (i := 1) (j := (lm.length : Int)) (hg4.rd hm64) oM sL sL) (drop_one lm)) (fun a h => Rd.ofRest ((fun a h => hqm a (List.mem_of_mem_drop h)) a h) hm64) sL)) ?_
               rintro rq69 w68 ⟨Hsq69, grq69, k_w68⟩
               have hm68 : Mem w68 (restOf w0) (Hsq69 ++ (H4 ++ ([]))) := Mem.new (H := H4 ++ ([])) (H' := Hsq69) hm64 k_w68
               refine rA rfl (v := rq69) rfl ?_
               refine rN (cw_seq ?_)
               refine cw_draw [(0, false), (1, false), (2, false), (3, false), (4, false), (5, false), (6, false), (7, false), (8, false), (9, false), (10, false), (11, false), (12, false), (13, false), (14, false), (15, false), (16, false), (17, false)] 18 (by kernel_rfl) <| dM rfl rfl (v := rq69) rfl <| dw_q (v := (i64 ((missF ls who (lm.drop 1)).length : Int))) rfl rfl (fun _ _hx => ev_len_rd (grq69.rd (hm68.ext _hx)) uT32 rfl) <| dw_q rfl rfl (fun _ _hx => ev_i64_eql (b := 1) rfl rfl) <| dw_q rfl rfl (fun _ _hx => ev_move (v := (bl (((missF ls who (lm.drop 1)).length : Int) == 1))) rfl) ?_
               have hd70 : (((missF ls who (lm.drop 1)).length : Int) == 1) = true := told_true (by rw [hm1]; rfl)
               refine dw_gqy (s := 134) rfl rfl rfl hd70 rfl (fun _ _hx => ev_move (v := rq69) rfl) <| dw_gqy (s := 134) rfl rfl rfl hd70 rfl (fun _ _hx => ev_indexAddr_rdv (i := 0) (grq69.rd (hm68.ext _hx)) uT32 ti9 rfl rfl oM sL) <| dw_gqy (s := 134) rfl rfl rfl hd70 rfl (fun _ _hx => ev_load_rdD (l := missF ls who (lm.drop 1)) (i := 0) (dflt := ByteArray.empty) (grq69.rd (hm68.ext _hx)) uT9 rfl oM sL rfl) <| dw_gqy (s := 134) rfl rfl rfl hd70 rfl (fun _ _hx => ev_move s7) <| dw_gqy (s := 134) rfl rfl rfl hd70 rfl (fun _ _hx => ev_indexAddr_rk (i := 0) (hg4.rd (Mem.pick Hsq69 H4 _ (hm68.ext _hx))) uT23 ti26 rfl rfl oM sL) <| dw_gqy (s := 134) rfl rfl rfl hd70 rfl (fun _ _hx => ev_fa_rk (i := (0 : Int)) (hg4.rd (Mem.pick Hsq69 H4 _ (hm68.ext _hx))) sL uT26 rfl (by first | rfl | omega) ti9 rfl rfl) ?_
               refine dw_gqy (s := 134) rfl rfl rfl hd70 rfl (fun _ _hx => ev_load_rk1 (i := (0 : Int)) (dflt := note0) (u := (Value.string ((lm.getD 0 note0).id_))) (hg4.rd (Mem.pick Hsq69 H4 _ (hm68.ext _hx))) sL uT9 rfl rfl (by decide) rfl) <| dw_gqy (s := 134) rfl rfl rfl hd70 rfl (fun _ _hx => ev_str_eql (s := ((missF ls who (lm.drop 1)).getD 0 ByteArray.empty)) (t := (lm.getD 0 note0).id_) rfl rfl) <| dw_q rfl rfl (fun _ _hx => ev_pick_tk rfl hd70 rfl) <| dM rfl rfl rfl ?_
               have hd71 : (decide (((missF ls who (lm.drop 1)).getD 0 ByteArray.empty) = (lm.getD 0 note0).id_)) = true := decide_eq_true (by rw [hm1]; rfl)
               refine dw_gqy (s := 144) rfl rfl rfl hd71 rfl (fun _ _hx => ev_move s0) <| dw_gqy (s := 144) rfl rfl rfl hd71 rfl (fun _ _hx => ev_move s1) <| dw_gqy (s := 144) rfl rfl rfl hd71 rfl (fun _ _hx => ev_move s7) <| dw_gqy (s := 144) rfl rfl rfl hd71 rfl (fun _ _hx => ev_slice_rk (i := 1) (j := (lm.length : Int)) (hg4.rd (Mem.pick Hsq69 H4 _ (hm68.ext _hx))) uT23 ti26 rfl (optI_some (k := .i64) (i := 1) rfl) (optI_none _ _) oM sL sL) ?_
               refine dw_nil (fun w72 _ew72 => ?_)
               have hm72 := hm68.ext _ew72
               refine rw_gy (s := 144) rfl rfl hd71 rfl (opR_call Try.func21 bd21 nm21 (args3 rfl rfl rfl) (c_judge vs ls who (subvK v4 1 (lm.length : Int) 5) (lm.drop 1) _ (RdK.ofRest hrs hm72) (fun a h => Rd.ofRest (hqs a h) hm72) sL (RdK.cast (RdK.sub (i := 1) (j := (lm.length : Int)) (hg4.rd (Mem.pick Hsq69 H4 _ hm72)) oM sL sL) (drop_one lm)) (fun a h => Rd.ofRest ((fun a h => hqm a (List.mem_of_mem_drop h)) a h) hm72) sL)) ?_
               rintro rq74 w73 ⟨Hsq74, grq74, k_w73⟩
               have hm73 : Mem w73 (restOf w0) (Hsq74 ++ (Hsq69 ++ (H4 ++ ([])))) := Mem.new (H := Hsq69 ++ (H4 ++ ([]))) (H' := Hsq74) hm72 k_w73
               refine rw_gyq (s := 144) rfl rfl hd71 rfl (ev_len_rd (grq74.rd hm73) uT35 rfl) <| rw_gyq (s := 144) rfl rfl hd71 rfl (ev_i64_eql (b := 0) rfl rfl) <| rw_q rfl (ev_pick_tk rfl hd71 rfl) <| rw_q rfl (ev_assign (v := (bl (((judgeF ls who (lm.drop 1)).length : Int) == 0))) rfl) <| rN ?_
               have hm75 := Mem.drop Hsq74 _ hm73
               refine CW.abs (fun g => g 0 = vs ∧ g 1 = (Value.string who) ∧ g 2 = vo ∧ g 6 = (bl (((judgeF ls who (lm.drop 1)).length : Int) == 0)) ∧ g 7 = v4 ∧ g 15 = rq69 ∧ g 17 = (bl false) ∧ g 24 = (bl (decide (100 < (lo.length : Int)))) ∧ g 26 = vs ∧ g 27 = (i64 (ls.length : Int)) ∧ g 28 = (i64 (k : Int)) ∧ g 29 = (bl (decide ((k : Int) < (ls.length : Int)))) ∧ g 75 = vo ∧ g 76 = (i64 (lo.length : Int)) ∧ g 77 = (i64 (k4 : Int)) ∧ g 78 = (bl (decide ((k4 : Int) < (lo.length : Int)))) ∧ g 122 = (bl (((missF ls who lm).length : Int) != 0)) ∧ g 125 = (bl ((lm.length : Int) == 0)) ∧ True) ⟨s0, s1, s2, rfl, s7, rfl, s17, s24, s26, s27, s28, s29, s75, s76, s77, s78, s122, rfl, trivial⟩ ?_
               rintro fr76 ⟨s0, s1, s2, s6, s7, s15, s17, s24, s26, s27, s28, s29, s75, s76, s77, s78, s122, s125, _⟩
               refine cw_ret <| fnPost_ret [(bl (((judgeF ls who (lm.drop 1)).length : Int) == 0))] ⟨s6, trivial⟩ ?_
               have hd77 : (((judgeF ls who (lm.drop 1)).length : Int) == 0) = true := told_true (by rw [hj1]; rfl)
               exact ⟨congrArg bl hd77, Mem.below w0 hm75⟩


end Go.Proofs.Ytfmjfojhcmmgcaa
