/- Contract: the document's pairs of bytes. Conditions: none beyond those that each theorem states. -/
import Derived.Test.YtfbnhoolkajebaaSo4
namespace Go.Proofs.Ytfbnhoolkajebaa
section
set_option linter.unusedVariables false
set_option linter.unusedSimpArgs false
attribute [local irreducible] encK recP num2 num4 rightB allR goneB encV encE
set_option maxHeartbeats 2000000 in
theorem c_great16 (vp : Value) (lp : List PairT) (w0 : World)  (hrp : RdK (blks w0) encP 3 vp lp) (hqp : ∀ a ∈ lp, Rd (blks w0) u8 (slv a.val) a.val.2) (hlp : lp.length ≤ 9223372036854775807) (hep : ∀ a ∈ lp, a.key.size ≤ 9223372036854775807 ∧ a.val.2.length ≤ 9223372036854775807) : CallsR Try.prog 31 #[vp] w0 (fun r w1 => ∃ gx : Bool, r = bl gx ∧ (gx = false → lp.length ≤ 20 ∧ ∀ i, i < lp.length → (lp.getD i pair0).key.size ≤ 1100 ∧ (lp.getD i pair0).val.2.length ≤ 2000) ∧ Mem w1 (restOf w0) []) := by
 refine callsR_of_cw (args := [vp]) Try.func31 rfl Try.ntmps31 Try.results31 rfl ?_
 have hm0 : Mem w0 (restOf w0) [] := Mem.of_world w0
 refine sR <| rw_q rfl (ev_assign (v := (bl false)) rfl) ?_
 refine rN (cw_seq (sR ?_))
 refine rM rfl (v := vp) rfl <| rw_q (v := (i64 (lp.length : Int))) rfl (ev_len_rk (RdK.ofRest hrp hm0) uT55 rfl) <| rw_q rfl (ev_i64_gtr (b := 20) rfl rfl) <| rN ?_
 refine cw_cond rfl (fun hc1 => ?_) (fun hc1 => ?_)
 · -- true
   have hc1p := of_decide_eq_true hc1
   refine sR <| rw_q rfl (ev_assign (v := (bl true)) rfl) ?_
   refine rN (cw_ret (kThen_ret ?_))
   refine fnPost_ret [(bl true)] ⟨rfl, trivial⟩ ?_
   exact ⟨true, rfl, (fun h => by cases h), hm0⟩
 · -- false
   have hc1p := of_decide_eq_false hc1
   refine cw_skip (kThen_normal (cw_seq (sR ?_)))
   refine rM rfl (v := vp) rfl <| rw_q (v := (i64 (lp.length : Int))) rfl (ev_len_rk (RdK.ofRest hrp hm0) uT55 rfl) <| rw_q rfl (ev_move (v := (i64 0)) rfl) ?_
   refine rN (cw_block ?_)
   refine cw_loop (fun g wv => ∃ (k : Nat), (k ≤ lp.length) ∧ (∀ i, i < k → (lp.getD i pair0).key.size ≤ 1100 ∧ (lp.getD i pair0).val.2.length ≤ 2000) ∧ g 0 = vp ∧ g 7 = (bl (decide (20 < (lp.length : Int)))) ∧ g 8 = vp ∧ g 9 = (i64 (lp.length : Int)) ∧ g 10 = (i64 (k : Int)) ∧ Mem wv (restOf w0) []) (fun g wv => ((lp.length : Int) - RowKit.intOf (g 10)).toNat) ?_ ?_
   · exact ⟨0, (Nat.zero_le _), (fun i hi => by omega), rfl, rfl, rfl, rfl, rfl, hm0⟩
   · rintro fr2 w3 ⟨k, hk, hsm, s0, s7, s8, s9, s10, hm3⟩
     have z10 := s10
     refine sR <| rw_q rfl (ev_i64_lss s10 s9) ?_
     refine rN (cw_seq ?_)
     refine cw_cond rfl (fun hc4 => ?_) (fun hc4 => ?_)
     · -- true
       have hc4p := of_decide_eq_true hc4
       have hqk := hep _ (getD_mem (d := pair0) (show k < lp.length by omega))
       refine cw_skip (kThen_normal (cw_seq (cw_block (sR ?_))))
       refine rw_q rfl (ev_indexAddr_rk (i := (k : Int)) (RdK.ofRest hrp hm3) uT55 ti79 s8 s10 oM sL) <| rw_q (v := (Value.agg #[(Value.string ((lp.getD k pair0).key)), (slv (lp.getD k pair0).val), (bl ((lp.getD k pair0).gone))])) rfl (ev_load_rkA (i := (k : Int)) (dflt := pair0) (cs := #[(Value.string ((lp.getD k pair0).key)), (slv (lp.getD k pair0).val), (bl ((lp.getD k pair0).gone))]) (RdK.ofRest hrp hm3) sL uT79 rfl ti79 rfl rfl (by decide) rfl) <| rw_c rfl (or_allocX hm3 ti79) ?_
       rintro _ w5 ⟨b4, rfl, _ew5, hm5⟩
       refine rw_n (or_storeW (cs := #[(Value.string ((lp.getD k pair0).key)), (slv (lp.getD k pair0).val), (bl ((lp.getD k pair0).gone))]) ti79 rfl rfl (by kernel_rfl) (one_arr (one_cons rfl (one_cons rfl (one_cons rfl one_nil)))) hm5.h0 (by kernel_rfl) rfl) ?_
       rintro _ w6 uq6
       have hm6 : Mem w6 (restOf w0) [(b4, .cells #[(Value.string ((lp.getD k pair0).key)), (slv (lp.getD k pair0).val), (bl ((lp.getD k pair0).gone))] 79 (0, 0))] := hm5.upd0 uq6
       refine rN (sR ?_)
       refine rw_q rfl (ev_fa (r := 0) uT79 rfl (by first | rfl | omega) ti9 rfl rfl) <| rw_q (v := (Value.string ((lp.getD k pair0).key))) rfl (ev_load1 uT9 rfl rfl hm6.h0 rfl) <| rw_q (v := (i64 (((lp.getD k pair0).key).size : Int))) rfl (ev_len_str uT9 rfl) <| rw_q rfl (ev_i64_gtr (b := 1100) rfl rfl) <| rw_q rfl (ev_move (v := (bl (decide (1100 < (((lp.getD k pair0).key).size : Int))))) rfl) ?_
       rcases Bool.eq_false_or_eq_true (decide (1100 < (((lp.getD k pair0).key).size : Int))) with hb7 | hb7
       · -- true
         have hb7p := of_decide_eq_true hb7
         refine rw_gn (s := 18) rfl rfl hb7 rfl <| rw_gn (s := 18) rfl rfl hb7 rfl <| rw_gn (s := 18) rfl rfl hb7 rfl <| rw_gn (s := 18) rfl rfl hb7 rfl <| rw_q rfl (ev_pick_tk rfl hb7 rfl) <| rN ?_
         refine cw_cond_t rfl (by decide) <| sR <| rw_q rfl (ev_assign (v := (bl true)) rfl) ?_
         refine rN (cw_ret ?_)
         refine kBlk_ret (kThen_ret (kBlk_ret ?_))
         refine fnPost_ret [(bl true)] ⟨rfl, trivial⟩ ?_
         have hm8 := Mem.drop ([(b4, .cells #[(Value.string ((lp.getD k pair0).key)), (slv (lp.getD k pair0).val), (bl ((lp.getD k pair0).gone))] 79 (0, 0))]) _ hm6
         exact ⟨true, rfl, (fun h => by cases h), hm8⟩
       · -- false
         have hb7p := of_decide_eq_false hb7
         refine rw_gyq (s := 18) rfl rfl hb7 rfl (ev_fa (r := 1) uT79 rfl (by first | rfl | omega) ti23 rfl rfl) <| rw_gyq (s := 18) rfl rfl hb7 rfl (ev_load1 uT23 rfl rfl hm6.h0 rfl) <| rw_gyq (s := 18) rfl rfl hb7 rfl (ev_len_rd (Rd.ofRest (rdQ PairT.val hqp (k := k) sD) hm6) uT23 rfl) <| rw_gyq (s := 18) rfl rfl hb7 rfl (ev_i64_gtr (b := 2000) rfl rfl) <| rw_q rfl (ev_pick_fk rfl hb7 rfl) <| rN ?_
         refine cw_cond rfl (fun hc9 => ?_) (fun hc9 => ?_)
         · -- true
           have hc9p := of_decide_eq_true hc9
           refine sR <| rw_q rfl (ev_assign (v := (bl true)) rfl) ?_
           refine rN (cw_ret ?_)
           refine kBlk_ret (kThen_ret (kBlk_ret ?_))
           refine fnPost_ret [(bl true)] ⟨rfl, trivial⟩ ?_
           have hm10 := Mem.drop ([(b4, .cells #[(Value.string ((lp.getD k pair0).key)), (slv (lp.getD k pair0).val), (bl ((lp.getD k pair0).gone))] 79 (0, 0))]) _ hm6
           exact ⟨true, rfl, (fun h => by cases h), hm10⟩
         · -- false
           have hc9p := of_decide_eq_false hc9
           refine cw_skip (kBlk_normal (cw_region ?_))
           refine rw_q rfl (ev_i64_add (b := 1) s10 rfl oM oM) <| rw_q rfl (ev_move (v := (i64 ((k : Int) + 1))) rfl) <| rN ?_
           have hm11 := Mem.drop ([(b4, .cells #[(Value.string ((lp.getD k pair0).key)), (slv (lp.getD k pair0).val), (bl ((lp.getD k pair0).gone))] 79 (0, 0))]) _ hm6
           exact ⟨⟨(k + 1), oM, (smallP_step hsm oM), s0, s7, s8, s9, rfl, hm11⟩, meas (rfl) z10 oM oM⟩
     · -- false
       have hc4p := of_decide_eq_false hc4
       refine cw_exit ?_
       refine kThen_exit (kThen_exit (kBlk_hit ?_))
       refine sR <| rw_q rfl (ev_assign (v := (bl false)) rfl) ?_
       refine rN (cw_ret ?_)
       refine fnPost_ret [(bl false)] ⟨rfl, trivial⟩ ?_
       exact ⟨false, rfl, fun _ => ⟨by omega, fun i hi => hsm i oM⟩, hm3⟩


end --m
section
set_option linter.unusedVariables false
set_option linter.unusedSimpArgs false
attribute [local irreducible] natB tkN tkOk kN vN_ oneOk oneR decF decP decV decE rightB
end --m
end Go.Proofs.Ytfbnhoolkajebaa
