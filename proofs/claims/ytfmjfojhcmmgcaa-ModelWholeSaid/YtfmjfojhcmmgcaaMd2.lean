/- Contracts: where a note stands. Conditions: none beyond those that each theorem states. -/
import Derived.Test.YtfmjfojhcmmgcaaMd1
namespace Go.Proofs.Ytfmjfojhcmmgcaa
set_option linter.unusedVariables false
set_option linter.unusedSimpArgs false

theorem same_lenI {la lb : List Int} (h : (la.length : Int) ≠ (lb.length : Int)) : false = (la == lb) := by
  symm; rw [beq_eq_false_iff_ne]; rintro rfl; exact h rfl
theorem same_atI {la lb : List Int} {k : Nat} (h : la.getD k 0 ≠ lb.getD k 0) : false = (la == lb) := by
  symm; rw [beq_eq_false_iff_ne]; rintro rfl; exact h rfl
theorem same_allI {la lb : List Int} (h : (la.length : Int) = (lb.length : Int)) (hall : ∀ j, j < la.length → la.getD j 0 = lb.getD j 0) : true = (la == lb) := by
  symm; rw [beq_iff_eq]
  refine List.ext_getElem oM fun i h1 h2 => ?_
  have := hall i h1
  simpa [List.getD_eq_getElem?_getD, h1, h2] using this
theorem same_stepI {la lb : List Int} {k : Nat} (heq : ∀ j, j < k → la.getD j 0 = lb.getD j 0) (h : la.getD k 0 = lb.getD k 0) : ∀ j, j < k + 1 → la.getD j 0 = lb.getD j 0 := by
  intro j hj
  rcases Nat.lt_or_ge j k with h1 | h1
  · exact heq j h1
  · have : j = k := by omega
    subst this; exact h

set_option maxHeartbeats 1000000 in
theorem c_beq (va vb : Value) (la lb : List (BitVec 8)) (w0 : World)  (hra : Rd (blks w0) u8 va la) (hrb : Rd (blks w0) u8 vb lb) : CallsR Try.prog 51 #[va, vb] w0 (fun r w1 => r = (bl (la == lb)) ∧ Ext w0 w1) := by
 refine callsR_of_cw (args := [va, vb]) Try.func51 rfl Try.ntmps51 Try.results51 rfl ?_
 have hm0 : Mem w0 (restOf w0) [] := Mem.of_world w0
 refine sR <| rw_q rfl (ev_assign (v := (bl false)) rfl) ?_
 refine rN (sR ?_)
 refine rM rfl (v := va) rfl <| rw_q rfl (ev_b2s (l := la) (Rd.ofRest hra hm0) uT24 uT5 uT9 rfl) <| rM rfl (v := vb) rfl <| rw_q rfl (ev_b2s (l := lb) (Rd.ofRest hrb hm0) uT24 uT5 uT9 rfl) <| rw_q rfl (ev_str_eql (s := (strOf la)) (t := (strOf lb)) rfl rfl) <| rw_q rfl (ev_assign (v := (bl (decide ((strOf la) = (strOf lb))))) rfl) ?_
 refine rN (cw_ret ?_)
 refine fnPost_ret [(bl (decide ((strOf la) = (strOf lb))))] ⟨rfl, trivial⟩ ?_
 exact ⟨congrArg bl strOf_inj, hm0.toExt⟩

set_option maxHeartbeats 1000000 in
theorem c_place1 (sa : SentT) (b1 b2 : Nat) (who : ByteArray) (n : NoteT) (w0 : World)  (hbw : blks w0 b1 = some (.cells #[.string who] 9 (0, 0))) (hbn : blks w0 b2 = some (.cells #[(Value.string n.th), (Value.string n.frm), (Value.string n.id_), (bl n.sl), (slv n.body)] 26 (0, 0))) : CallsR Try.prog 50 #[(Value.agg #[(Value.string sa.frm), (Value.string sa.to_), (Value.string sa.id_), (Value.string sa.th), (bl sa.sl), (slv sa.body)]), (ptr b1 0), (ptr b2 0)] w0 (fun r w1 => r = (bl (isOf who n sa)) ∧ Ext w0 w1) := by
 refine callsR_of_cw (args := [(Value.agg #[(Value.string sa.frm), (Value.string sa.to_), (Value.string sa.id_), (Value.string sa.th), (bl sa.sl), (slv sa.body)]), (ptr b1 0), (ptr b2 0)]) Try.func50 rfl Try.ntmps50 Try.results50 rfl ?_
 have hm0 : Mem w0 (restOf w0) [] := Mem.of_world w0
 refine sR <| rw_c rfl (or_boxX (cs := #[(Value.string sa.frm), (Value.string sa.to_), (Value.string sa.id_), (Value.string sa.th), (bl sa.sl), (slv sa.body)]) hm0 rfl) ?_
 rintro _ w1 ⟨b3, rfl, _ew1, hm1⟩
 refine rw_q rfl (ev_assign (v := (bl false)) rfl) ?_
 refine rN (sR ?_)
 refine rw_q rfl (ev_fa (r := 1) uT39 rfl (by first | rfl | omega) ti9 rfl rfl) <| rw_q (v := (Value.string sa.to_)) rfl (ev_load1 uT9 rfl rfl hm1.h0 rfl) <| rw_q (v := (Value.string who)) rfl (ev_load1 uT9 rfl rfl (hm1.rest _ _ hbw) rfl) <| rw_q rfl (ev_str_eql (s := sa.to_) (t := who) rfl rfl) <| rw_q rfl (ev_move (v := (bl (decide (sa.to_ = who)))) rfl) ?_
 rcases Bool.eq_false_or_eq_true (decide (sa.to_ = who)) with hb2 | hb2
 · -- true
   have hb2p := of_decide_eq_true hb2
   refine rw_gyq (s := 9) rfl rfl hb2 rfl (ev_fa (r := 0) uT39 rfl (by first | rfl | omega) ti9 rfl rfl) <| rw_gyq (s := 9) rfl rfl hb2 rfl (ev_load1 uT9 rfl rfl hm1.h0 rfl) <| rw_gyq (s := 9) rfl rfl hb2 rfl (ev_fa (r := 2) uT39 rfl (by first | rfl | omega) ti9 rfl rfl) <| rw_gyq (s := 9) rfl rfl hb2 rfl (ev_load1 uT9 rfl rfl hm1.h0 rfl) <| rw_gyq (s := 9) rfl rfl hb2 rfl (ev_build_pt (c := #[(Value.string sa.frm), (Value.string sa.id_)]) (pl := [(0, 1), (1, 1)]) ti82 uT82 (by kernel_rfl) (pm_cons (i := 0) (v := (Value.string sa.frm)) (cs := #[(Value.string sa.frm)]) rfl rfl (pm_cons (i := 1) (v := (Value.string sa.id_)) (cs := #[(Value.string sa.id_)]) rfl rfl pm_nil)) (by kernel_rfl)) <| rw_gyq (s := 9) rfl rfl hb2 rfl (ev_fa (r := 1) uT26 rfl (by first | rfl | omega) ti9 rfl rfl) ?_
   refine rw_gyq (s := 9) rfl rfl hb2 rfl (ev_load1 uT9 rfl rfl (hm1.rest _ _ hbn) rfl) <| rw_gyq (s := 9) rfl rfl hb2 rfl (ev_fa (r := 2) uT26 rfl (by first | rfl | omega) ti9 rfl rfl) <| rw_gyq (s := 9) rfl rfl hb2 rfl (ev_load1 uT9 rfl rfl (hm1.rest _ _ hbn) rfl) <| rw_gyq (s := 9) rfl rfl hb2 rfl (ev_build_pt (c := #[(Value.string n.frm), (Value.string n.id_)]) (pl := [(0, 1), (1, 1)]) ti82 uT82 (by kernel_rfl) (pm_cons (i := 0) (v := (Value.string n.frm)) (cs := #[(Value.string n.frm)]) rfl rfl (pm_cons (i := 1) (v := (Value.string n.id_)) (cs := #[(Value.string n.id_)]) rfl rfl pm_nil)) (by kernel_rfl)) <| rw_gyq (s := 9) rfl rfl hb2 rfl (ev_two_eqlS (p := (sa.frm, sa.id_)) (q := (n.frm, n.id_)) uT82 (by kernel_rfl) (by decide) (by decide) rfl rfl rfl rfl uT9 Try.eqGuardType82 rfl rfl) <| rw_q rfl (ev_pick_tk rfl hb2 rfl) ?_
   refine rw_q rfl (ev_assign (v := (bl (decide (sa.frm = n.frm) && decide (sa.id_ = n.id_)))) rfl) <| rN ?_
   refine CW.abs (fun g => g 0 = (Value.agg #[(Value.string sa.frm), (Value.string sa.to_), (Value.string sa.id_), (Value.string sa.th), (bl sa.sl), (slv sa.body)]) ∧ g 1 = (ptr b1 0) ∧ g 2 = (ptr b2 0) ∧ g 3 = (ptr b3 0) ∧ g 4 = (bl (decide (sa.frm = n.frm) && decide (sa.id_ = n.id_))) ∧ True) ⟨rfl, rfl, rfl, rfl, rfl, trivial⟩ ?_
   rintro fr3 ⟨s0, s1, s2, s3, s4, _⟩
   refine cw_ret <| fnPost_ret [(bl (decide (sa.frm = n.frm) && decide (sa.id_ = n.id_)))] ⟨s4, trivial⟩ ?_
   exact ⟨congrArg bl (by unfold isOf; rw [hb2, Bool.true_and]), hm1.toExt⟩
 · -- false
   have hb2p := of_decide_eq_false hb2
   refine rw_gn (s := 9) rfl rfl hb2 rfl <| rw_gn (s := 9) rfl rfl hb2 rfl <| rw_gn (s := 9) rfl rfl hb2 rfl <| rw_gn (s := 9) rfl rfl hb2 rfl <| rw_gn (s := 9) rfl rfl hb2 rfl <| rw_gn (s := 9) rfl rfl hb2 rfl ?_
   refine rw_gn (s := 9) rfl rfl hb2 rfl <| rw_gn (s := 9) rfl rfl hb2 rfl <| rw_gn (s := 9) rfl rfl hb2 rfl <| rw_gn (s := 9) rfl rfl hb2 rfl <| rw_gn (s := 9) rfl rfl hb2 rfl <| rw_q rfl (ev_pick_fk rfl hb2 rfl) ?_
   refine rw_q rfl (ev_assign (v := (bl false)) rfl) <| rN ?_
   refine CW.abs (fun g => g 0 = (Value.agg #[(Value.string sa.frm), (Value.string sa.to_), (Value.string sa.id_), (Value.string sa.th), (bl sa.sl), (slv sa.body)]) ∧ g 1 = (ptr b1 0) ∧ g 2 = (ptr b2 0) ∧ g 3 = (ptr b3 0) ∧ g 4 = (bl false) ∧ True) ⟨rfl, rfl, rfl, rfl, rfl, trivial⟩ ?_
   rintro fr4 ⟨s0, s1, s2, s3, s4, _⟩
   refine cw_ret <| fnPost_ret [(bl false)] ⟨s4, trivial⟩ ?_
   exact ⟨congrArg bl (isOf_1 hb2).symm, hm1.toExt⟩

set_option maxHeartbeats 1000000 in
theorem c_ixf (vs : Value) (ls : List SentT) (b1 b2 : Nat) (who : ByteArray) (n : NoteT) (w0 : World)  (hrs : RdK (blks w0) encS 6 vs ls) (hqs : ∀ a ∈ ls, Rd (blks w0) u8 (slv a.body) a.body.2) (hls : ls.length ≤ 1048576) (hbw : blks w0 b1 = some (.cells #[.string who] 9 (0, 0))) (hbn : blks w0 b2 = some (.cells #[(Value.string n.th), (Value.string n.frm), (Value.string n.id_), (bl n.sl), (slv n.body)] 26 (0, 0))) : CallsR Try.prog 49 #[vs, (Value.func (.func 50) #[] #[(ptr b1 0), (ptr b2 0)])] w0 (fun r w1 => r = (i64 (atI ls who n)) ∧ Ext w0 w1) := by
 refine callsR_of_cw (args := [vs, (Value.func (.func 50) #[] #[(ptr b1 0), (ptr b2 0)])]) Try.func49 rfl Try.ntmps49 Try.results49 rfl ?_
 have hm0 : Mem w0 (restOf w0) [] := Mem.of_world w0
 refine sR <| rw_q rfl (ev_assign (v := (i64 0)) rfl) ?_
 refine rN (cw_seq (sR ?_))
 refine rM rfl (v := vs) rfl <| rw_q (v := (i64 (ls.length : Int))) rfl (ev_len_rk (RdK.ofRest hrs hm0) uT22 rfl) <| rw_q rfl (ev_move (v := (i64 0)) rfl) ?_
 refine rN (cw_block ?_)
 refine cw_loop (fun g wv => ∃ (k : Nat), (k ≤ ls.length) ∧ (∀ j, j < k → isOf who n (ls.getD j sent0) = false) ∧ g 0 = vs ∧ g 1 = (Value.func (.func 50) #[] #[(ptr b1 0), (ptr b2 0)]) ∧ g 7 = (i64 (ls.length : Int)) ∧ g 8 = (i64 (k : Int)) ∧ Mem wv (restOf w0) []) (fun g wv => ((ls.length : Int) - RowKit.intOf (g 8)).toNat) ?_ ?_
 · exact ⟨0, (Nat.zero_le _), (fun j hj => absurd hj (Nat.not_lt_zero j)), rfl, rfl, rfl, rfl, hm0⟩
 · rintro fr1 w2 ⟨k, hk, hno, s0, s1, s7, s8, hm2⟩
   have z8 := s8
   refine sR <| rw_q rfl (ev_i64_lss s8 s7) ?_
   refine rN (cw_seq ?_)
   refine cw_cond rfl (fun hc3 => ?_) (fun hc3 => ?_)
   · -- true
     have hc3p := of_decide_eq_true hc3
     refine cw_skip (kThen_normal (cw_seq (cw_block (sR ?_))))
     refine rM rfl s8 <| rw_q rfl (ev_assign (v := (i64 (k : Int))) rfl) ?_
     refine rN (sR ?_)
     refine rM rfl s1 <| rM rfl s0 <| rw_q rfl (ev_move (v := (i64 (k : Int))) rfl) <| rw_q rfl (ev_indexAddr_rk (i := (k : Int)) (RdK.ofRest hrs hm2) uT22 ti39 rfl rfl oM sL) <| rw_q (v := (Value.agg #[(Value.string ((ls.getD k sent0).frm)), (Value.string ((ls.getD k sent0).to_)), (Value.string ((ls.getD k sent0).id_)), (Value.string ((ls.getD k sent0).th)), (bl ((ls.getD k sent0).sl)), (slv (ls.getD k sent0).body)])) rfl (ev_load_rkA (i := (k : Int)) (dflt := sent0) (cs := #[(Value.string ((ls.getD k sent0).frm)), (Value.string ((ls.getD k sent0).to_)), (Value.string ((ls.getD k sent0).id_)), (Value.string ((ls.getD k sent0).th)), (bl ((ls.getD k sent0).sl)), (slv (ls.getD k sent0).body)]) (RdK.ofRest hrs hm2) sL uT39 rfl ti39 rfl rfl (by decide) rfl) <| rw_c rfl (opR_callV (f := 50) rfl Try.func50 bd50 nm50 (args1 rfl) (c_place1 (ls.getD k sent0) b1 b2 who n _ (hm2.rest _ _ hbw) (hm2.rest _ _ hbn))) ?_
     rintro _ w4 ⟨rfl, _ew4⟩
     have hm4 := hm2.ext _ew4
     refine rN ?_
     refine cw_cond rfl (fun hc6 => ?_) (fun hc6 => ?_)
     · -- true
       refine sR <| rw_q rfl (ev_move (v := (i64 (k : Int))) rfl) <| rw_q rfl (ev_assign (v := (i64 (k : Int))) rfl) ?_
       refine rN (cw_ret ?_)
       refine kBlk_ret (kThen_ret (kBlk_ret ?_))
       refine fnPost_ret [(i64 (k : Int))] ⟨rfl, trivial⟩ ?_
       exact ⟨congrArg i64 (at_hit oM hno hc6).symm, hm4.toExt⟩
     · -- false
       refine cw_skip (kBlk_normal (cw_region ?_))
       refine rw_q rfl (ev_i64_add (b := 1) s8 rfl oM oM) <| rw_q rfl (ev_move (v := (i64 ((k : Int) + 1))) rfl) <| rN ?_
       exact ⟨⟨(k + 1), oM, (all_succ hno hc6), s0, s1, s7, rfl, hm4⟩, meas rfl z8 oM oM⟩
   · -- false
     have hc3p := of_decide_eq_false hc3
     refine cw_exit ?_
     refine kThen_exit (kThen_exit (kBlk_hit ?_))
     refine sR <| rw_q rfl (ev_assign (v := (i64 (-1))) rfl) ?_
     refine rN (cw_ret ?_)
     refine fnPost_ret [(i64 (-1))] ⟨rfl, trivial⟩ ?_
     exact ⟨congrArg i64 (at_none (fun j hj => hno j oM)).symm, hm2.toExt⟩

set_option maxHeartbeats 1000000 in
theorem c_mplace (vs : Value) (ls : List SentT) (who : ByteArray) (n : NoteT) (w0 : World)  (hrs : RdK (blks w0) encS 6 vs ls) (hqs : ∀ a ∈ ls, Rd (blks w0) u8 (slv a.body) a.body.2) (hls : ls.length ≤ 1048576) (hnb : Rd (blks w0) u8 (slv n.body) n.body.2) : CallsR Try.prog 16 #[vs, (Value.string who), (Value.agg #[(Value.string n.th), (Value.string n.frm), (Value.string n.id_), (bl n.sl), (slv n.body)])] w0 (fun r w1 => r = (Value.tuple #[(i64 (if 0 > atI ls who n then 0 else atI ls who n)), (bl (decide (0 ≤ atI ls who n)))]) ∧ Ext w0 w1) := by
 refine callsR_of_cw (args := [vs, (Value.string who), (Value.agg #[(Value.string n.th), (Value.string n.frm), (Value.string n.id_), (bl n.sl), (slv n.body)])]) Try.func16 rfl Try.ntmps16 Try.results16 rfl ?_
 have hm0 : Mem w0 (restOf w0) [] := Mem.of_world w0
 have har := at_range (sent := ls) (who := who) (n := n)
 refine sR <| rw_c rfl (or_box_1 (v := (Value.string who)) hm0 rfl rfl) ?_
 rintro _ w1 ⟨b4, rfl, _ew1, hm1⟩
 refine rw_c rfl (or_boxX (cs := #[(Value.string n.th), (Value.string n.frm), (Value.string n.id_), (bl n.sl), (slv n.body)]) hm1 rfl) ?_
 rintro _ w2 ⟨b5, rfl, _ew2, hm2⟩
 refine rw_q rfl (ev_assign (v := (i64 0)) rfl) <| rw_q rfl (ev_assign (v := (bl false)) rfl) ?_
 refine rN (sR ?_)
 refine rM rfl (v := vs) rfl <| rw_q rfl (ev_makeFunc (args2 rfl rfl)) <| rw_c rfl (opR_call Try.func49 bd49 nm49 (args2 rfl rfl) (c_ixf vs ls b4 b5 who n _ (RdK.ofRest hrs hm2) (fun a h => Rd.ofRest (hqs a h) hm2) sL hm2.h1 hm2.h0)) ?_
 rintro _ w3 ⟨rfl, _ew3⟩
 have hm3 := hm2.ext _ew3
 refine rw_q rfl (ev_assign (v := (i64 (atI ls who n))) rfl) ?_
 refine rN (sR ?_)
 refine rw_q rfl (ev_move (v := (i64 (atI ls who n))) rfl) <| rw_q (v := (i64 (if 0 > (atI ls who n) then 0 else atI ls who n))) rfl (ev_max_i64 (j := 0) rfl rfl) <| rw_q rfl (ev_move (v := (i64 (atI ls who n))) rfl) <| rw_q rfl (ev_i64_geq (b := 0) rfl rfl) <| rw_q rfl (ev_assign (v := (i64 (if 0 > (atI ls who n) then 0 else atI ls who n))) rfl) <| rw_q rfl (ev_assign (v := (bl (decide (0 ≤ (atI ls who n))))) rfl) ?_
 refine rN ?_
 refine CW.abs (fun g => g 0 = vs ∧ g 1 = (Value.string who) ∧ g 2 = (Value.agg #[(Value.string n.th), (Value.string n.frm), (Value.string n.id_), (bl n.sl), (slv n.body)]) ∧ g 4 = (ptr b4 0) ∧ g 5 = (ptr b5 0) ∧ g 6 = (i64 (if 0 > (atI ls who n) then 0 else atI ls who n)) ∧ g 7 = (bl (decide (0 ≤ (atI ls who n)))) ∧ g 8 = (i64 (atI ls who n)) ∧ True) ⟨rfl, rfl, rfl, rfl, rfl, rfl, rfl, rfl, trivial⟩ ?_
 rintro fr5 ⟨s0, s1, s2, s4, s5, s6, s7, s8, _⟩
 refine cw_ret <| fnPost_ret [(i64 (if 0 > (atI ls who n) then 0 else atI ls who n)), (bl (decide (0 ≤ (atI ls who n))))] ⟨s6, s7, trivial⟩ ?_
 exact ⟨rfl, hm3.toExt⟩

set_option maxHeartbeats 1000000 in
theorem c_mrplace (vs : Value) (ls : List SentT) (who : ByteArray) (n : NoteT) (w0 : World)  (hrs : RdK (blks w0) encS 6 vs ls) (hqs : ∀ a ∈ ls, Rd (blks w0) u8 (slv a.body) a.body.2) (hls : ls.length ≤ 1048576) (hnb : Rd (blks w0) u8 (slv n.body) n.body.2) : CallsR Try.prog 17 #[vs, (Value.string who), (Value.agg #[(Value.string n.th), (Value.string n.frm), (Value.string n.id_), (bl n.sl), (slv n.body)])] w0 (fun r w1 => r = (i64 (atI ls who n)) ∧ Ext w0 w1) := by
 refine callsR_of_cw (args := [vs, (Value.string who), (Value.agg #[(Value.string n.th), (Value.string n.frm), (Value.string n.id_), (bl n.sl), (slv n.body)])]) Try.func17 rfl Try.ntmps17 Try.results17 rfl ?_
 have hm0 : Mem w0 (restOf w0) [] := Mem.of_world w0
 refine sR <| rw_c rfl (or_boxX (cs := #[(Value.string n.th), (Value.string n.frm), (Value.string n.id_), (bl n.sl), (slv n.body)]) hm0 rfl) ?_
 rintro _ w1 ⟨b5, rfl, _ew1, hm1⟩
 refine rw_q rfl (ev_assign (v := (i64 0)) rfl) ?_
 refine rN (cw_seq (sR ?_))
 refine rw_q rfl (ev_assign (v := (i64 0)) rfl) ?_
 refine rN (cw_block ?_)
 refine cw_loop (fun g wv => ∃ (k : Nat), (k ≤ ls.length) ∧ (∀ j, j < k → isOf who n (ls.getD j sent0) = false) ∧ g 0 = vs ∧ g 1 = (Value.string who) ∧ g 2 = (Value.agg #[(Value.string n.th), (Value.string n.frm), (Value.string n.id_), (bl n.sl), (slv n.body)]) ∧ g 5 = (ptr b5 0) ∧ g 7 = (i64 (k : Int)) ∧ Mem wv (restOf w0) [(b5, .cells #[(Value.string n.th), (Value.string n.frm), (Value.string n.id_), (bl n.sl), (slv n.body)] 26 (0, 0))]) (fun g wv => ((ls.length : Int) - RowKit.intOf (g 7)).toNat) ?_ ?_
 · exact ⟨0, (Nat.zero_le _), (fun j hj => absurd hj (Nat.not_lt_zero j)), rfl, rfl, rfl, rfl, rfl, hm1⟩
 · rintro fr2 w3 ⟨k, hk, hno, s0, s1, s2, s5, s7, hm3⟩
   have z7 := s7
   refine cw_seq (sR ?_)
   refine rM rfl s7 <| rM rfl s0 <| rw_q (v := (i64 (ls.length : Int))) rfl (ev_len_rk (RdK.ofRest hrs hm3) uT22 rfl) <| rw_q rfl (ev_i64_lss rfl rfl) <| rN ?_
   refine cw_cond rfl (fun hc4 => ?_) (fun hc4 => ?_)
   · -- true
     have hc4p := of_decide_eq_true hc4
     refine cw_skip (kThen_normal (cw_seq (cw_block (cw_seq ?_))))
     refine cw_draw [(0, false), (1, false), (2, false), (3, false), (4, false), (5, false), (6, false), (7, false), (8, false), (9, false), (10, false), (11, false), (12, false), (13, false), (14, false), (15, false), (16, false), (17, false), (18, false), (19, false), (20, false), (21, false), (22, false), (23, false), (24, false)] 25 (by kernel_rfl) <| dM rfl rfl s0 <| dM rfl rfl s7 <| dw_q rfl rfl (fun _ _hx => ev_indexAddr_rk (i := (k : Int)) (RdK.ofRest hrs (hm3.ext _hx)) uT22 ti39 rfl rfl oM sL) <| dw_q rfl rfl (fun _ _hx => ev_fa_rk (i := (k : Int)) (RdK.ofRest hrs (hm3.ext _hx)) sL uT39 rfl (by first | rfl | omega) ti9 rfl rfl) <| dw_q (v := (Value.string ((ls.getD k sent0).frm))) rfl rfl (fun _ _hx => ev_load_rk1 (i := (k : Int)) (dflt := sent0) (u := (Value.string ((ls.getD k sent0).frm))) (RdK.ofRest hrs (hm3.ext _hx)) sL uT9 rfl rfl (by decide) rfl) ?_
     refine dw_q rfl rfl (fun _ _hx => ev_fa (r := 1) uT26 rfl (by first | rfl | omega) ti9 rfl s5) <| dw_q (v := (Value.string n.frm)) rfl rfl (fun _ _hx => ev_load1 uT9 rfl rfl (hm3.ext _hx).h0 rfl) <| dw_q rfl rfl (fun _ _hx => ev_str_eql (s := (ls.getD k sent0).frm) (t := n.frm) rfl rfl) <| dw_q rfl rfl (fun _ _hx => ev_move (v := (bl (decide ((ls.getD k sent0).frm = n.frm)))) rfl) ?_
     rcases Bool.eq_false_or_eq_true (decide ((ls.getD k sent0).frm = n.frm)) with hb5 | hb5
     · -- true
       have hb5p := of_decide_eq_true hb5
       refine dw_gqy (s := 22) rfl rfl rfl hb5 rfl (fun _ _hx => ev_move s0) <| dw_gqy (s := 22) rfl rfl rfl hb5 rfl (fun _ _hx => ev_move s7) <| dw_gqy (s := 22) rfl rfl rfl hb5 rfl (fun _ _hx => ev_indexAddr_rk (i := (k : Int)) (RdK.ofRest hrs (hm3.ext _hx)) uT22 ti39 rfl rfl oM sL) <| dw_gqy (s := 22) rfl rfl rfl hb5 rfl (fun _ _hx => ev_fa_rk (i := (k : Int)) (RdK.ofRest hrs (hm3.ext _hx)) sL uT39 rfl (by first | rfl | omega) ti9 rfl rfl) <| dw_gqy (s := 22) rfl rfl rfl hb5 rfl (fun _ _hx => ev_load_rk1 (i := (k : Int)) (dflt := sent0) (u := (Value.string ((ls.getD k sent0).id_))) (RdK.ofRest hrs (hm3.ext _hx)) sL uT9 rfl rfl (by decide) rfl) <| dw_gqy (s := 22) rfl rfl rfl hb5 rfl (fun _ _hx => ev_fa (r := 2) uT26 rfl (by first | rfl | omega) ti9 rfl s5) ?_
       refine dw_gqy (s := 22) rfl rfl rfl hb5 rfl (fun _ _hx => ev_load1 uT9 rfl rfl (hm3.ext _hx).h0 rfl) <| dw_gqy (s := 22) rfl rfl rfl hb5 rfl (fun _ _hx => ev_str_eql (s := (ls.getD k sent0).id_) (t := n.id_) rfl rfl) <| dw_q rfl rfl (fun _ _hx => ev_pick_tk rfl hb5 rfl) <| dw_q rfl rfl (fun _ _hx => ev_move (v := (bl (decide ((ls.getD k sent0).id_ = n.id_)))) rfl) ?_
       rcases Bool.eq_false_or_eq_true (decide ((ls.getD k sent0).id_ = n.id_)) with hb6 | hb6
       · -- true
         have hb6p := of_decide_eq_true hb6
         refine dw_gqy (s := 32) rfl rfl rfl hb6 rfl (fun _ _hx => ev_move s0) <| dw_gqy (s := 32) rfl rfl rfl hb6 rfl (fun _ _hx => ev_move s7) <| dw_gqy (s := 32) rfl rfl rfl hb6 rfl (fun _ _hx => ev_indexAddr_rk (i := (k : Int)) (RdK.ofRest hrs (hm3.ext _hx)) uT22 ti39 rfl rfl oM sL) <| dw_gqy (s := 32) rfl rfl rfl hb6 rfl (fun _ _hx => ev_fa_rk (i := (k : Int)) (RdK.ofRest hrs (hm3.ext _hx)) sL uT39 rfl (by first | rfl | omega) ti9 rfl rfl) <| dw_gqy (s := 32) rfl rfl rfl hb6 rfl (fun _ _hx => ev_load_rk1 (i := (k : Int)) (dflt := sent0) (u := (Value.string ((ls.getD k sent0).to_))) (RdK.ofRest hrs (hm3.ext _hx)) sL uT9 rfl rfl (by decide) rfl) <| dw_gqy (s := 32) rfl rfl rfl hb6 rfl (fun _ _hx => ev_move s1) ?_
         refine dw_nil (fun w7 _ew7 => ?_)
         have hm7 := hm3.ext _ew7
         refine rw_gyq (s := 32) rfl rfl hb6 rfl (ev_str_eql (s := (ls.getD k sent0).to_) (t := who) rfl rfl) <| rw_q rfl (ev_pick_tk rfl hb6 rfl) <| rN ?_
         refine CW.abs (fun g => g 0 = vs ∧ g 1 = (Value.string who) ∧ g 2 = (Value.agg #[(Value.string n.th), (Value.string n.frm), (Value.string n.id_), (bl n.sl), (slv n.body)]) ∧ g 5 = (ptr b5 0) ∧ g 7 = (i64 (k : Int)) ∧ g 11 = (bl (decide ((k : Int) < (ls.length : Int)))) ∧ g 40 = (bl (decide ((ls.getD k sent0).to_ = who))) ∧ True) ⟨s0, s1, s2, s5, s7, rfl, rfl, trivial⟩ ?_
         rintro fr8 ⟨s0, s1, s2, s5, s7, s11, s40, _⟩
         refine cw_cond s40 (fun hc9 => ?_) (fun hc9 => ?_)
         · -- true
           have hc9p := of_decide_eq_true hc9
           refine sR <| rM rfl s7 <| rw_q rfl (ev_assign (v := (i64 (k : Int))) rfl) ?_
           refine rN (cw_ret ?_)
           refine kBlk_ret (kThen_ret (kBlk_ret ?_))
           refine fnPost_ret [(i64 (k : Int))] ⟨rfl, trivial⟩ ?_
           exact ⟨congrArg i64 (at_hit oM hno (isOf_t hc9 hb5 hb6)).symm, hm7.toExt⟩
         · -- false
           have hc9p := of_decide_eq_false hc9
           refine cw_skip (kBlk_normal (cw_region ?_))
           refine rM rfl s7 <| rw_q rfl (ev_i64_add (b := 1) rfl rfl oM oM) <| rw_q rfl (ev_assign (v := (i64 ((k : Int) + 1))) rfl) <| rN ?_
           exact ⟨⟨(k + 1), oM, (all_succ hno (isOf_1 hc9)), s0, s1, s2, s5, rfl, hm7⟩, meas rfl z7 oM oM⟩
       · -- false
         have hb6p := of_decide_eq_false hb6
         refine dw_gqn (s := 32) rfl rfl rfl hb6 rfl <| dw_gqn (s := 32) rfl rfl rfl hb6 rfl <| dw_gqn (s := 32) rfl rfl rfl hb6 rfl <| dw_gqn (s := 32) rfl rfl rfl hb6 rfl <| dw_gqn (s := 32) rfl rfl rfl hb6 rfl <| dw_gqn (s := 32) rfl rfl rfl hb6 rfl ?_
         refine dw_nil (fun w10 _ew10 => ?_)
         have hm10 := hm3.ext _ew10
         refine rw_gn (s := 32) rfl rfl hb6 rfl <| rw_q rfl (ev_pick_fk rfl hb6 rfl) <| rN ?_
         refine CW.abs (fun g => g 0 = vs ∧ g 1 = (Value.string who) ∧ g 2 = (Value.agg #[(Value.string n.th), (Value.string n.frm), (Value.string n.id_), (bl n.sl), (slv n.body)]) ∧ g 5 = (ptr b5 0) ∧ g 7 = (i64 (k : Int)) ∧ g 11 = (bl (decide ((k : Int) < (ls.length : Int)))) ∧ g 40 = (bl false) ∧ True) ⟨s0, s1, s2, s5, s7, rfl, rfl, trivial⟩ ?_
         rintro fr11 ⟨s0, s1, s2, s5, s7, s11, s40, _⟩
         refine cw_cond_f s40 (by decide) ?_
         refine cw_skip (kBlk_normal (cw_region ?_))
         refine rM rfl s7 <| rw_q rfl (ev_i64_add (b := 1) rfl rfl oM oM) <| rw_q rfl (ev_assign (v := (i64 ((k : Int) + 1))) rfl) <| rN ?_
         exact ⟨⟨(k + 1), oM, (all_succ hno (isOf_3 hb6)), s0, s1, s2, s5, rfl, hm10⟩, meas rfl z7 oM oM⟩
     · -- false
       have hb5p := of_decide_eq_false hb5
       refine dw_gqn (s := 22) rfl rfl rfl hb5 rfl <| dw_gqn (s := 22) rfl rfl rfl hb5 rfl <| dw_gqn (s := 22) rfl rfl rfl hb5 rfl <| dw_gqn (s := 22) rfl rfl rfl hb5 rfl <| dw_gqn (s := 22) rfl rfl rfl hb5 rfl <| dw_gqn (s := 22) rfl rfl rfl hb5 rfl ?_
       refine dw_gqn (s := 22) rfl rfl rfl hb5 rfl <| dw_gqn (s := 22) rfl rfl rfl hb5 rfl <| dw_q rfl rfl (fun _ _hx => ev_pick_fk rfl hb5 rfl) <| dw_q rfl rfl (fun _ _hx => ev_move (v := (bl false)) rfl) <| dw_gqn (s := 32) rfl rfl rfl rfl rfl <| dw_gqn (s := 32) rfl rfl rfl rfl rfl ?_
       refine dw_gqn (s := 32) rfl rfl rfl rfl rfl <| dw_gqn (s := 32) rfl rfl rfl rfl rfl <| dw_gqn (s := 32) rfl rfl rfl rfl rfl <| dw_gqn (s := 32) rfl rfl rfl rfl rfl ?_
       refine dw_nil (fun w12 _ew12 => ?_)
       have hm12 := hm3.ext _ew12
       refine rw_gn (s := 32) rfl rfl rfl rfl <| rw_q rfl (ev_pick_f rfl rfl) <| rN ?_
       refine CW.abs (fun g => g 0 = vs ∧ g 1 = (Value.string who) ∧ g 2 = (Value.agg #[(Value.string n.th), (Value.string n.frm), (Value.string n.id_), (bl n.sl), (slv n.body)]) ∧ g 5 = (ptr b5 0) ∧ g 7 = (i64 (k : Int)) ∧ g 11 = (bl (decide ((k : Int) < (ls.length : Int)))) ∧ g 40 = (bl false) ∧ True) ⟨s0, s1, s2, s5, s7, rfl, rfl, trivial⟩ ?_
       rintro fr13 ⟨s0, s1, s2, s5, s7, s11, s40, _⟩
       refine cw_cond_f s40 (by decide) ?_
       refine cw_skip (kBlk_normal (cw_region ?_))
       refine rM rfl s7 <| rw_q rfl (ev_i64_add (b := 1) rfl rfl oM oM) <| rw_q rfl (ev_assign (v := (i64 ((k : Int) + 1))) rfl) <| rN ?_
       exact ⟨⟨(k + 1), oM, (all_succ hno (isOf_2 hb5)), s0, s1, s2, s5, rfl, hm12⟩, meas rfl z7 oM oM⟩
   · -- false
     have hc4p := of_decide_eq_false hc4
     refine cw_exit ?_
     refine kThen_exit (kThen_exit (kBlk_hit ?_))
     refine sR <| rw_q rfl (ev_assign (v := (i64 (-1))) rfl) ?_
     refine rN (cw_ret ?_)
     refine fnPost_ret [(i64 (-1))] ⟨rfl, trivial⟩ ?_
     exact ⟨congrArg i64 (at_none (fun j hj => hno j oM)).symm, hm3.toExt⟩

set_option maxHeartbeats 1000000 in
theorem c_sameI (va vb : Value) (la lb : List Int) (w0 : World)  (hra : Rd (blks w0) i64 va la) (hrb : Rd (blks w0) i64 vb lb) (hla : la.length ≤ 281474976710656) : CallsR Try.prog 20 #[va, vb] w0 (fun r w1 => r = (bl (la == lb)) ∧ Ext w0 w1) := by
 refine callsR_of_cw (args := [va, vb]) Try.func20 rfl Try.ntmps20 Try.results20 rfl ?_
 have hm0 : Mem w0 (restOf w0) [] := Mem.of_world w0
 refine sR <| rw_q rfl (ev_assign (v := (bl false)) rfl) ?_
 refine rN (cw_seq (sR ?_))
 refine rM rfl (v := va) rfl <| rw_q (v := (i64 (la.length : Int))) rfl (ev_len_rd (Rd.ofRest hra hm0) uT35 rfl) <| rM rfl (v := vb) rfl <| rw_q (v := (i64 (lb.length : Int))) rfl (ev_len_rd (Rd.ofRest hrb hm0) uT35 rfl) <| rw_q rfl (ev_i64_neq rfl rfl) <| rN ?_
 refine cw_cond rfl (fun hc1 => ?_) (fun hc1 => ?_)
 · -- true
   have hc1p := bne_iff_ne.1 hc1
   refine sR <| rw_q rfl (ev_assign (v := (bl false)) rfl) ?_
   refine rN (cw_ret (kThen_ret ?_))
   refine fnPost_ret [(bl false)] ⟨rfl, trivial⟩ ?_
   exact ⟨congrArg bl (same_lenI hc1p), hm0.toExt⟩
 · -- false
   have hc1p := eq_of_bne_false hc1
   refine cw_skip (kThen_normal (cw_seq (sR ?_)))
   refine rw_q rfl (ev_assign (v := (i64 0)) rfl) ?_
   refine rN (cw_block ?_)
   refine cw_loop (fun g wv => ∃ (k : Nat), (k ≤ la.length) ∧ (∀ j, j < k → la.getD j 0 = lb.getD j 0) ∧ g 0 = va ∧ g 1 = vb ∧ g 5 = (i64 (k : Int)) ∧ g 10 = (bl ((la.length : Int) != (lb.length : Int))) ∧ Mem wv (restOf w0) []) (fun g wv => ((la.length : Int) - RowKit.intOf (g 5)).toNat) ?_ ?_
   · exact ⟨0, oM, (by intro j hj; omega), rfl, rfl, rfl, rfl, hm0⟩
   · rintro fr2 w3 ⟨k, hk, heq, s0, s1, s5, s10, hm3⟩
     have z5 := s5
     refine cw_seq (sR ?_)
     refine rM rfl s5 <| rM rfl s0 <| rw_q (v := (i64 (la.length : Int))) rfl (ev_len_rd (Rd.ofRest hra hm3) uT35 rfl) <| rw_q rfl (ev_i64_lss rfl rfl) <| rN ?_
     refine cw_cond rfl (fun hc4 => ?_) (fun hc4 => ?_)
     · -- true
       have hc4p := of_decide_eq_true hc4
       refine cw_skip (kThen_normal (cw_seq (cw_block (cw_seq ?_))))
       refine cw_draw [(0, false), (1, false), (2, false), (3, false), (4, false), (5, false), (6, false), (7, false)] 8 (by kernel_rfl) <| dM rfl rfl s0 <| dM rfl rfl s5 <| dw_q rfl rfl (fun _ _hx => ev_indexAddr_rdv (Rd.ofRest hra (hm3.ext _hx)) uT35 ti3 rfl rfl oM sL) <| dw_q (v := (i64 (la.getD k 0))) rfl rfl (fun _ _hx => ev_load_rdD (l := la) (i := (k : Int)) (dflt := 0) (Rd.ofRest hra (hm3.ext _hx)) uT3 rfl oM sL rfl) <| dM rfl rfl s1 ?_
       refine dM rfl rfl s5 <| dw_q rfl rfl (fun _ _hx => ev_indexAddr_rdv (Rd.ofRest hrb (hm3.ext _hx)) uT35 ti3 rfl rfl oM sL) <| dw_q (v := (i64 (lb.getD k 0))) rfl rfl (fun _ _hx => ev_load_rdD (l := lb) (i := (k : Int)) (dflt := 0) (Rd.ofRest hrb (hm3.ext _hx)) uT3 rfl oM sL rfl) ?_
       refine dw_nil (fun w5 _ew5 => ?_)
       have hm5 := hm3.ext _ew5
       refine rw_q rfl (ev_i64_neq rfl rfl) <| rN ?_
       refine CW.abs (fun g => g 0 = va ∧ g 1 = vb ∧ g 5 = (i64 (k : Int)) ∧ g 10 = (bl ((la.length : Int) != (lb.length : Int))) ∧ g 14 = (bl (decide ((k : Int) < (la.length : Int)))) ∧ g 25 = (bl ((la.getD k 0) != (lb.getD k 0))) ∧ True) ⟨s0, s1, s5, s10, rfl, rfl, trivial⟩ ?_
       rintro fr6 ⟨s0, s1, s5, s10, s14, s25, _⟩
       refine cw_cond s25 (fun hc7 => ?_) (fun hc7 => ?_)
       · -- true
         have hc7p := bne_iff_ne.1 hc7
         refine sR <| rw_q rfl (ev_assign (v := (bl false)) rfl) ?_
         refine rN (cw_ret ?_)
         refine kBlk_ret (kThen_ret (kBlk_ret ?_))
         refine fnPost_ret [(bl false)] ⟨rfl, trivial⟩ ?_
         exact ⟨congrArg bl (same_atI hc7p), hm5.toExt⟩
       · -- false
         have hc7p := eq_of_bne_false hc7
         refine cw_skip (kBlk_normal (cw_region ?_))
         refine rM rfl s5 <| rw_q rfl (ev_i64_add (b := 1) rfl rfl oM oM) <| rw_q rfl (ev_assign (v := (i64 ((k : Int) + 1))) rfl) <| rN ?_
         exact ⟨⟨(k + 1), oM, (same_stepI heq hc7p), s0, s1, rfl, s10, hm5⟩, meas rfl z5 oM oM⟩
     · -- false
       have hc4p := of_decide_eq_false hc4
       refine cw_exit ?_
       refine kThen_exit (kThen_exit (kBlk_hit ?_))
       refine sR <| rw_q rfl (ev_assign (v := (bl true)) rfl) ?_
       refine rN (cw_ret ?_)
       refine fnPost_ret [(bl true)] ⟨rfl, trivial⟩ ?_
       exact ⟨congrArg bl (same_allI hc1p (fun j hj => heq j oM)), hm3.toExt⟩


end Go.Proofs.Ytfmjfojhcmmgcaa
