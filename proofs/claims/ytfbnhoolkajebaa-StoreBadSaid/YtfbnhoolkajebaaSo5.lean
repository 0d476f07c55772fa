/- Contracts: the document's pairs. Conditions: none beyond those that each theorem states. -/
import Derived.Test.YtfbnhoolkajebaaSo4
namespace Go.Proofs.Ytfbnhoolkajebaa
set_option linter.unusedVariables false
set_option linter.unusedSimpArgs false
attribute [local irreducible] encK recP num2 num4 rightB allR goneB encV encE
set_option maxHeartbeats 2000000 in
theorem c_rright16 (key : ByteArray) (v : Value) (l : List (BitVec 8)) (gn : Bool) (w0 : World)  (hr : Rd (blks w0) u8 v l) (hk : key.size ≤ 1048576) (hl : l.length ≤ 1048576) : CallsR Try.prog 60 #[(Value.agg #[(Value.string key), v, (bl gn)])] w0 (fun r w1 => r = (bl (rightB key.size l.length gn)) ∧ Ext w0 w1) := by
 refine callsR_of_cw (args := [(Value.agg #[(Value.string key), v, (bl gn)])]) Try.func60 rfl Try.ntmps60 Try.results60 rfl ?_
 have hm0 : Mem w0 (restOf w0) [] := Mem.of_world w0
 refine sR <| rw_c rfl (or_boxX (cs := #[(Value.string key), v, (bl gn)]) hm0 rfl) ?_
 rintro _ w1 ⟨b1, rfl, _ew1, hm1⟩
 refine rw_q rfl (ev_assign (v := (bl false)) rfl) ?_
 refine rN (sR ?_)
 refine rw_q rfl (ev_fa (r := 0) uT79 rfl (by first | rfl | omega) ti9 rfl rfl) <| rw_q (v := (Value.string key)) rfl (ev_load1 uT9 rfl rfl hm1.h0 rfl) <| rw_q (v := (i64 (key.size : Int))) rfl (ev_len_str uT9 rfl) <| rw_q rfl (ev_i64_geq (b := 1) rfl rfl) <| rw_q rfl (ev_move (v := (bl (decide (1 ≤ (key.size : Int))))) rfl) ?_
 rcases Bool.eq_false_or_eq_true (decide (1 ≤ (key.size : Int))) with hb2 | hb2
 · -- true
   have hb2p := of_decide_eq_true hb2
   refine rw_gyq (s := 7) rfl rfl hb2 rfl (ev_fa (r := 0) uT79 rfl (by first | rfl | omega) ti9 rfl rfl) <| rw_gyq (s := 7) rfl rfl hb2 rfl (ev_load1 uT9 rfl rfl hm1.h0 rfl) <| rw_gyq (s := 7) rfl rfl hb2 rfl (ev_len_str uT9 rfl) <| rw_gyq (s := 7) rfl rfl hb2 rfl (ev_i64_leq (b := 1000) rfl rfl) <| rw_q rfl (ev_pick_tk rfl hb2 rfl) <| rw_q rfl (ev_move (v := (bl (decide ((key.size : Int) ≤ 1000)))) rfl) ?_
   rcases Bool.eq_false_or_eq_true (decide ((key.size : Int) ≤ 1000)) with hb3 | hb3
   · -- true
     have hb3p := of_decide_eq_true hb3
     refine rw_gyq (s := 13) rfl rfl hb3 rfl (ev_fa (r := 2) uT79 rfl (by first | rfl | omega) ti4 rfl rfl) <| rw_gyq (s := 13) rfl rfl hb3 rfl (ev_load1 uT4 rfl rfl hm1.h0 rfl) <| rw_gyq (s := 13) rfl rfl hb3 rfl (ev_move (v := (bl gn)) rfl) ?_
     rcases Bool.eq_false_or_eq_true gn with hb4 | hb4
     · -- true
       refine rw_gyq (s := 16) rfl rfl hb4 rfl (ev_fa (r := 1) uT79 rfl (by first | rfl | omega) ti23 rfl rfl) <| rw_gyq (s := 16) rfl rfl hb4 rfl (ev_load1 uT23 rfl rfl hm1.h0 rfl) <| rw_gyq (s := 16) rfl rfl hb4 rfl (ev_len_rd (Rd.ofRest hr hm1) uT23 rfl) <| rw_gyq (s := 16) rfl rfl hb4 rfl (ev_i64_gtr (b := 0) rfl rfl) <| rw_gyq (s := 13) rfl rfl hb3 rfl (ev_pick_tk rfl hb4 rfl) <| rw_gyq (s := 13) rfl rfl hb3 rfl (ev_not rfl) ?_
       refine rw_q rfl (ev_pick_tk rfl hb3 rfl) <| rw_q rfl (ev_assign (v := (bl (!(decide (0 < (l.length : Int)))))) rfl) <| rN ?_
       refine CW.abs (fun g => g 0 = (Value.agg #[(Value.string key), v, (bl gn)]) ∧ g 1 = (ptr b1 0) ∧ g 2 = (bl (!(decide (0 < (l.length : Int))))) ∧ True) ⟨rfl, rfl, rfl, trivial⟩ ?_
       rintro fr5 ⟨s0, s1, s2, _⟩
       refine cw_ret <| fnPost_ret [(bl (!(decide (0 < (l.length : Int)))))] ⟨s2, trivial⟩ ?_
       exact ⟨congrArg bl (by unfold rightB; rw [right_1 key.size, right_2]; simp only [hb2, hb3, hb4, Bool.true_and, Bool.false_and, Bool.and_true, Bool.and_false, Bool.true_or, Bool.false_or, Bool.not_true, Bool.not_false]), hm1.toExt⟩
     · -- false
       refine rw_gn (s := 16) rfl rfl hb4 rfl <| rw_gn (s := 16) rfl rfl hb4 rfl <| rw_gn (s := 16) rfl rfl hb4 rfl <| rw_gn (s := 16) rfl rfl hb4 rfl <| rw_gyq (s := 13) rfl rfl hb3 rfl (ev_pick_fk rfl hb4 rfl) <| rw_gyq (s := 13) rfl rfl hb3 rfl (ev_not (b := false) rfl) ?_
       refine rw_q rfl (ev_pick_tk rfl hb3 rfl) <| rw_q rfl (ev_assign (v := (bl true)) rfl) <| rN ?_
       refine CW.abs (fun g => g 0 = (Value.agg #[(Value.string key), v, (bl gn)]) ∧ g 1 = (ptr b1 0) ∧ g 2 = (bl true) ∧ True) ⟨rfl, rfl, rfl, trivial⟩ ?_
       rintro fr6 ⟨s0, s1, s2, _⟩
       refine cw_ret <| fnPost_ret [(bl true)] ⟨s2, trivial⟩ ?_
       exact ⟨congrArg bl (by unfold rightB; rw [right_1 key.size, right_2]; simp only [hb2, hb3, hb4, Bool.true_and, Bool.false_and, Bool.and_true, Bool.and_false, Bool.true_or, Bool.false_or, Bool.not_true, Bool.not_false]), hm1.toExt⟩
   · -- false
     have hb3p := of_decide_eq_false hb3
     refine rw_gn (s := 13) rfl rfl hb3 rfl <| rw_gn (s := 13) rfl rfl hb3 rfl <| rw_gn (s := 13) rfl rfl hb3 rfl <| rw_gu (s := 16) rfl rfl rfl <| rw_gu (s := 16) rfl rfl rfl <| rw_gu (s := 16) rfl rfl rfl ?_
     refine rw_gu (s := 16) rfl rfl rfl <| rw_gn (s := 13) rfl rfl hb3 rfl <| rw_gn (s := 13) rfl rfl hb3 rfl <| rw_q rfl (ev_pick_fk rfl hb3 rfl) <| rw_q rfl (ev_assign (v := (bl false)) rfl) <| rN ?_
     refine CW.abs (fun g => g 0 = (Value.agg #[(Value.string key), v, (bl gn)]) ∧ g 1 = (ptr b1 0) ∧ g 2 = (bl false) ∧ True) ⟨rfl, rfl, rfl, trivial⟩ ?_
     rintro fr7 ⟨s0, s1, s2, _⟩
     refine cw_ret <| fnPost_ret [(bl false)] ⟨s2, trivial⟩ ?_
     exact ⟨congrArg bl (by unfold rightB; rw [right_1 key.size, right_2]; simp only [hb2, hb3, Bool.true_and, Bool.false_and, Bool.and_true, Bool.and_false, Bool.true_or, Bool.false_or, Bool.not_true, Bool.not_false]), hm1.toExt⟩
 · -- false
   have hb2p := of_decide_eq_false hb2
   refine rw_gn (s := 7) rfl rfl hb2 rfl <| rw_gn (s := 7) rfl rfl hb2 rfl <| rw_gn (s := 7) rfl rfl hb2 rfl <| rw_gn (s := 7) rfl rfl hb2 rfl <| rw_q rfl (ev_pick_fk rfl hb2 rfl) <| rw_q rfl (ev_move (v := (bl false)) rfl) ?_
   refine rw_gn (s := 13) rfl rfl rfl rfl <| rw_gn (s := 13) rfl rfl rfl rfl <| rw_gn (s := 13) rfl rfl rfl rfl <| rw_gu (s := 16) rfl rfl rfl <| rw_gu (s := 16) rfl rfl rfl <| rw_gu (s := 16) rfl rfl rfl ?_
   refine rw_gu (s := 16) rfl rfl rfl <| rw_gn (s := 13) rfl rfl rfl rfl <| rw_gn (s := 13) rfl rfl rfl rfl <| rw_q rfl (ev_pick_f rfl rfl) <| rw_q rfl (ev_assign (v := (bl false)) rfl) <| rN ?_
   refine CW.abs (fun g => g 0 = (Value.agg #[(Value.string key), v, (bl gn)]) ∧ g 1 = (ptr b1 0) ∧ g 2 = (bl false) ∧ True) ⟨rfl, rfl, rfl, trivial⟩ ?_
   rintro fr8 ⟨s0, s1, s2, _⟩
   refine cw_ret <| fnPost_ret [(bl false)] ⟨s2, trivial⟩ ?_
   exact ⟨congrArg bl (by unfold rightB; rw [right_1 key.size, right_2]; simp only [hb2, Bool.true_and, Bool.false_and, Bool.and_true, Bool.and_false, Bool.true_or, Bool.false_or, Bool.not_true, Bool.not_false]), hm1.toExt⟩

end Go.Proofs.Ytfbnhoolkajebaa
