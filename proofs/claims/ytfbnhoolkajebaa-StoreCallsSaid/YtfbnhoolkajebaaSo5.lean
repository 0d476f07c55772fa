/- Contracts: the document's pairs. Conditions: none beyond those that each theorem states. -/
import Derived.Test.YtfbnhoolkajebaaSo4
namespace Go.Proofs.Ytfbnhoolkajebaa
set_option linter.unusedVariables false
set_option linter.unusedSimpArgs false
attribute [local irreducible] encK recP num2 num4 rightB allR goneB encV encE
set_option maxHeartbeats 2000000 in
theorem c_rright16 (key : ByteArray) (v : Value) (l : List (BitVec 8)) (gn : Bool) (w0 : World)  (hr : Rd (blks w0) u8 v l) (hk : key.size ≤ 1048576) (hl : l.length ≤ 1048576) : CallsR Try.prog 60 #[(Value.agg #[(Value.string key), v, (bl gn)])] w0 (fun r w1 => r = (bl (rightB key.size l.length gn)) ∧ Ext w0 w1) := by
 refine callsR_of_cw (args := [(Value.agg #[(Value.string key), v, (bl gn)])]) Try.func60 rfl Try.ntmps60 Try.results60 rfl ?_
 have hm0 : Mem w0 (restOf w0) [] := Mem.of_world w0
 refine sR <| rw_c rfl (or_boxX (cs := #[(Value.string key), v, (bl gn)]) hm0 rfl) ?_
 rintro _ w1 ⟨b1, rfl, _ew1, hm1⟩
 refine rw_q rfl (ev_assign (v := (bl false)) rfl) ?_
 refine rN (sR ?_)
 refine rw_q rfl (ev_fa (r := 0) uT79 rfl (by first | rfl | omega) ti9 rfl rfl) <| rw_q (v := (Value.string key)) rfl (ev_load1 uT9 rfl rfl hm1.h0 rfl) <| rw_q (v := (i64 (key.size : Int))) rfl (ev_len_str uT9 rfl) <| rw_q rfl (ev_i64_geq (b := 1) rfl rfl) <| rw_q rfl (ev_move (v := (bl (decide (1 ≤ (key.size : Int))))) rfl) ?_
 rcases Bool.eq_false_or_eq_true (decide (1 ≤ (key.size : Int))) with hb2 | hb2
 · -- true
   have hb2p := of_decide_eq_true hb2
   refine rw_gyq (s := 7) rfl rfl hb2 rfl (ev_fa (r := 0) uT79 rfl (by first | rfl | omega) ti9 rfl rfl) <| rw_gyq (s := 7) rfl rfl hb2 rfl (ev_load1 uT9 rfl rfl hm1.h0 rfl) <| rw_gyq (s := 7) rfl rfl hb2 rfl (ev_len_str uT9 rfl) <| rw_gyq (s := 7) rfl rfl hb2 rfl (ev_i64_leq (b := 1000) rfl rfl) <| rw_q rfl (ev_pick_tk rfl hb2 rfl) <| rw_q rfl (ev_move (v := (bl (decide ((key.size : Int) ≤ 1000)))) rfl) ?_
   rcases Bool.eq_false_or_eq_true (decide ((key.size : Int) ≤ 1000)) with hb3 | hb3
   · -- true
     have hb3p := of_decide_eq_true hb3
     refine rw_gyq (s := 13) rfl rfl hb3 rfl (ev_fa (r := 2) uT79 rfl (by first | rfl | omega) ti4 rfl rfl) <| rw_gyq (s := 13) rfl rfl hb3 rfl (ev_load1 uT4 rfl rfl hm1.h0 rfl) <| rw_gyq (s := 13) rfl rfl hb3 rfl (ev_move (v := (bl gn)) rfl) ?_
     rcases Bool.eq_false_or_eq_true gn with hb4 | hb4
     · -- true
       refine rw_gyq (s := 16) rfl rfl hb4 rfl (ev_fa (r := 1) uT79 rfl (by first | rfl | omega) ti23 rfl rfl) <| rw_gyq (s := 16) rfl rfl hb4 rfl (ev_load1 uT23 rfl rfl hm1.h0 rfl) <| rw_gyq (s := 16) rfl rfl hb4 rfl (ev_len_rd (Rd.ofRest hr hm1) uT23 rfl) <| rw_gyq (s := 16) rfl rfl hb4 rfl (ev_i64_gtr (b := 0) rfl rfl) <| rw_gyq (s := 13) rfl rfl hb3 rfl (ev_pick_tk rfl hb4 rfl) <| rw_gyq (s := 13) rfl rfl hb3 rfl (ev_not rfl) ?_
       refine rw_q rfl (ev_pick_tk rfl hb3 rfl) <| rw_q rfl (ev_assign (v := (bl (!(decide (0 < (l.length : Int)))))) rfl) <| rN ?_
       refine CW.abs (fun g => g 0 = (Value.agg #[(Value.string key), v, (bl gn)]) ∧ g 1 = (ptr b1 0) ∧ g 2 = (bl (!(decide (0 < (l.length : Int))))) ∧ True) ⟨rfl, rfl, rfl, trivial⟩ ?_
       rintro fr5 ⟨s0, s1, s2, _⟩
       refine cw_ret <| fnPost_ret [(bl (!(decide (0 < (l.length : Int)))))] ⟨s2, trivial⟩ ?_
       exact ⟨congrArg bl (by unfold rightB; rw [right_1 key.size, right_2]; simp only [hb2, hb3, hb4, Bool.true_and, Bool.false_and, Bool.and_true, Bool.and_false, Bool.true_or, Bool.false_or, Bool.not_true, Bool.not_false]), hm1.toExt⟩
     · -- false
       refine rw_gn (s := 16) rfl rfl hb4 rfl <| rw_gn (s := 16) rfl rfl hb4 rfl <| rw_gn (s := 16) rfl rfl hb4 rfl <| rw_gn (s := 16) rfl rfl hb4 rfl <| rw_gyq (s := 13) rfl rfl hb3 rfl (ev_pick_fk rfl hb4 rfl) <| rw_gyq (s := 13) rfl rfl hb3 rfl (ev_not (b := false) rfl) ?_
       refine rw_q rfl (ev_pick_tk rfl hb3 rfl) <| rw_q rfl (ev_assign (v := (bl true)) rfl) <| rN ?_
       refine CW.abs (fun g => g 0 = (Value.agg #[(Value.string key), v, (bl gn)]) ∧ g 1 = (ptr b1 0) ∧ g 2 = (bl true) ∧ True) ⟨rfl, rfl, rfl, trivial⟩ ?_
       rintro fr6 ⟨s0, s1, s2, _⟩
       refine cw_ret <| fnPost_ret [(bl true)] ⟨s2, trivial⟩ ?_
       exact ⟨congrArg bl (by unfold rightB; rw [right_1 key.size, right_2]; simp only [hb2, hb3, hb4, Bool.true_and, Bool.false_and, Bool.and_true, Bool.and_false, Bool.true_or, Bool.false_or, Bool.not_true, Bool.not_false]), hm1.toExt⟩
   · -- false
     have hb3p := of_decide_eq_false hb3
     refine rw_gn (s := 13) rfl rfl hb3 rfl <| rw_gn (s := 13) rfl rfl hb3 rfl <| rw_gn (s := 13) rfl rfl hb3 rfl <| rw_gu (s := 16) rfl rfl rfl <| rw_gu (s := 16) rfl rfl rfl <| rw_gu (s := 16) rfl rfl rfl ?_
     refine rw_gu (s := 16) rfl rfl rfl <| rw_gn (s := 13) rfl rfl hb3 rfl <| rw_gn (s := 13) rfl rfl hb3 rfl <| rw_q rfl (ev_pick_fk rfl hb3 rfl) <| rw_q rfl (ev_assign (v := (bl false)) rfl) <| rN ?_
     refine CW.abs (fun g => g 0 = (Value.agg #[(Value.string key), v, (bl gn)]) ∧ g 1 = (ptr b1 0) ∧ g 2 = (bl false) ∧ True) ⟨rfl, rfl, rfl, trivial⟩ ?_
     rintro fr7 ⟨s0, s1, s2, _⟩
     refine cw_ret <| fnPost_ret [(bl false)] ⟨s2, trivial⟩ ?_
     exact ⟨congrArg bl (by unfold rightB; rw [right_1 key.size, right_2]; simp only [hb2, hb3, Bool.true_and, Bool.false_and, Bool.and_true, Bool.and_false, Bool.true_or, Bool.false_or, Bool.not_true, Bool.not_false]), hm1.toExt⟩
 · -- false
   have hb2p := of_decide_eq_false hb2
   refine rw_gn (s := 7) rfl rfl hb2 rfl <| rw_gn (s := 7) rfl rfl hb2 rfl <| rw_gn (s := 7) rfl rfl hb2 rfl <| rw_gn (s := 7) rfl rfl hb2 rfl <| rw_q rfl (ev_pick_fk rfl hb2 rfl) <| rw_q rfl (ev_move (v := (bl false)) rfl) ?_
   refine rw_gn (s := 13) rfl rfl rfl rfl <| rw_gn (s := 13) rfl rfl rfl rfl <| rw_gn (s := 13) rfl rfl rfl rfl <| rw_gu (s := 16) rfl rfl rfl <| rw_gu (s := 16) rfl rfl rfl <| rw_gu (s := 16) rfl rfl rfl ?_
   refine rw_gu (s := 16) rfl rfl rfl <| rw_gn (s := 13) rfl rfl rfl rfl <| rw_gn (s := 13) rfl rfl rfl rfl <| rw_q rfl (ev_pick_f rfl rfl) <| rw_q rfl (ev_assign (v := (bl false)) rfl) <| rN ?_
   refine CW.abs (fun g => g 0 = (Value.agg #[(Value.string key), v, (bl gn)]) ∧ g 1 = (ptr b1 0) ∧ g 2 = (bl false) ∧ True) ⟨rfl, rfl, rfl, trivial⟩ ?_
   rintro fr8 ⟨s0, s1, s2, _⟩
   refine cw_ret <| fnPost_ret [(bl false)] ⟨s2, trivial⟩ ?_
   exact ⟨congrArg bl (by unfold rightB; rw [right_1 key.size, right_2]; simp only [hb2, Bool.true_and, Bool.false_and, Bool.and_true, Bool.and_false, Bool.true_or, Bool.false_or, Bool.not_true, Bool.not_false]), hm1.toExt⟩

set_option maxHeartbeats 2000000 in
theorem c_rencode16 (vp : Value) (lp : List PairT) (w0 : World)  (hrp : RdK (blks w0) encP 3 vp lp) (hqp : ∀ a ∈ lp, Rd (blks w0) u8 (slv a.val) a.val.2) (hlp : lp.length ≤ 1048576) (hep : ∀ a ∈ lp, a.key.size ≤ 1048576 ∧ a.val.2.length ≤ 1048576) : CallsR Try.prog 33 #[vp] w0 (fun r w1 => ∃ v Hs, r = .tuple #[v, i64 (encE lp)] ∧ Grow u8 5 v (encV lp) Hs ∧ Mem w1 (restOf w0) Hs) := by
 refine callsR_of_cw (args := [vp]) Try.func33 rfl Try.ntmps33 Try.results33 rfl ?_
 have hm0 : Mem w0 (restOf w0) [] := Mem.of_world w0
 refine sR <| rw_q rfl (ev_assign (v := (Value.slice none 0 0)) rfl) <| rw_q rfl (ev_assign (v := (i64 0)) rfl) ?_
 refine rN (sR ?_)
 refine rw_c rfl (or_buildSlice_cl u8 [] u8_one hm0 uT23 ti5 rfl (by simp [pairs]) rfl) ?_
 rintro _ w1 ⟨b8, rfl, _ew1, hm1⟩
 refine rw_q rfl (ev_assign (v := (slc b8 0 0 0)) rfl) ?_
 refine rN (cw_seq (sR ?_))
 refine rw_q rfl (ev_assign (v := (i64 0)) rfl) ?_
 refine rN (cw_block ?_)
 refine cw_loop (fun g wv => ∃ (k : Nat) (vo : Value) (Ho : List (Nat × Obj)), (k ≤ lp.length) ∧ (allR lp k = true) ∧ ((encK lp k).length ≤ 2097159 * k) ∧ (Grow u8 5 vo (encK lp k) Ho) ∧ g 0 = vp ∧ g 4 = vo ∧ g 5 = (i64 (k : Int)) ∧ Mem wv (restOf w0) (Ho ++ ([]))) (fun g wv => ((lp.length : Int) - RowKit.intOf (g 5)).toNat) ?_ ?_
 · exact ⟨0, (slc b8 0 0 0), [(b8, .cells (cl u8 ([])) 5 (0, 0))], (Nat.zero_le _), allR_0, encK_l0, (Grow.cast (Grow.of u8 5 b8 []) encK_0), rfl, rfl, rfl, (by
   have hT := hm1
   try simp only [List.append_assoc, List.cons_append, List.nil_append, List.append_nil] at hT ⊢
   exact hT)⟩
 · rintro fr2 w3 ⟨k, vo, Ho, hk, har, hol, go, s0, s4, s5, hm3⟩
   have z4 := s4
   have z5 := s5
   refine cw_seq (sR ?_)
   refine rM rfl s5 <| rM rfl s0 <| rw_q (v := (i64 (lp.length : Int))) rfl (ev_len_rk (RdK.ofRest hrp hm3) uT55 rfl) <| rw_q rfl (ev_i64_lss rfl rfl) <| rN ?_
   refine cw_cond rfl (fun hc4 => ?_) (fun hc4 => ?_)
   · -- true
     have hc4p := of_decide_eq_true hc4
     have hek := hep _ (getD_mem (d := pair0) (show k < lp.length by omega))
     refine cw_skip (kThen_normal (cw_seq (cw_block (sR ?_))))
     refine rM rfl s0 <| rM rfl s5 <| rw_q rfl (ev_indexAddr_rk (i := (k : Int)) (RdK.ofRest hrp hm3) uT55 ti79 rfl rfl oM (by first | omega | (simp only [List.length_append, List.length_cons, List.length_nil, bytesL_length, num2_len, num4_len]; omega) | (simp only [List.length_set, List.length_append, List.length_replicate, List.length_map, List.length_cons, List.length_nil]; omega) | (simp; done) | (simp; omega) | decide)) <| rw_q (v := (Value.agg #[(Value.string ((lp.getD k pair0).key)), (slv (lp.getD k pair0).val), (bl ((lp.getD k pair0).gone))])) rfl (ev_load_rkA (i := (k : Int)) (dflt := pair0) (cs := #[(Value.string ((lp.getD k pair0).key)), (slv (lp.getD k pair0).val), (bl ((lp.getD k pair0).gone))]) (RdK.ofRest hrp hm3) (by first | omega | (simp only [List.length_append, List.length_cons, List.length_nil, bytesL_length, num2_len, num4_len]; omega) | (simp only [List.length_set, List.length_append, List.length_replicate, List.length_map, List.length_cons, List.length_nil]; omega) | (simp; done) | (simp; omega) | decide) uT79 rfl ti79 rfl rfl (by decide) rfl) <| rw_c rfl (or_allocX hm3 ti79) ?_
     rintro _ w5 ⟨b6, rfl, _ew5, hm5⟩
     refine rw_n (or_storeW (cs := #[(Value.string ((lp.getD k pair0).key)), (slv (lp.getD k pair0).val), (bl ((lp.getD k pair0).gone))]) ti79 rfl rfl (by kernel_rfl) (one_arr (one_cons rfl (one_cons rfl (one_cons rfl one_nil)))) hm5.h0 (by kernel_rfl) rfl) ?_
     rintro _ w6 uq6
     have hm6 : Mem w6 (restOf w0) ([(b6, .cells #[(Value.string ((lp.getD k pair0).key)), (slv (lp.getD k pair0).val), (bl ((lp.getD k pair0).gone))] 79 (0, 0))] ++ (Ho ++ ([]))) := hm5.upd0 uq6
     refine rN (cw_seq (sR ?_))
     refine rw_q (v := (Value.agg #[(Value.string ((lp.getD k pair0).key)), (slv (lp.getD k pair0).val), (bl ((lp.getD k pair0).gone))])) rfl (ev_loadW uT79 rfl ti79 rfl hm6.h0 (by kernel_rfl)) <| rw_c rfl (opR_call Try.func60 bd60 nm60 (args1 rfl) (c_rright16 ((lp.getD k pair0).key) (slv (lp.getD k pair0).val) ((lp.getD k pair0).val.2) ((lp.getD k pair0).gone) _ (Rd.ofRest (rdQ PairT.val hqp (k := k) sD) hm6) (by first | omega | (simp only [List.length_append, List.length_cons, List.length_nil, bytesL_length, num2_len, num4_len]; omega) | (simp only [List.length_set, List.length_append, List.length_replicate, List.length_map, List.length_cons, List.length_nil]; omega) | (simp; done) | (simp; omega) | decide) (by first | omega | (simp only [List.length_append, List.length_cons, List.length_nil, bytesL_length, num2_len, num4_len]; omega) | (simp only [List.length_set, List.length_append, List.length_replicate, List.length_map, List.length_cons, List.length_nil]; omega) | (simp; done) | (simp; omega) | decide))) ?_
     rintro _ w7 ⟨rfl, _ew7⟩
     have hm7 := hm6.ext _ew7
     refine rw_q rfl (ev_not rfl) <| rN ?_
     refine cw_cond rfl (fun hc9 => ?_) (fun hc9 => ?_)
     · -- true
       have hc9n : (rightB ((lp.getD k pair0).key).size ((lp.getD k pair0).val.2).length ((lp.getD k pair0).gone)) = false := by simpa using hc9
       refine sR <| rw_q rfl (ev_assign (v := (Value.slice none 0 0)) rfl) <| rw_q rfl (ev_assign (v := (i64 1)) rfl) ?_
       refine rN (cw_ret ?_)
       refine kThen_ret (kBlk_ret (kThen_ret (kBlk_ret ?_)))
       refine fnPost_ret [(Value.slice none 0 0), (i64 1)] ⟨rfl, rfl, trivial⟩ ?_
       have hm10 := Mem.drop ([(b6, .cells #[(Value.string ((lp.getD k pair0).key)), (slv (lp.getD k pair0).val), (bl ((lp.getD k pair0).gone))] 79 (0, 0))]) _ hm7
       have hm11 := Mem.drop Ho _ hm10
       have hno := enc_no (allR_no (k := k) oM (show rightP (lp.getD k pair0) = false by simpa [rightP] using hc9))
       rw [hno.1, hno.2]
       exact ⟨_, [], rfl, Grow.none u8 5, hm11⟩
     · -- false
       have hc9n : (rightB ((lp.getD k pair0).key).size ((lp.getD k pair0).val.2).length ((lp.getD k pair0).gone)) = true := by simpa using hc9
       have hrl := recP_len (g := (lp.getD k pair0).gone) (k := (lp.getD k pair0).key) (v := (lp.getD k pair0).val.2)
       refine cw_skip (kThen_normal (cw_seq (sR ?_)))
       refine rw_q rfl (ev_fa (r := 2) uT79 rfl (by first | rfl | omega) ti4 rfl rfl) <| rw_q (v := (bl ((lp.getD k pair0).gone))) rfl (ev_load1 uT4 rfl rfl hm7.h0 rfl) <| rN ?_
       refine cw_meet (J := fun g wv => ∃ (vj : Value) (Hj : List (Nat × Obj)), (Grow u8 5 vj (encK lp k ++ [goneB (lp.getD k pair0).gone]) Hj) ∧ g 0 = vp ∧ g 4 = vj ∧ g 5 = (i64 (k : Int)) ∧ g 6 = (ptr b6 0) ∧ g 12 = (bl (decide ((k : Int) < (lp.length : Int)))) ∧ g 21 = (bl (!(rightB ((lp.getD k pair0).key).size ((lp.getD k pair0).val.2).length ((lp.getD k pair0).gone)))) ∧ g 23 = (bl ((lp.getD k pair0).gone)) ∧ Mem wv (restOf w0) (Hj ++ ([(b6, .cells #[(Value.string ((lp.getD k pair0).key)), (slv (lp.getD k pair0).val), (bl ((lp.getD k pair0).gone))] 79 (0, 0))]))) ?_ ?_
       · skip
         refine cw_cond rfl (fun hc12 => ?_) (fun hc12 => ?_)
         · -- true
           refine cw_region <| rM rfl s4 <| rw_c rfl (or_buildSlice_cl u8 [1#8] u8_one hm7 uT23 ti5 rfl rfl rfl) ?_
           rintro _ w13 ⟨b25, rfl, _ew13, hm13⟩
           refine rw_c rfl (or_append (f := u8) (Hs := Ho) (H := [(b25, .cells (cl u8 ([1#8])) 5 (0, 0)), (b6, .cells #[(Value.string ((lp.getD k pair0).key)), (slv (lp.getD k pair0).val), (bl ((lp.getD k pair0).gone))] 79 (0, 0))]) (Mem.pick [_, _] Ho _ hm13) go rfl rfl (Rd.mkA hm13.h0) uT23 uT23 ti5 rfl u8_one (by first | omega | (simp only [List.length_append, List.length_cons, List.length_nil, bytesL_length, num2_len, num4_len]; omega) | (simp only [List.length_set, List.length_append, List.length_replicate, List.length_map, List.length_cons, List.length_nil]; omega) | (simp; done) | (simp; omega) | decide) (by first | omega | (simp only [List.length_append, List.length_cons, List.length_nil, bytesL_length, num2_len, num4_len]; omega) | (simp only [List.length_set, List.length_append, List.length_replicate, List.length_map, List.length_cons, List.length_nil]; omega) | (simp; done) | (simp; omega) | decide)) ?_
           rintro sv14 w14 ⟨Hs14, hm14, g14⟩
           replace g14 : Grow u8 5 sv14 ((encK lp k) ++ ([1#8])) Hs14 := g14
           refine rA rfl (v := sv14) rfl <| rN ?_
           have hm15 := Mem.drop ([(b25, .cells (cl u8 ([1#8])) 5 (0, 0))]) _ (Mem.pick Hs14 [_] _ hm14)
           exact ⟨sv14, Hs14, (Grow.cast g14 (by rw [← goneB_t hc12])), s0, rfl, s5, rfl, rfl, rfl, rfl, (by
             have hT := hm15
             try simp only [List.append_assoc, List.cons_append, List.nil_append, List.append_nil] at hT ⊢
             exact hT)⟩
         · -- false
           refine cw_region <| rM rfl s4 <| rw_c rfl (or_buildSlice_cl u8 [0#8] u8_one hm7 uT23 ti5 rfl rfl rfl) ?_
           rintro _ w16 ⟨b28, rfl, _ew16, hm16⟩
           refine rw_c rfl (or_append (f := u8) (Hs := Ho) (H := [(b28, .cells (cl u8 ([0#8])) 5 (0, 0)), (b6, .cells #[(Value.string ((lp.getD k pair0).key)), (slv (lp.getD k pair0).val), (bl ((lp.getD k pair0).gone))] 79 (0, 0))]) (Mem.pick [_, _] Ho _ hm16) go rfl rfl (Rd.mkA hm16.h0) uT23 uT23 ti5 rfl u8_one (by first | omega | (simp only [List.length_append, List.length_cons, List.length_nil, bytesL_length, num2_len, num4_len]; omega) | (simp only [List.length_set, List.length_append, List.length_replicate, List.length_map, List.length_cons, List.length_nil]; omega) | (simp; done) | (simp; omega) | decide) (by first | omega | (simp only [List.length_append, List.length_cons, List.length_nil, bytesL_length, num2_len, num4_len]; omega) | (simp only [List.length_set, List.length_append, List.length_replicate, List.length_map, List.length_cons, List.length_nil]; omega) | (simp; done) | (simp; omega) | decide)) ?_
           rintro sv17 w17 ⟨Hs17, hm17, g17⟩
           replace g17 : Grow u8 5 sv17 ((encK lp k) ++ ([0#8])) Hs17 := g17
           refine rA rfl (v := sv17) rfl <| rN ?_
           have hm18 := Mem.drop ([(b28, .cells (cl u8 ([0#8])) 5 (0, 0))]) _ (Mem.pick Hs17 [_] _ hm17)
           exact ⟨sv17, Hs17, (Grow.cast g17 (by rw [← goneB_f hc12])), s0, rfl, s5, rfl, rfl, rfl, rfl, (by
             have hT := hm18
             try simp only [List.append_assoc, List.cons_append, List.nil_append, List.append_nil] at hT ⊢
             exact hT)⟩
       · rintro fr19 w20 ⟨vj, Hj, gj, s0, s4, s5, s6, s12, s21, s23, hm20⟩
         refine sR <| rM rfl s4 <| rw_q rfl (ev_fa (r := 0) uT79 rfl (by first | rfl | omega) ti9 rfl s6) <| rw_q (v := (Value.string ((lp.getD k pair0).key))) rfl (ev_load1 uT9 rfl rfl ((Mem.pick Hj [_] _ hm20)).h0 rfl) <| rw_q (v := (i64 (((lp.getD k pair0).key).size : Int))) rfl (ev_len_str uT9 rfl) <| rw_q rfl (ev_i64_shrK (p := 256) (b := 8) rfl rfl rfl (by decide) (by decide)) ?_
         refine rw_q rfl (ev_conv_i64_u8 ⟨_, uT3⟩ uT5 rfl) <| rw_q rfl (ev_fa (r := 0) uT79 rfl (by first | rfl | omega) ti9 rfl s6) <| rw_q (v := (Value.string ((lp.getD k pair0).key))) rfl (ev_load1 uT9 rfl rfl ((Mem.pick Hj [_] _ hm20)).h0 rfl) <| rw_q (v := (i64 (((lp.getD k pair0).key).size : Int))) rfl (ev_len_str uT9 rfl) <| rw_q rfl (ev_conv_i64_u8 ⟨_, uT3⟩ uT5 rfl) <| rw_c rfl (or_buildSlice_cl u8 [BitVec.ofInt 8 ((((lp.getD k pair0).key).size : Int) / 256), BitVec.ofInt 8 (((lp.getD k pair0).key).size : Int)] u8_one hm20 uT23 ti5 rfl rfl rfl) ?_
         rintro _ w21 ⟨b40, rfl, _ew21, hm21⟩
         refine rw_c rfl (or_append (f := u8) (Hs := Hj) (H := [(b40, .cells (cl u8 ([BitVec.ofInt 8 ((((lp.getD k pair0).key).size : Int) / 256), BitVec.ofInt 8 (((lp.getD k pair0).key).size : Int)])) 5 (0, 0)), (b6, .cells #[(Value.string ((lp.getD k pair0).key)), (slv (lp.getD k pair0).val), (bl ((lp.getD k pair0).gone))] 79 (0, 0))]) (Mem.pick [_] Hj _ hm21) gj rfl rfl (Rd.mkA hm21.h0) uT23 uT23 ti5 rfl u8_one (by first | omega | (simp only [List.length_append, List.length_cons, List.length_nil, bytesL_length, num2_len, num4_len]; omega) | (simp only [List.length_set, List.length_append, List.length_replicate, List.length_map, List.length_cons, List.length_nil]; omega) | (simp; done) | (simp; omega) | decide) (by first | omega | (simp only [List.length_append, List.length_cons, List.length_nil, bytesL_length, num2_len, num4_len]; omega) | (simp only [List.length_set, List.length_append, List.length_replicate, List.length_map, List.length_cons, List.length_nil]; omega) | (simp; done) | (simp; omega) | decide)) ?_
         rintro sv22 w22 ⟨Hs22, hm22, g22⟩
         replace g22 : Grow u8 5 sv22 ((encK lp k ++ [goneB (lp.getD k pair0).gone]) ++ ([BitVec.ofInt 8 ((((lp.getD k pair0).key).size : Int) / 256), BitVec.ofInt 8 (((lp.getD k pair0).key).size : Int)])) Hs22 := g22
         refine rA rfl (v := sv22) rfl ?_
         refine rN (sR ?_)
         refine rM rfl (v := sv22) rfl <| rw_q rfl (ev_fa (r := 0) uT79 rfl (by first | rfl | omega) ti9 rfl s6) <| rw_q (v := (Value.string ((lp.getD k pair0).key))) rfl (ev_load1 uT9 rfl rfl ((Mem.pick2 Hs22 [_] [_] _ hm22)).h0 rfl) <| rw_c rfl (or_appendS (f := u8) (ms := (bytesL ((lp.getD k pair0).key))) (Hs := Hs22) (H := [(b40, .cells (cl u8 ([BitVec.ofInt 8 ((((lp.getD k pair0).key).size : Int) / 256), BitVec.ofInt 8 (((lp.getD k pair0).key).size : Int)])) 5 (0, 0)), (b6, .cells #[(Value.string ((lp.getD k pair0).key)), (slv (lp.getD k pair0).val), (bl ((lp.getD k pair0).gone))] 79 (0, 0))]) hm22 g22 rfl rfl (fun w => str_run w) uT23 uT9 ti5 rfl u8_one (by first | omega | (simp only [List.length_append, List.length_cons, List.length_nil, bytesL_length, num2_len, num4_len]; omega) | (simp only [List.length_set, List.length_append, List.length_replicate, List.length_map, List.length_cons, List.length_nil]; omega) | (simp; done) | (simp; omega) | decide) (by first | omega | (simp only [List.length_append, List.length_cons, List.length_nil, bytesL_length, num2_len, num4_len]; omega) | (simp only [List.length_set, List.length_append, List.length_replicate, List.length_map, List.length_cons, List.length_nil]; omega) | (simp; done) | (simp; omega) | decide)) ?_
         rintro sv23 w23 ⟨Hs23, hm23, g23⟩
         replace g23 : Grow u8 5 sv23 (((encK lp k ++ [goneB (lp.getD k pair0).gone]) ++ ([BitVec.ofInt 8 ((((lp.getD k pair0).key).size : Int) / 256), BitVec.ofInt 8 (((lp.getD k pair0).key).size : Int)])) ++ (bytesL ((lp.getD k pair0).key))) Hs23 := g23
         refine rA rfl (v := sv23) rfl <| rN ?_
         have hm24 := Mem.drop ([(b40, .cells (cl u8 ([BitVec.ofInt 8 ((((lp.getD k pair0).key).size : Int) / 256), BitVec.ofInt 8 (((lp.getD k pair0).key).size : Int)])) 5 (0, 0))]) _ (Mem.pick Hs23 [_] _ hm23)
         refine CW.abs (fun g => g 0 = vp ∧ g 4 = sv23 ∧ g 5 = (i64 (k : Int)) ∧ g 6 = (ptr b6 0) ∧ g 12 = (bl (decide ((k : Int) < (lp.length : Int)))) ∧ g 21 = (bl (!(rightB ((lp.getD k pair0).key).size ((lp.getD k pair0).val.2).length ((lp.getD k pair0).gone)))) ∧ g 23 = (bl ((lp.getD k pair0).gone)) ∧ True) ⟨s0, rfl, s5, s6, s12, s21, s23, trivial⟩ ?_
         rintro fr25 ⟨s0, s4, s5, s6, s12, s21, s23, _⟩
         refine sR <| rw_q rfl (ev_fa (r := 1) uT79 rfl (by first | rfl | omega) ti23 rfl s6) <| rw_q (v := (slv (lp.getD k pair0).val)) rfl (ev_load1 uT23 rfl rfl ((Mem.pick Hs23 [_] _ hm24)).h0 rfl) <| rw_q (v := (i64 (((lp.getD k pair0).val.2).length : Int))) rfl (ev_len_rd (Rd.ofRest (rdQ PairT.val hqp (k := k) sD) hm24) uT23 rfl) <| rw_q rfl (ev_assign (v := (i64 (((lp.getD k pair0).val.2).length : Int))) rfl) ?_
         refine rN (sR ?_)
         refine rM rfl s4 <| rw_q rfl (ev_move (v := (i64 (((lp.getD k pair0).val.2).length : Int))) rfl) <| rw_q rfl (ev_i64_shrK (p := 16777216) (b := 24) rfl rfl rfl (by decide) (by decide)) <| rw_q rfl (ev_conv_i64_u8 ⟨_, uT3⟩ uT5 rfl) <| rw_q rfl (ev_move (v := (i64 (((lp.getD k pair0).val.2).length : Int))) rfl) <| rw_q rfl (ev_i64_shrK (p := 65536) (b := 16) rfl rfl rfl (by decide) (by decide)) ?_
         refine rw_q rfl (ev_conv_i64_u8 ⟨_, uT3⟩ uT5 rfl) <| rw_q rfl (ev_move (v := (i64 (((lp.getD k pair0).val.2).length : Int))) rfl) <| rw_q rfl (ev_i64_shrK (p := 256) (b := 8) rfl rfl rfl (by decide) (by decide)) <| rw_q rfl (ev_conv_i64_u8 ⟨_, uT3⟩ uT5 rfl) <| rw_q rfl (ev_move (v := (i64 (((lp.getD k pair0).val.2).length : Int))) rfl) <| rw_q rfl (ev_conv_i64_u8 ⟨_, uT3⟩ uT5 rfl) ?_
         refine rw_c rfl (or_buildSlice_cl u8 [BitVec.ofInt 8 ((((lp.getD k pair0).val.2).length : Int) / 16777216), BitVec.ofInt 8 ((((lp.getD k pair0).val.2).length : Int) / 65536), BitVec.ofInt 8 ((((lp.getD k pair0).val.2).length : Int) / 256), BitVec.ofInt 8 (((lp.getD k pair0).val.2).length : Int)] u8_one hm24 uT23 ti5 rfl rfl rfl) ?_
         rintro _ w26 ⟨b61, rfl, _ew26, hm26⟩
         refine rw_c rfl (or_append (f := u8) (Hs := Hs23) (H := [(b61, .cells (cl u8 ([BitVec.ofInt 8 ((((lp.getD k pair0).val.2).length : Int) / 16777216), BitVec.ofInt 8 ((((lp.getD k pair0).val.2).length : Int) / 65536), BitVec.ofInt 8 ((((lp.getD k pair0).val.2).length : Int) / 256), BitVec.ofInt 8 (((lp.getD k pair0).val.2).length : Int)])) 5 (0, 0)), (b6, .cells #[(Value.string ((lp.getD k pair0).key)), (slv (lp.getD k pair0).val), (bl ((lp.getD k pair0).gone))] 79 (0, 0))]) (Mem.pick [_] Hs23 _ hm26) g23 rfl rfl (Rd.mkA hm26.h0) uT23 uT23 ti5 rfl u8_one (by first | omega | (simp only [List.length_append, List.length_cons, List.length_nil, bytesL_length, num2_len, num4_len]; omega) | (simp only [List.length_set, List.length_append, List.length_replicate, List.length_map, List.length_cons, List.length_nil]; omega) | (simp; done) | (simp; omega) | decide) (by first | omega | (simp only [List.length_append, List.length_cons, List.length_nil, bytesL_length, num2_len, num4_len]; omega) | (simp only [List.length_set, List.length_append, List.length_replicate, List.length_map, List.length_cons, List.length_nil]; omega) | (simp; done) | (simp; omega) | decide)) ?_
         rintro sv27 w27 ⟨Hs27, hm27, g27⟩
         replace g27 : Grow u8 5 sv27 ((((encK lp k ++ [goneB (lp.getD k pair0).gone]) ++ ([BitVec.ofInt 8 ((((lp.getD k pair0).key).size : Int) / 256), BitVec.ofInt 8 (((lp.getD k pair0).key).size : Int)])) ++ (bytesL ((lp.getD k pair0).key))) ++ ([BitVec.ofInt 8 ((((lp.getD k pair0).val.2).length : Int) / 16777216), BitVec.ofInt 8 ((((lp.getD k pair0).val.2).length : Int) / 65536), BitVec.ofInt 8 ((((lp.getD k pair0).val.2).length : Int) / 256), BitVec.ofInt 8 (((lp.getD k pair0).val.2).length : Int)])) Hs27 := g27
         refine rA rfl (v := sv27) rfl <| rN ?_
         have hm28 := Mem.drop ([(b61, .cells (cl u8 ([BitVec.ofInt 8 ((((lp.getD k pair0).val.2).length : Int) / 16777216), BitVec.ofInt 8 ((((lp.getD k pair0).val.2).length : Int) / 65536), BitVec.ofInt 8 ((((lp.getD k pair0).val.2).length : Int) / 256), BitVec.ofInt 8 (((lp.getD k pair0).val.2).length : Int)])) 5 (0, 0))]) _ (Mem.pick Hs27 [_] _ hm27)
         refine CW.abs (fun g => g 0 = vp ∧ g 4 = sv27 ∧ g 5 = (i64 (k : Int)) ∧ g 6 = (ptr b6 0) ∧ g 7 = (i64 (((lp.getD k pair0).val.2).length : Int)) ∧ g 12 = (bl (decide ((k : Int) < (lp.length : Int)))) ∧ g 21 = (bl (!(rightB ((lp.getD k pair0).key).size ((lp.getD k pair0).val.2).length ((lp.getD k pair0).gone)))) ∧ g 23 = (bl ((lp.getD k pair0).gone)) ∧ True) ⟨s0, rfl, s5, s6, rfl, s12, s21, s23, trivial⟩ ?_
         rintro fr29 ⟨s0, s4, s5, s6, s7, s12, s21, s23, _⟩
         refine cw_region <| rM rfl s4 <| rw_q rfl (ev_fa (r := 1) uT79 rfl (by first | rfl | omega) ti23 rfl s6) <| rw_q (v := (slv (lp.getD k pair0).val)) rfl (ev_load1 uT23 rfl rfl ((Mem.pick Hs27 [_] _ hm28)).h0 rfl) <| rw_c rfl (or_append (f := u8) (Hs := Hs27) (H := [(b6, .cells #[(Value.string ((lp.getD k pair0).key)), (slv (lp.getD k pair0).val), (bl ((lp.getD k pair0).gone))] 79 (0, 0))]) hm28 g27 rfl rfl (Rd.ofRest (rdQ PairT.val hqp (k := k) sD) hm28) uT23 uT23 ti5 rfl u8_one (by first | omega | (simp only [List.length_append, List.length_cons, List.length_nil, bytesL_length, num2_len, num4_len]; omega) | (simp only [List.length_set, List.length_append, List.length_replicate, List.length_map, List.length_cons, List.length_nil]; omega) | (simp; done) | (simp; omega) | decide) (by first | omega | (simp only [List.length_append, List.length_cons, List.length_nil, bytesL_length, num2_len, num4_len]; omega) | (simp only [List.length_set, List.length_append, List.length_replicate, List.length_map, List.length_cons, List.length_nil]; omega) | (simp; done) | (simp; omega) | decide)) ?_
         rintro sv30 w30 ⟨Hs30, hm30, g30⟩
         replace g30 : Grow u8 5 sv30 (((((encK lp k ++ [goneB (lp.getD k pair0).gone]) ++ ([BitVec.ofInt 8 ((((lp.getD k pair0).key).size : Int) / 256), BitVec.ofInt 8 (((lp.getD k pair0).key).size : Int)])) ++ (bytesL ((lp.getD k pair0).key))) ++ ([BitVec.ofInt 8 ((((lp.getD k pair0).val.2).length : Int) / 16777216), BitVec.ofInt 8 ((((lp.getD k pair0).val.2).length : Int) / 65536), BitVec.ofInt 8 ((((lp.getD k pair0).val.2).length : Int) / 256), BitVec.ofInt 8 (((lp.getD k pair0).val.2).length : Int)])) ++ ((lp.getD k pair0).val.2)) Hs30 := g30
         refine rA rfl (v := sv30) rfl ?_
         refine rw_nil (kBlk_normal (cw_region ?_))
         refine rM rfl s5 <| rw_q rfl (ev_i64_add (b := 1) rfl rfl oM oM) <| rw_q rfl (ev_assign (v := (i64 ((k : Int) + 1))) rfl) <| rN ?_
         have hm31 := Mem.drop ([(b6, .cells #[(Value.string ((lp.getD k pair0).key)), (slv (lp.getD k pair0).val), (bl ((lp.getD k pair0).gone))] 79 (0, 0))]) _ (Mem.pick Hs30 [_] _ hm30)
         exact ⟨⟨(k + 1), sv30, Hs30, oM, (by rw [allR_S oM, har]; simpa [rightP] using hc9), (by rw [← encK_S, List.length_append, hrl]; omega), (Grow.cast g30 (by rw [← encK_S]; unfold recP num2 num4; simp only [List.append_assoc])), s0, rfl, rfl, hm31⟩, meas (rfl) z5 oM oM⟩
   · -- false
     have hc4p := of_decide_eq_false hc4
     refine cw_exit ?_
     refine kThen_exit (kThen_exit (kBlk_hit ?_))
     refine sR <| rM rfl s4 <| rA rfl (v := vo) rfl <| rw_q rfl (ev_assign (v := (i64 0)) rfl) ?_
     refine rN (cw_ret ?_)
     refine fnPost_ret [vo, (i64 0)] ⟨rfl, rfl, trivial⟩ ?_
     have hkl : k = lp.length := by omega
     have hye := enc_yes (hkl ▸ har)
     rw [hye.1, hye.2, ← hkl]
     exact ⟨_, Ho, rfl, go, by simpa using hm3⟩

set_option maxHeartbeats 2000000 in
theorem c_great16 (vp : Value) (lp : List PairT) (w0 : World)  (hrp : RdK (blks w0) encP 3 vp lp) (hqp : ∀ a ∈ lp, Rd (blks w0) u8 (slv a.val) a.val.2) (hlp : lp.length ≤ 9223372036854775807) (hep : ∀ a ∈ lp, a.key.size ≤ 9223372036854775807 ∧ a.val.2.length ≤ 9223372036854775807) : CallsR Try.prog 31 #[vp] w0 (fun r w1 => ∃ gx : Bool, r = bl gx ∧ (gx = false → lp.length ≤ 20 ∧ ∀ i, i < lp.length → (lp.getD i pair0).key.size ≤ 1100 ∧ (lp.getD i pair0).val.2.length ≤ 2000) ∧ Mem w1 (restOf w0) []) := by
 refine callsR_of_cw (args := [vp]) Try.func31 rfl Try.ntmps31 Try.results31 rfl ?_
 have hm0 : Mem w0 (restOf w0) [] := Mem.of_world w0
 refine sR <| rw_q rfl (ev_assign (v := (bl false)) rfl) ?_
 refine rN (cw_seq (sR ?_))
 refine rM rfl (v := vp) rfl <| rw_q (v := (i64 (lp.length : Int))) rfl (ev_len_rk (RdK.ofRest hrp hm0) uT55 rfl) <| rw_q rfl (ev_i64_gtr (b := 20) rfl rfl) <| rN ?_
 refine cw_cond rfl (fun hc1 => ?_) (fun hc1 => ?_)
 · -- true
   have hc1p := of_decide_eq_true hc1
   refine sR <| rw_q rfl (ev_assign (v := (bl true)) rfl) ?_
   refine rN (cw_ret (kThen_ret ?_))
   refine fnPost_ret [(bl true)] ⟨rfl, trivial⟩ ?_
   exact ⟨true, rfl, (fun h => by cases h), hm0⟩
 · -- false
   have hc1p := of_decide_eq_false hc1
   refine cw_skip (kThen_normal (cw_seq (sR ?_)))
   refine rM rfl (v := vp) rfl <| rw_q (v := (i64 (lp.length : Int))) rfl (ev_len_rk (RdK.ofRest hrp hm0) uT55 rfl) <| rw_q rfl (ev_move (v := (i64 0)) rfl) ?_
   refine rN (cw_block ?_)
   refine cw_loop (fun g wv => ∃ (k : Nat), (k ≤ lp.length) ∧ (∀ i, i < k → (lp.getD i pair0).key.size ≤ 1100 ∧ (lp.getD i pair0).val.2.length ≤ 2000) ∧ g 0 = vp ∧ g 7 = (bl (decide (20 < (lp.length : Int)))) ∧ g 8 = vp ∧ g 9 = (i64 (lp.length : Int)) ∧ g 10 = (i64 (k : Int)) ∧ Mem wv (restOf w0) []) (fun g wv => ((lp.length : Int) - RowKit.intOf (g 10)).toNat) ?_ ?_
   · exact ⟨0, (Nat.zero_le _), (fun i hi => by omega), rfl, rfl, rfl, rfl, rfl, hm0⟩
   · rintro fr2 w3 ⟨k, hk, hsm, s0, s7, s8, s9, s10, hm3⟩
     have z10 := s10
     refine sR <| rw_q rfl (ev_i64_lss s10 s9) ?_
     refine rN (cw_seq ?_)
     refine cw_cond rfl (fun hc4 => ?_) (fun hc4 => ?_)
     · -- true
       have hc4p := of_decide_eq_true hc4
       have hqk := hep _ (getD_mem (d := pair0) (show k < lp.length by omega))
       refine cw_skip (kThen_normal (cw_seq (cw_block (sR ?_))))
       refine rw_q rfl (ev_indexAddr_rk (i := (k : Int)) (RdK.ofRest hrp hm3) uT55 ti79 s8 s10 oM sL) <| rw_q (v := (Value.agg #[(Value.string ((lp.getD k pair0).key)), (slv (lp.getD k pair0).val), (bl ((lp.getD k pair0).gone))])) rfl (ev_load_rkA (i := (k : Int)) (dflt := pair0) (cs := #[(Value.string ((lp.getD k pair0).key)), (slv (lp.getD k pair0).val), (bl ((lp.getD k pair0).gone))]) (RdK.ofRest hrp hm3) sL uT79 rfl ti79 rfl rfl (by decide) rfl) <| rw_c rfl (or_allocX hm3 ti79) ?_
       rintro _ w5 ⟨b4, rfl, _ew5, hm5⟩
       refine rw_n (or_storeW (cs := #[(Value.string ((lp.getD k pair0).key)), (slv (lp.getD k pair0).val), (bl ((lp.getD k pair0).gone))]) ti79 rfl rfl (by kernel_rfl) (one_arr (one_cons rfl (one_cons rfl (one_cons rfl one_nil)))) hm5.h0 (by kernel_rfl) rfl) ?_
       rintro _ w6 uq6
       have hm6 : Mem w6 (restOf w0) [(b4, .cells #[(Value.string ((lp.getD k pair0).key)), (slv (lp.getD k pair0).val), (bl ((lp.getD k pair0).gone))] 79 (0, 0))] := hm5.upd0 uq6
       refine rN (sR ?_)
       refine rw_q rfl (ev_fa (r := 0) uT79 rfl (by first | rfl | omega) ti9 rfl rfl) <| rw_q (v := (Value.string ((lp.getD k pair0).key))) rfl (ev_load1 uT9 rfl rfl hm6.h0 rfl) <| rw_q (v := (i64 (((lp.getD k pair0).key).size : Int))) rfl (ev_len_str uT9 rfl) <| rw_q rfl (ev_i64_gtr (b := 1100) rfl rfl) <| rw_q rfl (ev_move (v := (bl (decide (1100 < (((lp.getD k pair0).key).size : Int))))) rfl) ?_
       rcases Bool.eq_false_or_eq_true (decide (1100 < (((lp.getD k pair0).key).size : Int))) with hb7 | hb7
       · -- true
         have hb7p := of_decide_eq_true hb7
         refine rw_gn (s := 18) rfl rfl hb7 rfl <| rw_gn (s := 18) rfl rfl hb7 rfl <| rw_gn (s := 18) rfl rfl hb7 rfl <| rw_gn (s := 18) rfl rfl hb7 rfl <| rw_q rfl (ev_pick_tk rfl hb7 rfl) <| rN ?_
         refine cw_cond_t rfl (by decide) <| sR <| rw_q rfl (ev_assign (v := (bl true)) rfl) ?_
         refine rN (cw_ret ?_)
         refine kBlk_ret (kThen_ret (kBlk_ret ?_))
         refine fnPost_ret [(bl true)] ⟨rfl, trivial⟩ ?_
         have hm8 := Mem.drop ([(b4, .cells #[(Value.string ((lp.getD k pair0).key)), (slv (lp.getD k pair0).val), (bl ((lp.getD k pair0).gone))] 79 (0, 0))]) _ hm6
         exact ⟨true, rfl, (fun h => by cases h), hm8⟩
       · -- false
         have hb7p := of_decide_eq_false hb7
         refine rw_gyq (s := 18) rfl rfl hb7 rfl (ev_fa (r := 1) uT79 rfl (by first | rfl | omega) ti23 rfl rfl) <| rw_gyq (s := 18) rfl rfl hb7 rfl (ev_load1 uT23 rfl rfl hm6.h0 rfl) <| rw_gyq (s := 18) rfl rfl hb7 rfl (ev_len_rd (Rd.ofRest (rdQ PairT.val hqp (k := k) sD) hm6) uT23 rfl) <| rw_gyq (s := 18) rfl rfl hb7 rfl (ev_i64_gtr (b := 2000) rfl rfl) <| rw_q rfl (ev_pick_fk rfl hb7 rfl) <| rN ?_
         refine cw_cond rfl (fun hc9 => ?_) (fun hc9 => ?_)
         · -- true
           have hc9p := of_decide_eq_true hc9
           refine sR <| rw_q rfl (ev_assign (v := (bl true)) rfl) ?_
           refine rN (cw_ret ?_)
           refine kBlk_ret (kThen_ret (kBlk_ret ?_))
           refine fnPost_ret [(bl true)] ⟨rfl, trivial⟩ ?_
           have hm10 := Mem.drop ([(b4, .cells #[(Value.string ((lp.getD k pair0).key)), (slv (lp.getD k pair0).val), (bl ((lp.getD k pair0).gone))] 79 (0, 0))]) _ hm6
           exact ⟨true, rfl, (fun h => by cases h), hm10⟩
         · -- false
           have hc9p := of_decide_eq_false hc9
           refine cw_skip (kBlk_normal (cw_region ?_))
           refine rw_q rfl (ev_i64_add (b := 1) s10 rfl oM oM) <| rw_q rfl (ev_move (v := (i64 ((k : Int) + 1))) rfl) <| rN ?_
           have hm11 := Mem.drop ([(b4, .cells #[(Value.string ((lp.getD k pair0).key)), (slv (lp.getD k pair0).val), (bl ((lp.getD k pair0).gone))] 79 (0, 0))]) _ hm6
           exact ⟨⟨(k + 1), oM, (smallP_step hsm oM), s0, s7, s8, s9, rfl, hm11⟩, meas (rfl) z10 oM oM⟩
     · -- false
       have hc4p := of_decide_eq_false hc4
       refine cw_exit ?_
       refine kThen_exit (kThen_exit (kBlk_hit ?_))
       refine sR <| rw_q rfl (ev_assign (v := (bl false)) rfl) ?_
       refine rN (cw_ret ?_)
       refine fnPost_ret [(bl false)] ⟨rfl, trivial⟩ ?_
       exact ⟨false, rfl, fun _ => ⟨by omega, fun i hi => hsm i oM⟩, hm3⟩


end Go.Proofs.Ytfbnhoolkajebaa
