/- Contract: pairs as bytes. Conditions: none beyond those that each theorem states. -/
import Derived.Test.YtfbnhoolkajebaaSo1
namespace Go.Proofs.Ytfbnhoolkajebaa
set_option linter.unusedVariables false
set_option linter.unusedSimpArgs false
attribute [local irreducible] encK recP num2 num4 rightB allR goneB encV encE
set_option maxHeartbeats 2000000 in
theorem c_sencode (vp : Value) (lp : List PairT) (w0 : World)  (hrp : RdK (blks w0) encP 3 vp lp) (hqp : ∀ a ∈ lp, Rd (blks w0) u8 (slv a.val) a.val.2) (hlp : lp.length ≤ 1048576) (hep : ∀ a ∈ lp, a.key.size ≤ 1048576 ∧ a.val.2.length ≤ 1048576) : CallsR Try.prog 32 #[vp] w0 (fun r w1 => ∃ v Hs, r = .tuple #[v, i64 (encE lp)] ∧ Grow u8 5 v (encV lp) Hs ∧ Mem w1 (restOf w0) Hs) := by
 refine callsR_of_cw (args := [vp]) Try.func32 rfl Try.ntmps32 Try.results32 rfl ?_
 have hm0 : Mem w0 (restOf w0) [] := Mem.of_world w0
 refine sR <| rw_q rfl (ev_assign (v := (Value.slice none 0 0)) rfl) <| rw_q rfl (ev_assign (v := (i64 0)) rfl) ?_
 refine rN (cw_seq (sR ?_))
 refine rM rfl (v := vp) rfl <| rw_q (v := (i64 (lp.length : Int))) rfl (ev_len_rk (RdK.ofRest hrp hm0) uT55 rfl) <| rw_q rfl (ev_move (v := (i64 0)) rfl) ?_
 refine rN (cw_block ?_)
 refine cw_loop (fun g wv => ∃ (k : Nat) (vo : Value) (Ho : List (Nat × Obj)), (k ≤ lp.length) ∧ (allR lp k = true) ∧ ((encK lp k).length ≤ 2097159 * k) ∧ (Grow u8 5 vo (encK lp k) Ho) ∧ g 0 = vp ∧ g 2 = vo ∧ g 7 = vp ∧ g 8 = (i64 (lp.length : Int)) ∧ g 9 = (i64 (k : Int)) ∧ Mem wv (restOf w0) (Ho ++ ([]))) (fun g wv => ((lp.length : Int) - RowKit.intOf (g 9)).toNat) ?_ ?_
 · exact ⟨0, (Value.slice none 0 0), [], (Nat.zero_le _), allR_0, encK_l0, (Grow.cast (Grow.none u8 5) encK_0), rfl, rfl, rfl, rfl, rfl, hm0⟩
 · rintro fr1 w2 ⟨k, vo, Ho, hk, har, hol, go, s0, s2, s7, s8, s9, hm2⟩
   have z2 := s2
   have z9 := s9
   refine sR <| rw_q rfl (ev_i64_lss s9 s8) ?_
   refine rN (cw_seq ?_)
   refine cw_cond rfl (fun hc3 => ?_) (fun hc3 => ?_)
   · -- true
     have hc3p := of_decide_eq_true hc3
     have hek := hep _ (getD_mem (d := pair0) (show k < lp.length by omega))
     refine cw_skip (kThen_normal (cw_seq (cw_block (sR ?_))))
     refine rw_q rfl (ev_indexAddr_rk (i := (k : Int)) (RdK.ofRest hrp hm2) uT55 ti79 s7 s9 oM (by first | omega | (simp only [List.length_append, List.length_cons, List.length_nil, bytesL_length, num2_len, num4_len]; omega) | (simp only [List.length_set, List.length_append, List.length_replicate, List.length_map, List.length_cons, List.length_nil]; omega) | (simp; done) | (simp; omega) | decide)) <| rw_q (v := (Value.agg #[(Value.string ((lp.getD k pair0).key)), (slv (lp.getD k pair0).val), (bl ((lp.getD k pair0).gone))])) rfl (ev_load_rkA (i := (k : Int)) (dflt := pair0) (cs := #[(Value.string ((lp.getD k pair0).key)), (slv (lp.getD k pair0).val), (bl ((lp.getD k pair0).gone))]) (RdK.ofRest hrp hm2) (by first | omega | (simp only [List.length_append, List.length_cons, List.length_nil, bytesL_length, num2_len, num4_len]; omega) | (simp only [List.length_set, List.length_append, List.length_replicate, List.length_map, List.length_cons, List.length_nil]; omega) | (simp; done) | (simp; omega) | decide) uT79 rfl ti79 rfl rfl (by decide) rfl) <| rw_c rfl (or_allocX hm2 ti79) ?_
     rintro _ w4 ⟨b5, rfl, _ew4, hm4⟩
     refine rw_n (or_storeW (cs := #[(Value.string ((lp.getD k pair0).key)), (slv (lp.getD k pair0).val), (bl ((lp.getD k pair0).gone))]) ti79 rfl rfl (by kernel_rfl) (one_arr (one_cons rfl (one_cons rfl (one_cons rfl one_nil)))) hm4.h0 (by kernel_rfl) rfl) ?_
     rintro _ w5 uq5
     have hm5 : Mem w5 (restOf w0) ([(b5, .cells #[(Value.string ((lp.getD k pair0).key)), (slv (lp.getD k pair0).val), (bl ((lp.getD k pair0).gone))] 79 (0, 0))] ++ (Ho ++ ([]))) := hm4.upd0 uq5
     refine rN (cw_seq (sR ?_))
     refine rw_q (v := (Value.agg #[(Value.string ((lp.getD k pair0).key)), (slv (lp.getD k pair0).val), (bl ((lp.getD k pair0).gone))])) rfl (ev_loadW uT79 rfl ti79 rfl hm5.h0 (by kernel_rfl)) <| rw_c rfl (opR_call Try.func58 bd58 nm58 (args1 rfl) (c_sright ((lp.getD k pair0).key) (slv (lp.getD k pair0).val) ((lp.getD k pair0).val.2) ((lp.getD k pair0).gone) _ (Rd.ofRest (rdQ PairT.val hqp (k := k) sD) hm5) (by first | omega | (simp only [List.length_append, List.length_cons, List.length_nil, bytesL_length, num2_len, num4_len]; omega) | (simp only [List.length_set, List.length_append, List.length_replicate, List.length_map, List.length_cons, List.length_nil]; omega) | (simp; done) | (simp; omega) | decide) (by first | omega | (simp only [List.length_append, List.length_cons, List.length_nil, bytesL_length, num2_len, num4_len]; omega) | (simp only [List.length_set, List.length_append, List.length_replicate, List.length_map, List.length_cons, List.length_nil]; omega) | (simp; done) | (simp; omega) | decide))) ?_
     rintro _ w6 ⟨rfl, _ew6⟩
     have hm6 := hm5.ext _ew6
     refine rw_q rfl (ev_not rfl) <| rN ?_
     refine cw_cond rfl (fun hc8 => ?_) (fun hc8 => ?_)
     · -- true
       have hc8n : (rightB ((lp.getD k pair0).key).size ((lp.getD k pair0).val.2).length ((lp.getD k pair0).gone)) = false := by simpa using hc8
       refine sR <| rw_q rfl (ev_assign (v := (Value.slice none 0 0)) rfl) <| rw_q rfl (ev_assign (v := (i64 1)) rfl) ?_
       refine rN (cw_ret ?_)
       refine kThen_ret (kBlk_ret (kThen_ret (kBlk_ret ?_)))
       refine fnPost_ret [(Value.slice none 0 0), (i64 1)] ⟨rfl, rfl, trivial⟩ ?_
       have hm9 := Mem.drop ([(b5, .cells #[(Value.string ((lp.getD k pair0).key)), (slv (lp.getD k pair0).val), (bl ((lp.getD k pair0).gone))] 79 (0, 0))]) _ hm6
       have hm10 := Mem.drop Ho _ hm9
       have hno := enc_no (allR_no (k := k) oM (show rightP (lp.getD k pair0) = false by simpa [rightP] using hc8))
       rw [hno.1, hno.2]
       exact ⟨_, [], rfl, Grow.none u8 5, hm10⟩
     · -- false
       have hc8n : (rightB ((lp.getD k pair0).key).size ((lp.getD k pair0).val.2).length ((lp.getD k pair0).gone)) = true := by simpa using hc8
       have hrl := recP_len (g := (lp.getD k pair0).gone) (k := (lp.getD k pair0).key) (v := (lp.getD k pair0).val.2)
       refine cw_skip (kThen_normal (sR ?_))
       refine rw_q rfl (ev_assign (v := (u8 0#8)) rfl) ?_
       refine rN (cw_seq (sR ?_))
       refine rw_q rfl (ev_fa (r := 2) uT79 rfl (by first | rfl | omega) ti4 rfl rfl) <| rw_q (v := (bl ((lp.getD k pair0).gone))) rfl (ev_load1 uT4 rfl rfl hm6.h0 rfl) <| rN ?_
       refine cw_meet (J := fun g wv => g 0 = vp ∧ g 2 = vo ∧ g 5 = (ptr b5 0) ∧ g 6 = (u8 (goneB (lp.getD k pair0).gone)) ∧ g 7 = vp ∧ g 8 = (i64 (lp.length : Int)) ∧ g 9 = (i64 (k : Int)) ∧ g 10 = (bl (decide ((k : Int) < (lp.length : Int)))) ∧ g 15 = (bl (!(rightB ((lp.getD k pair0).key).size ((lp.getD k pair0).val.2).length ((lp.getD k pair0).gone)))) ∧ g 17 = (bl ((lp.getD k pair0).gone)) ∧ Mem wv (restOf w0) ([(b5, .cells #[(Value.string ((lp.getD k pair0).key)), (slv (lp.getD k pair0).val), (bl ((lp.getD k pair0).gone))] 79 (0, 0))] ++ (Ho ++ ([])))) ?_ ?_
       · skip
         refine cw_cond rfl (fun hc11 => ?_) (fun hc11 => ?_)
         · -- true
           refine cw_region <| rw_q rfl (ev_assign (v := (u8 1#8)) rfl) <| rN ?_
           exact ⟨s0, s2, rfl, (Eq.trans rfl (congrArg u8 (goneB_t hc11))), s7, s8, s9, rfl, rfl, rfl, hm6⟩
         · -- false
           refine cw_skip (kThen_normal ?_)
           exact ⟨s0, s2, rfl, (Eq.trans rfl (congrArg u8 (goneB_f hc11))), s7, s8, s9, rfl, rfl, rfl, hm6⟩
       · rintro fr12 w13 ⟨s0, s2, s5, s6, s7, s8, s9, s10, s15, s17, hm13⟩
         refine cw_seq <| cw_drawE (by kernel_rfl) ?_
         have hm14 := (Mem.pick [_] Ho _ hm13)
         have hFM15 : Mem w13 (restOf w0) ((Ho ++ ([])) ++ [(b5, .cells #[(Value.string ((lp.getD k pair0).key)), (slv (lp.getD k pair0).val), (bl ((lp.getD k pair0).gone))] 79 (0, 0))]) := (by
           have hT := hm14
           try simp only [List.append_assoc, List.cons_append, List.nil_append, List.append_nil] at hT ⊢
           exact hT)
         obtain ⟨RM15, hRM15⟩ : ∃ R2, R2 = Rest.add (restOf w0) [(b5, .cells #[(Value.string ((lp.getD k pair0).key)), (slv (lp.getD k pair0).val), (bl ((lp.getD k pair0).gone))] 79 (0, 0))] := ⟨_, rfl⟩
         have M150 : Mem w13 RM15 (Ho ++ ([])) := by rw [hRM15]; exact Mem.give hFM15
         have ho16 : RM15.blk b5 = some (.cells #[(Value.string ((lp.getD k pair0).key)), (slv (lp.getD k pair0).val), (bl ((lp.getD k pair0).gone))] 79 (0, 0)) := by rw [hRM15]; exact Mem.addOwn hFM15 (List.Mem.head _)
         have hr17 : Rd RM15.blk u8 (slv (lp.getD k pair0).val) ((lp.getD k pair0).val.2) := by rw [hRM15]; exact Rd.mono (rdQ PairT.val hqp (k := k) sD) fun b o e => Mem.addRest hFM15 e
         refine re_planM M150 [(0, false), (1, false), (4, false), (5, false), (6, false), (8, false), (9, false), (2, true), (3, true), (7, true)] 10 rfl (by kernel_rfl) <| dk_q rfl rfl (fun w _H _hx => ev_move s2) <| dk_q rfl rfl (fun w _H _hx => ev_move s6) <| dk_q rfl rfl (fun w _H _hx => ev_fa (r := 0) uT79 rfl (by first | rfl | omega) ti9 rfl s5) <| dk_q (v := (Value.string ((lp.getD k pair0).key))) rfl rfl (fun w _H _hx => ev_load1 uT9 rfl rfl (_hx.rest _ _ ho16) rfl) <| dk_q (v := (i64 (((lp.getD k pair0).key).size : Int))) rfl rfl (fun w _H _hx => ev_len_str uT9 rfl) ?_
         refine dk_q rfl rfl (fun w _H _hx => ev_fa (r := 0) uT79 rfl (by first | rfl | omega) ti9 rfl s5) <| dk_q (v := (Value.string ((lp.getD k pair0).key))) rfl rfl (fun w _H _hx => ev_load1 uT9 rfl rfl (_hx.rest _ _ ho16) rfl) ?_
         refine dk_c rfl rfl (fun w18 _ew18 => ?_)
         have hm18 := M150.ext _ew18
         refine OpR.mono (or_buildSlice_cl u8 [goneB (lp.getD k pair0).gone] u8_one hm18 uT23 ti5 rfl rfl rfl) ?_
         rintro _ w19 ⟨b20, rfl, _ew19, hm19⟩
         refine ⟨⟨_, hm19⟩, ?_⟩
         refine dk_c rfl rfl (fun w20 _ew20 => ?_)
         have hm20 := hm19.ext _ew20
         refine OpR.mono (or_append (f := u8) (Hs := Ho) (H := [(b20, .cells (cl u8 ([goneB (lp.getD k pair0).gone])) 5 (0, 0))]) (Mem.pick [_] Ho _ hm20) go rfl rfl (Rd.mkA hm20.h0) uT23 uT23 ti5 rfl u8_one (by first | omega | (simp only [List.length_append, List.length_cons, List.length_nil, bytesL_length, num2_len, num4_len]; omega) | (simp only [List.length_set, List.length_append, List.length_replicate, List.length_map, List.length_cons, List.length_nil]; omega) | (simp; done) | (simp; omega) | decide) (by first | omega | (simp only [List.length_append, List.length_cons, List.length_nil, bytesL_length, num2_len, num4_len]; omega) | (simp only [List.length_set, List.length_append, List.length_replicate, List.length_map, List.length_cons, List.length_nil]; omega) | (simp; done) | (simp; omega) | decide)) ?_
         rintro sv21 w21 ⟨Hs21, hm21, g21⟩
         replace g21 : Grow u8 5 sv21 ((encK lp k) ++ ([goneB (lp.getD k pair0).gone])) Hs21 := g21
         refine ⟨⟨_, hm21⟩, ?_⟩
         refine dk_c rfl rfl (fun w22 _ew22 => ?_)
         have hm22 := hm21.ext _ew22
         have hF24 : Mem w22 RM15 ((Hs21 ++ ([])) ++ ([(b20, .cells (cl u8 ([goneB (lp.getD k pair0).gone])) 5 (0, 0))])) := by
           have hT := hm22
           try simp only [List.append_assoc, List.cons_append, List.nil_append, List.append_nil] at hT ⊢
           exact hT
         refine OpR.mono (opR_call Try.func59 bd59 nm59 (args3 rfl rfl rfl) (c_sput2 sv21 ((encK lp k) ++ ([goneB (lp.getD k pair0).gone])) Hs21 (((lp.getD k pair0).key).size : Int) _ _ (Mem.give hF24) g21 (by first | omega | (simp only [List.length_append, List.length_cons, List.length_nil, bytesL_length, num2_len, num4_len]; omega) | (simp only [List.length_set, List.length_append, List.length_replicate, List.length_map, List.length_cons, List.length_nil]; omega) | (simp; done) | (simp; omega) | decide) (by first | omega | (simp only [List.length_append, List.length_cons, List.length_nil, bytesL_length, num2_len, num4_len]; omega) | (simp only [List.length_set, List.length_append, List.length_replicate, List.length_map, List.length_cons, List.length_nil]; omega) | (simp; done) | (simp; omega) | decide))) ?_
         rintro rq25 w23 ⟨Hsq25, grq25, k_w23⟩
         have hm23 : Mem w23 RM15 (Hsq25 ++ ([(b20, .cells (cl u8 ([goneB (lp.getD k pair0).gone])) 5 (0, 0))])) := (by
           have hT := Mem.back hF24 k_w23
           try simp only [List.append_assoc, List.cons_append, List.nil_append, List.append_nil] at hT ⊢
           exact hT)
         refine ⟨⟨_, hm23⟩, ?_⟩
         refine dw_nil (fun w26 _ew26 => ?_)
         have hm26 := hm23.ext _ew26
         have hX27 := hm26
         rw [hRM15] at hX27
         have hm28 : Mem w26 (restOf w0) (Hsq25 ++ ([(b20, .cells (cl u8 ([goneB (lp.getD k pair0).gone])) 5 (0, 0)), (b5, .cells #[(Value.string ((lp.getD k pair0).key)), (slv (lp.getD k pair0).val), (bl ((lp.getD k pair0).gone))] 79 (0, 0))])) := (by
           have hT := Mem.back hFM15 hX27
           try simp only [List.append_assoc, List.cons_append, List.nil_append, List.append_nil] at hT ⊢
           exact hT)
         refine rw_c rfl (or_appendS (f := u8) (ms := (bytesL ((lp.getD k pair0).key))) (Hs := Hsq25) (H := [(b20, .cells (cl u8 ([goneB (lp.getD k pair0).gone])) 5 (0, 0)), (b5, .cells #[(Value.string ((lp.getD k pair0).key)), (slv (lp.getD k pair0).val), (bl ((lp.getD k pair0).gone))] 79 (0, 0))]) hm28 grq25 rfl rfl (fun w => str_run w) uT23 uT9 ti5 rfl u8_one (by first | omega | (simp only [List.length_append, List.length_cons, List.length_nil, bytesL_length, num2_len, num4_len]; omega) | (simp only [List.length_set, List.length_append, List.length_replicate, List.length_map, List.length_cons, List.length_nil]; omega) | (simp; done) | (simp; omega) | decide) (by first | omega | (simp only [List.length_append, List.length_cons, List.length_nil, bytesL_length, num2_len, num4_len]; omega) | (simp only [List.length_set, List.length_append, List.length_replicate, List.length_map, List.length_cons, List.length_nil]; omega) | (simp; done) | (simp; omega) | decide)) ?_
         rintro sv29 w29 ⟨Hs29, hm29, g29⟩
         replace g29 : Grow u8 5 sv29 ((((encK lp k) ++ ([goneB (lp.getD k pair0).gone])) ++ num2 (((lp.getD k pair0).key).size : Int)) ++ (bytesL ((lp.getD k pair0).key))) Hs29 := g29
         refine rA rfl (v := sv29) rfl <| rN <| cw_drawE (by kernel_rfl) ?_
         have hFM30 : Mem w29 (restOf w0) ((Hs29 ++ ([])) ++ [(b20, .cells (cl u8 ([goneB (lp.getD k pair0).gone])) 5 (0, 0)), (b5, .cells #[(Value.string ((lp.getD k pair0).key)), (slv (lp.getD k pair0).val), (bl ((lp.getD k pair0).gone))] 79 (0, 0))]) := (by
           have hT := hm29
           try simp only [List.append_assoc, List.cons_append, List.nil_append, List.append_nil] at hT ⊢
           exact hT)
         obtain ⟨RM30, hRM30⟩ : ∃ R2, R2 = Rest.add (restOf w0) [(b20, .cells (cl u8 ([goneB (lp.getD k pair0).gone])) 5 (0, 0)), (b5, .cells #[(Value.string ((lp.getD k pair0).key)), (slv (lp.getD k pair0).val), (bl ((lp.getD k pair0).gone))] 79 (0, 0))] := ⟨_, rfl⟩
         have M300 : Mem w29 RM30 (Hs29 ++ ([])) := by rw [hRM30]; exact Mem.give hFM30
         have ho31 : RM30.blk b20 = some (.cells (cl u8 ([goneB (lp.getD k pair0).gone])) 5 (0, 0)) := by rw [hRM30]; exact Mem.addOwn hFM30 (List.Mem.head _)
         have ho32 : RM30.blk b5 = some (.cells #[(Value.string ((lp.getD k pair0).key)), (slv (lp.getD k pair0).val), (bl ((lp.getD k pair0).gone))] 79 (0, 0)) := by rw [hRM30]; exact Mem.addOwn hFM30 (List.Mem.tail _ (List.Mem.head _))
         have hr33 : Rd RM30.blk u8 (slv (lp.getD k pair0).val) ((lp.getD k pair0).val.2) := by rw [hRM30]; exact Rd.mono (rdQ PairT.val hqp (k := k) sD) fun b o e => Mem.addRest hFM30 e
         refine re_planM M300 [(0, false), (1, false), (2, false), (3, false), (5, false), (6, false), (4, true)] 7 rfl (by kernel_rfl) <| dk_q rfl rfl (fun w _H _hx => ev_move (v := sv29) rfl) <| dk_q rfl rfl (fun w _H _hx => ev_fa (r := 1) uT79 rfl (by first | rfl | omega) ti23 rfl s5) <| dk_q (v := (slv (lp.getD k pair0).val)) rfl rfl (fun w _H _hx => ev_load1 uT23 rfl rfl (_hx.rest _ _ ho32) rfl) <| dk_q (v := (i64 (((lp.getD k pair0).val.2).length : Int))) rfl rfl (fun w _H _hx => ev_len_rd (Rd.ofRest hr33 _hx) uT23 rfl) <| dk_q rfl rfl (fun w _H _hx => ev_fa (r := 1) uT79 rfl (by first | rfl | omega) ti23 rfl s5) ?_
         refine dk_q (v := (slv (lp.getD k pair0).val)) rfl rfl (fun w _H _hx => ev_load1 uT23 rfl rfl (_hx.rest _ _ ho32) rfl) ?_
         refine dk_c rfl rfl (fun w34 _ew34 => ?_)
         have hm34 := M300.ext _ew34
         have hF36 : Mem w34 RM30 ((Hs29 ++ ([])) ++ ([])) := by
           have hT := hm34
           try simp only [List.append_assoc, List.cons_append, List.nil_append, List.append_nil] at hT ⊢
           exact hT
         refine OpR.mono (opR_call Try.func59 bd59 nm59 (args3 rfl rfl rfl) (c_sput4 sv29 ((((encK lp k) ++ ([goneB (lp.getD k pair0).gone])) ++ num2 (((lp.getD k pair0).key).size : Int)) ++ (bytesL ((lp.getD k pair0).key))) Hs29 (((lp.getD k pair0).val.2).length : Int) _ _ (Mem.give hF36) g29 (by first | omega | (simp only [List.length_append, List.length_cons, List.length_nil, bytesL_length, num2_len, num4_len]; omega) | (simp only [List.length_set, List.length_append, List.length_replicate, List.length_map, List.length_cons, List.length_nil]; omega) | (simp; done) | (simp; omega) | decide) (by first | omega | (simp only [List.length_append, List.length_cons, List.length_nil, bytesL_length, num2_len, num4_len]; omega) | (simp only [List.length_set, List.length_append, List.length_replicate, List.length_map, List.length_cons, List.length_nil]; omega) | (simp; done) | (simp; omega) | decide))) ?_
         rintro rq37 w35 ⟨Hsq37, grq37, k_w35⟩
         have hm35 : Mem w35 RM30 (Hsq37 ++ ([])) := (by
           have hT := Mem.back hF36 k_w35
           try simp only [List.append_assoc, List.cons_append, List.nil_append, List.append_nil] at hT ⊢
           exact hT)
         refine ⟨⟨_, hm35⟩, ?_⟩
         refine dw_nil (fun w38 _ew38 => ?_)
         have hm38 := hm35.ext _ew38
         have hX39 := hm38
         rw [hRM30] at hX39
         have hm40 : Mem w38 (restOf w0) (Hsq37 ++ ([(b20, .cells (cl u8 ([goneB (lp.getD k pair0).gone])) 5 (0, 0)), (b5, .cells #[(Value.string ((lp.getD k pair0).key)), (slv (lp.getD k pair0).val), (bl ((lp.getD k pair0).gone))] 79 (0, 0))])) := (by
           have hT := Mem.back hFM30 hX39
           try simp only [List.append_assoc, List.cons_append, List.nil_append, List.append_nil] at hT ⊢
           exact hT)
         refine rw_c rfl (or_append (f := u8) (Hs := Hsq37) (H := [(b20, .cells (cl u8 ([goneB (lp.getD k pair0).gone])) 5 (0, 0)), (b5, .cells #[(Value.string ((lp.getD k pair0).key)), (slv (lp.getD k pair0).val), (bl ((lp.getD k pair0).gone))] 79 (0, 0))]) hm40 grq37 rfl rfl (Rd.ofRest (rdQ PairT.val hqp (k := k) sD) hm40) uT23 uT23 ti5 rfl u8_one (by first | omega | (simp only [List.length_append, List.length_cons, List.length_nil, bytesL_length, num2_len, num4_len]; omega) | (simp only [List.length_set, List.length_append, List.length_replicate, List.length_map, List.length_cons, List.length_nil]; omega) | (simp; done) | (simp; omega) | decide) (by first | omega | (simp only [List.length_append, List.length_cons, List.length_nil, bytesL_length, num2_len, num4_len]; omega) | (simp only [List.length_set, List.length_append, List.length_replicate, List.length_map, List.length_cons, List.length_nil]; omega) | (simp; done) | (simp; omega) | decide)) ?_
         rintro sv41 w41 ⟨Hs41, hm41, g41⟩
         replace g41 : Grow u8 5 sv41 ((((((encK lp k) ++ ([goneB (lp.getD k pair0).gone])) ++ num2 (((lp.getD k pair0).key).size : Int)) ++ (bytesL ((lp.getD k pair0).key))) ++ num4 (((lp.getD k pair0).val.2).length : Int)) ++ ((lp.getD k pair0).val.2)) Hs41 := g41
         refine rA rfl (v := sv41) rfl ?_
         refine rw_nil (kBlk_normal ?_)
         have hm42 := Mem.drop ([(b20, .cells (cl u8 ([goneB (lp.getD k pair0).gone])) 5 (0, 0))]) _ (Mem.pick Hs41 [_] _ hm41)
         refine CW.abs (fun g => g 0 = vp ∧ g 2 = sv41 ∧ g 5 = (ptr b5 0) ∧ g 6 = (u8 (goneB (lp.getD k pair0).gone)) ∧ g 7 = vp ∧ g 8 = (i64 (lp.length : Int)) ∧ g 9 = (i64 (k : Int)) ∧ g 10 = (bl (decide ((k : Int) < (lp.length : Int)))) ∧ g 15 = (bl (!(rightB ((lp.getD k pair0).key).size ((lp.getD k pair0).val.2).length ((lp.getD k pair0).gone)))) ∧ g 17 = (bl ((lp.getD k pair0).gone)) ∧ True) ⟨s0, rfl, s5, s6, s7, s8, s9, s10, s15, s17, trivial⟩ ?_
         rintro fr43 ⟨s0, s2, s5, s6, s7, s8, s9, s10, s15, s17, _⟩
         refine cw_region <| rw_q rfl (ev_i64_add (b := 1) s9 rfl oM oM) <| rw_q rfl (ev_move (v := (i64 ((k : Int) + 1))) rfl) <| rN ?_
         have hm44 := Mem.drop ([(b5, .cells #[(Value.string ((lp.getD k pair0).key)), (slv (lp.getD k pair0).val), (bl ((lp.getD k pair0).gone))] 79 (0, 0))]) _ (Mem.pick Hs41 [_] _ hm42)
         exact ⟨⟨(k + 1), sv41, Hs41, oM, (by rw [allR_S oM, har]; simpa [rightP] using hc8), (by rw [← encK_S, List.length_append, hrl]; omega), (Grow.cast g41 (by rw [← encK_S]; unfold recP; simp only [List.append_assoc])), s0, s2, s7, s8, rfl, hm44⟩, meas (rfl) z9 oM oM⟩
   · -- false
     have hc3p := of_decide_eq_false hc3
     refine cw_exit ?_
     refine kThen_exit (kThen_exit (kBlk_hit ?_))
     refine sR <| rM rfl s2 <| rA rfl (v := vo) rfl <| rw_q rfl (ev_assign (v := (i64 0)) rfl) ?_
     refine rN (cw_ret ?_)
     refine fnPost_ret [vo, (i64 0)] ⟨rfl, rfl, trivial⟩ ?_
     have hkl : k = lp.length := by omega
     have hye := enc_yes (hkl ▸ har)
     rw [hye.1, hye.2, ← hkl]
     exact ⟨_, Ho, rfl, go, by simpa using hm2⟩


end Go.Proofs.Ytfbnhoolkajebaa
