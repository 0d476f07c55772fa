/- Contracts: the document's numbers. Conditions: none beyond those that each theorem states. -/
import Derived.Test.YtmiagmbgfhakgaaCu2
import Derived.Test.YtmiagmbgfhakgaaCuN
namespace Go.Proofs.Ytmiagmbgfhakgaa
set_option linter.unusedVariables false
set_option linter.unusedSimpArgs false

set_option maxHeartbeats 1000000 in
theorem c_rcarry (l : List Int) (w0 : World)  (hl : l.length = 16) (hb : Bd (-1000000000000000) 1000000000000000 l) : CallsR Try.prog 38 #[(agg i64 l)] w0 (fun r w1 => r = (agg i64 (carryR l)) ∧ Ext w0 w1) := by
 refine callsR_of_cw (args := [(agg i64 l)]) Try.func38 rfl Try.ntmps38 Try.results38 rfl ?_
 have hm0 : Mem w0 (restOf w0) [] := Mem.of_world w0
 refine sR <| rw_c rfl (or_box_agg (f := i64) (l := l) hm0 rfl) ?_
 rintro _ w1 ⟨b1, rfl, _ew1, hm1⟩
 refine rw_c rfl (or_alloc_agg hm1 ti56) ?_
 rintro _ w2 ⟨b2, rfl, _ew2, hm2⟩
 refine rN (cw_seq (sR ?_))
 refine rw_q rfl (ev_assign (v := (i64 0)) rfl) ?_
 refine rN (cw_block ?_)
 refine cw_loop (fun g wv => ∃ (i : Nat), (i ≤ 16) ∧ g 0 = (agg i64 l) ∧ g 1 = (ptr b1 0) ∧ g 2 = (ptr b2 0) ∧ g 3 = (i64 (i : Int)) ∧ Mem wv (restOf w0) [(b2, .cells (cl i64 (List.replicate 16 0)) 56 (0, 0)), (b1, .cells (cl i64 (crGo l i)) 56 (0, 0))]) (fun g wv => (16 - RowKit.intOf (g 3)).toNat) ?_ ?_
 · exact ⟨0, oM, rfl, rfl, rfl, rfl, hm2⟩
 · rintro fr3 w4 ⟨i, hi, s0, s1, s2, s3, hm4⟩
   have z3 := s3
   have hgl := crGo_length l i
   refine cw_seq (sR ?_)
   refine rM rfl s3 <| rw_q rfl (ev_i64_lss (b := 16) rfl rfl) <| rN ?_
   refine cw_cond rfl (fun hc5 => ?_) (fun hc5 => ?_)
   · -- true
     have hc5p := of_decide_eq_true hc5
     obtain ⟨hI1, hI2, hI3, hI4⟩ := crGo_inv hl hb i oM
     refine cw_skip (kThen_normal (cw_seq (cw_block (sR ?_))))
     refine rM rfl s3 <| rw_q rfl (ev_ia_arr (r := i) oM uT56 ti2 s1 rfl oM sD) <| rw_q (v := (i64 ((crGo l i).getD i 0))) rfl (ev_load1 uT2 rfl rfl hm4.h1 (get_clD _ _ 0 sD)) <| rw_q rfl (ev_i64_shrK (p := 65536) (b := 16) rfl rfl rfl (by decide) (by decide)) <| rw_q rfl (ev_assign (v := (i64 (((crGo l i).getD i 0) / 65536))) rfl) ?_
     refine rN (sR ?_)
     refine rM rfl s3 <| rw_q rfl (ev_ia_arr (r := i) oM uT56 ti2 s1 rfl oM sD) <| rw_q (v := (i64 ((crGo l i).getD i 0))) rfl (ev_load1 uT2 rfl rfl hm4.h1 (get_clD _ _ 0 sD)) <| rw_q rfl (ev_move (v := (i64 (((crGo l i).getD i 0) / 65536))) rfl) <| rw_q rfl (ev_i64_shlK (p := 65536) (b := 16) rfl rfl rfl (by decide) (by decide) oM oM) <| rw_q rfl (ev_i64_sub rfl rfl oM oM) ?_
     refine rw_q rfl (ev_ia_arr (r := i) oM uT56 ti2 s1 rfl oM sD) <| rw_n (or_store_cl (f := i64) i64_one ti2 rfl rfl hm4.h1 sD (.inl (Nat.zero_le _))) ?_
     rintro _ w6 uq6
     have hm6 := hm4.upd1 uq6
     refine rN ?_
     refine CW.abs (fun g => g 0 = (agg i64 l) ∧ g 1 = (ptr b1 0) ∧ g 2 = (ptr b2 0) ∧ g 3 = (i64 (i : Int)) ∧ g 4 = (i64 (((crGo l i).getD i 0) / 65536)) ∧ g 6 = (bl (decide ((i : Int) < 16))) ∧ True) ⟨s0, s1, s2, s3, rfl, rfl, trivial⟩ ?_
     rintro fr7 ⟨s0, s1, s2, s3, s4, s6, _⟩
     refine sR <| rM rfl s3 <| rw_q rfl (ev_i64_lss (b := 15) rfl rfl) <| rN ?_
     refine cw_cond rfl (fun hc8 => ?_) (fun hc8 => ?_)
     · -- true
       have hc8p := of_decide_eq_true hc8
       have hq : ((crGo l i).set i (((crGo l i).getD i 0) - ((((crGo l i).getD i 0) / 65536) * 65536))).getD (i + 1) 0 = l.getD (i + 1) 0 := by rw [getD_set_ne oM]; exact hI2 (i + 1) oM
       have hq2 := hb (i + 1) oM
       refine cw_region <| rM rfl s3 <| rw_q rfl (EvQ.cast (congrArg i64 (show (i : Int) + 1 = ((i + 1 : Nat) : Int) by omega)) (ev_i64_add (b := 1) rfl rfl oM oM)) <| rw_q rfl (ev_ia_arr (r := (i + 1)) oM uT56 ti2 s1 rfl oM sD) <| rw_q (v := (i64 (((crGo l i).set i (((crGo l i).getD i 0) - ((((crGo l i).getD i 0) / 65536) * 65536))).getD (i + 1) 0))) rfl (ev_load1 uT2 rfl rfl hm6.h1 (get_clD _ _ 0 sD)) <| rM rfl s4 ?_
       refine rw_q rfl (ev_i64_add rfl rfl oM oM) <| rw_q rfl (ev_ia_arr (r := (i + 1)) oM uT56 ti2 s1 rfl oM sD) <| rw_n (or_store_cl (f := i64) i64_one ti2 rfl rfl hm6.h1 sD (.inl (Nat.zero_le _))) ?_
       rintro _ w9 uq9
       have hm9 := hm6.upd1 uq9
       refine rw_nil (kBlk_normal (cw_region ?_))
       refine rM rfl s3 <| rw_q rfl (ev_i64_add (b := 1) rfl rfl oM oM) <| rw_q rfl (ev_assign (v := (i64 ((i : Int) + 1))) rfl) <| rN ?_
       have hcn : ((crGo l i).set i (((crGo l i).getD i 0) - ((((crGo l i).getD i 0) / 65536) * 65536))).set (i + 1) ((((crGo l i).set i (((crGo l i).getD i 0) - ((((crGo l i).getD i 0) / 65536) * 65536))).getD (i + 1) 0) + (((crGo l i).getD i 0) / 65536)) = crGo l (i + 1) := by show _ = crStep _ _; unfold crStep; rw [if_pos oM]
       exact ⟨⟨i + 1, oM, s0, s1, s2, rfl, (by rw [← hcn]; exact hm9)⟩, meas rfl z3 oM oM⟩
     · -- false
       have hc8p := of_decide_eq_false hc8
       have hq : ((crGo l i).set i (((crGo l i).getD i 0) - ((((crGo l i).getD i 0) / 65536) * 65536))).getD 0 0 = (crGo l i).getD 0 0 := getD_set_ne oM
       have hq2 := hI1 0 oM
       refine cw_region <| rw_q rfl (ev_ia_arr (r := 0) (i := 0) oM uT56 ti2 s1 rfl oM oM) <| rw_q (v := (i64 (((crGo l i).set i (((crGo l i).getD i 0) - ((((crGo l i).getD i 0) / 65536) * 65536))).getD 0 0))) rfl (ev_load1 uT2 rfl rfl hm6.h1 (get_clD _ _ 0 sD)) <| rM rfl s4 <| rw_q rfl (ev_i64_mul (a := 38) rfl rfl oM oM) <| rw_q rfl (ev_i64_add rfl rfl oM oM) ?_
       refine rw_q rfl (ev_ia_arr (r := 0) (i := 0) oM uT56 ti2 s1 rfl oM oM) <| rw_n (or_store_cl (f := i64) i64_one ti2 rfl rfl hm6.h1 sD (.inl (Nat.zero_le _))) ?_
       rintro _ w10 uq10
       have hm10 := hm6.upd1 uq10
       refine rw_nil (kBlk_normal (cw_region ?_))
       refine rM rfl s3 <| rw_q rfl (ev_i64_add (b := 1) rfl rfl oM oM) <| rw_q rfl (ev_assign (v := (i64 ((i : Int) + 1))) rfl) <| rN ?_
       have hcn : ((crGo l i).set i (((crGo l i).getD i 0) - ((((crGo l i).getD i 0) / 65536) * 65536))).set 0 ((((crGo l i).set i (((crGo l i).getD i 0) - ((((crGo l i).getD i 0) / 65536) * 65536))).getD 0 0) + (38 * (((crGo l i).getD i 0) / 65536))) = crGo l (i + 1) := by show _ = crStep _ _; unfold crStep; rw [if_neg oM]
       exact ⟨⟨i + 1, oM, s0, s1, s2, rfl, (by rw [← hcn]; exact hm10)⟩, meas rfl z3 oM oM⟩
   · -- false
     have hc5p := of_decide_eq_false hc5
     obtain rfl : i = 16 := by omega
     have hgl := crGo_length l 16
     refine cw_exit ?_
     refine kThen_exit (kThen_exit (kBlk_hit ?_))
     refine sR <| rw_q (v := (agg i64 (crGo l 16))) rfl (ev_loadA uT56 rfl ti56 s1 hm4.h1 sZ) <| rw_n (or_store_agg (f := i64) (l := crGo l 16) i64_one ti56 s2 rfl sD hm4.h0 sZ rfl) ?_
     rintro _ w11 uq11
     have hm11 := hm4.upd0 uq11
     refine rN (cw_ret ?_)
     refine fnPost_ret [(agg i64 (crGo l 16))] ⟨⟨_, s2, loadVar_run uT56 rfl ti56 hm11.h0 sZ⟩, trivial⟩ ?_
     exact ⟨by unfold carryR; rfl, hm11.toExt⟩

set_option maxHeartbeats 1000000 in
theorem c_radd (a b : List Int) (w0 : World)  (ha : GoodR a) (hb : GoodR b) : CallsR Try.prog 27 #[(agg i64 a), (agg i64 b)] w0 (fun r w1 => r = (agg i64 (AddR a b)) ∧ Ext w0 w1) := by
 refine callsR_of_cw (args := [(agg i64 a), (agg i64 b)]) Try.func27 rfl Try.ntmps27 Try.results27 rfl ?_
 have hm0 : Mem w0 (restOf w0) [] := Mem.of_world w0
 have hal := ha.len; have hbl := hb.len
 refine sR <| rw_c rfl (or_box_agg (f := i64) (l := a) hm0 rfl) ?_
 rintro _ w1 ⟨b2, rfl, _ew1, hm1⟩
 refine rw_c rfl (or_box_agg (f := i64) (l := b) hm1 rfl) ?_
 rintro _ w2 ⟨b3, rfl, _ew2, hm2⟩
 refine rw_c rfl (or_alloc_agg hm2 ti56) ?_
 rintro _ w3 ⟨b4, rfl, _ew3, hm3⟩
 refine rN (cw_seq (sR ?_))
 refine rw_q rfl (ev_assign (v := (i64 0)) rfl) ?_
 refine rN (cw_block ?_)
 refine cw_loop (fun g wv => ∃ (i : Nat), (i ≤ 16) ∧ g 0 = (agg i64 a) ∧ g 1 = (agg i64 b) ∧ g 2 = (ptr b2 0) ∧ g 3 = (ptr b3 0) ∧ g 4 = (ptr b4 0) ∧ g 5 = (i64 (i : Int)) ∧ Mem wv (restOf w0) [(b4, .cells (cl i64 (List.replicate 16 0)) 56 (0, 0)), (b3, .cells (cl i64 b) 56 (0, 0)), (b2, .cells (cl i64 (addGo (· + ·) a b i)) 56 (0, 0))]) (fun g wv => (16 - RowKit.intOf (g 5)).toNat) ?_ ?_
 · exact ⟨0, oM, rfl, rfl, rfl, rfl, rfl, rfl, hm3⟩
 · rintro fr4 w5 ⟨i, hi, s0, s1, s2, s3, s4, s5, hm5⟩
   have z5 := s5
   have hgl := addGo_length (· + ·) a b i
   refine cw_seq (sR ?_)
   refine rM rfl s5 <| rw_q rfl (ev_i64_lss (b := 16) rfl rfl) <| rN ?_
   refine cw_cond rfl (fun hc6 => ?_) (fun hc6 => ?_)
   · -- true
     have hc6p := of_decide_eq_true hc6
     have hg : (addGo (· + ·) a b i).getD i 0 = a.getD i 0 := by rw [addGo_get, if_neg oM]
     have hg1 := ha.bd i oM
     have hg2 := hb.bd i oM
     refine cw_skip (kThen_normal (cw_seq (cw_block ?_)))
     refine cw_draw [(0, false), (1, false), (2, false), (3, false), (4, false), (5, false)] 6 (by kernel_rfl) <| dM rfl rfl s5 <| dw_q rfl rfl (fun _ _hx => ev_ia_arr (r := i) oM uT56 ti2 s2 rfl oM sD) <| dw_q (v := (i64 ((addGo (· + ·) a b i).getD i 0))) rfl rfl (fun _ _hx => ev_load1 uT2 rfl rfl (hm5.ext _hx).h2 (get_clD _ _ 0 sD)) <| dM rfl rfl s5 <| dw_q rfl rfl (fun _ _hx => ev_ia_arr (r := i) oM uT56 ti2 s3 rfl oM sD) ?_
     refine dw_q (v := (i64 (b.getD i 0))) rfl rfl (fun _ _hx => ev_load1 uT2 rfl rfl (hm5.ext _hx).h1 (get_clD _ _ 0 sD)) ?_
     refine dw_nil (fun w7 _ew7 => ?_)
     have hm7 := hm5.ext _ew7
     refine rw_q rfl (ev_i64_add rfl rfl oM oM) <| rw_q rfl (ev_ia_arr (r := i) oM uT56 ti2 s2 rfl oM sD) <| rw_n (or_store_cl (f := i64) i64_one ti2 rfl rfl hm7.h2 sD (.inl (Nat.zero_le _))) ?_
     rintro _ w8 uq8
     have hm8 := hm7.upd2 uq8
     refine rw_nil (kBlk_normal (cw_region ?_))
     refine rM rfl s5 <| rw_q rfl (ev_i64_add (b := 1) rfl rfl oM oM) <| rw_q rfl (ev_assign (v := (i64 ((i : Int) + 1))) rfl) <| rN ?_
     exact ⟨⟨i + 1, oM, s0, s1, s2, s3, s4, rfl, hm8⟩, meas rfl z5 oM oM⟩
   · -- false
     have hc6p := of_decide_eq_false hc6
     obtain rfl : i = 16 := by omega
     have hgl := addGo_length (· + ·) a b 16
     refine cw_exit ?_
     refine kThen_exit (kThen_exit (kBlk_hit ?_))
     refine sR <| rw_q (v := (agg i64 (addGo (· + ·) a b 16))) rfl (ev_loadA uT56 rfl ti56 s2 hm5.h2 sZ) <| rw_c rfl (opR_call Try.func38 bd38 nm38 (args1 rfl) (c_rcarry (addGo (· + ·) a b 16) _ (by rw [addGo_length, hal]) (addGo_wide ha hb (by intro x y hx hy; show -1000000000000000 ≤ x + y ∧ x + y ≤ 1000000000000000; omega)))) ?_
     rintro _ w9 ⟨rfl, _ew9⟩
     have hm9 := hm5.ext _ew9
     refine rw_n (or_store_agg (f := i64) (l := carryR (addGo (· + ·) a b 16)) i64_one ti56 s4 rfl sD hm9.h0 sZ rfl) ?_
     rintro _ w11 uq11
     have hm11 := hm9.upd0 uq11
     refine rN (cw_ret ?_)
     refine fnPost_ret [(agg i64 (carryR (addGo (· + ·) a b 16)))] ⟨⟨_, s4, loadVar_run uT56 rfl ti56 hm11.h0 sZ⟩, trivial⟩ ?_
     exact ⟨by unfold AddR; rfl, hm11.toExt⟩

set_option maxHeartbeats 1000000 in
theorem c_rless (a b : List Int) (w0 : World)  (ha : GoodR a) (hb : GoodR b) : CallsR Try.prog 28 #[(agg i64 a), (agg i64 b)] w0 (fun r w1 => r = (agg i64 (LessR a b)) ∧ Ext w0 w1) := by
 refine callsR_of_cw (args := [(agg i64 a), (agg i64 b)]) Try.func28 rfl Try.ntmps28 Try.results28 rfl ?_
 have hm0 : Mem w0 (restOf w0) [] := Mem.of_world w0
 have hal := ha.len; have hbl := hb.len
 refine sR <| rw_c rfl (or_box_agg (f := i64) (l := a) hm0 rfl) ?_
 rintro _ w1 ⟨b2, rfl, _ew1, hm1⟩
 refine rw_c rfl (or_box_agg (f := i64) (l := b) hm1 rfl) ?_
 rintro _ w2 ⟨b3, rfl, _ew2, hm2⟩
 refine rw_c rfl (or_alloc_agg hm2 ti56) ?_
 rintro _ w3 ⟨b4, rfl, _ew3, hm3⟩
 refine rN (cw_seq (sR ?_))
 refine rw_q rfl (ev_assign (v := (i64 0)) rfl) ?_
 refine rN (cw_block ?_)
 refine cw_loop (fun g wv => ∃ (i : Nat), (i ≤ 16) ∧ g 0 = (agg i64 a) ∧ g 1 = (agg i64 b) ∧ g 2 = (ptr b2 0) ∧ g 3 = (ptr b3 0) ∧ g 4 = (ptr b4 0) ∧ g 5 = (i64 (i : Int)) ∧ Mem wv (restOf w0) [(b4, .cells (cl i64 (List.replicate 16 0)) 56 (0, 0)), (b3, .cells (cl i64 b) 56 (0, 0)), (b2, .cells (cl i64 (addGo (· - ·) a b i)) 56 (0, 0))]) (fun g wv => (16 - RowKit.intOf (g 5)).toNat) ?_ ?_
 · exact ⟨0, oM, rfl, rfl, rfl, rfl, rfl, rfl, hm3⟩
 · rintro fr4 w5 ⟨i, hi, s0, s1, s2, s3, s4, s5, hm5⟩
   have z5 := s5
   have hgl := addGo_length (· - ·) a b i
   refine cw_seq (sR ?_)
   refine rM rfl s5 <| rw_q rfl (ev_i64_lss (b := 16) rfl rfl) <| rN ?_
   refine cw_cond rfl (fun hc6 => ?_) (fun hc6 => ?_)
   · -- true
     have hc6p := of_decide_eq_true hc6
     have hg : (addGo (· - ·) a b i).getD i 0 = a.getD i 0 := by rw [addGo_get, if_neg oM]
     have hg1 := ha.bd i oM
     have hg2 := hb.bd i oM
     refine cw_skip (kThen_normal (cw_seq (cw_block ?_)))
     refine cw_draw [(0, false), (1, false), (2, false), (3, false), (4, false), (5, false)] 6 (by kernel_rfl) <| dM rfl rfl s5 <| dw_q rfl rfl (fun _ _hx => ev_ia_arr (r := i) oM uT56 ti2 s2 rfl oM sD) <| dw_q (v := (i64 ((addGo (· - ·) a b i).getD i 0))) rfl rfl (fun _ _hx => ev_load1 uT2 rfl rfl (hm5.ext _hx).h2 (get_clD _ _ 0 sD)) <| dM rfl rfl s5 <| dw_q rfl rfl (fun _ _hx => ev_ia_arr (r := i) oM uT56 ti2 s3 rfl oM sD) ?_
     refine dw_q (v := (i64 (b.getD i 0))) rfl rfl (fun _ _hx => ev_load1 uT2 rfl rfl (hm5.ext _hx).h1 (get_clD _ _ 0 sD)) ?_
     refine dw_nil (fun w7 _ew7 => ?_)
     have hm7 := hm5.ext _ew7
     refine rw_q rfl (ev_i64_sub rfl rfl oM oM) <| rw_q rfl (ev_ia_arr (r := i) oM uT56 ti2 s2 rfl oM sD) <| rw_n (or_store_cl (f := i64) i64_one ti2 rfl rfl hm7.h2 sD (.inl (Nat.zero_le _))) ?_
     rintro _ w8 uq8
     have hm8 := hm7.upd2 uq8
     refine rw_nil (kBlk_normal (cw_region ?_))
     refine rM rfl s5 <| rw_q rfl (ev_i64_add (b := 1) rfl rfl oM oM) <| rw_q rfl (ev_assign (v := (i64 ((i : Int) + 1))) rfl) <| rN ?_
     exact ⟨⟨i + 1, oM, s0, s1, s2, s3, s4, rfl, hm8⟩, meas rfl z5 oM oM⟩
   · -- false
     have hc6p := of_decide_eq_false hc6
     obtain rfl : i = 16 := by omega
     have hgl := addGo_length (· - ·) a b 16
     refine cw_exit ?_
     refine kThen_exit (kThen_exit (kBlk_hit ?_))
     refine sR <| rw_q (v := (agg i64 (addGo (· - ·) a b 16))) rfl (ev_loadA uT56 rfl ti56 s2 hm5.h2 sZ) <| rw_c rfl (opR_call Try.func38 bd38 nm38 (args1 rfl) (c_rcarry (addGo (· - ·) a b 16) _ (by rw [addGo_length, hal]) (addGo_wide ha hb (by intro x y hx hy; show -1000000000000000 ≤ x - y ∧ x - y ≤ 1000000000000000; omega)))) ?_
     rintro _ w9 ⟨rfl, _ew9⟩
     have hm9 := hm5.ext _ew9
     refine rw_n (or_store_agg (f := i64) (l := carryR (addGo (· - ·) a b 16)) i64_one ti56 s4 rfl sD hm9.h0 sZ rfl) ?_
     rintro _ w11 uq11
     have hm11 := hm9.upd0 uq11
     refine rN (cw_ret ?_)
     refine fnPost_ret [(agg i64 (carryR (addGo (· - ·) a b 16)))] ⟨⟨_, s4, loadVar_run uT56 rfl ti56 hm11.h0 sZ⟩, trivial⟩ ?_
     exact ⟨by unfold LessR; rfl, hm11.toExt⟩

set_option maxHeartbeats 1000000 in
theorem c_rtimes (a b : List Int) (w0 : World)  (ha : GoodR a) (hb : GoodR b) : CallsR Try.prog 29 #[(agg i64 a), (agg i64 b)] w0 (fun r w1 => r = (agg i64 (TimesR a b)) ∧ Ext w0 w1) := by
 refine callsR_of_cw (args := [(agg i64 a), (agg i64 b)]) Try.func29 rfl Try.ntmps29 Try.results29 rfl ?_
 have hm0 : Mem w0 (restOf w0) [] := Mem.of_world w0
 have hal := ha.len; have hbl := hb.len
 refine sR <| rw_c rfl (or_box_agg (f := i64) (l := a) hm0 rfl) ?_
 rintro _ w1 ⟨b2, rfl, _ew1, hm1⟩
 refine rw_c rfl (or_box_agg (f := i64) (l := b) hm1 rfl) ?_
 rintro _ w2 ⟨b3, rfl, _ew2, hm2⟩
 refine rw_c rfl (or_alloc_agg hm2 ti56) ?_
 rintro _ w3 ⟨b4, rfl, _ew3, hm3⟩
 refine rN (sR ?_)
 refine rw_q rfl (ev_build_arr (ps := []) (c := (cl i64 (List.replicate 31 0))) ti70 uT70 ti2 (by simp) rfl) <| rw_c rfl (or_alloc_agg hm3 ti70) ?_
 rintro _ w4 ⟨b5, rfl, _ew4, hm4⟩
 refine rw_n (or_store_agg (f := i64) (l := List.replicate 31 0) i64_one ti70 rfl rfl sD hm4.h0 sZ rfl) ?_
 rintro _ w5 uq5
 have hm5 := hm4.upd0 uq5
 refine rN (cw_seq (sR ?_))
 refine rw_q rfl (ev_assign (v := (i64 0)) rfl) ?_
 refine rN (cw_block ?_)
 refine cw_loop (fun g wv => ∃ (i : Nat), (i ≤ 16) ∧ g 0 = (agg i64 a) ∧ g 1 = (agg i64 b) ∧ g 2 = (ptr b2 0) ∧ g 3 = (ptr b3 0) ∧ g 4 = (ptr b4 0) ∧ g 5 = (ptr b5 0) ∧ g 6 = (i64 (i : Int)) ∧ Mem wv (restOf w0) [(b5, .cells (cl i64 (tAll a b i)) 70 (0, 0)), (b4, .cells (cl i64 (List.replicate 16 0)) 56 (0, 0)), (b3, .cells (cl i64 b) 56 (0, 0)), (b2, .cells (cl i64 a) 56 (0, 0))]) (fun g wv => (16 - RowKit.intOf (g 6)).toNat) ?_ ?_
 · exact ⟨0, oM, rfl, rfl, rfl, rfl, rfl, rfl, rfl, hm5⟩
 · rintro fr6 w7 ⟨i, hi, s0, s1, s2, s3, s4, s5, s6, hm7⟩
   have z6 := s6
   have htl := tAll_length a b i
   refine cw_seq (sR ?_)
   refine rM rfl s6 <| rw_q rfl (ev_i64_lss (b := 16) rfl rfl) <| rN ?_
   refine cw_cond rfl (fun hc8 => ?_) (fun hc8 => ?_)
   · -- true
     have hc8p := of_decide_eq_true hc8
     refine cw_skip (kThen_normal (cw_seq (cw_block (sR ?_))))
     refine rw_q rfl (ev_assign (v := (i64 0)) rfl) ?_
     refine rN (cw_block' ?_)
     refine cw_loop (fun g wv => ∃ (k : Nat), (k ≤ 16) ∧ g 0 = (agg i64 a) ∧ g 1 = (agg i64 b) ∧ g 2 = (ptr b2 0) ∧ g 3 = (ptr b3 0) ∧ g 4 = (ptr b4 0) ∧ g 5 = (ptr b5 0) ∧ g 6 = (i64 (i : Int)) ∧ g 7 = (i64 (k : Int)) ∧ g 12 = (bl (decide ((i : Int) < 16))) ∧ Mem wv (restOf w0) [(b5, .cells (cl i64 (tRow a b i (tAll a b i) k)) 70 (0, 0)), (b4, .cells (cl i64 (List.replicate 16 0)) 56 (0, 0)), (b3, .cells (cl i64 b) 56 (0, 0)), (b2, .cells (cl i64 a) 56 (0, 0))]) (fun g wv => (16 - RowKit.intOf (g 7)).toNat) ?_ ?_
     · exact ⟨0, oM, s0, s1, s2, s3, s4, s5, s6, rfl, rfl, hm7⟩
     · rintro fr9 w10 ⟨k, hk, s0, s1, s2, s3, s4, s5, s6, s7, s12, hm10⟩
       have z7 := s7
       have hrl := tRow_length a b i (tAll a b i) k
       refine cw_seq (sR ?_)
       refine rM rfl s7 <| rw_q rfl (ev_i64_lss (b := 16) rfl rfl) <| rN ?_
       refine cw_cond rfl (fun hc11 => ?_) (fun hc11 => ?_)
       · -- true
         have hc11p := of_decide_eq_true hc11
         have hm1 := mul_bd (ha.bd i oM) (hb.bd k oM)
         have hm2 := tRow_bd ha hb (show i < 16 by omega) (tAll_length a b i) (tAll_bd ha hb i oM) k oM (i + k)
         refine cw_skip (kThen_normal (cw_seq (cw_block ?_)))
         refine cw_draw [(0, false), (1, false), (2, false), (3, false), (4, false), (5, false), (6, false), (7, false), (8, false), (9, false), (10, false), (11, false)] 12 (by kernel_rfl) <| dM rfl rfl s6 <| dM rfl rfl s7 <| dw_q rfl rfl (fun _ _hx => EvQ.cast (congrArg i64 (show (i : Int) + (k : Int) = ((i + k : Nat) : Int) by omega)) (ev_i64_add rfl rfl oM oM)) <| dw_q rfl rfl (fun _ _hx => ev_ia_arr (r := (i + k)) oM uT70 ti2 s5 rfl oM sD) <| dw_q (v := (i64 ((tRow a b i (tAll a b i) k).getD (i + k) 0))) rfl rfl (fun _ _hx => ev_load1 uT2 rfl rfl (hm10.ext _hx).h0 (get_clD _ _ 0 sD)) ?_
         refine dM rfl rfl s6 <| dw_q rfl rfl (fun _ _hx => ev_ia_arr (r := i) oM uT56 ti2 s2 rfl oM sD) <| dw_q (v := (i64 (a.getD i 0))) rfl rfl (fun _ _hx => ev_load1 uT2 rfl rfl (hm10.ext _hx).h3 (get_clD _ _ 0 sD)) <| dM rfl rfl s7 <| dw_q rfl rfl (fun _ _hx => ev_ia_arr (r := k) oM uT56 ti2 s3 rfl oM sD) <| dw_q (v := (i64 (b.getD k 0))) rfl rfl (fun _ _hx => ev_load1 uT2 rfl rfl (hm10.ext _hx).h2 (get_clD _ _ 0 sD)) ?_
         refine dw_q rfl rfl (fun _ _hx => ev_i64_mul rfl rfl oM oM) ?_
         refine dw_nil (fun w12 _ew12 => ?_)
         have hm12 := hm10.ext _ew12
         refine rw_q rfl (ev_i64_add rfl rfl oM oM) <| rw_q rfl (ev_ia_arr (r := (i + k)) oM uT70 ti2 s5 rfl oM sD) <| rw_n (or_store_cl (f := i64) i64_one ti2 rfl rfl hm12.h0 sD (.inl (Nat.zero_le _))) ?_
         rintro _ w13 uq13
         have hm13 := hm12.upd0 uq13
         refine rw_nil (kBlk_normal ?_)
         refine CW.abs (fun g => g 0 = (agg i64 a) ∧ g 1 = (agg i64 b) ∧ g 2 = (ptr b2 0) ∧ g 3 = (ptr b3 0) ∧ g 4 = (ptr b4 0) ∧ g 5 = (ptr b5 0) ∧ g 6 = (i64 (i : Int)) ∧ g 7 = (i64 (k : Int)) ∧ g 12 = (bl (decide ((i : Int) < 16))) ∧ g 16 = (bl (decide ((k : Int) < 16))) ∧ True) ⟨s0, s1, s2, s3, s4, s5, s6, s7, s12, rfl, trivial⟩ ?_
         rintro fr14 ⟨s0, s1, s2, s3, s4, s5, s6, s7, s12, s16, _⟩
         refine cw_region <| rM rfl s7 <| rw_q rfl (ev_i64_add (b := 1) rfl rfl oM oM) <| rw_q rfl (ev_assign (v := (i64 ((k : Int) + 1))) rfl) <| rN ?_
         exact ⟨⟨k + 1, oM, s0, s1, s2, s3, s4, s5, s6, rfl, s12, hm13⟩, meas rfl z7 oM oM⟩
       · -- false
         have hc11p := of_decide_eq_false hc11
         obtain rfl : k = 16 := by omega
         refine cw_exit ?_
         refine kThen_exit (kThen_exit (kBlk_hit ?_))
         refine kBlk_normal (cw_region ?_)
         refine rM rfl s6 <| rw_q rfl (ev_i64_add (b := 1) rfl rfl oM oM) <| rw_q rfl (ev_assign (v := (i64 ((i : Int) + 1))) rfl) <| rN ?_
         exact ⟨⟨i + 1, oM, s0, s1, s2, s3, s4, s5, rfl, hm10⟩, meas rfl z6 oM oM⟩
   · -- false
     have hc8p := of_decide_eq_false hc8
     obtain rfl : i = 16 := by omega
     have htl := tAll_length a b 16
     refine cw_exit ?_
     refine kThen_exit (kThen_exit (kBlk_hit ?_))
     refine sR <| rw_q rfl (ev_build_arr (ps := []) (c := (cl i64 (List.replicate 16 0))) ti56 uT56 ti2 (by simp) rfl) <| rw_c rfl (or_alloc_agg hm7 ti56) ?_
     rintro _ w15 ⟨b8, rfl, _ew15, hm15⟩
     refine rw_n (or_store_agg (f := i64) (l := List.replicate 16 0) i64_one ti56 rfl rfl sD hm15.h0 sZ rfl) ?_
     rintro _ w16 uq16
     have hm16 := hm15.upd0 uq16
     refine rN (cw_seq (sR ?_))
     refine rw_q rfl (ev_assign (v := (i64 0)) rfl) ?_
     refine rN (cw_block ?_)
     refine cw_loop (fun g wv => ∃ (i : Nat), (i ≤ 16) ∧ g 0 = (agg i64 a) ∧ g 1 = (agg i64 b) ∧ g 2 = (ptr b2 0) ∧ g 3 = (ptr b3 0) ∧ g 4 = (ptr b4 0) ∧ g 5 = (ptr b5 0) ∧ g 6 = (i64 (16 : Int)) ∧ g 8 = (ptr b8 0) ∧ g 9 = (i64 (i : Int)) ∧ g 12 = (bl (decide ((16 : Int) < 16))) ∧ Mem wv (restOf w0) [(b8, .cells (cl i64 (filled (outR (tAll a b 16)) 0 16 i)) 56 (0, 0)), (b5, .cells (cl i64 (tAll a b 16)) 70 (0, 0)), (b4, .cells (cl i64 (List.replicate 16 0)) 56 (0, 0)), (b3, .cells (cl i64 b) 56 (0, 0)), (b2, .cells (cl i64 a) 56 (0, 0))]) (fun g wv => (16 - RowKit.intOf (g 9)).toNat) ?_ ?_
     · exact ⟨0, oM, s0, s1, s2, s3, s4, s5, s6, rfl, rfl, rfl, (by rw [filled_zero]; exact hm16)⟩
     · rintro fr17 w18 ⟨i, hi, s0, s1, s2, s3, s4, s5, s6, s8, s9, s12, hm18⟩
       have z9 := s9
       have hfl : (filled (outR (tAll a b 16)) (0 : Int) 16 i).length = 16 := filled_length _ _ _ _ hi
       refine cw_seq (sR ?_)
       refine rM rfl s9 <| rw_q rfl (ev_i64_lss (b := 16) rfl rfl) <| rN ?_
       refine cw_cond rfl (fun hc19 => ?_) (fun hc19 => ?_)
       · -- true
         have hc19p := of_decide_eq_true hc19
         have ht1 := tAll_bd ha hb 16 oM i
         have ht2 := tAll_bd ha hb 16 oM (i + 16)
         refine cw_skip (kThen_normal (cw_seq (cw_block (sR ?_))))
         refine rM rfl s9 <| rM rfl s9 <| rw_q rfl (ev_ia_arr (r := i) oM uT70 ti2 s5 rfl oM sD) <| rw_q (v := (i64 ((tAll a b 16).getD i 0))) rfl (ev_load1 uT2 rfl rfl hm18.h1 (get_clD _ _ 0 sD)) <| rw_q rfl (ev_ia_arr (r := i) oM uT56 ti2 s8 rfl oM sD) <| rw_n (or_store_cl (f := i64) i64_one ti2 rfl rfl hm18.h0 sD (.inl (Nat.zero_le _))) ?_
         rintro _ w20 uq20
         have hm20 := hm18.upd0 uq20
         refine rN (sR ?_)
         refine rM rfl s9 <| rw_q rfl (ev_i64_lss (b := 15) rfl rfl) <| rN ?_
         refine cw_cond rfl (fun hc21 => ?_) (fun hc21 => ?_)
         · -- true
           have hc21p := of_decide_eq_true hc21
           have hq : ((filled (outR (tAll a b 16)) 0 16 i).set i ((tAll a b 16).getD i 0)).getD i 0 = (tAll a b 16).getD i 0 := getD_set_eq oM
           refine cw_draw [(0, false), (1, false), (2, false), (3, false), (4, false), (5, false), (6, false), (7, false)] 8 (by kernel_rfl) <| dM rfl rfl s9 <| dw_q rfl rfl (fun _ _hx => ev_ia_arr (r := i) oM uT56 ti2 s8 rfl oM sD) <| dw_q (v := (i64 (((filled (outR (tAll a b 16)) 0 16 i).set i ((tAll a b 16).getD i 0)).getD i 0))) rfl rfl (fun _ _hx => ev_load1 uT2 rfl rfl (hm20.ext _hx).h0 (get_clD _ _ 0 sD)) <| dM rfl rfl s9 <| dw_q rfl rfl (fun _ _hx => EvQ.cast (congrArg i64 (show (i : Int) + 16 = ((i + 16 : Nat) : Int) by omega)) (ev_i64_add (b := 16) rfl rfl oM oM)) ?_
           refine dw_q rfl rfl (fun _ _hx => ev_ia_arr (r := (i + 16)) oM uT70 ti2 s5 rfl oM sD) <| dw_q (v := (i64 ((tAll a b 16).getD (i + 16) 0))) rfl rfl (fun _ _hx => ev_load1 uT2 rfl rfl (hm20.ext _hx).h1 (get_clD _ _ 0 sD)) <| dw_q rfl rfl (fun _ _hx => ev_i64_mul (a := 38) rfl rfl oM oM) ?_
           refine dw_nil (fun w22 _ew22 => ?_)
           have hm22 := hm20.ext _ew22
           refine rw_q rfl (ev_i64_add rfl rfl oM oM) <| rw_q rfl (ev_ia_arr (r := i) oM uT56 ti2 s8 rfl oM sD) <| rw_n (or_store_cl (f := i64) i64_one ti2 rfl rfl hm22.h0 sD (.inl (Nat.zero_le _))) ?_
           rintro _ w23 uq23
           have hm23 := hm22.upd0 uq23
           refine rw_nil (kBlk_normal ?_)
           refine CW.abs (fun g => g 0 = (agg i64 a) ∧ g 1 = (agg i64 b) ∧ g 2 = (ptr b2 0) ∧ g 3 = (ptr b3 0) ∧ g 4 = (ptr b4 0) ∧ g 5 = (ptr b5 0) ∧ g 6 = (i64 (16 : Int)) ∧ g 8 = (ptr b8 0) ∧ g 9 = (i64 (i : Int)) ∧ g 12 = (bl (decide ((16 : Int) < 16))) ∧ g 35 = (bl (decide ((i : Int) < 16))) ∧ g 44 = (bl (decide ((i : Int) < 15))) ∧ True) ⟨s0, s1, s2, s3, s4, s5, s6, s8, s9, s12, rfl, rfl, trivial⟩ ?_
           rintro fr24 ⟨s0, s1, s2, s3, s4, s5, s6, s8, s9, s12, s35, s44, _⟩
           refine cw_region <| rM rfl s9 <| rw_q rfl (ev_i64_add (b := 1) rfl rfl oM oM) <| rw_q rfl (ev_assign (v := (i64 ((i : Int) + 1))) rfl) <| rN ?_
           have hcn : ((filled (outR (tAll a b 16)) 0 16 i).set i ((tAll a b 16).getD i 0)).set i ((((filled (outR (tAll a b 16)) 0 16 i).set i ((tAll a b 16).getD i 0)).getD i 0) + (38 * ((tAll a b 16).getD (i + 16) 0))) = filled (outR (tAll a b 16)) 0 16 (i + 1) := by rw [List.set_set, hq]; exact filled_set (outR (tAll a b 16)) 0 oM _ (by unfold outR; rw [if_pos oM])
           exact ⟨⟨i + 1, oM, s0, s1, s2, s3, s4, s5, s6, s8, rfl, s12, (by rw [← hcn]; exact hm23)⟩, meas rfl z9 oM oM⟩
         · -- false
           have hc21p := of_decide_eq_false hc21
           refine cw_skip (kBlk_normal (cw_region ?_))
           refine rM rfl s9 <| rw_q rfl (ev_i64_add (b := 1) rfl rfl oM oM) <| rw_q rfl (ev_assign (v := (i64 ((i : Int) + 1))) rfl) <| rN ?_
           have hcn : (filled (outR (tAll a b 16)) 0 16 i).set i ((tAll a b 16).getD i 0) = filled (outR (tAll a b 16)) 0 16 (i + 1) := filled_set (outR (tAll a b 16)) 0 oM _ (by unfold outR; rw [if_neg oM])
           exact ⟨⟨i + 1, oM, s0, s1, s2, s3, s4, s5, s6, s8, rfl, s12, (by rw [← hcn]; exact hm20)⟩, meas rfl z9 oM oM⟩
       · -- false
         have hc19p := of_decide_eq_false hc19
         obtain rfl : i = 16 := by omega
         refine cw_exit ?_
         refine kThen_exit (kThen_exit (kBlk_hit ?_))
         refine sR <| rw_q (v := (agg i64 (filled (outR (tAll a b 16)) 0 16 16))) rfl (ev_loadA uT56 rfl ti56 s8 hm18.h0 sZ) <| rw_c rfl (opR_call Try.func38 bd38 nm38 (args1 rfl) (c_rcarry (filled (outR (tAll a b 16)) 0 16 16) _ sD (bd_carry ha hb))) ?_
         rintro _ w25 ⟨rfl, _ew25⟩
         have hm25 := hm18.ext _ew25
         refine rw_c rfl (opR_call Try.func38 bd38 nm38 (args1 rfl) (c_rcarry (carryR (filled (outR (tAll a b 16)) 0 16 16)) _ sD (bd_carry2 ha hb))) ?_
         rintro _ w27 ⟨rfl, _ew27⟩
         have hm27 := hm25.ext _ew27
         refine rw_n (or_store_agg (f := i64) (l := carryR (carryR (filled (outR (tAll a b 16)) 0 16 16))) i64_one ti56 s4 rfl sD hm27.h2 sZ rfl) ?_
         rintro _ w29 uq29
         have hm29 := hm27.upd2 uq29
         refine rN (cw_ret ?_)
         refine fnPost_ret [(agg i64 (carryR (carryR (filled (outR (tAll a b 16)) 0 16 16))))] ⟨⟨_, s4, loadVar_run uT56 rfl ti56 hm29.h2 sZ⟩, trivial⟩ ?_
         exact ⟨by unfold TimesR; rfl, hm29.toExt⟩

set_option maxHeartbeats 1000000 in
theorem c_rinv (x : List Int) (w0 : World)  (hx : GoodR x) : CallsR Try.prog 31 #[(agg i64 x)] w0 (fun r w1 => r = (agg i64 (invRGo x 255)) ∧ Ext w0 w1) := by
 refine callsR_of_cw (args := [(agg i64 x)]) Try.func31 rfl Try.ntmps31 Try.results31 rfl ?_
 have hm0 : Mem w0 (restOf w0) [] := Mem.of_world w0
 have hxl := hx.len
 refine sR <| rw_c rfl (or_box_agg (f := i64) (l := x) hm0 rfl) ?_
 rintro _ w1 ⟨b1, rfl, _ew1, hm1⟩
 refine rw_c rfl (or_alloc_agg hm1 ti56) ?_
 rintro _ w2 ⟨b2, rfl, _ew2, hm2⟩
 refine rN (sR ?_)
 refine rw_q rfl (ev_build_pa (c := (cl i64 ([1, 0, 0, 0, 0, 0, 0, 0, 0, 0, 0, 0, 0, 0, 0, 0]))) ti56 uT56 ti2 (pm_cons (i := 0) (v := (i64 1)) (cs := #[(i64 1)]) rfl rfl pm_nil) (by kernel_rfl)) <| rw_c rfl (or_alloc_agg hm2 ti56) ?_
 rintro _ w3 ⟨b3, rfl, _ew3, hm3⟩
 refine rw_n (or_store_agg (f := i64) (l := [1, 0, 0, 0, 0, 0, 0, 0, 0, 0, 0, 0, 0, 0, 0, 0]) i64_one ti56 rfl rfl sD hm3.h0 sZ rfl) ?_
 rintro _ w4 uq4
 have hm4 := hm3.upd0 uq4
 refine rN (cw_seq (sR ?_))
 refine rw_q rfl (ev_assign (v := (i64 254)) rfl) ?_
 refine rN (cw_block ?_)
 refine cw_loop (fun g wv => ∃ (j : Nat), (j ≤ 255) ∧ g 0 = (agg i64 x) ∧ g 1 = (ptr b1 0) ∧ g 2 = (ptr b2 0) ∧ g 3 = (ptr b3 0) ∧ g 4 = (i64 (254 - (j : Int))) ∧ Mem wv (restOf w0) [(b3, .cells (cl i64 (invRGo x j)) 56 (0, 0)), (b2, .cells (cl i64 (List.replicate 16 0)) 56 (0, 0)), (b1, .cells (cl i64 x) 56 (0, 0))]) (fun g wv => (RowKit.intOf (g 4) + 1).toNat) ?_ ?_
 · exact ⟨0, oM, rfl, rfl, rfl, rfl, rfl, (by rw [invRGo_zero]; exact hm4)⟩
 · rintro fr5 w6 ⟨j, hj, s0, s1, s2, s3, s4, hm6⟩
   have z4 := s4
   have hgj := goodR_inv hx j
   have hgl := hgj.len
   have hgk := goodR_times hgj hgj
   have hgl2 := hgk.len
   have hgl3 := (goodR_times hgk hx).len
   refine cw_seq (sR ?_)
   refine rM rfl s4 <| rw_q rfl (ev_i64_geq (b := 0) rfl rfl) <| rN ?_
   refine cw_cond rfl (fun hc7 => ?_) (fun hc7 => ?_)
   · -- true
     have hc7p := of_decide_eq_true hc7
     refine cw_skip (kThen_normal (cw_seq (cw_block (sR ?_))))
     refine rw_q (v := (agg i64 (invRGo x j))) rfl (ev_loadA uT56 rfl ti56 s3 hm6.h0 sZ) <| rw_q (v := (agg i64 (invRGo x j))) rfl (ev_loadA uT56 rfl ti56 s3 hm6.h0 sZ) <| rw_c rfl (opR_call Try.func29 bd29 nm29 (args2 rfl rfl) (c_rtimes (invRGo x j) (invRGo x j) _ hgj hgj)) ?_
     rintro _ w8 ⟨rfl, _ew8⟩
     have hm8 := hm6.ext _ew8
     refine rw_n (or_store_agg (f := i64) (l := TimesR (invRGo x j) (invRGo x j)) i64_one ti56 s3 rfl sD hm8.h0 sZ rfl) ?_
     rintro _ w10 uq10
     have hm10 := hm8.upd0 uq10
     refine rN (sR ?_)
     refine rM rfl s4 <| rw_q rfl (ev_i64_neq (b := 2) rfl rfl) <| rw_q rfl (ev_move (v := (bl ((254 - (j : Int)) != 2))) rfl) ?_
     rcases Bool.eq_false_or_eq_true ((254 - (j : Int)) != 2) with hb11 | hb11
     · -- true
       have hb11p := bne_iff_ne.1 hb11
       refine rw_gyq (s := 15) rfl rfl hb11 rfl (ev_move s4) <| rw_gyq (s := 15) rfl rfl hb11 rfl (ev_i64_neq (b := 4) rfl rfl) <| rw_q rfl (ev_pick_tk rfl hb11 rfl) <| rN ?_
       refine CW.abs (fun g => g 0 = (agg i64 x) ∧ g 1 = (ptr b1 0) ∧ g 2 = (ptr b2 0) ∧ g 3 = (ptr b3 0) ∧ g 4 = (i64 (254 - (j : Int))) ∧ g 7 = (bl (decide (0 ≤ (254 - (j : Int))))) ∧ g 18 = (bl ((254 - (j : Int)) != 4)) ∧ True) ⟨s0, s1, s2, s3, s4, rfl, rfl, trivial⟩ ?_
       rintro fr12 ⟨s0, s1, s2, s3, s4, s7, s18, _⟩
       refine cw_cond s18 (fun hc13 => ?_) (fun hc13 => ?_)
       · -- true
         have hc13p := bne_iff_ne.1 hc13
         refine cw_region <| rw_q (v := (agg i64 (TimesR (invRGo x j) (invRGo x j)))) rfl (ev_loadA uT56 rfl ti56 s3 hm10.h0 sZ) <| rw_q (v := (agg i64 x)) rfl (ev_loadA uT56 rfl ti56 s1 hm10.h2 sZ) <| rw_c rfl (opR_call Try.func29 bd29 nm29 (args2 rfl rfl) (c_rtimes (TimesR (invRGo x j) (invRGo x j)) x _ hgk hx)) ?_
         rintro _ w14 ⟨rfl, _ew14⟩
         have hm14 := hm10.ext _ew14
         refine rw_n (or_store_agg (f := i64) (l := TimesR (TimesR (invRGo x j) (invRGo x j)) x) i64_one ti56 s3 rfl sD hm14.h0 sZ rfl) ?_
         rintro _ w16 uq16
         have hm16 := hm14.upd0 uq16
         refine rw_nil (kBlk_normal (cw_region ?_))
         refine rM rfl s4 <| rw_q rfl (ev_i64_sub (b := 1) rfl rfl oM oM) <| rw_q rfl (ev_assign (v := (i64 ((254 - (j : Int)) - 1))) rfl) <| rN ?_
         have hin : TimesR (TimesR (invRGo x j) (invRGo x j)) x = invRGo x (j + 1) := invRGo_mul (by clear hxl; omega)
         exact ⟨⟨j + 1, oM, s0, s1, s2, s3, (show i64 (254 - (j : Int) - 1) = i64 (254 - ((j + 1 : Nat) : Int)) from congrArg i64 oM), (by rw [← hin]; exact hm16)⟩, (by show (RowKit.intOf (i64 (254 - (j : Int) - 1)) + 1).toNat < (RowKit.intOf _ + 1).toNat; rw [z4]; simp only [RowKit.intOf, i64]; omega)⟩
       · -- false
         have hc13p := eq_of_bne_false hc13
         refine cw_skip (kBlk_normal (cw_region ?_))
         refine rM rfl s4 <| rw_q rfl (ev_i64_sub (b := 1) rfl rfl oM oM) <| rw_q rfl (ev_assign (v := (i64 ((254 - (j : Int)) - 1))) rfl) <| rN ?_
         have hin : TimesR (invRGo x j) (invRGo x j) = invRGo x (j + 1) := invRGo_sq (by clear hxl; omega)
         exact ⟨⟨j + 1, oM, s0, s1, s2, s3, (show i64 (254 - (j : Int) - 1) = i64 (254 - ((j + 1 : Nat) : Int)) from congrArg i64 oM), (by rw [← hin]; exact hm10)⟩, (by show (RowKit.intOf (i64 (254 - (j : Int) - 1)) + 1).toNat < (RowKit.intOf _ + 1).toNat; rw [z4]; simp only [RowKit.intOf, i64]; omega)⟩
     · -- false
       have hb11p := eq_of_bne_false hb11
       refine rw_gn (s := 15) rfl rfl hb11 rfl <| rw_gn (s := 15) rfl rfl hb11 rfl <| rw_q rfl (ev_pick_fk rfl hb11 rfl) <| rN ?_
       refine CW.abs (fun g => g 0 = (agg i64 x) ∧ g 1 = (ptr b1 0) ∧ g 2 = (ptr b2 0) ∧ g 3 = (ptr b3 0) ∧ g 4 = (i64 (254 - (j : Int))) ∧ g 7 = (bl (decide (0 ≤ (254 - (j : Int))))) ∧ g 18 = (bl false) ∧ True) ⟨s0, s1, s2, s3, s4, rfl, rfl, trivial⟩ ?_
       rintro fr17 ⟨s0, s1, s2, s3, s4, s7, s18, _⟩
       refine cw_cond_f s18 (by decide) ?_
       refine cw_skip (kBlk_normal (cw_region ?_))
       refine rM rfl s4 <| rw_q rfl (ev_i64_sub (b := 1) rfl rfl oM oM) <| rw_q rfl (ev_assign (v := (i64 ((254 - (j : Int)) - 1))) rfl) <| rN ?_
       have hin : TimesR (invRGo x j) (invRGo x j) = invRGo x (j + 1) := invRGo_sq (by clear hxl; omega)
       exact ⟨⟨j + 1, oM, s0, s1, s2, s3, (show i64 (254 - (j : Int) - 1) = i64 (254 - ((j + 1 : Nat) : Int)) from congrArg i64 oM), (by rw [← hin]; exact hm10)⟩, (by show (RowKit.intOf (i64 (254 - (j : Int) - 1)) + 1).toNat < (RowKit.intOf _ + 1).toNat; rw [z4]; simp only [RowKit.intOf, i64]; omega)⟩
   · -- false
     have hc7p := of_decide_eq_false hc7
     obtain rfl : j = 255 := by omega
     refine cw_exit ?_
     refine kThen_exit (kThen_exit (kBlk_hit ?_))
     refine sR <| rw_q (v := (agg i64 (invRGo x 255))) rfl (ev_loadA uT56 rfl ti56 s3 hm6.h0 sZ) <| rw_n (or_store_agg (f := i64) (l := invRGo x 255) i64_one ti56 s2 rfl sD hm6.h1 sZ rfl) ?_
     rintro _ w18 uq18
     have hm18 := hm6.upd1 uq18
     refine rN (cw_ret ?_)
     refine fnPost_ret [(agg i64 (invRGo x 255))] ⟨⟨_, s2, loadVar_run uT56 rfl ti56 hm18.h1 sZ⟩, trivial⟩ ?_
     exact ⟨rfl, hm18.toExt⟩

set_option maxHeartbeats 1000000 in
theorem c_rread (u : List (BitVec 8)) (w0 : World)  (hu : u.length = 32) : CallsR Try.prog 26 #[(agg u8 u)] w0 (fun r w1 => r = (agg i64 (ReadR u)) ∧ Ext w0 w1) := by
 refine callsR_of_cw (args := [(agg u8 u)]) Try.func26 rfl Try.ntmps26 Try.results26 rfl ?_
 have hm0 : Mem w0 (restOf w0) [] := Mem.of_world w0
 refine sR <| rw_c rfl (or_box_agg (f := u8) (l := u) hm0 rfl) ?_
 rintro _ w1 ⟨b1, rfl, _ew1, hm1⟩
 refine rw_c rfl (or_alloc_agg hm1 ti56) ?_
 rintro _ w2 ⟨b2, rfl, _ew2, hm2⟩
 refine rN (sR ?_)
 refine rw_q rfl (ev_build_arr (ps := []) (c := (cl i64 (List.replicate 16 0))) ti56 uT56 ti2 (by simp) rfl) <| rw_c rfl (or_alloc_agg hm2 ti56) ?_
 rintro _ w3 ⟨b3, rfl, _ew3, hm3⟩
 refine rw_n (or_store_agg (f := i64) (l := List.replicate 16 0) i64_one ti56 rfl rfl sD hm3.h0 sZ rfl) ?_
 rintro _ w4 uq4
 have hm4 := hm3.upd0 uq4
 refine rN (cw_seq (sR ?_))
 refine rw_q rfl (ev_assign (v := (i64 0)) rfl) ?_
 refine rN (cw_block ?_)
 refine cw_loop (fun g wv => ∃ (i : Nat), (i ≤ 16) ∧ g 0 = (agg u8 u) ∧ g 1 = (ptr b1 0) ∧ g 2 = (ptr b2 0) ∧ g 3 = (ptr b3 0) ∧ g 4 = (i64 (i : Int)) ∧ Mem wv (restOf w0) [(b3, .cells (cl i64 (filled (fun q => ((u.getD (2 * q) 0).toNat : Int) + 256 * ((u.getD (2 * q + 1) 0).toNat : Int)) 0 16 i)) 56 (0, 0)), (b2, .cells (cl i64 (List.replicate 16 0)) 56 (0, 0)), (b1, .cells (cl u8 u) 23 (0, 0))]) (fun g wv => (16 - RowKit.intOf (g 4)).toNat) ?_ ?_
 · exact ⟨0, oM, rfl, rfl, rfl, rfl, rfl, (by rw [filled_zero]; exact hm4)⟩
 · rintro fr5 w6 ⟨i, hi, s0, s1, s2, s3, s4, hm6⟩
   have z4 := s4
   have hfl : (filled (fun q => ((u.getD (2 * q) 0).toNat : Int) + 256 * ((u.getD (2 * q + 1) 0).toNat : Int)) (0 : Int) 16 i).length = 16 := filled_length _ _ _ _ hi
   refine cw_seq (sR ?_)
   refine rM rfl s4 <| rw_q rfl (ev_i64_lss (b := 16) rfl rfl) <| rN ?_
   refine cw_cond rfl (fun hc7 => ?_) (fun hc7 => ?_)
   · -- true
     have hc7p := of_decide_eq_true hc7
     have hu1 := (u.getD (2 * i) 0).isLt
     have hu2 := (u.getD (2 * i + 1) 0).isLt
     refine cw_skip (kThen_normal (cw_seq (cw_block ?_)))
     refine cw_draw [(0, false), (1, false), (2, false), (3, false), (4, false), (5, false), (6, false), (7, false), (8, false), (9, false), (10, false), (11, false), (12, false), (13, false)] 14 (by kernel_rfl) <| dM rfl rfl s4 <| dM rfl rfl s4 <| dw_q rfl rfl (fun _ _hx => EvQ.cast (congrArg i64 (show 2 * (i : Int) = ((2 * i : Nat) : Int) by omega)) (ev_i64_mul (a := 2) rfl rfl oM oM)) <| dw_q rfl rfl (fun _ _hx => ev_ia_arr (r := (2 * i)) oM uT23 ti5 s1 rfl oM sD) <| dw_q (v := (u8 (u.getD (2 * i) 0))) rfl rfl (fun _ _hx => ev_load1 uT5 rfl rfl (hm6.ext _hx).h2 (get_clD _ _ 0 sD)) ?_
     refine dw_q rfl rfl (fun _ _hx => ev_conv_u8_i64 ⟨_, uT5⟩ uT2 rfl) <| dM rfl rfl s4 <| dw_q rfl rfl (fun _ _hx => ev_i64_mul (a := 2) rfl rfl oM oM) <| dw_q rfl rfl (fun _ _hx => EvQ.cast (congrArg i64 (show (2 * (i : Int)) + 1 = ((2 * i + 1 : Nat) : Int) by omega)) (ev_i64_add (b := 1) rfl rfl oM oM)) <| dw_q rfl rfl (fun _ _hx => ev_ia_arr (r := (2 * i + 1)) oM uT23 ti5 s1 rfl oM sD) <| dw_q (v := (u8 (u.getD (2 * i + 1) 0))) rfl rfl (fun _ _hx => ev_load1 uT5 rfl rfl (hm6.ext _hx).h2 (get_clD _ _ 0 sD)) ?_
     refine dw_q rfl rfl (fun _ _hx => ev_conv_u8_i64 ⟨_, uT5⟩ uT2 rfl) <| dw_q rfl rfl (fun _ _hx => ev_i64_mul (a := 256) rfl rfl oM oM) <| dw_q rfl rfl (fun _ _hx => ev_i64_add rfl rfl oM oM) ?_
     refine dw_nil (fun w8 _ew8 => ?_)
     have hm8 := hm6.ext _ew8
     refine rw_q rfl (ev_ia_arr (r := i) oM uT56 ti2 s3 rfl oM sD) <| rw_n (or_store_cl (f := i64) i64_one ti2 rfl rfl hm8.h0 sD (.inl (Nat.zero_le _))) ?_
     rintro _ w9 uq9
     have hm9 := hm8.upd0 uq9
     refine rw_nil (kBlk_normal ?_)
     refine CW.abs (fun g => g 0 = (agg u8 u) ∧ g 1 = (ptr b1 0) ∧ g 2 = (ptr b2 0) ∧ g 3 = (ptr b3 0) ∧ g 4 = (i64 (i : Int)) ∧ g 7 = (bl (decide ((i : Int) < 16))) ∧ True) ⟨s0, s1, s2, s3, s4, rfl, trivial⟩ ?_
     rintro fr10 ⟨s0, s1, s2, s3, s4, s7, _⟩
     refine cw_region <| rM rfl s4 <| rw_q rfl (ev_i64_add (b := 1) rfl rfl oM oM) <| rw_q rfl (ev_assign (v := (i64 ((i : Int) + 1))) rfl) <| rN ?_
     exact ⟨⟨i + 1, oM, s0, s1, s2, s3, rfl, (by rw [← filled_set (fun q => ((u.getD (2 * q) 0).toNat : Int) + 256 * ((u.getD (2 * q + 1) 0).toNat : Int)) (0 : Int) (n := 16) (k := i) oM _ rfl]; exact hm9)⟩, meas rfl z4 oM oM⟩
   · -- false
     have hc7p := of_decide_eq_false hc7
     obtain rfl : i = 16 := by omega
     have h15 := read_bd u
     refine cw_exit ?_
     refine kThen_exit (kThen_exit (kBlk_hit ?_))
     refine sR <| rw_q rfl (ev_ia_arr (r := 15) (i := 15) oM uT56 ti2 s3 rfl oM oM) <| rw_q (v := (i64 ((filled (fun q => ((u.getD (2 * q) 0).toNat : Int) + 256 * ((u.getD (2 * q + 1) 0).toNat : Int)) 0 16 16).getD 15 0))) rfl (ev_load1 uT2 rfl rfl hm6.h0 (get_clD _ _ 0 sD)) <| rw_q rfl (ev_i64_rem (b := 32768) rfl rfl oM oM oM) <| rw_q rfl (ev_ia_arr (r := 15) (i := 15) oM uT56 ti2 s3 rfl oM oM) <| rw_n (or_store_cl (f := i64) i64_one ti2 rfl rfl hm6.h0 sD (.inl (Nat.zero_le _))) ?_
     rintro _ w11 uq11
     have hm11 := hm6.upd0 uq11
     refine rN (cw_seq ?_)
     have hsl : ((filled (fun q => ((u.getD (2 * q) 0).toNat : Int) + 256 * ((u.getD (2 * q + 1) 0).toNat : Int)) 0 16 16).set 15 (((filled (fun q => ((u.getD (2 * q) 0).toNat : Int) + 256 * ((u.getD (2 * q + 1) 0).toNat : Int)) 0 16 16).getD 15 0) % 32768)).length = 16 := by rw [List.length_set]; exact hfl
     refine cw_region <| rw_q (v := (agg i64 ((filled (fun q => ((u.getD (2 * q) 0).toNat : Int) + 256 * ((u.getD (2 * q + 1) 0).toNat : Int)) 0 16 16).set 15 (((filled (fun q => ((u.getD (2 * q) 0).toNat : Int) + 256 * ((u.getD (2 * q + 1) 0).toNat : Int)) 0 16 16).getD 15 0) % 32768)))) rfl (ev_loadA uT56 rfl ti56 s3 hm11.h0 sZ) <| rw_n (or_store_agg (f := i64) (l := (filled (fun q => ((u.getD (2 * q) 0).toNat : Int) + 256 * ((u.getD (2 * q + 1) 0).toNat : Int)) 0 16 16).set 15 (((filled (fun q => ((u.getD (2 * q) 0).toNat : Int) + 256 * ((u.getD (2 * q + 1) 0).toNat : Int)) 0 16 16).getD 15 0) % 32768)) i64_one ti56 s2 rfl sD hm11.h1 sZ rfl) ?_
     rintro _ w12 uq12
     have hm12 := hm11.upd1 uq12
     refine rN (cw_ret ?_)
     refine fnPost_ret [(agg i64 ((filled (fun q => ((u.getD (2 * q) 0).toNat : Int) + 256 * ((u.getD (2 * q + 1) 0).toNat : Int)) 0 16 16).set 15 (((filled (fun q => ((u.getD (2 * q) 0).toNat : Int) + 256 * ((u.getD (2 * q + 1) 0).toNat : Int)) 0 16 16).getD 15 0) % 32768)))] ⟨⟨_, s2, loadVar_run uT56 rfl ti56 hm12.h1 sZ⟩, trivial⟩ ?_
     exact ⟨by unfold ReadR; rfl, hm12.toExt⟩

set_option maxHeartbeats 2000000 in
theorem c_rwrite (a : List Int) (w0 : World)  (ha : GoodR a) : CallsR Try.prog 30 #[(agg i64 a)] w0 (fun r w1 => r = (agg u8 (WriteR a)) ∧ Ext w0 w1) := by
 refine callsR_of_cw (args := [(agg i64 a)]) Try.func30 rfl Try.ntmps30 Try.results30 rfl ?_
 have hm0 : Mem w0 (restOf w0) [] := Mem.of_world w0
 have hal := ha.len; have hg1 := goodR_carry1 ha; have hg2 := goodR_carry1 hg1; have hg3 := goodR_carry1 hg2; have hgl := hg3.len
 refine sR <| rw_c rfl (or_box_agg (f := i64) (l := a) hm0 rfl) ?_
 rintro _ w1 ⟨b1, rfl, _ew1, hm1⟩
 refine rw_c rfl (or_alloc_agg hm1 ti23) ?_
 rintro _ w2 ⟨b2, rfl, _ew2, hm2⟩
 refine rN (sR ?_)
 refine rw_q (v := (agg i64 a)) rfl (ev_loadA uT56 rfl ti56 rfl hm2.h1 sZ) <| rw_c rfl (opR_call Try.func38 bd38 nm38 (args1 rfl) (c_rcarry a _ hal ha.wide)) ?_
 rintro _ w3 ⟨rfl, _ew3⟩
 have hm3 := hm2.ext _ew3
 refine rw_c rfl (opR_call Try.func38 bd38 nm38 (args1 rfl) (c_rcarry (carryR a) _ hg1.len hg1.wide)) ?_
 rintro _ w5 ⟨rfl, _ew5⟩
 have hm5 := hm3.ext _ew5
 refine rw_c rfl (opR_call Try.func38 bd38 nm38 (args1 rfl) (c_rcarry (carryR (carryR a)) _ hg2.len hg2.wide)) ?_
 rintro _ w7 ⟨rfl, _ew7⟩
 have hm7 := hm5.ext _ew7
 refine rw_n (or_store_agg (f := i64) (l := carryR (carryR (carryR a))) i64_one ti56 rfl rfl sD hm7.h1 sZ rfl) ?_
 rintro _ w9 uq9
 have hm9 := hm7.upd1 uq9
 refine rN (cw_seq (sR ?_))
 refine rw_q rfl (ev_assign (v := (i64 0)) rfl) ?_
 refine rN (cw_block ?_)
 refine cw_loop (fun g wv => ∃ (n : Nat), (n ≤ 2) ∧ g 0 = (agg i64 a) ∧ g 1 = (ptr b1 0) ∧ g 2 = (ptr b2 0) ∧ g 3 = (i64 (n : Int)) ∧ Mem wv (restOf w0) [(b1, .cells (cl i64 (redN (carryR (carryR (carryR a))) n)) 56 (0, 0)), (b2, .cells (cl u8 (List.replicate 32 0)) 23 (0, 0))]) (fun g wv => (2 - RowKit.intOf (g 3)).toNat) ?_ ?_
 have hm10 := (Mem.pick [_] [_] _ hm9)
 · exact ⟨0, oM, rfl, rfl, rfl, rfl, (by rw [redN_zero]; exact hm10)⟩
 · rintro fr11 w12 ⟨n, hn, s0, s1, s2, s3, hm12⟩
   have z3 := s3
   have hgn := goodR_red hg3 n
   have hgnl := hgn.len
   refine cw_seq (sR ?_)
   refine rM rfl s3 <| rw_q rfl (ev_i64_lss (b := 2) rfl rfl) <| rN ?_
   refine cw_cond rfl (fun hc13 => ?_) (fun hc13 => ?_)
   · -- true
     have hc13p := of_decide_eq_true hc13
     refine cw_skip (kThen_normal (cw_seq (cw_block (sR ?_))))
     refine rw_q rfl (ev_build_arr (ps := []) (c := (cl i64 (List.replicate 16 0))) ti56 uT56 ti2 (by simp) rfl) <| rw_c rfl (or_alloc_agg hm12 ti56) ?_
     rintro _ w14 ⟨b4, rfl, _ew14, hm14⟩
     refine rw_n (or_store_agg (f := i64) (l := List.replicate 16 0) i64_one ti56 rfl rfl sD hm14.h0 sZ rfl) ?_
     rintro _ w15 uq15
     have hm15 := hm14.upd0 uq15
     refine rN (cw_seq ?_)
     have ha0 := hgn.bd 0 oM
     refine cw_region <| rw_q rfl (ev_ia_arr (r := 0) (i := 0) oM uT56 ti2 s1 rfl oM oM) <| rw_q (v := (i64 ((redN (carryR (carryR (carryR a))) n).getD 0 0))) rfl (ev_load1 uT2 rfl rfl hm15.h1 (get_clD _ _ 0 sD)) <| rw_q rfl (ev_i64_sub (b := 65517) rfl rfl oM oM) <| rw_q rfl (ev_ia_arr (r := 0) (i := 0) oM uT56 ti2 rfl rfl oM oM) <| rw_n (or_store_cl' (f := i64) (l' := [((redN (carryR (carryR (carryR a))) n).getD 0 0) - 65517, 0, 0, 0, 0, 0, 0, 0, 0, 0, 0, 0, 0, 0, 0, 0]) rfl i64_one ti2 rfl rfl hm15.h0 (by simp) (.inl (Nat.zero_le _))) ?_
     rintro _ w16 uq16
     have hm16 := hm15.upd0 uq16
     refine rN (cw_seq (sR ?_))
     refine rw_q rfl (ev_assign (v := (i64 1)) rfl) ?_
     refine rN (cw_block ?_)
     refine cw_loop (fun g wv => ∃ (j : Nat), (j ≤ 15) ∧ g 0 = (agg i64 a) ∧ g 1 = (ptr b1 0) ∧ g 2 = (ptr b2 0) ∧ g 3 = (i64 (n : Int)) ∧ g 4 = (ptr b4 0) ∧ g 5 = (i64 ((j + 1 : Nat) : Int)) ∧ g 15 = (bl (decide ((n : Int) < 2))) ∧ Mem wv (restOf w0) [(b4, .cells (cl i64 (mG (redN (carryR (carryR (carryR a))) n) j)) 56 (0, 0)), (b1, .cells (cl i64 (redN (carryR (carryR (carryR a))) n)) 56 (0, 0)), (b2, .cells (cl u8 (List.replicate 32 0)) 23 (0, 0))]) (fun g wv => (16 - RowKit.intOf (g 5)).toNat) ?_ ?_
     · exact ⟨0, oM, s0, s1, s2, s3, rfl, rfl, rfl, (by rw [mG_zero]; exact hm16)⟩
     · rintro fr17 w18 ⟨j, hj, s0, s1, s2, s3, s4, s5, s15, hm18⟩
       have z5 := s5
       have hml := mG_length (redN (carryR (carryR (carryR a))) n) j
       refine cw_seq (sR ?_)
       refine rM rfl s5 <| rw_q rfl (ev_i64_lss (b := 16) rfl rfl) <| rN ?_
       refine cw_cond rfl (fun hc19 => ?_) (fun hc19 => ?_)
       · -- true
         have hc19p := of_decide_eq_true hc19
         have hmi := mG_inv hgn j oM
         have hab := hgn.bd (j + 1) oM
         refine cw_skip (kThen_normal (cw_seq (cw_block (sR ?_))))
         refine rw_q rfl (ev_assign (v := (i64 65535)) rfl) ?_
         refine rN (cw_seq (sR ?_))
         refine rM rfl s5 <| rw_q rfl (ev_i64_eql (b := 15) rfl rfl) <| rN ?_
         refine cw_cond rfl (fun hc20 => ?_) (fun hc20 => ?_)
         · -- true
           have hc20p := eq_of_beq hc20
           refine cw_region <| rw_q rfl (ev_assign (v := (i64 32767)) rfl) ?_
           refine rN (sR ?_)
           refine rM rfl s5 <| rw_q rfl (EvQ.cast (congrArg i64 (show ((j + 1 : Nat) : Int) - 1 = ((j : Nat) : Int) by omega)) (ev_i64_sub (b := 1) rfl rfl oM oM)) <| rw_q rfl (ev_ia_arr (r := j) oM uT56 ti2 s4 rfl oM sD) <| rw_q (v := (i64 ((mG (redN (carryR (carryR (carryR a))) n) j).getD j 0))) rfl (ev_load1 uT2 rfl rfl hm18.h0 (get_clD _ _ 0 sD)) <| rw_q rfl (ev_i64_shrK (p := 65536) (b := 16) rfl rfl rfl (by decide) (by decide)) <| rw_q rfl (EvQ.cast (congrArg i64 (show (((BitVec.ofInt 64 (((mG (redN (carryR (carryR (carryR a))) n) j).getD j 0) / 65536)).toNat &&& (1 : Int).toNat : Nat) : Int) = (((mG (redN (carryR (carryR (carryR a))) n) j).getD j 0) / 65536) % 2 by have hand := and_mod2 (((mG (redN (carryR (carryR (carryR a))) n) j).getD j 0) / 65536); omega)) (ev_i64_and (b := 1) rfl rfl oM oM)) ?_
           refine rw_q rfl (ev_assign (v := (i64 ((((mG (redN (carryR (carryR (carryR a))) n) j).getD j 0) / 65536) % 2))) rfl) <| rN ?_
           refine CW.abs (fun g => g 0 = (agg i64 a) ∧ g 1 = (ptr b1 0) ∧ g 2 = (ptr b2 0) ∧ g 3 = (i64 (n : Int)) ∧ g 4 = (ptr b4 0) ∧ g 5 = (i64 ((j + 1 : Nat) : Int)) ∧ g 6 = (i64 32767) ∧ g 7 = (i64 ((((mG (redN (carryR (carryR (carryR a))) n) j).getD j 0) / 65536) % 2)) ∧ g 15 = (bl (decide ((n : Int) < 2))) ∧ g 24 = (bl (decide (((j + 1 : Nat) : Int) < 16))) ∧ g 28 = (bl (((j + 1 : Nat) : Int) == 15)) ∧ True) ⟨s0, s1, s2, s3, s4, s5, rfl, rfl, s15, rfl, rfl, trivial⟩ ?_
           rintro fr21 ⟨s0, s1, s2, s3, s4, s5, s6, s7, s15, s24, s28, _⟩
           refine sR <| rM rfl s5 <| rM rfl s5 <| rw_q rfl (ev_ia_arr (r := (j + 1)) oM uT56 ti2 s1 rfl oM sD) <| rw_q (v := (i64 ((redN (carryR (carryR (carryR a))) n).getD (j + 1) 0))) rfl (ev_load1 uT2 rfl rfl hm18.h1 (get_clD _ _ 0 sD)) <| rM rfl s6 ?_
           refine rw_q rfl (ev_i64_sub (b := 32767) rfl rfl oM oM) <| rM rfl s7 <| rw_q rfl (ev_i64_sub rfl rfl oM oM) <| rw_q rfl (ev_ia_arr (r := (j + 1)) oM uT56 ti2 s4 rfl oM sD) <| rw_n (or_store_cl (f := i64) i64_one ti2 rfl rfl hm18.h0 sD (.inl (Nat.zero_le _))) ?_
           rintro _ w22 uq22
           have hm22 := hm18.upd0 uq22
           refine rN ?_
           have hq : ((mG (redN (carryR (carryR (carryR a))) n) j).set (j + 1) ((((redN (carryR (carryR (carryR a))) n).getD (j + 1) 0) - 32767) - ((((mG (redN (carryR (carryR (carryR a))) n) j).getD j 0) / 65536) % 2))).getD j 0 = (mG (redN (carryR (carryR (carryR a))) n) j).getD j 0 := getD_set_ne oM
           refine cw_region <| rM rfl s5 <| rw_q rfl (EvQ.cast (congrArg i64 (show ((j + 1 : Nat) : Int) - 1 = ((j : Nat) : Int) by omega)) (ev_i64_sub (b := 1) rfl rfl oM oM)) <| rM rfl s5 <| rw_q rfl (EvQ.cast (congrArg i64 (show ((j + 1 : Nat) : Int) - 1 = ((j : Nat) : Int) by omega)) (ev_i64_sub (b := 1) rfl rfl oM oM)) <| rw_q rfl (ev_ia_arr (r := j) oM uT56 ti2 s4 rfl oM sD) ?_
           refine rw_q (v := (i64 (((mG (redN (carryR (carryR (carryR a))) n) j).set (j + 1) ((((redN (carryR (carryR (carryR a))) n).getD (j + 1) 0) - 32767) - ((((mG (redN (carryR (carryR (carryR a))) n) j).getD j 0) / 65536) % 2))).getD j 0))) rfl (ev_load1 uT2 rfl rfl hm22.h0 (get_clD _ _ 0 sD)) <| rw_q rfl (EvQ.cast (congrArg i64 (show (((BitVec.ofInt 64 (((mG (redN (carryR (carryR (carryR a))) n) j).set (j + 1) ((((redN (carryR (carryR (carryR a))) n).getD (j + 1) 0) - 32767) - ((((mG (redN (carryR (carryR (carryR a))) n) j).getD j 0) / 65536) % 2))).getD j 0)).toNat &&& (65535 : Int).toNat : Nat) : Int) = (((mG (redN (carryR (carryR (carryR a))) n) j).set (j + 1) ((((redN (carryR (carryR (carryR a))) n).getD (j + 1) 0) - 32767) - ((((mG (redN (carryR (carryR (carryR a))) n) j).getD j 0) / 65536) % 2))).getD j 0) % 65536 by have hand := and_mod65536 (((mG (redN (carryR (carryR (carryR a))) n) j).set (j + 1) ((((redN (carryR (carryR (carryR a))) n).getD (j + 1) 0) - 32767) - ((((mG (redN (carryR (carryR (carryR a))) n) j).getD j 0) / 65536) % 2))).getD j 0); omega)) (ev_i64_and (b := 65535) rfl rfl oM oM)) <| rw_q rfl (ev_ia_arr (r := j) oM uT56 ti2 s4 rfl oM sD) <| rw_n (or_store_cl (f := i64) i64_one ti2 rfl rfl hm22.h0 sD (.inl (Nat.zero_le _))) ?_
           rintro _ w23 uq23
           have hm23 := hm22.upd0 uq23
           refine rw_nil (kBlk_normal ?_)
           refine CW.abs (fun g => g 0 = (agg i64 a) ∧ g 1 = (ptr b1 0) ∧ g 2 = (ptr b2 0) ∧ g 3 = (i64 (n : Int)) ∧ g 4 = (ptr b4 0) ∧ g 5 = (i64 ((j + 1 : Nat) : Int)) ∧ g 6 = (i64 32767) ∧ g 7 = (i64 ((((mG (redN (carryR (carryR (carryR a))) n) j).getD j 0) / 65536) % 2)) ∧ g 15 = (bl (decide ((n : Int) < 2))) ∧ g 24 = (bl (decide (((j + 1 : Nat) : Int) < 16))) ∧ g 28 = (bl (((j + 1 : Nat) : Int) == 15)) ∧ True) ⟨s0, s1, s2, s3, s4, s5, s6, s7, s15, s24, s28, trivial⟩ ?_
           rintro fr24 ⟨s0, s1, s2, s3, s4, s5, s6, s7, s15, s24, s28, _⟩
           refine cw_region <| rM rfl s5 <| rw_q rfl (ev_i64_add (b := 1) rfl rfl oM oM) <| rw_q rfl (ev_assign (v := (i64 (((j + 1 : Nat) : Int) + 1))) rfl) <| rN ?_
           have hcn : ((mG (redN (carryR (carryR (carryR a))) n) j).set (j + 1) ((((redN (carryR (carryR (carryR a))) n).getD (j + 1) 0) - 32767) - ((((mG (redN (carryR (carryR (carryR a))) n) j).getD j 0) / 65536) % 2))).set j ((((mG (redN (carryR (carryR (carryR a))) n) j).set (j + 1) ((((redN (carryR (carryR (carryR a))) n).getD (j + 1) 0) - 32767) - ((((mG (redN (carryR (carryR (carryR a))) n) j).getD j 0) / 65536) % 2))).getD j 0) % 65536) = mG (redN (carryR (carryR (carryR a))) n) (j + 1) := by show _ = mStep _ _ _; unfold mStep; rw [if_pos oM]
           exact ⟨⟨j + 1, oM, s0, s1, s2, s3, s4, rfl, s15, (by rw [← hcn]; exact hm23)⟩, meas rfl z5 oM oM⟩
         · -- false
           have hc20p := ne_of_beq_false hc20
           refine cw_skip (kThen_normal (sR ?_))
           refine rM rfl s5 <| rw_q rfl (EvQ.cast (congrArg i64 (show ((j + 1 : Nat) : Int) - 1 = ((j : Nat) : Int) by omega)) (ev_i64_sub (b := 1) rfl rfl oM oM)) <| rw_q rfl (ev_ia_arr (r := j) oM uT56 ti2 s4 rfl oM sD) <| rw_q (v := (i64 ((mG (redN (carryR (carryR (carryR a))) n) j).getD j 0))) rfl (ev_load1 uT2 rfl rfl hm18.h0 (get_clD _ _ 0 sD)) <| rw_q rfl (ev_i64_shrK (p := 65536) (b := 16) rfl rfl rfl (by decide) (by decide)) <| rw_q rfl (EvQ.cast (congrArg i64 (show (((BitVec.ofInt 64 (((mG (redN (carryR (carryR (carryR a))) n) j).getD j 0) / 65536)).toNat &&& (1 : Int).toNat : Nat) : Int) = (((mG (redN (carryR (carryR (carryR a))) n) j).getD j 0) / 65536) % 2 by have hand := and_mod2 (((mG (redN (carryR (carryR (carryR a))) n) j).getD j 0) / 65536); omega)) (ev_i64_and (b := 1) rfl rfl oM oM)) ?_
           refine rw_q rfl (ev_assign (v := (i64 ((((mG (redN (carryR (carryR (carryR a))) n) j).getD j 0) / 65536) % 2))) rfl) <| rN ?_
           refine CW.abs (fun g => g 0 = (agg i64 a) ∧ g 1 = (ptr b1 0) ∧ g 2 = (ptr b2 0) ∧ g 3 = (i64 (n : Int)) ∧ g 4 = (ptr b4 0) ∧ g 5 = (i64 ((j + 1 : Nat) : Int)) ∧ g 6 = (i64 65535) ∧ g 7 = (i64 ((((mG (redN (carryR (carryR (carryR a))) n) j).getD j 0) / 65536) % 2)) ∧ g 15 = (bl (decide ((n : Int) < 2))) ∧ g 24 = (bl (decide (((j + 1 : Nat) : Int) < 16))) ∧ g 28 = (bl (((j + 1 : Nat) : Int) == 15)) ∧ True) ⟨s0, s1, s2, s3, s4, s5, rfl, rfl, s15, rfl, rfl, trivial⟩ ?_
           rintro fr25 ⟨s0, s1, s2, s3, s4, s5, s6, s7, s15, s24, s28, _⟩
           refine sR <| rM rfl s5 <| rM rfl s5 <| rw_q rfl (ev_ia_arr (r := (j + 1)) oM uT56 ti2 s1 rfl oM sD) <| rw_q (v := (i64 ((redN (carryR (carryR (carryR a))) n).getD (j + 1) 0))) rfl (ev_load1 uT2 rfl rfl hm18.h1 (get_clD _ _ 0 sD)) <| rM rfl s6 ?_
           refine rw_q rfl (ev_i64_sub (b := 65535) rfl rfl oM oM) <| rM rfl s7 <| rw_q rfl (ev_i64_sub rfl rfl oM oM) <| rw_q rfl (ev_ia_arr (r := (j + 1)) oM uT56 ti2 s4 rfl oM sD) <| rw_n (or_store_cl (f := i64) i64_one ti2 rfl rfl hm18.h0 sD (.inl (Nat.zero_le _))) ?_
           rintro _ w26 uq26
           have hm26 := hm18.upd0 uq26
           refine rN ?_
           have hq : ((mG (redN (carryR (carryR (carryR a))) n) j).set (j + 1) ((((redN (carryR (carryR (carryR a))) n).getD (j + 1) 0) - 65535) - ((((mG (redN (carryR (carryR (carryR a))) n) j).getD j 0) / 65536) % 2))).getD j 0 = (mG (redN (carryR (carryR (carryR a))) n) j).getD j 0 := getD_set_ne oM
           refine cw_region <| rM rfl s5 <| rw_q rfl (EvQ.cast (congrArg i64 (show ((j + 1 : Nat) : Int) - 1 = ((j : Nat) : Int) by omega)) (ev_i64_sub (b := 1) rfl rfl oM oM)) <| rM rfl s5 <| rw_q rfl (EvQ.cast (congrArg i64 (show ((j + 1 : Nat) : Int) - 1 = ((j : Nat) : Int) by omega)) (ev_i64_sub (b := 1) rfl rfl oM oM)) <| rw_q rfl (ev_ia_arr (r := j) oM uT56 ti2 s4 rfl oM sD) ?_
           refine rw_q (v := (i64 (((mG (redN (carryR (carryR (carryR a))) n) j).set (j + 1) ((((redN (carryR (carryR (carryR a))) n).getD (j + 1) 0) - 65535) - ((((mG (redN (carryR (carryR (carryR a))) n) j).getD j 0) / 65536) % 2))).getD j 0))) rfl (ev_load1 uT2 rfl rfl hm26.h0 (get_clD _ _ 0 sD)) <| rw_q rfl (EvQ.cast (congrArg i64 (show (((BitVec.ofInt 64 (((mG (redN (carryR (carryR (carryR a))) n) j).set (j + 1) ((((redN (carryR (carryR (carryR a))) n).getD (j + 1) 0) - 65535) - ((((mG (redN (carryR (carryR (carryR a))) n) j).getD j 0) / 65536) % 2))).getD j 0)).toNat &&& (65535 : Int).toNat : Nat) : Int) = (((mG (redN (carryR (carryR (carryR a))) n) j).set (j + 1) ((((redN (carryR (carryR (carryR a))) n).getD (j + 1) 0) - 65535) - ((((mG (redN (carryR (carryR (carryR a))) n) j).getD j 0) / 65536) % 2))).getD j 0) % 65536 by have hand := and_mod65536 (((mG (redN (carryR (carryR (carryR a))) n) j).set (j + 1) ((((redN (carryR (carryR (carryR a))) n).getD (j + 1) 0) - 65535) - ((((mG (redN (carryR (carryR (carryR a))) n) j).getD j 0) / 65536) % 2))).getD j 0); omega)) (ev_i64_and (b := 65535) rfl rfl oM oM)) <| rw_q rfl (ev_ia_arr (r := j) oM uT56 ti2 s4 rfl oM sD) <| rw_n (or_store_cl (f := i64) i64_one ti2 rfl rfl hm26.h0 sD (.inl (Nat.zero_le _))) ?_
           rintro _ w27 uq27
           have hm27 := hm26.upd0 uq27
           refine rw_nil (kBlk_normal ?_)
           refine CW.abs (fun g => g 0 = (agg i64 a) ∧ g 1 = (ptr b1 0) ∧ g 2 = (ptr b2 0) ∧ g 3 = (i64 (n : Int)) ∧ g 4 = (ptr b4 0) ∧ g 5 = (i64 ((j + 1 : Nat) : Int)) ∧ g 6 = (i64 65535) ∧ g 7 = (i64 ((((mG (redN (carryR (carryR (carryR a))) n) j).getD j 0) / 65536) % 2)) ∧ g 15 = (bl (decide ((n : Int) < 2))) ∧ g 24 = (bl (decide (((j + 1 : Nat) : Int) < 16))) ∧ g 28 = (bl (((j + 1 : Nat) : Int) == 15)) ∧ True) ⟨s0, s1, s2, s3, s4, s5, s6, s7, s15, s24, s28, trivial⟩ ?_
           rintro fr28 ⟨s0, s1, s2, s3, s4, s5, s6, s7, s15, s24, s28, _⟩
           refine cw_region <| rM rfl s5 <| rw_q rfl (ev_i64_add (b := 1) rfl rfl oM oM) <| rw_q rfl (ev_assign (v := (i64 (((j + 1 : Nat) : Int) + 1))) rfl) <| rN ?_
           have hcn : ((mG (redN (carryR (carryR (carryR a))) n) j).set (j + 1) ((((redN (carryR (carryR (carryR a))) n).getD (j + 1) 0) - 65535) - ((((mG (redN (carryR (carryR (carryR a))) n) j).getD j 0) / 65536) % 2))).set j ((((mG (redN (carryR (carryR (carryR a))) n) j).set (j + 1) ((((redN (carryR (carryR (carryR a))) n).getD (j + 1) 0) - 65535) - ((((mG (redN (carryR (carryR (carryR a))) n) j).getD j 0) / 65536) % 2))).getD j 0) % 65536) = mG (redN (carryR (carryR (carryR a))) n) (j + 1) := by show _ = mStep _ _ _; unfold mStep; rw [if_neg oM]
           exact ⟨⟨j + 1, oM, s0, s1, s2, s3, s4, rfl, s15, (by rw [← hcn]; exact hm27)⟩, meas rfl z5 oM oM⟩
       · -- false
         have hc19p := of_decide_eq_false hc19
         obtain rfl : j = 15 := by omega
         have hmi := mG_inv hgn 15 oM
         have hml := mG_length (redN (carryR (carryR (carryR a))) n) 15
         refine cw_exit ?_
         refine kThen_exit (kThen_exit (kBlk_hit ?_))
         refine sR <| rw_q rfl (ev_ia_arr (r := 15) (i := 15) oM uT56 ti2 s4 rfl oM oM) <| rw_q (v := (i64 ((mG (redN (carryR (carryR (carryR a))) n) 15).getD 15 0))) rfl (ev_load1 uT2 rfl rfl hm18.h0 (get_clD _ _ 0 sD)) <| rw_q rfl (ev_i64_geq (b := 0) rfl rfl) <| rN ?_
         refine cw_cond rfl (fun hc29 => ?_) (fun hc29 => ?_)
         · -- true
           have hc29p := of_decide_eq_true hc29
           refine cw_region <| rw_q (v := (agg i64 (mG (redN (carryR (carryR (carryR a))) n) 15))) rfl (ev_loadA uT56 rfl ti56 s4 hm18.h0 sZ) <| rw_n (or_store_agg (f := i64) (l := mG (redN (carryR (carryR (carryR a))) n) 15) i64_one ti56 s1 rfl sD hm18.h1 sZ rfl) ?_
           rintro _ w30 uq30
           have hm30 := hm18.upd1 uq30
           refine rw_nil (kBlk_normal (cw_region ?_))
           refine rM rfl s3 <| rw_q rfl (ev_i64_add (b := 1) rfl rfl oM oM) <| rw_q rfl (ev_assign (v := (i64 ((n : Int) + 1))) rfl) <| rN ?_
           have hcr : mG (redN (carryR (carryR (carryR a))) n) 15 = redN (carryR (carryR (carryR a))) (n + 1) := by show _ = subP _; unfold subP; rw [if_pos oM]
           have hm31 := Mem.drop ([(b4, .cells (cl i64 (mG (redN (carryR (carryR (carryR a))) n) 15)) 56 (0, 0))]) _ hm30
           exact ⟨⟨n + 1, oM, s0, s1, s2, rfl, (by rw [← hcr]; exact hm31)⟩, meas rfl z3 oM oM⟩
         · -- false
           have hc29p := of_decide_eq_false hc29
           refine cw_skip (kBlk_normal (cw_region ?_))
           refine rM rfl s3 <| rw_q rfl (ev_i64_add (b := 1) rfl rfl oM oM) <| rw_q rfl (ev_assign (v := (i64 ((n : Int) + 1))) rfl) <| rN ?_
           have hcr : redN (carryR (carryR (carryR a))) n = redN (carryR (carryR (carryR a))) (n + 1) := by show _ = subP _; unfold subP; rw [if_neg oM]
           have hm32 := Mem.drop ([(b4, .cells (cl i64 (mG (redN (carryR (carryR (carryR a))) n) 15)) 56 (0, 0))]) _ hm18
           exact ⟨⟨n + 1, oM, s0, s1, s2, rfl, (by rw [← hcr]; exact hm32)⟩, meas rfl z3 oM oM⟩
   · -- false
     have hc13p := of_decide_eq_false hc13
     obtain rfl : n = 2 := by omega
     refine cw_exit ?_
     refine kThen_exit (kThen_exit (kBlk_hit ?_))
     refine sR <| rw_q rfl (ev_build_arr (ps := []) (c := (cl u8 (List.replicate 32 0))) ti23 uT23 ti5 (by simp) rfl) <| rw_c rfl (or_alloc_agg hm12 ti23) ?_
     rintro _ w33 ⟨b8, rfl, _ew33, hm33⟩
     refine rw_n (or_store_agg (f := u8) (l := List.replicate 32 0) u8_one ti23 rfl rfl sD hm33.h0 sZ rfl) ?_
     rintro _ w34 uq34
     have hm34 := hm33.upd0 uq34
     refine rN (cw_seq (sR ?_))
     refine rw_q rfl (ev_assign (v := (i64 0)) rfl) ?_
     refine rN (cw_block ?_)
     refine cw_loop (fun g wv => ∃ (i : Nat), (i ≤ 16) ∧ g 0 = (agg i64 a) ∧ g 1 = (ptr b1 0) ∧ g 2 = (ptr b2 0) ∧ g 3 = (i64 (2 : Int)) ∧ g 8 = (ptr b8 0) ∧ g 9 = (i64 (i : Int)) ∧ g 15 = (bl (decide ((2 : Int) < 2))) ∧ Mem wv (restOf w0) [(b8, .cells (cl u8 (wbGo (redN (carryR (carryR (carryR a))) 2) i)) 23 (0, 0)), (b1, .cells (cl i64 (redN (carryR (carryR (carryR a))) 2)) 56 (0, 0)), (b2, .cells (cl u8 (List.replicate 32 0)) 23 (0, 0))]) (fun g wv => (16 - RowKit.intOf (g 9)).toNat) ?_ ?_
     · exact ⟨0, oM, s0, s1, s2, s3, rfl, rfl, rfl, (by rw [wbGo_zero]; exact hm34)⟩
     · rintro fr35 w36 ⟨i, hi, s0, s1, s2, s3, s8, s9, s15, hm36⟩
       have z9 := s9
       have hwl := wbGo_length (redN (carryR (carryR (carryR a))) 2) i
       refine cw_seq (sR ?_)
       refine rM rfl s9 <| rw_q rfl (ev_i64_lss (b := 16) rfl rfl) <| rN ?_
       refine cw_cond rfl (fun hc37 => ?_) (fun hc37 => ?_)
       · -- true
         have hc37p := of_decide_eq_true hc37
         have hab := hgn.bd i oM
         refine cw_skip (kThen_normal (cw_seq (cw_block (sR ?_))))
         refine rM rfl s9 <| rw_q rfl (EvQ.cast (congrArg i64 (show 2 * (i : Int) = ((2 * i : Nat) : Int) by omega)) (ev_i64_mul (a := 2) rfl rfl oM oM)) <| rM rfl s9 <| rw_q rfl (ev_ia_arr (r := i) oM uT56 ti2 s1 rfl oM sD) <| rw_q (v := (i64 ((redN (carryR (carryR (carryR a))) 2).getD i 0))) rfl (ev_load1 uT2 rfl rfl hm36.h1 (get_clD _ _ 0 sD)) <| rw_q rfl (ev_conv_i64_u8 ⟨_, uT2⟩ uT5 rfl) ?_
         refine rw_q rfl (ev_ia_arr (r := (2 * i)) oM uT23 ti5 s8 rfl oM sD) <| rw_n (or_store_cl (f := u8) (a := BitVec.ofInt 8 ((redN (carryR (carryR (carryR a))) 2).getD i 0)) u8_one ti5 rfl rfl hm36.h0 sD (.inl (Nat.zero_le _))) ?_
         rintro _ w38 uq38
         have hm38 := hm36.upd0 uq38
         refine rN (cw_region ?_)
         refine rM rfl s9 <| rw_q rfl (ev_i64_mul (a := 2) rfl rfl oM oM) <| rw_q rfl (EvQ.cast (congrArg i64 (show (2 * (i : Int)) + 1 = ((2 * i + 1 : Nat) : Int) by omega)) (ev_i64_add (b := 1) rfl rfl oM oM)) <| rM rfl s9 <| rw_q rfl (ev_ia_arr (r := i) oM uT56 ti2 s1 rfl oM sD) <| rw_q (v := (i64 ((redN (carryR (carryR (carryR a))) 2).getD i 0))) rfl (ev_load1 uT2 rfl rfl hm38.h1 (get_clD _ _ 0 sD)) ?_
         refine rw_q rfl (ev_i64_shrK (p := 256) (b := 8) rfl rfl rfl (by decide) (by decide)) <| rw_q rfl (ev_conv_i64_u8 ⟨_, uT2⟩ uT5 rfl) <| rw_q rfl (ev_ia_arr (r := (2 * i + 1)) oM uT23 ti5 s8 rfl oM sD) <| rw_n (or_store_cl (f := u8) (a := BitVec.ofInt 8 (((redN (carryR (carryR (carryR a))) 2).getD i 0) / 256)) u8_one ti5 rfl rfl hm38.h0 sD (.inl (Nat.zero_le _))) ?_
         rintro _ w39 uq39
         have hm39 := hm38.upd0 uq39
         refine rw_nil (kBlk_normal ?_)
         refine CW.abs (fun g => g 0 = (agg i64 a) ∧ g 1 = (ptr b1 0) ∧ g 2 = (ptr b2 0) ∧ g 3 = (i64 (2 : Int)) ∧ g 8 = (ptr b8 0) ∧ g 9 = (i64 (i : Int)) ∧ g 15 = (bl (decide ((2 : Int) < 2))) ∧ g 58 = (bl (decide ((i : Int) < 16))) ∧ True) ⟨s0, s1, s2, s3, s8, s9, s15, rfl, trivial⟩ ?_
         rintro fr40 ⟨s0, s1, s2, s3, s8, s9, s15, s58, _⟩
         refine cw_region <| rM rfl s9 <| rw_q rfl (ev_i64_add (b := 1) rfl rfl oM oM) <| rw_q rfl (ev_assign (v := (i64 ((i : Int) + 1))) rfl) <| rN ?_
         exact ⟨⟨i + 1, oM, s0, s1, s2, s3, s8, rfl, s15, (by rw [wbGo_succ]; exact hm39)⟩, meas rfl z9 oM oM⟩
       · -- false
         have hc37p := of_decide_eq_false hc37
         obtain rfl : i = 16 := by omega
         have hwl := wbGo_length (redN (carryR (carryR (carryR a))) 2) 16
         refine cw_exit ?_
         refine kThen_exit (kThen_exit (kBlk_hit ?_))
         refine sR <| rw_q (v := (agg u8 (wbGo (redN (carryR (carryR (carryR a))) 2) 16))) rfl (ev_loadA uT23 rfl ti23 s8 hm36.h0 sZ) <| rw_n (or_store_agg (f := u8) (l := wbGo (redN (carryR (carryR (carryR a))) 2) 16) u8_one ti23 s2 rfl sD hm36.h2 sZ rfl) ?_
         rintro _ w41 uq41
         have hm41 := hm36.upd2 uq41
         refine rN (cw_ret ?_)
         refine fnPost_ret [(agg u8 (wbGo (redN (carryR (carryR (carryR a))) 2) 16))] ⟨⟨_, s2, loadVar_run uT23 rfl ti23 hm41.h2 sZ⟩, trivial⟩ ?_
         exact ⟨by unfold WriteR; rfl, hm41.toExt⟩


end Go.Proofs.Ytmiagmbgfhakgaa
