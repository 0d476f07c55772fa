/- The law of the bundles' bytes: its walk. Conditions: none beyond those that each theorem states. -/
import Derived.Test.YtmiagmbgfhakgaaBu1
import Derived.Test.YtmiagmbgfhakgaaFwL
import Derived.Test.YtmiagmbgfhakgaaFwT
namespace Go.Proofs.Ytmiagmbgfhakgaa
set_option linter.unusedVariables false
set_option linter.unusedSimpArgs false

theorem c_speaks18  (w0 : World)   : CallsR Try.prog 8 #[] w0 (fun r w1 => r = (bl true) ∧ Ext w0 w1) := by
 refine callsR_of_cw (args := []) Try.func8 rfl Try.ntmps8 Try.results8 rfl ?_
 have hm0 : Mem w0 (restOf w0) [] := Mem.of_world w0
 refine cw_seq (cw_region ?_)
 refine rw_q rfl (ev_assign (v := (bl false)) rfl) ?_
 refine rw_nil (kThen_normal (cw_seq (cw_region ?_)))
 refine rw_q rfl (ev_build_pa (c := (cl u8 ([7#8, 0#8, 0#8, 0#8, 0#8, 0#8, 0#8, 0#8, 0#8, 0#8, 0#8, 0#8, 0#8, 0#8, 0#8, 0#8, 0#8, 0#8, 0#8, 0#8, 0#8, 0#8, 0#8, 0#8, 0#8, 0#8, 0#8, 0#8, 0#8, 0#8, 0#8, 0#8]))) ti23 uT23 ti5 (pm_cons (i := 0) (v := (u8 7#8)) (cs := #[(u8 7#8)]) rfl rfl pm_nil) (by kernel_rfl)) <| rw_q rfl (ev_build_pt (c := #[(u8 7#8), (u8 0#8), (u8 0#8), (u8 0#8), (u8 0#8), (u8 0#8), (u8 0#8), (u8 0#8), (u8 0#8), (u8 0#8), (u8 0#8), (u8 0#8), (u8 0#8), (u8 0#8), (u8 0#8), (u8 0#8), (u8 0#8), (u8 0#8), (u8 0#8), (u8 0#8), (u8 0#8), (u8 0#8), (u8 0#8), (u8 0#8), (u8 0#8), (u8 0#8), (u8 0#8), (u8 0#8), (u8 0#8), (u8 0#8), (u8 0#8), (u8 0#8), (u8 0), (u8 0), (u8 0), (u8 0), (u8 0), (u8 0), (u8 0), (u8 0), (u8 0), (u8 0), (u8 0), (u8 0), (u8 0), (u8 0), (u8 0), (u8 0), (u8 0), (u8 0), (u8 0), (u8 0), (u8 0), (u8 0), (u8 0), (u8 0), (u8 0), (u8 0), (u8 0), (u8 0), (u8 0), (u8 0), (u8 0), (u8 0)]) (pl := [(0, 32), (32, 32)]) ti25 uT25 (by kernel_rfl) (pm_cons (i := 0) (v := (agg u8 ([7#8, 0#8, 0#8, 0#8, 0#8, 0#8, 0#8, 0#8, 0#8, 0#8, 0#8, 0#8, 0#8, 0#8, 0#8, 0#8, 0#8, 0#8, 0#8, 0#8, 0#8, 0#8, 0#8, 0#8, 0#8, 0#8, 0#8, 0#8, 0#8, 0#8, 0#8, 0#8]))) (cs := (cl u8 ([7#8, 0#8, 0#8, 0#8, 0#8, 0#8, 0#8, 0#8, 0#8, 0#8, 0#8, 0#8, 0#8, 0#8, 0#8, 0#8, 0#8, 0#8, 0#8, 0#8, 0#8, 0#8, 0#8, 0#8, 0#8, 0#8, 0#8, 0#8, 0#8, 0#8, 0#8, 0#8]))) rfl rfl pm_nil) (by kernel_rfl)) <| rw_c rfl (opR_call Try.func10 bd10 nm10 (args1 rfl) (c_bencode ([7#8, 0#8, 0#8, 0#8, 0#8, 0#8, 0#8, 0#8, 0#8, 0#8, 0#8, 0#8, 0#8, 0#8, 0#8, 0#8, 0#8, 0#8, 0#8, 0#8, 0#8, 0#8, 0#8, 0#8, 0#8, 0#8, 0#8, 0#8, 0#8, 0#8, 0#8, 0#8]) ([0, 0, 0, 0, 0, 0, 0, 0, 0, 0, 0, 0, 0, 0, 0, 0, 0, 0, 0, 0, 0, 0, 0, 0, 0, 0, 0, 0, 0, 0, 0, 0]) _ sD sD)) ?_
 rintro rq2 w1 ⟨Hsq2, grq2, k_w1⟩
 have hm1 : Mem w1 (restOf w0) (Hsq2 ++ ([])) := Mem.new (H := []) (H' := Hsq2) hm0 k_w1
 refine rA rfl (v := rq2) rfl ?_
 refine rw_nil (kThen_normal (cw_seq (cw_region ?_)))
 refine rM rfl (v := rq2) rfl <| rw_q (v := (i64 ((encB ([7#8, 0#8, 0#8, 0#8, 0#8, 0#8, 0#8, 0#8, 0#8, 0#8, 0#8, 0#8, 0#8, 0#8, 0#8, 0#8, 0#8, 0#8, 0#8, 0#8, 0#8, 0#8, 0#8, 0#8, 0#8, 0#8, 0#8, 0#8, 0#8, 0#8, 0#8, 0#8]) ([0, 0, 0, 0, 0, 0, 0, 0, 0, 0, 0, 0, 0, 0, 0, 0, 0, 0, 0, 0, 0, 0, 0, 0, 0, 0, 0, 0, 0, 0, 0, 0])).length : Int))) rfl (ev_len_rd (grq2.rd hm1) uT26 rfl) <| rw_q rfl (ev_i64_eql (b := 65) rfl rfl) <| rM rfl rfl ?_
 have hd3 : (((encB ([7#8, 0#8, 0#8, 0#8, 0#8, 0#8, 0#8, 0#8, 0#8, 0#8, 0#8, 0#8, 0#8, 0#8, 0#8, 0#8, 0#8, 0#8, 0#8, 0#8, 0#8, 0#8, 0#8, 0#8, 0#8, 0#8, 0#8, 0#8, 0#8, 0#8, 0#8, 0#8]) ([0, 0, 0, 0, 0, 0, 0, 0, 0, 0, 0, 0, 0, 0, 0, 0, 0, 0, 0, 0, 0, 0, 0, 0, 0, 0, 0, 0, 0, 0, 0, 0])).length : Int) == 65) = true := told_true rfl
 refine rw_gyq (s := 8) rfl rfl hd3 rfl (ev_move (v := rq2) rfl) <| rw_gyq (s := 8) rfl rfl hd3 rfl (ev_indexAddr_rdv (i := 0) (grq2.rd hm1) uT26 ti5 rfl rfl oM sD) <| rw_gyq (s := 8) rfl rfl hd3 rfl (ev_load_rdD (l := encB ([7#8, 0#8, 0#8, 0#8, 0#8, 0#8, 0#8, 0#8, 0#8, 0#8, 0#8, 0#8, 0#8, 0#8, 0#8, 0#8, 0#8, 0#8, 0#8, 0#8, 0#8, 0#8, 0#8, 0#8, 0#8, 0#8, 0#8, 0#8, 0#8, 0#8, 0#8, 0#8]) ([0, 0, 0, 0, 0, 0, 0, 0, 0, 0, 0, 0, 0, 0, 0, 0, 0, 0, 0, 0, 0, 0, 0, 0, 0, 0, 0, 0, 0, 0, 0, 0])) (i := 0) (dflt := 0) (grq2.rd hm1) uT5 rfl oM sD rfl) <| rw_gyq (s := 8) rfl rfl hd3 rfl (ev_u8_eql (b := 1#8) rfl rfl) <| rw_q rfl (ev_pick_tk rfl hd3 rfl) <| rM rfl rfl ?_
 have hd4 : (((encB ([7#8, 0#8, 0#8, 0#8, 0#8, 0#8, 0#8, 0#8, 0#8, 0#8, 0#8, 0#8, 0#8, 0#8, 0#8, 0#8, 0#8, 0#8, 0#8, 0#8, 0#8, 0#8, 0#8, 0#8, 0#8, 0#8, 0#8, 0#8, 0#8, 0#8, 0#8, 0#8]) ([0, 0, 0, 0, 0, 0, 0, 0, 0, 0, 0, 0, 0, 0, 0, 0, 0, 0, 0, 0, 0, 0, 0, 0, 0, 0, 0, 0, 0, 0, 0, 0])).getD 0 0) == 1#8) = true := told_true rfl
 refine rw_gyq (s := 14) rfl rfl hd4 rfl (ev_move (v := rq2) rfl) <| rw_gyq (s := 14) rfl rfl hd4 rfl (ev_indexAddr_rdv (i := 1) (grq2.rd hm1) uT26 ti5 rfl rfl oM sD) <| rw_gyq (s := 14) rfl rfl hd4 rfl (ev_load_rdD (l := encB ([7#8, 0#8, 0#8, 0#8, 0#8, 0#8, 0#8, 0#8, 0#8, 0#8, 0#8, 0#8, 0#8, 0#8, 0#8, 0#8, 0#8, 0#8, 0#8, 0#8, 0#8, 0#8, 0#8, 0#8, 0#8, 0#8, 0#8, 0#8, 0#8, 0#8, 0#8, 0#8]) ([0, 0, 0, 0, 0, 0, 0, 0, 0, 0, 0, 0, 0, 0, 0, 0, 0, 0, 0, 0, 0, 0, 0, 0, 0, 0, 0, 0, 0, 0, 0, 0])) (i := 1) (dflt := 0) (grq2.rd hm1) uT5 rfl oM sD rfl) <| rw_gyq (s := 14) rfl rfl hd4 rfl (ev_u8_eql (b := 7#8) rfl rfl) <| rw_q rfl (ev_pick_tk rfl hd4 rfl) <| rA rfl rfl ?_
 refine rw_nil (kThen_normal ?_)
 refine CW.abs (fun g => g 0 = (bl (((encB ([7#8, 0#8, 0#8, 0#8, 0#8, 0#8, 0#8, 0#8, 0#8, 0#8, 0#8, 0#8, 0#8, 0#8, 0#8, 0#8, 0#8, 0#8, 0#8, 0#8, 0#8, 0#8, 0#8, 0#8, 0#8, 0#8, 0#8, 0#8, 0#8, 0#8, 0#8, 0#8]) ([0, 0, 0, 0, 0, 0, 0, 0, 0, 0, 0, 0, 0, 0, 0, 0, 0, 0, 0, 0, 0, 0, 0, 0, 0, 0, 0, 0, 0, 0, 0, 0])).getD 1 0) == 7#8)) ∧ g 1 = rq2 ∧ True) ⟨rfl, rfl, trivial⟩ ?_
 rintro fr5 ⟨s0, s1, _⟩
 refine cw_ret <| fnPost_ret [(bl (((encB ([7#8, 0#8, 0#8, 0#8, 0#8, 0#8, 0#8, 0#8, 0#8, 0#8, 0#8, 0#8, 0#8, 0#8, 0#8, 0#8, 0#8, 0#8, 0#8, 0#8, 0#8, 0#8, 0#8, 0#8, 0#8, 0#8, 0#8, 0#8, 0#8, 0#8, 0#8, 0#8]) ([0, 0, 0, 0, 0, 0, 0, 0, 0, 0, 0, 0, 0, 0, 0, 0, 0, 0, 0, 0, 0, 0, 0, 0, 0, 0, 0, 0, 0, 0, 0, 0])).getD 1 0) == 7#8))] ⟨s0, trivial⟩ ?_
 have hd6 : (((encB ([7#8, 0#8, 0#8, 0#8, 0#8, 0#8, 0#8, 0#8, 0#8, 0#8, 0#8, 0#8, 0#8, 0#8, 0#8, 0#8, 0#8, 0#8, 0#8, 0#8, 0#8, 0#8, 0#8, 0#8, 0#8, 0#8, 0#8, 0#8, 0#8, 0#8, 0#8, 0#8]) ([0, 0, 0, 0, 0, 0, 0, 0, 0, 0, 0, 0, 0, 0, 0, 0, 0, 0, 0, 0, 0, 0, 0, 0, 0, 0, 0, 0, 0, 0, 0, 0])).getD 1 0) == 7#8) = true := told_true rfl
 exact ⟨congrArg bl (told_true rfl), hm1.toExt⟩

set_option maxHeartbeats 1000000 in
theorem law_bcodes (id pk : List (BitVec 8)) (vb : Value) (l : List (BitVec 8)) (w0 : World)  (hid : id.length = 32) (hpk : pk.length = 32) (hr : Rd (blks w0) u8 vb l) (hl : l.length ≤ 9223372036854775807) : CallsR Try.prog 3 #[(Value.agg (segs [id.map u8, pk.map u8])), vb] w0 (fun r w1 => r = bl true ∧ RowKit.Below w0.heap.size w0 w1) := by
 refine callsR_of_cw (args := [(Value.agg (segs [id.map u8, pk.map u8])), vb]) Try.func3 rfl Try.ntmps3 Try.results3 rfl ?_
 have hm0 : Mem w0 (restOf w0) [] := Mem.of_world w0
 have hel := encB_length id pk
 have hdi := decI_length l; have hdp := decP_length l
 have hei := decI_length (encB id pk); have hep := decP_length (encB id pk)
 have hdl := encB_length (decI l) (decP l)
 refine cw_seq (cw_region ?_)
 refine rw_c rfl (or_boxX (cs := (segs [id.map u8, pk.map u8])) hm0 rfl) ?_
 rintro _ w1 ⟨b2, rfl, _ew1, hm1⟩
 refine rw_q rfl (ev_assign (v := (bl false)) rfl) ?_
 refine rw_nil (kThen_normal (cw_seq (cw_seq (cw_region ?_))))
 refine rw_c rfl (opR_call Try.func8 bd8 nm8 (args0) (c_speaks18 _)) ?_
 rintro _ w2 ⟨rfl, _ew2⟩
 have hm2 := hm1.ext _ew2
 refine rw_q (v := (bl false)) rfl (ev_not (b := true) rfl) ?_
 refine rw_nil (kThen_normal ?_)
 refine cw_cond_f rfl (by decide) ?_
 refine cw_skip (kThen_normal (cw_seq (cw_seq ?_)))
 refine cw_draw [(0, false), (1, false), (2, false), (3, false), (4, false), (6, false), (5, true)] 7 (by kernel_rfl) <| dM rfl rfl (v := vb) rfl <| dw_q (v := (i64 (l.length : Int))) rfl rfl (fun _ _hx => ev_len_rd (Rd.ofRest hr (hm2.ext _hx)) uT26 rfl) <| dw_q rfl rfl (fun _ _hx => ev_i64_gtr (b := 500) rfl rfl) <| dw_q rfl rfl (fun _ _hx => ev_move (v := (bl (decide (500 < (l.length : Int))))) rfl) ?_
 rcases Bool.eq_false_or_eq_true (decide (500 < (l.length : Int))) with hb4 | hb4
 · -- true
   have hb4p := of_decide_eq_true hb4
   refine dw_gqn (s := 14) rfl rfl rfl hb4 rfl <| dw_gqn (s := 14) rfl rfl rfl hb4 rfl ?_
   refine dw_gcn (s := 14) rfl rfl rfl hb4 rfl (fun w5 _ew5 => ?_)
   have hm5 := hm2.ext _ew5
   refine dw_nil (fun w6 _ew6 => ?_)
   have hm6 := hm5.ext _ew6
   refine rw_gn (s := 14) rfl rfl hb4 rfl <| rw_gn (s := 14) rfl rfl hb4 rfl <| rw_gn (s := 14) rfl rfl hb4 rfl <| rw_q rfl (ev_pick_tk rfl hb4 rfl) ?_
   refine rw_nil (kThen_normal ?_)
   refine CW.abs (fun g => g 0 = (Value.agg (segs [id.map u8, pk.map u8])) ∧ g 1 = vb ∧ g 2 = (ptr b2 0) ∧ g 4 = (bl false) ∧ g 10 = (bl false) ∧ g 21 = (bl true) ∧ True) ⟨rfl, rfl, rfl, rfl, rfl, rfl, trivial⟩ ?_
   rintro fr7 ⟨s0, s1, s2, s4, s10, s21, _⟩
   refine cw_cond_t s21 (by decide) ?_
   refine cw_seq (cw_region ?_)
   refine rM rfl s1 <| rw_q (v := (i64 (l.length : Int))) rfl (ev_len_rd (Rd.ofRest hr hm6) uT26 rfl) <| rw_q rfl (ev_i64_gtr (b := 500) rfl rfl) <| rw_q rfl (ev_assign (v := (bl (decide (500 < (l.length : Int))))) rfl) ?_
   refine rw_nil (kThen_normal (cw_ret (kThen_ret ?_)))
   refine fnPost_ret [(bl (decide (500 < (l.length : Int))))] ⟨rfl, trivial⟩ ?_
   exact ⟨congrArg bl hb4, Mem.below w0 hm6⟩
 · -- false
   have hb4p := of_decide_eq_false hb4
   refine dw_gqy (s := 14) rfl rfl rfl hb4 rfl (fun _ _hx => ev_load_segs [] [id.map u8, pk.map u8] [] uT25 rfl ti25 rfl (hm2.ext _hx).h0 fl_nil (fl_cons (n := 32) (m := 32) (k := 64) (by first | rfl | (rw [List.length_map]; first | omega | (simp; done) | (simp; omega))) (fl_cons (n := 32) (m := 0) (k := 32) (by first | rfl | (rw [List.length_map]; first | omega | (simp; done) | (simp; omega))) fl_nil rfl) rfl)) <| dw_gqy (s := 14) rfl rfl rfl hb4 rfl (fun _ _hx => ev_load_segs [] [id.map u8, pk.map u8] [] uT25 rfl ti25 rfl (hm2.ext _hx).h0 fl_nil (fl_cons (n := 32) (m := 32) (k := 64) (by first | rfl | (rw [List.length_map]; first | omega | (simp; done) | (simp; omega))) (fl_cons (n := 32) (m := 0) (k := 32) (by first | rfl | (rw [List.length_map]; first | omega | (simp; done) | (simp; omega))) fl_nil rfl) rfl)) ?_
   refine dw_gcy (s := 14) rfl rfl rfl hb4 rfl (fun w8 _ew8 => ?_)
   have hm8 := hm2.ext _ew8
   refine OpR.mono (opR_call Try.func10 bd10 nm10 (args1 rfl) (c_bencode id pk _ sD sD)) ?_
   rintro rq10 w9 ⟨Hsq10, grq10, k_w9⟩
   refine ⟨k_w9.toExt, ?_⟩
   have hm9 : Mem w9 (restOf w0) (Hsq10 ++ ([(b2, .cells (segs [id.map u8, pk.map u8]) 25 (0, 0))])) := Mem.new (H := [(b2, .cells (segs [id.map u8, pk.map u8]) 25 (0, 0))]) (H' := Hsq10) hm8 k_w9
   refine dw_nil (fun w11 _ew11 => ?_)
   have hm11 := hm9.ext _ew11
   refine rw_gy (s := 14) rfl rfl hb4 rfl (opR_call Try.func11 bd11 nm11 (args1 rfl) (c_rbencode id pk _ sD sD)) ?_
   rintro rq13 w12 ⟨Hsq13, grq13, k_w12⟩
   have hm12 : Mem w12 (restOf w0) (Hsq13 ++ (Hsq10 ++ ([(b2, .cells (segs [id.map u8, pk.map u8]) 25 (0, 0))]))) := Mem.new (H := Hsq10 ++ ([(b2, .cells (segs [id.map u8, pk.map u8]) 25 (0, 0))])) (H' := Hsq13) hm11 k_w12
   refine rw_gy (s := 14) rfl rfl hb4 rfl (opR_call Try.func9 bd9 nm9 (args2 rfl rfl) (c_same rq10 rq13 (encB id pk) (encB id pk) _ (grq10.rd (Mem.pick Hsq13 Hsq10 _ hm12)) (grq13.rd hm12) sD)) ?_
   rintro _ w14 ⟨rfl, _ew14⟩
   have hm14 := hm12.ext _ew14
   refine rw_gyq (s := 14) rfl rfl hb4 rfl (ev_not rfl) <| rw_q rfl (ev_pick_fk rfl hb4 rfl) ?_
   refine rw_nil (kThen_normal ?_)
   have hm16 := Mem.drop Hsq13 _ hm14
   have hm17 := Mem.drop Hsq10 _ hm16
   refine CW.abs (fun g => g 0 = (Value.agg (segs [id.map u8, pk.map u8])) ∧ g 1 = vb ∧ g 2 = (ptr b2 0) ∧ g 4 = (bl false) ∧ g 10 = (bl false) ∧ g 21 = (bl (!((encB id pk) == (encB id pk)))) ∧ True) ⟨rfl, rfl, rfl, rfl, rfl, rfl, trivial⟩ ?_
   rintro fr18 ⟨s0, s1, s2, s4, s10, s21, _⟩
   have hd19 : ((encB id pk) == (encB id pk)) = true := told_true rfl
   have hd20 : (!((encB id pk) == (encB id pk))) = false := congrArg Bool.not hd19
   refine cw_cond_f s21 hd20 ?_
   refine cw_skip (kThen_normal (cw_seq (cw_region ?_)))
   refine rM rfl s1 <| rw_c rfl (opR_call Try.func12 bd12 nm12 (args1 rfl) (c_bdecode vb l _ (Rd.ofRest hr hm17) sD)) ?_
   rintro _ w21 ⟨rfl, _ew21⟩
   have hm21 := hm17.ext _ew21
   refine rM rfl rfl <| rw_q (v := (Value.agg (segs [(decI l).map u8, (decP l).map u8]))) rfl (ev_extract rfl rfl) <| rw_q (v := (i64 (errB l))) rfl (ev_extract rfl rfl) <| rw_c rfl (or_allocX hm21 ti25) ?_
   rintro _ w23 ⟨b5, rfl, _ew23, hm23⟩
   refine rw_n (or_storeW_segs [(decI l).map u8, (decP l).map u8] ti25 rfl rfl (fl_cons (n := 32) (m := 32) (k := 64) (by first | rfl | (rw [List.length_map]; first | omega | (simp; done) | (simp; omega))) (fl_cons (n := 32) (m := 0) (k := 32) (by first | rfl | (rw [List.length_map]; first | omega | (simp; done) | (simp; omega))) fl_nil rfl) rfl) (so_cons (encA_one u8_one _) (so_cons (encA_one u8_one _) so_nil)) hm23.h0 rfl rfl) ?_
   rintro _ w24 uq24
   have hm24 : Mem w24 (restOf w0) [(b5, .cells (segs [(decI l).map u8, (decP l).map u8]) 25 (0, 0)), (b2, .cells (segs [id.map u8, pk.map u8]) 25 (0, 0))] := hm23.upd0 uq24
   refine rw_q rfl (ev_assign (v := (i64 (errB l))) rfl) ?_
   refine rw_nil (kThen_normal (cw_seq (cw_seq (cw_region ?_))))
   refine rM rfl s1 <| rw_q (v := (i64 (l.length : Int))) rfl (ev_len_rd (Rd.ofRest hr hm24) uT26 rfl) <| rw_q rfl (ev_i64_neq (b := 65) rfl rfl) <| rw_q rfl (ev_move (v := (bl ((l.length : Int) != 65))) rfl) ?_
   rcases Bool.eq_false_or_eq_true ((l.length : Int) != 65) with hb25 | hb25
   · -- true
     have hb25p := bne_iff_ne.1 hb25
     refine rw_gn (s := 33) rfl rfl hb25 rfl <| rw_gn (s := 33) rfl rfl hb25 rfl <| rw_gn (s := 33) rfl rfl hb25 rfl <| rw_gn (s := 33) rfl rfl hb25 rfl <| rw_q rfl (ev_pick_tk rfl hb25 rfl) ?_
     refine rw_nil (kThen_normal ?_)
     refine CW.abs (fun g => g 0 = (Value.agg (segs [id.map u8, pk.map u8])) ∧ g 1 = vb ∧ g 2 = (ptr b2 0) ∧ g 4 = (bl false) ∧ g 5 = (ptr b5 0) ∧ g 6 = (i64 (errB l)) ∧ g 10 = (bl false) ∧ g 21 = (bl (!((encB id pk) == (encB id pk)))) ∧ g 38 = (bl true) ∧ True) ⟨s0, s1, s2, s4, rfl, rfl, s10, s21, rfl, trivial⟩ ?_
     rintro fr26 ⟨s0, s1, s2, s4, s5, s6, s10, s21, s38, _⟩
     refine cw_cond_t s38 (by decide) ?_
     refine cw_seq (cw_region ?_)
     refine rM rfl s6 <| rw_q rfl (ev_i64_eql (b := 3) rfl rfl) <| rw_q rfl (ev_move (v := (bl ((errB l) == 3))) rfl) ?_
     have hd27 : ((errB l) == 3) = true := told_true (dec_none (ok_not1 oM)).2.2
     refine rw_gyq (s := 41) rfl rfl hd27 rfl (ev_load_segs [] [(decI l).map u8, (decP l).map u8] [] uT25 rfl ti25 s5 hm24.h0 fl_nil (fl_cons (n := 32) (m := 32) (k := 64) (by first | rfl | (rw [List.length_map]; first | omega | (simp; done) | (simp; omega))) (fl_cons (n := 32) (m := 0) (k := 32) (by first | rfl | (rw [List.length_map]; first | omega | (simp; done) | (simp; omega))) fl_nil rfl) rfl)) <| rw_gyq (s := 41) rfl rfl hd27 rfl (ev_build_pt (c := #[(u8 0), (u8 0), (u8 0), (u8 0), (u8 0), (u8 0), (u8 0), (u8 0), (u8 0), (u8 0), (u8 0), (u8 0), (u8 0), (u8 0), (u8 0), (u8 0), (u8 0), (u8 0), (u8 0), (u8 0), (u8 0), (u8 0), (u8 0), (u8 0), (u8 0), (u8 0), (u8 0), (u8 0), (u8 0), (u8 0), (u8 0), (u8 0), (u8 0), (u8 0), (u8 0), (u8 0), (u8 0), (u8 0), (u8 0), (u8 0), (u8 0), (u8 0), (u8 0), (u8 0), (u8 0), (u8 0), (u8 0), (u8 0), (u8 0), (u8 0), (u8 0), (u8 0), (u8 0), (u8 0), (u8 0), (u8 0), (u8 0), (u8 0), (u8 0), (u8 0), (u8 0), (u8 0), (u8 0), (u8 0)]) (pl := [(0, 32), (32, 32)]) ti25 uT25 (by kernel_rfl) pm_nil (by kernel_rfl)) <| rw_gyq (s := 41) rfl rfl hd27 rfl (ev_two_eql (l1 := decI l) (l2 := decP l) (m1 := List.replicate 32 0#8) (m2 := List.replicate 32 0#8) uT25 (by kernel_rfl) (by decide) (by decide) rfl rfl rfl rfl uT23 ti23 uT5 ti5 Try.eqGuardType25 rfl (Eq.trans rfl rfl) (by first | rfl | first | omega | (simp; done) | (simp; omega) | decide) (by first | rfl | first | omega | (simp; done) | (simp; omega) | decide) (by first | rfl | first | omega | (simp; done) | (simp; omega) | decide) (by first | rfl | first | omega | (simp; done) | (simp; omega) | decide)) <| rw_q rfl (ev_pick_tk rfl hd27 rfl) <| rA rfl rfl ?_
     refine rw_nil (kThen_normal (cw_ret (kThen_ret ?_)))
     refine fnPost_ret [(bl ((decI l) == (List.replicate 32 0#8) && (decP l) == (List.replicate 32 0#8)))] ⟨rfl, trivial⟩ ?_
     have hd28 : (((decI l) == (List.replicate 32 0#8) && (decP l) == (List.replicate 32 0#8))) = true := told_two (dec_none (ok_not1 oM)).1 (dec_none (ok_not1 oM)).2.1
     exact ⟨congrArg bl hd28, Mem.below w0 hm24⟩
   · -- false
     have hb25p := eq_of_bne_false hb25
     refine rw_gyq (s := 33) rfl rfl hb25 rfl (ev_move s1) <| rw_gyq (s := 33) rfl rfl hb25 rfl (ev_indexAddr_rdv (i := 0) (Rd.ofRest hr hm24) uT26 ti5 rfl rfl oM sD) <| rw_gyq (s := 33) rfl rfl hb25 rfl (ev_load_rdD (l := l) (i := 0) (dflt := 0) (Rd.ofRest hr hm24) uT5 rfl oM sD rfl) <| rw_gyq (s := 33) rfl rfl hb25 rfl (ev_u8_neq (b := 1#8) rfl rfl) <| rw_q rfl (ev_pick_fk rfl hb25 rfl) ?_
     refine rw_nil (kThen_normal ?_)
     refine CW.abs (fun g => g 0 = (Value.agg (segs [id.map u8, pk.map u8])) ∧ g 1 = vb ∧ g 2 = (ptr b2 0) ∧ g 4 = (bl false) ∧ g 5 = (ptr b5 0) ∧ g 6 = (i64 (errB l)) ∧ g 10 = (bl false) ∧ g 21 = (bl (!((encB id pk) == (encB id pk)))) ∧ g 38 = (bl ((l.getD 0 0) != 1#8)) ∧ True) ⟨s0, s1, s2, s4, rfl, rfl, s10, s21, rfl, trivial⟩ ?_
     rintro fr29 ⟨s0, s1, s2, s4, s5, s6, s10, s21, s38, _⟩
     refine cw_cond s38 (fun hc30 => ?_) (fun hc30 => ?_)
     · -- true
       have hc30p := bne_iff_ne.1 hc30
       refine cw_seq (cw_region ?_)
       refine rM rfl s6 <| rw_q rfl (ev_i64_eql (b := 3) rfl rfl) <| rw_q rfl (ev_move (v := (bl ((errB l) == 3))) rfl) ?_
       have hd31 : ((errB l) == 3) = true := told_true (dec_none (ok_not2 hc30p)).2.2
       refine rw_gyq (s := 41) rfl rfl hd31 rfl (ev_load_segs [] [(decI l).map u8, (decP l).map u8] [] uT25 rfl ti25 s5 hm24.h0 fl_nil (fl_cons (n := 32) (m := 32) (k := 64) (by first | rfl | (rw [List.length_map]; first | omega | (simp; done) | (simp; omega))) (fl_cons (n := 32) (m := 0) (k := 32) (by first | rfl | (rw [List.length_map]; first | omega | (simp; done) | (simp; omega))) fl_nil rfl) rfl)) <| rw_gyq (s := 41) rfl rfl hd31 rfl (ev_build_pt (c := #[(u8 0), (u8 0), (u8 0), (u8 0), (u8 0), (u8 0), (u8 0), (u8 0), (u8 0), (u8 0), (u8 0), (u8 0), (u8 0), (u8 0), (u8 0), (u8 0), (u8 0), (u8 0), (u8 0), (u8 0), (u8 0), (u8 0), (u8 0), (u8 0), (u8 0), (u8 0), (u8 0), (u8 0), (u8 0), (u8 0), (u8 0), (u8 0), (u8 0), (u8 0), (u8 0), (u8 0), (u8 0), (u8 0), (u8 0), (u8 0), (u8 0), (u8 0), (u8 0), (u8 0), (u8 0), (u8 0), (u8 0), (u8 0), (u8 0), (u8 0), (u8 0), (u8 0), (u8 0), (u8 0), (u8 0), (u8 0), (u8 0), (u8 0), (u8 0), (u8 0), (u8 0), (u8 0), (u8 0), (u8 0)]) (pl := [(0, 32), (32, 32)]) ti25 uT25 (by kernel_rfl) pm_nil (by kernel_rfl)) <| rw_gyq (s := 41) rfl rfl hd31 rfl (ev_two_eql (l1 := decI l) (l2 := decP l) (m1 := List.replicate 32 0#8) (m2 := List.replicate 32 0#8) uT25 (by kernel_rfl) (by decide) (by decide) rfl rfl rfl rfl uT23 ti23 uT5 ti5 Try.eqGuardType25 rfl (Eq.trans rfl rfl) (by first | rfl | first | omega | (simp; done) | (simp; omega) | decide) (by first | rfl | first | omega | (simp; done) | (simp; omega) | decide) (by first | rfl | first | omega | (simp; done) | (simp; omega) | decide) (by first | rfl | first | omega | (simp; done) | (simp; omega) | decide)) <| rw_q rfl (ev_pick_tk rfl hd31 rfl) <| rA rfl rfl ?_
       refine rw_nil (kThen_normal (cw_ret (kThen_ret ?_)))
       refine fnPost_ret [(bl ((decI l) == (List.replicate 32 0#8) && (decP l) == (List.replicate 32 0#8)))] ⟨rfl, trivial⟩ ?_
       have hd32 : (((decI l) == (List.replicate 32 0#8) && (decP l) == (List.replicate 32 0#8))) = true := told_two (dec_none (ok_not2 hc30p)).1 (dec_none (ok_not2 hc30p)).2.1
       exact ⟨congrArg bl hd32, Mem.below w0 hm24⟩
     · -- false
       have hc30p := eq_of_bne_false hc30
       refine cw_skip (kThen_normal (cw_seq (cw_region ?_)))
       refine rw_q (v := (Value.agg (segs [id.map u8, pk.map u8]))) rfl (ev_load_segs [] [id.map u8, pk.map u8] [] uT25 rfl ti25 s2 hm24.h1 fl_nil (fl_cons (n := 32) (m := 32) (k := 64) (by first | rfl | (rw [List.length_map]; first | omega | (simp; done) | (simp; omega))) (fl_cons (n := 32) (m := 0) (k := 32) (by first | rfl | (rw [List.length_map]; first | omega | (simp; done) | (simp; omega))) fl_nil rfl) rfl)) <| rw_c rfl (opR_call Try.func11 bd11 nm11 (args1 rfl) (c_rbencode id pk _ sD sD)) ?_
       rintro rq34 w33 ⟨Hsq34, grq34, k_w33⟩
       have hm33 : Mem w33 (restOf w0) (Hsq34 ++ ([(b5, .cells (segs [(decI l).map u8, (decP l).map u8]) 25 (0, 0)), (b2, .cells (segs [id.map u8, pk.map u8]) 25 (0, 0))])) := Mem.new (H := [(b5, .cells (segs [(decI l).map u8, (decP l).map u8]) 25 (0, 0)), (b2, .cells (segs [id.map u8, pk.map u8]) 25 (0, 0))]) (H' := Hsq34) hm24 k_w33
       refine rw_c rfl (opR_call Try.func12 bd12 nm12 (args1 rfl) (c_bdecode rq34 (encB id pk) _ (grq34.rd hm33) sD)) ?_
       rintro _ w35 ⟨rfl, _ew35⟩
       have hm35 := hm33.ext _ew35
       refine rM rfl rfl <| rw_q (v := (Value.agg (segs [(decI (encB id pk)).map u8, (decP (encB id pk)).map u8]))) rfl (ev_extract rfl rfl) <| rw_q (v := (i64 (errB (encB id pk)))) rfl (ev_extract rfl rfl) <| rw_c rfl (or_allocX hm35 ti25) ?_
       rintro _ w37 ⟨b7, rfl, _ew37, hm37⟩
       refine rw_n (or_storeW_segs [(decI (encB id pk)).map u8, (decP (encB id pk)).map u8] ti25 rfl rfl (fl_cons (n := 32) (m := 32) (k := 64) (by first | rfl | (rw [List.length_map]; first | omega | (simp; done) | (simp; omega))) (fl_cons (n := 32) (m := 0) (k := 32) (by first | rfl | (rw [List.length_map]; first | omega | (simp; done) | (simp; omega))) fl_nil rfl) rfl) (so_cons (encA_one u8_one _) (so_cons (encA_one u8_one _) so_nil)) hm37.h0 rfl rfl) ?_
       rintro _ w38 uq38
       have hm38 : Mem w38 (restOf w0) ([(b7, .cells (segs [(decI (encB id pk)).map u8, (decP (encB id pk)).map u8]) 25 (0, 0))] ++ (Hsq34 ++ ([(b5, .cells (segs [(decI l).map u8, (decP l).map u8]) 25 (0, 0)), (b2, .cells (segs [id.map u8, pk.map u8]) 25 (0, 0))]))) := hm37.upd0 uq38
       refine rw_q rfl (ev_assign (v := (i64 (errB (encB id pk)))) rfl) ?_
       refine rw_nil (kThen_normal (cw_seq (cw_region ?_)))
       refine rM rfl s6 <| rw_q rfl (ev_i64_eql (b := 0) rfl rfl) <| rw_q rfl (ev_move (v := (bl ((errB l) == 0))) rfl) ?_
       have hd39 : ((errB l) == 0) = true := told_true (dec_some (ok_mk oM hc30p)).2.2
       refine rw_gyq (s := 54) rfl rfl hd39 rfl (ev_load_segs [] [(decI l).map u8, (decP l).map u8] [] uT25 rfl ti25 s5 ((Mem.pick2 [_] Hsq34 [_] _ hm38)).h0 fl_nil (fl_cons (n := 32) (m := 32) (k := 64) (by first | rfl | (rw [List.length_map]; first | omega | (simp; done) | (simp; omega))) (fl_cons (n := 32) (m := 0) (k := 32) (by first | rfl | (rw [List.length_map]; first | omega | (simp; done) | (simp; omega))) fl_nil rfl) rfl)) <| rw_gy (s := 54) rfl rfl hd39 rfl (opR_call Try.func11 bd11 nm11 (args1 rfl) (c_rbencode (decI l) (decP l) _ sD sD)) ?_
       rintro rq41 w40 ⟨Hsq41, grq41, k_w40⟩
       have hm40 : Mem w40 (restOf w0) (Hsq41 ++ ([(b7, .cells (segs [(decI (encB id pk)).map u8, (decP (encB id pk)).map u8]) 25 (0, 0))] ++ (Hsq34 ++ ([(b5, .cells (segs [(decI l).map u8, (decP l).map u8]) 25 (0, 0)), (b2, .cells (segs [id.map u8, pk.map u8]) 25 (0, 0))])))) := Mem.new (H := [(b7, .cells (segs [(decI (encB id pk)).map u8, (decP (encB id pk)).map u8]) 25 (0, 0))] ++ (Hsq34 ++ ([(b5, .cells (segs [(decI l).map u8, (decP l).map u8]) 25 (0, 0)), (b2, .cells (segs [id.map u8, pk.map u8]) 25 (0, 0))]))) (H' := Hsq41) hm38 k_w40
       refine rw_gyq (s := 54) rfl rfl hd39 rfl (ev_move s1) <| rw_gy (s := 54) rfl rfl hd39 rfl (opR_call Try.func9 bd9 nm9 (args2 rfl rfl) (c_same rq41 vb (encB (decI l) (decP l)) l _ (grq41.rd hm40) (Rd.ofRest hr hm40) sD)) ?_
       rintro _ w42 ⟨rfl, _ew42⟩
       have hm42 := hm40.ext _ew42
       refine rw_q rfl (ev_pick_tk rfl hd39 rfl) <| rw_q rfl (ev_move (v := (bl ((encB (decI l) (decP l)) == l))) rfl) ?_
       have hd44 : ((encB (decI l) (decP l)) == l) = true := told_true (enc_dec (ok_mk oM hc30p))
       refine rw_gyq (s := 60) rfl rfl hd44 rfl (ev_move (v := (i64 (errB (encB id pk)))) rfl) <| rw_gyq (s := 60) rfl rfl hd44 rfl (ev_i64_eql (b := 0) rfl rfl) <| rw_q rfl (ev_pick_tk rfl hd44 rfl) <| rw_q rfl (ev_move (v := (bl ((errB (encB id pk)) == 0))) rfl) ?_
       have hd45 : ((errB (encB id pk)) == 0) = true := told_true (dec_enc hid hpk).2.2
       refine rw_gyq (s := 64) rfl rfl hd45 rfl (ev_load_segs [] [(decI (encB id pk)).map u8, (decP (encB id pk)).map u8] [] uT25 rfl ti25 rfl ((Mem.pick Hsq41 [_] _ hm42)).h0 fl_nil (fl_cons (n := 32) (m := 32) (k := 64) (by first | rfl | (rw [List.length_map]; first | omega | (simp; done) | (simp; omega))) (fl_cons (n := 32) (m := 0) (k := 32) (by first | rfl | (rw [List.length_map]; first | omega | (simp; done) | (simp; omega))) fl_nil rfl) rfl)) <| rw_gyq (s := 64) rfl rfl hd45 rfl (ev_load_segs [] [id.map u8, pk.map u8] [] uT25 rfl ti25 s2 ((Mem.pick4 Hsq41 [_] Hsq34 [_] [_] _ hm42)).h0 fl_nil (fl_cons (n := 32) (m := 32) (k := 64) (by first | rfl | (rw [List.length_map]; first | omega | (simp; done) | (simp; omega))) (fl_cons (n := 32) (m := 0) (k := 32) (by first | rfl | (rw [List.length_map]; first | omega | (simp; done) | (simp; omega))) fl_nil rfl) rfl)) <| rw_gyq (s := 64) rfl rfl hd45 rfl (ev_two_eql (l1 := decI (encB id pk)) (l2 := decP (encB id pk)) (m1 := id) (m2 := pk) uT25 (by kernel_rfl) (by decide) (by decide) rfl rfl rfl rfl uT23 ti23 uT5 ti5 Try.eqGuardType25 rfl rfl (by first | rfl | first | omega | (simp; done) | (simp; omega) | decide) (by first | rfl | first | omega | (simp; done) | (simp; omega) | decide) (by first | rfl | first | omega | (simp; done) | (simp; omega) | decide) (by first | rfl | first | omega | (simp; done) | (simp; omega) | decide)) <| rw_q rfl (ev_pick_tk rfl hd45 rfl) <| rw_q rfl (ev_assign (v := (bl ((decI (encB id pk)) == id && (decP (encB id pk)) == pk))) rfl) ?_
       refine rw_nil (kThen_normal ?_)
       have hm46 := Mem.drop Hsq41 _ hm42
       have hm47 := Mem.drop Hsq34 _ (Mem.pick [_] Hsq34 _ hm46)
       refine CW.abs (fun g => g 0 = (Value.agg (segs [id.map u8, pk.map u8])) ∧ g 1 = vb ∧ g 2 = (ptr b2 0) ∧ g 4 = (bl ((decI (encB id pk)) == id && (decP (encB id pk)) == pk)) ∧ g 5 = (ptr b5 0) ∧ g 6 = (i64 (errB l)) ∧ g 7 = (ptr b7 0) ∧ g 8 = (i64 (errB (encB id pk))) ∧ g 10 = (bl false) ∧ g 21 = (bl (!((encB id pk) == (encB id pk)))) ∧ g 38 = (bl ((l.getD 0 0) != 1#8)) ∧ True) ⟨s0, s1, s2, rfl, s5, s6, rfl, rfl, s10, s21, s38, trivial⟩ ?_
       rintro fr48 ⟨s0, s1, s2, s4, s5, s6, s7, s8, s10, s21, s38, _⟩
       refine cw_ret <| fnPost_ret [(bl ((decI (encB id pk)) == id && (decP (encB id pk)) == pk))] ⟨s4, trivial⟩ ?_
       have hd49 : (((decI (encB id pk)) == id && (decP (encB id pk)) == pk)) = true := told_two (dec_enc hid hpk).1 (dec_enc hid hpk).2.1
       exact ⟨congrArg bl hd49, Mem.below w0 hm47⟩


end Go.Proofs.Ytmiagmbgfhakgaa
