/- The laws of the curve's order: their walks. Conditions: none beyond those that each theorem states. -/
import Derived.Test.YtmiagmbgfhakgaaCu5
import Derived.Test.YtmiagmbgfhakgaaCuT
namespace Go.Proofs.Ytmiagmbgfhakgaa
set_option linter.unusedVariables false
set_option linter.unusedSimpArgs false
attribute [local irreducible] TimesR AddR LessR invRGo ReadR WriteR carryR lad16 stepR clampR timesL sumL lessL invGo readGo readL bytesE multL ladGo multR clampL

set_option maxHeartbeats 1000000 in
theorem law_corder (a b u : List (BitVec 8)) (w0 : World)  (ha : a.length = 32) (hb : b.length = 32) (hu : u.length = 32) : CallsR Try.prog 6 #[(agg u8 a), (agg u8 b), (agg u8 u)] w0 (fun r w1 => r = bl true ∧ RowKit.Below w0.heap.size w0 w1) := by
 refine callsR_of_cw (args := [(agg u8 a), (agg u8 b), (agg u8 u)]) Try.func6 rfl Try.ntmps6 Try.results6 rfl ?_
 have hm0 : Mem w0 (restOf w0) [] := Mem.of_world w0
 refine sR <| rw_c rfl (or_box_agg (f := u8) (l := a) hm0 rfl) ?_
 rintro _ w1 ⟨b3, rfl, _ew1, hm1⟩
 refine rw_c rfl (or_box_agg (f := u8) (l := b) hm1 rfl) ?_
 rintro _ w2 ⟨b4, rfl, _ew2, hm2⟩
 refine rw_c rfl (or_box_agg (f := u8) (l := u) hm2 rfl) ?_
 rintro _ w3 ⟨b5, rfl, _ew3, hm3⟩
 refine rw_q rfl (ev_assign (v := (bl false)) rfl) ?_
 refine rN (cw_seq (sR ?_))
 refine rw_c rfl (opR_call Try.func13 bd13 nm13 (args0) (c_speaks05 _)) ?_
 rintro _ w4 ⟨rfl, _ew4⟩
 have hm4 := hm3.ext _ew4
 refine rw_q (v := (bl false)) rfl (ev_not (b := true) rfl) <| rN <| cw_cond_f rfl (by decide) ?_
 refine cw_skip (kThen_normal (cw_seq ?_))
 refine cw_draw [(0, false), (1, false), (2, false), (3, false), (4, false), (5, false), (6, false), (7, false), (8, false)] 9 (by kernel_rfl) <| dw_q (v := (agg u8 a)) rfl rfl (fun _ _hx => ev_loadA uT23 rfl ti23 rfl (hm4.ext _hx).h2 sZ) <| dw_q (v := (agg u8 b)) rfl rfl (fun _ _hx => ev_loadA uT23 rfl ti23 rfl (hm4.ext _hx).h1 sZ) <| dw_q (v := (agg u8 u)) rfl rfl (fun _ _hx => ev_loadA uT23 rfl ti23 rfl (hm4.ext _hx).h0 sZ) <| dw_x (v := (agg u8 (multL b u))) rfl rfl (fun w6 _ew6 => OpR.mono (opR_call Try.func15 bd15 nm15 (args2 rfl rfl) (c_mult5 b u _ sD sD)) (by rintro _ w7 ⟨rfl, _ew7⟩; exact ⟨rfl, _ew7⟩)) <| dw_x (v := (agg u8 (multL a (multL b u)))) rfl rfl (fun w9 _ew9 => OpR.mono (opR_call Try.func15 bd15 nm15 (args2 rfl rfl) (c_mult5 a (multL b u) _ sD sD)) (by rintro _ w10 ⟨rfl, _ew10⟩; exact ⟨rfl, _ew10⟩)) ?_
 refine dw_q (v := (agg u8 b)) rfl rfl (fun _ _hx => ev_loadA uT23 rfl ti23 rfl (hm4.ext _hx).h1 sZ) <| dw_q (v := (agg u8 a)) rfl rfl (fun _ _hx => ev_loadA uT23 rfl ti23 rfl (hm4.ext _hx).h2 sZ) <| dw_q (v := (agg u8 u)) rfl rfl (fun _ _hx => ev_loadA uT23 rfl ti23 rfl (hm4.ext _hx).h0 sZ) <| dw_x (v := (agg u8 (multL a u))) rfl rfl (fun w12 _ew12 => OpR.mono (opR_call Try.func15 bd15 nm15 (args2 rfl rfl) (c_mult5 a u _ sD sD)) (by rintro _ w13 ⟨rfl, _ew13⟩; exact ⟨rfl, _ew13⟩)) ?_
 refine dw_nil (fun w15 _ew15 => ?_)
 have hm15 := hm4.ext _ew15
 refine rw_c rfl (opR_call Try.func15 bd15 nm15 (args2 rfl rfl) (c_mult5 b (multL a u) _ sD sD)) ?_
 rintro _ w16 ⟨rfl, _ew16⟩
 have hm16 := hm15.ext _ew16
 refine rw_q rfl (ev_u8arr_eql (l := multL a (multL b u)) (m := multL b (multL a u)) uT23 uT5 ti5 Try.eqGuardType23 rfl rfl (by first | rfl | first | omega | (simp; done) | (simp; omega) | decide) (by first | rfl | first | omega | (simp; done) | (simp; omega) | decide)) <| rw_q rfl (ev_assign (v := (bl ((multL a (multL b u)) == (multL b (multL a u))))) rfl) <| rN ?_
 refine CW.abs (fun g => g 0 = (agg u8 a) ∧ g 1 = (agg u8 b) ∧ g 2 = (agg u8 u) ∧ g 3 = (ptr b3 0) ∧ g 4 = (ptr b4 0) ∧ g 5 = (ptr b5 0) ∧ g 6 = (bl ((multL a (multL b u)) == (multL b (multL a u)))) ∧ g 8 = (bl false) ∧ True) ⟨rfl, rfl, rfl, rfl, rfl, rfl, rfl, rfl, trivial⟩ ?_
 rintro fr18 ⟨s0, s1, s2, s3, s4, s5, s6, s8, _⟩
 refine cw_ret <| fnPost_ret [(bl ((multL a (multL b u)) == (multL b (multL a u))))] ⟨s6, trivial⟩ ?_
 have hd19 : ((multL a (multL b u)) == (multL b (multL a u))) = true := told_true (mult_comm ha hb u)
 exact ⟨congrArg bl hd19, Mem.below w0 hm16⟩

set_option maxHeartbeats 1000000 in
theorem law_cshares (a b : List (BitVec 8)) (w0 : World)  (ha : a.length = 32) (hb : b.length = 32) : CallsR Try.prog 7 #[(agg u8 a), (agg u8 b)] w0 (fun r w1 => r = bl true ∧ RowKit.Below w0.heap.size w0 w1) := by
 refine callsR_of_cw (args := [(agg u8 a), (agg u8 b)]) Try.func7 rfl Try.ntmps7 Try.results7 rfl ?_
 have hm0 : Mem w0 (restOf w0) [] := Mem.of_world w0
 refine sR <| rw_c rfl (or_box_agg (f := u8) (l := a) hm0 rfl) ?_
 rintro _ w1 ⟨b2, rfl, _ew1, hm1⟩
 refine rw_c rfl (or_box_agg (f := u8) (l := b) hm1 rfl) ?_
 rintro _ w2 ⟨b3, rfl, _ew2, hm2⟩
 refine rw_q rfl (ev_assign (v := (bl false)) rfl) ?_
 refine rN (cw_seq (sR ?_))
 refine rw_c rfl (opR_call Try.func13 bd13 nm13 (args0) (c_speaks05 _)) ?_
 rintro _ w3 ⟨rfl, _ew3⟩
 have hm3 := hm2.ext _ew3
 refine rw_q (v := (bl false)) rfl (ev_not (b := true) rfl) <| rN <| cw_cond_f rfl (by decide) ?_
 refine cw_skip (kThen_normal (cw_seq ?_))
 refine cw_drawE (by kernel_rfl) ?_
 refine re_allocs [4, 5] [(0, false), (1, false), (2, false), (3, false)] 6 (luN [(4, 5), (5, 6)]) (luN [(4, 40), (5, 40)]) (luV [(4, (Value.agg #[(u8 0), (u8 0), (u8 0), (u8 0), (u8 0), (u8 0), (u8 0), (u8 0), (u8 0), (u8 0), (u8 0), (u8 0), (u8 0), (u8 0), (u8 0), (u8 0), (u8 0), (u8 0), (u8 0), (u8 0), (u8 0), (u8 0), (u8 0), (u8 0), (u8 0), (u8 0), (u8 0), (u8 0), (u8 0), (u8 0), (u8 0), (u8 0), (u8 0), (u8 0), (u8 0), (u8 0), (u8 0), (u8 0), (u8 0), (u8 0), (u8 0), (u8 0), (u8 0), (u8 0), (u8 0), (u8 0), (u8 0), (u8 0), (u8 0), (u8 0), (u8 0), (u8 0), (u8 0), (u8 0), (u8 0), (u8 0), (u8 0), (u8 0), (u8 0), (u8 0), (u8 0), (u8 0), (u8 0), (u8 0)])), (5, (Value.agg #[(u8 0), (u8 0), (u8 0), (u8 0), (u8 0), (u8 0), (u8 0), (u8 0), (u8 0), (u8 0), (u8 0), (u8 0), (u8 0), (u8 0), (u8 0), (u8 0), (u8 0), (u8 0), (u8 0), (u8 0), (u8 0), (u8 0), (u8 0), (u8 0), (u8 0), (u8 0), (u8 0), (u8 0), (u8 0), (u8 0), (u8 0), (u8 0), (u8 0), (u8 0), (u8 0), (u8 0), (u8 0), (u8 0), (u8 0), (u8 0), (u8 0), (u8 0), (u8 0), (u8 0), (u8 0), (u8 0), (u8 0), (u8 0), (u8 0), (u8 0), (u8 0), (u8 0), (u8 0), (u8 0), (u8 0), (u8 0), (u8 0), (u8 0), (u8 0), (u8 0), (u8 0), (u8 0), (u8 0), (u8 0)]))]) (fun g => g 0 = (agg u8 a) ∧ g 1 = (agg u8 b) ∧ g 2 = (ptr b2 0) ∧ g 3 = (ptr b3 0) ∧ g 4 = (bl false) ∧ g 8 = (bl false) ∧ g 10 = (Value.agg (segs [a.map u8, (multL a base9).map u8])) ∧ g 12 = (Value.agg (segs [b.map u8, (multL b base9).map u8])) ∧ True) hm3 rfl (by decide) (by kernel_rfl) (by kernel_rfl) (ao_cons ⟨⟨_, _, _, rfl⟩, rfl, _, _, ti40⟩ (ao_cons ⟨⟨_, _, _, rfl⟩, rfl, _, _, ti40⟩ ao_nil)) (by decide) (fun sx5 hS5 => ?_) ?_
 · skip
   refine dw_q (v := (agg u8 a)) rfl rfl (fun _ _hx => ev_loadA uT23 rfl ti23 rfl (hm3.ext _hx).h1 sZ) <| dw_x (v := (Value.agg (segs [a.map u8, (multL a base9).map u8]))) rfl rfl (fun w6 _ew6 => OpR.mono (opR_call Try.func17 bd17 nm17 (args1 rfl) (c_new5 a _ sD)) (by rintro _ w7 ⟨rfl, _ew7⟩; exact ⟨rfl, _ew7⟩)) <| dw_q (v := (agg u8 b)) rfl rfl (fun _ _hx => ev_loadA uT23 rfl ti23 rfl (hm3.ext _hx).h0 sZ) <| dw_x (v := (Value.agg (segs [b.map u8, (multL b base9).map u8]))) rfl rfl (fun w9 _ew9 => OpR.mono (opR_call Try.func17 bd17 nm17 (args1 rfl) (c_new5 b _ sD)) (by rintro _ w10 ⟨rfl, _ew10⟩; exact ⟨rfl, _ew10⟩)) ?_
   exact hS5 _ ⟨rfl, rfl, rfl, rfl, rfl, rfl, rfl, rfl, trivial⟩
 rintro g12 ⟨s0, s1, s2, s3, s4, s8, s10, s12, _⟩ g13 w14 ps14 hgo14 hps14 hmm14
 replace s0 := (hgo14 0 (by decide)).trans s0
 replace s1 := (hgo14 1 (by decide)).trans s1
 replace s2 := (hgo14 2 (by decide)).trans s2
 replace s3 := (hgo14 3 (by decide)).trans s3
 replace s4 := (hgo14 4 (by decide)).trans s4
 replace s8 := (hgo14 8 (by decide)).trans s8
 replace s10 := (hgo14 10 (by decide)).trans s10
 replace s12 := (hgo14 12 (by decide)).trans s12
 have s5 : g13 5 = ptr (ps14 4) 0 := hps14 4 (by decide)
 have s6 : g13 6 = ptr (ps14 5) 0 := hps14 5 (by decide)
 have hm14 : Mem w14 (restOf w0) [((ps14 4), .cells #[(u8 0), (u8 0), (u8 0), (u8 0), (u8 0), (u8 0), (u8 0), (u8 0), (u8 0), (u8 0), (u8 0), (u8 0), (u8 0), (u8 0), (u8 0), (u8 0), (u8 0), (u8 0), (u8 0), (u8 0), (u8 0), (u8 0), (u8 0), (u8 0), (u8 0), (u8 0), (u8 0), (u8 0), (u8 0), (u8 0), (u8 0), (u8 0), (u8 0), (u8 0), (u8 0), (u8 0), (u8 0), (u8 0), (u8 0), (u8 0), (u8 0), (u8 0), (u8 0), (u8 0), (u8 0), (u8 0), (u8 0), (u8 0), (u8 0), (u8 0), (u8 0), (u8 0), (u8 0), (u8 0), (u8 0), (u8 0), (u8 0), (u8 0), (u8 0), (u8 0), (u8 0), (u8 0), (u8 0), (u8 0)] 40 (0, 0)), ((ps14 5), .cells #[(u8 0), (u8 0), (u8 0), (u8 0), (u8 0), (u8 0), (u8 0), (u8 0), (u8 0), (u8 0), (u8 0), (u8 0), (u8 0), (u8 0), (u8 0), (u8 0), (u8 0), (u8 0), (u8 0), (u8 0), (u8 0), (u8 0), (u8 0), (u8 0), (u8 0), (u8 0), (u8 0), (u8 0), (u8 0), (u8 0), (u8 0), (u8 0), (u8 0), (u8 0), (u8 0), (u8 0), (u8 0), (u8 0), (u8 0), (u8 0), (u8 0), (u8 0), (u8 0), (u8 0), (u8 0), (u8 0), (u8 0), (u8 0), (u8 0), (u8 0), (u8 0), (u8 0), (u8 0), (u8 0), (u8 0), (u8 0), (u8 0), (u8 0), (u8 0), (u8 0), (u8 0), (u8 0), (u8 0), (u8 0)] 40 (0, 0)), (b3, .cells (cl u8 b) 23 (0, 0)), (b2, .cells (cl u8 a) 23 (0, 0))] := hmm14
 generalize ps14 4 = b5 at hm14 s5
 generalize ps14 5 = b6 at hm14 s6
 refine rw_n (or_storeW_segs [a.map u8, (multL a base9).map u8] ti40 s5 s10 (fl_cons (n := 32) (m := 32) (k := 64) (by first | rfl | (rw [List.length_map]; first | omega | (simp; done) | (simp; omega))) (fl_cons (n := 32) (m := 0) (k := 32) (by first | rfl | (rw [List.length_map]; first | omega | (simp; done) | (simp; omega))) fl_nil rfl) rfl) (so_cons (encA_one u8_one _) (so_cons (encA_one u8_one _) so_nil)) hm14.h0 rfl rfl) ?_
 rintro _ w15 uq15
 have hm15 : Mem w15 (restOf w0) [(b5, .cells (segs [a.map u8, (multL a base9).map u8]) 40 (0, 0)), (b6, .cells #[(u8 0), (u8 0), (u8 0), (u8 0), (u8 0), (u8 0), (u8 0), (u8 0), (u8 0), (u8 0), (u8 0), (u8 0), (u8 0), (u8 0), (u8 0), (u8 0), (u8 0), (u8 0), (u8 0), (u8 0), (u8 0), (u8 0), (u8 0), (u8 0), (u8 0), (u8 0), (u8 0), (u8 0), (u8 0), (u8 0), (u8 0), (u8 0), (u8 0), (u8 0), (u8 0), (u8 0), (u8 0), (u8 0), (u8 0), (u8 0), (u8 0), (u8 0), (u8 0), (u8 0), (u8 0), (u8 0), (u8 0), (u8 0), (u8 0), (u8 0), (u8 0), (u8 0), (u8 0), (u8 0), (u8 0), (u8 0), (u8 0), (u8 0), (u8 0), (u8 0), (u8 0), (u8 0), (u8 0), (u8 0)] 40 (0, 0)), (b3, .cells (cl u8 b) 23 (0, 0)), (b2, .cells (cl u8 a) 23 (0, 0))] := hm14.upd0 uq15
 refine rw_n (or_storeW_segs [b.map u8, (multL b base9).map u8] ti40 s6 s12 (fl_cons (n := 32) (m := 32) (k := 64) (by first | rfl | (rw [List.length_map]; first | omega | (simp; done) | (simp; omega))) (fl_cons (n := 32) (m := 0) (k := 32) (by first | rfl | (rw [List.length_map]; first | omega | (simp; done) | (simp; omega))) fl_nil rfl) rfl) (so_cons (encA_one u8_one _) (so_cons (encA_one u8_one _) so_nil)) hm15.h1 rfl rfl) ?_
 rintro _ w16 uq16
 have hm16 : Mem w16 (restOf w0) [(b5, .cells (segs [a.map u8, (multL a base9).map u8]) 40 (0, 0)), (b6, .cells (segs [b.map u8, (multL b base9).map u8]) 40 (0, 0)), (b3, .cells (cl u8 b) 23 (0, 0)), (b2, .cells (cl u8 a) 23 (0, 0))] := hm15.upd1 uq16
 refine rN (cw_seq ?_)
 refine cw_draw [(0, false), (1, false), (2, false), (3, false), (4, false), (5, false), (6, false), (7, false), (8, false), (9, false), (10, false), (11, false), (12, false), (13, false), (14, false), (15, false), (16, false), (17, false), (18, false), (19, false), (20, false), (21, false), (22, false), (23, false), (24, false), (25, false), (26, false), (27, false), (28, false), (29, false)] 30 (by kernel_rfl) <| dw_q rfl rfl (fun _ _hx => ev_fa (r := 0) uT40 rfl (by first | rfl | omega) ti23 rfl s5) <| dw_q (v := (agg u8 a)) rfl rfl (fun _ _hx => ev_load_seg1 (f := u8) [] [(multL a base9).map u8] a uT23 rfl ti23 rfl (hm16.ext _hx).h0 fl_nil (by first | rfl | omega | (simp; done) | (simp; omega))) <| dw_q (v := (agg u8 a)) rfl rfl (fun _ _hx => ev_loadA uT23 rfl ti23 s2 (hm16.ext _hx).h3 sZ) <| dw_q rfl rfl (fun _ _hx => ev_u8arr_eql (l := a) (m := a) uT23 uT5 ti5 Try.eqGuardType23 rfl rfl (by first | rfl | first | omega | (simp; done) | (simp; omega) | decide) (by first | rfl | first | omega | (simp; done) | (simp; omega) | decide)) <| dw_q rfl rfl (fun _ _hx => ev_move (v := (bl (a == a))) rfl) ?_
 have hd17 : (a == a) = true := told_true rfl
 refine dw_gqy (s := 17) rfl rfl rfl hd17 rfl (fun _ _hx => ev_fa (r := 32) uT40 rfl (by first | rfl | omega) ti23 rfl s5) <| dw_gqy (s := 17) rfl rfl rfl hd17 rfl (fun _ _hx => ev_load_seg1 (f := u8) [a.map u8] [] (multL a base9) uT23 rfl ti23 rfl (hm16.ext _hx).h0 (fl_cons (n := 32) (m := 0) (k := 32) (by first | rfl | (rw [List.length_map]; first | omega | (simp; done) | (simp; omega))) fl_nil rfl) (by first | rfl | omega | (simp; done) | (simp; omega))) <| dw_gqy (s := 17) rfl rfl rfl hd17 rfl (fun _ _hx => ev_loadA uT23 rfl ti23 s2 (hm16.ext _hx).h3 sZ) <| dw_gxy (s := 17) (v := (agg u8 (multL a base9))) rfl rfl rfl hd17 rfl (fun w18 _ew18 => OpR.mono (opR_call Try.func18 bd18 nm18 (args1 rfl) (c_public5 a _ sD)) (by rintro _ w19 ⟨rfl, _ew19⟩; exact ⟨rfl, _ew19⟩)) <| dw_gqy (s := 17) rfl rfl rfl hd17 rfl (fun _ _hx => ev_u8arr_eql (l := multL a base9) (m := multL a base9) uT23 uT5 ti5 Try.eqGuardType23 rfl rfl (by first | rfl | first | omega | (simp; done) | (simp; omega) | decide) (by first | rfl | first | omega | (simp; done) | (simp; omega) | decide)) <| dw_q rfl rfl (fun _ _hx => ev_pick_tk rfl hd17 rfl) ?_
 refine dw_q rfl rfl (fun _ _hx => ev_move (v := (bl ((multL a base9) == (multL a base9)))) rfl) ?_
 have hd21 : ((multL a base9) == (multL a base9)) = true := told_true rfl
 refine dw_gqy (s := 24) rfl rfl rfl hd21 rfl (fun _ _hx => ev_load_segs [] [a.map u8, (multL a base9).map u8] [] uT40 rfl ti40 s5 (hm16.ext _hx).h0 fl_nil (fl_cons (n := 32) (m := 32) (k := 64) (by first | rfl | (rw [List.length_map]; first | omega | (simp; done) | (simp; omega))) (fl_cons (n := 32) (m := 0) (k := 32) (by first | rfl | (rw [List.length_map]; first | omega | (simp; done) | (simp; omega))) fl_nil rfl) rfl)) <| dw_gqy (s := 24) rfl rfl rfl hd21 rfl (fun _ _hx => ev_fa (r := 32) uT40 rfl (by first | rfl | omega) ti23 rfl s6) <| dw_gqy (s := 24) rfl rfl rfl hd21 rfl (fun _ _hx => ev_load_seg1 (f := u8) [b.map u8] [] (multL b base9) uT23 rfl ti23 rfl (hm16.ext _hx).h1 (fl_cons (n := 32) (m := 0) (k := 32) (by first | rfl | (rw [List.length_map]; first | omega | (simp; done) | (simp; omega))) fl_nil rfl) (by first | rfl | omega | (simp; done) | (simp; omega))) <| dw_gxy (s := 24) (v := (agg u8 (multL a (multL b base9)))) rfl rfl rfl hd21 rfl (fun w22 _ew22 => OpR.mono (opR_call Try.func19 bd19 nm19 (args2 rfl rfl) (c_shared5 a (multL a base9) (multL b base9) _ sD sD sD)) (by rintro _ w23 ⟨rfl, _ew23⟩; exact ⟨rfl, _ew23⟩)) <| dw_gqy (s := 24) rfl rfl rfl hd21 rfl (fun _ _hx => ev_load_segs [] [b.map u8, (multL b base9).map u8] [] uT40 rfl ti40 s6 (hm16.ext _hx).h1 fl_nil (fl_cons (n := 32) (m := 32) (k := 64) (by first | rfl | (rw [List.length_map]; first | omega | (simp; done) | (simp; omega))) (fl_cons (n := 32) (m := 0) (k := 32) (by first | rfl | (rw [List.length_map]; first | omega | (simp; done) | (simp; omega))) fl_nil rfl) rfl)) <| dw_gqy (s := 24) rfl rfl rfl hd21 rfl (fun _ _hx => ev_fa (r := 32) uT40 rfl (by first | rfl | omega) ti23 rfl s5) ?_
 refine dw_gqy (s := 24) rfl rfl rfl hd21 rfl (fun _ _hx => ev_load_seg1 (f := u8) [a.map u8] [] (multL a base9) uT23 rfl ti23 rfl (hm16.ext _hx).h0 (fl_cons (n := 32) (m := 0) (k := 32) (by first | rfl | (rw [List.length_map]; first | omega | (simp; done) | (simp; omega))) fl_nil rfl) (by first | rfl | omega | (simp; done) | (simp; omega))) <| dw_gxy (s := 24) (v := (agg u8 (multL b (multL a base9)))) rfl rfl rfl hd21 rfl (fun w25 _ew25 => OpR.mono (opR_call Try.func19 bd19 nm19 (args2 rfl rfl) (c_shared5 b (multL b base9) (multL a base9) _ sD sD sD)) (by rintro _ w26 ⟨rfl, _ew26⟩; exact ⟨rfl, _ew26⟩)) <| dw_gqy (s := 24) rfl rfl rfl hd21 rfl (fun _ _hx => ev_u8arr_eql (l := multL a (multL b base9)) (m := multL b (multL a base9)) uT23 uT5 ti5 Try.eqGuardType23 rfl rfl (by first | rfl | first | omega | (simp; done) | (simp; omega) | decide) (by first | rfl | first | omega | (simp; done) | (simp; omega) | decide)) <| dw_q rfl rfl (fun _ _hx => ev_pick_tk rfl hd21 rfl) <| dw_q rfl rfl (fun _ _hx => ev_move (v := (bl ((multL a (multL b base9)) == (multL b (multL a base9))))) rfl) ?_
 have hd28 : ((multL a (multL b base9)) == (multL b (multL a base9))) = true := told_true (by first | rfl | exact mult_comm ha hb base9)
 refine dw_gqy (s := 35) rfl rfl rfl hd28 rfl (fun _ _hx => ev_load_segs [] [a.map u8, (multL a base9).map u8] [] uT40 rfl ti40 s5 (hm16.ext _hx).h0 fl_nil (fl_cons (n := 32) (m := 32) (k := 64) (by first | rfl | (rw [List.length_map]; first | omega | (simp; done) | (simp; omega))) (fl_cons (n := 32) (m := 0) (k := 32) (by first | rfl | (rw [List.length_map]; first | omega | (simp; done) | (simp; omega))) fl_nil rfl) rfl)) <| dw_gqy (s := 35) rfl rfl rfl hd28 rfl (fun _ _hx => ev_fa (r := 32) uT40 rfl (by first | rfl | omega) ti23 rfl s6) <| dw_gqy (s := 35) rfl rfl rfl hd28 rfl (fun _ _hx => ev_load_seg1 (f := u8) [b.map u8] [] (multL b base9) uT23 rfl ti23 rfl (hm16.ext _hx).h1 (fl_cons (n := 32) (m := 0) (k := 32) (by first | rfl | (rw [List.length_map]; first | omega | (simp; done) | (simp; omega))) fl_nil rfl) (by first | rfl | omega | (simp; done) | (simp; omega))) <| dw_gxy (s := 35) (v := (agg u8 (multL a (multL b base9)))) rfl rfl rfl hd28 rfl (fun w29 _ew29 => OpR.mono (opR_call Try.func19 bd19 nm19 (args2 rfl rfl) (c_shared5 a (multL a base9) (multL b base9) _ sD sD sD)) (by rintro _ w30 ⟨rfl, _ew30⟩; exact ⟨rfl, _ew30⟩)) <| dw_gqy (s := 35) rfl rfl rfl hd28 rfl (fun _ _hx => ev_loadA uT23 rfl ti23 s2 (hm16.ext _hx).h3 sZ) <| dw_gqy (s := 35) rfl rfl rfl hd28 rfl (fun _ _hx => ev_loadA uT23 rfl ti23 s3 (hm16.ext _hx).h2 sZ) ?_
 refine dw_gxy (s := 35) (v := (agg u8 (multL b base9))) rfl rfl rfl hd28 rfl (fun w32 _ew32 => OpR.mono (opR_call Try.func18 bd18 nm18 (args1 rfl) (c_public5 b _ sD)) (by rintro _ w33 ⟨rfl, _ew33⟩; exact ⟨rfl, _ew33⟩)) ?_
 refine dw_nil (fun w35 _ew35 => ?_)
 have hm35 := hm16.ext _ew35
 refine rw_gy (s := 35) rfl rfl hd28 rfl (opR_call Try.func15 bd15 nm15 (args2 rfl rfl) (c_mult5 a (multL b base9) _ sD sD)) ?_
 rintro _ w36 ⟨rfl, _ew36⟩
 have hm36 := hm35.ext _ew36
 refine rw_gyq (s := 35) rfl rfl hd28 rfl (ev_u8arr_eql (l := multL a (multL b base9)) (m := multL a (multL b base9)) uT23 uT5 ti5 Try.eqGuardType23 rfl rfl (by first | rfl | first | omega | (simp; done) | (simp; omega) | decide) (by first | rfl | first | omega | (simp; done) | (simp; omega) | decide)) <| rw_q rfl (ev_pick_tk rfl hd28 rfl) <| rw_q rfl (ev_assign (v := (bl ((multL a (multL b base9)) == (multL a (multL b base9))))) rfl) <| rN ?_
 refine CW.abs (fun g => g 0 = (agg u8 a) ∧ g 1 = (agg u8 b) ∧ g 2 = (ptr b2 0) ∧ g 3 = (ptr b3 0) ∧ g 4 = (bl ((multL a (multL b base9)) == (multL a (multL b base9)))) ∧ g 5 = (ptr b5 0) ∧ g 6 = (ptr b6 0) ∧ g 8 = (bl false) ∧ True) ⟨s0, s1, s2, s3, rfl, s5, s6, s8, trivial⟩ ?_
 rintro fr38 ⟨s0, s1, s2, s3, s4, s5, s6, s8, _⟩
 refine cw_ret <| fnPost_ret [(bl ((multL a (multL b base9)) == (multL a (multL b base9))))] ⟨s4, trivial⟩ ?_
 have hd39 : ((multL a (multL b base9)) == (multL a (multL b base9))) = true := told_true (by first | rfl | exact mult_comm ha hb base9)
 exact ⟨congrArg bl hd39, Mem.below w0 hm36⟩


end Go.Proofs.Ytmiagmbgfhakgaa
