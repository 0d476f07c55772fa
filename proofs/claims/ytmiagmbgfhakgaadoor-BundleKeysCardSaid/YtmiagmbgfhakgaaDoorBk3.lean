/- Bundles' keys: the law's walk. Conditions: none beyond those that each theorem states. -/
import Derived.Test.YtmiagmbgfhakgaaDoorBk2
import Derived.Test.YtmiagmbgfhakgaaDoorFwL
import Derived.Test.YtmiagmbgfhakgaaDoorFwT
namespace Go.Proofs.YtmiagmbgfhakgaaDoor
set_option linter.unusedVariables false
set_option linter.unusedSimpArgs false
attribute [local irreducible] comB secB multL multR
set_option maxHeartbeats 1000000 in
theorem c_begin18 (o1 p1 o2 p2 id pk : List (BitVec 8)) (w0 : World)  (hT : Tabs (blks w0)) (ho1 : o1.length = 32) (hp1 : p1.length = 32) (ho2 : o2.length = 32) (hp2 : p2.length = 32) (hid : id.length = 32) (hpk : pk.length = 32) : CallsR Tryd.prog 20 #[(Value.agg (segs [o1.map u8, p1.map u8])), (Value.agg (segs [o2.map u8, p2.map u8])), (Value.agg (segs [id.map u8, pk.map u8]))] w0 (fun r w1 => r = (agg u8 (comB (multL o1 pk) (multL o2 id) (multL o2 pk))) ∧ Ext w0 w1) := by
 refine callsR_of_cw (args := [(Value.agg (segs [o1.map u8, p1.map u8])), (Value.agg (segs [o2.map u8, p2.map u8])), (Value.agg (segs [id.map u8, pk.map u8]))]) Tryd.func20 rfl Tryd.ntmps20 Tryd.results20 rfl ?_
 have hm0 : Mem w0 (restOf w0) [] := Mem.of_world w0
 refine sR ?_
 refine rw_c rfl (or_boxX (cs := (segs [o1.map u8, p1.map u8])) hm0 rfl) ?_
 rintro _ w1 ⟨b3, rfl, _ew1, hm1⟩
 refine rw_c rfl (or_boxX (cs := (segs [o2.map u8, p2.map u8])) hm1 rfl) ?_
 rintro _ w2 ⟨b4, rfl, _ew2, hm2⟩
 refine rw_c rfl (or_boxX (cs := (segs [id.map u8, pk.map u8])) hm2 rfl) ?_
 rintro _ w3 ⟨b5, rfl, _ew3, hm3⟩
 refine rw_c rfl (or_alloc_agg hm3 ti23) ?_
 rintro _ w4 ⟨b6, rfl, _ew4, hm4⟩
 refine rN (cw_seq ?_)
 refine cw_draw [(0, false), (1, false), (2, false), (3, false), (4, false), (5, false), (6, false), (7, false), (8, false), (9, false), (10, false)] 11 (by kernel_rfl) <| dw_q (v := (Value.agg (segs [o1.map u8, p1.map u8]))) rfl rfl (fun _ _hx => ev_load_segs [] [o1.map u8, p1.map u8] [] uT43 rfl ti43 rfl (hm4.ext _hx).h3 fl_nil (fl_cons (n := 32) (m := 32) (k := 64) (by first | rfl | (rw [List.length_map]; first | omega | (simp; done) | (simp; omega))) (fl_cons (n := 32) (m := 0) (k := 32) (by first | rfl | (rw [List.length_map]; first | omega | (simp; done) | (simp; omega))) fl_nil rfl) rfl)) <| dw_q rfl rfl (fun _ _hx => ev_fa (r := 32) uT41 rfl (by first | rfl | omega) ti23 rfl rfl) <| dw_q (v := (agg u8 pk)) rfl rfl (fun _ _hx => ev_load_seg1 (f := u8) [id.map u8] [] pk uT23 rfl ti23 rfl (hm4.ext _hx).h1 (fl_cons (n := 32) (m := 0) (k := 32) (by first | rfl | (rw [List.length_map]; first | omega | (simp; done) | (simp; omega))) fl_nil rfl) (by first | rfl | omega | (simp; done) | (simp; omega))) <| dw_x (v := (agg u8 (multL o1 pk))) rfl rfl (fun w5 _ew5 => OpR.mono (opR_call Tryd.func35 bd35 nm35 (args2 rfl rfl) (c_shared5 o1 p1 pk _ sD sD sD)) (by rintro _ w6 ⟨rfl, _ew6⟩; exact ⟨rfl, _ew6⟩)) <| dw_q (v := (Value.agg (segs [o2.map u8, p2.map u8]))) rfl rfl (fun _ _hx => ev_load_segs [] [o2.map u8, p2.map u8] [] uT43 rfl ti43 rfl (hm4.ext _hx).h2 fl_nil (fl_cons (n := 32) (m := 32) (k := 64) (by first | rfl | (rw [List.length_map]; first | omega | (simp; done) | (simp; omega))) (fl_cons (n := 32) (m := 0) (k := 32) (by first | rfl | (rw [List.length_map]; first | omega | (simp; done) | (simp; omega))) fl_nil rfl) rfl)) ?_
 refine dw_q rfl rfl (fun _ _hx => ev_fa (r := 0) uT41 rfl (by first | rfl | omega) ti23 rfl rfl) <| dw_q (v := (agg u8 id)) rfl rfl (fun _ _hx => ev_load_seg1 (f := u8) [] [pk.map u8] id uT23 rfl ti23 rfl (hm4.ext _hx).h1 fl_nil (by first | rfl | omega | (simp; done) | (simp; omega))) <| dw_x (v := (agg u8 (multL o2 id))) rfl rfl (fun w8 _ew8 => OpR.mono (opR_call Tryd.func35 bd35 nm35 (args2 rfl rfl) (c_shared5 o2 p2 id _ sD sD sD)) (by rintro _ w9 ⟨rfl, _ew9⟩; exact ⟨rfl, _ew9⟩)) <| dw_q (v := (Value.agg (segs [o2.map u8, p2.map u8]))) rfl rfl (fun _ _hx => ev_load_segs [] [o2.map u8, p2.map u8] [] uT43 rfl ti43 rfl (hm4.ext _hx).h2 fl_nil (fl_cons (n := 32) (m := 32) (k := 64) (by first | rfl | (rw [List.length_map]; first | omega | (simp; done) | (simp; omega))) (fl_cons (n := 32) (m := 0) (k := 32) (by first | rfl | (rw [List.length_map]; first | omega | (simp; done) | (simp; omega))) fl_nil rfl) rfl)) <| dw_q rfl rfl (fun _ _hx => ev_fa (r := 32) uT41 rfl (by first | rfl | omega) ti23 rfl rfl) <| dw_q (v := (agg u8 pk)) rfl rfl (fun _ _hx => ev_load_seg1 (f := u8) [id.map u8] [] pk uT23 rfl ti23 rfl (hm4.ext _hx).h1 (fl_cons (n := 32) (m := 0) (k := 32) (by first | rfl | (rw [List.length_map]; first | omega | (simp; done) | (simp; omega))) fl_nil rfl) (by first | rfl | omega | (simp; done) | (simp; omega))) ?_
 refine dw_nil (fun w11 _ew11 => ?_)
 have hm11 := hm4.ext _ew11
 refine rw_c rfl (opR_call Tryd.func35 bd35 nm35 (args2 rfl rfl) (c_shared5 o2 p2 pk _ sD sD sD)) ?_
 rintro _ w12 ⟨rfl, _ew12⟩
 have hm12 := hm11.ext _ew12
 refine rw_c rfl (or_build3 (f := u8) (a := multL o1 pk) (b := multL o2 id) (c := multL o2 pk) (A1 := (List.replicate 32 (u8 0))) (A2 := (List.replicate 32 (u8 0))) (A3 := (List.replicate 32 (u8 0))) hm12 uT57 ti23 rfl (by kernel_rfl) (by simp) (by simp) (by simp) rfl rfl rfl (by first | rfl | first | omega | (simp; done) | (simp; omega) | decide) (by first | rfl | first | omega | (simp; done) | (simp; omega) | decide) (by first | rfl | first | omega | (simp; done) | (simp; omega) | decide)) ?_
 rintro _ w14 ⟨b19, rfl, _ew14, hm14⟩
 have hm14 : Mem w14 (restOf w0) [(b19, .cells (segs [(multL o1 pk).map u8, (multL o2 id).map u8, (multL o2 pk).map u8]) 23 (0, 0)), (b6, .cells (cl u8 (List.replicate 32 0)) 23 (0, 0)), (b5, .cells (segs [id.map u8, pk.map u8]) 41 (0, 0)), (b4, .cells (segs [o2.map u8, p2.map u8]) 43 (0, 0)), (b3, .cells (segs [o1.map u8, p1.map u8]) 43 (0, 0))] := hm14
 refine rw_c rfl (opR_call Tryd.func34 bd34 nm34 (args1 rfl) (c_common (slc b19 0 3 3) ([multL o1 pk, multL o2 id, multL o2 pk]) (multL o1 pk) (multL o2 id) (multL o2 pk) _ (hT.mono fun b o e => (hm14).rest b o e) rfl (RdK.segs3 hm14.h0 (by first | rfl | first | omega | (simp; done) | (simp; omega) | decide) (by first | rfl | first | omega | (simp; done) | (simp; omega) | decide) (by first | rfl | first | omega | (simp; done) | (simp; omega) | decide)) sD sD sD)) ?_
 rintro _ w15 ⟨rfl, _ew15⟩
 have hm15 := hm14.ext _ew15
 refine rw_n (or_store_agg (f := u8) (l := comB (multL o1 pk) (multL o2 id) (multL o2 pk)) u8_one ti23 rfl rfl sD hm15.h1 sZ rfl) ?_
 rintro _ w17 uq17
 have hm17 := hm15.upd1 uq17
 refine rN ?_
 have hm18 := Mem.drop ([(b19, .cells (segs [(multL o1 pk).map u8, (multL o2 id).map u8, (multL o2 pk).map u8]) 23 (0, 0))]) _ hm17
 refine CW.abs (fun g => g 0 = (Value.agg (segs [o1.map u8, p1.map u8])) ∧ g 1 = (Value.agg (segs [o2.map u8, p2.map u8])) ∧ g 2 = (Value.agg (segs [id.map u8, pk.map u8])) ∧ g 3 = (ptr b3 0) ∧ g 4 = (ptr b4 0) ∧ g 5 = (ptr b5 0) ∧ g 6 = (ptr b6 0) ∧ True) ⟨rfl, rfl, rfl, rfl, rfl, rfl, rfl, trivial⟩ ?_
 rintro fr19 ⟨s0, s1, s2, s3, s4, s5, s6, _⟩
 refine cw_ret <| fnPost_ret [(agg u8 (comB (multL o1 pk) (multL o2 id) (multL o2 pk)))] ⟨⟨_, s6, loadVar_run uT23 rfl ti23 hm18.h0 sZ⟩, trivial⟩ ?_
 exact ⟨rfl, hm18.toExt⟩

set_option maxHeartbeats 1000000 in
theorem c_answer18 (o1 p1 o2 p2 ot fe : List (BitVec 8)) (w0 : World)  (hT : Tabs (blks w0)) (ho1 : o1.length = 32) (hp1 : p1.length = 32) (ho2 : o2.length = 32) (hp2 : p2.length = 32) (hot : ot.length = 32) (hfe : fe.length = 32) : CallsR Tryd.prog 22 #[(Value.agg (segs [o1.map u8, p1.map u8])), (Value.agg (segs [o2.map u8, p2.map u8])), (agg u8 ot), (agg u8 fe)] w0 (fun r w1 => r = (agg u8 (comB (multL o2 ot) (multL o1 fe) (multL o2 fe))) ∧ Ext w0 w1) := by
 refine callsR_of_cw (args := [(Value.agg (segs [o1.map u8, p1.map u8])), (Value.agg (segs [o2.map u8, p2.map u8])), (agg u8 ot), (agg u8 fe)]) Tryd.func22 rfl Tryd.ntmps22 Tryd.results22 rfl ?_
 have hm0 : Mem w0 (restOf w0) [] := Mem.of_world w0
 refine sR ?_
 refine rw_c rfl (or_boxX (cs := (segs [o1.map u8, p1.map u8])) hm0 rfl) ?_
 rintro _ w1 ⟨b4, rfl, _ew1, hm1⟩
 refine rw_c rfl (or_boxX (cs := (segs [o2.map u8, p2.map u8])) hm1 rfl) ?_
 rintro _ w2 ⟨b5, rfl, _ew2, hm2⟩
 refine rw_c rfl (or_box_agg (f := u8) (l := ot) hm2 rfl) ?_
 rintro _ w3 ⟨b6, rfl, _ew3, hm3⟩
 refine rw_c rfl (or_box_agg (f := u8) (l := fe) hm3 rfl) ?_
 rintro _ w4 ⟨b7, rfl, _ew4, hm4⟩
 refine rw_c rfl (or_alloc_agg hm4 ti23) ?_
 rintro _ w5 ⟨b8, rfl, _ew5, hm5⟩
 refine rN (cw_seq ?_)
 refine cw_draw [(0, false), (1, false), (2, false), (3, false), (4, false), (5, false), (6, false), (7, false)] 8 (by kernel_rfl) <| dw_q (v := (Value.agg (segs [o2.map u8, p2.map u8]))) rfl rfl (fun _ _hx => ev_load_segs [] [o2.map u8, p2.map u8] [] uT43 rfl ti43 rfl (hm5.ext _hx).h3 fl_nil (fl_cons (n := 32) (m := 32) (k := 64) (by first | rfl | (rw [List.length_map]; first | omega | (simp; done) | (simp; omega))) (fl_cons (n := 32) (m := 0) (k := 32) (by first | rfl | (rw [List.length_map]; first | omega | (simp; done) | (simp; omega))) fl_nil rfl) rfl)) <| dw_q (v := (agg u8 ot)) rfl rfl (fun _ _hx => ev_loadA uT23 rfl ti23 rfl (hm5.ext _hx).h2 sZ) <| dw_x (v := (agg u8 (multL o2 ot))) rfl rfl (fun w6 _ew6 => OpR.mono (opR_call Tryd.func35 bd35 nm35 (args2 rfl rfl) (c_shared5 o2 p2 ot _ sD sD sD)) (by rintro _ w7 ⟨rfl, _ew7⟩; exact ⟨rfl, _ew7⟩)) <| dw_q (v := (Value.agg (segs [o1.map u8, p1.map u8]))) rfl rfl (fun _ _hx => ev_load_segs [] [o1.map u8, p1.map u8] [] uT43 rfl ti43 rfl (hm5.ext _hx).h4 fl_nil (fl_cons (n := 32) (m := 32) (k := 64) (by first | rfl | (rw [List.length_map]; first | omega | (simp; done) | (simp; omega))) (fl_cons (n := 32) (m := 0) (k := 32) (by first | rfl | (rw [List.length_map]; first | omega | (simp; done) | (simp; omega))) fl_nil rfl) rfl)) <| dw_q (v := (agg u8 fe)) rfl rfl (fun _ _hx => ev_loadA uT23 rfl ti23 rfl (hm5.ext _hx).h1 sZ) ?_
 refine dw_x (v := (agg u8 (multL o1 fe))) rfl rfl (fun w9 _ew9 => OpR.mono (opR_call Tryd.func35 bd35 nm35 (args2 rfl rfl) (c_shared5 o1 p1 fe _ sD sD sD)) (by rintro _ w10 ⟨rfl, _ew10⟩; exact ⟨rfl, _ew10⟩)) <| dw_q (v := (Value.agg (segs [o2.map u8, p2.map u8]))) rfl rfl (fun _ _hx => ev_load_segs [] [o2.map u8, p2.map u8] [] uT43 rfl ti43 rfl (hm5.ext _hx).h3 fl_nil (fl_cons (n := 32) (m := 32) (k := 64) (by first | rfl | (rw [List.length_map]; first | omega | (simp; done) | (simp; omega))) (fl_cons (n := 32) (m := 0) (k := 32) (by first | rfl | (rw [List.length_map]; first | omega | (simp; done) | (simp; omega))) fl_nil rfl) rfl)) <| dw_q (v := (agg u8 fe)) rfl rfl (fun _ _hx => ev_loadA uT23 rfl ti23 rfl (hm5.ext _hx).h1 sZ) ?_
 refine dw_nil (fun w12 _ew12 => ?_)
 have hm12 := hm5.ext _ew12
 refine rw_c rfl (opR_call Tryd.func35 bd35 nm35 (args2 rfl rfl) (c_shared5 o2 p2 fe _ sD sD sD)) ?_
 rintro _ w13 ⟨rfl, _ew13⟩
 have hm13 := hm12.ext _ew13
 refine rw_c rfl (or_build3 (f := u8) (a := multL o2 ot) (b := multL o1 fe) (c := multL o2 fe) (A1 := (List.replicate 32 (u8 0))) (A2 := (List.replicate 32 (u8 0))) (A3 := (List.replicate 32 (u8 0))) hm13 uT57 ti23 rfl (by kernel_rfl) (by simp) (by simp) (by simp) rfl rfl rfl (by first | rfl | first | omega | (simp; done) | (simp; omega) | decide) (by first | rfl | first | omega | (simp; done) | (simp; omega) | decide) (by first | rfl | first | omega | (simp; done) | (simp; omega) | decide)) ?_
 rintro _ w15 ⟨b18, rfl, _ew15, hm15⟩
 have hm15 : Mem w15 (restOf w0) [(b18, .cells (segs [(multL o2 ot).map u8, (multL o1 fe).map u8, (multL o2 fe).map u8]) 23 (0, 0)), (b8, .cells (cl u8 (List.replicate 32 0)) 23 (0, 0)), (b7, .cells (cl u8 fe) 23 (0, 0)), (b6, .cells (cl u8 ot) 23 (0, 0)), (b5, .cells (segs [o2.map u8, p2.map u8]) 43 (0, 0)), (b4, .cells (segs [o1.map u8, p1.map u8]) 43 (0, 0))] := hm15
 refine rw_c rfl (opR_call Tryd.func34 bd34 nm34 (args1 rfl) (c_common (slc b18 0 3 3) ([multL o2 ot, multL o1 fe, multL o2 fe]) (multL o2 ot) (multL o1 fe) (multL o2 fe) _ (hT.mono fun b o e => (hm15).rest b o e) rfl (RdK.segs3 hm15.h0 (by first | rfl | first | omega | (simp; done) | (simp; omega) | decide) (by first | rfl | first | omega | (simp; done) | (simp; omega) | decide) (by first | rfl | first | omega | (simp; done) | (simp; omega) | decide)) sD sD sD)) ?_
 rintro _ w16 ⟨rfl, _ew16⟩
 have hm16 := hm15.ext _ew16
 refine rw_n (or_store_agg (f := u8) (l := comB (multL o2 ot) (multL o1 fe) (multL o2 fe)) u8_one ti23 rfl rfl sD hm16.h1 sZ rfl) ?_
 rintro _ w18 uq18
 have hm18 := hm16.upd1 uq18
 refine rN ?_
 have hm19 := Mem.drop ([(b18, .cells (segs [(multL o2 ot).map u8, (multL o1 fe).map u8, (multL o2 fe).map u8]) 23 (0, 0))]) _ hm18
 refine CW.abs (fun g => g 0 = (Value.agg (segs [o1.map u8, p1.map u8])) ∧ g 1 = (Value.agg (segs [o2.map u8, p2.map u8])) ∧ g 2 = (agg u8 ot) ∧ g 3 = (agg u8 fe) ∧ g 4 = (ptr b4 0) ∧ g 5 = (ptr b5 0) ∧ g 6 = (ptr b6 0) ∧ g 7 = (ptr b7 0) ∧ g 8 = (ptr b8 0) ∧ True) ⟨rfl, rfl, rfl, rfl, rfl, rfl, rfl, rfl, rfl, trivial⟩ ?_
 rintro fr20 ⟨s0, s1, s2, s3, s4, s5, s6, s7, s8, _⟩
 refine cw_ret <| fnPost_ret [(agg u8 (comB (multL o2 ot) (multL o1 fe) (multL o2 fe)))] ⟨⟨_, s8, loadVar_run uT23 rfl ti23 hm19.h0 sZ⟩, trivial⟩ ?_
 exact ⟨rfl, hm19.toExt⟩

set_option maxHeartbeats 1000000 in
theorem c_rbegin18 (x y id pk : List (BitVec 8)) (w0 : World)  (hx : x.length = 32) (hy : y.length = 32) (hid : id.length = 32) (hpk : pk.length = 32) : CallsR Tryd.prog 21 #[(agg u8 x), (agg u8 y), (Value.agg (segs [id.map u8, pk.map u8]))] w0 (fun r w1 => r = (agg u8 (comB (multR x pk) (multR y id) (multR y pk))) ∧ Ext w0 w1) := by
 refine callsR_of_cw (args := [(agg u8 x), (agg u8 y), (Value.agg (segs [id.map u8, pk.map u8]))]) Tryd.func21 rfl Tryd.ntmps21 Tryd.results21 rfl ?_
 have hm0 : Mem w0 (restOf w0) [] := Mem.of_world w0
 refine sR ?_
 refine rw_c rfl (or_box_agg (f := u8) (l := x) hm0 rfl) ?_
 rintro _ w1 ⟨b3, rfl, _ew1, hm1⟩
 refine rw_c rfl (or_box_agg (f := u8) (l := y) hm1 rfl) ?_
 rintro _ w2 ⟨b4, rfl, _ew2, hm2⟩
 refine rw_c rfl (or_boxX (cs := (segs [id.map u8, pk.map u8])) hm2 rfl) ?_
 rintro _ w3 ⟨b5, rfl, _ew3, hm3⟩
 refine rw_c rfl (or_alloc_agg hm3 ti23) ?_
 rintro _ w4 ⟨b6, rfl, _ew4, hm4⟩
 refine rN (cw_seq ?_)
 refine cw_draw [(0, false), (1, false), (2, false), (3, false), (4, false), (5, false), (6, false), (7, false), (8, false), (9, false), (10, false)] 11 (by kernel_rfl) <| dw_q (v := (agg u8 x)) rfl rfl (fun _ _hx => ev_loadA uT23 rfl ti23 rfl (hm4.ext _hx).h3 sZ) <| dw_q rfl rfl (fun _ _hx => ev_fa (r := 32) uT41 rfl (by first | rfl | omega) ti23 rfl rfl) <| dw_q (v := (agg u8 pk)) rfl rfl (fun _ _hx => ev_load_seg1 (f := u8) [id.map u8] [] pk uT23 rfl ti23 rfl (hm4.ext _hx).h1 (fl_cons (n := 32) (m := 0) (k := 32) (by first | rfl | (rw [List.length_map]; first | omega | (simp; done) | (simp; omega))) fl_nil rfl) (by first | rfl | omega | (simp; done) | (simp; omega))) <| dw_x (v := (agg u8 (multR x pk))) rfl rfl (fun w5 _ew5 => OpR.mono (opR_call Tryd.func37 bd37 nm37 (args2 rfl rfl) (c_rmult x pk _ sD sD)) (by rintro _ w6 ⟨rfl, _ew6⟩; exact ⟨rfl, _ew6⟩)) <| dw_q (v := (agg u8 y)) rfl rfl (fun _ _hx => ev_loadA uT23 rfl ti23 rfl (hm4.ext _hx).h2 sZ) ?_
 refine dw_q rfl rfl (fun _ _hx => ev_fa (r := 0) uT41 rfl (by first | rfl | omega) ti23 rfl rfl) <| dw_q (v := (agg u8 id)) rfl rfl (fun _ _hx => ev_load_seg1 (f := u8) [] [pk.map u8] id uT23 rfl ti23 rfl (hm4.ext _hx).h1 fl_nil (by first | rfl | omega | (simp; done) | (simp; omega))) <| dw_x (v := (agg u8 (multR y id))) rfl rfl (fun w8 _ew8 => OpR.mono (opR_call Tryd.func37 bd37 nm37 (args2 rfl rfl) (c_rmult y id _ sD sD)) (by rintro _ w9 ⟨rfl, _ew9⟩; exact ⟨rfl, _ew9⟩)) <| dw_q (v := (agg u8 y)) rfl rfl (fun _ _hx => ev_loadA uT23 rfl ti23 rfl (hm4.ext _hx).h2 sZ) <| dw_q rfl rfl (fun _ _hx => ev_fa (r := 32) uT41 rfl (by first | rfl | omega) ti23 rfl rfl) <| dw_q (v := (agg u8 pk)) rfl rfl (fun _ _hx => ev_load_seg1 (f := u8) [id.map u8] [] pk uT23 rfl ti23 rfl (hm4.ext _hx).h1 (fl_cons (n := 32) (m := 0) (k := 32) (by first | rfl | (rw [List.length_map]; first | omega | (simp; done) | (simp; omega))) fl_nil rfl) (by first | rfl | omega | (simp; done) | (simp; omega))) ?_
 refine dw_nil (fun w11 _ew11 => ?_)
 have hm11 := hm4.ext _ew11
 refine rw_c rfl (opR_call Tryd.func37 bd37 nm37 (args2 rfl rfl) (c_rmult y pk _ sD sD)) ?_
 rintro _ w12 ⟨rfl, _ew12⟩
 have hm12 := hm11.ext _ew12
 refine rw_c rfl (opR_call Tryd.func36 bd36 nm36 (args3 rfl rfl rfl) (c_rcommon (multR x pk) (multR y id) (multR y pk) _ sD sD sD)) ?_
 rintro _ w14 ⟨rfl, _ew14⟩
 have hm14 := hm12.ext _ew14
 refine rw_n (or_store_agg (f := u8) (l := comB (multR x pk) (multR y id) (multR y pk)) u8_one ti23 rfl rfl sD hm14.h0 sZ rfl) ?_
 rintro _ w16 uq16
 have hm16 := hm14.upd0 uq16
 refine rN ?_
 refine CW.abs (fun g => g 0 = (agg u8 x) ∧ g 1 = (agg u8 y) ∧ g 2 = (Value.agg (segs [id.map u8, pk.map u8])) ∧ g 3 = (ptr b3 0) ∧ g 4 = (ptr b4 0) ∧ g 5 = (ptr b5 0) ∧ g 6 = (ptr b6 0) ∧ True) ⟨rfl, rfl, rfl, rfl, rfl, rfl, rfl, trivial⟩ ?_
 rintro fr17 ⟨s0, s1, s2, s3, s4, s5, s6, _⟩
 refine cw_ret <| fnPost_ret [(agg u8 (comB (multR x pk) (multR y id) (multR y pk)))] ⟨⟨_, s6, loadVar_run uT23 rfl ti23 hm16.h0 sZ⟩, trivial⟩ ?_
 exact ⟨rfl, hm16.toExt⟩

set_option maxHeartbeats 1000000 in
theorem c_ranswer18 (x y ot fe : List (BitVec 8)) (w0 : World)  (hx : x.length = 32) (hy : y.length = 32) (hot : ot.length = 32) (hfe : fe.length = 32) : CallsR Tryd.prog 23 #[(agg u8 x), (agg u8 y), (agg u8 ot), (agg u8 fe)] w0 (fun r w1 => r = (agg u8 (comB (multR y ot) (multR x fe) (multR y fe))) ∧ Ext w0 w1) := by
 refine callsR_of_cw (args := [(agg u8 x), (agg u8 y), (agg u8 ot), (agg u8 fe)]) Tryd.func23 rfl Tryd.ntmps23 Tryd.results23 rfl ?_
 have hm0 : Mem w0 (restOf w0) [] := Mem.of_world w0
 refine sR ?_
 refine rw_c rfl (or_box_agg (f := u8) (l := x) hm0 rfl) ?_
 rintro _ w1 ⟨b4, rfl, _ew1, hm1⟩
 refine rw_c rfl (or_box_agg (f := u8) (l := y) hm1 rfl) ?_
 rintro _ w2 ⟨b5, rfl, _ew2, hm2⟩
 refine rw_c rfl (or_box_agg (f := u8) (l := ot) hm2 rfl) ?_
 rintro _ w3 ⟨b6, rfl, _ew3, hm3⟩
 refine rw_c rfl (or_box_agg (f := u8) (l := fe) hm3 rfl) ?_
 rintro _ w4 ⟨b7, rfl, _ew4, hm4⟩
 refine rw_c rfl (or_alloc_agg hm4 ti23) ?_
 rintro _ w5 ⟨b8, rfl, _ew5, hm5⟩
 refine rN (cw_seq ?_)
 refine cw_draw [(0, false), (1, false), (2, false), (3, false), (4, false), (5, false), (6, false), (7, false)] 8 (by kernel_rfl) <| dw_q (v := (agg u8 y)) rfl rfl (fun _ _hx => ev_loadA uT23 rfl ti23 rfl (hm5.ext _hx).h3 sZ) <| dw_q (v := (agg u8 ot)) rfl rfl (fun _ _hx => ev_loadA uT23 rfl ti23 rfl (hm5.ext _hx).h2 sZ) <| dw_x (v := (agg u8 (multR y ot))) rfl rfl (fun w6 _ew6 => OpR.mono (opR_call Tryd.func37 bd37 nm37 (args2 rfl rfl) (c_rmult y ot _ sD sD)) (by rintro _ w7 ⟨rfl, _ew7⟩; exact ⟨rfl, _ew7⟩)) <| dw_q (v := (agg u8 x)) rfl rfl (fun _ _hx => ev_loadA uT23 rfl ti23 rfl (hm5.ext _hx).h4 sZ) <| dw_q (v := (agg u8 fe)) rfl rfl (fun _ _hx => ev_loadA uT23 rfl ti23 rfl (hm5.ext _hx).h1 sZ) ?_
 refine dw_x (v := (agg u8 (multR x fe))) rfl rfl (fun w9 _ew9 => OpR.mono (opR_call Tryd.func37 bd37 nm37 (args2 rfl rfl) (c_rmult x fe _ sD sD)) (by rintro _ w10 ⟨rfl, _ew10⟩; exact ⟨rfl, _ew10⟩)) <| dw_q (v := (agg u8 y)) rfl rfl (fun _ _hx => ev_loadA uT23 rfl ti23 rfl (hm5.ext _hx).h3 sZ) <| dw_q (v := (agg u8 fe)) rfl rfl (fun _ _hx => ev_loadA uT23 rfl ti23 rfl (hm5.ext _hx).h1 sZ) ?_
 refine dw_nil (fun w12 _ew12 => ?_)
 have hm12 := hm5.ext _ew12
 refine rw_c rfl (opR_call Tryd.func37 bd37 nm37 (args2 rfl rfl) (c_rmult y fe _ sD sD)) ?_
 rintro _ w13 ⟨rfl, _ew13⟩
 have hm13 := hm12.ext _ew13
 refine rw_c rfl (opR_call Tryd.func36 bd36 nm36 (args3 rfl rfl rfl) (c_rcommon (multR y ot) (multR x fe) (multR y fe) _ sD sD sD)) ?_
 rintro _ w15 ⟨rfl, _ew15⟩
 have hm15 := hm13.ext _ew15
 refine rw_n (or_store_agg (f := u8) (l := comB (multR y ot) (multR x fe) (multR y fe)) u8_one ti23 rfl rfl sD hm15.h0 sZ rfl) ?_
 rintro _ w17 uq17
 have hm17 := hm15.upd0 uq17
 refine rN ?_
 refine CW.abs (fun g => g 0 = (agg u8 x) ∧ g 1 = (agg u8 y) ∧ g 2 = (agg u8 ot) ∧ g 3 = (agg u8 fe) ∧ g 4 = (ptr b4 0) ∧ g 5 = (ptr b5 0) ∧ g 6 = (ptr b6 0) ∧ g 7 = (ptr b7 0) ∧ g 8 = (ptr b8 0) ∧ True) ⟨rfl, rfl, rfl, rfl, rfl, rfl, rfl, rfl, rfl, trivial⟩ ?_
 rintro fr18 ⟨s0, s1, s2, s3, s4, s5, s6, s7, s8, _⟩
 refine cw_ret <| fnPost_ret [(agg u8 (comB (multR y ot) (multR x fe) (multR y fe)))] ⟨⟨_, s8, loadVar_run uT23 rfl ti23 hm17.h0 sZ⟩, trivial⟩ ?_
 exact ⟨rfl, hm17.toExt⟩

theorem c_speaks18  (w0 : World)   : CallsR Tryd.prog 19 #[] w0 (fun r w1 => r = (bl true) ∧ Ext w0 w1) := by
 refine callsR_of_cw (args := []) Tryd.func19 rfl Tryd.ntmps19 Tryd.results19 rfl ?_
 have hm0 : Mem w0 (restOf w0) [] := Mem.of_world w0
 refine sR ?_
 refine rw_q rfl (ev_assign (v := (bl false)) rfl) ?_
 refine rN (sR ?_)
 refine rw_q rfl (ev_build_pa (c := (cl u8 ([7#8, 0#8, 0#8, 0#8, 0#8, 0#8, 0#8, 0#8, 0#8, 0#8, 0#8, 0#8, 0#8, 0#8, 0#8, 0#8, 0#8, 0#8, 0#8, 0#8, 0#8, 0#8, 0#8, 0#8, 0#8, 0#8, 0#8, 0#8, 0#8, 0#8, 0#8, 0#8]))) ti23 uT23 ti5 (pm_cons (i := 0) (v := (u8 7#8)) (cs := #[(u8 7#8)]) rfl rfl pm_nil) (by kernel_rfl)) <| rw_q rfl (ev_build_pt (c := #[(u8 7#8), (u8 0#8), (u8 0#8), (u8 0#8), (u8 0#8), (u8 0#8), (u8 0#8), (u8 0#8), (u8 0#8), (u8 0#8), (u8 0#8), (u8 0#8), (u8 0#8), (u8 0#8), (u8 0#8), (u8 0#8), (u8 0#8), (u8 0#8), (u8 0#8), (u8 0#8), (u8 0#8), (u8 0#8), (u8 0#8), (u8 0#8), (u8 0#8), (u8 0#8), (u8 0#8), (u8 0#8), (u8 0#8), (u8 0#8), (u8 0#8), (u8 0#8), (u8 0), (u8 0), (u8 0), (u8 0), (u8 0), (u8 0), (u8 0), (u8 0), (u8 0), (u8 0), (u8 0), (u8 0), (u8 0), (u8 0), (u8 0), (u8 0), (u8 0), (u8 0), (u8 0), (u8 0), (u8 0), (u8 0), (u8 0), (u8 0), (u8 0), (u8 0), (u8 0), (u8 0), (u8 0), (u8 0), (u8 0), (u8 0)]) (pl := [(0, 32), (32, 32)]) ti41 uT41 (by kernel_rfl) (pm_cons (i := 0) (v := (agg u8 ([7#8, 0#8, 0#8, 0#8, 0#8, 0#8, 0#8, 0#8, 0#8, 0#8, 0#8, 0#8, 0#8, 0#8, 0#8, 0#8, 0#8, 0#8, 0#8, 0#8, 0#8, 0#8, 0#8, 0#8, 0#8, 0#8, 0#8, 0#8, 0#8, 0#8, 0#8, 0#8]))) (cs := (cl u8 ([7#8, 0#8, 0#8, 0#8, 0#8, 0#8, 0#8, 0#8, 0#8, 0#8, 0#8, 0#8, 0#8, 0#8, 0#8, 0#8, 0#8, 0#8, 0#8, 0#8, 0#8, 0#8, 0#8, 0#8, 0#8, 0#8, 0#8, 0#8, 0#8, 0#8, 0#8, 0#8]))) rfl rfl pm_nil) (by kernel_rfl)) <| rw_c rfl (opR_call Tryd.func33 bd33 nm33 (args1 rfl) (c_bencode ([7#8, 0#8, 0#8, 0#8, 0#8, 0#8, 0#8, 0#8, 0#8, 0#8, 0#8, 0#8, 0#8, 0#8, 0#8, 0#8, 0#8, 0#8, 0#8, 0#8, 0#8, 0#8, 0#8, 0#8, 0#8, 0#8, 0#8, 0#8, 0#8, 0#8, 0#8, 0#8]) ([0, 0, 0, 0, 0, 0, 0, 0, 0, 0, 0, 0, 0, 0, 0, 0, 0, 0, 0, 0, 0, 0, 0, 0, 0, 0, 0, 0, 0, 0, 0, 0]) _ sD sD)) ?_
 rintro rq2 w1 ⟨Hsq2, grq2, k_w1⟩
 have hm1 : Mem w1 (restOf w0) (Hsq2 ++ ([])) := Mem.new (H := []) (H' := Hsq2) hm0 k_w1
 refine rA rfl (v := rq2) rfl ?_
 refine rN (sR ?_)
 refine rM rfl (v := rq2) rfl <| rw_q (v := (i64 ((encB ([7#8, 0#8, 0#8, 0#8, 0#8, 0#8, 0#8, 0#8, 0#8, 0#8, 0#8, 0#8, 0#8, 0#8, 0#8, 0#8, 0#8, 0#8, 0#8, 0#8, 0#8, 0#8, 0#8, 0#8, 0#8, 0#8, 0#8, 0#8, 0#8, 0#8, 0#8, 0#8]) ([0, 0, 0, 0, 0, 0, 0, 0, 0, 0, 0, 0, 0, 0, 0, 0, 0, 0, 0, 0, 0, 0, 0, 0, 0, 0, 0, 0, 0, 0, 0, 0])).length : Int))) rfl (ev_len_rd (grq2.rd hm1) uT26 rfl) <| rw_q rfl (ev_i64_eql (b := 65) rfl rfl) <| rM rfl rfl ?_
 have hd3 : (((encB ([7#8, 0#8, 0#8, 0#8, 0#8, 0#8, 0#8, 0#8, 0#8, 0#8, 0#8, 0#8, 0#8, 0#8, 0#8, 0#8, 0#8, 0#8, 0#8, 0#8, 0#8, 0#8, 0#8, 0#8, 0#8, 0#8, 0#8, 0#8, 0#8, 0#8, 0#8, 0#8]) ([0, 0, 0, 0, 0, 0, 0, 0, 0, 0, 0, 0, 0, 0, 0, 0, 0, 0, 0, 0, 0, 0, 0, 0, 0, 0, 0, 0, 0, 0, 0, 0])).length : Int) == 65) = true := told_true rfl
 refine rw_gyq (s := 8) rfl rfl hd3 rfl (ev_move (v := rq2) rfl) <| rw_gyq (s := 8) rfl rfl hd3 rfl (ev_indexAddr_rdv (i := 0) (grq2.rd hm1) uT26 ti5 rfl rfl oM sD) <| rw_gyq (s := 8) rfl rfl hd3 rfl (ev_load_rdD (l := encB ([7#8, 0#8, 0#8, 0#8, 0#8, 0#8, 0#8, 0#8, 0#8, 0#8, 0#8, 0#8, 0#8, 0#8, 0#8, 0#8, 0#8, 0#8, 0#8, 0#8, 0#8, 0#8, 0#8, 0#8, 0#8, 0#8, 0#8, 0#8, 0#8, 0#8, 0#8, 0#8]) ([0, 0, 0, 0, 0, 0, 0, 0, 0, 0, 0, 0, 0, 0, 0, 0, 0, 0, 0, 0, 0, 0, 0, 0, 0, 0, 0, 0, 0, 0, 0, 0])) (i := 0) (dflt := 0) (grq2.rd hm1) uT5 rfl oM sD rfl) <| rw_gyq (s := 8) rfl rfl hd3 rfl (ev_u8_eql (b := 1#8) rfl rfl) <| rw_q rfl (ev_pick_tk rfl hd3 rfl) <| rM rfl rfl ?_
 have hd4 : (((encB ([7#8, 0#8, 0#8, 0#8, 0#8, 0#8, 0#8, 0#8, 0#8, 0#8, 0#8, 0#8, 0#8, 0#8, 0#8, 0#8, 0#8, 0#8, 0#8, 0#8, 0#8, 0#8, 0#8, 0#8, 0#8, 0#8, 0#8, 0#8, 0#8, 0#8, 0#8, 0#8]) ([0, 0, 0, 0, 0, 0, 0, 0, 0, 0, 0, 0, 0, 0, 0, 0, 0, 0, 0, 0, 0, 0, 0, 0, 0, 0, 0, 0, 0, 0, 0, 0])).getD 0 0) == 1#8) = true := told_true rfl
 refine rw_gyq (s := 14) rfl rfl hd4 rfl (ev_move (v := rq2) rfl) <| rw_gyq (s := 14) rfl rfl hd4 rfl (ev_indexAddr_rdv (i := 1) (grq2.rd hm1) uT26 ti5 rfl rfl oM sD) <| rw_gyq (s := 14) rfl rfl hd4 rfl (ev_load_rdD (l := encB ([7#8, 0#8, 0#8, 0#8, 0#8, 0#8, 0#8, 0#8, 0#8, 0#8, 0#8, 0#8, 0#8, 0#8, 0#8, 0#8, 0#8, 0#8, 0#8, 0#8, 0#8, 0#8, 0#8, 0#8, 0#8, 0#8, 0#8, 0#8, 0#8, 0#8, 0#8, 0#8]) ([0, 0, 0, 0, 0, 0, 0, 0, 0, 0, 0, 0, 0, 0, 0, 0, 0, 0, 0, 0, 0, 0, 0, 0, 0, 0, 0, 0, 0, 0, 0, 0])) (i := 1) (dflt := 0) (grq2.rd hm1) uT5 rfl oM sD rfl) <| rw_gyq (s := 14) rfl rfl hd4 rfl (ev_u8_eql (b := 7#8) rfl rfl) <| rw_q rfl (ev_pick_tk rfl hd4 rfl) <| rA rfl rfl ?_
 refine rN ?_
 refine CW.abs (fun g => g 0 = (bl (((encB ([7#8, 0#8, 0#8, 0#8, 0#8, 0#8, 0#8, 0#8, 0#8, 0#8, 0#8, 0#8, 0#8, 0#8, 0#8, 0#8, 0#8, 0#8, 0#8, 0#8, 0#8, 0#8, 0#8, 0#8, 0#8, 0#8, 0#8, 0#8, 0#8, 0#8, 0#8, 0#8]) ([0, 0, 0, 0, 0, 0, 0, 0, 0, 0, 0, 0, 0, 0, 0, 0, 0, 0, 0, 0, 0, 0, 0, 0, 0, 0, 0, 0, 0, 0, 0, 0])).getD 1 0) == 7#8)) ∧ g 1 = rq2 ∧ True) ⟨rfl, rfl, trivial⟩ ?_
 rintro fr5 ⟨s0, s1, _⟩
 refine cw_ret <| fnPost_ret [(bl (((encB ([7#8, 0#8, 0#8, 0#8, 0#8, 0#8, 0#8, 0#8, 0#8, 0#8, 0#8, 0#8, 0#8, 0#8, 0#8, 0#8, 0#8, 0#8, 0#8, 0#8, 0#8, 0#8, 0#8, 0#8, 0#8, 0#8, 0#8, 0#8, 0#8, 0#8, 0#8, 0#8]) ([0, 0, 0, 0, 0, 0, 0, 0, 0, 0, 0, 0, 0, 0, 0, 0, 0, 0, 0, 0, 0, 0, 0, 0, 0, 0, 0, 0, 0, 0, 0, 0])).getD 1 0) == 7#8))] ⟨s0, trivial⟩ ?_
 have hd6 : (((encB ([7#8, 0#8, 0#8, 0#8, 0#8, 0#8, 0#8, 0#8, 0#8, 0#8, 0#8, 0#8, 0#8, 0#8, 0#8, 0#8, 0#8, 0#8, 0#8, 0#8, 0#8, 0#8, 0#8, 0#8, 0#8, 0#8, 0#8, 0#8, 0#8, 0#8, 0#8, 0#8]) ([0, 0, 0, 0, 0, 0, 0, 0, 0, 0, 0, 0, 0, 0, 0, 0, 0, 0, 0, 0, 0, 0, 0, 0, 0, 0, 0, 0, 0, 0, 0, 0])).getD 1 0) == 7#8) = true := told_true rfl
 exact ⟨congrArg bl (told_true rfl), hm1.toExt⟩

set_option maxHeartbeats 1000000 in
theorem law_bkeys (a b id pk : List (BitVec 8)) (w0 : World)  (hT : Tabs (blks w0)) (ha : a.length = 32) (hb : b.length = 32) (hid : id.length = 32) (hpk : pk.length = 32) : CallsR Tryd.prog 8 #[(agg u8 a), (agg u8 b), (Value.agg (segs [id.map u8, pk.map u8]))] w0 (fun r w1 => r = bl true ∧ RowKit.Below w0.heap.size w0 w1) := by
 refine callsR_of_cw (args := [(agg u8 a), (agg u8 b), (Value.agg (segs [id.map u8, pk.map u8]))]) Tryd.func8 rfl Tryd.ntmps8 Tryd.results8 rfl ?_
 have hm0 : Mem w0 (restOf w0) [] := Mem.of_world w0
 refine sR ?_
 refine rw_c rfl (or_box_agg (f := u8) (l := a) hm0 rfl) ?_
 rintro _ w1 ⟨b3, rfl, _ew1, hm1⟩
 refine rw_c rfl (or_box_agg (f := u8) (l := b) hm1 rfl) ?_
 rintro _ w2 ⟨b4, rfl, _ew2, hm2⟩
 refine rw_c rfl (or_boxX (cs := (segs [id.map u8, pk.map u8])) hm2 rfl) ?_
 rintro _ w3 ⟨b5, rfl, _ew3, hm3⟩
 refine rw_q rfl (ev_assign (v := (bl false)) rfl) ?_
 refine rN (cw_seq (sR ?_))
 refine rw_c rfl (opR_call Tryd.func19 bd19 nm19 (args0) (c_speaks18 _)) ?_
 rintro _ w4 ⟨rfl, _ew4⟩
 have hm4 := hm3.ext _ew4
 refine rw_q (v := (bl false)) rfl (ev_not (b := true) rfl) ?_
 refine rN ?_
 refine cw_cond_f rfl (by decide) ?_
 refine cw_skip (kThen_normal (cw_seq ?_))
 refine cw_drawE (by kernel_rfl) ?_
 have hFM6 : Mem w4 (restOf w0) ([] ++ [(b5, .cells (segs [id.map u8, pk.map u8]) 41 (0, 0)), (b4, .cells (cl u8 b) 23 (0, 0)), (b3, .cells (cl u8 a) 23 (0, 0))]) := hm4
 obtain ⟨RM6, hRM6⟩ : ∃ R2, R2 = Rest.add (restOf w0) [(b5, .cells (segs [id.map u8, pk.map u8]) 41 (0, 0)), (b4, .cells (cl u8 b) 23 (0, 0)), (b3, .cells (cl u8 a) 23 (0, 0))] := ⟨_, rfl⟩
 have M60 : Mem w4 RM6 [] := by rw [hRM6]; exact Mem.give hFM6
 have ho7 : RM6.blk b5 = some (.cells (segs [id.map u8, pk.map u8]) 41 (0, 0)) := by rw [hRM6]; exact Mem.addOwn hFM6 (List.Mem.head _)
 have ho8 : RM6.blk b4 = some (.cells (cl u8 b) 23 (0, 0)) := by rw [hRM6]; exact Mem.addOwn hFM6 (List.Mem.tail _ (List.Mem.head _))
 have ho9 : RM6.blk b3 = some (.cells (cl u8 a) 23 (0, 0)) := by rw [hRM6]; exact Mem.addOwn hFM6 (List.Mem.tail _ (List.Mem.tail _ (List.Mem.head _)))
 have hT10 : Tabs RM6.blk := by rw [hRM6]; exact Tabs.mono hT fun b o e => Mem.addRest hFM6 e
 refine re_allocsM [4, 5] [(0, false), (1, false), (2, false), (3, false)] [(6, true)] 7 (luN [(4, 7), (5, 8)]) (luN [(4, 43), (5, 43)]) (luV [(4, (Value.agg #[(u8 0), (u8 0), (u8 0), (u8 0), (u8 0), (u8 0), (u8 0), (u8 0), (u8 0), (u8 0), (u8 0), (u8 0), (u8 0), (u8 0), (u8 0), (u8 0), (u8 0), (u8 0), (u8 0), (u8 0), (u8 0), (u8 0), (u8 0), (u8 0), (u8 0), (u8 0), (u8 0), (u8 0), (u8 0), (u8 0), (u8 0), (u8 0), (u8 0), (u8 0), (u8 0), (u8 0), (u8 0), (u8 0), (u8 0), (u8 0), (u8 0), (u8 0), (u8 0), (u8 0), (u8 0), (u8 0), (u8 0), (u8 0), (u8 0), (u8 0), (u8 0), (u8 0), (u8 0), (u8 0), (u8 0), (u8 0), (u8 0), (u8 0), (u8 0), (u8 0), (u8 0), (u8 0), (u8 0), (u8 0)])), (5, (Value.agg #[(u8 0), (u8 0), (u8 0), (u8 0), (u8 0), (u8 0), (u8 0), (u8 0), (u8 0), (u8 0), (u8 0), (u8 0), (u8 0), (u8 0), (u8 0), (u8 0), (u8 0), (u8 0), (u8 0), (u8 0), (u8 0), (u8 0), (u8 0), (u8 0), (u8 0), (u8 0), (u8 0), (u8 0), (u8 0), (u8 0), (u8 0), (u8 0), (u8 0), (u8 0), (u8 0), (u8 0), (u8 0), (u8 0), (u8 0), (u8 0), (u8 0), (u8 0), (u8 0), (u8 0), (u8 0), (u8 0), (u8 0), (u8 0), (u8 0), (u8 0), (u8 0), (u8 0), (u8 0), (u8 0), (u8 0), (u8 0), (u8 0), (u8 0), (u8 0), (u8 0), (u8 0), (u8 0), (u8 0), (u8 0)]))]) (fun g => g 0 = (agg u8 a) ∧ g 1 = (agg u8 b) ∧ g 2 = (Value.agg (segs [id.map u8, pk.map u8])) ∧ g 3 = (ptr b3 0) ∧ g 4 = (ptr b4 0) ∧ g 5 = (ptr b5 0) ∧ g 6 = (bl false) ∧ g 10 = (bl false) ∧ g 12 = (Value.agg (segs [a.map u8, (List.replicate 32 0).map u8])) ∧ g 14 = (Value.agg (segs [b.map u8, (List.replicate 32 0).map u8])) ∧ True) M60 rfl (by decide) (by kernel_rfl) (by kernel_rfl) (ao_cons ⟨⟨_, _, _, rfl⟩, rfl, _, _, ti43⟩ (ao_cons ⟨⟨_, _, _, rfl⟩, rfl, _, _, ti43⟩ ao_nil)) (by decide) (fun sx11 hS11 => ?_) ?_
 · skip
   refine dk_q (v := (agg u8 a)) rfl rfl (fun w _H _hx => ev_loadA uT23 rfl ti23 rfl (_hx.rest _ _ ho9) sZ) <| dk_q rfl rfl (fun w _H _hx => ev_build_pt (c := (segs [a.map u8, (List.replicate 32 0).map u8])) (pl := [(0, 32), (32, 32)]) ti43 uT43 (by kernel_rfl) (pm_cons (i := 0) (v := (agg u8 a)) (cs := (cl u8 a)) rfl rfl pm_nil) (fillA_segs [] [(List.replicate 32 0).map u8] [a.map u8] [(List.replicate 32 0).map u8] rfl (segs_one1 u8 _).symm fl_nil (fl_cons (n := 32) (m := 0) (k := 32) (by first | rfl | (rw [List.length_map]; first | omega | (simp; done) | (simp; omega))) fl_nil rfl) (fl_cons (n := 32) (m := 0) (k := 32) (by first | rfl | (rw [List.length_map]; first | omega | (simp; done) | (simp; omega))) fl_nil rfl) fillA_nil)) <| dk_q (v := (agg u8 b)) rfl rfl (fun w _H _hx => ev_loadA uT23 rfl ti23 rfl (_hx.rest _ _ ho8) sZ) <| dk_q rfl rfl (fun w _H _hx => ev_build_pt (c := (segs [b.map u8, (List.replicate 32 0).map u8])) (pl := [(0, 32), (32, 32)]) ti43 uT43 (by kernel_rfl) (pm_cons (i := 0) (v := (agg u8 b)) (cs := (cl u8 b)) rfl rfl pm_nil) (fillA_segs [] [(List.replicate 32 0).map u8] [b.map u8] [(List.replicate 32 0).map u8] rfl (segs_one1 u8 _).symm fl_nil (fl_cons (n := 32) (m := 0) (k := 32) (by first | rfl | (rw [List.length_map]; first | omega | (simp; done) | (simp; omega))) fl_nil rfl) (fl_cons (n := 32) (m := 0) (k := 32) (by first | rfl | (rw [List.length_map]; first | omega | (simp; done) | (simp; omega))) fl_nil rfl) fillA_nil)) ?_
   exact hS11 _ ⟨rfl, rfl, rfl, rfl, rfl, rfl, rfl, rfl, rfl, rfl, trivial⟩
 rintro g12 ⟨s0, s1, s2, s3, s4, s5, s6, s10, s12, s14, _⟩ g13 w14 ps14 hgo14 hps14 hmm14
 replace s0 := (hgo14 0 (by decide)).trans s0
 replace s1 := (hgo14 1 (by decide)).trans s1
 replace s2 := (hgo14 2 (by decide)).trans s2
 replace s3 := (hgo14 3 (by decide)).trans s3
 replace s4 := (hgo14 4 (by decide)).trans s4
 replace s5 := (hgo14 5 (by decide)).trans s5
 replace s6 := (hgo14 6 (by decide)).trans s6
 replace s10 := (hgo14 10 (by decide)).trans s10
 replace s12 := (hgo14 12 (by decide)).trans s12
 replace s14 := (hgo14 14 (by decide)).trans s14
 have s7 : g13 7 = ptr (ps14 4) 0 := hps14 4 (by decide)
 have s8 : g13 8 = ptr (ps14 5) 0 := hps14 5 (by decide)
 have hm14 : Mem w14 RM6 [((ps14 4), .cells #[(u8 0), (u8 0), (u8 0), (u8 0), (u8 0), (u8 0), (u8 0), (u8 0), (u8 0), (u8 0), (u8 0), (u8 0), (u8 0), (u8 0), (u8 0), (u8 0), (u8 0), (u8 0), (u8 0), (u8 0), (u8 0), (u8 0), (u8 0), (u8 0), (u8 0), (u8 0), (u8 0), (u8 0), (u8 0), (u8 0), (u8 0), (u8 0), (u8 0), (u8 0), (u8 0), (u8 0), (u8 0), (u8 0), (u8 0), (u8 0), (u8 0), (u8 0), (u8 0), (u8 0), (u8 0), (u8 0), (u8 0), (u8 0), (u8 0), (u8 0), (u8 0), (u8 0), (u8 0), (u8 0), (u8 0), (u8 0), (u8 0), (u8 0), (u8 0), (u8 0), (u8 0), (u8 0), (u8 0), (u8 0)] 43 (0, 0)), ((ps14 5), .cells #[(u8 0), (u8 0), (u8 0), (u8 0), (u8 0), (u8 0), (u8 0), (u8 0), (u8 0), (u8 0), (u8 0), (u8 0), (u8 0), (u8 0), (u8 0), (u8 0), (u8 0), (u8 0), (u8 0), (u8 0), (u8 0), (u8 0), (u8 0), (u8 0), (u8 0), (u8 0), (u8 0), (u8 0), (u8 0), (u8 0), (u8 0), (u8 0), (u8 0), (u8 0), (u8 0), (u8 0), (u8 0), (u8 0), (u8 0), (u8 0), (u8 0), (u8 0), (u8 0), (u8 0), (u8 0), (u8 0), (u8 0), (u8 0), (u8 0), (u8 0), (u8 0), (u8 0), (u8 0), (u8 0), (u8 0), (u8 0), (u8 0), (u8 0), (u8 0), (u8 0), (u8 0), (u8 0), (u8 0), (u8 0)] 43 (0, 0))] := hmm14
 generalize ps14 4 = b7 at hm14 s7
 generalize ps14 5 = b8 at hm14 s8
 refine dk_n rfl (fun w15 _ew15 => ?_)
 have hm15 := hm14.ext _ew15
 refine OpR.mono (or_storeW_segs [a.map u8, (List.replicate 32 0).map u8] ti43 s7 s12 (fl_cons (n := 32) (m := 32) (k := 64) (by first | rfl | (rw [List.length_map]; first | omega | (simp; done) | (simp; omega))) (fl_cons (n := 32) (m := 0) (k := 32) (by first | rfl | (rw [List.length_map]; first | omega | (simp; done) | (simp; omega))) fl_nil rfl) rfl) (so_cons (encA_one u8_one _) (so_cons (encA_one u8_one _) so_nil)) hm15.h0 rfl rfl) ?_
 rintro _ w16 uq16
 have hm16 : Mem w16 RM6 [(b7, .cells (segs [a.map u8, (List.replicate 32 0).map u8]) 43 (0, 0)), (b8, .cells #[(u8 0), (u8 0), (u8 0), (u8 0), (u8 0), (u8 0), (u8 0), (u8 0), (u8 0), (u8 0), (u8 0), (u8 0), (u8 0), (u8 0), (u8 0), (u8 0), (u8 0), (u8 0), (u8 0), (u8 0), (u8 0), (u8 0), (u8 0), (u8 0), (u8 0), (u8 0), (u8 0), (u8 0), (u8 0), (u8 0), (u8 0), (u8 0), (u8 0), (u8 0), (u8 0), (u8 0), (u8 0), (u8 0), (u8 0), (u8 0), (u8 0), (u8 0), (u8 0), (u8 0), (u8 0), (u8 0), (u8 0), (u8 0), (u8 0), (u8 0), (u8 0), (u8 0), (u8 0), (u8 0), (u8 0), (u8 0), (u8 0), (u8 0), (u8 0), (u8 0), (u8 0), (u8 0), (u8 0), (u8 0)] 43 (0, 0))] := hm15.upd0 uq16
 refine ⟨⟨_, hm16⟩, ?_⟩
 refine dw_nil (fun w17 _ew17 => ?_)
 have hm17 := hm16.ext _ew17
 have hX18 := hm17
 rw [hRM6] at hX18
 have hm19 : Mem w17 (restOf w0) [(b7, .cells (segs [a.map u8, (List.replicate 32 0).map u8]) 43 (0, 0)), (b8, .cells #[(u8 0), (u8 0), (u8 0), (u8 0), (u8 0), (u8 0), (u8 0), (u8 0), (u8 0), (u8 0), (u8 0), (u8 0), (u8 0), (u8 0), (u8 0), (u8 0), (u8 0), (u8 0), (u8 0), (u8 0), (u8 0), (u8 0), (u8 0), (u8 0), (u8 0), (u8 0), (u8 0), (u8 0), (u8 0), (u8 0), (u8 0), (u8 0), (u8 0), (u8 0), (u8 0), (u8 0), (u8 0), (u8 0), (u8 0), (u8 0), (u8 0), (u8 0), (u8 0), (u8 0), (u8 0), (u8 0), (u8 0), (u8 0), (u8 0), (u8 0), (u8 0), (u8 0), (u8 0), (u8 0), (u8 0), (u8 0), (u8 0), (u8 0), (u8 0), (u8 0), (u8 0), (u8 0), (u8 0), (u8 0)] 43 (0, 0)), (b5, .cells (segs [id.map u8, pk.map u8]) 41 (0, 0)), (b4, .cells (cl u8 b) 23 (0, 0)), (b3, .cells (cl u8 a) 23 (0, 0))] := (by
   have hT := Mem.back hFM6 hX18
   simp only [List.append_assoc, List.cons_append, List.nil_append, List.append_nil] at hT ⊢
   exact hT)
 refine rw_n (or_storeW_segs [b.map u8, (List.replicate 32 0).map u8] ti43 s8 s14 (fl_cons (n := 32) (m := 32) (k := 64) (by first | rfl | (rw [List.length_map]; first | omega | (simp; done) | (simp; omega))) (fl_cons (n := 32) (m := 0) (k := 32) (by first | rfl | (rw [List.length_map]; first | omega | (simp; done) | (simp; omega))) fl_nil rfl) rfl) (so_cons (encA_one u8_one _) (so_cons (encA_one u8_one _) so_nil)) hm19.h1 rfl rfl) ?_
 rintro _ w20 uq20
 have hm20 : Mem w20 (restOf w0) [(b7, .cells (segs [a.map u8, (List.replicate 32 0).map u8]) 43 (0, 0)), (b8, .cells (segs [b.map u8, (List.replicate 32 0).map u8]) 43 (0, 0)), (b5, .cells (segs [id.map u8, pk.map u8]) 41 (0, 0)), (b4, .cells (cl u8 b) 23 (0, 0)), (b3, .cells (cl u8 a) 23 (0, 0))] := hm19.upd1 uq20
 refine rN (cw_seq ?_)
 refine cw_draw [(0, false), (1, false), (2, false), (3, false), (4, false), (5, false), (6, false), (7, false), (8, false), (9, false), (10, false), (11, false), (12, false), (13, false), (14, false), (15, false), (16, false), (17, false), (18, false), (19, false), (20, false), (21, false), (22, false)] 23 (by kernel_rfl) <| dw_q (v := (Value.agg (segs [a.map u8, (List.replicate 32 0).map u8]))) rfl rfl (fun _ _hx => ev_load_segs [] [a.map u8, (List.replicate 32 0).map u8] [] uT43 rfl ti43 s7 (hm20.ext _hx).h0 fl_nil (fl_cons (n := 32) (m := 32) (k := 64) (by first | rfl | (rw [List.length_map]; first | omega | (simp; done) | (simp; omega))) (fl_cons (n := 32) (m := 0) (k := 32) (by first | rfl | (rw [List.length_map]; first | omega | (simp; done) | (simp; omega))) fl_nil rfl) rfl)) <| dw_q (v := (Value.agg (segs [b.map u8, (List.replicate 32 0).map u8]))) rfl rfl (fun _ _hx => ev_load_segs [] [b.map u8, (List.replicate 32 0).map u8] [] uT43 rfl ti43 s8 (hm20.ext _hx).h1 fl_nil (fl_cons (n := 32) (m := 32) (k := 64) (by first | rfl | (rw [List.length_map]; first | omega | (simp; done) | (simp; omega))) (fl_cons (n := 32) (m := 0) (k := 32) (by first | rfl | (rw [List.length_map]; first | omega | (simp; done) | (simp; omega))) fl_nil rfl) rfl)) <| dw_q (v := (Value.agg (segs [id.map u8, pk.map u8]))) rfl rfl (fun _ _hx => ev_load_segs [] [id.map u8, pk.map u8] [] uT41 rfl ti41 s5 (hm20.ext _hx).h2 fl_nil (fl_cons (n := 32) (m := 32) (k := 64) (by first | rfl | (rw [List.length_map]; first | omega | (simp; done) | (simp; omega))) (fl_cons (n := 32) (m := 0) (k := 32) (by first | rfl | (rw [List.length_map]; first | omega | (simp; done) | (simp; omega))) fl_nil rfl) rfl)) <| dw_x (v := (agg u8 (comB (multL a pk) (multL b id) (multL b pk)))) rfl rfl (fun w21 _ew21 => OpR.mono (opR_call Tryd.func20 bd20 nm20 (args3 rfl rfl rfl) (c_begin18 a (List.replicate 32 0) b (List.replicate 32 0) id pk _ (hT.mono fun b o e => ((hm20.ext _ew21)).rest b o e) sD sD sD sD sD sD)) (by rintro _ w22 ⟨rfl, _ew22⟩; exact ⟨rfl, _ew22⟩)) <| dw_q (v := (agg u8 a)) rfl rfl (fun _ _hx => ev_loadA uT23 rfl ti23 s3 (hm20.ext _hx).h4 sZ) ?_
 refine dw_q (v := (agg u8 b)) rfl rfl (fun _ _hx => ev_loadA uT23 rfl ti23 s4 (hm20.ext _hx).h3 sZ) <| dw_q (v := (Value.agg (segs [id.map u8, pk.map u8]))) rfl rfl (fun _ _hx => ev_load_segs [] [id.map u8, pk.map u8] [] uT41 rfl ti41 s5 (hm20.ext _hx).h2 fl_nil (fl_cons (n := 32) (m := 32) (k := 64) (by first | rfl | (rw [List.length_map]; first | omega | (simp; done) | (simp; omega))) (fl_cons (n := 32) (m := 0) (k := 32) (by first | rfl | (rw [List.length_map]; first | omega | (simp; done) | (simp; omega))) fl_nil rfl) rfl)) <| dw_x (v := (agg u8 (comB (multR a pk) (multR b id) (multR b pk)))) rfl rfl (fun w24 _ew24 => OpR.mono (opR_call Tryd.func21 bd21 nm21 (args3 rfl rfl rfl) (c_rbegin18 a b id pk _ sD sD sD sD)) (by rintro _ w25 ⟨rfl, _ew25⟩; exact ⟨rfl, _ew25⟩)) <| dw_q rfl rfl (fun _ _hx => ev_u8arr_eql (l := comB (multL a pk) (multL b id) (multL b pk)) (m := comB (multR a pk) (multR b id) (multR b pk)) uT23 uT5 ti5 Tryd.eqGuardType23 rfl rfl (by first | rfl | first | omega | (simp; done) | (simp; omega) | decide) (by first | rfl | first | omega | (simp; done) | (simp; omega) | decide)) <| dM rfl rfl rfl ?_
 have hd27 : ((comB (multL a pk) (multL b id) (multL b pk)) == (comB (multR a pk) (multR b id) (multR b pk))) = true := told_true (by simp only [mult_same ha hpk, mult_same hb hid, mult_same hb hpk, mult_same ha hid, mult_same hb hpk])
 refine dw_gqy (s := 24) rfl rfl rfl hd27 rfl (fun _ _hx => ev_load_segs [] [a.map u8, (List.replicate 32 0).map u8] [] uT43 rfl ti43 s7 (hm20.ext _hx).h0 fl_nil (fl_cons (n := 32) (m := 32) (k := 64) (by first | rfl | (rw [List.length_map]; first | omega | (simp; done) | (simp; omega))) (fl_cons (n := 32) (m := 0) (k := 32) (by first | rfl | (rw [List.length_map]; first | omega | (simp; done) | (simp; omega))) fl_nil rfl) rfl)) <| dw_gqy (s := 24) rfl rfl rfl hd27 rfl (fun _ _hx => ev_load_segs [] [b.map u8, (List.replicate 32 0).map u8] [] uT43 rfl ti43 s8 (hm20.ext _hx).h1 fl_nil (fl_cons (n := 32) (m := 32) (k := 64) (by first | rfl | (rw [List.length_map]; first | omega | (simp; done) | (simp; omega))) (fl_cons (n := 32) (m := 0) (k := 32) (by first | rfl | (rw [List.length_map]; first | omega | (simp; done) | (simp; omega))) fl_nil rfl) rfl)) <| dw_gqy (s := 24) rfl rfl rfl hd27 rfl (fun _ _hx => ev_fa (r := 0) uT41 rfl (by first | rfl | omega) ti23 rfl s5) <| dw_gqy (s := 24) rfl rfl rfl hd27 rfl (fun _ _hx => ev_load_seg1 (f := u8) [] [pk.map u8] id uT23 rfl ti23 rfl (hm20.ext _hx).h2 fl_nil (by first | rfl | omega | (simp; done) | (simp; omega))) <| dw_gqy (s := 24) rfl rfl rfl hd27 rfl (fun _ _hx => ev_fa (r := 32) uT41 rfl (by first | rfl | omega) ti23 rfl s5) <| dw_gqy (s := 24) rfl rfl rfl hd27 rfl (fun _ _hx => ev_load_seg1 (f := u8) [id.map u8] [] pk uT23 rfl ti23 rfl (hm20.ext _hx).h2 (fl_cons (n := 32) (m := 0) (k := 32) (by first | rfl | (rw [List.length_map]; first | omega | (simp; done) | (simp; omega))) fl_nil rfl) (by first | rfl | omega | (simp; done) | (simp; omega))) ?_
 refine dw_gxy (s := 24) (v := (agg u8 (comB (multL b id) (multL a pk) (multL b pk)))) rfl rfl rfl hd27 rfl (fun w28 _ew28 => OpR.mono (opR_call Tryd.func22 bd22 nm22 (args4 rfl rfl rfl rfl) (c_answer18 a (List.replicate 32 0) b (List.replicate 32 0) id pk _ (hT.mono fun b o e => ((hm20.ext _ew28)).rest b o e) sD sD sD sD sD sD)) (by rintro _ w29 ⟨rfl, _ew29⟩; exact ⟨rfl, _ew29⟩)) <| dw_gqy (s := 24) rfl rfl rfl hd27 rfl (fun _ _hx => ev_loadA uT23 rfl ti23 s3 (hm20.ext _hx).h4 sZ) <| dw_gqy (s := 24) rfl rfl rfl hd27 rfl (fun _ _hx => ev_loadA uT23 rfl ti23 s4 (hm20.ext _hx).h3 sZ) <| dw_gqy (s := 24) rfl rfl rfl hd27 rfl (fun _ _hx => ev_fa (r := 0) uT41 rfl (by first | rfl | omega) ti23 rfl s5) <| dw_gqy (s := 24) rfl rfl rfl hd27 rfl (fun _ _hx => ev_load_seg1 (f := u8) [] [pk.map u8] id uT23 rfl ti23 rfl (hm20.ext _hx).h2 fl_nil (by first | rfl | omega | (simp; done) | (simp; omega))) <| dw_gqy (s := 24) rfl rfl rfl hd27 rfl (fun _ _hx => ev_fa (r := 32) uT41 rfl (by first | rfl | omega) ti23 rfl s5) ?_
 refine dw_gqy (s := 24) rfl rfl rfl hd27 rfl (fun _ _hx => ev_load_seg1 (f := u8) [id.map u8] [] pk uT23 rfl ti23 rfl (hm20.ext _hx).h2 (fl_cons (n := 32) (m := 0) (k := 32) (by first | rfl | (rw [List.length_map]; first | omega | (simp; done) | (simp; omega))) fl_nil rfl) (by first | rfl | omega | (simp; done) | (simp; omega))) ?_
 refine dw_nil (fun w31 _ew31 => ?_)
 have hm31 := hm20.ext _ew31
 refine rw_gy (s := 24) rfl rfl hd27 rfl (opR_call Tryd.func23 bd23 nm23 (args4 rfl rfl rfl rfl) (c_ranswer18 a b id pk _ sD sD sD sD)) ?_
 rintro _ w32 ⟨rfl, _ew32⟩
 have hm32 := hm31.ext _ew32
 refine rw_gyq (s := 24) rfl rfl hd27 rfl (ev_u8arr_eql (l := comB (multL b id) (multL a pk) (multL b pk)) (m := comB (multR b id) (multR a pk) (multR b pk)) uT23 uT5 ti5 Tryd.eqGuardType23 rfl rfl (by first | rfl | first | omega | (simp; done) | (simp; omega) | decide) (by first | rfl | first | omega | (simp; done) | (simp; omega) | decide)) <| rw_q rfl (ev_pick_tk rfl hd27 rfl) <| rA rfl rfl ?_
 refine rN ?_
 refine CW.abs (fun g => g 0 = (agg u8 a) ∧ g 1 = (agg u8 b) ∧ g 2 = (Value.agg (segs [id.map u8, pk.map u8])) ∧ g 3 = (ptr b3 0) ∧ g 4 = (ptr b4 0) ∧ g 5 = (ptr b5 0) ∧ g 6 = (bl ((comB (multL b id) (multL a pk) (multL b pk)) == (comB (multR b id) (multR a pk) (multR b pk)))) ∧ g 7 = (ptr b7 0) ∧ g 8 = (ptr b8 0) ∧ g 10 = (bl false) ∧ True) ⟨s0, s1, s2, s3, s4, s5, rfl, s7, s8, s10, trivial⟩ ?_
 rintro fr34 ⟨s0, s1, s2, s3, s4, s5, s6, s7, s8, s10, _⟩
 refine cw_ret <| fnPost_ret [(bl ((comB (multL b id) (multL a pk) (multL b pk)) == (comB (multR b id) (multR a pk) (multR b pk))))] ⟨s6, trivial⟩ ?_
 have hd35 : ((comB (multL b id) (multL a pk) (multL b pk)) == (comB (multR b id) (multR a pk) (multR b pk))) = true := told_true (by simp only [mult_same ha hpk, mult_same hb hid, mult_same hb hpk, mult_same ha hid, mult_same hb hpk])
 exact ⟨congrArg bl hd35, Mem.below w0 hm32⟩


end Go.Proofs.YtmiagmbgfhakgaaDoor

