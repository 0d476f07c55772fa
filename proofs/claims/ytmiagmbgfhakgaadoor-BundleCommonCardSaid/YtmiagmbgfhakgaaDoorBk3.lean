/- Bundles' keys: the law's walk. Conditions: none beyond those that each theorem states. -/
import Derived.Test.YtmiagmbgfhakgaaDoorBk2
import Derived.Test.YtmiagmbgfhakgaaDoorFwL
import Derived.Test.YtmiagmbgfhakgaaDoorFwT
namespace Go.Proofs.YtmiagmbgfhakgaaDoor
set_option linter.unusedVariables false
set_option linter.unusedSimpArgs false
attribute [local irreducible] comB secB multL
set_option maxHeartbeats 1000000 in
theorem c_begin18 (o1 p1 o2 p2 id pk : List (BitVec 8)) (w0 : World)  (hT : Tabs (blks w0)) (ho1 : o1.length = 32) (hp1 : p1.length = 32) (ho2 : o2.length = 32) (hp2 : p2.length = 32) (hid : id.length = 32) (hpk : pk.length = 32) : CallsR Tryd.prog 20 #[(Value.agg (segs [o1.map u8, p1.map u8])), (Value.agg (segs [o2.map u8, p2.map u8])), (Value.agg (segs [id.map u8, pk.map u8]))] w0 (fun r w1 => r = (agg u8 (comB (multL o1 pk) (multL o2 id) (multL o2 pk))) ∧ Ext w0 w1) := by
 refine callsR_of_cw (args := [(Value.agg (segs [o1.map u8, p1.map u8])), (Value.agg (segs [o2.map u8, p2.map u8])), (Value.agg (segs [id.map u8, pk.map u8]))]) Tryd.func20 rfl Tryd.ntmps20 Tryd.results20 rfl ?_
 have hm0 : Mem w0 (restOf w0) [] := Mem.of_world w0
 refine sR <| rw_c rfl (or_boxX (cs := (segs [o1.map u8, p1.map u8])) hm0 rfl) ?_
 rintro _ w1 ⟨b3, rfl, _ew1, hm1⟩
 refine rw_c rfl (or_boxX (cs := (segs [o2.map u8, p2.map u8])) hm1 rfl) ?_
 rintro _ w2 ⟨b4, rfl, _ew2, hm2⟩
 refine rw_c rfl (or_boxX (cs := (segs [id.map u8, pk.map u8])) hm2 rfl) ?_
 rintro _ w3 ⟨b5, rfl, _ew3, hm3⟩
 refine rw_c rfl (or_alloc_agg hm3 ti23) ?_
 rintro _ w4 ⟨b6, rfl, _ew4, hm4⟩
 refine rN (cw_seq ?_)
 refine cw_draw [(0, false), (1, false), (2, false), (3, false), (4, false), (5, false), (6, false), (7, false), (8, false), (9, false), (10, false)] 11 (by kernel_rfl) <| dw_q (v := (Value.agg (segs [o1.map u8, p1.map u8]))) rfl rfl (fun _ _hx => ev_load_segs [] [o1.map u8, p1.map u8] [] uT43 rfl ti43 rfl (hm4.ext _hx).h3 fl_nil (fl_cons (n := 32) (m := 32) (k := 64) (by first | rfl | (rw [List.length_map]; first | omega | (simp; done) | (simp; omega))) (fl_cons (n := 32) (m := 0) (k := 32) (by first | rfl | (rw [List.length_map]; first | omega | (simp; done) | (simp; omega))) fl_nil rfl) rfl)) <| dw_q rfl rfl (fun _ _hx => ev_fa (r := 32) uT41 rfl (by first | rfl | omega) ti23 rfl rfl) <| dw_q (v := (agg u8 pk)) rfl rfl (fun _ _hx => ev_load_seg1 (f := u8) [id.map u8] [] pk uT23 rfl ti23 rfl (hm4.ext _hx).h1 (fl_cons (n := 32) (m := 0) (k := 32) (by first | rfl | (rw [List.length_map]; first | omega | (simp; done) | (simp; omega))) fl_nil rfl) (by first | rfl | omega | (simp; done) | (simp; omega))) <| dw_x (v := (agg u8 (multL o1 pk))) rfl rfl (fun w5 _ew5 => OpR.mono (opR_call Tryd.func35 bd35 nm35 (args2 rfl rfl) (c_shared5 o1 p1 pk _ sD sD sD)) (by rintro _ w6 ⟨rfl, _ew6⟩; exact ⟨rfl, _ew6⟩)) <| dw_q (v := (Value.agg (segs [o2.map u8, p2.map u8]))) rfl rfl (fun _ _hx => ev_load_segs [] [o2.map u8, p2.map u8] [] uT43 rfl ti43 rfl (hm4.ext _hx).h2 fl_nil (fl_cons (n := 32) (m := 32) (k := 64) (by first | rfl | (rw [List.length_map]; first | omega | (simp; done) | (simp; omega))) (fl_cons (n := 32) (m := 0) (k := 32) (by first | rfl | (rw [List.length_map]; first | omega | (simp; done) | (simp; omega))) fl_nil rfl) rfl)) ?_
 refine dw_q rfl rfl (fun _ _hx => ev_fa (r := 0) uT41 rfl (by first | rfl | omega) ti23 rfl rfl) <| dw_q (v := (agg u8 id)) rfl rfl (fun _ _hx => ev_load_seg1 (f := u8) [] [pk.map u8] id uT23 rfl ti23 rfl (hm4.ext _hx).h1 fl_nil (by first | rfl | omega | (simp; done) | (simp; omega))) <| dw_x (v := (agg u8 (multL o2 id))) rfl rfl (fun w8 _ew8 => OpR.mono (opR_call Tryd.func35 bd35 nm35 (args2 rfl rfl) (c_shared5 o2 p2 id _ sD sD sD)) (by rintro _ w9 ⟨rfl, _ew9⟩; exact ⟨rfl, _ew9⟩)) <| dw_q (v := (Value.agg (segs [o2.map u8, p2.map u8]))) rfl rfl (fun _ _hx => ev_load_segs [] [o2.map u8, p2.map u8] [] uT43 rfl ti43 rfl (hm4.ext _hx).h2 fl_nil (fl_cons (n := 32) (m := 32) (k := 64) (by first | rfl | (rw [List.length_map]; first | omega | (simp; done) | (simp; omega))) (fl_cons (n := 32) (m := 0) (k := 32) (by first | rfl | (rw [List.length_map]; first | omega | (simp; done) | (simp; omega))) fl_nil rfl) rfl)) <| dw_q rfl rfl (fun _ _hx => ev_fa (r := 32) uT41 rfl (by first | rfl | omega) ti23 rfl rfl) <| dw_q (v := (agg u8 pk)) rfl rfl (fun _ _hx => ev_load_seg1 (f := u8) [id.map u8] [] pk uT23 rfl ti23 rfl (hm4.ext _hx).h1 (fl_cons (n := 32) (m := 0) (k := 32) (by first | rfl | (rw [List.length_map]; first | omega | (simp; done) | (simp; omega))) fl_nil rfl) (by first | rfl | omega | (simp; done) | (simp; omega))) ?_
 refine dw_nil (fun w11 _ew11 => ?_)
 have hm11 := hm4.ext _ew11
 refine rw_c rfl (opR_call Tryd.func35 bd35 nm35 (args2 rfl rfl) (c_shared5 o2 p2 pk _ sD sD sD)) ?_
 rintro _ w12 ⟨rfl, _ew12⟩
 have hm12 := hm11.ext _ew12
 refine rw_c rfl (or_build3 (f := u8) (a := multL o1 pk) (b := multL o2 id) (c := multL o2 pk) (A1 := (List.replicate 32 (u8 0))) (A2 := (List.replicate 32 (u8 0))) (A3 := (List.replicate 32 (u8 0))) hm12 uT57 ti23 rfl (by kernel_rfl) (by simp) (by simp) (by simp) rfl rfl rfl (by first | rfl | first | omega | (simp; done) | (simp; omega) | decide) (by first | rfl | first | omega | (simp; done) | (simp; omega) | decide) (by first | rfl | first | omega | (simp; done) | (simp; omega) | decide)) ?_
 rintro _ w14 ⟨b19, rfl, _ew14, hm14⟩
 have hm14 : Mem w14 (restOf w0) [(b19, .cells (segs [(multL o1 pk).map u8, (multL o2 id).map u8, (multL o2 pk).map u8]) 23 (0, 0)), (b6, .cells (cl u8 (List.replicate 32 0)) 23 (0, 0)), (b5, .cells (segs [id.map u8, pk.map u8]) 41 (0, 0)), (b4, .cells (segs [o2.map u8, p2.map u8]) 43 (0, 0)), (b3, .cells (segs [o1.map u8, p1.map u8]) 43 (0, 0))] := hm14
 refine rw_c rfl (opR_call Tryd.func34 bd34 nm34 (args1 rfl) (c_common (slc b19 0 3 3) ([multL o1 pk, multL o2 id, multL o2 pk]) (multL o1 pk) (multL o2 id) (multL o2 pk) _ (hT.mono fun b o e => (hm14).rest b o e) rfl (RdK.segs3 hm14.h0 (by first | rfl | first | omega | (simp; done) | (simp; omega) | decide) (by first | rfl | first | omega | (simp; done) | (simp; omega) | decide) (by first | rfl | first | omega | (simp; done) | (simp; omega) | decide)) sD sD sD)) ?_
 rintro _ w15 ⟨rfl, _ew15⟩
 have hm15 := hm14.ext _ew15
 refine rw_n (or_store_agg (f := u8) (l := comB (multL o1 pk) (multL o2 id) (multL o2 pk)) u8_one ti23 rfl rfl sD hm15.h1 sZ rfl) ?_
 rintro _ w17 uq17
 have hm17 := hm15.upd1 uq17
 refine rN ?_
 have hm18 := Mem.drop ([(b19, .cells (segs [(multL o1 pk).map u8, (multL o2 id).map u8, (multL o2 pk).map u8]) 23 (0, 0))]) _ hm17
 refine CW.abs (fun g => g 0 = (Value.agg (segs [o1.map u8, p1.map u8])) ∧ g 1 = (Value.agg (segs [o2.map u8, p2.map u8])) ∧ g 2 = (Value.agg (segs [id.map u8, pk.map u8])) ∧ g 3 = (ptr b3 0) ∧ g 4 = (ptr b4 0) ∧ g 5 = (ptr b5 0) ∧ g 6 = (ptr b6 0) ∧ True) ⟨rfl, rfl, rfl, rfl, rfl, rfl, rfl, trivial⟩ ?_
 rintro fr19 ⟨s0, s1, s2, s3, s4, s5, s6, _⟩
 refine cw_ret <| fnPost_ret [(agg u8 (comB (multL o1 pk) (multL o2 id) (multL o2 pk)))] ⟨⟨_, s6, loadVar_run uT23 rfl ti23 hm18.h0 sZ⟩, trivial⟩ ?_
 exact ⟨rfl, hm18.toExt⟩

set_option maxHeartbeats 1000000 in
theorem c_answer18 (o1 p1 o2 p2 ot fe : List (BitVec 8)) (w0 : World)  (hT : Tabs (blks w0)) (ho1 : o1.length = 32) (hp1 : p1.length = 32) (ho2 : o2.length = 32) (hp2 : p2.length = 32) (hot : ot.length = 32) (hfe : fe.length = 32) : CallsR Tryd.prog 22 #[(Value.agg (segs [o1.map u8, p1.map u8])), (Value.agg (segs [o2.map u8, p2.map u8])), (agg u8 ot), (agg u8 fe)] w0 (fun r w1 => r = (agg u8 (comB (multL o2 ot) (multL o1 fe) (multL o2 fe))) ∧ Ext w0 w1) := by
 refine callsR_of_cw (args := [(Value.agg (segs [o1.map u8, p1.map u8])), (Value.agg (segs [o2.map u8, p2.map u8])), (agg u8 ot), (agg u8 fe)]) Tryd.func22 rfl Tryd.ntmps22 Tryd.results22 rfl ?_
 have hm0 : Mem w0 (restOf w0) [] := Mem.of_world w0
 refine sR <| rw_c rfl (or_boxX (cs := (segs [o1.map u8, p1.map u8])) hm0 rfl) ?_
 rintro _ w1 ⟨b4, rfl, _ew1, hm1⟩
 refine rw_c rfl (or_boxX (cs := (segs [o2.map u8, p2.map u8])) hm1 rfl) ?_
 rintro _ w2 ⟨b5, rfl, _ew2, hm2⟩
 refine rw_c rfl (or_box_agg (f := u8) (l := ot) hm2 rfl) ?_
 rintro _ w3 ⟨b6, rfl, _ew3, hm3⟩
 refine rw_c rfl (or_box_agg (f := u8) (l := fe) hm3 rfl) ?_
 rintro _ w4 ⟨b7, rfl, _ew4, hm4⟩
 refine rw_c rfl (or_alloc_agg hm4 ti23) ?_
 rintro _ w5 ⟨b8, rfl, _ew5, hm5⟩
 refine rN (cw_seq ?_)
 refine cw_draw [(0, false), (1, false), (2, false), (3, false), (4, false), (5, false), (6, false), (7, false)] 8 (by kernel_rfl) <| dw_q (v := (Value.agg (segs [o2.map u8, p2.map u8]))) rfl rfl (fun _ _hx => ev_load_segs [] [o2.map u8, p2.map u8] [] uT43 rfl ti43 rfl (hm5.ext _hx).h3 fl_nil (fl_cons (n := 32) (m := 32) (k := 64) (by first | rfl | (rw [List.length_map]; first | omega | (simp; done) | (simp; omega))) (fl_cons (n := 32) (m := 0) (k := 32) (by first | rfl | (rw [List.length_map]; first | omega | (simp; done) | (simp; omega))) fl_nil rfl) rfl)) <| dw_q (v := (agg u8 ot)) rfl rfl (fun _ _hx => ev_loadA uT23 rfl ti23 rfl (hm5.ext _hx).h2 sZ) <| dw_x (v := (agg u8 (multL o2 ot))) rfl rfl (fun w6 _ew6 => OpR.mono (opR_call Tryd.func35 bd35 nm35 (args2 rfl rfl) (c_shared5 o2 p2 ot _ sD sD sD)) (by rintro _ w7 ⟨rfl, _ew7⟩; exact ⟨rfl, _ew7⟩)) <| dw_q (v := (Value.agg (segs [o1.map u8, p1.map u8]))) rfl rfl (fun _ _hx => ev_load_segs [] [o1.map u8, p1.map u8] [] uT43 rfl ti43 rfl (hm5.ext _hx).h4 fl_nil (fl_cons (n := 32) (m := 32) (k := 64) (by first | rfl | (rw [List.length_map]; first | omega | (simp; done) | (simp; omega))) (fl_cons (n := 32) (m := 0) (k := 32) (by first | rfl | (rw [List.length_map]; first | omega | (simp; done) | (simp; omega))) fl_nil rfl) rfl)) <| dw_q (v := (agg u8 fe)) rfl rfl (fun _ _hx => ev_loadA uT23 rfl ti23 rfl (hm5.ext _hx).h1 sZ) ?_
 refine dw_x (v := (agg u8 (multL o1 fe))) rfl rfl (fun w9 _ew9 => OpR.mono (opR_call Tryd.func35 bd35 nm35 (args2 rfl rfl) (c_shared5 o1 p1 fe _ sD sD sD)) (by rintro _ w10 ⟨rfl, _ew10⟩; exact ⟨rfl, _ew10⟩)) <| dw_q (v := (Value.agg (segs [o2.map u8, p2.map u8]))) rfl rfl (fun _ _hx => ev_load_segs [] [o2.map u8, p2.map u8] [] uT43 rfl ti43 rfl (hm5.ext _hx).h3 fl_nil (fl_cons (n := 32) (m := 32) (k := 64) (by first | rfl | (rw [List.length_map]; first | omega | (simp; done) | (simp; omega))) (fl_cons (n := 32) (m := 0) (k := 32) (by first | rfl | (rw [List.length_map]; first | omega | (simp; done) | (simp; omega))) fl_nil rfl) rfl)) <| dw_q (v := (agg u8 fe)) rfl rfl (fun _ _hx => ev_loadA uT23 rfl ti23 rfl (hm5.ext _hx).h1 sZ) ?_
 refine dw_nil (fun w12 _ew12 => ?_)
 have hm12 := hm5.ext _ew12
 refine rw_c rfl (opR_call Tryd.func35 bd35 nm35 (args2 rfl rfl) (c_shared5 o2 p2 fe _ sD sD sD)) ?_
 rintro _ w13 ⟨rfl, _ew13⟩
 have hm13 := hm12.ext _ew13
 refine rw_c rfl (or_build3 (f := u8) (a := multL o2 ot) (b := multL o1 fe) (c := multL o2 fe) (A1 := (List.replicate 32 (u8 0))) (A2 := (List.replicate 32 (u8 0))) (A3 := (List.replicate 32 (u8 0))) hm13 uT57 ti23 rfl (by kernel_rfl) (by simp) (by simp) (by simp) rfl rfl rfl (by first | rfl | first | omega | (simp; done) | (simp; omega) | decide) (by first | rfl | first | omega | (simp; done) | (simp; omega) | decide) (by first | rfl | first | omega | (simp; done) | (simp; omega) | decide)) ?_
 rintro _ w15 ⟨b18, rfl, _ew15, hm15⟩
 have hm15 : Mem w15 (restOf w0) [(b18, .cells (segs [(multL o2 ot).map u8, (multL o1 fe).map u8, (multL o2 fe).map u8]) 23 (0, 0)), (b8, .cells (cl u8 (List.replicate 32 0)) 23 (0, 0)), (b7, .cells (cl u8 fe) 23 (0, 0)), (b6, .cells (cl u8 ot) 23 (0, 0)), (b5, .cells (segs [o2.map u8, p2.map u8]) 43 (0, 0)), (b4, .cells (segs [o1.map u8, p1.map u8]) 43 (0, 0))] := hm15
 refine rw_c rfl (opR_call Tryd.func34 bd34 nm34 (args1 rfl) (c_common (slc b18 0 3 3) ([multL o2 ot, multL o1 fe, multL o2 fe]) (multL o2 ot) (multL o1 fe) (multL o2 fe) _ (hT.mono fun b o e => (hm15).rest b o e) rfl (RdK.segs3 hm15.h0 (by first | rfl | first | omega | (simp; done) | (simp; omega) | decide) (by first | rfl | first | omega | (simp; done) | (simp; omega) | decide) (by first | rfl | first | omega | (simp; done) | (simp; omega) | decide)) sD sD sD)) ?_
 rintro _ w16 ⟨rfl, _ew16⟩
 have hm16 := hm15.ext _ew16
 refine rw_n (or_store_agg (f := u8) (l := comB (multL o2 ot) (multL o1 fe) (multL o2 fe)) u8_one ti23 rfl rfl sD hm16.h1 sZ rfl) ?_
 rintro _ w18 uq18
 have hm18 := hm16.upd1 uq18
 refine rN ?_
 have hm19 := Mem.drop ([(b18, .cells (segs [(multL o2 ot).map u8, (multL o1 fe).map u8, (multL o2 fe).map u8]) 23 (0, 0))]) _ hm18
 refine CW.abs (fun g => g 0 = (Value.agg (segs [o1.map u8, p1.map u8])) ∧ g 1 = (Value.agg (segs [o2.map u8, p2.map u8])) ∧ g 2 = (agg u8 ot) ∧ g 3 = (agg u8 fe) ∧ g 4 = (ptr b4 0) ∧ g 5 = (ptr b5 0) ∧ g 6 = (ptr b6 0) ∧ g 7 = (ptr b7 0) ∧ g 8 = (ptr b8 0) ∧ True) ⟨rfl, rfl, rfl, rfl, rfl, rfl, rfl, rfl, rfl, trivial⟩ ?_
 rintro fr20 ⟨s0, s1, s2, s3, s4, s5, s6, s7, s8, _⟩
 refine cw_ret <| fnPost_ret [(agg u8 (comB (multL o2 ot) (multL o1 fe) (multL o2 fe)))] ⟨⟨_, s8, loadVar_run uT23 rfl ti23 hm19.h0 sZ⟩, trivial⟩ ?_
 exact ⟨rfl, hm19.toExt⟩

theorem c_speaks18  (w0 : World)   : CallsR Tryd.prog 19 #[] w0 (fun r w1 => r = (bl true) ∧ Ext w0 w1) := by
 refine callsR_of_cw (args := []) Tryd.func19 rfl Tryd.ntmps19 Tryd.results19 rfl ?_
 have hm0 : Mem w0 (restOf w0) [] := Mem.of_world w0
 refine sR <| rw_q rfl (ev_assign (v := (bl false)) rfl) ?_
 refine rN (sR ?_)
 refine rw_q rfl (ev_build_pa (c := (cl u8 ([7#8, 0#8, 0#8, 0#8, 0#8, 0#8, 0#8, 0#8, 0#8, 0#8, 0#8, 0#8, 0#8, 0#8, 0#8, 0#8, 0#8, 0#8, 0#8, 0#8, 0#8, 0#8, 0#8, 0#8, 0#8, 0#8, 0#8, 0#8, 0#8, 0#8, 0#8, 0#8]))) ti23 uT23 ti5 (pm_cons (i := 0) (v := (u8 7#8)) (cs := #[(u8 7#8)]) rfl rfl pm_nil) (by kernel_rfl)) <| rw_q rfl (ev_build_pt (c := #[(u8 7#8), (u8 0#8), (u8 0#8), (u8 0#8), (u8 0#8), (u8 0#8), (u8 0#8), (u8 0#8), (u8 0#8), (u8 0#8), (u8 0#8), (u8 0#8), (u8 0#8), (u8 0#8), (u8 0#8), (u8 0#8), (u8 0#8), (u8 0#8), (u8 0#8), (u8 0#8), (u8 0#8), (u8 0#8), (u8 0#8), (u8 0#8), (u8 0#8), (u8 0#8), (u8 0#8), (u8 0#8), (u8 0#8), (u8 0#8), (u8 0#8), (u8 0#8), (u8 0), (u8 0), (u8 0), (u8 0), (u8 0), (u8 0), (u8 0), (u8 0), (u8 0), (u8 0), (u8 0), (u8 0), (u8 0), (u8 0), (u8 0), (u8 0), (u8 0), (u8 0), (u8 0), (u8 0), (u8 0), (u8 0), (u8 0), (u8 0), (u8 0), (u8 0), (u8 0), (u8 0), (u8 0), (u8 0), (u8 0), (u8 0)]) (pl := [(0, 32), (32, 32)]) ti41 uT41 (by kernel_rfl) (pm_cons (i := 0) (v := (agg u8 ([7#8, 0#8, 0#8, 0#8, 0#8, 0#8, 0#8, 0#8, 0#8, 0#8, 0#8, 0#8, 0#8, 0#8, 0#8, 0#8, 0#8, 0#8, 0#8, 0#8, 0#8, 0#8, 0#8, 0#8, 0#8, 0#8, 0#8, 0#8, 0#8, 0#8, 0#8, 0#8]))) (cs := (cl u8 ([7#8, 0#8, 0#8, 0#8, 0#8, 0#8, 0#8, 0#8, 0#8, 0#8, 0#8, 0#8, 0#8, 0#8, 0#8, 0#8, 0#8, 0#8, 0#8, 0#8, 0#8, 0#8, 0#8, 0#8, 0#8, 0#8, 0#8, 0#8, 0#8, 0#8, 0#8, 0#8]))) rfl rfl pm_nil) (by kernel_rfl)) <| rw_c rfl (opR_call Tryd.func33 bd33 nm33 (args1 rfl) (c_bencode ([7#8, 0#8, 0#8, 0#8, 0#8, 0#8, 0#8, 0#8, 0#8, 0#8, 0#8, 0#8, 0#8, 0#8, 0#8, 0#8, 0#8, 0#8, 0#8, 0#8, 0#8, 0#8, 0#8, 0#8, 0#8, 0#8, 0#8, 0#8, 0#8, 0#8, 0#8, 0#8]) ([0, 0, 0, 0, 0, 0, 0, 0, 0, 0, 0, 0, 0, 0, 0, 0, 0, 0, 0, 0, 0, 0, 0, 0, 0, 0, 0, 0, 0, 0, 0, 0]) _ sD sD)) ?_
 rintro rq2 w1 ⟨Hsq2, grq2, k_w1⟩
 have hm1 : Mem w1 (restOf w0) (Hsq2 ++ ([])) := Mem.new (H := []) (H' := Hsq2) hm0 k_w1
 refine rA rfl (v := rq2) rfl ?_
 refine rN (sR ?_)
 refine rM rfl (v := rq2) rfl <| rw_q (v := (i64 ((encB ([7#8, 0#8, 0#8, 0#8, 0#8, 0#8, 0#8, 0#8, 0#8, 0#8, 0#8, 0#8, 0#8, 0#8, 0#8, 0#8, 0#8, 0#8, 0#8, 0#8, 0#8, 0#8, 0#8, 0#8, 0#8, 0#8, 0#8, 0#8, 0#8, 0#8, 0#8, 0#8]) ([0, 0, 0, 0, 0, 0, 0, 0, 0, 0, 0, 0, 0, 0, 0, 0, 0, 0, 0, 0, 0, 0, 0, 0, 0, 0, 0, 0, 0, 0, 0, 0])).length : Int))) rfl (ev_len_rd (grq2.rd hm1) uT26 rfl) <| rw_q rfl (ev_i64_eql (b := 65) rfl rfl) <| rM rfl rfl ?_
 have hd3 : (((encB ([7#8, 0#8, 0#8, 0#8, 0#8, 0#8, 0#8, 0#8, 0#8, 0#8, 0#8, 0#8, 0#8, 0#8, 0#8, 0#8, 0#8, 0#8, 0#8, 0#8, 0#8, 0#8, 0#8, 0#8, 0#8, 0#8, 0#8, 0#8, 0#8, 0#8, 0#8, 0#8]) ([0, 0, 0, 0, 0, 0, 0, 0, 0, 0, 0, 0, 0, 0, 0, 0, 0, 0, 0, 0, 0, 0, 0, 0, 0, 0, 0, 0, 0, 0, 0, 0])).length : Int) == 65) = true := told_true rfl
 refine rw_gyq (s := 8) rfl rfl hd3 rfl (ev_move (v := rq2) rfl) <| rw_gyq (s := 8) rfl rfl hd3 rfl (ev_indexAddr_rdv (i := 0) (grq2.rd hm1) uT26 ti5 rfl rfl oM sD) <| rw_gyq (s := 8) rfl rfl hd3 rfl (ev_load_rdD (l := encB ([7#8, 0#8, 0#8, 0#8, 0#8, 0#8, 0#8, 0#8, 0#8, 0#8, 0#8, 0#8, 0#8, 0#8, 0#8, 0#8, 0#8, 0#8, 0#8, 0#8, 0#8, 0#8, 0#8, 0#8, 0#8, 0#8, 0#8, 0#8, 0#8, 0#8, 0#8, 0#8]) ([0, 0, 0, 0, 0, 0, 0, 0, 0, 0, 0, 0, 0, 0, 0, 0, 0, 0, 0, 0, 0, 0, 0, 0, 0, 0, 0, 0, 0, 0, 0, 0])) (i := 0) (dflt := 0) (grq2.rd hm1) uT5 rfl oM sD rfl) <| rw_gyq (s := 8) rfl rfl hd3 rfl (ev_u8_eql (b := 1#8) rfl rfl) <| rw_q rfl (ev_pick_tk rfl hd3 rfl) <| rM rfl rfl ?_
 have hd4 : (((encB ([7#8, 0#8, 0#8, 0#8, 0#8, 0#8, 0#8, 0#8, 0#8, 0#8, 0#8, 0#8, 0#8, 0#8, 0#8, 0#8, 0#8, 0#8, 0#8, 0#8, 0#8, 0#8, 0#8, 0#8, 0#8, 0#8, 0#8, 0#8, 0#8, 0#8, 0#8, 0#8]) ([0, 0, 0, 0, 0, 0, 0, 0, 0, 0, 0, 0, 0, 0, 0, 0, 0, 0, 0, 0, 0, 0, 0, 0, 0, 0, 0, 0, 0, 0, 0, 0])).getD 0 0) == 1#8) = true := told_true rfl
 refine rw_gyq (s := 14) rfl rfl hd4 rfl (ev_move (v := rq2) rfl) <| rw_gyq (s := 14) rfl rfl hd4 rfl (ev_indexAddr_rdv (i := 1) (grq2.rd hm1) uT26 ti5 rfl rfl oM sD) <| rw_gyq (s := 14) rfl rfl hd4 rfl (ev_load_rdD (l := encB ([7#8, 0#8, 0#8, 0#8, 0#8, 0#8, 0#8, 0#8, 0#8, 0#8, 0#8, 0#8, 0#8, 0#8, 0#8, 0#8, 0#8, 0#8, 0#8, 0#8, 0#8, 0#8, 0#8, 0#8, 0#8, 0#8, 0#8, 0#8, 0#8, 0#8, 0#8, 0#8]) ([0, 0, 0, 0, 0, 0, 0, 0, 0, 0, 0, 0, 0, 0, 0, 0, 0, 0, 0, 0, 0, 0, 0, 0, 0, 0, 0, 0, 0, 0, 0, 0])) (i := 1) (dflt := 0) (grq2.rd hm1) uT5 rfl oM sD rfl) <| rw_gyq (s := 14) rfl rfl hd4 rfl (ev_u8_eql (b := 7#8) rfl rfl) <| rw_q rfl (ev_pick_tk rfl hd4 rfl) <| rA rfl rfl ?_
 refine rN ?_
 refine CW.abs (fun g => g 0 = (bl (((encB ([7#8, 0#8, 0#8, 0#8, 0#8, 0#8, 0#8, 0#8, 0#8, 0#8, 0#8, 0#8, 0#8, 0#8, 0#8, 0#8, 0#8, 0#8, 0#8, 0#8, 0#8, 0#8, 0#8, 0#8, 0#8, 0#8, 0#8, 0#8, 0#8, 0#8, 0#8, 0#8]) ([0, 0, 0, 0, 0, 0, 0, 0, 0, 0, 0, 0, 0, 0, 0, 0, 0, 0, 0, 0, 0, 0, 0, 0, 0, 0, 0, 0, 0, 0, 0, 0])).getD 1 0) == 7#8)) ∧ g 1 = rq2 ∧ True) ⟨rfl, rfl, trivial⟩ ?_
 rintro fr5 ⟨s0, s1, _⟩
 refine cw_ret <| fnPost_ret [(bl (((encB ([7#8, 0#8, 0#8, 0#8, 0#8, 0#8, 0#8, 0#8, 0#8, 0#8, 0#8, 0#8, 0#8, 0#8, 0#8, 0#8, 0#8, 0#8, 0#8, 0#8, 0#8, 0#8, 0#8, 0#8, 0#8, 0#8, 0#8, 0#8, 0#8, 0#8, 0#8, 0#8]) ([0, 0, 0, 0, 0, 0, 0, 0, 0, 0, 0, 0, 0, 0, 0, 0, 0, 0, 0, 0, 0, 0, 0, 0, 0, 0, 0, 0, 0, 0, 0, 0])).getD 1 0) == 7#8))] ⟨s0, trivial⟩ ?_
 have hd6 : (((encB ([7#8, 0#8, 0#8, 0#8, 0#8, 0#8, 0#8, 0#8, 0#8, 0#8, 0#8, 0#8, 0#8, 0#8, 0#8, 0#8, 0#8, 0#8, 0#8, 0#8, 0#8, 0#8, 0#8, 0#8, 0#8, 0#8, 0#8, 0#8, 0#8, 0#8, 0#8, 0#8]) ([0, 0, 0, 0, 0, 0, 0, 0, 0, 0, 0, 0, 0, 0, 0, 0, 0, 0, 0, 0, 0, 0, 0, 0, 0, 0, 0, 0, 0, 0, 0, 0])).getD 1 0) == 7#8) = true := told_true rfl
 exact ⟨congrArg bl (told_true rfl), hm1.toExt⟩

end Go.Proofs.YtmiagmbgfhakgaaDoor

