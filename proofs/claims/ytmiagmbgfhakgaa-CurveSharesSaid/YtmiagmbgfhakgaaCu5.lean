/- The laws of the curve: their walks. Conditions: none beyond those that each theorem states. -/
import Derived.Test.YtmiagmbgfhakgaaCu4
import Derived.Test.YtmiagmbgfhakgaaCuQ
import Derived.Test.YtmiagmbgfhakgaaFwL
namespace Go.Proofs.Ytmiagmbgfhakgaa
set_option linter.unusedVariables false
set_option linter.unusedSimpArgs false
theorem told_true {α : Type} [BEq α] [LawfulBEq α] {a b : α} (h : a = b) : (a == b) = true := by rw [h]; exact beq_self_eq_true b
theorem told_ne {α : Type} [BEq α] [LawfulBEq α] {a b : α} (h : a = b) : (a != b) = false := by rw [h]; simp
theorem told_ne1 {α : Type} [BEq α] [LawfulBEq α] {a b : α} (h : a ≠ b) : (a != b) = true := bne_iff_ne.2 h
attribute [local irreducible] TimesR AddR LessR invRGo ReadR WriteR carryR lad16 stepR clampR timesL sumL lessL invGo readGo readL bytesE multL ladGo multR clampL

set_option maxHeartbeats 1000000 in
theorem c_speaks05  (w0 : World)   : CallsR Try.prog 13 #[] w0 (fun r w1 => r = (bl true) ∧ Ext w0 w1) := by
 refine callsR_of_cw (args := []) Try.func13 rfl Try.ntmps13 Try.results13 rfl ?_
 have hm0 : Mem w0 (restOf w0) [] := Mem.of_world w0
 refine sR <| rw_q rfl (ev_assign (v := (bl false)) rfl) ?_
 refine rN (sR ?_)
 refine rw_q rfl (ev_build_pa (c := (cl u8 ([5#8, 0#8, 0#8, 0#8, 0#8, 0#8, 0#8, 0#8, 0#8, 0#8, 0#8, 0#8, 0#8, 0#8, 0#8, 0#8, 0#8, 0#8, 0#8, 0#8, 0#8, 0#8, 0#8, 0#8, 0#8, 0#8, 0#8, 0#8, 0#8, 0#8, 0#8, 0#8]))) ti23 uT23 ti5 (pm_cons (i := 0) (v := (u8 5#8)) (cs := #[(u8 5#8)]) rfl rfl pm_nil) (by kernel_rfl)) <| rw_q rfl (ev_build_arr (ps := []) (c := (cl u8 (List.replicate 32 0))) ti23 uT23 ti5 (by simp) rfl) <| rw_c rfl (opR_call Try.func15 bd15 nm15 (args2 rfl rfl) (c_mult5 ([5#8, 0#8, 0#8, 0#8, 0#8, 0#8, 0#8, 0#8, 0#8, 0#8, 0#8, 0#8, 0#8, 0#8, 0#8, 0#8, 0#8, 0#8, 0#8, 0#8, 0#8, 0#8, 0#8, 0#8, 0#8, 0#8, 0#8, 0#8, 0#8, 0#8, 0#8, 0#8]) (List.replicate 32 0) _ sD sD)) ?_
 rintro _ w1 ⟨rfl, _ew1⟩
 have hm1 := hm0.ext _ew1
 refine rw_q rfl (ev_build_arr (ps := []) (c := (cl u8 (List.replicate 32 0))) ti23 uT23 ti5 (by simp) rfl) <| rw_q rfl (ev_u8arr_eql (l := multL ([5#8, 0#8, 0#8, 0#8, 0#8, 0#8, 0#8, 0#8, 0#8, 0#8, 0#8, 0#8, 0#8, 0#8, 0#8, 0#8, 0#8, 0#8, 0#8, 0#8, 0#8, 0#8, 0#8, 0#8, 0#8, 0#8, 0#8, 0#8, 0#8, 0#8, 0#8, 0#8]) (List.replicate 32 0)) (m := List.replicate 32 0) uT23 uT5 ti5 Try.eqGuardType23 rfl rfl (by first | rfl | first | omega | (simp; done) | (simp; omega) | decide) (by first | rfl | first | omega | (simp; done) | (simp; omega) | decide)) <| rM rfl rfl ?_
 have hd3 : ((multL ([5#8, 0#8, 0#8, 0#8, 0#8, 0#8, 0#8, 0#8, 0#8, 0#8, 0#8, 0#8, 0#8, 0#8, 0#8, 0#8, 0#8, 0#8, 0#8, 0#8, 0#8, 0#8, 0#8, 0#8, 0#8, 0#8, 0#8, 0#8, 0#8, 0#8, 0#8, 0#8]) (List.replicate 32 0)) == (List.replicate 32 0)) = true := told_true mult_none
 refine rw_gyq (s := 6) rfl rfl hd3 rfl (ev_build_pa (c := (cl u8 ([1#8, 0#8, 0#8, 0#8, 0#8, 0#8, 0#8, 0#8, 0#8, 0#8, 0#8, 0#8, 0#8, 0#8, 0#8, 0#8, 0#8, 0#8, 0#8, 0#8, 0#8, 0#8, 0#8, 0#8, 0#8, 0#8, 0#8, 0#8, 0#8, 0#8, 0#8, 0#8]))) ti23 uT23 ti5 (pm_cons (i := 0) (v := (u8 1#8)) (cs := #[(u8 1#8)]) rfl rfl pm_nil) (by kernel_rfl)) <| rw_gy (s := 6) rfl rfl hd3 rfl (opR_call Try.func18 bd18 nm18 (args1 rfl) (c_public5 ([1#8, 0#8, 0#8, 0#8, 0#8, 0#8, 0#8, 0#8, 0#8, 0#8, 0#8, 0#8, 0#8, 0#8, 0#8, 0#8, 0#8, 0#8, 0#8, 0#8, 0#8, 0#8, 0#8, 0#8, 0#8, 0#8, 0#8, 0#8, 0#8, 0#8, 0#8, 0#8]) _ sD)) ?_
 rintro _ w4 ⟨rfl, _ew4⟩
 have hm4 := hm1.ext _ew4
 refine rw_gyq (s := 6) rfl rfl hd3 rfl (ev_build_arr (ps := []) (c := (cl u8 (List.replicate 32 0))) ti23 uT23 ti5 (by simp) rfl) <| rw_gyq (s := 6) rfl rfl hd3 rfl (ev_u8arr_neq (l := multL ([1#8, 0#8, 0#8, 0#8, 0#8, 0#8, 0#8, 0#8, 0#8, 0#8, 0#8, 0#8, 0#8, 0#8, 0#8, 0#8, 0#8, 0#8, 0#8, 0#8, 0#8, 0#8, 0#8, 0#8, 0#8, 0#8, 0#8, 0#8, 0#8, 0#8, 0#8, 0#8]) base9) (m := List.replicate 32 0) uT23 uT5 ti5 Try.eqGuardType23 rfl rfl (by first | rfl | first | omega | (simp; done) | (simp; omega) | decide) (by first | rfl | first | omega | (simp; done) | (simp; omega) | decide)) <| rw_q rfl (ev_pick_tk rfl hd3 rfl) <| rA rfl rfl <| rN ?_
 refine CW.abs (fun g => g 0 = (bl ((multL ([1#8, 0#8, 0#8, 0#8, 0#8, 0#8, 0#8, 0#8, 0#8, 0#8, 0#8, 0#8, 0#8, 0#8, 0#8, 0#8, 0#8, 0#8, 0#8, 0#8, 0#8, 0#8, 0#8, 0#8, 0#8, 0#8, 0#8, 0#8, 0#8, 0#8, 0#8, 0#8]) base9) != (List.replicate 32 0))) ∧ True) ⟨rfl, trivial⟩ ?_
 rintro fr6 ⟨s0, _⟩
 refine cw_ret <| fnPost_ret [(bl ((multL ([1#8, 0#8, 0#8, 0#8, 0#8, 0#8, 0#8, 0#8, 0#8, 0#8, 0#8, 0#8, 0#8, 0#8, 0#8, 0#8, 0#8, 0#8, 0#8, 0#8, 0#8, 0#8, 0#8, 0#8, 0#8, 0#8, 0#8, 0#8, 0#8, 0#8, 0#8, 0#8]) base9) != (List.replicate 32 0)))] ⟨s0, trivial⟩ ?_
 have hd7 : ((multL ([1#8, 0#8, 0#8, 0#8, 0#8, 0#8, 0#8, 0#8, 0#8, 0#8, 0#8, 0#8, 0#8, 0#8, 0#8, 0#8, 0#8, 0#8, 0#8, 0#8, 0#8, 0#8, 0#8, 0#8, 0#8, 0#8, 0#8, 0#8, 0#8, 0#8, 0#8, 0#8]) base9) != (List.replicate 32 0)) = true := told_ne1 mult_some
 exact ⟨congrArg bl hd7, hm4.toExt⟩

set_option maxHeartbeats 1000000 in
theorem law_cmults (k u : List (BitVec 8)) (w0 : World)  (hk : k.length = 32) (hu : u.length = 32) : CallsR Try.prog 4 #[(agg u8 k), (agg u8 u)] w0 (fun r w1 => r = bl true ∧ RowKit.Below w0.heap.size w0 w1) := by
 refine callsR_of_cw (args := [(agg u8 k), (agg u8 u)]) Try.func4 rfl Try.ntmps4 Try.results4 rfl ?_
 have hm0 : Mem w0 (restOf w0) [] := Mem.of_world w0
 have hcl := clampL_length k
 refine sR <| rw_c rfl (or_box_agg (f := u8) (l := k) hm0 rfl) ?_
 rintro _ w1 ⟨b2, rfl, _ew1, hm1⟩
 refine rw_c rfl (or_box_agg (f := u8) (l := u) hm1 rfl) ?_
 rintro _ w2 ⟨b3, rfl, _ew2, hm2⟩
 refine rw_q rfl (ev_assign (v := (bl false)) rfl) ?_
 refine rN (cw_seq (sR ?_))
 refine rw_c rfl (opR_call Try.func13 bd13 nm13 (args0) (c_speaks05 _)) ?_
 rintro _ w3 ⟨rfl, _ew3⟩
 have hm3 := hm2.ext _ew3
 refine rw_q (v := (bl false)) rfl (ev_not (b := true) rfl) <| rN <| cw_cond_f rfl (by decide) ?_
 refine cw_skip (kThen_normal (sR ?_))
 refine rw_q (v := (agg u8 k)) rfl (ev_loadA uT23 rfl ti23 rfl hm3.h1 sZ) <| rw_c rfl (opR_call Try.func14 bd14 nm14 (args1 rfl) (c_clamp5 k _ sD)) ?_
 rintro _ w5 ⟨rfl, _ew5⟩
 have hm5 := hm3.ext _ew5
 refine rw_c rfl (or_alloc_agg hm5 ti23) ?_
 rintro _ w7 ⟨b5, rfl, _ew7, hm7⟩
 refine rw_n (or_store_agg (f := u8) (l := clampL k) u8_one ti23 rfl rfl sD hm7.h0 sZ rfl) ?_
 rintro _ w8 uq8
 have hm8 := hm7.upd0 uq8
 refine rN (cw_seq (sR ?_))
 refine rw_q rfl (ev_ia_arr (r := 0) (i := 0) oM uT23 ti5 rfl rfl oM oM) <| rw_q (v := (u8 ((clampL k).getD 0 0))) rfl (ev_load1 uT5 rfl rfl hm8.h0 (get_clD _ _ 0 sD)) <| rw_q rfl (ev_u8_rem (b := 8#8) rfl rfl (by decide)) <| rw_q rfl (ev_u8_neq (b := 0#8) rfl rfl) <| rw_q rfl (ev_move (v := (bl ((((clampL k).getD 0 0) % 8#8) != 0#8))) rfl) ?_
 have hd9 : ((((clampL k).getD 0 0) % 8#8) != 0#8) = false := told_ne (clamp_f1 hk)
 refine rw_gyq (s := 15) rfl rfl hd9 rfl (ev_ia_arr (r := 31) (i := 31) oM uT23 ti5 rfl rfl oM oM) <| rw_gyq (s := 15) rfl rfl hd9 rfl (ev_load1 uT5 rfl rfl hm8.h0 (get_clD _ _ 0 sD)) <| rw_gyq (s := 15) rfl rfl hd9 rfl (ev_u8_quo (b := 64#8) rfl rfl (by decide)) <| rw_gyq (s := 15) rfl rfl hd9 rfl (ev_u8_neq (b := 1#8) rfl rfl) <| rw_q rfl (ev_pick_fk rfl hd9 rfl) <| rw_q rfl (ev_move (v := (bl ((((clampL k).getD 31 0) / 64#8) != 1#8))) rfl) ?_
 have hd10 : ((((clampL k).getD 31 0) / 64#8) != 1#8) = false := told_ne (clamp_f2 hk)
 refine rw_gyq (s := 21) rfl rfl hd10 rfl (ev_ia_arr (r := 0) (i := 0) oM uT23 ti5 rfl rfl oM oM) <| rw_gyq (s := 21) rfl rfl hd10 rfl (ev_load1 uT5 rfl rfl hm8.h0 (get_clD _ _ 0 sD)) <| rw_gyq (s := 21) rfl rfl hd10 rfl (ev_u8_quo (b := 8#8) rfl rfl (by decide)) <| rw_gyq (s := 21) rfl rfl hd10 rfl (ev_ia_arr (r := 0) (i := 0) oM uT23 ti5 rfl rfl oM oM) <| rw_gyq (s := 21) rfl rfl hd10 rfl (ev_load1 uT5 rfl rfl hm8.h2 (get_clD _ _ 0 sD)) <| rw_gyq (s := 21) rfl rfl hd10 rfl (ev_u8_quo (b := 8#8) rfl rfl (by decide)) ?_
 refine rw_gyq (s := 21) rfl rfl hd10 rfl (ev_u8_neq rfl rfl) <| rw_q rfl (ev_pick_fk rfl hd10 rfl) <| rw_q rfl (ev_move (v := (bl ((((clampL k).getD 0 0) / 8#8) != ((k.getD 0 0) / 8#8)))) rfl) ?_
 have hd11 : ((((clampL k).getD 0 0) / 8#8) != ((k.getD 0 0) / 8#8)) = false := told_ne (clamp_f3 hk)
 refine rw_gyq (s := 30) rfl rfl hd11 rfl (ev_ia_arr (r := 31) (i := 31) oM uT23 ti5 rfl rfl oM oM) <| rw_gyq (s := 30) rfl rfl hd11 rfl (ev_load1 uT5 rfl rfl hm8.h0 (get_clD _ _ 0 sD)) <| rw_gyq (s := 30) rfl rfl hd11 rfl (ev_u8_rem (b := 64#8) rfl rfl (by decide)) <| rw_gyq (s := 30) rfl rfl hd11 rfl (ev_ia_arr (r := 31) (i := 31) oM uT23 ti5 rfl rfl oM oM) <| rw_gyq (s := 30) rfl rfl hd11 rfl (ev_load1 uT5 rfl rfl hm8.h2 (get_clD _ _ 0 sD)) <| rw_gyq (s := 30) rfl rfl hd11 rfl (ev_u8_rem (b := 64#8) rfl rfl (by decide)) ?_
 refine rw_gyq (s := 30) rfl rfl hd11 rfl (ev_u8_neq rfl rfl) <| rw_q rfl (ev_pick_fk rfl hd11 rfl) <| rN ?_
 refine CW.abs (fun g => g 0 = (agg u8 k) ∧ g 1 = (agg u8 u) ∧ g 2 = (ptr b2 0) ∧ g 3 = (ptr b3 0) ∧ g 4 = (bl false) ∧ g 5 = (ptr b5 0) ∧ g 8 = (bl false) ∧ g 38 = (bl ((((clampL k).getD 31 0) % 64#8) != ((k.getD 31 0) % 64#8))) ∧ True) ⟨rfl, rfl, rfl, rfl, rfl, rfl, rfl, rfl, trivial⟩ ?_
 rintro fr12 ⟨s0, s1, s2, s3, s4, s5, s8, s38, _⟩
 have hd13 : ((((clampL k).getD 31 0) % 64#8) != ((k.getD 31 0) % 64#8)) = false := told_ne (clamp_f4 hk)
 refine cw_cond_f s38 hd13 ?_
 refine cw_skip (kThen_normal (cw_seq (sR ?_)))
 refine rw_q rfl (ev_assign (v := (i64 1)) rfl) ?_
 refine rN (cw_block ?_)
 refine cw_loop (fun g wv => ∃ (i : Nat), (1 ≤ i) ∧ (i ≤ 31) ∧ g 0 = (agg u8 k) ∧ g 1 = (agg u8 u) ∧ g 2 = (ptr b2 0) ∧ g 3 = (ptr b3 0) ∧ g 5 = (ptr b5 0) ∧ g 6 = (i64 (i : Int)) ∧ g 8 = (bl false) ∧ g 38 = (bl ((((clampL k).getD 31 0) % 64#8) != ((k.getD 31 0) % 64#8))) ∧ Mem wv (restOf w0) [(b5, .cells (cl u8 (clampL k)) 23 (0, 0)), (b3, .cells (cl u8 u) 23 (0, 0)), (b2, .cells (cl u8 k) 23 (0, 0))]) (fun g wv => (31 - RowKit.intOf (g 6)).toNat) ?_ ?_
 · exact ⟨1, oM, oM, s0, s1, s2, s3, s5, rfl, s8, s38, hm8⟩
 · rintro fr14 w15 ⟨i, h1, hi, s0, s1, s2, s3, s5, s6, s8, s38, hm15⟩
   have z6 := s6
   refine cw_seq (sR ?_)
   refine rM rfl s6 <| rw_q rfl (ev_i64_lss (b := 31) rfl rfl) <| rN ?_
   refine cw_cond rfl (fun hc16 => ?_) (fun hc16 => ?_)
   · -- true
     have hc16p := of_decide_eq_true hc16
     refine cw_skip (kThen_normal (cw_seq (cw_block (cw_seq ?_))))
     refine cw_draw [(0, false), (1, false), (2, false), (3, false), (4, false), (5, false)] 6 (by kernel_rfl) <| dM rfl rfl s6 <| dw_q rfl rfl (fun _ _hx => ev_ia_arr (r := i) oM uT23 ti5 s5 rfl oM sD) <| dw_q (v := (u8 ((clampL k).getD i 0))) rfl rfl (fun _ _hx => ev_load1 uT5 rfl rfl (hm15.ext _hx).h0 (get_clD _ _ 0 sD)) <| dM rfl rfl s6 <| dw_q rfl rfl (fun _ _hx => ev_ia_arr (r := i) oM uT23 ti5 s2 rfl oM sD) ?_
     refine dw_q (v := (u8 (k.getD i 0))) rfl rfl (fun _ _hx => ev_load1 uT5 rfl rfl (hm15.ext _hx).h2 (get_clD _ _ 0 sD)) ?_
     refine dw_nil (fun w17 _ew17 => ?_)
     have hm17 := hm15.ext _ew17
     refine rw_q rfl (ev_u8_neq rfl rfl) <| rN ?_
     have hd18 : (((clampL k).getD i 0) != (k.getD i 0)) = false := told_ne (clamp_i oM oM)
     refine cw_cond_f rfl hd18 ?_
     refine cw_skip (kBlk_normal (cw_region ?_))
     refine rM rfl s6 <| rw_q rfl (ev_i64_add (b := 1) rfl rfl oM oM) <| rw_q rfl (ev_assign (v := (i64 ((i : Int) + 1))) rfl) <| rN ?_
     exact ⟨⟨i + 1, oM, oM, s0, s1, s2, s3, s5, rfl, s8, s38, hm17⟩, meas rfl z6 oM oM⟩
   · -- false
     have hc16p := of_decide_eq_false hc16
     refine cw_exit ?_
     refine kThen_exit (kThen_exit (kBlk_hit ?_))
     refine cw_seq <| cw_draw [(0, false), (1, false), (2, false), (3, false), (4, false)] 5 (by kernel_rfl) <| dw_q (v := (agg u8 k)) rfl rfl (fun _ _hx => ev_loadA uT23 rfl ti23 s2 (hm15.ext _hx).h2 sZ) <| dw_q (v := (agg u8 u)) rfl rfl (fun _ _hx => ev_loadA uT23 rfl ti23 s3 (hm15.ext _hx).h1 sZ) <| dw_x (v := (agg u8 (multL k u))) rfl rfl (fun w19 _ew19 => OpR.mono (opR_call Try.func15 bd15 nm15 (args2 rfl rfl) (c_mult5 k u _ sD sD)) (by rintro _ w20 ⟨rfl, _ew20⟩; exact ⟨rfl, _ew20⟩)) <| dw_q (v := (agg u8 k)) rfl rfl (fun _ _hx => ev_loadA uT23 rfl ti23 s2 (hm15.ext _hx).h2 sZ) ?_
     refine dw_q (v := (agg u8 u)) rfl rfl (fun _ _hx => ev_loadA uT23 rfl ti23 s3 (hm15.ext _hx).h1 sZ) ?_
     refine dw_nil (fun w22 _ew22 => ?_)
     have hm22 := hm15.ext _ew22
     refine rw_c rfl (opR_call Try.func16 bd16 nm16 (args2 rfl rfl) (c_rmult k u _ sD sD)) ?_
     rintro _ w23 ⟨rfl, _ew23⟩
     have hm23 := hm22.ext _ew23
     refine rw_q rfl (ev_u8arr_eql (l := multL k u) (m := multR k u) uT23 uT5 ti5 Try.eqGuardType23 rfl rfl (by first | rfl | first | omega | (simp; done) | (simp; omega) | decide) (by first | rfl | first | omega | (simp; done) | (simp; omega) | decide)) <| rw_q rfl (ev_assign (v := (bl ((multL k u) == (multR k u)))) rfl) ?_
     refine rN (cw_ret ?_)
     refine fnPost_ret [(bl ((multL k u) == (multR k u)))] ⟨rfl, trivial⟩ ?_
     have hd25 : ((multL k u) == (multR k u)) = true := told_true (mult_same hk hu)
     exact ⟨congrArg bl hd25, Mem.below w0 hm23⟩

set_option maxHeartbeats 1000000 in
theorem law_csame (k u : List (BitVec 8)) (z : BitVec 8) (w0 : World)  (hk : k.length = 32) (hu : u.length = 32) : CallsR Try.prog 5 #[(agg u8 k), (agg u8 u), (u8 z)] w0 (fun r w1 => r = bl true ∧ RowKit.Below w0.heap.size w0 w1) := by
 refine callsR_of_cw (args := [(agg u8 k), (agg u8 u), (u8 z)]) Try.func5 rfl Try.ntmps5 Try.results5 rfl ?_
 have hm0 : Mem w0 (restOf w0) [] := Mem.of_world w0
 have hcl := clampL_length k
 refine sR <| rw_c rfl (or_box_agg (f := u8) (l := k) hm0 rfl) ?_
 rintro _ w1 ⟨b3, rfl, _ew1, hm1⟩
 refine rw_c rfl (or_box_agg (f := u8) (l := u) hm1 rfl) ?_
 rintro _ w2 ⟨b4, rfl, _ew2, hm2⟩
 refine rw_q rfl (ev_assign (v := (bl false)) rfl) ?_
 refine rN (cw_seq (sR ?_))
 refine rw_c rfl (opR_call Try.func13 bd13 nm13 (args0) (c_speaks05 _)) ?_
 rintro _ w3 ⟨rfl, _ew3⟩
 have hm3 := hm2.ext _ew3
 refine rw_q (v := (bl false)) rfl (ev_not (b := true) rfl) <| rN <| cw_cond_f rfl (by decide) ?_
 refine cw_skip (kThen_normal (sR ?_))
 refine rw_q (v := (agg u8 k)) rfl (ev_loadA uT23 rfl ti23 rfl hm3.h1 sZ) <| rw_q (v := (agg u8 u)) rfl (ev_loadA uT23 rfl ti23 rfl hm3.h0 sZ) <| rw_c rfl (opR_call Try.func15 bd15 nm15 (args2 rfl rfl) (c_mult5 k u _ sD sD)) ?_
 rintro _ w5 ⟨rfl, _ew5⟩
 have hm5 := hm3.ext _ew5
 refine rw_c rfl (or_alloc_agg hm5 ti23) ?_
 rintro _ w7 ⟨b7, rfl, _ew7, hm7⟩
 refine rw_n (or_store_agg (f := u8) (l := multL k u) u8_one ti23 rfl rfl sD hm7.h0 sZ rfl) ?_
 rintro _ w8 uq8
 have hm8 := hm7.upd0 uq8
 refine rN (sR ?_)
 refine rw_q (v := (agg u8 u)) rfl (ev_loadA uT23 rfl ti23 rfl hm8.h1 sZ) <| rw_c rfl (or_alloc_agg hm8 ti23) ?_
 rintro _ w9 ⟨b8, rfl, _ew9, hm9⟩
 refine rw_n (or_store_agg (f := u8) (l := u) u8_one ti23 rfl rfl sD hm9.h0 sZ rfl) ?_
 rintro _ w10 uq10
 have hm10 := hm9.upd0 uq10
 refine rN ?_
 refine CW.abs (fun g => g 0 = (agg u8 k) ∧ g 1 = (agg u8 u) ∧ g 2 = (u8 z) ∧ g 3 = (ptr b3 0) ∧ g 4 = (ptr b4 0) ∧ g 6 = (bl false) ∧ g 7 = (ptr b7 0) ∧ g 8 = (ptr b8 0) ∧ g 13 = (bl false) ∧ True) ⟨rfl, rfl, rfl, rfl, rfl, rfl, rfl, rfl, rfl, trivial⟩ ?_
 rintro fr11 ⟨s0, s1, s2, s3, s4, s6, s7, s8, s13, _⟩
 refine sR <| rw_q rfl (ev_ia_arr (r := 31) (i := 31) oM uT23 ti5 s8 rfl oM oM) <| rw_q (v := (u8 (u.getD 31 0))) rfl (ev_load1 uT5 rfl rfl hm10.h0 (get_clD _ _ 0 sD)) <| rw_q rfl (ev_u8_xor (b := 128#8) rfl rfl) <| rw_q rfl (ev_ia_arr (r := 31) (i := 31) oM uT23 ti5 s8 rfl oM oM) <| rw_n (or_store_cl (f := u8) (a := (u.getD 31 0) ^^^ 128#8) u8_one ti5 rfl rfl hm10.h0 sD (.inl (Nat.zero_le _))) ?_
 rintro _ w12 uq12
 have hm12 := hm10.upd0 uq12
 refine rN (cw_seq (cw_seq ?_))
 refine cw_draw [(0, false), (1, false), (2, false), (3, false), (4, false), (5, false), (6, false), (7, false), (8, false), (9, false), (10, false)] 11 (by kernel_rfl) <| dw_q (v := (agg u8 k)) rfl rfl (fun _ _hx => ev_loadA uT23 rfl ti23 s3 (hm12.ext _hx).h3 sZ) <| dw_x (v := (agg u8 (clampL k))) rfl rfl (fun w13 _ew13 => OpR.mono (opR_call Try.func14 bd14 nm14 (args1 rfl) (c_clamp5 k _ sD)) (by rintro _ w14 ⟨rfl, _ew14⟩; exact ⟨rfl, _ew14⟩)) <| dw_q (v := (agg u8 u)) rfl rfl (fun _ _hx => ev_loadA uT23 rfl ti23 s4 (hm12.ext _hx).h2 sZ) <| dw_x (v := (agg u8 (multL (clampL k) u))) rfl rfl (fun w16 _ew16 => OpR.mono (opR_call Try.func15 bd15 nm15 (args2 rfl rfl) (c_mult5 (clampL k) u _ sD sD)) (by rintro _ w17 ⟨rfl, _ew17⟩; exact ⟨rfl, _ew17⟩)) <| dw_q (v := (agg u8 (multL k u))) rfl rfl (fun _ _hx => ev_loadA uT23 rfl ti23 s7 (hm12.ext _hx).h1 sZ) ?_
 refine dw_q rfl rfl (fun _ _hx => ev_u8arr_neq (l := multL (clampL k) u) (m := multL k u) uT23 uT5 ti5 Try.eqGuardType23 rfl rfl (by first | rfl | first | omega | (simp; done) | (simp; omega) | decide) (by first | rfl | first | omega | (simp; done) | (simp; omega) | decide)) <| dw_q rfl rfl (fun _ _hx => ev_move (v := (bl ((multL (clampL k) u) != (multL k u)))) rfl) ?_
 have hd19 : ((multL (clampL k) u) != (multL k u)) = false := told_ne (mult_clamp hk)
 refine dw_gqy (s := 28) rfl rfl rfl hd19 rfl (fun _ _hx => ev_loadA uT23 rfl ti23 s3 (hm12.ext _hx).h3 sZ) <| dw_gqy (s := 28) rfl rfl rfl hd19 rfl (fun _ _hx => ev_loadA uT23 rfl ti23 s8 (hm12.ext _hx).h0 sZ) <| dw_gxy (s := 28) (v := (agg u8 (multL k (u.set 31 ((u.getD 31 0) ^^^ 128#8))))) rfl rfl rfl hd19 rfl (fun w20 _ew20 => OpR.mono (opR_call Try.func15 bd15 nm15 (args2 rfl rfl) (c_mult5 k (u.set 31 ((u.getD 31 0) ^^^ 128#8)) _ sD sD)) (by rintro _ w21 ⟨rfl, _ew21⟩; exact ⟨rfl, _ew21⟩)) <| dw_gqy (s := 28) rfl rfl rfl hd19 rfl (fun _ _hx => ev_loadA uT23 rfl ti23 s7 (hm12.ext _hx).h1 sZ) ?_
 refine dw_nil (fun w23 _ew23 => ?_)
 have hm23 := hm12.ext _ew23
 refine rw_gyq (s := 28) rfl rfl hd19 rfl (ev_u8arr_neq (l := multL k (u.set 31 ((u.getD 31 0) ^^^ 128#8))) (m := multL k u) uT23 uT5 ti5 Try.eqGuardType23 rfl rfl (by first | rfl | first | omega | (simp; done) | (simp; omega) | decide) (by first | rfl | first | omega | (simp; done) | (simp; omega) | decide)) <| rw_q rfl (ev_pick_fk rfl hd19 rfl) <| rN ?_
 refine CW.abs (fun g => g 0 = (agg u8 k) ∧ g 1 = (agg u8 u) ∧ g 2 = (u8 z) ∧ g 3 = (ptr b3 0) ∧ g 4 = (ptr b4 0) ∧ g 6 = (bl false) ∧ g 7 = (ptr b7 0) ∧ g 8 = (ptr b8 0) ∧ g 13 = (bl false) ∧ g 34 = (bl ((multL k (u.set 31 ((u.getD 31 0) ^^^ 128#8))) != (multL k u))) ∧ True) ⟨s0, s1, s2, s3, s4, s6, s7, s8, s13, rfl, trivial⟩ ?_
 rintro fr24 ⟨s0, s1, s2, s3, s4, s6, s7, s8, s13, s34, _⟩
 have hd25 : ((multL k (u.set 31 ((u.getD 31 0) ^^^ 128#8))) != (multL k u)) = false := told_ne (mult_top hu)
 refine cw_cond_f s34 hd25 ?_
 refine cw_skip (kThen_normal (sR ?_))
 refine rM rfl s2 <| rw_q rfl (ev_u8_rem (b := 19#8) rfl rfl (by decide)) <| rw_q rfl (ev_assign (v := (u8 (z % 19#8))) rfl) ?_
 refine rN (sR ?_)
 refine rw_q rfl (ev_build_arr (ps := []) (c := (cl u8 (List.replicate 32 0))) ti23 uT23 ti5 (by simp) rfl) <| rw_c rfl (or_alloc_agg hm23 ti23) ?_
 rintro _ w26 ⟨b10, rfl, _ew26, hm26⟩
 refine rw_n (or_store_agg (f := u8) (l := List.replicate 32 0) u8_one ti23 rfl rfl sD hm26.h0 sZ rfl) ?_
 rintro _ w27 uq27
 have hm27 := hm26.upd0 uq27
 refine rN (cw_seq (sR ?_))
 refine rw_q rfl (ev_assign (v := (i64 0)) rfl) ?_
 refine rN (cw_block ?_)
 refine cw_loop (fun g wv => ∃ (i : Nat), (i ≤ 32) ∧ g 0 = (agg u8 k) ∧ g 1 = (agg u8 u) ∧ g 2 = (u8 z) ∧ g 3 = (ptr b3 0) ∧ g 4 = (ptr b4 0) ∧ g 6 = (bl false) ∧ g 7 = (ptr b7 0) ∧ g 8 = (ptr b8 0) ∧ g 9 = (u8 (z % 19#8)) ∧ g 10 = (ptr b10 0) ∧ g 11 = (i64 (i : Int)) ∧ g 13 = (bl false) ∧ g 34 = (bl ((multL k (u.set 31 ((u.getD 31 0) ^^^ 128#8))) != (multL k u))) ∧ Mem wv (restOf w0) [(b10, .cells (cl u8 (filled (fun _ => 255#8) 0 32 i)) 23 (0, 0)), (b8, .cells (cl u8 (u.set 31 ((u.getD 31 0) ^^^ 128#8))) 23 (0, 0)), (b7, .cells (cl u8 (multL k u)) 23 (0, 0)), (b4, .cells (cl u8 u) 23 (0, 0)), (b3, .cells (cl u8 k) 23 (0, 0))]) (fun g wv => (32 - RowKit.intOf (g 11)).toNat) ?_ ?_
 · exact ⟨0, oM, s0, s1, s2, s3, s4, s6, s7, s8, rfl, rfl, rfl, s13, s34, (by rw [filled_zero]; exact hm27)⟩
 · rintro fr28 w29 ⟨i, hi, s0, s1, s2, s3, s4, s6, s7, s8, s9, s10, s11, s13, s34, hm29⟩
   have z11 := s11
   have hfl : (filled (fun _ => 255#8) (0 : BitVec 8) 32 i).length = 32 := filled_length _ _ _ _ hi
   refine cw_seq (sR ?_)
   refine rM rfl s11 <| rw_q rfl (ev_i64_lss (b := 32) rfl rfl) <| rN ?_
   refine cw_cond rfl (fun hc30 => ?_) (fun hc30 => ?_)
   · -- true
     have hc30p := of_decide_eq_true hc30
     refine cw_skip (kThen_normal (cw_seq (cw_block (cw_region ?_))))
     refine rM rfl s11 <| rw_q rfl (ev_ia_arr (r := i) oM uT23 ti5 s10 rfl oM sD) <| rw_n (or_store_cl (f := u8) (a := 255#8) u8_one ti5 rfl rfl hm29.h0 sD (.inl (Nat.zero_le _))) ?_
     rintro _ w31 uq31
     have hm31 := hm29.upd0 uq31
     refine rw_nil (kBlk_normal (cw_region ?_))
     refine rM rfl s11 <| rw_q rfl (ev_i64_add (b := 1) rfl rfl oM oM) <| rw_q rfl (ev_assign (v := (i64 ((i : Int) + 1))) rfl) <| rN ?_
     exact ⟨⟨i + 1, oM, s0, s1, s2, s3, s4, s6, s7, s8, s9, s10, rfl, s13, s34, (by rw [← filled_set (fun _ => 255#8) (0 : BitVec 8) (n := 32) (k := i) oM _ rfl]; exact hm31)⟩, meas rfl z11 oM oM⟩
   · -- false
     have hc30p := of_decide_eq_false hc30
     obtain rfl : i = 32 := by omega
     have hfl := filled_length (fun _ => 255#8) (0 : BitVec 8) 32 32 oM
     have hfs : ((filled (fun _ => 255#8) (0 : BitVec 8) 32 32).set 0 (237#8 + z % 19#8)).length = 32 := by rw [List.length_set]; exact hfl
     refine cw_exit ?_
     refine kThen_exit (kThen_exit (kBlk_hit ?_))
     refine sR <| rM rfl s9 <| rw_q rfl (ev_u8_add (a := 237#8) rfl rfl) <| rw_q rfl (ev_ia_arr (r := 0) (i := 0) oM uT23 ti5 s10 rfl oM oM) <| rw_n (or_store_cl (f := u8) (a := 237#8 + (z % 19#8)) u8_one ti5 rfl rfl hm29.h0 sD (.inl (Nat.zero_le _))) ?_
     rintro _ w32 uq32
     have hm32 := hm29.upd0 uq32
     refine rw_q rfl (ev_ia_arr (r := 31) (i := 31) oM uT23 ti5 s10 rfl oM oM) <| rw_n (or_store_cl (f := u8) (a := 127#8) u8_one ti5 rfl rfl hm32.h0 sD (.inl (Nat.zero_le _))) ?_
     rintro _ w33 uq33
     have hm33 := hm32.upd0 uq33
     refine rN (cw_seq ?_)
     refine cw_draw [(0, false), (1, false), (2, false), (3, false), (4, false), (5, false)] 6 (by kernel_rfl) <| dw_q (v := (agg u8 k)) rfl rfl (fun _ _hx => ev_loadA uT23 rfl ti23 s3 (hm33.ext _hx).h4 sZ) <| dw_q (v := (agg u8 (((filled (fun _ => 255#8) 0 32 32).set 0 (237#8 + (z % 19#8))).set 31 127#8))) rfl rfl (fun _ _hx => ev_loadA uT23 rfl ti23 s10 (hm33.ext _hx).h0 sZ) <| dw_x (v := (agg u8 (multL k (((filled (fun _ => 255#8) 0 32 32).set 0 (237#8 + (z % 19#8))).set 31 127#8)))) rfl rfl (fun w34 _ew34 => OpR.mono (opR_call Try.func15 bd15 nm15 (args2 rfl rfl) (c_mult5 k (((filled (fun _ => 255#8) 0 32 32).set 0 (237#8 + (z % 19#8))).set 31 127#8) _ sD sD)) (by rintro _ w35 ⟨rfl, _ew35⟩; exact ⟨rfl, _ew35⟩)) <| dw_q (v := (agg u8 k)) rfl rfl (fun _ _hx => ev_loadA uT23 rfl ti23 s3 (hm33.ext _hx).h4 sZ) <| dM rfl rfl s9 ?_
     refine dw_q rfl rfl (fun _ _hx => ev_build_pa (c := (cl u8 ([z % 19#8, 0#8, 0#8, 0#8, 0#8, 0#8, 0#8, 0#8, 0#8, 0#8, 0#8, 0#8, 0#8, 0#8, 0#8, 0#8, 0#8, 0#8, 0#8, 0#8, 0#8, 0#8, 0#8, 0#8, 0#8, 0#8, 0#8, 0#8, 0#8, 0#8, 0#8, 0#8]))) ti23 uT23 ti5 (pm_cons (i := 0) (v := (u8 (z % 19#8))) (cs := #[(u8 (z % 19#8))]) rfl rfl pm_nil) (by kernel_rfl)) ?_
     refine dw_nil (fun w37 _ew37 => ?_)
     have hm37 := hm33.ext _ew37
     refine rw_c rfl (opR_call Try.func15 bd15 nm15 (args2 rfl rfl) (c_mult5 k ([z % 19#8, 0#8, 0#8, 0#8, 0#8, 0#8, 0#8, 0#8, 0#8, 0#8, 0#8, 0#8, 0#8, 0#8, 0#8, 0#8, 0#8, 0#8, 0#8, 0#8, 0#8, 0#8, 0#8, 0#8, 0#8, 0#8, 0#8, 0#8, 0#8, 0#8, 0#8, 0#8]) _ sD sD)) ?_
     rintro _ w38 ⟨rfl, _ew38⟩
     have hm38 := hm37.ext _ew38
     refine rw_q rfl (ev_u8arr_eql (l := multL k (((filled (fun _ => 255#8) 0 32 32).set 0 (237#8 + (z % 19#8))).set 31 127#8)) (m := multL k ([z % 19#8, 0#8, 0#8, 0#8, 0#8, 0#8, 0#8, 0#8, 0#8, 0#8, 0#8, 0#8, 0#8, 0#8, 0#8, 0#8, 0#8, 0#8, 0#8, 0#8, 0#8, 0#8, 0#8, 0#8, 0#8, 0#8, 0#8, 0#8, 0#8, 0#8, 0#8, 0#8])) uT23 uT5 ti5 Try.eqGuardType23 rfl rfl (by first | rfl | first | omega | (simp; done) | (simp; omega) | decide) (by first | rfl | first | omega | (simp; done) | (simp; omega) | decide)) <| rA rfl rfl <| rN ?_
     refine CW.abs (fun g => g 0 = (agg u8 k) ∧ g 1 = (agg u8 u) ∧ g 2 = (u8 z) ∧ g 3 = (ptr b3 0) ∧ g 4 = (ptr b4 0) ∧ g 6 = (bl ((multL k (((filled (fun _ => 255#8) 0 32 32).set 0 (237#8 + (z % 19#8))).set 31 127#8)) == (multL k ([z % 19#8, 0#8, 0#8, 0#8, 0#8, 0#8, 0#8, 0#8, 0#8, 0#8, 0#8, 0#8, 0#8, 0#8, 0#8, 0#8, 0#8, 0#8, 0#8, 0#8, 0#8, 0#8, 0#8, 0#8, 0#8, 0#8, 0#8, 0#8, 0#8, 0#8, 0#8, 0#8])))) ∧ g 7 = (ptr b7 0) ∧ g 8 = (ptr b8 0) ∧ g 9 = (u8 (z % 19#8)) ∧ g 10 = (ptr b10 0) ∧ g 11 = (i64 (32 : Int)) ∧ g 13 = (bl false) ∧ g 34 = (bl ((multL k (u.set 31 ((u.getD 31 0) ^^^ 128#8))) != (multL k u))) ∧ g 39 = (bl (decide ((32 : Int) < 32))) ∧ True) ⟨s0, s1, s2, s3, s4, rfl, s7, s8, s9, s10, s11, s13, s34, rfl, trivial⟩ ?_
     rintro fr40 ⟨s0, s1, s2, s3, s4, s6, s7, s8, s9, s10, s11, s13, s34, s39, _⟩
     refine cw_ret <| fnPost_ret [(bl ((multL k (((filled (fun _ => 255#8) 0 32 32).set 0 (237#8 + (z % 19#8))).set 31 127#8)) == (multL k ([z % 19#8, 0#8, 0#8, 0#8, 0#8, 0#8, 0#8, 0#8, 0#8, 0#8, 0#8, 0#8, 0#8, 0#8, 0#8, 0#8, 0#8, 0#8, 0#8, 0#8, 0#8, 0#8, 0#8, 0#8, 0#8, 0#8, 0#8, 0#8, 0#8, 0#8, 0#8, 0#8]))))] ⟨s6, trivial⟩ ?_
     have hd41 : ((multL k (((filled (fun _ => 255#8) 0 32 32).set 0 (237#8 + (z % 19#8))).set 31 127#8)) == (multL k ([z % 19#8, 0#8, 0#8, 0#8, 0#8, 0#8, 0#8, 0#8, 0#8, 0#8, 0#8, 0#8, 0#8, 0#8, 0#8, 0#8, 0#8, 0#8, 0#8, 0#8, 0#8, 0#8, 0#8, 0#8, 0#8, 0#8, 0#8, 0#8, 0#8, 0#8, 0#8, 0#8]))) = true := told_true (mult_over z)
     exact ⟨congrArg bl hd41, Mem.below w0 hm38⟩


end Go.Proofs.Ytmiagmbgfhakgaa
