/- Contracts: the curve, second part. Conditions: none beyond those that each theorem states. -/
import Derived.Test.YtmiagmbgfhakgaaDoorCu1
import Derived.Test.YtmiagmbgfhakgaaDoorFwR
namespace Go.Proofs.YtmiagmbgfhakgaaDoor
set_option linter.unusedVariables false
set_option linter.unusedSimpArgs false
def base9 : List (BitVec 8) := [9#8, 0#8, 0#8, 0#8, 0#8, 0#8, 0#8, 0#8, 0#8, 0#8, 0#8, 0#8, 0#8, 0#8, 0#8, 0#8, 0#8, 0#8, 0#8, 0#8, 0#8, 0#8, 0#8, 0#8, 0#8, 0#8, 0#8, 0#8, 0#8, 0#8, 0#8, 0#8]
@[simp] theorem base9_length : base9.length = 32 := rfl
attribute [local irreducible] timesL sumL lessL invGo readGo readL writeGo bytesE wholeL multL ladGo carryL mulH stepL clampL
theorem c_inv5 (x : List (BitVec 64)) (w0 : World)  (hx : x.length = 5) : CallsR Tryd.prog 75 #[(agg u64 x)] w0 (fun r w1 => r = (agg u64 (invL x)) ∧ Ext w0 w1) := by
 refine callsR_of_cw (args := [(agg u64 x)]) Tryd.func75 rfl Tryd.ntmps75 Tryd.results75 rfl ?_
 have hm0 : Mem w0 (restOf w0) [] := Mem.of_world w0
 refine sR <| rw_c rfl (or_box_agg (f := u64) (l := x) hm0 rfl) ?_
 rintro _ w1 ⟨b1, rfl, _ew1, hm1⟩
 refine rw_c rfl (or_alloc_agg hm1 ti112) ?_
 rintro _ w2 ⟨b2, rfl, _ew2, hm2⟩
 refine rN (sR ?_)
 refine rw_q rfl (ev_build_pa (c := (cl u64 ([1#64, 0#64, 0#64, 0#64, 0#64]))) ti112 uT112 ti61 (pm_cons (i := 0) (v := (u64 1#64)) (cs := #[(u64 1#64)]) rfl rfl pm_nil) (by kernel_rfl)) <| rw_c rfl (or_alloc_agg hm2 ti112) ?_
 rintro _ w3 ⟨b3, rfl, _ew3, hm3⟩
 refine rw_n (or_store_agg (f := u64) (l := [1#64, 0#64, 0#64, 0#64, 0#64]) u64_one ti112 rfl rfl sD hm3.h0 sZ rfl) ?_
 rintro _ w4 uq4
 have hm4 := hm3.upd0 uq4
 refine rN (cw_seq (sR ?_))
 refine rw_q rfl (ev_assign (v := (i64 254)) rfl) ?_
 refine rN (cw_block ?_)
 refine cw_loop (fun g wv => ∃ (j : Nat), (j ≤ 255) ∧ g 0 = (agg u64 x) ∧ g 1 = (ptr b1 0) ∧ g 2 = (ptr b2 0) ∧ g 3 = (ptr b3 0) ∧ g 4 = (i64 (254 - (j : Int))) ∧ Mem wv (restOf w0) [(b3, .cells (cl u64 (invGo x j)) 112 (0, 0)), (b2, .cells (cl u64 (List.replicate 5 0)) 112 (0, 0)), (b1, .cells (cl u64 x) 112 (0, 0))]) (fun g wv => (RowKit.intOf (g 4) + 1).toNat) ?_ ?_
 · exact ⟨0, oM, rfl, rfl, rfl, rfl, rfl, (by rw [invGo_zero]; exact hm4)⟩
 · rintro fr5 w6 ⟨j, hj, s0, s1, s2, s3, s4, hm6⟩
   have z4 := s4
   have hil := invGo_length x j
   refine cw_seq (sR ?_)
   refine rM rfl s4 <| rw_q rfl (ev_i64_geq (b := 0) rfl rfl) <| rN ?_
   refine cw_cond rfl (fun hc7 => ?_) (fun hc7 => ?_)
   · -- true
     have hc7p := of_decide_eq_true hc7
     refine cw_skip (kThen_normal (cw_seq (cw_block (sR ?_))))
     refine rw_q (v := (agg u64 (invGo x j))) rfl (ev_loadA uT112 rfl ti112 s3 hm6.h0 sZ) <| rw_q (v := (agg u64 (invGo x j))) rfl (ev_loadA uT112 rfl ti112 s3 hm6.h0 sZ) <| rw_c rfl (opR_call Tryd.func74 bd74 nm74 (args2 rfl rfl) (c_times5 (invGo x j) (invGo x j) _ sD sD)) ?_
     rintro _ w8 ⟨rfl, _ew8⟩
     have hm8 := hm6.ext _ew8
     refine rw_n (or_store_agg (f := u64) (l := timesL (invGo x j) (invGo x j)) u64_one ti112 s3 rfl sD hm8.h0 sZ rfl) ?_
     rintro _ w10 uq10
     have hm10 := hm8.upd0 uq10
     refine rN (sR ?_)
     refine rM rfl s4 <| rw_q rfl (ev_i64_neq (b := 2) rfl rfl) <| rw_q rfl (ev_move (v := (bl ((254 - (j : Int)) != 2))) rfl) ?_
     rcases Bool.eq_false_or_eq_true ((254 - (j : Int)) != 2) with hb11 | hb11
     · -- true
       have hb11p := bne_iff_ne.1 hb11
       refine rw_gyq (s := 15) rfl rfl hb11 rfl (ev_move s4) <| rw_gyq (s := 15) rfl rfl hb11 rfl (ev_i64_neq (b := 4) rfl rfl) <| rw_q rfl (ev_pick_tk rfl hb11 rfl) <| rN ?_
       refine CW.abs (fun g => g 0 = (agg u64 x) ∧ g 1 = (ptr b1 0) ∧ g 2 = (ptr b2 0) ∧ g 3 = (ptr b3 0) ∧ g 4 = (i64 (254 - (j : Int))) ∧ g 7 = (bl (decide (0 ≤ (254 - (j : Int))))) ∧ g 18 = (bl ((254 - (j : Int)) != 4)) ∧ True) ⟨s0, s1, s2, s3, s4, rfl, rfl, trivial⟩ ?_
       rintro fr12 ⟨s0, s1, s2, s3, s4, s7, s18, _⟩
       refine cw_cond s18 (fun hc13 => ?_) (fun hc13 => ?_)
       · -- true
         have hc13p := bne_iff_ne.1 hc13
         refine cw_region <| rw_q (v := (agg u64 (timesL (invGo x j) (invGo x j)))) rfl (ev_loadA uT112 rfl ti112 s3 hm10.h0 sZ) <| rw_q (v := (agg u64 x)) rfl (ev_loadA uT112 rfl ti112 s1 hm10.h2 sZ) <| rw_c rfl (opR_call Tryd.func74 bd74 nm74 (args2 rfl rfl) (c_times5 (timesL (invGo x j) (invGo x j)) x _ sD sD)) ?_
         rintro _ w14 ⟨rfl, _ew14⟩
         have hm14 := hm10.ext _ew14
         refine rw_n (or_store_agg (f := u64) (l := timesL (timesL (invGo x j) (invGo x j)) x) u64_one ti112 s3 rfl sD hm14.h0 sZ rfl) ?_
         rintro _ w16 uq16
         have hm16 := hm14.upd0 uq16
         refine rw_nil (kBlk_normal (cw_region ?_))
         refine rM rfl s4 <| rw_q rfl (ev_i64_sub (b := 1) rfl rfl oM oM) <| rw_q rfl (ev_assign (v := (i64 ((254 - (j : Int)) - 1))) rfl) <| rN ?_
         have hin : timesL (timesL (invGo x j) (invGo x j)) x = invGo x (j + 1) := invGo_mul (by clear hil hx; omega)
         exact ⟨⟨j + 1, oM, s0, s1, s2, s3, (show i64 (254 - (j : Int) - 1) = i64 (254 - ((j + 1 : Nat) : Int)) from congrArg i64 oM), (by rw [← hin]; exact hm16)⟩, (by show (RowKit.intOf (i64 (254 - (j : Int) - 1)) + 1).toNat < (RowKit.intOf _ + 1).toNat; rw [z4]; simp only [RowKit.intOf, i64]; omega)⟩
       · -- false
         have hc13p := eq_of_bne_false hc13
         refine cw_skip (kBlk_normal (cw_region ?_))
         refine rM rfl s4 <| rw_q rfl (ev_i64_sub (b := 1) rfl rfl oM oM) <| rw_q rfl (ev_assign (v := (i64 ((254 - (j : Int)) - 1))) rfl) <| rN ?_
         have hin : timesL (invGo x j) (invGo x j) = invGo x (j + 1) := invGo_sq (by clear hil hx; omega)
         exact ⟨⟨j + 1, oM, s0, s1, s2, s3, (show i64 (254 - (j : Int) - 1) = i64 (254 - ((j + 1 : Nat) : Int)) from congrArg i64 oM), (by rw [← hin]; exact hm10)⟩, (by show (RowKit.intOf (i64 (254 - (j : Int) - 1)) + 1).toNat < (RowKit.intOf _ + 1).toNat; rw [z4]; simp only [RowKit.intOf, i64]; omega)⟩
     · -- false
       have hb11p := eq_of_bne_false hb11
       refine rw_gn (s := 15) rfl rfl hb11 rfl <| rw_gn (s := 15) rfl rfl hb11 rfl <| rw_q rfl (ev_pick_fk rfl hb11 rfl) <| rN ?_
       refine CW.abs (fun g => g 0 = (agg u64 x) ∧ g 1 = (ptr b1 0) ∧ g 2 = (ptr b2 0) ∧ g 3 = (ptr b3 0) ∧ g 4 = (i64 (254 - (j : Int))) ∧ g 7 = (bl (decide (0 ≤ (254 - (j : Int))))) ∧ g 18 = (bl false) ∧ True) ⟨s0, s1, s2, s3, s4, rfl, rfl, trivial⟩ ?_
       rintro fr17 ⟨s0, s1, s2, s3, s4, s7, s18, _⟩
       refine cw_cond_f s18 (by decide) ?_
       refine cw_skip (kBlk_normal (cw_region ?_))
       refine rM rfl s4 <| rw_q rfl (ev_i64_sub (b := 1) rfl rfl oM oM) <| rw_q rfl (ev_assign (v := (i64 ((254 - (j : Int)) - 1))) rfl) <| rN ?_
       have hin : timesL (invGo x j) (invGo x j) = invGo x (j + 1) := invGo_sq (by clear hil hx; omega)
       exact ⟨⟨j + 1, oM, s0, s1, s2, s3, (show i64 (254 - (j : Int) - 1) = i64 (254 - ((j + 1 : Nat) : Int)) from congrArg i64 oM), (by rw [← hin]; exact hm10)⟩, (by show (RowKit.intOf (i64 (254 - (j : Int) - 1)) + 1).toNat < (RowKit.intOf _ + 1).toNat; rw [z4]; simp only [RowKit.intOf, i64]; omega)⟩
   · -- false
     have hc7p := of_decide_eq_false hc7
     obtain rfl : j = 255 := by omega
     have hil := invGo_length x 255
     refine cw_exit ?_
     refine kThen_exit (kThen_exit (kBlk_hit ?_))
     refine sR <| rw_q (v := (agg u64 (invGo x 255))) rfl (ev_loadA uT112 rfl ti112 s3 hm6.h0 sZ) <| rw_n (or_store_agg (f := u64) (l := invGo x 255) u64_one ti112 s2 rfl sD hm6.h1 sZ rfl) ?_
     rintro _ w18 uq18
     have hm18 := hm6.upd1 uq18
     refine rN (cw_ret ?_)
     refine fnPost_ret [(agg u64 (invGo x 255))] ⟨⟨_, s2, loadVar_run uT112 rfl ti112 hm18.h1 sZ⟩, trivial⟩ ?_
     exact ⟨by unfold invL; rfl, hm18.toExt⟩

set_option maxHeartbeats 1000000 in
theorem c_ebytes (e : List (BitVec 64)) (w0 : World)  (he : e.length = 5) : CallsR Tryd.prog 76 #[(agg u64 e)] w0 (fun r w1 => r = (agg u8 (bytesE e)) ∧ Ext w0 w1) := by
 refine callsR_of_cw (args := [(agg u64 e)]) Tryd.func76 rfl Tryd.ntmps76 Tryd.results76 rfl ?_
 have hm0 : Mem w0 (restOf w0) [] := Mem.of_world w0
 refine sR <| rw_c rfl (or_box_agg (f := u64) (l := e) hm0 rfl) ?_
 rintro _ w1 ⟨b1, rfl, _ew1, hm1⟩
 refine rw_c rfl (or_alloc_agg hm1 ti23) ?_
 rintro _ w2 ⟨b2, rfl, _ew2, hm2⟩
 refine rN (sR ?_)
 refine rw_q (v := (agg u64 e)) rfl (ev_loadA uT112 rfl ti112 rfl hm2.h1 sZ) <| rw_c rfl (opR_call Tryd.func89 bd89 nm89 (args1 rfl) (c_carry e _ sD)) ?_
 rintro _ w3 ⟨rfl, _ew3⟩
 have hm3 := hm2.ext _ew3
 refine rw_n (or_store_agg (f := u64) (l := carryL e) u64_one ti112 rfl rfl sD hm3.h1 sZ rfl) ?_
 rintro _ w5 uq5
 have hm5 := hm3.upd1 uq5
 refine rN (cw_seq ?_)
 obtain ⟨e0, e1, e2, e3, e4, hce⟩ := list5 (carryL e) (by rw [carryL_length, he])
 have hmC6 := hm5
 rw [hce] at hmC6
 refine cw_region <| rw_q (v := (agg u64 ([e0, e1, e2, e3, e4]))) rfl (ev_loadA uT112 rfl ti112 rfl hmC6.h1 sZ) <| rw_c rfl (or_alloc_agg hmC6 ti112) ?_
 rintro _ w7 ⟨b3, rfl, _ew7, hm7⟩
 refine rw_n (or_store_agg (f := u64) (l := [e0, e1, e2, e3, e4]) u64_one ti112 rfl rfl sD hm7.h0 sZ rfl) ?_
 rintro _ w8 uq8
 have hm8 := hm7.upd0 uq8
 refine rw_q rfl (ev_assign (v := (u64 19#64)) rfl) ?_
 refine rN (cw_seq (sR ?_))
 refine rw_q rfl (ev_move (v := (i64 0)) rfl) ?_
 refine rN (cw_block ?_)
 refine cw_rounds 6 ?_
 refine cr_succ (sR ?_)
 refine rw_q rfl (ev_i64_lss (a := 0) (b := 5) rfl rfl) ?_
 refine rN (cw_seq ?_)
 refine cw_cond_t rfl (by decide) ?_
 refine cw_skip (kThen_normal (cw_seq (cw_block (sR ?_))))
 refine rw_q rfl (ev_move (v := (i64 0)) rfl) <| rw_q rfl (ev_assign (v := (i64 0)) rfl) <| rN ?_
 refine CW.abs (fun g => g 0 = (agg u64 e) ∧ g 1 = (ptr b1 0) ∧ g 2 = (ptr b2 0) ∧ g 3 = (ptr b3 0) ∧ g 4 = (u64 19#64) ∧ g 5 = (i64 0) ∧ g 10 = (i64 0) ∧ g 11 = (bl true) ∧ True) ⟨rfl, rfl, rfl, rfl, rfl, rfl, rfl, rfl, trivial⟩ ?_
 rintro fr9 ⟨s0, s1, s2, s3, s4, s5, s10, s11, _⟩
 refine sR <| rM rfl s5 <| rw_q rfl (ev_ia_arr (r := 0) (i := 0) oM uT112 ti61 s3 rfl oM oM) <| rw_q (v := (u64 e0)) rfl (ev_load1 uT61 rfl rfl hm8.h0 (get_clD _ _ 0 (by simp))) <| rM rfl s4 <| rw_q rfl (ev_u64_add (b := 19#64) rfl rfl) ?_
 refine rw_q rfl (ev_ia_arr (r := 0) (i := 0) oM uT112 ti61 s3 rfl oM oM) <| rw_n (or_store_cl' (f := u64) (l' := [e0 + 19#64, e1, e2, e3, e4]) rfl u64_one ti61 rfl rfl hm8.h0 (by simp) (.inl (Nat.zero_le _))) ?_
 rintro _ w10 uq10
 have hm10 := hm8.upd0 uq10
 refine rN (sR ?_)
 refine rM rfl s5 <| rw_q rfl (ev_ia_arr (r := 0) (i := 0) oM uT112 ti61 s3 rfl oM oM) <| rw_q (v := (u64 (e0 + 19#64))) rfl (ev_load1 uT61 rfl rfl hm10.h0 (get_clD _ _ 0 (by simp))) <| rw_q rfl (ev_u64_shr (b := 51) rfl rfl oM) <| rw_q rfl (ev_assign (v := (u64 ((e0 + 19#64) >>> 51))) rfl) <| rN ?_
 refine CW.abs (fun g => g 0 = (agg u64 e) ∧ g 1 = (ptr b1 0) ∧ g 2 = (ptr b2 0) ∧ g 3 = (ptr b3 0) ∧ g 4 = (u64 ((e0 + 19#64) >>> 51)) ∧ g 5 = (i64 0) ∧ g 10 = (i64 0) ∧ g 11 = (bl true) ∧ True) ⟨s0, s1, s2, s3, rfl, s5, s10, s11, trivial⟩ ?_
 rintro fr11 ⟨s0, s1, s2, s3, s4, s5, s10, s11, _⟩
 refine cw_region <| rM rfl s5 <| rw_q rfl (ev_ia_arr (r := 0) (i := 0) oM uT112 ti61 s3 rfl oM oM) <| rw_q (v := (u64 (e0 + 19#64))) rfl (ev_load1 uT61 rfl rfl hm10.h0 (get_clD _ _ 0 (by simp))) <| rw_q rfl (ev_u64_and (b := 2251799813685247#64) rfl rfl) <| rw_q rfl (ev_ia_arr (r := 0) (i := 0) oM uT112 ti61 s3 rfl oM oM) ?_
 refine rw_n (or_store_cl' (f := u64) (l' := [(e0 + 19#64) &&& 2251799813685247#64, e1, e2, e3, e4]) rfl u64_one ti61 rfl rfl hm10.h0 (by simp) (.inl (Nat.zero_le _))) ?_
 rintro _ w12 uq12
 have hm12 := hm10.upd0 uq12
 refine rw_nil (kBlk_normal (cw_region ?_))
 refine rw_q (v := (i64 1)) rfl (ev_i64_add (a := 0) (b := 1) s10 rfl oM oM) <| rw_q rfl (ev_move (v := (i64 1)) rfl) ?_
 refine rN (cr_succ (sR ?_))
 refine rw_q rfl (ev_i64_lss (a := 1) (b := 5) rfl rfl) ?_
 refine rN (cw_seq ?_)
 refine cw_cond_t rfl (by decide) ?_
 refine cw_skip (kThen_normal (cw_seq (cw_block (sR ?_))))
 refine rw_q rfl (ev_move (v := (i64 1)) rfl) <| rw_q rfl (ev_assign (v := (i64 1)) rfl) ?_
 refine rN (sR ?_)
 refine rw_q rfl (ev_move (v := (i64 1)) rfl) <| rw_q rfl (ev_ia_arr (r := 1) (i := 1) oM uT112 ti61 s3 rfl oM oM) <| rw_q (v := (u64 e1)) rfl (ev_load1 uT61 rfl rfl hm12.h0 (get_clD _ _ 0 (by simp))) <| rM rfl s4 <| rw_q rfl (ev_u64_add rfl rfl) <| rw_q rfl (ev_ia_arr (r := 1) (i := 1) oM uT112 ti61 s3 rfl oM oM) ?_
 refine rw_n (or_store_cl' (f := u64) (l' := [(e0 + 19#64) &&& 2251799813685247#64, e1 + ((e0 + 19#64) >>> 51), e2, e3, e4]) rfl u64_one ti61 rfl rfl hm12.h0 (by simp) (.inl (Nat.zero_le _))) ?_
 rintro _ w13 uq13
 have hm13 := hm12.upd0 uq13
 refine rN ?_
 refine CW.abs (fun g => g 0 = (agg u64 e) ∧ g 1 = (ptr b1 0) ∧ g 2 = (ptr b2 0) ∧ g 3 = (ptr b3 0) ∧ g 4 = (u64 ((e0 + 19#64) >>> 51)) ∧ g 5 = (i64 1) ∧ g 10 = (i64 1) ∧ g 11 = (bl true) ∧ True) ⟨s0, s1, s2, s3, s4, rfl, rfl, rfl, trivial⟩ ?_
 rintro fr14 ⟨s0, s1, s2, s3, s4, s5, s10, s11, _⟩
 refine sR <| rM rfl s5 <| rw_q rfl (ev_ia_arr (r := 1) (i := 1) oM uT112 ti61 s3 rfl oM oM) <| rw_q (v := (u64 (e1 + ((e0 + 19#64) >>> 51)))) rfl (ev_load1 uT61 rfl rfl hm13.h0 (get_clD _ _ 0 (by simp))) <| rw_q rfl (ev_u64_shr (b := 51) rfl rfl oM) <| rw_q rfl (ev_assign (v := (u64 ((e1 + ((e0 + 19#64) >>> 51)) >>> 51))) rfl) ?_
 refine rN (cw_region ?_)
 refine rM rfl s5 <| rw_q rfl (ev_ia_arr (r := 1) (i := 1) oM uT112 ti61 s3 rfl oM oM) <| rw_q (v := (u64 (e1 + ((e0 + 19#64) >>> 51)))) rfl (ev_load1 uT61 rfl rfl hm13.h0 (get_clD _ _ 0 (by simp))) <| rw_q rfl (ev_u64_and (b := 2251799813685247#64) rfl rfl) <| rw_q rfl (ev_ia_arr (r := 1) (i := 1) oM uT112 ti61 s3 rfl oM oM) <| rw_n (or_store_cl' (f := u64) (l' := [(e0 + 19#64) &&& 2251799813685247#64, (e1 + ((e0 + 19#64) >>> 51)) &&& 2251799813685247#64, e2, e3, e4]) rfl u64_one ti61 rfl rfl hm13.h0 (by simp) (.inl (Nat.zero_le _))) ?_
 rintro _ w15 uq15
 have hm15 := hm13.upd0 uq15
 refine rw_nil (kBlk_normal (cw_region ?_))
 refine rw_q (v := (i64 2)) rfl (ev_i64_add (a := 1) (b := 1) s10 rfl oM oM) <| rw_q rfl (ev_move (v := (i64 2)) rfl) <| rN ?_
 refine CR.abs (fun g => g 0 = (agg u64 e) ∧ g 1 = (ptr b1 0) ∧ g 2 = (ptr b2 0) ∧ g 3 = (ptr b3 0) ∧ g 4 = (u64 ((e1 + ((e0 + 19#64) >>> 51)) >>> 51)) ∧ g 5 = (i64 1) ∧ g 10 = (i64 2) ∧ g 11 = (bl true) ∧ True) ⟨s0, s1, s2, s3, rfl, s5, rfl, s11, trivial⟩ ?_
 rintro fr16 ⟨s0, s1, s2, s3, s4, s5, s10, s11, _⟩
 refine cr_succ (sR ?_)
 refine rw_q rfl (ev_i64_lss (a := 2) (b := 5) s10 rfl) ?_
 refine rN (cw_seq ?_)
 refine cw_cond_t rfl (by decide) ?_
 refine cw_skip (kThen_normal (cw_seq (cw_block (sR ?_))))
 refine rM rfl s10 <| rw_q rfl (ev_assign (v := (i64 2)) rfl) ?_
 refine rN (sR ?_)
 refine rw_q rfl (ev_move (v := (i64 2)) rfl) <| rw_q rfl (ev_ia_arr (r := 2) (i := 2) oM uT112 ti61 s3 rfl oM oM) <| rw_q (v := (u64 e2)) rfl (ev_load1 uT61 rfl rfl hm15.h0 (get_clD _ _ 0 (by simp))) <| rM rfl s4 <| rw_q rfl (ev_u64_add rfl rfl) <| rw_q rfl (ev_ia_arr (r := 2) (i := 2) oM uT112 ti61 s3 rfl oM oM) ?_
 refine rw_n (or_store_cl' (f := u64) (l' := [(e0 + 19#64) &&& 2251799813685247#64, (e1 + ((e0 + 19#64) >>> 51)) &&& 2251799813685247#64, e2 + ((e1 + ((e0 + 19#64) >>> 51)) >>> 51), e3, e4]) rfl u64_one ti61 rfl rfl hm15.h0 (by simp) (.inl (Nat.zero_le _))) ?_
 rintro _ w17 uq17
 have hm17 := hm15.upd0 uq17
 refine rN (sR ?_)
 refine rw_q rfl (ev_move (v := (i64 2)) rfl) <| rw_q rfl (ev_ia_arr (r := 2) (i := 2) oM uT112 ti61 s3 rfl oM oM) <| rw_q (v := (u64 (e2 + ((e1 + ((e0 + 19#64) >>> 51)) >>> 51)))) rfl (ev_load1 uT61 rfl rfl hm17.h0 (get_clD _ _ 0 (by simp))) <| rw_q rfl (ev_u64_shr (b := 51) rfl rfl oM) <| rw_q rfl (ev_assign (v := (u64 ((e2 + ((e1 + ((e0 + 19#64) >>> 51)) >>> 51)) >>> 51))) rfl) <| rN ?_
 refine CW.abs (fun g => g 0 = (agg u64 e) ∧ g 1 = (ptr b1 0) ∧ g 2 = (ptr b2 0) ∧ g 3 = (ptr b3 0) ∧ g 4 = (u64 ((e2 + ((e1 + ((e0 + 19#64) >>> 51)) >>> 51)) >>> 51)) ∧ g 5 = (i64 2) ∧ g 10 = (i64 2) ∧ g 11 = (bl true) ∧ True) ⟨s0, s1, s2, s3, rfl, rfl, s10, rfl, trivial⟩ ?_
 rintro fr18 ⟨s0, s1, s2, s3, s4, s5, s10, s11, _⟩
 refine cw_region <| rM rfl s5 <| rw_q rfl (ev_ia_arr (r := 2) (i := 2) oM uT112 ti61 s3 rfl oM oM) <| rw_q (v := (u64 (e2 + ((e1 + ((e0 + 19#64) >>> 51)) >>> 51)))) rfl (ev_load1 uT61 rfl rfl hm17.h0 (get_clD _ _ 0 (by simp))) <| rw_q rfl (ev_u64_and (b := 2251799813685247#64) rfl rfl) <| rw_q rfl (ev_ia_arr (r := 2) (i := 2) oM uT112 ti61 s3 rfl oM oM) ?_
 refine rw_n (or_store_cl' (f := u64) (l' := [(e0 + 19#64) &&& 2251799813685247#64, (e1 + ((e0 + 19#64) >>> 51)) &&& 2251799813685247#64, (e2 + ((e1 + ((e0 + 19#64) >>> 51)) >>> 51)) &&& 2251799813685247#64, e3, e4]) rfl u64_one ti61 rfl rfl hm17.h0 (by simp) (.inl (Nat.zero_le _))) ?_
 rintro _ w19 uq19
 have hm19 := hm17.upd0 uq19
 refine rw_nil (kBlk_normal (cw_region ?_))
 refine rw_q (v := (i64 3)) rfl (ev_i64_add (a := 2) (b := 1) s10 rfl oM oM) <| rw_q rfl (ev_move (v := (i64 3)) rfl) ?_
 refine rN (cr_succ (sR ?_))
 refine rw_q rfl (ev_i64_lss (a := 3) (b := 5) rfl rfl) ?_
 refine rN (cw_seq ?_)
 refine cw_cond_t rfl (by decide) ?_
 refine cw_skip (kThen_normal (cw_seq (cw_block (sR ?_))))
 refine rw_q rfl (ev_move (v := (i64 3)) rfl) <| rw_q rfl (ev_assign (v := (i64 3)) rfl) ?_
 refine rN (sR ?_)
 refine rw_q rfl (ev_move (v := (i64 3)) rfl) <| rw_q rfl (ev_ia_arr (r := 3) (i := 3) oM uT112 ti61 s3 rfl oM oM) <| rw_q (v := (u64 e3)) rfl (ev_load1 uT61 rfl rfl hm19.h0 (get_clD _ _ 0 (by simp))) <| rM rfl s4 <| rw_q rfl (ev_u64_add rfl rfl) <| rw_q rfl (ev_ia_arr (r := 3) (i := 3) oM uT112 ti61 s3 rfl oM oM) ?_
 refine rw_n (or_store_cl' (f := u64) (l' := [(e0 + 19#64) &&& 2251799813685247#64, (e1 + ((e0 + 19#64) >>> 51)) &&& 2251799813685247#64, (e2 + ((e1 + ((e0 + 19#64) >>> 51)) >>> 51)) &&& 2251799813685247#64, e3 + ((e2 + ((e1 + ((e0 + 19#64) >>> 51)) >>> 51)) >>> 51), e4]) rfl u64_one ti61 rfl rfl hm19.h0 (by simp) (.inl (Nat.zero_le _))) ?_
 rintro _ w20 uq20
 have hm20 := hm19.upd0 uq20
 refine rN ?_
 refine CW.abs (fun g => g 0 = (agg u64 e) ∧ g 1 = (ptr b1 0) ∧ g 2 = (ptr b2 0) ∧ g 3 = (ptr b3 0) ∧ g 4 = (u64 ((e2 + ((e1 + ((e0 + 19#64) >>> 51)) >>> 51)) >>> 51)) ∧ g 5 = (i64 3) ∧ g 10 = (i64 3) ∧ g 11 = (bl true) ∧ True) ⟨s0, s1, s2, s3, s4, rfl, rfl, rfl, trivial⟩ ?_
 rintro fr21 ⟨s0, s1, s2, s3, s4, s5, s10, s11, _⟩
 refine sR <| rM rfl s5 <| rw_q rfl (ev_ia_arr (r := 3) (i := 3) oM uT112 ti61 s3 rfl oM oM) <| rw_q (v := (u64 (e3 + ((e2 + ((e1 + ((e0 + 19#64) >>> 51)) >>> 51)) >>> 51)))) rfl (ev_load1 uT61 rfl rfl hm20.h0 (get_clD _ _ 0 (by simp))) <| rw_q rfl (ev_u64_shr (b := 51) rfl rfl oM) <| rw_q rfl (ev_assign (v := (u64 ((e3 + ((e2 + ((e1 + ((e0 + 19#64) >>> 51)) >>> 51)) >>> 51)) >>> 51))) rfl) ?_
 refine rN (cw_region ?_)
 refine rM rfl s5 <| rw_q rfl (ev_ia_arr (r := 3) (i := 3) oM uT112 ti61 s3 rfl oM oM) <| rw_q (v := (u64 (e3 + ((e2 + ((e1 + ((e0 + 19#64) >>> 51)) >>> 51)) >>> 51)))) rfl (ev_load1 uT61 rfl rfl hm20.h0 (get_clD _ _ 0 (by simp))) <| rw_q rfl (ev_u64_and (b := 2251799813685247#64) rfl rfl) <| rw_q rfl (ev_ia_arr (r := 3) (i := 3) oM uT112 ti61 s3 rfl oM oM) <| rw_n (or_store_cl' (f := u64) (l' := [(e0 + 19#64) &&& 2251799813685247#64, (e1 + ((e0 + 19#64) >>> 51)) &&& 2251799813685247#64, (e2 + ((e1 + ((e0 + 19#64) >>> 51)) >>> 51)) &&& 2251799813685247#64, (e3 + ((e2 + ((e1 + ((e0 + 19#64) >>> 51)) >>> 51)) >>> 51)) &&& 2251799813685247#64, e4]) rfl u64_one ti61 rfl rfl hm20.h0 (by simp) (.inl (Nat.zero_le _))) ?_
 rintro _ w22 uq22
 have hm22 := hm20.upd0 uq22
 refine rw_nil (kBlk_normal (cw_region ?_))
 refine rw_q (v := (i64 4)) rfl (ev_i64_add (a := 3) (b := 1) s10 rfl oM oM) <| rw_q rfl (ev_move (v := (i64 4)) rfl) <| rN ?_
 refine CR.abs (fun g => g 0 = (agg u64 e) ∧ g 1 = (ptr b1 0) ∧ g 2 = (ptr b2 0) ∧ g 3 = (ptr b3 0) ∧ g 4 = (u64 ((e3 + ((e2 + ((e1 + ((e0 + 19#64) >>> 51)) >>> 51)) >>> 51)) >>> 51)) ∧ g 5 = (i64 3) ∧ g 10 = (i64 4) ∧ g 11 = (bl true) ∧ True) ⟨s0, s1, s2, s3, rfl, s5, rfl, s11, trivial⟩ ?_
 rintro fr23 ⟨s0, s1, s2, s3, s4, s5, s10, s11, _⟩
 refine cr_succ (sR ?_)
 refine rw_q rfl (ev_i64_lss (a := 4) (b := 5) s10 rfl) ?_
 refine rN (cw_seq ?_)
 refine cw_cond_t rfl (by decide) ?_
 refine cw_skip (kThen_normal (cw_seq (cw_block (sR ?_))))
 refine rM rfl s10 <| rw_q rfl (ev_assign (v := (i64 4)) rfl) ?_
 refine rN (sR ?_)
 refine rw_q rfl (ev_move (v := (i64 4)) rfl) <| rw_q rfl (ev_ia_arr (r := 4) (i := 4) oM uT112 ti61 s3 rfl oM oM) <| rw_q (v := (u64 e4)) rfl (ev_load1 uT61 rfl rfl hm22.h0 (get_clD _ _ 0 (by simp))) <| rM rfl s4 <| rw_q rfl (ev_u64_add rfl rfl) <| rw_q rfl (ev_ia_arr (r := 4) (i := 4) oM uT112 ti61 s3 rfl oM oM) ?_
 refine rw_n (or_store_cl' (f := u64) (l' := [(e0 + 19#64) &&& 2251799813685247#64, (e1 + ((e0 + 19#64) >>> 51)) &&& 2251799813685247#64, (e2 + ((e1 + ((e0 + 19#64) >>> 51)) >>> 51)) &&& 2251799813685247#64, (e3 + ((e2 + ((e1 + ((e0 + 19#64) >>> 51)) >>> 51)) >>> 51)) &&& 2251799813685247#64, e4 + ((e3 + ((e2 + ((e1 + ((e0 + 19#64) >>> 51)) >>> 51)) >>> 51)) >>> 51)]) rfl u64_one ti61 rfl rfl hm22.h0 (by simp) (.inl (Nat.zero_le _))) ?_
 rintro _ w24 uq24
 have hm24 := hm22.upd0 uq24
 refine rN (sR ?_)
 refine rw_q rfl (ev_move (v := (i64 4)) rfl) <| rw_q rfl (ev_ia_arr (r := 4) (i := 4) oM uT112 ti61 s3 rfl oM oM) <| rw_q (v := (u64 (e4 + ((e3 + ((e2 + ((e1 + ((e0 + 19#64) >>> 51)) >>> 51)) >>> 51)) >>> 51)))) rfl (ev_load1 uT61 rfl rfl hm24.h0 (get_clD _ _ 0 (by simp))) <| rw_q rfl (ev_u64_shr (b := 51) rfl rfl oM) <| rA rfl rfl <| rN ?_
 refine CW.abs (fun g => g 0 = (agg u64 e) ∧ g 1 = (ptr b1 0) ∧ g 2 = (ptr b2 0) ∧ g 3 = (ptr b3 0) ∧ g 4 = (u64 ((e4 + ((e3 + ((e2 + ((e1 + ((e0 + 19#64) >>> 51)) >>> 51)) >>> 51)) >>> 51)) >>> 51)) ∧ g 5 = (i64 4) ∧ g 10 = (i64 4) ∧ g 11 = (bl true) ∧ True) ⟨s0, s1, s2, s3, rfl, rfl, s10, rfl, trivial⟩ ?_
 rintro fr25 ⟨s0, s1, s2, s3, s4, s5, s10, s11, _⟩
 refine cw_region <| rM rfl s5 <| rw_q rfl (ev_ia_arr (r := 4) (i := 4) oM uT112 ti61 s3 rfl oM oM) <| rw_q (v := (u64 (e4 + ((e3 + ((e2 + ((e1 + ((e0 + 19#64) >>> 51)) >>> 51)) >>> 51)) >>> 51)))) rfl (ev_load1 uT61 rfl rfl hm24.h0 (get_clD _ _ 0 (by simp))) <| rw_q rfl (ev_u64_and (b := 2251799813685247#64) rfl rfl) <| rw_q rfl (ev_ia_arr (r := 4) (i := 4) oM uT112 ti61 s3 rfl oM oM) ?_
 refine rw_n (or_store_cl' (f := u64) (l' := [(e0 + 19#64) &&& 2251799813685247#64, (e1 + ((e0 + 19#64) >>> 51)) &&& 2251799813685247#64, (e2 + ((e1 + ((e0 + 19#64) >>> 51)) >>> 51)) &&& 2251799813685247#64, (e3 + ((e2 + ((e1 + ((e0 + 19#64) >>> 51)) >>> 51)) >>> 51)) &&& 2251799813685247#64, (e4 + ((e3 + ((e2 + ((e1 + ((e0 + 19#64) >>> 51)) >>> 51)) >>> 51)) >>> 51)) &&& 2251799813685247#64]) rfl u64_one ti61 rfl rfl hm24.h0 (by simp) (.inl (Nat.zero_le _))) ?_
 rintro _ w26 uq26
 have hm26 := hm24.upd0 uq26
 refine rw_nil (kBlk_normal (cw_region ?_))
 refine rw_q (v := (i64 5)) rfl (ev_i64_add (a := 4) (b := 1) s10 rfl oM oM) <| rw_q rfl (ev_move (v := (i64 5)) rfl) ?_
 refine rN (cr_succ (sR ?_))
 refine rw_q rfl (ev_i64_lss (a := 5) (b := 5) rfl rfl) ?_
 refine rN (cw_seq ?_)
 refine cw_cond_f rfl (by decide) <| cw_exit ?_
 refine kThen_exit (kThen_exit (kBlk_hit ?_))
 refine cw_seq (sR ?_)
 refine rM rfl s4 <| rw_q rfl (ev_u64_gtr (b := 0#64) rfl rfl) <| rN ?_
 refine cw_cond rfl (fun hc27 => ?_) (fun hc27 => ?_)
 · -- true
   have hc27p := of_decide_eq_true hc27
   refine cw_region <| rw_q (v := (agg u64 ([(e0 + 19#64) &&& 2251799813685247#64, (e1 + ((e0 + 19#64) >>> 51)) &&& 2251799813685247#64, (e2 + ((e1 + ((e0 + 19#64) >>> 51)) >>> 51)) &&& 2251799813685247#64, (e3 + ((e2 + ((e1 + ((e0 + 19#64) >>> 51)) >>> 51)) >>> 51)) &&& 2251799813685247#64, (e4 + ((e3 + ((e2 + ((e1 + ((e0 + 19#64) >>> 51)) >>> 51)) >>> 51)) >>> 51)) &&& 2251799813685247#64]))) rfl (ev_loadA uT112 rfl ti112 s3 hm26.h0 sZ) <| rw_n (or_store_agg (f := u64) (l := [(e0 + 19#64) &&& 2251799813685247#64, (e1 + ((e0 + 19#64) >>> 51)) &&& 2251799813685247#64, (e2 + ((e1 + ((e0 + 19#64) >>> 51)) >>> 51)) &&& 2251799813685247#64, (e3 + ((e2 + ((e1 + ((e0 + 19#64) >>> 51)) >>> 51)) >>> 51)) &&& 2251799813685247#64, (e4 + ((e3 + ((e2 + ((e1 + ((e0 + 19#64) >>> 51)) >>> 51)) >>> 51)) >>> 51)) &&& 2251799813685247#64]) u64_one ti112 s1 rfl sD hm26.h2 sZ rfl) ?_
   rintro _ w28 uq28
   have hm28 := hm26.upd2 uq28
   refine rN ?_
   refine CW.abs (fun g => g 0 = (agg u64 e) ∧ g 1 = (ptr b1 0) ∧ g 2 = (ptr b2 0) ∧ g 3 = (ptr b3 0) ∧ g 4 = (u64 ((e4 + ((e3 + ((e2 + ((e1 + ((e0 + 19#64) >>> 51)) >>> 51)) >>> 51)) >>> 51)) >>> 51)) ∧ g 5 = (i64 4) ∧ g 10 = (i64 5) ∧ g 11 = (bl false) ∧ g 30 = (bl (decide ((0#64).toNat < ((e4 + ((e3 + ((e2 + ((e1 + ((e0 + 19#64) >>> 51)) >>> 51)) >>> 51)) >>> 51)) >>> 51).toNat))) ∧ True) ⟨s0, s1, s2, s3, s4, s5, rfl, rfl, rfl, trivial⟩ ?_
   rintro fr29 ⟨s0, s1, s2, s3, s4, s5, s10, s11, s30, _⟩
   refine cw_seq (cw_seq ?_)
   have hwq : [(e0 + 19#64) &&& 2251799813685247#64, (e1 + ((e0 + 19#64) >>> 51)) &&& 2251799813685247#64, (e2 + ((e1 + ((e0 + 19#64) >>> 51)) >>> 51)) &&& 2251799813685247#64, (e3 + ((e2 + ((e1 + ((e0 + 19#64) >>> 51)) >>> 51)) >>> 51)) &&& 2251799813685247#64, (e4 + ((e3 + ((e2 + ((e1 + ((e0 + 19#64) >>> 51)) >>> 51)) >>> 51)) >>> 51)) &&& 2251799813685247#64] = wholeL e := by unfold wholeL; rw [hce]; exact (if_pos (of_decide_eq_true hc27)).symm
   have hmW30 := hm28
   rw [hwq] at hmW30
   have hwl := wholeL_length he
   refine cw_region <| rw_q rfl (ev_move (v := (i64 0)) rfl) ?_
   refine rN (cw_block ?_)
   refine cw_loop (fun g wv => ∃ (i : Nat), (i ≤ 255) ∧ g 0 = (agg u64 e) ∧ g 1 = (ptr b1 0) ∧ g 2 = (ptr b2 0) ∧ g 3 = (ptr b3 0) ∧ g 4 = (u64 ((e4 + ((e3 + ((e2 + ((e1 + ((e0 + 19#64) >>> 51)) >>> 51)) >>> 51)) >>> 51)) >>> 51)) ∧ g 5 = (i64 4) ∧ g 10 = (i64 5) ∧ g 11 = (bl false) ∧ g 30 = (bl (decide ((0#64).toNat < ((e4 + ((e3 + ((e2 + ((e1 + ((e0 + 19#64) >>> 51)) >>> 51)) >>> 51)) >>> 51)) >>> 51).toNat))) ∧ g 32 = (i64 (i : Int)) ∧ Mem wv (restOf w0) [(b3, .cells (cl u64 (wholeL e)) 112 (0, 0)), (b2, .cells (cl u8 (writeGo (wholeL e) i)) 23 (0, 0)), (b1, .cells (cl u64 (wholeL e)) 112 (0, 0))]) (fun g wv => (255 - RowKit.intOf (g 32)).toNat) ?_ ?_
   · exact ⟨0, oM, s0, s1, s2, s3, s4, s5, s10, s11, s30, rfl, (by rw [writeGo_zero]; exact hmW30)⟩
   · rintro fr31 w32 ⟨i, hi, s0, s1, s2, s3, s4, s5, s10, s11, s30, s32, hm32⟩
     have z32 := s32
     have hgl := writeGo_length (wholeL e) i
     refine sR <| rw_q rfl (ev_i64_lss (b := 255) s32 rfl) ?_
     refine rN (cw_seq ?_)
     refine cw_cond rfl (fun hc33 => ?_) (fun hc33 => ?_)
     · -- true
       have hc33p := of_decide_eq_true hc33
       refine cw_skip (kThen_normal (cw_seq (cw_block (sR ?_))))
       refine rM rfl s32 <| rw_q rfl (ev_assign (v := (i64 (i : Int))) rfl) <| rN <| cw_draw [(0, false), (1, false), (2, false), (3, false), (4, false), (5, false), (6, false), (7, false), (8, false), (9, false), (10, false), (11, false), (12, false), (13, false), (14, false), (15, false)] 16 (by kernel_rfl) <| dw_q rfl rfl (fun _ _hx => ev_move (v := (i64 (i : Int))) rfl) <| dw_q rfl rfl (fun _ _hx => EvQ.cast (congrArg i64 (show (i : Int) / 8 = ((i / 8 : Nat) : Int) by omega)) (ev_i64_quo (b := 8) rfl rfl oM oM oM)) ?_
       refine dw_q rfl rfl (fun _ _hx => ev_ia_arr (r := (i / 8)) oM uT23 ti5 s2 rfl oM sD) <| dw_q (v := (u8 ((writeGo (wholeL e) i).getD (i / 8) 0))) rfl rfl (fun _ _hx => ev_load1 uT5 rfl rfl (hm32.ext _hx).h1 (get_clD _ _ 0 sD)) <| dw_q rfl rfl (fun _ _hx => ev_move (v := (i64 (i : Int))) rfl) <| dw_q rfl rfl (fun _ _hx => EvQ.cast (congrArg i64 (show (i : Int) / 51 = ((i / 51 : Nat) : Int) by omega)) (ev_i64_quo (b := 51) rfl rfl oM oM oM)) <| dw_q rfl rfl (fun _ _hx => ev_ia_arr (r := (i / 51)) oM uT112 ti61 s1 rfl oM sD) <| dw_q (v := (u64 ((wholeL e).getD (i / 51) 0))) rfl rfl (fun _ _hx => ev_load1 uT61 rfl rfl (hm32.ext _hx).h2 (get_clD _ _ 0 sD)) ?_
       refine dw_q rfl rfl (fun _ _hx => ev_move (v := (i64 (i : Int))) rfl) <| dw_q rfl rfl (fun _ _hx => EvQ.cast (congrArg i64 (show (i : Int) % 51 = ((i % 51 : Nat) : Int) by omega)) (ev_i64_rem (b := 51) rfl rfl oM oM oM)) <| dw_q rfl rfl (fun _ _hx => ev_u64_shr rfl rfl oM) <| dw_q rfl rfl (fun _ _hx => ev_u64_and (b := 1#64) rfl rfl) <| dw_q rfl rfl (fun _ _hx => ev_conv_u64_u8 ⟨_, uT61⟩ uT5 rfl) <| dw_q rfl rfl (fun _ _hx => ev_move (v := (i64 (i : Int))) rfl) ?_
       refine dw_q rfl rfl (fun _ _hx => EvQ.cast (congrArg i64 (show (i : Int) % 8 = ((i % 8 : Nat) : Int) by omega)) (ev_i64_rem (b := 8) rfl rfl oM oM oM)) <| dw_q rfl rfl (fun _ _hx => ev_u8_shl rfl rfl oM) ?_
       refine dw_nil (fun w34 _ew34 => ?_)
       have hm34 := hm32.ext _ew34
       refine rw_q rfl (ev_u8_or rfl rfl) <| rw_q rfl (ev_ia_arr (r := (i / 8)) oM uT23 ti5 s2 rfl oM sD) <| rw_n (or_store_cl (f := u8) (a := ((writeGo (wholeL e) i).getD (i / 8) 0) ||| ((((((wholeL e).getD (i / 51) 0) >>> ((i % 51 : Nat) : Int).toNat) &&& 1#64).setWidth 8) <<< ((i % 8 : Nat) : Int).toNat)) u8_one ti5 rfl rfl hm34.h1 sD (.inl (Nat.zero_le _))) ?_
       rintro _ w35 uq35
       have hm35 := hm34.upd1 uq35
       refine rw_nil (kBlk_normal ?_)
       refine CW.abs (fun g => g 0 = (agg u64 e) ∧ g 1 = (ptr b1 0) ∧ g 2 = (ptr b2 0) ∧ g 3 = (ptr b3 0) ∧ g 4 = (u64 ((e4 + ((e3 + ((e2 + ((e1 + ((e0 + 19#64) >>> 51)) >>> 51)) >>> 51)) >>> 51)) >>> 51)) ∧ g 5 = (i64 4) ∧ g 6 = (i64 (i : Int)) ∧ g 10 = (i64 5) ∧ g 11 = (bl false) ∧ g 30 = (bl (decide ((0#64).toNat < ((e4 + ((e3 + ((e2 + ((e1 + ((e0 + 19#64) >>> 51)) >>> 51)) >>> 51)) >>> 51)) >>> 51).toNat))) ∧ g 32 = (i64 (i : Int)) ∧ g 33 = (bl (decide ((i : Int) < 255))) ∧ True) ⟨s0, s1, s2, s3, s4, s5, rfl, s10, s11, s30, s32, rfl, trivial⟩ ?_
       rintro fr36 ⟨s0, s1, s2, s3, s4, s5, s6, s10, s11, s30, s32, s33, _⟩
       refine cw_region <| rw_q rfl (ev_i64_add (b := 1) s32 rfl oM oM) <| rw_q rfl (ev_move (v := (i64 ((i : Int) + 1))) rfl) <| rN ?_
       exact ⟨⟨i + 1, oM, s0, s1, s2, s3, s4, s5, s10, s11, s30, rfl, (by rw [writeGo_succ]; exact hm35)⟩, meas rfl z32 oM oM⟩
     · -- false
       have hc33p := of_decide_eq_false hc33
       obtain rfl : i = 255 := by omega
       have hgl := writeGo_length (wholeL e) 255
       refine cw_exit ?_
       refine kThen_exit (kThen_exit (kBlk_hit ?_))
       refine sR <| rw_q (v := (agg u8 (writeGo (wholeL e) 255))) rfl (ev_loadA uT23 rfl ti23 s2 hm32.h1 sZ) <| rw_n (or_store_agg (f := u8) (l := writeGo (wholeL e) 255) u8_one ti23 s2 rfl sD hm32.h1 sZ rfl) ?_
       rintro _ w37 uq37
       have hm37 := hm32.upd1 uq37
       refine rN (cw_ret ?_)
       refine fnPost_ret [(agg u8 (writeGo (wholeL e) 255))] ⟨⟨_, s2, loadVar_run uT23 rfl ti23 hm37.h1 sZ⟩, trivial⟩ ?_
       exact ⟨by unfold bytesE; rfl, hm37.toExt⟩
 · -- false
   have hc27p := of_decide_eq_false hc27
   refine cw_skip (kThen_normal (cw_seq (cw_seq ?_)))
   have hwq : [e0, e1, e2, e3, e4] = wholeL e := by unfold wholeL; rw [hce]; exact (if_neg (of_decide_eq_false hc27)).symm
   have hmW38 := hm26
   rw [hwq] at hmW38
   have hwl := wholeL_length he
   refine cw_region <| rw_q rfl (ev_move (v := (i64 0)) rfl) <| rN ?_
   refine CW.abs (fun g => g 0 = (agg u64 e) ∧ g 1 = (ptr b1 0) ∧ g 2 = (ptr b2 0) ∧ g 3 = (ptr b3 0) ∧ g 4 = (u64 ((e4 + ((e3 + ((e2 + ((e1 + ((e0 + 19#64) >>> 51)) >>> 51)) >>> 51)) >>> 51)) >>> 51)) ∧ g 5 = (i64 4) ∧ g 10 = (i64 5) ∧ g 11 = (bl false) ∧ g 30 = (bl (decide ((0#64).toNat < ((e4 + ((e3 + ((e2 + ((e1 + ((e0 + 19#64) >>> 51)) >>> 51)) >>> 51)) >>> 51)) >>> 51).toNat))) ∧ g 32 = (i64 0) ∧ True) ⟨s0, s1, s2, s3, s4, s5, rfl, rfl, rfl, rfl, trivial⟩ ?_
   rintro fr39 ⟨s0, s1, s2, s3, s4, s5, s10, s11, s30, s32, _⟩
   refine cw_block ?_
   refine cw_loop (fun g wv => ∃ (i : Nat), (i ≤ 255) ∧ g 0 = (agg u64 e) ∧ g 1 = (ptr b1 0) ∧ g 2 = (ptr b2 0) ∧ g 3 = (ptr b3 0) ∧ g 4 = (u64 ((e4 + ((e3 + ((e2 + ((e1 + ((e0 + 19#64) >>> 51)) >>> 51)) >>> 51)) >>> 51)) >>> 51)) ∧ g 5 = (i64 4) ∧ g 10 = (i64 5) ∧ g 11 = (bl false) ∧ g 30 = (bl (decide ((0#64).toNat < ((e4 + ((e3 + ((e2 + ((e1 + ((e0 + 19#64) >>> 51)) >>> 51)) >>> 51)) >>> 51)) >>> 51).toNat))) ∧ g 32 = (i64 (i : Int)) ∧ Mem wv (restOf w0) [(b3, .cells (cl u64 ([(e0 + 19#64) &&& 2251799813685247#64, (e1 + ((e0 + 19#64) >>> 51)) &&& 2251799813685247#64, (e2 + ((e1 + ((e0 + 19#64) >>> 51)) >>> 51)) &&& 2251799813685247#64, (e3 + ((e2 + ((e1 + ((e0 + 19#64) >>> 51)) >>> 51)) >>> 51)) &&& 2251799813685247#64, (e4 + ((e3 + ((e2 + ((e1 + ((e0 + 19#64) >>> 51)) >>> 51)) >>> 51)) >>> 51)) &&& 2251799813685247#64])) 112 (0, 0)), (b2, .cells (cl u8 (writeGo (wholeL e) i)) 23 (0, 0)), (b1, .cells (cl u64 (wholeL e)) 112 (0, 0))]) (fun g wv => (255 - RowKit.intOf (g 32)).toNat) ?_ ?_
   · exact ⟨0, oM, s0, s1, s2, s3, s4, s5, s10, s11, s30, s32, (by rw [writeGo_zero]; exact hmW38)⟩
   · rintro fr40 w41 ⟨i, hi, s0, s1, s2, s3, s4, s5, s10, s11, s30, s32, hm41⟩
     have z32 := s32
     have hgl := writeGo_length (wholeL e) i
     refine sR <| rw_q rfl (ev_i64_lss (b := 255) s32 rfl) ?_
     refine rN (cw_seq ?_)
     refine cw_cond rfl (fun hc42 => ?_) (fun hc42 => ?_)
     · -- true
       have hc42p := of_decide_eq_true hc42
       refine cw_skip (kThen_normal (cw_seq (cw_block (sR ?_))))
       refine rM rfl s32 <| rw_q rfl (ev_assign (v := (i64 (i : Int))) rfl) <| rN <| cw_draw [(0, false), (1, false), (2, false), (3, false), (4, false), (5, false), (6, false), (7, false), (8, false), (9, false), (10, false), (11, false), (12, false), (13, false), (14, false), (15, false)] 16 (by kernel_rfl) <| dw_q rfl rfl (fun _ _hx => ev_move (v := (i64 (i : Int))) rfl) <| dw_q rfl rfl (fun _ _hx => EvQ.cast (congrArg i64 (show (i : Int) / 8 = ((i / 8 : Nat) : Int) by omega)) (ev_i64_quo (b := 8) rfl rfl oM oM oM)) ?_
       refine dw_q rfl rfl (fun _ _hx => ev_ia_arr (r := (i / 8)) oM uT23 ti5 s2 rfl oM sD) <| dw_q (v := (u8 ((writeGo (wholeL e) i).getD (i / 8) 0))) rfl rfl (fun _ _hx => ev_load1 uT5 rfl rfl (hm41.ext _hx).h1 (get_clD _ _ 0 sD)) <| dw_q rfl rfl (fun _ _hx => ev_move (v := (i64 (i : Int))) rfl) <| dw_q rfl rfl (fun _ _hx => EvQ.cast (congrArg i64 (show (i : Int) / 51 = ((i / 51 : Nat) : Int) by omega)) (ev_i64_quo (b := 51) rfl rfl oM oM oM)) <| dw_q rfl rfl (fun _ _hx => ev_ia_arr (r := (i / 51)) oM uT112 ti61 s1 rfl oM sD) <| dw_q (v := (u64 ((wholeL e).getD (i / 51) 0))) rfl rfl (fun _ _hx => ev_load1 uT61 rfl rfl (hm41.ext _hx).h2 (get_clD _ _ 0 sD)) ?_
       refine dw_q rfl rfl (fun _ _hx => ev_move (v := (i64 (i : Int))) rfl) <| dw_q rfl rfl (fun _ _hx => EvQ.cast (congrArg i64 (show (i : Int) % 51 = ((i % 51 : Nat) : Int) by omega)) (ev_i64_rem (b := 51) rfl rfl oM oM oM)) <| dw_q rfl rfl (fun _ _hx => ev_u64_shr rfl rfl oM) <| dw_q rfl rfl (fun _ _hx => ev_u64_and (b := 1#64) rfl rfl) <| dw_q rfl rfl (fun _ _hx => ev_conv_u64_u8 ⟨_, uT61⟩ uT5 rfl) <| dw_q rfl rfl (fun _ _hx => ev_move (v := (i64 (i : Int))) rfl) ?_
       refine dw_q rfl rfl (fun _ _hx => EvQ.cast (congrArg i64 (show (i : Int) % 8 = ((i % 8 : Nat) : Int) by omega)) (ev_i64_rem (b := 8) rfl rfl oM oM oM)) <| dw_q rfl rfl (fun _ _hx => ev_u8_shl rfl rfl oM) ?_
       refine dw_nil (fun w43 _ew43 => ?_)
       have hm43 := hm41.ext _ew43
       refine rw_q rfl (ev_u8_or rfl rfl) <| rw_q rfl (ev_ia_arr (r := (i / 8)) oM uT23 ti5 s2 rfl oM sD) <| rw_n (or_store_cl (f := u8) (a := ((writeGo (wholeL e) i).getD (i / 8) 0) ||| ((((((wholeL e).getD (i / 51) 0) >>> ((i % 51 : Nat) : Int).toNat) &&& 1#64).setWidth 8) <<< ((i % 8 : Nat) : Int).toNat)) u8_one ti5 rfl rfl hm43.h1 sD (.inl (Nat.zero_le _))) ?_
       rintro _ w44 uq44
       have hm44 := hm43.upd1 uq44
       refine rw_nil (kBlk_normal ?_)
       refine CW.abs (fun g => g 0 = (agg u64 e) ∧ g 1 = (ptr b1 0) ∧ g 2 = (ptr b2 0) ∧ g 3 = (ptr b3 0) ∧ g 4 = (u64 ((e4 + ((e3 + ((e2 + ((e1 + ((e0 + 19#64) >>> 51)) >>> 51)) >>> 51)) >>> 51)) >>> 51)) ∧ g 5 = (i64 4) ∧ g 6 = (i64 (i : Int)) ∧ g 10 = (i64 5) ∧ g 11 = (bl false) ∧ g 30 = (bl (decide ((0#64).toNat < ((e4 + ((e3 + ((e2 + ((e1 + ((e0 + 19#64) >>> 51)) >>> 51)) >>> 51)) >>> 51)) >>> 51).toNat))) ∧ g 32 = (i64 (i : Int)) ∧ g 33 = (bl (decide ((i : Int) < 255))) ∧ True) ⟨s0, s1, s2, s3, s4, s5, rfl, s10, s11, s30, s32, rfl, trivial⟩ ?_
       rintro fr45 ⟨s0, s1, s2, s3, s4, s5, s6, s10, s11, s30, s32, s33, _⟩
       refine cw_region <| rw_q rfl (ev_i64_add (b := 1) s32 rfl oM oM) <| rw_q rfl (ev_move (v := (i64 ((i : Int) + 1))) rfl) <| rN ?_
       exact ⟨⟨i + 1, oM, s0, s1, s2, s3, s4, s5, s10, s11, s30, rfl, (by rw [writeGo_succ]; exact hm44)⟩, meas rfl z32 oM oM⟩
     · -- false
       have hc42p := of_decide_eq_false hc42
       obtain rfl : i = 255 := by omega
       have hgl := writeGo_length (wholeL e) 255
       refine cw_exit ?_
       refine kThen_exit (kThen_exit (kBlk_hit ?_))
       refine sR <| rw_q (v := (agg u8 (writeGo (wholeL e) 255))) rfl (ev_loadA uT23 rfl ti23 s2 hm41.h1 sZ) <| rw_n (or_store_agg (f := u8) (l := writeGo (wholeL e) 255) u8_one ti23 s2 rfl sD hm41.h1 sZ rfl) ?_
       rintro _ w46 uq46
       have hm46 := hm41.upd1 uq46
       refine rN (cw_ret ?_)
       refine fnPost_ret [(agg u8 (writeGo (wholeL e) 255))] ⟨⟨_, s2, loadVar_run uT23 rfl ti23 hm46.h1 sZ⟩, trivial⟩ ?_
       exact ⟨by unfold bytesE; rfl, hm46.toExt⟩

set_option maxHeartbeats 1000000 in
theorem c_step5 (px pz qx qz x1 : List (BitVec 64)) (w0 : World)  (hpx : px.length = 5) (hpz : pz.length = 5) (hqx : qx.length = 5) (hqz : qz.length = 5) (hx1 : x1.length = 5) : CallsR Tryd.prog 73 #[(Value.agg (segs [px.map u64, pz.map u64])), (Value.agg (segs [qx.map u64, qz.map u64])), (agg u64 x1)] w0 (fun r w1 => r = (Value.tuple #[(Value.agg (segs [((stepL px pz qx qz x1).px).map u64, ((stepL px pz qx qz x1).pz).map u64])), (Value.agg (segs [((stepL px pz qx qz x1).qx).map u64, ((stepL px pz qx qz x1).qz).map u64]))]) ∧ Ext w0 w1) := by
 refine callsR_of_cw (args := [(Value.agg (segs [px.map u64, pz.map u64])), (Value.agg (segs [qx.map u64, qz.map u64])), (agg u64 x1)]) Tryd.func73 rfl Tryd.ntmps73 Tryd.results73 rfl ?_
 have hm0 : Mem w0 (restOf w0) [] := Mem.of_world w0
 have hl0 := sumL_length hpx hpz
 have hl1 := lessL_length hpx hpz
 have hl2 := sumL_length hqx hqz
 have hl3 := lessL_length hqx hqz
 have hl4 := lessL_length (timesL_length (sumL px pz) (sumL px pz)) (timesL_length (lessL px pz) (lessL px pz))
 have hl5 := sumL_length (timesL_length (lessL qx qz) (sumL px pz)) (timesL_length (sumL qx qz) (lessL px pz))
 have hl6 := lessL_length (timesL_length (lessL qx qz) (sumL px pz)) (timesL_length (sumL qx qz) (lessL px pz))
 have hl7 := sumL_length (timesL_length (sumL px pz) (sumL px pz)) (timesL_length [121665#64, 0#64, 0#64, 0#64, 0#64] (lessL (timesL (sumL px pz) (sumL px pz)) (timesL (lessL px pz) (lessL px pz))))
 refine sR <| rw_c rfl (or_boxX (cs := (segs [px.map u64, pz.map u64])) hm0 rfl) ?_
 rintro _ w1 ⟨b3, rfl, _ew1, hm1⟩
 refine rw_c rfl (or_boxX (cs := (segs [qx.map u64, qz.map u64])) hm1 rfl) ?_
 rintro _ w2 ⟨b4, rfl, _ew2, hm2⟩
 refine rw_c rfl (or_box_agg (f := u64) (l := x1) hm2 rfl) ?_
 rintro _ w3 ⟨b5, rfl, _ew3, hm3⟩
 refine rw_c rfl (or_allocX hm3 ti115) ?_
 rintro _ w4 ⟨b6, rfl, _ew4, hm4⟩
 refine rw_c rfl (or_allocX hm4 ti115) ?_
 rintro _ w5 ⟨b7, rfl, _ew5, hm5⟩
 refine rN (cw_seq ?_)
 refine cw_drawE (by kernel_rfl) ?_
 refine re_allocs [10, 11] [(0, false), (1, false), (2, false), (3, false), (4, false), (5, false), (6, false), (7, false), (8, false), (9, false)] 12 (luN [(10, 8), (11, 9)]) (luN [(10, 112), (11, 112)]) (luV [(10, (agg u64 (List.replicate 5 0))), (11, (agg u64 (List.replicate 5 0)))]) (fun g => g 0 = (Value.agg (segs [px.map u64, pz.map u64])) ∧ g 1 = (Value.agg (segs [qx.map u64, qz.map u64])) ∧ g 2 = (agg u64 x1) ∧ g 3 = (ptr b3 0) ∧ g 4 = (ptr b4 0) ∧ g 5 = (ptr b5 0) ∧ g 6 = (ptr b6 0) ∧ g 7 = (ptr b7 0) ∧ g 24 = (agg u64 (sumL px pz)) ∧ g 29 = (agg u64 (lessL px pz)) ∧ True) hm5 rfl (by decide) (by kernel_rfl) (by kernel_rfl) (ao_cons ⟨⟨_, _, _, rfl⟩, rfl, _, _, ti112⟩ (ao_cons ⟨⟨_, _, _, rfl⟩, rfl, _, _, ti112⟩ ao_nil)) (by decide) (fun sx6 hS6 => ?_) ?_
 · skip
   refine dw_q rfl rfl (fun _ _hx => ev_fa (r := 0) uT115 rfl (by first | rfl | omega) ti112 rfl rfl) <| dw_q (v := (agg u64 px)) rfl rfl (fun _ _hx => ev_load_seg1 (f := u64) [] [pz.map u64] px uT112 rfl ti112 rfl (hm5.ext _hx).h4 fl_nil (by first | rfl | omega | (simp; done) | (simp; omega))) <| dw_q rfl rfl (fun _ _hx => ev_fa (r := 5) uT115 rfl (by first | rfl | omega) ti112 rfl rfl) <| dw_q (v := (agg u64 pz)) rfl rfl (fun _ _hx => ev_load_seg1 (f := u64) [px.map u64] [] pz uT112 rfl ti112 rfl (hm5.ext _hx).h4 (fl_cons (n := 5) (m := 0) (k := 5) (by first | rfl | (rw [List.length_map]; first | omega | (simp; done) | (simp; omega))) fl_nil rfl) (by first | rfl | omega | (simp; done) | (simp; omega))) <| dw_x (v := (agg u64 (sumL px pz))) rfl rfl (fun w7 _ew7 => OpR.mono (opR_call Tryd.func85 bd85 nm85 (args2 rfl rfl) (c_sum5 px pz _ sD sD)) (by rintro _ w8 ⟨rfl, _ew8⟩; exact ⟨rfl, _ew8⟩)) <| dw_q rfl rfl (fun _ _hx => ev_fa (r := 0) uT115 rfl (by first | rfl | omega) ti112 rfl rfl) ?_
   refine dw_q (v := (agg u64 px)) rfl rfl (fun _ _hx => ev_load_seg1 (f := u64) [] [pz.map u64] px uT112 rfl ti112 rfl (hm5.ext _hx).h4 fl_nil (by first | rfl | omega | (simp; done) | (simp; omega))) <| dw_q rfl rfl (fun _ _hx => ev_fa (r := 5) uT115 rfl (by first | rfl | omega) ti112 rfl rfl) <| dw_q (v := (agg u64 pz)) rfl rfl (fun _ _hx => ev_load_seg1 (f := u64) [px.map u64] [] pz uT112 rfl ti112 rfl (hm5.ext _hx).h4 (fl_cons (n := 5) (m := 0) (k := 5) (by first | rfl | (rw [List.length_map]; first | omega | (simp; done) | (simp; omega))) fl_nil rfl) (by first | rfl | omega | (simp; done) | (simp; omega))) <| dw_x (v := (agg u64 (lessL px pz))) rfl rfl (fun w10 _ew10 => OpR.mono (opR_call Tryd.func86 bd86 nm86 (args2 rfl rfl) (c_less5 px pz _ sD sD)) (by rintro _ w11 ⟨rfl, _ew11⟩; exact ⟨rfl, _ew11⟩)) ?_
   exact hS6 _ ⟨rfl, rfl, rfl, rfl, rfl, rfl, rfl, rfl, rfl, rfl, trivial⟩
 rintro g13 ⟨s0, s1, s2, s3, s4, s5, s6, s7, s24, s29, _⟩ g14 w15 ps15 hgo15 hps15 hmm15
 replace s0 := (hgo15 0 (by decide)).trans s0
 replace s1 := (hgo15 1 (by decide)).trans s1
 replace s2 := (hgo15 2 (by decide)).trans s2
 replace s3 := (hgo15 3 (by decide)).trans s3
 replace s4 := (hgo15 4 (by decide)).trans s4
 replace s5 := (hgo15 5 (by decide)).trans s5
 replace s6 := (hgo15 6 (by decide)).trans s6
 replace s7 := (hgo15 7 (by decide)).trans s7
 replace s24 := (hgo15 24 (by decide)).trans s24
 replace s29 := (hgo15 29 (by decide)).trans s29
 have s8 : g14 8 = ptr (ps15 10) 0 := hps15 10 (by decide)
 have s9 : g14 9 = ptr (ps15 11) 0 := hps15 11 (by decide)
 have hm15 : Mem w15 (restOf w0) [((ps15 10), .cells (cl u64 (List.replicate 5 0)) 112 (0, 0)), ((ps15 11), .cells (cl u64 (List.replicate 5 0)) 112 (0, 0)), (b7, .cells #[(u64 0), (u64 0), (u64 0), (u64 0), (u64 0), (u64 0), (u64 0), (u64 0), (u64 0), (u64 0)] 115 (0, 0)), (b6, .cells #[(u64 0), (u64 0), (u64 0), (u64 0), (u64 0), (u64 0), (u64 0), (u64 0), (u64 0), (u64 0)] 115 (0, 0)), (b5, .cells (cl u64 x1) 112 (0, 0)), (b4, .cells (segs [qx.map u64, qz.map u64]) 115 (0, 0)), (b3, .cells (segs [px.map u64, pz.map u64]) 115 (0, 0))] := hmm15
 generalize ps15 10 = b8 at hm15 s8
 generalize ps15 11 = b9 at hm15 s9
 refine rw_n (or_store_agg (f := u64) (l := sumL px pz) u64_one ti112 s8 s24 sD hm15.h0 sZ rfl) ?_
 rintro _ w16 uq16
 have hm16 := hm15.upd0 uq16
 refine rw_n (or_store_agg (f := u64) (l := lessL px pz) u64_one ti112 s9 s29 sD hm16.h1 sZ rfl) ?_
 rintro _ w17 uq17
 have hm17 := hm16.upd1 uq17
 refine rN (cw_seq ?_)
 refine cw_drawE (by kernel_rfl) ?_
 refine re_allocs [10, 11] [(0, false), (1, false), (2, false), (3, false), (4, false), (5, false), (6, false), (7, false), (8, false), (9, false)] 12 (luN [(10, 10), (11, 11)]) (luN [(10, 112), (11, 112)]) (luV [(10, (agg u64 (List.replicate 5 0))), (11, (agg u64 (List.replicate 5 0)))]) (fun g => g 0 = (Value.agg (segs [px.map u64, pz.map u64])) ∧ g 1 = (Value.agg (segs [qx.map u64, qz.map u64])) ∧ g 2 = (agg u64 x1) ∧ g 3 = (ptr b3 0) ∧ g 4 = (ptr b4 0) ∧ g 5 = (ptr b5 0) ∧ g 6 = (ptr b6 0) ∧ g 7 = (ptr b7 0) ∧ g 8 = (ptr b8 0) ∧ g 9 = (ptr b9 0) ∧ g 34 = (agg u64 (sumL qx qz)) ∧ g 39 = (agg u64 (lessL qx qz)) ∧ True) hm17 rfl (by decide) (by kernel_rfl) (by kernel_rfl) (ao_cons ⟨⟨_, _, _, rfl⟩, rfl, _, _, ti112⟩ (ao_cons ⟨⟨_, _, _, rfl⟩, rfl, _, _, ti112⟩ ao_nil)) (by decide) (fun sx18 hS18 => ?_) ?_
 · skip
   refine dw_q rfl rfl (fun _ _hx => ev_fa (r := 0) uT115 rfl (by first | rfl | omega) ti112 rfl s4) <| dw_q (v := (agg u64 qx)) rfl rfl (fun _ _hx => ev_load_seg1 (f := u64) [] [qz.map u64] qx uT112 rfl ti112 rfl (hm17.ext _hx).h5 fl_nil (by first | rfl | omega | (simp; done) | (simp; omega))) <| dw_q rfl rfl (fun _ _hx => ev_fa (r := 5) uT115 rfl (by first | rfl | omega) ti112 rfl s4) <| dw_q (v := (agg u64 qz)) rfl rfl (fun _ _hx => ev_load_seg1 (f := u64) [qx.map u64] [] qz uT112 rfl ti112 rfl (hm17.ext _hx).h5 (fl_cons (n := 5) (m := 0) (k := 5) (by first | rfl | (rw [List.length_map]; first | omega | (simp; done) | (simp; omega))) fl_nil rfl) (by first | rfl | omega | (simp; done) | (simp; omega))) <| dw_x (v := (agg u64 (sumL qx qz))) rfl rfl (fun w19 _ew19 => OpR.mono (opR_call Tryd.func85 bd85 nm85 (args2 rfl rfl) (c_sum5 qx qz _ sD sD)) (by rintro _ w20 ⟨rfl, _ew20⟩; exact ⟨rfl, _ew20⟩)) <| dw_q rfl rfl (fun _ _hx => ev_fa (r := 0) uT115 rfl (by first | rfl | omega) ti112 rfl s4) ?_
   refine dw_q (v := (agg u64 qx)) rfl rfl (fun _ _hx => ev_load_seg1 (f := u64) [] [qz.map u64] qx uT112 rfl ti112 rfl (hm17.ext _hx).h5 fl_nil (by first | rfl | omega | (simp; done) | (simp; omega))) <| dw_q rfl rfl (fun _ _hx => ev_fa (r := 5) uT115 rfl (by first | rfl | omega) ti112 rfl s4) <| dw_q (v := (agg u64 qz)) rfl rfl (fun _ _hx => ev_load_seg1 (f := u64) [qx.map u64] [] qz uT112 rfl ti112 rfl (hm17.ext _hx).h5 (fl_cons (n := 5) (m := 0) (k := 5) (by first | rfl | (rw [List.length_map]; first | omega | (simp; done) | (simp; omega))) fl_nil rfl) (by first | rfl | omega | (simp; done) | (simp; omega))) <| dw_x (v := (agg u64 (lessL qx qz))) rfl rfl (fun w22 _ew22 => OpR.mono (opR_call Tryd.func86 bd86 nm86 (args2 rfl rfl) (c_less5 qx qz _ sD sD)) (by rintro _ w23 ⟨rfl, _ew23⟩; exact ⟨rfl, _ew23⟩)) ?_
   exact hS18 _ ⟨s0, s1, s2, s3, s4, s5, s6, s7, s8, s9, rfl, rfl, trivial⟩
 rintro g25 ⟨s0, s1, s2, s3, s4, s5, s6, s7, s8, s9, s34, s39, _⟩ g26 w27 ps27 hgo27 hps27 hmm27
 replace s0 := (hgo27 0 (by decide)).trans s0
 replace s1 := (hgo27 1 (by decide)).trans s1
 replace s2 := (hgo27 2 (by decide)).trans s2
 replace s3 := (hgo27 3 (by decide)).trans s3
 replace s4 := (hgo27 4 (by decide)).trans s4
 replace s5 := (hgo27 5 (by decide)).trans s5
 replace s6 := (hgo27 6 (by decide)).trans s6
 replace s7 := (hgo27 7 (by decide)).trans s7
 replace s8 := (hgo27 8 (by decide)).trans s8
 replace s9 := (hgo27 9 (by decide)).trans s9
 replace s34 := (hgo27 34 (by decide)).trans s34
 replace s39 := (hgo27 39 (by decide)).trans s39
 have s10 : g26 10 = ptr (ps27 10) 0 := hps27 10 (by decide)
 have s11 : g26 11 = ptr (ps27 11) 0 := hps27 11 (by decide)
 have hm27 : Mem w27 (restOf w0) [((ps27 10), .cells (cl u64 (List.replicate 5 0)) 112 (0, 0)), ((ps27 11), .cells (cl u64 (List.replicate 5 0)) 112 (0, 0)), (b8, .cells (cl u64 (sumL px pz)) 112 (0, 0)), (b9, .cells (cl u64 (lessL px pz)) 112 (0, 0)), (b7, .cells #[(u64 0), (u64 0), (u64 0), (u64 0), (u64 0), (u64 0), (u64 0), (u64 0), (u64 0), (u64 0)] 115 (0, 0)), (b6, .cells #[(u64 0), (u64 0), (u64 0), (u64 0), (u64 0), (u64 0), (u64 0), (u64 0), (u64 0), (u64 0)] 115 (0, 0)), (b5, .cells (cl u64 x1) 112 (0, 0)), (b4, .cells (segs [qx.map u64, qz.map u64]) 115 (0, 0)), (b3, .cells (segs [px.map u64, pz.map u64]) 115 (0, 0))] := hmm27
 generalize ps27 10 = b10 at hm27 s10
 generalize ps27 11 = b11 at hm27 s11
 refine rw_n (or_store_agg (f := u64) (l := sumL qx qz) u64_one ti112 s10 s34 sD hm27.h0 sZ rfl) ?_
 rintro _ w28 uq28
 have hm28 := hm27.upd0 uq28
 refine rw_n (or_store_agg (f := u64) (l := lessL qx qz) u64_one ti112 s11 s39 sD hm28.h1 sZ rfl) ?_
 rintro _ w29 uq29
 have hm29 := hm28.upd1 uq29
 refine rN (cw_seq ?_)
 refine cw_drawE (by kernel_rfl) ?_
 refine re_allocs [6, 7] [(0, false), (1, false), (2, false), (3, false), (4, false), (5, false)] 8 (luN [(6, 12), (7, 13)]) (luN [(6, 112), (7, 112)]) (luV [(6, (agg u64 (List.replicate 5 0))), (7, (agg u64 (List.replicate 5 0)))]) (fun g => g 0 = (Value.agg (segs [px.map u64, pz.map u64])) ∧ g 1 = (Value.agg (segs [qx.map u64, qz.map u64])) ∧ g 2 = (agg u64 x1) ∧ g 3 = (ptr b3 0) ∧ g 4 = (ptr b4 0) ∧ g 5 = (ptr b5 0) ∧ g 6 = (ptr b6 0) ∧ g 7 = (ptr b7 0) ∧ g 8 = (ptr b8 0) ∧ g 9 = (ptr b9 0) ∧ g 10 = (ptr b10 0) ∧ g 11 = (ptr b11 0) ∧ g 42 = (agg u64 (timesL (lessL qx qz) (sumL px pz))) ∧ g 45 = (agg u64 (timesL (sumL qx qz) (lessL px pz))) ∧ True) hm29 rfl (by decide) (by kernel_rfl) (by kernel_rfl) (ao_cons ⟨⟨_, _, _, rfl⟩, rfl, _, _, ti112⟩ (ao_cons ⟨⟨_, _, _, rfl⟩, rfl, _, _, ti112⟩ ao_nil)) (by decide) (fun sx30 hS30 => ?_) ?_
 · skip
   refine dw_q (v := (agg u64 (lessL qx qz))) rfl rfl (fun _ _hx => ev_loadA uT112 rfl ti112 s11 (hm29.ext _hx).h1 sZ) <| dw_q (v := (agg u64 (sumL px pz))) rfl rfl (fun _ _hx => ev_loadA uT112 rfl ti112 s8 (hm29.ext _hx).h2 sZ) <| dw_x (v := (agg u64 (timesL (lessL qx qz) (sumL px pz)))) rfl rfl (fun w31 _ew31 => OpR.mono (opR_call Tryd.func74 bd74 nm74 (args2 rfl rfl) (c_times5 (lessL qx qz) (sumL px pz) _ sD sD)) (by rintro _ w32 ⟨rfl, _ew32⟩; exact ⟨rfl, _ew32⟩)) <| dw_q (v := (agg u64 (sumL qx qz))) rfl rfl (fun _ _hx => ev_loadA uT112 rfl ti112 s10 (hm29.ext _hx).h0 sZ) <| dw_q (v := (agg u64 (lessL px pz))) rfl rfl (fun _ _hx => ev_loadA uT112 rfl ti112 s9 (hm29.ext _hx).h3 sZ) <| dw_x (v := (agg u64 (timesL (sumL qx qz) (lessL px pz)))) rfl rfl (fun w34 _ew34 => OpR.mono (opR_call Tryd.func74 bd74 nm74 (args2 rfl rfl) (c_times5 (sumL qx qz) (lessL px pz) _ sD sD)) (by rintro _ w35 ⟨rfl, _ew35⟩; exact ⟨rfl, _ew35⟩)) ?_
   exact hS30 _ ⟨s0, s1, s2, s3, s4, s5, s6, s7, s8, s9, s10, s11, rfl, rfl, trivial⟩
 rintro g37 ⟨s0, s1, s2, s3, s4, s5, s6, s7, s8, s9, s10, s11, s42, s45, _⟩ g38 w39 ps39 hgo39 hps39 hmm39
 replace s0 := (hgo39 0 (by decide)).trans s0
 replace s1 := (hgo39 1 (by decide)).trans s1
 replace s2 := (hgo39 2 (by decide)).trans s2
 replace s3 := (hgo39 3 (by decide)).trans s3
 replace s4 := (hgo39 4 (by decide)).trans s4
 replace s5 := (hgo39 5 (by decide)).trans s5
 replace s6 := (hgo39 6 (by decide)).trans s6
 replace s7 := (hgo39 7 (by decide)).trans s7
 replace s8 := (hgo39 8 (by decide)).trans s8
 replace s9 := (hgo39 9 (by decide)).trans s9
 replace s10 := (hgo39 10 (by decide)).trans s10
 replace s11 := (hgo39 11 (by decide)).trans s11
 replace s42 := (hgo39 42 (by decide)).trans s42
 replace s45 := (hgo39 45 (by decide)).trans s45
 have s12 : g38 12 = ptr (ps39 6) 0 := hps39 6 (by decide)
 have s13 : g38 13 = ptr (ps39 7) 0 := hps39 7 (by decide)
 have hm39 : Mem w39 (restOf w0) [((ps39 6), .cells (cl u64 (List.replicate 5 0)) 112 (0, 0)), ((ps39 7), .cells (cl u64 (List.replicate 5 0)) 112 (0, 0)), (b10, .cells (cl u64 (sumL qx qz)) 112 (0, 0)), (b11, .cells (cl u64 (lessL qx qz)) 112 (0, 0)), (b8, .cells (cl u64 (sumL px pz)) 112 (0, 0)), (b9, .cells (cl u64 (lessL px pz)) 112 (0, 0)), (b7, .cells #[(u64 0), (u64 0), (u64 0), (u64 0), (u64 0), (u64 0), (u64 0), (u64 0), (u64 0), (u64 0)] 115 (0, 0)), (b6, .cells #[(u64 0), (u64 0), (u64 0), (u64 0), (u64 0), (u64 0), (u64 0), (u64 0), (u64 0), (u64 0)] 115 (0, 0)), (b5, .cells (cl u64 x1) 112 (0, 0)), (b4, .cells (segs [qx.map u64, qz.map u64]) 115 (0, 0)), (b3, .cells (segs [px.map u64, pz.map u64]) 115 (0, 0))] := hmm39
 generalize ps39 6 = b12 at hm39 s12
 generalize ps39 7 = b13 at hm39 s13
 refine rw_n (or_store_agg (f := u64) (l := timesL (lessL qx qz) (sumL px pz)) u64_one ti112 s12 s42 sD hm39.h0 sZ rfl) ?_
 rintro _ w40 uq40
 have hm40 := hm39.upd0 uq40
 refine rw_n (or_store_agg (f := u64) (l := timesL (sumL qx qz) (lessL px pz)) u64_one ti112 s13 s45 sD hm40.h1 sZ rfl) ?_
 rintro _ w41 uq41
 have hm41 := hm40.upd1 uq41
 refine rN (cw_seq ?_)
 refine cw_drawE (by kernel_rfl) ?_
 refine re_allocs [6, 7] [(0, false), (1, false), (2, false), (3, false), (4, false), (5, false)] 8 (luN [(6, 14), (7, 15)]) (luN [(6, 112), (7, 112)]) (luV [(6, (agg u64 (List.replicate 5 0))), (7, (agg u64 (List.replicate 5 0)))]) (fun g => g 0 = (Value.agg (segs [px.map u64, pz.map u64])) ∧ g 1 = (Value.agg (segs [qx.map u64, qz.map u64])) ∧ g 2 = (agg u64 x1) ∧ g 3 = (ptr b3 0) ∧ g 4 = (ptr b4 0) ∧ g 5 = (ptr b5 0) ∧ g 6 = (ptr b6 0) ∧ g 7 = (ptr b7 0) ∧ g 8 = (ptr b8 0) ∧ g 9 = (ptr b9 0) ∧ g 10 = (ptr b10 0) ∧ g 11 = (ptr b11 0) ∧ g 12 = (ptr b12 0) ∧ g 13 = (ptr b13 0) ∧ g 48 = (agg u64 (timesL (sumL px pz) (sumL px pz))) ∧ g 51 = (agg u64 (timesL (lessL px pz) (lessL px pz))) ∧ True) hm41 rfl (by decide) (by kernel_rfl) (by kernel_rfl) (ao_cons ⟨⟨_, _, _, rfl⟩, rfl, _, _, ti112⟩ (ao_cons ⟨⟨_, _, _, rfl⟩, rfl, _, _, ti112⟩ ao_nil)) (by decide) (fun sx42 hS42 => ?_) ?_
 · skip
   refine dw_q (v := (agg u64 (sumL px pz))) rfl rfl (fun _ _hx => ev_loadA uT112 rfl ti112 s8 (hm41.ext _hx).h4 sZ) <| dw_q (v := (agg u64 (sumL px pz))) rfl rfl (fun _ _hx => ev_loadA uT112 rfl ti112 s8 (hm41.ext _hx).h4 sZ) <| dw_x (v := (agg u64 (timesL (sumL px pz) (sumL px pz)))) rfl rfl (fun w43 _ew43 => OpR.mono (opR_call Tryd.func74 bd74 nm74 (args2 rfl rfl) (c_times5 (sumL px pz) (sumL px pz) _ sD sD)) (by rintro _ w44 ⟨rfl, _ew44⟩; exact ⟨rfl, _ew44⟩)) <| dw_q (v := (agg u64 (lessL px pz))) rfl rfl (fun _ _hx => ev_loadA uT112 rfl ti112 s9 (hm41.ext _hx).h5 sZ) <| dw_q (v := (agg u64 (lessL px pz))) rfl rfl (fun _ _hx => ev_loadA uT112 rfl ti112 s9 (hm41.ext _hx).h5 sZ) <| dw_x (v := (agg u64 (timesL (lessL px pz) (lessL px pz)))) rfl rfl (fun w46 _ew46 => OpR.mono (opR_call Tryd.func74 bd74 nm74 (args2 rfl rfl) (c_times5 (lessL px pz) (lessL px pz) _ sD sD)) (by rintro _ w47 ⟨rfl, _ew47⟩; exact ⟨rfl, _ew47⟩)) ?_
   exact hS42 _ ⟨s0, s1, s2, s3, s4, s5, s6, s7, s8, s9, s10, s11, s12, s13, rfl, rfl, trivial⟩
 rintro g49 ⟨s0, s1, s2, s3, s4, s5, s6, s7, s8, s9, s10, s11, s12, s13, s48, s51, _⟩ g50 w51 ps51 hgo51 hps51 hmm51
 replace s0 := (hgo51 0 (by decide)).trans s0
 replace s1 := (hgo51 1 (by decide)).trans s1
 replace s2 := (hgo51 2 (by decide)).trans s2
 replace s3 := (hgo51 3 (by decide)).trans s3
 replace s4 := (hgo51 4 (by decide)).trans s4
 replace s5 := (hgo51 5 (by decide)).trans s5
 replace s6 := (hgo51 6 (by decide)).trans s6
 replace s7 := (hgo51 7 (by decide)).trans s7
 replace s8 := (hgo51 8 (by decide)).trans s8
 replace s9 := (hgo51 9 (by decide)).trans s9
 replace s10 := (hgo51 10 (by decide)).trans s10
 replace s11 := (hgo51 11 (by decide)).trans s11
 replace s12 := (hgo51 12 (by decide)).trans s12
 replace s13 := (hgo51 13 (by decide)).trans s13
 replace s48 := (hgo51 48 (by decide)).trans s48
 replace s51 := (hgo51 51 (by decide)).trans s51
 have s14 : g50 14 = ptr (ps51 6) 0 := hps51 6 (by decide)
 have s15 : g50 15 = ptr (ps51 7) 0 := hps51 7 (by decide)
 have hm51 : Mem w51 (restOf w0) [((ps51 6), .cells (cl u64 (List.replicate 5 0)) 112 (0, 0)), ((ps51 7), .cells (cl u64 (List.replicate 5 0)) 112 (0, 0)), (b12, .cells (cl u64 (timesL (lessL qx qz) (sumL px pz))) 112 (0, 0)), (b13, .cells (cl u64 (timesL (sumL qx qz) (lessL px pz))) 112 (0, 0)), (b10, .cells (cl u64 (sumL qx qz)) 112 (0, 0)), (b11, .cells (cl u64 (lessL qx qz)) 112 (0, 0)), (b8, .cells (cl u64 (sumL px pz)) 112 (0, 0)), (b9, .cells (cl u64 (lessL px pz)) 112 (0, 0)), (b7, .cells #[(u64 0), (u64 0), (u64 0), (u64 0), (u64 0), (u64 0), (u64 0), (u64 0), (u64 0), (u64 0)] 115 (0, 0)), (b6, .cells #[(u64 0), (u64 0), (u64 0), (u64 0), (u64 0), (u64 0), (u64 0), (u64 0), (u64 0), (u64 0)] 115 (0, 0)), (b5, .cells (cl u64 x1) 112 (0, 0)), (b4, .cells (segs [qx.map u64, qz.map u64]) 115 (0, 0)), (b3, .cells (segs [px.map u64, pz.map u64]) 115 (0, 0))] := hmm51
 generalize ps51 6 = b14 at hm51 s14
 generalize ps51 7 = b15 at hm51 s15
 refine rw_n (or_store_agg (f := u64) (l := timesL (sumL px pz) (sumL px pz)) u64_one ti112 s14 s48 sD hm51.h0 sZ rfl) ?_
 rintro _ w52 uq52
 have hm52 := hm51.upd0 uq52
 refine rw_n (or_store_agg (f := u64) (l := timesL (lessL px pz) (lessL px pz)) u64_one ti112 s15 s51 sD hm52.h1 sZ rfl) ?_
 rintro _ w53 uq53
 have hm53 := hm52.upd1 uq53
 refine rN (sR ?_)
 refine rw_q (v := (agg u64 (timesL (sumL px pz) (sumL px pz)))) rfl (ev_loadA uT112 rfl ti112 s14 hm53.h0 sZ) <| rw_q (v := (agg u64 (timesL (lessL px pz) (lessL px pz)))) rfl (ev_loadA uT112 rfl ti112 s15 hm53.h1 sZ) <| rw_c rfl (opR_call Tryd.func86 bd86 nm86 (args2 rfl rfl) (c_less5 (timesL (sumL px pz) (sumL px pz)) (timesL (lessL px pz) (lessL px pz)) _ sD sD)) ?_
 rintro _ w54 ⟨rfl, _ew54⟩
 have hm54 := hm53.ext _ew54
 refine rw_c rfl (or_alloc_agg hm54 ti112) ?_
 rintro _ w56 ⟨b16, rfl, _ew56, hm56⟩
 refine rw_n (or_store_agg (f := u64) (l := lessL (timesL (sumL px pz) (sumL px pz)) (timesL (lessL px pz) (lessL px pz))) u64_one ti112 rfl rfl sD hm56.h0 sZ rfl) ?_
 rintro _ w57 uq57
 have hm57 := hm56.upd0 uq57
 refine rN (cw_seq ?_)
 refine cw_drawE (by kernel_rfl) ?_
 refine re_allocs [6, 7] [(0, false), (1, false), (2, false), (3, false), (4, false), (5, false)] 8 (luN [(6, 17), (7, 18)]) (luN [(6, 112), (7, 112)]) (luV [(6, (agg u64 (List.replicate 5 0))), (7, (agg u64 (List.replicate 5 0)))]) (fun g => g 0 = (Value.agg (segs [px.map u64, pz.map u64])) ∧ g 1 = (Value.agg (segs [qx.map u64, qz.map u64])) ∧ g 2 = (agg u64 x1) ∧ g 3 = (ptr b3 0) ∧ g 4 = (ptr b4 0) ∧ g 5 = (ptr b5 0) ∧ g 6 = (ptr b6 0) ∧ g 7 = (ptr b7 0) ∧ g 8 = (ptr b8 0) ∧ g 9 = (ptr b9 0) ∧ g 10 = (ptr b10 0) ∧ g 11 = (ptr b11 0) ∧ g 12 = (ptr b12 0) ∧ g 13 = (ptr b13 0) ∧ g 14 = (ptr b14 0) ∧ g 15 = (ptr b15 0) ∧ g 16 = (ptr b16 0) ∧ g 57 = (agg u64 (sumL (timesL (lessL qx qz) (sumL px pz)) (timesL (sumL qx qz) (lessL px pz)))) ∧ g 60 = (agg u64 (lessL (timesL (lessL qx qz) (sumL px pz)) (timesL (sumL qx qz) (lessL px pz)))) ∧ True) hm57 rfl (by decide) (by kernel_rfl) (by kernel_rfl) (ao_cons ⟨⟨_, _, _, rfl⟩, rfl, _, _, ti112⟩ (ao_cons ⟨⟨_, _, _, rfl⟩, rfl, _, _, ti112⟩ ao_nil)) (by decide) (fun sx58 hS58 => ?_) ?_
 · skip
   refine dw_q (v := (agg u64 (timesL (lessL qx qz) (sumL px pz)))) rfl rfl (fun _ _hx => ev_loadA uT112 rfl ti112 s12 (hm57.ext _hx).h3 sZ) <| dw_q (v := (agg u64 (timesL (sumL qx qz) (lessL px pz)))) rfl rfl (fun _ _hx => ev_loadA uT112 rfl ti112 s13 (hm57.ext _hx).h4 sZ) <| dw_x (v := (agg u64 (sumL (timesL (lessL qx qz) (sumL px pz)) (timesL (sumL qx qz) (lessL px pz))))) rfl rfl (fun w59 _ew59 => OpR.mono (opR_call Tryd.func85 bd85 nm85 (args2 rfl rfl) (c_sum5 (timesL (lessL qx qz) (sumL px pz)) (timesL (sumL qx qz) (lessL px pz)) _ sD sD)) (by rintro _ w60 ⟨rfl, _ew60⟩; exact ⟨rfl, _ew60⟩)) <| dw_q (v := (agg u64 (timesL (lessL qx qz) (sumL px pz)))) rfl rfl (fun _ _hx => ev_loadA uT112 rfl ti112 s12 (hm57.ext _hx).h3 sZ) <| dw_q (v := (agg u64 (timesL (sumL qx qz) (lessL px pz)))) rfl rfl (fun _ _hx => ev_loadA uT112 rfl ti112 s13 (hm57.ext _hx).h4 sZ) <| dw_x (v := (agg u64 (lessL (timesL (lessL qx qz) (sumL px pz)) (timesL (sumL qx qz) (lessL px pz))))) rfl rfl (fun w62 _ew62 => OpR.mono (opR_call Tryd.func86 bd86 nm86 (args2 rfl rfl) (c_less5 (timesL (lessL qx qz) (sumL px pz)) (timesL (sumL qx qz) (lessL px pz)) _ sD sD)) (by rintro _ w63 ⟨rfl, _ew63⟩; exact ⟨rfl, _ew63⟩)) ?_
   exact hS58 _ ⟨s0, s1, s2, s3, s4, s5, s6, s7, s8, s9, s10, s11, s12, s13, s14, s15, rfl, rfl, rfl, trivial⟩
 rintro g65 ⟨s0, s1, s2, s3, s4, s5, s6, s7, s8, s9, s10, s11, s12, s13, s14, s15, s16, s57, s60, _⟩ g66 w67 ps67 hgo67 hps67 hmm67
 replace s0 := (hgo67 0 (by decide)).trans s0
 replace s1 := (hgo67 1 (by decide)).trans s1
 replace s2 := (hgo67 2 (by decide)).trans s2
 replace s3 := (hgo67 3 (by decide)).trans s3
 replace s4 := (hgo67 4 (by decide)).trans s4
 replace s5 := (hgo67 5 (by decide)).trans s5
 replace s6 := (hgo67 6 (by decide)).trans s6
 replace s7 := (hgo67 7 (by decide)).trans s7
 replace s8 := (hgo67 8 (by decide)).trans s8
 replace s9 := (hgo67 9 (by decide)).trans s9
 replace s10 := (hgo67 10 (by decide)).trans s10
 replace s11 := (hgo67 11 (by decide)).trans s11
 replace s12 := (hgo67 12 (by decide)).trans s12
 replace s13 := (hgo67 13 (by decide)).trans s13
 replace s14 := (hgo67 14 (by decide)).trans s14
 replace s15 := (hgo67 15 (by decide)).trans s15
 replace s16 := (hgo67 16 (by decide)).trans s16
 replace s57 := (hgo67 57 (by decide)).trans s57
 replace s60 := (hgo67 60 (by decide)).trans s60
 have s17 : g66 17 = ptr (ps67 6) 0 := hps67 6 (by decide)
 have s18 : g66 18 = ptr (ps67 7) 0 := hps67 7 (by decide)
 have hm67 : Mem w67 (restOf w0) [((ps67 6), .cells (cl u64 (List.replicate 5 0)) 112 (0, 0)), ((ps67 7), .cells (cl u64 (List.replicate 5 0)) 112 (0, 0)), (b16, .cells (cl u64 (lessL (timesL (sumL px pz) (sumL px pz)) (timesL (lessL px pz) (lessL px pz)))) 112 (0, 0)), (b14, .cells (cl u64 (timesL (sumL px pz) (sumL px pz))) 112 (0, 0)), (b15, .cells (cl u64 (timesL (lessL px pz) (lessL px pz))) 112 (0, 0)), (b12, .cells (cl u64 (timesL (lessL qx qz) (sumL px pz))) 112 (0, 0)), (b13, .cells (cl u64 (timesL (sumL qx qz) (lessL px pz))) 112 (0, 0)), (b10, .cells (cl u64 (sumL qx qz)) 112 (0, 0)), (b11, .cells (cl u64 (lessL qx qz)) 112 (0, 0)), (b8, .cells (cl u64 (sumL px pz)) 112 (0, 0)), (b9, .cells (cl u64 (lessL px pz)) 112 (0, 0)), (b7, .cells #[(u64 0), (u64 0), (u64 0), (u64 0), (u64 0), (u64 0), (u64 0), (u64 0), (u64 0), (u64 0)] 115 (0, 0)), (b6, .cells #[(u64 0), (u64 0), (u64 0), (u64 0), (u64 0), (u64 0), (u64 0), (u64 0), (u64 0), (u64 0)] 115 (0, 0)), (b5, .cells (cl u64 x1) 112 (0, 0)), (b4, .cells (segs [qx.map u64, qz.map u64]) 115 (0, 0)), (b3, .cells (segs [px.map u64, pz.map u64]) 115 (0, 0))] := hmm67
 generalize ps67 6 = b17 at hm67 s17
 generalize ps67 7 = b18 at hm67 s18
 refine rw_n (or_store_agg (f := u64) (l := sumL (timesL (lessL qx qz) (sumL px pz)) (timesL (sumL qx qz) (lessL px pz))) u64_one ti112 s17 s57 sD hm67.h0 sZ rfl) ?_
 rintro _ w68 uq68
 have hm68 := hm67.upd0 uq68
 refine rw_n (or_store_agg (f := u64) (l := lessL (timesL (lessL qx qz) (sumL px pz)) (timesL (sumL qx qz) (lessL px pz))) u64_one ti112 s18 s60 sD hm68.h1 sZ rfl) ?_
 rintro _ w69 uq69
 have hm69 := hm68.upd1 uq69
 refine rN (cw_seq ?_)
 refine cw_draw [(0, false), (1, false), (2, false), (3, false), (4, false), (5, false), (6, false), (7, false), (8, false), (9, false), (10, false), (11, true)] 12 (by kernel_rfl) <| dw_q (v := (agg u64 (timesL (sumL px pz) (sumL px pz)))) rfl rfl (fun _ _hx => ev_loadA uT112 rfl ti112 s14 (hm69.ext _hx).h3 sZ) <| dw_q (v := (agg u64 (timesL (lessL px pz) (lessL px pz)))) rfl rfl (fun _ _hx => ev_loadA uT112 rfl ti112 s15 (hm69.ext _hx).h4 sZ) <| dw_x (v := (agg u64 (timesL (timesL (sumL px pz) (sumL px pz)) (timesL (lessL px pz) (lessL px pz))))) rfl rfl (fun w70 _ew70 => OpR.mono (opR_call Tryd.func74 bd74 nm74 (args2 rfl rfl) (c_times5 (timesL (sumL px pz) (sumL px pz)) (timesL (lessL px pz) (lessL px pz)) _ sD sD)) (by rintro _ w71 ⟨rfl, _ew71⟩; exact ⟨rfl, _ew71⟩)) <| dw_q (v := (agg u64 (lessL (timesL (sumL px pz) (sumL px pz)) (timesL (lessL px pz) (lessL px pz))))) rfl rfl (fun _ _hx => ev_loadA uT112 rfl ti112 s16 (hm69.ext _hx).h2 sZ) <| dw_q (v := (agg u64 (timesL (sumL px pz) (sumL px pz)))) rfl rfl (fun _ _hx => ev_loadA uT112 rfl ti112 s14 (hm69.ext _hx).h3 sZ) ?_
 refine dw_q rfl rfl (fun _ _hx => ev_build_pa (c := (cl u64 ([121665#64, 0#64, 0#64, 0#64, 0#64]))) ti112 uT112 ti61 (pm_cons (i := 0) (v := (u64 121665#64)) (cs := #[(u64 121665#64)]) rfl rfl pm_nil) (by kernel_rfl)) <| dw_q (v := (agg u64 (lessL (timesL (sumL px pz) (sumL px pz)) (timesL (lessL px pz) (lessL px pz))))) rfl rfl (fun _ _hx => ev_loadA uT112 rfl ti112 s16 (hm69.ext _hx).h2 sZ) <| dw_x (v := (agg u64 (timesL ([121665#64, 0#64, 0#64, 0#64, 0#64]) (lessL (timesL (sumL px pz) (sumL px pz)) (timesL (lessL px pz) (lessL px pz)))))) rfl rfl (fun w73 _ew73 => OpR.mono (opR_call Tryd.func74 bd74 nm74 (args2 rfl rfl) (c_times5 ([121665#64, 0#64, 0#64, 0#64, 0#64]) (lessL (timesL (sumL px pz) (sumL px pz)) (timesL (lessL px pz) (lessL px pz))) _ sD sD)) (by rintro _ w74 ⟨rfl, _ew74⟩; exact ⟨rfl, _ew74⟩)) <| dw_x (v := (agg u64 (sumL (timesL (sumL px pz) (sumL px pz)) (timesL ([121665#64, 0#64, 0#64, 0#64, 0#64]) (lessL (timesL (sumL px pz) (sumL px pz)) (timesL (lessL px pz) (lessL px pz))))))) rfl rfl (fun w76 _ew76 => OpR.mono (opR_call Tryd.func85 bd85 nm85 (args2 rfl rfl) (c_sum5 (timesL (sumL px pz) (sumL px pz)) (timesL ([121665#64, 0#64, 0#64, 0#64, 0#64]) (lessL (timesL (sumL px pz) (sumL px pz)) (timesL (lessL px pz) (lessL px pz)))) _ sD sD)) (by rintro _ w77 ⟨rfl, _ew77⟩; exact ⟨rfl, _ew77⟩)) <| dw_x (v := (agg u64 (timesL (lessL (timesL (sumL px pz) (sumL px pz)) (timesL (lessL px pz) (lessL px pz))) (sumL (timesL (sumL px pz) (sumL px pz)) (timesL ([121665#64, 0#64, 0#64, 0#64, 0#64]) (lessL (timesL (sumL px pz) (sumL px pz)) (timesL (lessL px pz) (lessL px pz)))))))) rfl rfl (fun w79 _ew79 => OpR.mono (opR_call Tryd.func74 bd74 nm74 (args2 rfl rfl) (c_times5 (lessL (timesL (sumL px pz) (sumL px pz)) (timesL (lessL px pz) (lessL px pz))) (sumL (timesL (sumL px pz) (sumL px pz)) (timesL ([121665#64, 0#64, 0#64, 0#64, 0#64]) (lessL (timesL (sumL px pz) (sumL px pz)) (timesL (lessL px pz) (lessL px pz))))) _ sD sD)) (by rintro _ w80 ⟨rfl, _ew80⟩; exact ⟨rfl, _ew80⟩)) <| dw_q rfl rfl (fun _ _hx => ev_build_pt (c := (segs [(timesL (timesL (sumL px pz) (sumL px pz)) (timesL (lessL px pz) (lessL px pz))).map u64, (timesL (lessL (timesL (sumL px pz) (sumL px pz)) (timesL (lessL px pz) (lessL px pz))) (sumL (timesL (sumL px pz) (sumL px pz)) (timesL ([121665#64, 0#64, 0#64, 0#64, 0#64]) (lessL (timesL (sumL px pz) (sumL px pz)) (timesL (lessL px pz) (lessL px pz)))))).map u64])) (pl := [(0, 5), (5, 5)]) ti115 uT115 (by kernel_rfl) (pm_cons (i := 0) (v := (agg u64 (timesL (timesL (sumL px pz) (sumL px pz)) (timesL (lessL px pz) (lessL px pz))))) (cs := (cl u64 (timesL (timesL (sumL px pz) (sumL px pz)) (timesL (lessL px pz) (lessL px pz))))) rfl rfl (pm_cons (i := 1) (v := (agg u64 (timesL (lessL (timesL (sumL px pz) (sumL px pz)) (timesL (lessL px pz) (lessL px pz))) (sumL (timesL (sumL px pz) (sumL px pz)) (timesL ([121665#64, 0#64, 0#64, 0#64, 0#64]) (lessL (timesL (sumL px pz) (sumL px pz)) (timesL (lessL px pz) (lessL px pz)))))))) (cs := (cl u64 (timesL (lessL (timesL (sumL px pz) (sumL px pz)) (timesL (lessL px pz) (lessL px pz))) (sumL (timesL (sumL px pz) (sumL px pz)) (timesL ([121665#64, 0#64, 0#64, 0#64, 0#64]) (lessL (timesL (sumL px pz) (sumL px pz)) (timesL (lessL px pz) (lessL px pz)))))))) rfl rfl pm_nil)) (fillA_segs [] [(List.replicate 5 0).map u64] [(timesL (timesL (sumL px pz) (sumL px pz)) (timesL (lessL px pz) (lessL px pz))).map u64] [(List.replicate 5 0).map u64] rfl (segs_one1 u64 _).symm fl_nil (fl_cons (n := 5) (m := 0) (k := 5) (by first | rfl | (rw [List.length_map]; first | omega | (simp; done) | (simp; omega))) fl_nil rfl) (fl_cons (n := 5) (m := 0) (k := 5) (by first | rfl | (rw [List.length_map]; first | omega | (simp; done) | (simp; omega))) fl_nil rfl) (fillA_segs [(timesL (timesL (sumL px pz) (sumL px pz)) (timesL (lessL px pz) (lessL px pz))).map u64] [(List.replicate 5 0).map u64] [(timesL (lessL (timesL (sumL px pz) (sumL px pz)) (timesL (lessL px pz) (lessL px pz))) (sumL (timesL (sumL px pz) (sumL px pz)) (timesL ([121665#64, 0#64, 0#64, 0#64, 0#64]) (lessL (timesL (sumL px pz) (sumL px pz)) (timesL (lessL px pz) (lessL px pz)))))).map u64] [] rfl (segs_one1 u64 _).symm (fl_cons (n := 5) (m := 0) (k := 5) (by first | rfl | (rw [List.length_map]; first | omega | (simp; done) | (simp; omega))) fl_nil rfl) (fl_cons (n := 5) (m := 0) (k := 5) (by first | rfl | (rw [List.length_map]; first | omega | (simp; done) | (simp; omega))) fl_nil rfl) (fl_cons (n := 5) (m := 0) (k := 5) (by first | rfl | (rw [List.length_map]; first | omega | (simp; done) | (simp; omega))) fl_nil rfl) fillA_nil))) ?_
 refine dw_c rfl rfl (fun w82 _ew82 => ?_)
 have hm82 := hm69.ext _ew82
 refine OpR.mono (or_allocX hm82 ti115) ?_
 rintro _ w83 ⟨b19, rfl, _ew83, hm83⟩
 refine ⟨_ew83, ?_⟩
 refine dw_nil (fun w84 _ew84 => ?_)
 have hm84 := hm83.ext _ew84
 refine rw_n (or_storeW_segs [(timesL (timesL (sumL px pz) (sumL px pz)) (timesL (lessL px pz) (lessL px pz))).map u64, (timesL (lessL (timesL (sumL px pz) (sumL px pz)) (timesL (lessL px pz) (lessL px pz))) (sumL (timesL (sumL px pz) (sumL px pz)) (timesL ([121665#64, 0#64, 0#64, 0#64, 0#64]) (lessL (timesL (sumL px pz) (sumL px pz)) (timesL (lessL px pz) (lessL px pz)))))).map u64] ti115 rfl rfl (fl_cons (n := 5) (m := 5) (k := 10) (by first | rfl | (rw [List.length_map]; first | omega | (simp; done) | (simp; omega))) (fl_cons (n := 5) (m := 0) (k := 5) (by first | rfl | (rw [List.length_map]; first | omega | (simp; done) | (simp; omega))) fl_nil rfl) rfl) (so_cons (encA_one u64_one _) (so_cons (encA_one u64_one _) so_nil)) hm84.h0 rfl rfl) ?_
 rintro _ w85 uq85
 have hm85 : Mem w85 (restOf w0) [(b19, .cells (segs [(timesL (timesL (sumL px pz) (sumL px pz)) (timesL (lessL px pz) (lessL px pz))).map u64, (timesL (lessL (timesL (sumL px pz) (sumL px pz)) (timesL (lessL px pz) (lessL px pz))) (sumL (timesL (sumL px pz) (sumL px pz)) (timesL ([121665#64, 0#64, 0#64, 0#64, 0#64]) (lessL (timesL (sumL px pz) (sumL px pz)) (timesL (lessL px pz) (lessL px pz)))))).map u64]) 115 (0, 0)), (b17, .cells (cl u64 (sumL (timesL (lessL qx qz) (sumL px pz)) (timesL (sumL qx qz) (lessL px pz)))) 112 (0, 0)), (b18, .cells (cl u64 (lessL (timesL (lessL qx qz) (sumL px pz)) (timesL (sumL qx qz) (lessL px pz)))) 112 (0, 0)), (b16, .cells (cl u64 (lessL (timesL (sumL px pz) (sumL px pz)) (timesL (lessL px pz) (lessL px pz)))) 112 (0, 0)), (b14, .cells (cl u64 (timesL (sumL px pz) (sumL px pz))) 112 (0, 0)), (b15, .cells (cl u64 (timesL (lessL px pz) (lessL px pz))) 112 (0, 0)), (b12, .cells (cl u64 (timesL (lessL qx qz) (sumL px pz))) 112 (0, 0)), (b13, .cells (cl u64 (timesL (sumL qx qz) (lessL px pz))) 112 (0, 0)), (b10, .cells (cl u64 (sumL qx qz)) 112 (0, 0)), (b11, .cells (cl u64 (lessL qx qz)) 112 (0, 0)), (b8, .cells (cl u64 (sumL px pz)) 112 (0, 0)), (b9, .cells (cl u64 (lessL px pz)) 112 (0, 0)), (b7, .cells #[(u64 0), (u64 0), (u64 0), (u64 0), (u64 0), (u64 0), (u64 0), (u64 0), (u64 0), (u64 0)] 115 (0, 0)), (b6, .cells #[(u64 0), (u64 0), (u64 0), (u64 0), (u64 0), (u64 0), (u64 0), (u64 0), (u64 0), (u64 0)] 115 (0, 0)), (b5, .cells (cl u64 x1) 112 (0, 0)), (b4, .cells (segs [qx.map u64, qz.map u64]) 115 (0, 0)), (b3, .cells (segs [px.map u64, pz.map u64]) 115 (0, 0))] := hm84.upd0 uq85
 refine rN ?_
 refine CW.abs (fun g => g 0 = (Value.agg (segs [px.map u64, pz.map u64])) ∧ g 1 = (Value.agg (segs [qx.map u64, qz.map u64])) ∧ g 2 = (agg u64 x1) ∧ g 3 = (ptr b3 0) ∧ g 4 = (ptr b4 0) ∧ g 5 = (ptr b5 0) ∧ g 6 = (ptr b6 0) ∧ g 7 = (ptr b7 0) ∧ g 8 = (ptr b8 0) ∧ g 9 = (ptr b9 0) ∧ g 10 = (ptr b10 0) ∧ g 11 = (ptr b11 0) ∧ g 12 = (ptr b12 0) ∧ g 13 = (ptr b13 0) ∧ g 14 = (ptr b14 0) ∧ g 15 = (ptr b15 0) ∧ g 16 = (ptr b16 0) ∧ g 17 = (ptr b17 0) ∧ g 18 = (ptr b18 0) ∧ g 19 = (ptr b19 0) ∧ True) ⟨s0, s1, s2, s3, s4, s5, s6, s7, s8, s9, s10, s11, s12, s13, s14, s15, s16, s17, s18, rfl, trivial⟩ ?_
 rintro fr86 ⟨s0, s1, s2, s3, s4, s5, s6, s7, s8, s9, s10, s11, s12, s13, s14, s15, s16, s17, s18, s19, _⟩
 refine cw_seq <| cw_drawE (by kernel_rfl) ?_
 have hm87 := (Mem.pick [_, _, _, _, _, _, _, _, _, _, _, _, _, _, _, _] [_] _ hm85)
 have hm88 := (Mem.pick [_, _, _, _, _, _, _, _, _, _, _, _, _, _, _, _] [_] _ hm87)
 have hm89 := (Mem.pick [_, _, _, _, _, _, _, _, _, _, _, _, _, _, _, _] [_] _ hm88)
 have hm90 := (Mem.pick [_, _, _, _, _, _, _, _, _, _, _, _, _, _, _] [_] _ hm89)
 have hm91 := (Mem.pick [_, _, _, _, _, _, _, _, _, _, _, _, _, _, _] [_] _ hm90)
 have hm92 := (Mem.pick [_, _, _, _, _, _, _, _, _, _, _, _, _, _, _] [_] _ hm91)
 have hm93 := (Mem.pick [_, _, _, _, _, _, _, _, _, _, _, _, _, _, _] [_] _ hm92)
 have hm94 := (Mem.pick [_, _, _, _, _, _, _, _, _, _, _, _, _, _, _] [_] _ hm93)
 have hm95 := (Mem.pick [_, _, _, _, _, _, _, _, _, _, _, _, _, _, _] [_] _ hm94)
 have hm96 := (Mem.pick [_, _, _, _, _, _, _, _, _, _, _, _, _, _, _] [_] _ hm95)
 have hm97 := (Mem.pick [_, _, _, _, _, _, _, _, _, _, _, _, _, _, _] [_] _ hm96)
 have hm98 := (Mem.pick [_, _, _, _, _, _, _, _, _, _, _, _, _, _, _] [_] _ hm97)
 have hm99 := (Mem.pick [_, _, _, _, _, _, _, _, _, _, _, _, _, _, _] [_] _ hm98)
 have hm100 := (Mem.pick [_, _, _, _, _, _, _, _, _, _, _, _, _, _, _] [_] _ hm99)
 have hm101 := (Mem.pick [_, _, _, _, _, _, _, _, _, _, _, _, _, _, _] [_] _ hm100)
 have hm102 := (Mem.pick [_, _, _, _, _, _, _, _, _, _, _, _, _, _, _] [_] _ hm101)
 have hm103 := (Mem.pick [_, _, _, _, _, _, _, _, _, _, _, _, _, _, _, _] [_] _ hm102)
 have hFM104 : Mem w85 (restOf w0) ([(b6, .cells #[(u64 0), (u64 0), (u64 0), (u64 0), (u64 0), (u64 0), (u64 0), (u64 0), (u64 0), (u64 0)] 115 (0, 0))] ++ [(b19, .cells (segs [(timesL (timesL (sumL px pz) (sumL px pz)) (timesL (lessL px pz) (lessL px pz))).map u64, (timesL (lessL (timesL (sumL px pz) (sumL px pz)) (timesL (lessL px pz) (lessL px pz))) (sumL (timesL (sumL px pz) (sumL px pz)) (timesL ([121665#64, 0#64, 0#64, 0#64, 0#64]) (lessL (timesL (sumL px pz) (sumL px pz)) (timesL (lessL px pz) (lessL px pz)))))).map u64]) 115 (0, 0)), (b17, .cells (cl u64 (sumL (timesL (lessL qx qz) (sumL px pz)) (timesL (sumL qx qz) (lessL px pz)))) 112 (0, 0)), (b18, .cells (cl u64 (lessL (timesL (lessL qx qz) (sumL px pz)) (timesL (sumL qx qz) (lessL px pz)))) 112 (0, 0)), (b16, .cells (cl u64 (lessL (timesL (sumL px pz) (sumL px pz)) (timesL (lessL px pz) (lessL px pz)))) 112 (0, 0)), (b14, .cells (cl u64 (timesL (sumL px pz) (sumL px pz))) 112 (0, 0)), (b15, .cells (cl u64 (timesL (lessL px pz) (lessL px pz))) 112 (0, 0)), (b12, .cells (cl u64 (timesL (lessL qx qz) (sumL px pz))) 112 (0, 0)), (b13, .cells (cl u64 (timesL (sumL qx qz) (lessL px pz))) 112 (0, 0)), (b10, .cells (cl u64 (sumL qx qz)) 112 (0, 0)), (b11, .cells (cl u64 (lessL qx qz)) 112 (0, 0)), (b8, .cells (cl u64 (sumL px pz)) 112 (0, 0)), (b9, .cells (cl u64 (lessL px pz)) 112 (0, 0)), (b7, .cells #[(u64 0), (u64 0), (u64 0), (u64 0), (u64 0), (u64 0), (u64 0), (u64 0), (u64 0), (u64 0)] 115 (0, 0)), (b5, .cells (cl u64 x1) 112 (0, 0)), (b4, .cells (segs [qx.map u64, qz.map u64]) 115 (0, 0)), (b3, .cells (segs [px.map u64, pz.map u64]) 115 (0, 0))]) := hm103
 obtain ⟨RM104, hRM104⟩ : ∃ R2, R2 = Rest.add (restOf w0) [(b19, .cells (segs [(timesL (timesL (sumL px pz) (sumL px pz)) (timesL (lessL px pz) (lessL px pz))).map u64, (timesL (lessL (timesL (sumL px pz) (sumL px pz)) (timesL (lessL px pz) (lessL px pz))) (sumL (timesL (sumL px pz) (sumL px pz)) (timesL ([121665#64, 0#64, 0#64, 0#64, 0#64]) (lessL (timesL (sumL px pz) (sumL px pz)) (timesL (lessL px pz) (lessL px pz)))))).map u64]) 115 (0, 0)), (b17, .cells (cl u64 (sumL (timesL (lessL qx qz) (sumL px pz)) (timesL (sumL qx qz) (lessL px pz)))) 112 (0, 0)), (b18, .cells (cl u64 (lessL (timesL (lessL qx qz) (sumL px pz)) (timesL (sumL qx qz) (lessL px pz)))) 112 (0, 0)), (b16, .cells (cl u64 (lessL (timesL (sumL px pz) (sumL px pz)) (timesL (lessL px pz) (lessL px pz)))) 112 (0, 0)), (b14, .cells (cl u64 (timesL (sumL px pz) (sumL px pz))) 112 (0, 0)), (b15, .cells (cl u64 (timesL (lessL px pz) (lessL px pz))) 112 (0, 0)), (b12, .cells (cl u64 (timesL (lessL qx qz) (sumL px pz))) 112 (0, 0)), (b13, .cells (cl u64 (timesL (sumL qx qz) (lessL px pz))) 112 (0, 0)), (b10, .cells (cl u64 (sumL qx qz)) 112 (0, 0)), (b11, .cells (cl u64 (lessL qx qz)) 112 (0, 0)), (b8, .cells (cl u64 (sumL px pz)) 112 (0, 0)), (b9, .cells (cl u64 (lessL px pz)) 112 (0, 0)), (b7, .cells #[(u64 0), (u64 0), (u64 0), (u64 0), (u64 0), (u64 0), (u64 0), (u64 0), (u64 0), (u64 0)] 115 (0, 0)), (b5, .cells (cl u64 x1) 112 (0, 0)), (b4, .cells (segs [qx.map u64, qz.map u64]) 115 (0, 0)), (b3, .cells (segs [px.map u64, pz.map u64]) 115 (0, 0))] := ⟨_, rfl⟩
 have M1040 : Mem w85 RM104 [(b6, .cells #[(u64 0), (u64 0), (u64 0), (u64 0), (u64 0), (u64 0), (u64 0), (u64 0), (u64 0), (u64 0)] 115 (0, 0))] := by rw [hRM104]; exact Mem.give hFM104
 have ho105 : RM104.blk b19 = some (.cells (segs [(timesL (timesL (sumL px pz) (sumL px pz)) (timesL (lessL px pz) (lessL px pz))).map u64, (timesL (lessL (timesL (sumL px pz) (sumL px pz)) (timesL (lessL px pz) (lessL px pz))) (sumL (timesL (sumL px pz) (sumL px pz)) (timesL ([121665#64, 0#64, 0#64, 0#64, 0#64]) (lessL (timesL (sumL px pz) (sumL px pz)) (timesL (lessL px pz) (lessL px pz)))))).map u64]) 115 (0, 0)) := by rw [hRM104]; exact Mem.addOwn hFM104 (List.Mem.head _)
 have ho106 : RM104.blk b17 = some (.cells (cl u64 (sumL (timesL (lessL qx qz) (sumL px pz)) (timesL (sumL qx qz) (lessL px pz)))) 112 (0, 0)) := by rw [hRM104]; exact Mem.addOwn hFM104 (List.Mem.tail _ (List.Mem.head _))
 have ho107 : RM104.blk b18 = some (.cells (cl u64 (lessL (timesL (lessL qx qz) (sumL px pz)) (timesL (sumL qx qz) (lessL px pz)))) 112 (0, 0)) := by rw [hRM104]; exact Mem.addOwn hFM104 (List.Mem.tail _ (List.Mem.tail _ (List.Mem.head _)))
 have ho108 : RM104.blk b16 = some (.cells (cl u64 (lessL (timesL (sumL px pz) (sumL px pz)) (timesL (lessL px pz) (lessL px pz)))) 112 (0, 0)) := by rw [hRM104]; exact Mem.addOwn hFM104 (List.Mem.tail _ (List.Mem.tail _ (List.Mem.tail _ (List.Mem.head _))))
 have ho109 : RM104.blk b14 = some (.cells (cl u64 (timesL (sumL px pz) (sumL px pz))) 112 (0, 0)) := by rw [hRM104]; exact Mem.addOwn hFM104 (List.Mem.tail _ (List.Mem.tail _ (List.Mem.tail _ (List.Mem.tail _ (List.Mem.head _)))))
 have ho110 : RM104.blk b15 = some (.cells (cl u64 (timesL (lessL px pz) (lessL px pz))) 112 (0, 0)) := by rw [hRM104]; exact Mem.addOwn hFM104 (List.Mem.tail _ (List.Mem.tail _ (List.Mem.tail _ (List.Mem.tail _ (List.Mem.tail _ (List.Mem.head _))))))
 have ho111 : RM104.blk b12 = some (.cells (cl u64 (timesL (lessL qx qz) (sumL px pz))) 112 (0, 0)) := by rw [hRM104]; exact Mem.addOwn hFM104 (List.Mem.tail _ (List.Mem.tail _ (List.Mem.tail _ (List.Mem.tail _ (List.Mem.tail _ (List.Mem.tail _ (List.Mem.head _)))))))
 have ho112 : RM104.blk b13 = some (.cells (cl u64 (timesL (sumL qx qz) (lessL px pz))) 112 (0, 0)) := by rw [hRM104]; exact Mem.addOwn hFM104 (List.Mem.tail _ (List.Mem.tail _ (List.Mem.tail _ (List.Mem.tail _ (List.Mem.tail _ (List.Mem.tail _ (List.Mem.tail _ (List.Mem.head _))))))))
 have ho113 : RM104.blk b10 = some (.cells (cl u64 (sumL qx qz)) 112 (0, 0)) := by rw [hRM104]; exact Mem.addOwn hFM104 (List.Mem.tail _ (List.Mem.tail _ (List.Mem.tail _ (List.Mem.tail _ (List.Mem.tail _ (List.Mem.tail _ (List.Mem.tail _ (List.Mem.tail _ (List.Mem.head _)))))))))
 have ho114 : RM104.blk b11 = some (.cells (cl u64 (lessL qx qz)) 112 (0, 0)) := by rw [hRM104]; exact Mem.addOwn hFM104 (List.Mem.tail _ (List.Mem.tail _ (List.Mem.tail _ (List.Mem.tail _ (List.Mem.tail _ (List.Mem.tail _ (List.Mem.tail _ (List.Mem.tail _ (List.Mem.tail _ (List.Mem.head _))))))))))
 have ho115 : RM104.blk b8 = some (.cells (cl u64 (sumL px pz)) 112 (0, 0)) := by rw [hRM104]; exact Mem.addOwn hFM104 (List.Mem.tail _ (List.Mem.tail _ (List.Mem.tail _ (List.Mem.tail _ (List.Mem.tail _ (List.Mem.tail _ (List.Mem.tail _ (List.Mem.tail _ (List.Mem.tail _ (List.Mem.tail _ (List.Mem.head _)))))))))))
 have ho116 : RM104.blk b9 = some (.cells (cl u64 (lessL px pz)) 112 (0, 0)) := by rw [hRM104]; exact Mem.addOwn hFM104 (List.Mem.tail _ (List.Mem.tail _ (List.Mem.tail _ (List.Mem.tail _ (List.Mem.tail _ (List.Mem.tail _ (List.Mem.tail _ (List.Mem.tail _ (List.Mem.tail _ (List.Mem.tail _ (List.Mem.tail _ (List.Mem.head _))))))))))))
 have ho117 : RM104.blk b7 = some (.cells #[(u64 0), (u64 0), (u64 0), (u64 0), (u64 0), (u64 0), (u64 0), (u64 0), (u64 0), (u64 0)] 115 (0, 0)) := by rw [hRM104]; exact Mem.addOwn hFM104 (List.Mem.tail _ (List.Mem.tail _ (List.Mem.tail _ (List.Mem.tail _ (List.Mem.tail _ (List.Mem.tail _ (List.Mem.tail _ (List.Mem.tail _ (List.Mem.tail _ (List.Mem.tail _ (List.Mem.tail _ (List.Mem.tail _ (List.Mem.head _)))))))))))))
 have ho118 : RM104.blk b5 = some (.cells (cl u64 x1) 112 (0, 0)) := by rw [hRM104]; exact Mem.addOwn hFM104 (List.Mem.tail _ (List.Mem.tail _ (List.Mem.tail _ (List.Mem.tail _ (List.Mem.tail _ (List.Mem.tail _ (List.Mem.tail _ (List.Mem.tail _ (List.Mem.tail _ (List.Mem.tail _ (List.Mem.tail _ (List.Mem.tail _ (List.Mem.tail _ (List.Mem.head _))))))))))))))
 have ho119 : RM104.blk b4 = some (.cells (segs [qx.map u64, qz.map u64]) 115 (0, 0)) := by rw [hRM104]; exact Mem.addOwn hFM104 (List.Mem.tail _ (List.Mem.tail _ (List.Mem.tail _ (List.Mem.tail _ (List.Mem.tail _ (List.Mem.tail _ (List.Mem.tail _ (List.Mem.tail _ (List.Mem.tail _ (List.Mem.tail _ (List.Mem.tail _ (List.Mem.tail _ (List.Mem.tail _ (List.Mem.tail _ (List.Mem.head _)))))))))))))))
 have ho120 : RM104.blk b3 = some (.cells (segs [px.map u64, pz.map u64]) 115 (0, 0)) := by rw [hRM104]; exact Mem.addOwn hFM104 (List.Mem.tail _ (List.Mem.tail _ (List.Mem.tail _ (List.Mem.tail _ (List.Mem.tail _ (List.Mem.tail _ (List.Mem.tail _ (List.Mem.tail _ (List.Mem.tail _ (List.Mem.tail _ (List.Mem.tail _ (List.Mem.tail _ (List.Mem.tail _ (List.Mem.tail _ (List.Mem.tail _ (List.Mem.head _))))))))))))))))
 refine re_planM M1040 [(0, false), (1, false), (2, false), (3, false), (4, false), (5, false), (6, false), (7, false), (8, false), (9, false), (10, true)] 11 rfl (by kernel_rfl) <| dk_q (v := (Value.agg (segs [(timesL (timesL (sumL px pz) (sumL px pz)) (timesL (lessL px pz) (lessL px pz))).map u64, (timesL (lessL (timesL (sumL px pz) (sumL px pz)) (timesL (lessL px pz) (lessL px pz))) (sumL (timesL (sumL px pz) (sumL px pz)) (timesL ([121665#64, 0#64, 0#64, 0#64, 0#64]) (lessL (timesL (sumL px pz) (sumL px pz)) (timesL (lessL px pz) (lessL px pz)))))).map u64]))) rfl rfl (fun w _H _hx => ev_load_segs [] [(timesL (timesL (sumL px pz) (sumL px pz)) (timesL (lessL px pz) (lessL px pz))).map u64, (timesL (lessL (timesL (sumL px pz) (sumL px pz)) (timesL (lessL px pz) (lessL px pz))) (sumL (timesL (sumL px pz) (sumL px pz)) (timesL ([121665#64, 0#64, 0#64, 0#64, 0#64]) (lessL (timesL (sumL px pz) (sumL px pz)) (timesL (lessL px pz) (lessL px pz)))))).map u64] [] uT115 rfl ti115 s19 (_hx.rest _ _ ho105) fl_nil (fl_cons (n := 5) (m := 5) (k := 10) (by first | rfl | (rw [List.length_map]; first | omega | (simp; done) | (simp; omega))) (fl_cons (n := 5) (m := 0) (k := 5) (by first | rfl | (rw [List.length_map]; first | omega | (simp; done) | (simp; omega))) fl_nil rfl) rfl)) <| dk_q (v := (agg u64 (sumL (timesL (lessL qx qz) (sumL px pz)) (timesL (sumL qx qz) (lessL px pz))))) rfl rfl (fun w _H _hx => ev_loadA uT112 rfl ti112 s17 (_hx.rest _ _ ho106) sZ) <| dk_q (v := (agg u64 (sumL (timesL (lessL qx qz) (sumL px pz)) (timesL (sumL qx qz) (lessL px pz))))) rfl rfl (fun w _H _hx => ev_loadA uT112 rfl ti112 s17 (_hx.rest _ _ ho106) sZ) <| dk_x (v := (agg u64 (timesL (sumL (timesL (lessL qx qz) (sumL px pz)) (timesL (sumL qx qz) (lessL px pz))) (sumL (timesL (lessL qx qz) (sumL px pz)) (timesL (sumL qx qz) (lessL px pz)))))) rfl rfl (fun w121 _Hw121 _hw121 => OpR.mono (opR_call Tryd.func74 bd74 nm74 (args2 rfl rfl) (c_times5 (sumL (timesL (lessL qx qz) (sumL px pz)) (timesL (sumL qx qz) (lessL px pz))) (sumL (timesL (lessL qx qz) (sumL px pz)) (timesL (sumL qx qz) (lessL px pz))) _ sD sD)) (by rintro _ w122 ⟨rfl, _ew122⟩; exact ⟨rfl, _ew122⟩)) <| dk_q (v := (agg u64 x1)) rfl rfl (fun w _H _hx => ev_loadA uT112 rfl ti112 s5 (_hx.rest _ _ ho118) sZ) ?_
 refine dk_q (v := (agg u64 (lessL (timesL (lessL qx qz) (sumL px pz)) (timesL (sumL qx qz) (lessL px pz))))) rfl rfl (fun w _H _hx => ev_loadA uT112 rfl ti112 s18 (_hx.rest _ _ ho107) sZ) <| dk_q (v := (agg u64 (lessL (timesL (lessL qx qz) (sumL px pz)) (timesL (sumL qx qz) (lessL px pz))))) rfl rfl (fun w _H _hx => ev_loadA uT112 rfl ti112 s18 (_hx.rest _ _ ho107) sZ) <| dk_x (v := (agg u64 (timesL (lessL (timesL (lessL qx qz) (sumL px pz)) (timesL (sumL qx qz) (lessL px pz))) (lessL (timesL (lessL qx qz) (sumL px pz)) (timesL (sumL qx qz) (lessL px pz)))))) rfl rfl (fun w124 _Hw124 _hw124 => OpR.mono (opR_call Tryd.func74 bd74 nm74 (args2 rfl rfl) (c_times5 (lessL (timesL (lessL qx qz) (sumL px pz)) (timesL (sumL qx qz) (lessL px pz))) (lessL (timesL (lessL qx qz) (sumL px pz)) (timesL (sumL qx qz) (lessL px pz))) _ sD sD)) (by rintro _ w125 ⟨rfl, _ew125⟩; exact ⟨rfl, _ew125⟩)) <| dk_x (v := (agg u64 (timesL x1 (timesL (lessL (timesL (lessL qx qz) (sumL px pz)) (timesL (sumL qx qz) (lessL px pz))) (lessL (timesL (lessL qx qz) (sumL px pz)) (timesL (sumL qx qz) (lessL px pz))))))) rfl rfl (fun w127 _Hw127 _hw127 => OpR.mono (opR_call Tryd.func74 bd74 nm74 (args2 rfl rfl) (c_times5 x1 (timesL (lessL (timesL (lessL qx qz) (sumL px pz)) (timesL (sumL qx qz) (lessL px pz))) (lessL (timesL (lessL qx qz) (sumL px pz)) (timesL (sumL qx qz) (lessL px pz)))) _ sD sD)) (by rintro _ w128 ⟨rfl, _ew128⟩; exact ⟨rfl, _ew128⟩)) <| dk_q rfl rfl (fun w _H _hx => ev_build_pt (c := (segs [(timesL (sumL (timesL (lessL qx qz) (sumL px pz)) (timesL (sumL qx qz) (lessL px pz))) (sumL (timesL (lessL qx qz) (sumL px pz)) (timesL (sumL qx qz) (lessL px pz)))).map u64, (timesL x1 (timesL (lessL (timesL (lessL qx qz) (sumL px pz)) (timesL (sumL qx qz) (lessL px pz))) (lessL (timesL (lessL qx qz) (sumL px pz)) (timesL (sumL qx qz) (lessL px pz))))).map u64])) (pl := [(0, 5), (5, 5)]) ti115 uT115 (by kernel_rfl) (pm_cons (i := 0) (v := (agg u64 (timesL (sumL (timesL (lessL qx qz) (sumL px pz)) (timesL (sumL qx qz) (lessL px pz))) (sumL (timesL (lessL qx qz) (sumL px pz)) (timesL (sumL qx qz) (lessL px pz)))))) (cs := (cl u64 (timesL (sumL (timesL (lessL qx qz) (sumL px pz)) (timesL (sumL qx qz) (lessL px pz))) (sumL (timesL (lessL qx qz) (sumL px pz)) (timesL (sumL qx qz) (lessL px pz)))))) rfl rfl (pm_cons (i := 1) (v := (agg u64 (timesL x1 (timesL (lessL (timesL (lessL qx qz) (sumL px pz)) (timesL (sumL qx qz) (lessL px pz))) (lessL (timesL (lessL qx qz) (sumL px pz)) (timesL (sumL qx qz) (lessL px pz))))))) (cs := (cl u64 (timesL x1 (timesL (lessL (timesL (lessL qx qz) (sumL px pz)) (timesL (sumL qx qz) (lessL px pz))) (lessL (timesL (lessL qx qz) (sumL px pz)) (timesL (sumL qx qz) (lessL px pz))))))) rfl rfl pm_nil)) (fillA_segs [] [(List.replicate 5 0).map u64] [(timesL (sumL (timesL (lessL qx qz) (sumL px pz)) (timesL (sumL qx qz) (lessL px pz))) (sumL (timesL (lessL qx qz) (sumL px pz)) (timesL (sumL qx qz) (lessL px pz)))).map u64] [(List.replicate 5 0).map u64] rfl (segs_one1 u64 _).symm fl_nil (fl_cons (n := 5) (m := 0) (k := 5) (by first | rfl | (rw [List.length_map]; first | omega | (simp; done) | (simp; omega))) fl_nil rfl) (fl_cons (n := 5) (m := 0) (k := 5) (by first | rfl | (rw [List.length_map]; first | omega | (simp; done) | (simp; omega))) fl_nil rfl) (fillA_segs [(timesL (sumL (timesL (lessL qx qz) (sumL px pz)) (timesL (sumL qx qz) (lessL px pz))) (sumL (timesL (lessL qx qz) (sumL px pz)) (timesL (sumL qx qz) (lessL px pz)))).map u64] [(List.replicate 5 0).map u64] [(timesL x1 (timesL (lessL (timesL (lessL qx qz) (sumL px pz)) (timesL (sumL qx qz) (lessL px pz))) (lessL (timesL (lessL qx qz) (sumL px pz)) (timesL (sumL qx qz) (lessL px pz))))).map u64] [] rfl (segs_one1 u64 _).symm (fl_cons (n := 5) (m := 0) (k := 5) (by first | rfl | (rw [List.length_map]; first | omega | (simp; done) | (simp; omega))) fl_nil rfl) (fl_cons (n := 5) (m := 0) (k := 5) (by first | rfl | (rw [List.length_map]; first | omega | (simp; done) | (simp; omega))) fl_nil rfl) (fl_cons (n := 5) (m := 0) (k := 5) (by first | rfl | (rw [List.length_map]; first | omega | (simp; done) | (simp; omega))) fl_nil rfl) fillA_nil))) ?_
 refine dk_n rfl (fun w130 _ew130 => ?_)
 have hm130 := M1040.ext _ew130
 refine OpR.mono (or_storeW_segs [(timesL (timesL (sumL px pz) (sumL px pz)) (timesL (lessL px pz) (lessL px pz))).map u64, (timesL (lessL (timesL (sumL px pz) (sumL px pz)) (timesL (lessL px pz) (lessL px pz))) (sumL (timesL (sumL px pz) (sumL px pz)) (timesL ([121665#64, 0#64, 0#64, 0#64, 0#64]) (lessL (timesL (sumL px pz) (sumL px pz)) (timesL (lessL px pz) (lessL px pz)))))).map u64] ti115 s6 rfl (fl_cons (n := 5) (m := 5) (k := 10) (by first | rfl | (rw [List.length_map]; first | omega | (simp; done) | (simp; omega))) (fl_cons (n := 5) (m := 0) (k := 5) (by first | rfl | (rw [List.length_map]; first | omega | (simp; done) | (simp; omega))) fl_nil rfl) rfl) (so_cons (encA_one u64_one _) (so_cons (encA_one u64_one _) so_nil)) hm130.h0 rfl rfl) ?_
 rintro _ w131 uq131
 have hm131 : Mem w131 RM104 [(b6, .cells (segs [(timesL (timesL (sumL px pz) (sumL px pz)) (timesL (lessL px pz) (lessL px pz))).map u64, (timesL (lessL (timesL (sumL px pz) (sumL px pz)) (timesL (lessL px pz) (lessL px pz))) (sumL (timesL (sumL px pz) (sumL px pz)) (timesL ([121665#64, 0#64, 0#64, 0#64, 0#64]) (lessL (timesL (sumL px pz) (sumL px pz)) (timesL (lessL px pz) (lessL px pz)))))).map u64]) 115 (0, 0))] := hm130.upd0 uq131
 refine ⟨⟨_, hm131⟩, ?_⟩
 refine dw_nil (fun w132 _ew132 => ?_)
 have hm132 := hm131.ext _ew132
 have hX133 := hm132
 rw [hRM104] at hX133
 have hm134 : Mem w132 (restOf w0) [(b6, .cells (segs [(timesL (timesL (sumL px pz) (sumL px pz)) (timesL (lessL px pz) (lessL px pz))).map u64, (timesL (lessL (timesL (sumL px pz) (sumL px pz)) (timesL (lessL px pz) (lessL px pz))) (sumL (timesL (sumL px pz) (sumL px pz)) (timesL ([121665#64, 0#64, 0#64, 0#64, 0#64]) (lessL (timesL (sumL px pz) (sumL px pz)) (timesL (lessL px pz) (lessL px pz)))))).map u64]) 115 (0, 0)), (b19, .cells (segs [(timesL (timesL (sumL px pz) (sumL px pz)) (timesL (lessL px pz) (lessL px pz))).map u64, (timesL (lessL (timesL (sumL px pz) (sumL px pz)) (timesL (lessL px pz) (lessL px pz))) (sumL (timesL (sumL px pz) (sumL px pz)) (timesL ([121665#64, 0#64, 0#64, 0#64, 0#64]) (lessL (timesL (sumL px pz) (sumL px pz)) (timesL (lessL px pz) (lessL px pz)))))).map u64]) 115 (0, 0)), (b17, .cells (cl u64 (sumL (timesL (lessL qx qz) (sumL px pz)) (timesL (sumL qx qz) (lessL px pz)))) 112 (0, 0)), (b18, .cells (cl u64 (lessL (timesL (lessL qx qz) (sumL px pz)) (timesL (sumL qx qz) (lessL px pz)))) 112 (0, 0)), (b16, .cells (cl u64 (lessL (timesL (sumL px pz) (sumL px pz)) (timesL (lessL px pz) (lessL px pz)))) 112 (0, 0)), (b14, .cells (cl u64 (timesL (sumL px pz) (sumL px pz))) 112 (0, 0)), (b15, .cells (cl u64 (timesL (lessL px pz) (lessL px pz))) 112 (0, 0)), (b12, .cells (cl u64 (timesL (lessL qx qz) (sumL px pz))) 112 (0, 0)), (b13, .cells (cl u64 (timesL (sumL qx qz) (lessL px pz))) 112 (0, 0)), (b10, .cells (cl u64 (sumL qx qz)) 112 (0, 0)), (b11, .cells (cl u64 (lessL qx qz)) 112 (0, 0)), (b8, .cells (cl u64 (sumL px pz)) 112 (0, 0)), (b9, .cells (cl u64 (lessL px pz)) 112 (0, 0)), (b7, .cells #[(u64 0), (u64 0), (u64 0), (u64 0), (u64 0), (u64 0), (u64 0), (u64 0), (u64 0), (u64 0)] 115 (0, 0)), (b5, .cells (cl u64 x1) 112 (0, 0)), (b4, .cells (segs [qx.map u64, qz.map u64]) 115 (0, 0)), (b3, .cells (segs [px.map u64, pz.map u64]) 115 (0, 0))] := (by
   have hT := Mem.back hFM104 hX133
   try simp only [List.append_assoc, List.cons_append, List.nil_append, List.append_nil] at hT ⊢
   exact hT)
 refine rw_n (or_storeW_segs [(timesL (sumL (timesL (lessL qx qz) (sumL px pz)) (timesL (sumL qx qz) (lessL px pz))) (sumL (timesL (lessL qx qz) (sumL px pz)) (timesL (sumL qx qz) (lessL px pz)))).map u64, (timesL x1 (timesL (lessL (timesL (lessL qx qz) (sumL px pz)) (timesL (sumL qx qz) (lessL px pz))) (lessL (timesL (lessL qx qz) (sumL px pz)) (timesL (sumL qx qz) (lessL px pz))))).map u64] ti115 s7 rfl (fl_cons (n := 5) (m := 5) (k := 10) (by first | rfl | (rw [List.length_map]; first | omega | (simp; done) | (simp; omega))) (fl_cons (n := 5) (m := 0) (k := 5) (by first | rfl | (rw [List.length_map]; first | omega | (simp; done) | (simp; omega))) fl_nil rfl) rfl) (so_cons (encA_one u64_one _) (so_cons (encA_one u64_one _) so_nil)) ((Mem.pick [_, _, _, _, _, _, _, _, _, _, _, _, _] [_] _ hm134)).h0 rfl rfl) ?_
 rintro _ w135 uq135
 have hm135 : Mem w135 (restOf w0) [(b7, .cells (segs [(timesL (sumL (timesL (lessL qx qz) (sumL px pz)) (timesL (sumL qx qz) (lessL px pz))) (sumL (timesL (lessL qx qz) (sumL px pz)) (timesL (sumL qx qz) (lessL px pz)))).map u64, (timesL x1 (timesL (lessL (timesL (lessL qx qz) (sumL px pz)) (timesL (sumL qx qz) (lessL px pz))) (lessL (timesL (lessL qx qz) (sumL px pz)) (timesL (sumL qx qz) (lessL px pz))))).map u64]) 115 (0, 0)), (b6, .cells (segs [(timesL (timesL (sumL px pz) (sumL px pz)) (timesL (lessL px pz) (lessL px pz))).map u64, (timesL (lessL (timesL (sumL px pz) (sumL px pz)) (timesL (lessL px pz) (lessL px pz))) (sumL (timesL (sumL px pz) (sumL px pz)) (timesL ([121665#64, 0#64, 0#64, 0#64, 0#64]) (lessL (timesL (sumL px pz) (sumL px pz)) (timesL (lessL px pz) (lessL px pz)))))).map u64]) 115 (0, 0)), (b19, .cells (segs [(timesL (timesL (sumL px pz) (sumL px pz)) (timesL (lessL px pz) (lessL px pz))).map u64, (timesL (lessL (timesL (sumL px pz) (sumL px pz)) (timesL (lessL px pz) (lessL px pz))) (sumL (timesL (sumL px pz) (sumL px pz)) (timesL ([121665#64, 0#64, 0#64, 0#64, 0#64]) (lessL (timesL (sumL px pz) (sumL px pz)) (timesL (lessL px pz) (lessL px pz)))))).map u64]) 115 (0, 0)), (b17, .cells (cl u64 (sumL (timesL (lessL qx qz) (sumL px pz)) (timesL (sumL qx qz) (lessL px pz)))) 112 (0, 0)), (b18, .cells (cl u64 (lessL (timesL (lessL qx qz) (sumL px pz)) (timesL (sumL qx qz) (lessL px pz)))) 112 (0, 0)), (b16, .cells (cl u64 (lessL (timesL (sumL px pz) (sumL px pz)) (timesL (lessL px pz) (lessL px pz)))) 112 (0, 0)), (b14, .cells (cl u64 (timesL (sumL px pz) (sumL px pz))) 112 (0, 0)), (b15, .cells (cl u64 (timesL (lessL px pz) (lessL px pz))) 112 (0, 0)), (b12, .cells (cl u64 (timesL (lessL qx qz) (sumL px pz))) 112 (0, 0)), (b13, .cells (cl u64 (timesL (sumL qx qz) (lessL px pz))) 112 (0, 0)), (b10, .cells (cl u64 (sumL qx qz)) 112 (0, 0)), (b11, .cells (cl u64 (lessL qx qz)) 112 (0, 0)), (b8, .cells (cl u64 (sumL px pz)) 112 (0, 0)), (b9, .cells (cl u64 (lessL px pz)) 112 (0, 0)), (b5, .cells (cl u64 x1) 112 (0, 0)), (b4, .cells (segs [qx.map u64, qz.map u64]) 115 (0, 0)), (b3, .cells (segs [px.map u64, pz.map u64]) 115 (0, 0))] := Mem.upd0 (Mem.pick [_, _, _, _, _, _, _, _, _, _, _, _, _] [_] _ hm134) uq135
 refine rN (cw_ret ?_)
 refine fnPost_ret [(Value.agg (segs [(timesL (timesL (sumL px pz) (sumL px pz)) (timesL (lessL px pz) (lessL px pz))).map u64, (timesL (lessL (timesL (sumL px pz) (sumL px pz)) (timesL (lessL px pz) (lessL px pz))) (sumL (timesL (sumL px pz) (sumL px pz)) (timesL ([121665#64, 0#64, 0#64, 0#64, 0#64]) (lessL (timesL (sumL px pz) (sumL px pz)) (timesL (lessL px pz) (lessL px pz)))))).map u64])), (Value.agg (segs [(timesL (sumL (timesL (lessL qx qz) (sumL px pz)) (timesL (sumL qx qz) (lessL px pz))) (sumL (timesL (lessL qx qz) (sumL px pz)) (timesL (sumL qx qz) (lessL px pz)))).map u64, (timesL x1 (timesL (lessL (timesL (lessL qx qz) (sumL px pz)) (timesL (sumL qx qz) (lessL px pz))) (lessL (timesL (lessL qx qz) (sumL px pz)) (timesL (sumL qx qz) (lessL px pz))))).map u64]))] ⟨⟨_, s6, loadVar_segs [(timesL (timesL (sumL px pz) (sumL px pz)) (timesL (lessL px pz) (lessL px pz))).map u64, (timesL (lessL (timesL (sumL px pz) (sumL px pz)) (timesL (lessL px pz) (lessL px pz))) (sumL (timesL (sumL px pz) (sumL px pz)) (timesL ([121665#64, 0#64, 0#64, 0#64, 0#64]) (lessL (timesL (sumL px pz) (sumL px pz)) (timesL (lessL px pz) (lessL px pz)))))).map u64] uT115 rfl ti115 hm135.h1 (fl_cons (n := 5) (m := 5) (k := 10) (by first | rfl | (rw [List.length_map]; first | omega | (simp; done) | (simp; omega))) (fl_cons (n := 5) (m := 0) (k := 5) (by first | rfl | (rw [List.length_map]; first | omega | (simp; done) | (simp; omega))) fl_nil rfl) rfl)⟩, ⟨_, s7, loadVar_segs [(timesL (sumL (timesL (lessL qx qz) (sumL px pz)) (timesL (sumL qx qz) (lessL px pz))) (sumL (timesL (lessL qx qz) (sumL px pz)) (timesL (sumL qx qz) (lessL px pz)))).map u64, (timesL x1 (timesL (lessL (timesL (lessL qx qz) (sumL px pz)) (timesL (sumL qx qz) (lessL px pz))) (lessL (timesL (lessL qx qz) (sumL px pz)) (timesL (sumL qx qz) (lessL px pz))))).map u64] uT115 rfl ti115 hm135.h0 (fl_cons (n := 5) (m := 5) (k := 10) (by first | rfl | (rw [List.length_map]; first | omega | (simp; done) | (simp; omega))) (fl_cons (n := 5) (m := 0) (k := 5) (by first | rfl | (rw [List.length_map]; first | omega | (simp; done) | (simp; omega))) fl_nil rfl) rfl)⟩, trivial⟩ ?_
 exact ⟨by unfold stepL; rfl, hm135.toExt⟩

theorem c_clamp5 (k : List (BitVec 8)) (w0 : World)  (hk : k.length = 32) : CallsR Tryd.prog 71 #[(agg u8 k)] w0 (fun r w1 => r = (agg u8 (clampL k)) ∧ Ext w0 w1) := by
 refine callsR_of_cw (args := [(agg u8 k)]) Tryd.func71 rfl Tryd.ntmps71 Tryd.results71 rfl ?_
 have hm0 : Mem w0 (restOf w0) [] := Mem.of_world w0
 refine sR <| rw_c rfl (or_box_agg (f := u8) (l := k) hm0 rfl) ?_
 rintro _ w1 ⟨b1, rfl, _ew1, hm1⟩
 refine rw_c rfl (or_alloc_agg hm1 ti23) ?_
 rintro _ w2 ⟨b2, rfl, _ew2, hm2⟩
 refine rN (sR ?_)
 refine rw_q rfl (ev_ia_arr (r := 0) (i := 0) oM uT23 ti5 rfl rfl oM oM) <| rw_q (v := (u8 (k.getD 0 0))) rfl (ev_load1 uT5 rfl rfl hm2.h1 (get_clD _ _ 0 sD)) <| rw_q rfl (ev_u8_andNot (b := 7#8) rfl rfl) <| rw_q rfl (ev_ia_arr (r := 0) (i := 0) oM uT23 ti5 rfl rfl oM oM) <| rw_n (or_store_cl (f := u8) (a := (k.getD 0 0) &&& ~~~7#8) u8_one ti5 rfl rfl hm2.h1 sD (.inl (Nat.zero_le _))) ?_
 rintro _ w3 uq3
 have hm3 := hm2.upd1 uq3
 refine rN (sR ?_)
 refine rw_q rfl (ev_ia_arr (r := 31) (i := 31) oM uT23 ti5 rfl rfl oM oM) <| rw_q (v := (u8 ((k.set 0 ((k.getD 0 0) &&& ~~~7#8)).getD 31 0))) rfl (ev_load1 uT5 rfl rfl hm3.h1 (get_clD _ _ 0 sD)) <| rw_q rfl (ev_u8_andNot (b := 128#8) rfl rfl) <| rw_q rfl (ev_u8_or (b := 64#8) rfl rfl) <| rw_q rfl (ev_ia_arr (r := 31) (i := 31) oM uT23 ti5 rfl rfl oM oM) <| rw_n (or_store_cl (f := u8) (a := (((k.set 0 ((k.getD 0 0) &&& ~~~7#8)).getD 31 0) &&& ~~~128#8) ||| 64#8) u8_one ti5 rfl rfl hm3.h1 sD (.inl (Nat.zero_le _))) ?_
 rintro _ w4 uq4
 have hm4 := hm3.upd1 uq4
 refine rN ?_
 refine CW.abs (fun g => g 0 = (agg u8 k) ∧ g 1 = (ptr b1 0) ∧ g 2 = (ptr b2 0) ∧ True) ⟨rfl, rfl, rfl, trivial⟩ ?_
 rintro fr5 ⟨s0, s1, s2, _⟩
 refine sR <| rw_q (v := (agg u8 ((k.set 0 ((k.getD 0 0) &&& ~~~7#8)).set 31 ((((k.set 0 ((k.getD 0 0) &&& ~~~7#8)).getD 31 0) &&& ~~~128#8) ||| 64#8)))) rfl (ev_loadA uT23 rfl ti23 s1 hm4.h1 sZ) <| rw_n (or_store_agg (f := u8) (l := (k.set 0 ((k.getD 0 0) &&& ~~~7#8)).set 31 ((((k.set 0 ((k.getD 0 0) &&& ~~~7#8)).getD 31 0) &&& ~~~128#8) ||| 64#8)) u8_one ti23 s2 rfl sD hm4.h0 sZ rfl) ?_
 rintro _ w6 uq6
 have hm6 := hm4.upd0 uq6
 refine rN (cw_ret ?_)
 refine fnPost_ret [(agg u8 ((k.set 0 ((k.getD 0 0) &&& ~~~7#8)).set 31 ((((k.set 0 ((k.getD 0 0) &&& ~~~7#8)).getD 31 0) &&& ~~~128#8) ||| 64#8)))] ⟨⟨_, s2, loadVar_run uT23 rfl ti23 hm6.h0 sZ⟩, trivial⟩ ?_
 exact ⟨by unfold clampL; rfl, hm6.toExt⟩

set_option maxHeartbeats 1000000 in
theorem c_mult5 (ky u : List (BitVec 8)) (w0 : World)  (hk : ky.length = 32) (hu : u.length = 32) : CallsR Tryd.prog 52 #[(agg u8 ky), (agg u8 u)] w0 (fun r w1 => r = (agg u8 (multL ky u)) ∧ Ext w0 w1) := by
 refine callsR_of_cw (args := [(agg u8 ky), (agg u8 u)]) Tryd.func52 rfl Tryd.ntmps52 Tryd.results52 rfl ?_
 have hm0 : Mem w0 (restOf w0) [] := Mem.of_world w0
 have hcl := clampL_length ky
 have hrl : (readL u).length = 5 := by unfold readL; exact readGo_length u 255
 refine sR <| rw_c rfl (or_box_agg (f := u8) (l := ky) hm0 rfl) ?_
 rintro _ w1 ⟨b2, rfl, _ew1, hm1⟩
 refine rw_c rfl (or_box_agg (f := u8) (l := u) hm1 rfl) ?_
 rintro _ w2 ⟨b3, rfl, _ew2, hm2⟩
 refine rw_c rfl (or_alloc_agg hm2 ti23) ?_
 rintro _ w3 ⟨b4, rfl, _ew3, hm3⟩
 refine rN (sR ?_)
 refine rw_q (v := (agg u8 ky)) rfl (ev_loadA uT23 rfl ti23 rfl hm3.h2 sZ) <| rw_c rfl (opR_call Tryd.func71 bd71 nm71 (args1 rfl) (c_clamp5 ky _ sD)) ?_
 rintro _ w4 ⟨rfl, _ew4⟩
 have hm4 := hm3.ext _ew4
 refine rw_n (or_store_agg (f := u8) (l := clampL ky) u8_one ti23 rfl rfl sD hm4.h2 sZ rfl) ?_
 rintro _ w6 uq6
 have hm6 := hm4.upd2 uq6
 refine rN (sR ?_)
 refine rw_q (v := (agg u8 u)) rfl (ev_loadA uT23 rfl ti23 rfl hm6.h1 sZ) <| rw_c rfl (opR_call Tryd.func72 bd72 nm72 (args1 rfl) (c_cread u _ sD)) ?_
 rintro _ w7 ⟨rfl, _ew7⟩
 have hm7 := hm6.ext _ew7
 refine rw_c rfl (or_alloc_agg hm7 ti112) ?_
 rintro _ w9 ⟨b5, rfl, _ew9, hm9⟩
 refine rw_n (or_store_agg (f := u64) (l := readL u) u64_one ti112 rfl rfl sD hm9.h0 sZ rfl) ?_
 rintro _ w10 uq10
 have hm10 := hm9.upd0 uq10
 refine rN (cw_seq ?_)
 refine cw_meet (J := fun g wv => ∃ (c6 c7 : Nat), g 0 = (agg u8 ky) ∧ g 1 = (agg u8 u) ∧ g 2 = (ptr b2 0) ∧ g 3 = (ptr b3 0) ∧ g 4 = (ptr b4 0) ∧ g 5 = (ptr b5 0) ∧ g 6 = (ptr c6 0) ∧ g 7 = (ptr c7 0) ∧ Mem wv (restOf w0) [(c6, .cells (segs [([1#64, 0#64, 0#64, 0#64, 0#64]).map u64, ([0#64, 0#64, 0#64, 0#64, 0#64]).map u64]) 115 (0, 0)), (c7, .cells (segs [(readL u).map u64, ([1#64, 0#64, 0#64, 0#64, 0#64]).map u64]) 115 (0, 0)), (b5, .cells (cl u64 (readL u)) 112 (0, 0)), (b4, .cells (cl u8 (List.replicate 32 0)) 23 (0, 0)), (b3, .cells (cl u8 u) 23 (0, 0)), (b2, .cells (cl u8 (clampL ky)) 23 (0, 0))]) ?_ ?_
 · skip
   refine cw_drawE (by kernel_rfl) ?_
   have hFM11 : Mem w10 (restOf w0) ([] ++ [(b5, .cells (cl u64 (readL u)) 112 (0, 0)), (b4, .cells (cl u8 (List.replicate 32 0)) 23 (0, 0)), (b3, .cells (cl u8 u) 23 (0, 0)), (b2, .cells (cl u8 (clampL ky)) 23 (0, 0))]) := hm10
   obtain ⟨RM11, hRM11⟩ : ∃ R2, R2 = Rest.add (restOf w0) [(b5, .cells (cl u64 (readL u)) 112 (0, 0)), (b4, .cells (cl u8 (List.replicate 32 0)) 23 (0, 0)), (b3, .cells (cl u8 u) 23 (0, 0)), (b2, .cells (cl u8 (clampL ky)) 23 (0, 0))] := ⟨_, rfl⟩
   have M110 : Mem w10 RM11 [] := by rw [hRM11]; exact Mem.give hFM11
   have ho12 : RM11.blk b5 = some (.cells (cl u64 (readL u)) 112 (0, 0)) := by rw [hRM11]; exact Mem.addOwn hFM11 (List.Mem.head _)
   have ho13 : RM11.blk b4 = some (.cells (cl u8 (List.replicate 32 0)) 23 (0, 0)) := by rw [hRM11]; exact Mem.addOwn hFM11 (List.Mem.tail _ (List.Mem.head _))
   have ho14 : RM11.blk b3 = some (.cells (cl u8 u) 23 (0, 0)) := by rw [hRM11]; exact Mem.addOwn hFM11 (List.Mem.tail _ (List.Mem.tail _ (List.Mem.head _)))
   have ho15 : RM11.blk b2 = some (.cells (cl u8 (clampL ky)) 23 (0, 0)) := by rw [hRM11]; exact Mem.addOwn hFM11 (List.Mem.tail _ (List.Mem.tail _ (List.Mem.tail _ (List.Mem.head _))))
   refine re_allocsM [5, 6] [(0, false), (1, false), (2, false), (3, false), (4, false)] [(7, true)] 8 (luN [(5, 6), (6, 7)]) (luN [(5, 115), (6, 115)]) (luV [(5, (Value.agg #[(u64 0), (u64 0), (u64 0), (u64 0), (u64 0), (u64 0), (u64 0), (u64 0), (u64 0), (u64 0)])), (6, (Value.agg #[(u64 0), (u64 0), (u64 0), (u64 0), (u64 0), (u64 0), (u64 0), (u64 0), (u64 0), (u64 0)]))]) (fun g => g 0 = (agg u8 ky) ∧ g 1 = (agg u8 u) ∧ g 2 = (ptr b2 0) ∧ g 3 = (ptr b3 0) ∧ g 4 = (ptr b4 0) ∧ g 5 = (ptr b5 0) ∧ g 14 = (Value.agg #[(u64 1#64), (u64 0#64), (u64 0#64), (u64 0#64), (u64 0#64), (u64 0), (u64 0), (u64 0), (u64 0), (u64 0)]) ∧ g 17 = (Value.agg (segs [(readL u).map u64, ([1#64, 0#64, 0#64, 0#64, 0#64]).map u64])) ∧ True) M110 rfl (by decide) (by kernel_rfl) (by kernel_rfl) (ao_cons ⟨⟨_, _, _, rfl⟩, rfl, _, _, ti115⟩ (ao_cons ⟨⟨_, _, _, rfl⟩, rfl, _, _, ti115⟩ ao_nil)) (by decide) (fun sx16 hS16 => ?_) ?_
   · skip
     refine dk_q rfl rfl (fun w _H _hx => ev_build_pa (c := (cl u64 ([1#64, 0#64, 0#64, 0#64, 0#64]))) ti112 uT112 ti61 (pm_cons (i := 0) (v := (u64 1#64)) (cs := #[(u64 1#64)]) rfl rfl pm_nil) (by kernel_rfl)) <| dk_q rfl rfl (fun w _H _hx => ev_build_pt (c := #[(u64 1#64), (u64 0#64), (u64 0#64), (u64 0#64), (u64 0#64), (u64 0), (u64 0), (u64 0), (u64 0), (u64 0)]) (pl := [(0, 5), (5, 5)]) ti115 uT115 (by kernel_rfl) (pm_cons (i := 0) (v := (agg u64 ([1#64, 0#64, 0#64, 0#64, 0#64]))) (cs := (cl u64 ([1#64, 0#64, 0#64, 0#64, 0#64]))) rfl rfl pm_nil) (by kernel_rfl)) <| dk_q (v := (agg u64 (readL u))) rfl rfl (fun w _H _hx => ev_loadA uT112 rfl ti112 rfl (_hx.rest _ _ ho12) sZ) <| dk_q rfl rfl (fun w _H _hx => ev_build_pa (c := (cl u64 ([1#64, 0#64, 0#64, 0#64, 0#64]))) ti112 uT112 ti61 (pm_cons (i := 0) (v := (u64 1#64)) (cs := #[(u64 1#64)]) rfl rfl pm_nil) (by kernel_rfl)) <| dk_q rfl rfl (fun w _H _hx => ev_build_pt (c := (segs [(readL u).map u64, ([1#64, 0#64, 0#64, 0#64, 0#64]).map u64])) (pl := [(0, 5), (5, 5)]) ti115 uT115 (by kernel_rfl) (pm_cons (i := 0) (v := (agg u64 (readL u))) (cs := (cl u64 (readL u))) rfl rfl (pm_cons (i := 1) (v := (agg u64 ([1#64, 0#64, 0#64, 0#64, 0#64]))) (cs := (cl u64 ([1#64, 0#64, 0#64, 0#64, 0#64]))) rfl rfl pm_nil)) (fillA_segs [] [(List.replicate 5 0).map u64] [(readL u).map u64] [(List.replicate 5 0).map u64] rfl (segs_one1 u64 _).symm fl_nil (fl_cons (n := 5) (m := 0) (k := 5) (by first | rfl | (rw [List.length_map]; first | omega | (simp; done) | (simp; omega))) fl_nil rfl) (fl_cons (n := 5) (m := 0) (k := 5) (by first | rfl | (rw [List.length_map]; first | omega | (simp; done) | (simp; omega))) fl_nil rfl) (fillA_segs [(readL u).map u64] [(List.replicate 5 0).map u64] [([1#64, 0#64, 0#64, 0#64, 0#64]).map u64] [] rfl (segs_one1 u64 _).symm (fl_cons (n := 5) (m := 0) (k := 5) (by first | rfl | (rw [List.length_map]; first | omega | (simp; done) | (simp; omega))) fl_nil rfl) (fl_cons (n := 5) (m := 0) (k := 5) (by first | rfl | (rw [List.length_map]; first | omega | (simp; done) | (simp; omega))) fl_nil rfl) (fl_cons (n := 5) (m := 0) (k := 5) (by first | rfl | (rw [List.length_map]; first | omega | (simp; done) | (simp; omega))) fl_nil rfl) fillA_nil))) ?_
     exact hS16 _ ⟨rfl, rfl, rfl, rfl, rfl, rfl, rfl, rfl, trivial⟩
   rintro g17 ⟨s0, s1, s2, s3, s4, s5, s14, s17, _⟩ g18 w19 ps19 hgo19 hps19 hmm19
   replace s0 := (hgo19 0 (by decide)).trans s0
   replace s1 := (hgo19 1 (by decide)).trans s1
   replace s2 := (hgo19 2 (by decide)).trans s2
   replace s3 := (hgo19 3 (by decide)).trans s3
   replace s4 := (hgo19 4 (by decide)).trans s4
   replace s5 := (hgo19 5 (by decide)).trans s5
   replace s14 := (hgo19 14 (by decide)).trans s14
   replace s17 := (hgo19 17 (by decide)).trans s17
   have s6 : g18 6 = ptr (ps19 5) 0 := hps19 5 (by decide)
   have s7 : g18 7 = ptr (ps19 6) 0 := hps19 6 (by decide)
   have hm19 : Mem w19 RM11 [((ps19 5), .cells #[(u64 0), (u64 0), (u64 0), (u64 0), (u64 0), (u64 0), (u64 0), (u64 0), (u64 0), (u64 0)] 115 (0, 0)), ((ps19 6), .cells #[(u64 0), (u64 0), (u64 0), (u64 0), (u64 0), (u64 0), (u64 0), (u64 0), (u64 0), (u64 0)] 115 (0, 0))] := hmm19
   generalize ps19 5 = b6 at hm19 s6
   generalize ps19 6 = b7 at hm19 s7
   refine dk_n rfl (fun w20 _ew20 => ?_)
   have hm20 := hm19.ext _ew20
   refine OpR.mono (or_storeW (cs := #[(u64 1#64), (u64 0#64), (u64 0#64), (u64 0#64), (u64 0#64), (u64 0), (u64 0), (u64 0), (u64 0), (u64 0)]) ti115 s6 s14 (by kernel_rfl) (one_arr (one_cons (u64_one _) (one_cons (u64_one _) (one_cons (u64_one _) (one_cons (u64_one _) (one_cons (u64_one _) (one_cons (u64_one _) (one_cons (u64_one _) (one_cons (u64_one _) (one_cons (u64_one _) (one_cons (u64_one _) one_nil))))))))))) hm20.h0 (by kernel_rfl) rfl) ?_
   rintro _ w21 uq21
   have hm21 : Mem w21 RM11 [(b6, .cells #[(u64 1#64), (u64 0#64), (u64 0#64), (u64 0#64), (u64 0#64), (u64 0), (u64 0), (u64 0), (u64 0), (u64 0)] 115 (0, 0)), (b7, .cells #[(u64 0), (u64 0), (u64 0), (u64 0), (u64 0), (u64 0), (u64 0), (u64 0), (u64 0), (u64 0)] 115 (0, 0))] := hm20.upd0 uq21
   refine ⟨⟨_, hm21⟩, ?_⟩
   refine dw_nil (fun w22 _ew22 => ?_)
   have hm22 := hm21.ext _ew22
   have hX23 := hm22
   rw [hRM11] at hX23
   have hm24 : Mem w22 (restOf w0) [(b6, .cells #[(u64 1#64), (u64 0#64), (u64 0#64), (u64 0#64), (u64 0#64), (u64 0), (u64 0), (u64 0), (u64 0), (u64 0)] 115 (0, 0)), (b7, .cells #[(u64 0), (u64 0), (u64 0), (u64 0), (u64 0), (u64 0), (u64 0), (u64 0), (u64 0), (u64 0)] 115 (0, 0)), (b5, .cells (cl u64 (readL u)) 112 (0, 0)), (b4, .cells (cl u8 (List.replicate 32 0)) 23 (0, 0)), (b3, .cells (cl u8 u) 23 (0, 0)), (b2, .cells (cl u8 (clampL ky)) 23 (0, 0))] := (by
     have hT := Mem.back hFM11 hX23
     try simp only [List.append_assoc, List.cons_append, List.nil_append, List.append_nil] at hT ⊢
     exact hT)
   refine rw_n (or_storeW_segs [(readL u).map u64, ([1#64, 0#64, 0#64, 0#64, 0#64]).map u64] ti115 s7 s17 (fl_cons (n := 5) (m := 5) (k := 10) (by first | rfl | (rw [List.length_map]; first | omega | (simp; done) | (simp; omega))) (fl_cons (n := 5) (m := 0) (k := 5) (by first | rfl | (rw [List.length_map]; first | omega | (simp; done) | (simp; omega))) fl_nil rfl) rfl) (so_cons (encA_one u64_one _) (so_cons (encA_one u64_one _) so_nil)) hm24.h1 rfl rfl) ?_
   rintro _ w25 uq25
   have hm25 : Mem w25 (restOf w0) [(b6, .cells #[(u64 1#64), (u64 0#64), (u64 0#64), (u64 0#64), (u64 0#64), (u64 0), (u64 0), (u64 0), (u64 0), (u64 0)] 115 (0, 0)), (b7, .cells (segs [(readL u).map u64, ([1#64, 0#64, 0#64, 0#64, 0#64]).map u64]) 115 (0, 0)), (b5, .cells (cl u64 (readL u)) 112 (0, 0)), (b4, .cells (cl u8 (List.replicate 32 0)) 23 (0, 0)), (b3, .cells (cl u8 u) 23 (0, 0)), (b2, .cells (cl u8 (clampL ky)) 23 (0, 0))] := hm24.upd1 uq25
   refine rN ?_
   exact ⟨b6, b7, s0, s1, s2, s3, s4, s5, s6, s7, hm25⟩
 · rintro fr26 w27 ⟨c6, c7, s0, s1, s2, s3, s4, s5, s6, s7, hm27⟩
   refine cw_seq (sR ?_)
   refine rw_q rfl (ev_assign (v := (i64 254)) rfl) ?_
   refine rN (cw_block ?_)
   refine cw_loop (fun g wv => ∃ (j : Nat), (j ≤ 255) ∧ g 0 = (agg u8 ky) ∧ g 1 = (agg u8 u) ∧ g 2 = (ptr b2 0) ∧ g 3 = (ptr b3 0) ∧ g 4 = (ptr b4 0) ∧ g 5 = (ptr b5 0) ∧ g 6 = (ptr c6 0) ∧ g 7 = (ptr c7 0) ∧ g 8 = (i64 (254 - (j : Int))) ∧ Mem wv (restOf w0) [(c6, .cells (segs [((ladGo (clampL ky) (readL u) j).px).map u64, ((ladGo (clampL ky) (readL u) j).pz).map u64]) 115 (0, 0)), (c7, .cells (segs [((ladGo (clampL ky) (readL u) j).qx).map u64, ((ladGo (clampL ky) (readL u) j).qz).map u64]) 115 (0, 0)), (b5, .cells (cl u64 (readL u)) 112 (0, 0)), (b4, .cells (cl u8 (List.replicate 32 0)) 23 (0, 0)), (b2, .cells (cl u8 (clampL ky)) 23 (0, 0))]) (fun g wv => (RowKit.intOf (g 8) + 1).toNat) ?_ ?_
   have hm28 := Mem.drop ([(b3, .cells (cl u8 u) 23 (0, 0))]) _ (Mem.pick [_, _, _, _] [_] _ hm27)
   · exact ⟨0, oM, s0, s1, s2, s3, s4, s5, s6, s7, rfl, (by rw [ladGo_zero]; exact hm28)⟩
   · rintro fr29 w30 ⟨j, hj, s0, s1, s2, s3, s4, s5, s6, s7, s8, hm30⟩
     have z8 := s8
     have hL := ladGo_len (clampL ky) hrl j
     have hL1 := hL.px
     have hL2 := hL.pz
     have hL3 := hL.qx
     have hL4 := hL.qz
     have hS := stepL_len (ladGo (clampL ky) (readL u) j).px (ladGo (clampL ky) (readL u) j).pz (ladGo (clampL ky) (readL u) j).qx (ladGo (clampL ky) (readL u) j).qz (readL u)
     have hT := stepL_len (ladGo (clampL ky) (readL u) j).qx (ladGo (clampL ky) (readL u) j).qz (ladGo (clampL ky) (readL u) j).px (ladGo (clampL ky) (readL u) j).pz (readL u)
     have hSpx := hS.px
     have hSpz := hS.pz
     have hSqx := hS.qx
     have hSqz := hS.qz
     have hTpx := hT.px
     have hTpz := hT.pz
     have hTqx := hT.qx
     have hTqz := hT.qz
     refine cw_seq (sR ?_)
     refine rM rfl s8 <| rw_q rfl (ev_i64_geq (b := 0) rfl rfl) <| rN ?_
     refine cw_cond rfl (fun hc31 => ?_) (fun hc31 => ?_)
     · -- true
       have hc31p := of_decide_eq_true hc31
       refine cw_skip (kThen_normal (cw_seq (cw_block (sR ?_))))
       refine rM rfl s8 <| rw_q rfl (EvQ.cast (congrArg i64 (show (254 - (j : Int)) / 8 = (((254 - j) / 8 : Nat) : Int) by omega)) (ev_i64_quo (b := 8) rfl rfl oM oM oM)) <| rw_q rfl (ev_ia_arr (r := ((254 - j) / 8)) oM uT23 ti5 s2 rfl oM sD) <| rw_q (v := (u8 ((clampL ky).getD ((254 - j) / 8) 0))) rfl (ev_load1 uT5 rfl rfl hm30.h4 (get_clD _ _ 0 sD)) <| rM rfl s8 <| rw_q rfl (EvQ.cast (congrArg i64 (show (254 - (j : Int)) % 8 = (((254 - j) % 8 : Nat) : Int) by omega)) (ev_i64_rem (b := 8) rfl rfl oM oM oM)) ?_
       refine rw_q rfl (ev_u8_shr rfl rfl oM) <| rw_q rfl (ev_u8_and (b := 1#8) rfl rfl) <| rw_q rfl (ev_u8_eql (b := 0#8) rfl rfl) <| rN ?_
       refine CW.abs (fun g => g 0 = (agg u8 ky) ∧ g 1 = (agg u8 u) ∧ g 2 = (ptr b2 0) ∧ g 3 = (ptr b3 0) ∧ g 4 = (ptr b4 0) ∧ g 5 = (ptr b5 0) ∧ g 6 = (ptr c6 0) ∧ g 7 = (ptr c7 0) ∧ g 8 = (i64 (254 - (j : Int))) ∧ g 19 = (bl (decide (0 ≤ (254 - (j : Int))))) ∧ g 30 = (bl (((((clampL ky).getD ((254 - j) / 8) 0) >>> (((254 - j) % 8 : Nat) : Int).toNat) &&& 1#8) == 0#8)) ∧ True) ⟨s0, s1, s2, s3, s4, s5, s6, s7, s8, rfl, rfl, trivial⟩ ?_
       rintro fr32 ⟨s0, s1, s2, s3, s4, s5, s6, s7, s8, s19, s30, _⟩
       refine cw_cond s30 (fun hc33 => ?_) (fun hc33 => ?_)
       · -- true
         have hc33p := eq_of_beq hc33
         refine cw_region <| rw_q (v := (Value.agg (segs [((ladGo (clampL ky) (readL u) j).px).map u64, ((ladGo (clampL ky) (readL u) j).pz).map u64]))) rfl (ev_load_segs [] [((ladGo (clampL ky) (readL u) j).px).map u64, ((ladGo (clampL ky) (readL u) j).pz).map u64] [] uT115 rfl ti115 s6 hm30.h0 fl_nil (fl_cons (n := 5) (m := 5) (k := 10) (by first | rfl | (rw [List.length_map]; first | omega | (simp; done) | (simp; omega))) (fl_cons (n := 5) (m := 0) (k := 5) (by first | rfl | (rw [List.length_map]; first | omega | (simp; done) | (simp; omega))) fl_nil rfl) rfl)) <| rw_q (v := (Value.agg (segs [((ladGo (clampL ky) (readL u) j).qx).map u64, ((ladGo (clampL ky) (readL u) j).qz).map u64]))) rfl (ev_load_segs [] [((ladGo (clampL ky) (readL u) j).qx).map u64, ((ladGo (clampL ky) (readL u) j).qz).map u64] [] uT115 rfl ti115 s7 hm30.h1 fl_nil (fl_cons (n := 5) (m := 5) (k := 10) (by first | rfl | (rw [List.length_map]; first | omega | (simp; done) | (simp; omega))) (fl_cons (n := 5) (m := 0) (k := 5) (by first | rfl | (rw [List.length_map]; first | omega | (simp; done) | (simp; omega))) fl_nil rfl) rfl)) <| rw_q (v := (agg u64 (readL u))) rfl (ev_loadA uT112 rfl ti112 s5 hm30.h2 sZ) <| rw_c rfl (opR_call Tryd.func73 bd73 nm73 (args3 rfl rfl rfl) (c_step5 ((ladGo (clampL ky) (readL u) j).px) ((ladGo (clampL ky) (readL u) j).pz) ((ladGo (clampL ky) (readL u) j).qx) ((ladGo (clampL ky) (readL u) j).qz) (readL u) _ sD sD sD sD sD)) ?_
         rintro _ w34 ⟨rfl, _ew34⟩
         have hm34 := hm30.ext _ew34
         refine rM rfl rfl <| rw_q (v := (Value.agg (segs [((stepL ((ladGo (clampL ky) (readL u) j).px) ((ladGo (clampL ky) (readL u) j).pz) ((ladGo (clampL ky) (readL u) j).qx) ((ladGo (clampL ky) (readL u) j).qz) (readL u)).px).map u64, ((stepL ((ladGo (clampL ky) (readL u) j).px) ((ladGo (clampL ky) (readL u) j).pz) ((ladGo (clampL ky) (readL u) j).qx) ((ladGo (clampL ky) (readL u) j).qz) (readL u)).pz).map u64]))) rfl (ev_extract rfl rfl) <| rw_q (v := (Value.agg (segs [((stepL ((ladGo (clampL ky) (readL u) j).px) ((ladGo (clampL ky) (readL u) j).pz) ((ladGo (clampL ky) (readL u) j).qx) ((ladGo (clampL ky) (readL u) j).qz) (readL u)).qx).map u64, ((stepL ((ladGo (clampL ky) (readL u) j).px) ((ladGo (clampL ky) (readL u) j).pz) ((ladGo (clampL ky) (readL u) j).qx) ((ladGo (clampL ky) (readL u) j).qz) (readL u)).qz).map u64]))) rfl (ev_extract rfl rfl) <| rw_n (or_storeW_segs [((stepL ((ladGo (clampL ky) (readL u) j).px) ((ladGo (clampL ky) (readL u) j).pz) ((ladGo (clampL ky) (readL u) j).qx) ((ladGo (clampL ky) (readL u) j).qz) (readL u)).px).map u64, ((stepL ((ladGo (clampL ky) (readL u) j).px) ((ladGo (clampL ky) (readL u) j).pz) ((ladGo (clampL ky) (readL u) j).qx) ((ladGo (clampL ky) (readL u) j).qz) (readL u)).pz).map u64] ti115 s6 rfl (fl_cons (n := 5) (m := 5) (k := 10) (by first | rfl | (rw [List.length_map]; first | omega | (simp; done) | (simp; omega))) (fl_cons (n := 5) (m := 0) (k := 5) (by first | rfl | (rw [List.length_map]; first | omega | (simp; done) | (simp; omega))) fl_nil rfl) rfl) (so_cons (encA_one u64_one _) (so_cons (encA_one u64_one _) so_nil)) hm34.h0 (by rw [segs_size]; exact (fl_cons (n := 5) (m := 5) (k := 10) (by first | rfl | (rw [List.length_map]; first | omega | (simp; done) | (simp; omega))) (fl_cons (n := 5) (m := 0) (k := 5) (by first | rfl | (rw [List.length_map]; first | omega | (simp; done) | (simp; omega))) fl_nil rfl) rfl)) rfl) ?_
         rintro _ w36 uq36
         have hm36 : Mem w36 (restOf w0) [(c6, .cells (segs [((stepL ((ladGo (clampL ky) (readL u) j).px) ((ladGo (clampL ky) (readL u) j).pz) ((ladGo (clampL ky) (readL u) j).qx) ((ladGo (clampL ky) (readL u) j).qz) (readL u)).px).map u64, ((stepL ((ladGo (clampL ky) (readL u) j).px) ((ladGo (clampL ky) (readL u) j).pz) ((ladGo (clampL ky) (readL u) j).qx) ((ladGo (clampL ky) (readL u) j).qz) (readL u)).pz).map u64]) 115 (0, 0)), (c7, .cells (segs [((ladGo (clampL ky) (readL u) j).qx).map u64, ((ladGo (clampL ky) (readL u) j).qz).map u64]) 115 (0, 0)), (b5, .cells (cl u64 (readL u)) 112 (0, 0)), (b4, .cells (cl u8 (List.replicate 32 0)) 23 (0, 0)), (b2, .cells (cl u8 (clampL ky)) 23 (0, 0))] := hm34.upd0 uq36
         refine rw_n (or_storeW_segs [((stepL ((ladGo (clampL ky) (readL u) j).px) ((ladGo (clampL ky) (readL u) j).pz) ((ladGo (clampL ky) (readL u) j).qx) ((ladGo (clampL ky) (readL u) j).qz) (readL u)).qx).map u64, ((stepL ((ladGo (clampL ky) (readL u) j).px) ((ladGo (clampL ky) (readL u) j).pz) ((ladGo (clampL ky) (readL u) j).qx) ((ladGo (clampL ky) (readL u) j).qz) (readL u)).qz).map u64] ti115 s7 rfl (fl_cons (n := 5) (m := 5) (k := 10) (by first | rfl | (rw [List.length_map]; first | omega | (simp; done) | (simp; omega))) (fl_cons (n := 5) (m := 0) (k := 5) (by first | rfl | (rw [List.length_map]; first | omega | (simp; done) | (simp; omega))) fl_nil rfl) rfl) (so_cons (encA_one u64_one _) (so_cons (encA_one u64_one _) so_nil)) hm36.h1 (by rw [segs_size]; exact (fl_cons (n := 5) (m := 5) (k := 10) (by first | rfl | (rw [List.length_map]; first | omega | (simp; done) | (simp; omega))) (fl_cons (n := 5) (m := 0) (k := 5) (by first | rfl | (rw [List.length_map]; first | omega | (simp; done) | (simp; omega))) fl_nil rfl) rfl)) rfl) ?_
         rintro _ w37 uq37
         have hm37 : Mem w37 (restOf w0) [(c6, .cells (segs [((stepL ((ladGo (clampL ky) (readL u) j).px) ((ladGo (clampL ky) (readL u) j).pz) ((ladGo (clampL ky) (readL u) j).qx) ((ladGo (clampL ky) (readL u) j).qz) (readL u)).px).map u64, ((stepL ((ladGo (clampL ky) (readL u) j).px) ((ladGo (clampL ky) (readL u) j).pz) ((ladGo (clampL ky) (readL u) j).qx) ((ladGo (clampL ky) (readL u) j).qz) (readL u)).pz).map u64]) 115 (0, 0)), (c7, .cells (segs [((stepL ((ladGo (clampL ky) (readL u) j).px) ((ladGo (clampL ky) (readL u) j).pz) ((ladGo (clampL ky) (readL u) j).qx) ((ladGo (clampL ky) (readL u) j).qz) (readL u)).qx).map u64, ((stepL ((ladGo (clampL ky) (readL u) j).px) ((ladGo (clampL ky) (readL u) j).pz) ((ladGo (clampL ky) (readL u) j).qx) ((ladGo (clampL ky) (readL u) j).qz) (readL u)).qz).map u64]) 115 (0, 0)), (b5, .cells (cl u64 (readL u)) 112 (0, 0)), (b4, .cells (cl u8 (List.replicate 32 0)) 23 (0, 0)), (b2, .cells (cl u8 (clampL ky)) 23 (0, 0))] := hm36.upd1 uq37
         refine rw_nil (kBlk_normal (cw_region ?_))
         refine rM rfl s8 <| rw_q rfl (ev_i64_sub (b := 1) rfl rfl oM oM) <| rw_q rfl (ev_assign (v := (i64 ((254 - (j : Int)) - 1))) rfl) <| rN ?_
         exact ⟨⟨j + 1, oM, s0, s1, s2, s3, s4, s5, s6, s7, (show i64 (254 - (j : Int) - 1) = i64 (254 - ((j + 1 : Nat) : Int)) from congrArg i64 oM), (by rw [ladGo_t (k := (clampL ky)) (x1 := (readL u)) (j := j) hc33]; exact hm37)⟩, (by show (RowKit.intOf (i64 (254 - (j : Int) - 1)) + 1).toNat < (RowKit.intOf _ + 1).toNat; rw [z8]; simp only [RowKit.intOf, i64]; omega)⟩
       · -- false
         have hc33p := ne_of_beq_false hc33
         refine cw_region <| rw_q (v := (Value.agg (segs [((ladGo (clampL ky) (readL u) j).qx).map u64, ((ladGo (clampL ky) (readL u) j).qz).map u64]))) rfl (ev_load_segs [] [((ladGo (clampL ky) (readL u) j).qx).map u64, ((ladGo (clampL ky) (readL u) j).qz).map u64] [] uT115 rfl ti115 s7 hm30.h1 fl_nil (fl_cons (n := 5) (m := 5) (k := 10) (by first | rfl | (rw [List.length_map]; first | omega | (simp; done) | (simp; omega))) (fl_cons (n := 5) (m := 0) (k := 5) (by first | rfl | (rw [List.length_map]; first | omega | (simp; done) | (simp; omega))) fl_nil rfl) rfl)) <| rw_q (v := (Value.agg (segs [((ladGo (clampL ky) (readL u) j).px).map u64, ((ladGo (clampL ky) (readL u) j).pz).map u64]))) rfl (ev_load_segs [] [((ladGo (clampL ky) (readL u) j).px).map u64, ((ladGo (clampL ky) (readL u) j).pz).map u64] [] uT115 rfl ti115 s6 hm30.h0 fl_nil (fl_cons (n := 5) (m := 5) (k := 10) (by first | rfl | (rw [List.length_map]; first | omega | (simp; done) | (simp; omega))) (fl_cons (n := 5) (m := 0) (k := 5) (by first | rfl | (rw [List.length_map]; first | omega | (simp; done) | (simp; omega))) fl_nil rfl) rfl)) <| rw_q (v := (agg u64 (readL u))) rfl (ev_loadA uT112 rfl ti112 s5 hm30.h2 sZ) <| rw_c rfl (opR_call Tryd.func73 bd73 nm73 (args3 rfl rfl rfl) (c_step5 ((ladGo (clampL ky) (readL u) j).qx) ((ladGo (clampL ky) (readL u) j).qz) ((ladGo (clampL ky) (readL u) j).px) ((ladGo (clampL ky) (readL u) j).pz) (readL u) _ sD sD sD sD sD)) ?_
         rintro _ w38 ⟨rfl, _ew38⟩
         have hm38 := hm30.ext _ew38
         refine rM rfl rfl <| rw_q (v := (Value.agg (segs [((stepL ((ladGo (clampL ky) (readL u) j).qx) ((ladGo (clampL ky) (readL u) j).qz) ((ladGo (clampL ky) (readL u) j).px) ((ladGo (clampL ky) (readL u) j).pz) (readL u)).px).map u64, ((stepL ((ladGo (clampL ky) (readL u) j).qx) ((ladGo (clampL ky) (readL u) j).qz) ((ladGo (clampL ky) (readL u) j).px) ((ladGo (clampL ky) (readL u) j).pz) (readL u)).pz).map u64]))) rfl (ev_extract rfl rfl) <| rw_q (v := (Value.agg (segs [((stepL ((ladGo (clampL ky) (readL u) j).qx) ((ladGo (clampL ky) (readL u) j).qz) ((ladGo (clampL ky) (readL u) j).px) ((ladGo (clampL ky) (readL u) j).pz) (readL u)).qx).map u64, ((stepL ((ladGo (clampL ky) (readL u) j).qx) ((ladGo (clampL ky) (readL u) j).qz) ((ladGo (clampL ky) (readL u) j).px) ((ladGo (clampL ky) (readL u) j).pz) (readL u)).qz).map u64]))) rfl (ev_extract rfl rfl) <| rw_n (or_storeW_segs [((stepL ((ladGo (clampL ky) (readL u) j).qx) ((ladGo (clampL ky) (readL u) j).qz) ((ladGo (clampL ky) (readL u) j).px) ((ladGo (clampL ky) (readL u) j).pz) (readL u)).px).map u64, ((stepL ((ladGo (clampL ky) (readL u) j).qx) ((ladGo (clampL ky) (readL u) j).qz) ((ladGo (clampL ky) (readL u) j).px) ((ladGo (clampL ky) (readL u) j).pz) (readL u)).pz).map u64] ti115 s7 rfl (fl_cons (n := 5) (m := 5) (k := 10) (by first | rfl | (rw [List.length_map]; first | omega | (simp; done) | (simp; omega))) (fl_cons (n := 5) (m := 0) (k := 5) (by first | rfl | (rw [List.length_map]; first | omega | (simp; done) | (simp; omega))) fl_nil rfl) rfl) (so_cons (encA_one u64_one _) (so_cons (encA_one u64_one _) so_nil)) hm38.h1 (by rw [segs_size]; exact (fl_cons (n := 5) (m := 5) (k := 10) (by first | rfl | (rw [List.length_map]; first | omega | (simp; done) | (simp; omega))) (fl_cons (n := 5) (m := 0) (k := 5) (by first | rfl | (rw [List.length_map]; first | omega | (simp; done) | (simp; omega))) fl_nil rfl) rfl)) rfl) ?_
         rintro _ w40 uq40
         have hm40 : Mem w40 (restOf w0) [(c6, .cells (segs [((ladGo (clampL ky) (readL u) j).px).map u64, ((ladGo (clampL ky) (readL u) j).pz).map u64]) 115 (0, 0)), (c7, .cells (segs [((stepL ((ladGo (clampL ky) (readL u) j).qx) ((ladGo (clampL ky) (readL u) j).qz) ((ladGo (clampL ky) (readL u) j).px) ((ladGo (clampL ky) (readL u) j).pz) (readL u)).px).map u64, ((stepL ((ladGo (clampL ky) (readL u) j).qx) ((ladGo (clampL ky) (readL u) j).qz) ((ladGo (clampL ky) (readL u) j).px) ((ladGo (clampL ky) (readL u) j).pz) (readL u)).pz).map u64]) 115 (0, 0)), (b5, .cells (cl u64 (readL u)) 112 (0, 0)), (b4, .cells (cl u8 (List.replicate 32 0)) 23 (0, 0)), (b2, .cells (cl u8 (clampL ky)) 23 (0, 0))] := hm38.upd1 uq40
         refine rw_n (or_storeW_segs [((stepL ((ladGo (clampL ky) (readL u) j).qx) ((ladGo (clampL ky) (readL u) j).qz) ((ladGo (clampL ky) (readL u) j).px) ((ladGo (clampL ky) (readL u) j).pz) (readL u)).qx).map u64, ((stepL ((ladGo (clampL ky) (readL u) j).qx) ((ladGo (clampL ky) (readL u) j).qz) ((ladGo (clampL ky) (readL u) j).px) ((ladGo (clampL ky) (readL u) j).pz) (readL u)).qz).map u64] ti115 s6 rfl (fl_cons (n := 5) (m := 5) (k := 10) (by first | rfl | (rw [List.length_map]; first | omega | (simp; done) | (simp; omega))) (fl_cons (n := 5) (m := 0) (k := 5) (by first | rfl | (rw [List.length_map]; first | omega | (simp; done) | (simp; omega))) fl_nil rfl) rfl) (so_cons (encA_one u64_one _) (so_cons (encA_one u64_one _) so_nil)) hm40.h0 (by rw [segs_size]; exact (fl_cons (n := 5) (m := 5) (k := 10) (by first | rfl | (rw [List.length_map]; first | omega | (simp; done) | (simp; omega))) (fl_cons (n := 5) (m := 0) (k := 5) (by first | rfl | (rw [List.length_map]; first | omega | (simp; done) | (simp; omega))) fl_nil rfl) rfl)) rfl) ?_
         rintro _ w41 uq41
         have hm41 : Mem w41 (restOf w0) [(c6, .cells (segs [((stepL ((ladGo (clampL ky) (readL u) j).qx) ((ladGo (clampL ky) (readL u) j).qz) ((ladGo (clampL ky) (readL u) j).px) ((ladGo (clampL ky) (readL u) j).pz) (readL u)).qx).map u64, ((stepL ((ladGo (clampL ky) (readL u) j).qx) ((ladGo (clampL ky) (readL u) j).qz) ((ladGo (clampL ky) (readL u) j).px) ((ladGo (clampL ky) (readL u) j).pz) (readL u)).qz).map u64]) 115 (0, 0)), (c7, .cells (segs [((stepL ((ladGo (clampL ky) (readL u) j).qx) ((ladGo (clampL ky) (readL u) j).qz) ((ladGo (clampL ky) (readL u) j).px) ((ladGo (clampL ky) (readL u) j).pz) (readL u)).px).map u64, ((stepL ((ladGo (clampL ky) (readL u) j).qx) ((ladGo (clampL ky) (readL u) j).qz) ((ladGo (clampL ky) (readL u) j).px) ((ladGo (clampL ky) (readL u) j).pz) (readL u)).pz).map u64]) 115 (0, 0)), (b5, .cells (cl u64 (readL u)) 112 (0, 0)), (b4, .cells (cl u8 (List.replicate 32 0)) 23 (0, 0)), (b2, .cells (cl u8 (clampL ky)) 23 (0, 0))] := hm40.upd0 uq41
         refine rw_nil (kBlk_normal (cw_region ?_))
         refine rM rfl s8 <| rw_q rfl (ev_i64_sub (b := 1) rfl rfl oM oM) <| rw_q rfl (ev_assign (v := (i64 ((254 - (j : Int)) - 1))) rfl) <| rN ?_
         exact ⟨⟨j + 1, oM, s0, s1, s2, s3, s4, s5, s6, s7, (show i64 (254 - (j : Int) - 1) = i64 (254 - ((j + 1 : Nat) : Int)) from congrArg i64 oM), (by rw [ladGo_f (k := (clampL ky)) (x1 := (readL u)) (j := j) hc33]; exact hm41)⟩, (by show (RowKit.intOf (i64 (254 - (j : Int) - 1)) + 1).toNat < (RowKit.intOf _ + 1).toNat; rw [z8]; simp only [RowKit.intOf, i64]; omega)⟩
     · -- false
       have hc31p := of_decide_eq_false hc31
       obtain rfl : j = 255 := by omega
       refine cw_exit ?_
       refine kThen_exit (kThen_exit (kBlk_hit ?_))
       refine cw_seq <| cw_draw [(0, false), (1, false), (2, false), (3, false), (4, false)] 5 (by kernel_rfl) <| dw_q rfl rfl (fun _ _hx => ev_fa (r := 0) uT115 rfl (by first | rfl | omega) ti112 rfl s6) <| dw_q (v := (agg u64 ((ladGo (clampL ky) (readL u) 255).px))) rfl rfl (fun _ _hx => ev_load_seg1 (f := u64) [] [((ladGo (clampL ky) (readL u) 255).pz).map u64] ((ladGo (clampL ky) (readL u) 255).px) uT112 rfl ti112 rfl (hm30.ext _hx).h0 fl_nil (by first | rfl | omega | (simp; done) | (simp; omega))) <| dw_q rfl rfl (fun _ _hx => ev_fa (r := 5) uT115 rfl (by first | rfl | omega) ti112 rfl s6) <| dw_q (v := (agg u64 ((ladGo (clampL ky) (readL u) 255).pz))) rfl rfl (fun _ _hx => ev_load_seg1 (f := u64) [((ladGo (clampL ky) (readL u) 255).px).map u64] [] ((ladGo (clampL ky) (readL u) 255).pz) uT112 rfl ti112 rfl (hm30.ext _hx).h0 (fl_cons (n := 5) (m := 0) (k := 5) (by first | rfl | (rw [List.length_map]; first | omega | (simp; done) | (simp; omega))) fl_nil rfl) (by first | rfl | omega | (simp; done) | (simp; omega))) ?_
       refine dw_x (v := (agg u64 (invL ((ladGo (clampL ky) (readL u) 255).pz)))) rfl rfl (fun w42 _ew42 => OpR.mono (opR_call Tryd.func75 bd75 nm75 (args1 rfl) (c_inv5 ((ladGo (clampL ky) (readL u) 255).pz) _ sD)) (by rintro _ w43 ⟨rfl, _ew43⟩; exact ⟨rfl, _ew43⟩)) ?_
       refine dw_nil (fun w45 _ew45 => ?_)
       have hm45 := hm30.ext _ew45
       refine rw_c rfl (opR_call Tryd.func74 bd74 nm74 (args2 rfl rfl) (c_times5 ((ladGo (clampL ky) (readL u) 255).px) (invL ((ladGo (clampL ky) (readL u) 255).pz)) _ sD sD)) ?_
       rintro _ w46 ⟨rfl, _ew46⟩
       have hm46 := hm45.ext _ew46
       refine rw_c rfl (opR_call Tryd.func76 bd76 nm76 (args1 rfl) (c_ebytes (timesL ((ladGo (clampL ky) (readL u) 255).px) (invL ((ladGo (clampL ky) (readL u) 255).pz))) _ sD)) ?_
       rintro _ w48 ⟨rfl, _ew48⟩
       have hm48 := hm46.ext _ew48
       refine rw_n (or_store_agg (f := u8) (l := bytesE (timesL ((ladGo (clampL ky) (readL u) 255).px) (invL ((ladGo (clampL ky) (readL u) 255).pz)))) u8_one ti23 s4 rfl sD hm48.h3 sZ rfl) ?_
       rintro _ w50 uq50
       have hm50 := hm48.upd3 uq50
       refine rN (cw_ret ?_)
       refine fnPost_ret [(agg u8 (bytesE (timesL ((ladGo (clampL ky) (readL u) 255).px) (invL ((ladGo (clampL ky) (readL u) 255).pz)))))] ⟨⟨_, s4, loadVar_run uT23 rfl ti23 hm50.h3 sZ⟩, trivial⟩ ?_
       exact ⟨by unfold multL invL; rfl, hm50.toExt⟩

theorem c_public5 (ky : List (BitVec 8)) (w0 : World)  (hk : ky.length = 32) : CallsR Tryd.prog 38 #[(agg u8 ky)] w0 (fun r w1 => r = (agg u8 (multL ky base9)) ∧ Ext w0 w1) := by
 refine callsR_of_cw (args := [(agg u8 ky)]) Tryd.func38 rfl Tryd.ntmps38 Tryd.results38 rfl ?_
 have hm0 : Mem w0 (restOf w0) [] := Mem.of_world w0
 refine sR <| rw_c rfl (or_box_agg (f := u8) (l := ky) hm0 rfl) ?_
 rintro _ w1 ⟨b1, rfl, _ew1, hm1⟩
 refine rw_c rfl (or_alloc_agg hm1 ti23) ?_
 rintro _ w2 ⟨b2, rfl, _ew2, hm2⟩
 refine rN (sR ?_)
 refine rw_q (v := (agg u8 ky)) rfl (ev_loadA uT23 rfl ti23 rfl hm2.h1 sZ) <| rw_q rfl (ev_build_pa (c := (cl u8 ([9#8, 0#8, 0#8, 0#8, 0#8, 0#8, 0#8, 0#8, 0#8, 0#8, 0#8, 0#8, 0#8, 0#8, 0#8, 0#8, 0#8, 0#8, 0#8, 0#8, 0#8, 0#8, 0#8, 0#8, 0#8, 0#8, 0#8, 0#8, 0#8, 0#8, 0#8, 0#8]))) ti23 uT23 ti5 (pm_cons (i := 0) (v := (u8 9#8)) (cs := #[(u8 9#8)]) rfl rfl pm_nil) (by kernel_rfl)) <| rw_c rfl (opR_call Tryd.func52 bd52 nm52 (args2 rfl rfl) (c_mult5 ky ([9#8, 0#8, 0#8, 0#8, 0#8, 0#8, 0#8, 0#8, 0#8, 0#8, 0#8, 0#8, 0#8, 0#8, 0#8, 0#8, 0#8, 0#8, 0#8, 0#8, 0#8, 0#8, 0#8, 0#8, 0#8, 0#8, 0#8, 0#8, 0#8, 0#8, 0#8, 0#8]) _ sD sD)) ?_
 rintro _ w3 ⟨rfl, _ew3⟩
 have hm3 := hm2.ext _ew3
 refine rw_n (or_store_agg (f := u8) (l := multL ky ([9#8, 0#8, 0#8, 0#8, 0#8, 0#8, 0#8, 0#8, 0#8, 0#8, 0#8, 0#8, 0#8, 0#8, 0#8, 0#8, 0#8, 0#8, 0#8, 0#8, 0#8, 0#8, 0#8, 0#8, 0#8, 0#8, 0#8, 0#8, 0#8, 0#8, 0#8, 0#8])) u8_one ti23 rfl rfl sD hm3.h0 sZ rfl) ?_
 rintro _ w5 uq5
 have hm5 := hm3.upd0 uq5
 refine rN (cw_ret ?_)
 refine fnPost_ret [(agg u8 (multL ky ([9#8, 0#8, 0#8, 0#8, 0#8, 0#8, 0#8, 0#8, 0#8, 0#8, 0#8, 0#8, 0#8, 0#8, 0#8, 0#8, 0#8, 0#8, 0#8, 0#8, 0#8, 0#8, 0#8, 0#8, 0#8, 0#8, 0#8, 0#8, 0#8, 0#8, 0#8, 0#8])))] ⟨⟨_, rfl, loadVar_run uT23 rfl ti23 hm5.h0 sZ⟩, trivial⟩ ?_
 exact ⟨rfl, hm5.toExt⟩

theorem c_new5 (ky : List (BitVec 8)) (w0 : World)  (hk : ky.length = 32) : CallsR Tryd.prog 24 #[(agg u8 ky)] w0 (fun r w1 => r = (Value.agg (segs [ky.map u8, (multL ky base9).map u8])) ∧ Ext w0 w1) := by
 refine callsR_of_cw (args := [(agg u8 ky)]) Tryd.func24 rfl Tryd.ntmps24 Tryd.results24 rfl ?_
 have hm0 : Mem w0 (restOf w0) [] := Mem.of_world w0
 refine sR <| rw_c rfl (or_box_agg (f := u8) (l := ky) hm0 rfl) ?_
 rintro _ w1 ⟨b1, rfl, _ew1, hm1⟩
 refine rw_c rfl (or_allocX hm1 ti43) ?_
 rintro _ w2 ⟨b2, rfl, _ew2, hm2⟩
 refine rN (cw_seq ?_)
 refine cw_draw [(0, false), (1, false), (2, false)] 3 (by kernel_rfl) <| dw_q (v := (agg u8 ky)) rfl rfl (fun _ _hx => ev_loadA uT23 rfl ti23 rfl (hm2.ext _hx).h1 sZ) <| dw_q (v := (agg u8 ky)) rfl rfl (fun _ _hx => ev_loadA uT23 rfl ti23 rfl (hm2.ext _hx).h1 sZ) <| dw_x (v := (agg u8 (multL ky base9))) rfl rfl (fun w3 _ew3 => OpR.mono (opR_call Tryd.func38 bd38 nm38 (args1 rfl) (c_public5 ky _ sD)) (by rintro _ w4 ⟨rfl, _ew4⟩; exact ⟨rfl, _ew4⟩)) ?_
 refine dw_nil (fun w6 _ew6 => ?_)
 have hm6 := hm2.ext _ew6
 refine rw_q rfl (ev_build_pt (c := (segs [ky.map u8, (multL ky base9).map u8])) (pl := [(0, 32), (32, 32)]) ti43 uT43 (by kernel_rfl) (pm_cons (i := 0) (v := (agg u8 ky)) (cs := (cl u8 ky)) rfl rfl (pm_cons (i := 1) (v := (agg u8 (multL ky base9))) (cs := (cl u8 (multL ky base9))) rfl rfl pm_nil)) (fillA_segs [] [(List.replicate 32 0).map u8] [ky.map u8] [(List.replicate 32 0).map u8] rfl (segs_one1 u8 _).symm fl_nil (fl_cons (n := 32) (m := 0) (k := 32) (by first | rfl | (rw [List.length_map]; first | omega | (simp; done) | (simp; omega))) fl_nil rfl) (fl_cons (n := 32) (m := 0) (k := 32) (by first | rfl | (rw [List.length_map]; first | omega | (simp; done) | (simp; omega))) fl_nil rfl) (fillA_segs [ky.map u8] [(List.replicate 32 0).map u8] [(multL ky base9).map u8] [] rfl (segs_one1 u8 _).symm (fl_cons (n := 32) (m := 0) (k := 32) (by first | rfl | (rw [List.length_map]; first | omega | (simp; done) | (simp; omega))) fl_nil rfl) (fl_cons (n := 32) (m := 0) (k := 32) (by first | rfl | (rw [List.length_map]; first | omega | (simp; done) | (simp; omega))) fl_nil rfl) (fl_cons (n := 32) (m := 0) (k := 32) (by first | rfl | (rw [List.length_map]; first | omega | (simp; done) | (simp; omega))) fl_nil rfl) fillA_nil))) <| rw_n (or_storeW_segs [ky.map u8, (multL ky base9).map u8] ti43 rfl rfl (fl_cons (n := 32) (m := 32) (k := 64) (by first | rfl | (rw [List.length_map]; first | omega | (simp; done) | (simp; omega))) (fl_cons (n := 32) (m := 0) (k := 32) (by first | rfl | (rw [List.length_map]; first | omega | (simp; done) | (simp; omega))) fl_nil rfl) rfl) (so_cons (encA_one u8_one _) (so_cons (encA_one u8_one _) so_nil)) hm6.h0 rfl rfl) ?_
 rintro _ w7 uq7
 have hm7 : Mem w7 (restOf w0) [(b2, .cells (segs [ky.map u8, (multL ky base9).map u8]) 43 (0, 0)), (b1, .cells (cl u8 ky) 23 (0, 0))] := hm6.upd0 uq7
 refine rN (cw_ret ?_)
 refine fnPost_ret [(Value.agg (segs [ky.map u8, (multL ky base9).map u8]))] ⟨⟨_, rfl, loadVar_segs [ky.map u8, (multL ky base9).map u8] uT43 rfl ti43 hm7.h0 (fl_cons (n := 32) (m := 32) (k := 64) (by first | rfl | (rw [List.length_map]; first | omega | (simp; done) | (simp; omega))) (fl_cons (n := 32) (m := 0) (k := 32) (by first | rfl | (rw [List.length_map]; first | omega | (simp; done) | (simp; omega))) fl_nil rfl) rfl)⟩, trivial⟩ ?_
 exact ⟨rfl, hm7.toExt⟩

theorem c_shared5 (own pub ot : List (BitVec 8)) (w0 : World)  (ho : own.length = 32) (hp : pub.length = 32) (ht : ot.length = 32) : CallsR Tryd.prog 35 #[(Value.agg (segs [own.map u8, pub.map u8])), (agg u8 ot)] w0 (fun r w1 => r = (agg u8 (multL own ot)) ∧ Ext w0 w1) := by
 refine callsR_of_cw (args := [(Value.agg (segs [own.map u8, pub.map u8])), (agg u8 ot)]) Tryd.func35 rfl Tryd.ntmps35 Tryd.results35 rfl ?_
 have hm0 : Mem w0 (restOf w0) [] := Mem.of_world w0
 refine sR <| rw_c rfl (or_boxX (cs := (segs [own.map u8, pub.map u8])) hm0 rfl) ?_
 rintro _ w1 ⟨b2, rfl, _ew1, hm1⟩
 refine rw_c rfl (or_box_agg (f := u8) (l := ot) hm1 rfl) ?_
 rintro _ w2 ⟨b3, rfl, _ew2, hm2⟩
 refine rw_c rfl (or_alloc_agg hm2 ti23) ?_
 rintro _ w3 ⟨b4, rfl, _ew3, hm3⟩
 refine rN (sR ?_)
 refine rw_q rfl (ev_fa (r := 0) uT43 rfl (by first | rfl | omega) ti23 rfl rfl) <| rw_q (v := (agg u8 own)) rfl (ev_load_seg1 (f := u8) [] [pub.map u8] own uT23 rfl ti23 rfl hm3.h2 fl_nil (by first | rfl | omega | (simp; done) | (simp; omega))) <| rw_q (v := (agg u8 ot)) rfl (ev_loadA uT23 rfl ti23 rfl hm3.h1 sZ) <| rw_c rfl (opR_call Tryd.func52 bd52 nm52 (args2 rfl rfl) (c_mult5 own ot _ sD sD)) ?_
 rintro _ w4 ⟨rfl, _ew4⟩
 have hm4 := hm3.ext _ew4
 refine rw_n (or_store_agg (f := u8) (l := multL own ot) u8_one ti23 rfl rfl sD hm4.h0 sZ rfl) ?_
 rintro _ w6 uq6
 have hm6 := hm4.upd0 uq6
 refine rN (cw_ret ?_)
 refine fnPost_ret [(agg u8 (multL own ot))] ⟨⟨_, rfl, loadVar_run uT23 rfl ti23 hm6.h0 sZ⟩, trivial⟩ ?_
 exact ⟨rfl, hm6.toExt⟩


end Go.Proofs.YtmiagmbgfhakgaaDoor

