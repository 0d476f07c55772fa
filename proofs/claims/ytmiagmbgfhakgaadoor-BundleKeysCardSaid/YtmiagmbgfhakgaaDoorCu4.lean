/- Contracts: the document's product of a point. Conditions: none beyond those that each theorem states. -/
import Derived.Test.YtmiagmbgfhakgaaDoorCu3
import Derived.Test.YtmiagmbgfhakgaaDoorCuO
import Derived.Test.YtmiagmbgfhakgaaDoorFwR
namespace Go.Proofs.YtmiagmbgfhakgaaDoor
set_option linter.unusedVariables false
set_option linter.unusedSimpArgs false
abbrev LJ (ky u : List (BitVec 8)) (j : Nat) : LadI := lad16 (clampR ky) (ReadR u) j
abbrev LA2 (ky u : List (BitVec 8)) (j : Nat) : List Int := AddR (LJ ky u j).x2 (LJ ky u j).z2
abbrev LA3 (ky u : List (BitVec 8)) (j : Nat) : List Int := AddR (LJ ky u j).x3 (LJ ky u j).z3
abbrev LB2 (ky u : List (BitVec 8)) (j : Nat) : List Int := LessR (LJ ky u j).x2 (LJ ky u j).z2
abbrev LB3 (ky u : List (BitVec 8)) (j : Nat) : List Int := LessR (LJ ky u j).x3 (LJ ky u j).z3
attribute [local irreducible] TimesR AddR LessR invRGo ReadR WriteR carryR lad16 stepR clampR timesL sumL lessL invGo readGo readL bytesE multL ladGo multR
set_option maxHeartbeats 2000000 in
theorem c_rmult (ky u : List (BitVec 8)) (w0 : World)  (hk : ky.length = 32) (hu : u.length = 32) : CallsR Tryd.prog 37 #[(agg u8 ky), (agg u8 u)] w0 (fun r w1 => r = (agg u8 (multR ky u)) ∧ Ext w0 w1) := by
 refine callsR_of_cw (args := [(agg u8 ky), (agg u8 u)]) Tryd.func37 rfl Tryd.ntmps37 Tryd.results37 rfl ?_
 have hm0 : Mem w0 (restOf w0) [] := Mem.of_world w0
 have hcl := clampR_length ky
 refine sR ?_
 refine rw_c rfl (or_box_agg (f := u8) (l := ky) hm0 rfl) ?_
 rintro _ w1 ⟨b2, rfl, _ew1, hm1⟩
 refine rw_c rfl (or_box_agg (f := u8) (l := u) hm1 rfl) ?_
 rintro _ w2 ⟨b3, rfl, _ew2, hm2⟩
 refine rw_c rfl (or_alloc_agg hm2 ti23) ?_
 rintro _ w3 ⟨b4, rfl, _ew3, hm3⟩
 refine rN (sR ?_)
 refine rw_q rfl (ev_ia_arr (r := 0) (i := 0) oM uT23 ti5 rfl rfl oM oM) <| rw_q (v := (u8 (ky.getD 0 0))) rfl (ev_load1 uT5 rfl rfl hm3.h2 (get_clD _ _ 0 sD)) <| rw_q rfl (ev_u8_quo (b := 8#8) rfl rfl (by decide)) <| rw_q rfl (ev_u8_mul (b := 8#8) rfl rfl) <| rw_q rfl (ev_ia_arr (r := 0) (i := 0) oM uT23 ti5 rfl rfl oM oM) <| rw_n (or_store_cl (f := u8) (a := ((ky.getD 0 0) / 8#8) * 8#8) u8_one ti5 rfl rfl hm3.h2 sD (.inl (Nat.zero_le _))) ?_
 rintro _ w4 uq4
 have hm4 := hm3.upd2 uq4
 refine rN (sR ?_)
 refine rw_q rfl (ev_ia_arr (r := 31) (i := 31) oM uT23 ti5 rfl rfl oM oM) <| rw_q (v := (u8 ((ky.set 0 (((ky.getD 0 0) / 8#8) * 8#8)).getD 31 0))) rfl (ev_load1 uT5 rfl rfl hm4.h2 (get_clD _ _ 0 sD)) <| rw_q rfl (ev_u8_rem (b := 64#8) rfl rfl (by decide)) <| rw_q rfl (ev_u8_add (b := 64#8) rfl rfl) <| rw_q rfl (ev_ia_arr (r := 31) (i := 31) oM uT23 ti5 rfl rfl oM oM) <| rw_n (or_store_cl (f := u8) (a := (((ky.set 0 (((ky.getD 0 0) / 8#8) * 8#8)).getD 31 0) % 64#8) + 64#8) u8_one ti5 rfl rfl hm4.h2 sD (.inl (Nat.zero_le _))) ?_
 rintro _ w5 uq5
 have hm5 := hm4.upd2 uq5
 refine rN ?_
 refine CW.abs (fun g => g 0 = (agg u8 ky) ∧ g 1 = (agg u8 u) ∧ g 2 = (ptr b2 0) ∧ g 3 = (ptr b3 0) ∧ g 4 = (ptr b4 0) ∧ True) ⟨rfl, rfl, rfl, rfl, rfl, trivial⟩ ?_
 rintro fr6 ⟨s0, s1, s2, s3, s4, _⟩
 refine cw_seq ?_
 have hck : (ky.set 0 (((ky.getD 0 0) / 8#8) * 8#8)).set 31 ((((ky.set 0 (((ky.getD 0 0) / 8#8) * 8#8)).getD 31 0) % 64#8) + 64#8) = clampR ky := by unfold clampR; rfl
 have hmK7 := hm5
 rw [hck] at hmK7
 refine cw_region <| rw_q (v := (agg u8 u)) rfl (ev_loadA uT23 rfl ti23 s3 hmK7.h1 sZ) <| rw_c rfl (opR_call Tryd.func53 bd53 nm53 (args1 rfl) (c_rread u _ sD)) ?_
 rintro _ w8 ⟨rfl, _ew8⟩
 have hm8 := hmK7.ext _ew8
 refine rw_c rfl (or_alloc_agg hm8 ti83) ?_
 rintro _ w10 ⟨b5, rfl, _ew10, hm10⟩
 refine rw_n (or_store_agg (f := i64) (l := ReadR u) i64_one ti83 rfl rfl sD hm10.h0 sZ rfl) ?_
 rintro _ w11 uq11
 have hm11 := hm10.upd0 uq11
 refine rN (cw_seq ?_)
 refine cw_drawE (by kernel_rfl) ?_
 have hFM12 : Mem w11 (restOf w0) ([] ++ [(b5, .cells (cl i64 (ReadR u)) 83 (0, 0)), (b4, .cells (cl u8 (List.replicate 32 0)) 23 (0, 0)), (b3, .cells (cl u8 u) 23 (0, 0)), (b2, .cells (cl u8 (clampR ky)) 23 (0, 0))]) := hm11
 obtain ⟨RM12, hRM12⟩ : ∃ R2, R2 = Rest.add (restOf w0) [(b5, .cells (cl i64 (ReadR u)) 83 (0, 0)), (b4, .cells (cl u8 (List.replicate 32 0)) 23 (0, 0)), (b3, .cells (cl u8 u) 23 (0, 0)), (b2, .cells (cl u8 (clampR ky)) 23 (0, 0))] := ⟨_, rfl⟩
 have M120 : Mem w11 RM12 [] := by rw [hRM12]; exact Mem.give hFM12
 have ho13 : RM12.blk b5 = some (.cells (cl i64 (ReadR u)) 83 (0, 0)) := by rw [hRM12]; exact Mem.addOwn hFM12 (List.Mem.head _)
 have ho14 : RM12.blk b4 = some (.cells (cl u8 (List.replicate 32 0)) 23 (0, 0)) := by rw [hRM12]; exact Mem.addOwn hFM12 (List.Mem.tail _ (List.Mem.head _))
 have ho15 : RM12.blk b3 = some (.cells (cl u8 u) 23 (0, 0)) := by rw [hRM12]; exact Mem.addOwn hFM12 (List.Mem.tail _ (List.Mem.tail _ (List.Mem.head _)))
 have ho16 : RM12.blk b2 = some (.cells (cl u8 (clampR ky)) 23 (0, 0)) := by rw [hRM12]; exact Mem.addOwn hFM12 (List.Mem.tail _ (List.Mem.tail _ (List.Mem.tail _ (List.Mem.head _))))
 refine re_allocsM [4, 5, 6, 7] [(0, false), (1, false), (2, false), (3, false)] [(8, true), (9, true), (10, true)] 11 (luN [(4, 6), (5, 7), (6, 8), (7, 9)]) (luN [(4, 83), (5, 83), (6, 83), (7, 83)]) (luV [(4, (agg i64 (List.replicate 16 0))), (5, (agg i64 (List.replicate 16 0))), (6, (agg i64 (List.replicate 16 0))), (7, (agg i64 (List.replicate 16 0)))]) (fun g => g 0 = (agg u8 ky) ∧ g 1 = (agg u8 u) ∧ g 2 = (ptr b2 0) ∧ g 3 = (ptr b3 0) ∧ g 4 = (ptr b4 0) ∧ g 5 = (ptr b5 0) ∧ g 33 = (agg i64 ([1, 0, 0, 0, 0, 0, 0, 0, 0, 0, 0, 0, 0, 0, 0, 0])) ∧ g 34 = (agg i64 (List.replicate 16 0)) ∧ g 35 = (agg i64 (ReadR u)) ∧ g 36 = (agg i64 ([1, 0, 0, 0, 0, 0, 0, 0, 0, 0, 0, 0, 0, 0, 0, 0])) ∧ True) M120 rfl (by decide) (by kernel_rfl) (by kernel_rfl) (ao_cons ⟨⟨_, _, _, rfl⟩, rfl, _, _, ti83⟩ (ao_cons ⟨⟨_, _, _, rfl⟩, rfl, _, _, ti83⟩ (ao_cons ⟨⟨_, _, _, rfl⟩, rfl, _, _, ti83⟩ (ao_cons ⟨⟨_, _, _, rfl⟩, rfl, _, _, ti83⟩ ao_nil)))) (by decide) (fun sx17 hS17 => ?_) ?_
 · skip
   refine dk_q rfl rfl (fun w _H _hx => ev_build_pa (c := (cl i64 ([1, 0, 0, 0, 0, 0, 0, 0, 0, 0, 0, 0, 0, 0, 0, 0]))) ti83 uT83 ti2 (pm_cons (i := 0) (v := (i64 1)) (cs := #[(i64 1)]) rfl rfl pm_nil) (by kernel_rfl)) <| dk_q rfl rfl (fun w _H _hx => ev_build_arr (ps := []) (c := (cl i64 (List.replicate 16 0))) ti83 uT83 ti2 (by simp) rfl) <| dk_q (v := (agg i64 (ReadR u))) rfl rfl (fun w _H _hx => ev_loadA uT83 rfl ti83 rfl (_hx.rest _ _ ho13) sZ) <| dk_q rfl rfl (fun w _H _hx => ev_build_pa (c := (cl i64 ([1, 0, 0, 0, 0, 0, 0, 0, 0, 0, 0, 0, 0, 0, 0, 0]))) ti83 uT83 ti2 (pm_cons (i := 0) (v := (i64 1)) (cs := #[(i64 1)]) rfl rfl pm_nil) (by kernel_rfl)) ?_
   exact hS17 _ ⟨s0, s1, s2, s3, s4, rfl, rfl, rfl, rfl, rfl, trivial⟩
 rintro g18 ⟨s0, s1, s2, s3, s4, s5, s33, s34, s35, s36, _⟩ g19 w20 ps20 hgo20 hps20 hmm20
 replace s0 := (hgo20 0 (by decide)).trans s0
 replace s1 := (hgo20 1 (by decide)).trans s1
 replace s2 := (hgo20 2 (by decide)).trans s2
 replace s3 := (hgo20 3 (by decide)).trans s3
 replace s4 := (hgo20 4 (by decide)).trans s4
 replace s5 := (hgo20 5 (by decide)).trans s5
 replace s33 := (hgo20 33 (by decide)).trans s33
 replace s34 := (hgo20 34 (by decide)).trans s34
 replace s35 := (hgo20 35 (by decide)).trans s35
 replace s36 := (hgo20 36 (by decide)).trans s36
 have s6 : g19 6 = ptr (ps20 4) 0 := hps20 4 (by decide)
 have s7 : g19 7 = ptr (ps20 5) 0 := hps20 5 (by decide)
 have s8 : g19 8 = ptr (ps20 6) 0 := hps20 6 (by decide)
 have s9 : g19 9 = ptr (ps20 7) 0 := hps20 7 (by decide)
 have hm20 : Mem w20 RM12 [((ps20 4), .cells (cl i64 (List.replicate 16 0)) 83 (0, 0)), ((ps20 5), .cells (cl i64 (List.replicate 16 0)) 83 (0, 0)), ((ps20 6), .cells (cl i64 (List.replicate 16 0)) 83 (0, 0)), ((ps20 7), .cells (cl i64 (List.replicate 16 0)) 83 (0, 0))] := hmm20
 generalize ps20 4 = b6 at hm20 s6
 generalize ps20 5 = b7 at hm20 s7
 generalize ps20 6 = b8 at hm20 s8
 generalize ps20 7 = b9 at hm20 s9
 refine dk_n rfl (fun w21 _ew21 => ?_)
 have hm21 := hm20.ext _ew21
 refine OpR.mono (or_store_agg (f := i64) (l := [1, 0, 0, 0, 0, 0, 0, 0, 0, 0, 0, 0, 0, 0, 0, 0]) i64_one ti83 s6 s33 sD hm21.h0 sZ rfl) ?_
 rintro _ w22 uq22
 have hm22 := hm21.upd0 uq22
 refine ⟨⟨_, hm22⟩, ?_⟩
 refine dk_n rfl (fun w23 _ew23 => ?_)
 have hm23 := hm22.ext _ew23
 refine OpR.mono (or_store_agg (f := i64) (l := List.replicate 16 0) i64_one ti83 s7 s34 sD hm23.h1 sZ rfl) ?_
 rintro _ w24 uq24
 have hm24 := hm23.upd1 uq24
 refine ⟨⟨_, hm24⟩, ?_⟩
 refine dk_n rfl (fun w25 _ew25 => ?_)
 have hm25 := hm24.ext _ew25
 refine OpR.mono (or_store_agg (f := i64) (l := ReadR u) i64_one ti83 s8 s35 sD hm25.h2 sZ rfl) ?_
 rintro _ w26 uq26
 have hm26 := hm25.upd2 uq26
 refine ⟨⟨_, hm26⟩, ?_⟩
 refine dw_nil (fun w27 _ew27 => ?_)
 have hm27 := hm26.ext _ew27
 have hX28 := hm27
 rw [hRM12] at hX28
 have hm29 : Mem w27 (restOf w0) [(b6, .cells (cl i64 ([1, 0, 0, 0, 0, 0, 0, 0, 0, 0, 0, 0, 0, 0, 0, 0])) 83 (0, 0)), (b7, .cells (cl i64 (List.replicate 16 0)) 83 (0, 0)), (b8, .cells (cl i64 (ReadR u)) 83 (0, 0)), (b9, .cells (cl i64 (List.replicate 16 0)) 83 (0, 0)), (b5, .cells (cl i64 (ReadR u)) 83 (0, 0)), (b4, .cells (cl u8 (List.replicate 32 0)) 23 (0, 0)), (b3, .cells (cl u8 u) 23 (0, 0)), (b2, .cells (cl u8 (clampR ky)) 23 (0, 0))] := (by
   have hT := Mem.back hFM12 hX28
   simp only [List.append_assoc, List.cons_append, List.nil_append, List.append_nil] at hT ⊢
   exact hT)
 refine rw_n (or_store_agg (f := i64) (l := [1, 0, 0, 0, 0, 0, 0, 0, 0, 0, 0, 0, 0, 0, 0, 0]) i64_one ti83 s9 s36 sD hm29.h3 sZ rfl) ?_
 rintro _ w30 uq30
 have hm30 := hm29.upd3 uq30
 refine rN (cw_seq (sR ?_))
 refine rw_q rfl (ev_assign (v := (i64 254)) rfl) ?_
 refine rN (cw_block ?_)
 refine cw_loop (fun g wv => ∃ (j : Nat), (j ≤ 255) ∧ g 0 = (agg u8 ky) ∧ g 1 = (agg u8 u) ∧ g 2 = (ptr b2 0) ∧ g 3 = (ptr b3 0) ∧ g 4 = (ptr b4 0) ∧ g 5 = (ptr b5 0) ∧ g 6 = (ptr b6 0) ∧ g 7 = (ptr b7 0) ∧ g 8 = (ptr b8 0) ∧ g 9 = (ptr b9 0) ∧ g 10 = (i64 (254 - (j : Int))) ∧ Mem wv (restOf w0) [(b6, .cells (cl i64 ((LJ ky u j).x2)) 83 (0, 0)), (b7, .cells (cl i64 ((LJ ky u j).z2)) 83 (0, 0)), (b8, .cells (cl i64 ((LJ ky u j).x3)) 83 (0, 0)), (b9, .cells (cl i64 ((LJ ky u j).z3)) 83 (0, 0)), (b5, .cells (cl i64 (ReadR u)) 83 (0, 0)), (b4, .cells (cl u8 (List.replicate 32 0)) 23 (0, 0)), (b2, .cells (cl u8 (clampR ky)) 23 (0, 0))]) (fun g wv => (RowKit.intOf (g 10) + 1).toNat) ?_ ?_
 have hm31 := Mem.drop ([(b3, .cells (cl u8 u) 23 (0, 0))]) _ (Mem.pick [_, _, _, _, _, _] [_] _ hm30)
 · exact ⟨0, oM, s0, s1, s2, s3, s4, s5, s6, s7, s8, s9, rfl, (by unfold LJ; rw [lad16_zero]; exact hm31)⟩
 · rintro fr32 w33 ⟨j, hj, s0, s1, s2, s3, s4, s5, s6, s7, s8, s9, s10, hm33⟩
   have z10 := s10
   have hL := lad16_good (clampR ky) (goodR_read u) j
   have hLx2 := hL.x2.len
   have hLz2 := hL.z2.len
   have hLx3 := hL.x3.len
   have hLz3 := hL.z3.len
   refine cw_seq (sR ?_)
   refine rM rfl s10 <| rw_q rfl (ev_i64_geq (b := 0) rfl rfl) ?_
   refine rN ?_
   refine cw_cond rfl (fun hc34 => ?_) (fun hc34 => ?_)
   · -- true
     have hc34p := of_decide_eq_true hc34
     refine cw_skip (kThen_normal (cw_seq (cw_block (sR ?_))))
     refine rM rfl s10 <| rw_q rfl (EvQ.cast (congrArg i64 (show (254 - (j : Int)) / 8 = (((254 - j) / 8 : Nat) : Int) by omega)) (ev_i64_quo (b := 8) rfl rfl oM oM oM)) <| rw_q rfl (ev_ia_arr (r := ((254 - j) / 8)) oM uT23 ti5 s2 rfl oM sD) <| rw_q (v := (u8 ((clampR ky).getD ((254 - j) / 8) 0))) rfl (ev_load1 uT5 rfl rfl ((Mem.pick [_, _, _, _, _, _] [_] _ hm33)).h0 (get_clD _ _ 0 sD)) <| rM rfl s10 <| rw_q rfl (EvQ.cast (congrArg i64 (show (254 - (j : Int)) % 8 = (((254 - j) % 8 : Nat) : Int) by omega)) (ev_i64_rem (b := 8) rfl rfl oM oM oM)) ?_
     refine rw_q rfl (ev_u8_shr rfl rfl oM) <| rw_q rfl (ev_u8_and (b := 1#8) rfl rfl) <| rA rfl rfl ?_
     refine rN ?_
     refine CW.abs (fun g => g 0 = (agg u8 ky) ∧ g 1 = (agg u8 u) ∧ g 2 = (ptr b2 0) ∧ g 3 = (ptr b3 0) ∧ g 4 = (ptr b4 0) ∧ g 5 = (ptr b5 0) ∧ g 6 = (ptr b6 0) ∧ g 7 = (ptr b7 0) ∧ g 8 = (ptr b8 0) ∧ g 9 = (ptr b9 0) ∧ g 10 = (i64 (254 - (j : Int))) ∧ g 11 = (u8 ((((clampR ky).getD ((254 - j) / 8) 0) >>> (((254 - j) % 8 : Nat) : Int).toNat) &&& 1#8)) ∧ g 38 = (bl (decide (0 ≤ (254 - (j : Int))))) ∧ True) ⟨s0, s1, s2, s3, s4, s5, s6, s7, s8, s9, s10, rfl, rfl, trivial⟩ ?_
     rintro fr35 ⟨s0, s1, s2, s3, s4, s5, s6, s7, s8, s9, s10, s11, s38, _⟩
     refine cw_seq (sR ?_)
     refine rM rfl s11 <| rw_q rfl (ev_u8_eql (b := 1#8) rfl rfl) ?_
     refine rN ?_
     refine cw_cond rfl (fun hc36 => ?_) (fun hc36 => ?_)
     · -- true
       have hc36p := eq_of_beq hc36
       refine sR ?_
       refine rw_q (v := (agg i64 ((LJ ky u j).x3))) rfl (ev_loadA uT83 rfl ti83 s8 hm33.h2 sZ) <| rw_q (v := (agg i64 ((LJ ky u j).x2))) rfl (ev_loadA uT83 rfl ti83 s6 hm33.h0 sZ) <| rw_n (or_store_agg (f := i64) (l := (LJ ky u j).x3) i64_one ti83 s6 rfl sD hm33.h0 sZ rfl) ?_
       rintro _ w37 uq37
       have hm37 := hm33.upd0 uq37
       refine rw_n (or_store_agg (f := i64) (l := (LJ ky u j).x2) i64_one ti83 s8 rfl sD hm37.h2 sZ rfl) ?_
       rintro _ w38 uq38
       have hm38 := hm37.upd2 uq38
       refine rN (cw_region ?_)
       refine rw_q (v := (agg i64 ((LJ ky u j).z3))) rfl (ev_loadA uT83 rfl ti83 s9 hm38.h3 sZ) <| rw_q (v := (agg i64 ((LJ ky u j).z2))) rfl (ev_loadA uT83 rfl ti83 s7 hm38.h1 sZ) <| rw_n (or_store_agg (f := i64) (l := (LJ ky u j).z3) i64_one ti83 s7 rfl sD hm38.h1 sZ rfl) ?_
       rintro _ w39 uq39
       have hm39 := hm38.upd1 uq39
       refine rw_n (or_store_agg (f := i64) (l := (LJ ky u j).z2) i64_one ti83 s9 rfl sD hm39.h3 sZ rfl) ?_
       rintro _ w40 uq40
       have hm40 := hm39.upd3 uq40
       refine rN (cw_seq ?_)
       refine cw_drawE (by kernel_rfl) ?_
       refine re_allocs [12, 13, 14, 15] [(0, false), (1, false), (2, false), (3, false), (4, false), (5, false), (6, false), (7, false), (8, false), (9, false), (10, false), (11, false)] 16 (luN [(12, 12), (13, 13), (14, 14), (15, 15)]) (luN [(12, 83), (13, 83), (14, 83), (15, 83)]) (luV [(12, (agg i64 (List.replicate 16 0))), (13, (agg i64 (List.replicate 16 0))), (14, (agg i64 (List.replicate 16 0))), (15, (agg i64 (List.replicate 16 0)))]) (fun g => g 0 = (agg u8 ky) ∧ g 1 = (agg u8 u) ∧ g 2 = (ptr b2 0) ∧ g 3 = (ptr b3 0) ∧ g 4 = (ptr b4 0) ∧ g 5 = (ptr b5 0) ∧ g 6 = (ptr b6 0) ∧ g 7 = (ptr b7 0) ∧ g 8 = (ptr b8 0) ∧ g 9 = (ptr b9 0) ∧ g 10 = (i64 (254 - (j : Int))) ∧ g 11 = (u8 ((((clampR ky).getD ((254 - j) / 8) 0) >>> (((254 - j) % 8 : Nat) : Int).toNat) &&& 1#8)) ∧ g 38 = (bl (decide (0 ≤ (254 - (j : Int))))) ∧ g 50 = (bl (((((clampR ky).getD ((254 - j) / 8) 0) >>> (((254 - j) % 8 : Nat) : Int).toNat) &&& 1#8) == 1#8)) ∧ g 57 = (agg i64 (LA3 ky u j)) ∧ g 60 = (agg i64 (LB3 ky u j)) ∧ g 63 = (agg i64 (LA2 ky u j)) ∧ g 66 = (agg i64 (LB2 ky u j)) ∧ True) hm40 rfl (by decide) (by kernel_rfl) (by kernel_rfl) (ao_cons ⟨⟨_, _, _, rfl⟩, rfl, _, _, ti83⟩ (ao_cons ⟨⟨_, _, _, rfl⟩, rfl, _, _, ti83⟩ (ao_cons ⟨⟨_, _, _, rfl⟩, rfl, _, _, ti83⟩ (ao_cons ⟨⟨_, _, _, rfl⟩, rfl, _, _, ti83⟩ ao_nil)))) (by decide) (fun sx41 hS41 => ?_) ?_
       · skip
         refine dw_q (v := (agg i64 ((LJ ky u j).x3))) rfl rfl (fun _ _hx => ev_loadA uT83 rfl ti83 s6 (hm40.ext _hx).h0 sZ) <| dw_q (v := (agg i64 ((LJ ky u j).z3))) rfl rfl (fun _ _hx => ev_loadA uT83 rfl ti83 s7 (hm40.ext _hx).h1 sZ) <| dw_x (v := (agg i64 (LA3 ky u j))) rfl rfl (fun w42 _ew42 => OpR.mono (opR_call Tryd.func54 bd54 nm54 (args2 rfl rfl) (c_radd ((LJ ky u j).x3) ((LJ ky u j).z3) _ hL.x3 hL.z3)) (by rintro _ w43 ⟨rfl, _ew43⟩; exact ⟨rfl, _ew43⟩)) <| dw_q (v := (agg i64 ((LJ ky u j).x3))) rfl rfl (fun _ _hx => ev_loadA uT83 rfl ti83 s6 (hm40.ext _hx).h0 sZ) <| dw_q (v := (agg i64 ((LJ ky u j).z3))) rfl rfl (fun _ _hx => ev_loadA uT83 rfl ti83 s7 (hm40.ext _hx).h1 sZ) <| dw_x (v := (agg i64 (LB3 ky u j))) rfl rfl (fun w45 _ew45 => OpR.mono (opR_call Tryd.func55 bd55 nm55 (args2 rfl rfl) (c_rless ((LJ ky u j).x3) ((LJ ky u j).z3) _ hL.x3 hL.z3)) (by rintro _ w46 ⟨rfl, _ew46⟩; exact ⟨rfl, _ew46⟩)) ?_
         refine dw_q (v := (agg i64 ((LJ ky u j).x2))) rfl rfl (fun _ _hx => ev_loadA uT83 rfl ti83 s8 (hm40.ext _hx).h2 sZ) <| dw_q (v := (agg i64 ((LJ ky u j).z2))) rfl rfl (fun _ _hx => ev_loadA uT83 rfl ti83 s9 (hm40.ext _hx).h3 sZ) <| dw_x (v := (agg i64 (LA2 ky u j))) rfl rfl (fun w48 _ew48 => OpR.mono (opR_call Tryd.func54 bd54 nm54 (args2 rfl rfl) (c_radd ((LJ ky u j).x2) ((LJ ky u j).z2) _ hL.x2 hL.z2)) (by rintro _ w49 ⟨rfl, _ew49⟩; exact ⟨rfl, _ew49⟩)) <| dw_q (v := (agg i64 ((LJ ky u j).x2))) rfl rfl (fun _ _hx => ev_loadA uT83 rfl ti83 s8 (hm40.ext _hx).h2 sZ) <| dw_q (v := (agg i64 ((LJ ky u j).z2))) rfl rfl (fun _ _hx => ev_loadA uT83 rfl ti83 s9 (hm40.ext _hx).h3 sZ) <| dw_x (v := (agg i64 (LB2 ky u j))) rfl rfl (fun w51 _ew51 => OpR.mono (opR_call Tryd.func55 bd55 nm55 (args2 rfl rfl) (c_rless ((LJ ky u j).x2) ((LJ ky u j).z2) _ hL.x2 hL.z2)) (by rintro _ w52 ⟨rfl, _ew52⟩; exact ⟨rfl, _ew52⟩)) ?_
         exact hS41 _ ⟨s0, s1, s2, s3, s4, s5, s6, s7, s8, s9, s10, s11, s38, rfl, rfl, rfl, rfl, rfl, trivial⟩
       rintro g54 ⟨s0, s1, s2, s3, s4, s5, s6, s7, s8, s9, s10, s11, s38, s50, s57, s60, s63, s66, _⟩ g55 w56 ps56 hgo56 hps56 hmm56
       replace s0 := (hgo56 0 (by decide)).trans s0
       replace s1 := (hgo56 1 (by decide)).trans s1
       replace s2 := (hgo56 2 (by decide)).trans s2
       replace s3 := (hgo56 3 (by decide)).trans s3
       replace s4 := (hgo56 4 (by decide)).trans s4
       replace s5 := (hgo56 5 (by decide)).trans s5
       replace s6 := (hgo56 6 (by decide)).trans s6
       replace s7 := (hgo56 7 (by decide)).trans s7
       replace s8 := (hgo56 8 (by decide)).trans s8
       replace s9 := (hgo56 9 (by decide)).trans s9
       replace s10 := (hgo56 10 (by decide)).trans s10
       replace s11 := (hgo56 11 (by decide)).trans s11
       replace s38 := (hgo56 38 (by decide)).trans s38
       replace s50 := (hgo56 50 (by decide)).trans s50
       replace s57 := (hgo56 57 (by decide)).trans s57
       replace s60 := (hgo56 60 (by decide)).trans s60
       replace s63 := (hgo56 63 (by decide)).trans s63
       replace s66 := (hgo56 66 (by decide)).trans s66
       have s12 : g55 12 = ptr (ps56 12) 0 := hps56 12 (by decide)
       have s13 : g55 13 = ptr (ps56 13) 0 := hps56 13 (by decide)
       have s14 : g55 14 = ptr (ps56 14) 0 := hps56 14 (by decide)
       have s15 : g55 15 = ptr (ps56 15) 0 := hps56 15 (by decide)
       have hm56 : Mem w56 (restOf w0) [((ps56 12), .cells (cl i64 (List.replicate 16 0)) 83 (0, 0)), ((ps56 13), .cells (cl i64 (List.replicate 16 0)) 83 (0, 0)), ((ps56 14), .cells (cl i64 (List.replicate 16 0)) 83 (0, 0)), ((ps56 15), .cells (cl i64 (List.replicate 16 0)) 83 (0, 0)), (b6, .cells (cl i64 ((LJ ky u j).x3)) 83 (0, 0)), (b7, .cells (cl i64 ((LJ ky u j).z3)) 83 (0, 0)), (b8, .cells (cl i64 ((LJ ky u j).x2)) 83 (0, 0)), (b9, .cells (cl i64 ((LJ ky u j).z2)) 83 (0, 0)), (b5, .cells (cl i64 (ReadR u)) 83 (0, 0)), (b4, .cells (cl u8 (List.replicate 32 0)) 23 (0, 0)), (b2, .cells (cl u8 (clampR ky)) 23 (0, 0))] := hmm56
       generalize ps56 12 = b12 at hm56 s12
       generalize ps56 13 = b13 at hm56 s13
       generalize ps56 14 = b14 at hm56 s14
       generalize ps56 15 = b15 at hm56 s15
       refine rw_n (or_store_agg (f := i64) (l := LA3 ky u j) i64_one ti83 s12 s57 sD hm56.h0 sZ rfl) ?_
       rintro _ w57 uq57
       have hm57 := hm56.upd0 uq57
       refine rw_n (or_store_agg (f := i64) (l := LB3 ky u j) i64_one ti83 s13 s60 sD hm57.h1 sZ rfl) ?_
       rintro _ w58 uq58
       have hm58 := hm57.upd1 uq58
       refine rw_n (or_store_agg (f := i64) (l := LA2 ky u j) i64_one ti83 s14 s63 sD hm58.h2 sZ rfl) ?_
       rintro _ w59 uq59
       have hm59 := hm58.upd2 uq59
       refine rw_n (or_store_agg (f := i64) (l := LB2 ky u j) i64_one ti83 s15 s66 sD hm59.h3 sZ rfl) ?_
       rintro _ w60 uq60
       have hm60 := hm59.upd3 uq60
       refine rN (cw_seq ?_)
       refine cw_drawE (by kernel_rfl) ?_
       refine re_allocs [12, 13, 14, 15] [(0, false), (1, false), (2, false), (3, false), (4, false), (5, false), (6, false), (7, false), (8, false), (9, false), (10, false), (11, false)] 16 (luN [(12, 16), (13, 17), (14, 18), (15, 19)]) (luN [(12, 83), (13, 83), (14, 83), (15, 83)]) (luV [(12, (agg i64 (List.replicate 16 0))), (13, (agg i64 (List.replicate 16 0))), (14, (agg i64 (List.replicate 16 0))), (15, (agg i64 (List.replicate 16 0)))]) (fun g => g 0 = (agg u8 ky) ∧ g 1 = (agg u8 u) ∧ g 2 = (ptr b2 0) ∧ g 3 = (ptr b3 0) ∧ g 4 = (ptr b4 0) ∧ g 5 = (ptr b5 0) ∧ g 6 = (ptr b6 0) ∧ g 7 = (ptr b7 0) ∧ g 8 = (ptr b8 0) ∧ g 9 = (ptr b9 0) ∧ g 10 = (i64 (254 - (j : Int))) ∧ g 11 = (u8 ((((clampR ky).getD ((254 - j) / 8) 0) >>> (((254 - j) % 8 : Nat) : Int).toNat) &&& 1#8)) ∧ g 12 = (ptr b12 0) ∧ g 13 = (ptr b13 0) ∧ g 14 = (ptr b14 0) ∧ g 15 = (ptr b15 0) ∧ g 38 = (bl (decide (0 ≤ (254 - (j : Int))))) ∧ g 50 = (bl (((((clampR ky).getD ((254 - j) / 8) 0) >>> (((254 - j) % 8 : Nat) : Int).toNat) &&& 1#8) == 1#8)) ∧ g 69 = (agg i64 (TimesR (LB2 ky u j) (LA3 ky u j))) ∧ g 72 = (agg i64 (TimesR (LA2 ky u j) (LB3 ky u j))) ∧ g 75 = (agg i64 (TimesR (LA3 ky u j) (LA3 ky u j))) ∧ g 78 = (agg i64 (TimesR (LB3 ky u j) (LB3 ky u j))) ∧ True) hm60 rfl (by decide) (by kernel_rfl) (by kernel_rfl) (ao_cons ⟨⟨_, _, _, rfl⟩, rfl, _, _, ti83⟩ (ao_cons ⟨⟨_, _, _, rfl⟩, rfl, _, _, ti83⟩ (ao_cons ⟨⟨_, _, _, rfl⟩, rfl, _, _, ti83⟩ (ao_cons ⟨⟨_, _, _, rfl⟩, rfl, _, _, ti83⟩ ao_nil)))) (by decide) (fun sx61 hS61 => ?_) ?_
       · skip
         refine dw_q (v := (agg i64 (LB2 ky u j))) rfl rfl (fun _ _hx => ev_loadA uT83 rfl ti83 s15 (hm60.ext _hx).h3 sZ) <| dw_q (v := (agg i64 (LA3 ky u j))) rfl rfl (fun _ _hx => ev_loadA uT83 rfl ti83 s12 (hm60.ext _hx).h0 sZ) <| dw_x (v := (agg i64 (TimesR (LB2 ky u j) (LA3 ky u j)))) rfl rfl (fun w62 _ew62 => OpR.mono (opR_call Tryd.func56 bd56 nm56 (args2 rfl rfl) (c_rtimes (LB2 ky u j) (LA3 ky u j) _ (goodR_less hL.x2 hL.z2) (goodR_add hL.x3 hL.z3))) (by rintro _ w63 ⟨rfl, _ew63⟩; exact ⟨rfl, _ew63⟩)) <| dw_q (v := (agg i64 (LA2 ky u j))) rfl rfl (fun _ _hx => ev_loadA uT83 rfl ti83 s14 (hm60.ext _hx).h2 sZ) <| dw_q (v := (agg i64 (LB3 ky u j))) rfl rfl (fun _ _hx => ev_loadA uT83 rfl ti83 s13 (hm60.ext _hx).h1 sZ) <| dw_x (v := (agg i64 (TimesR (LA2 ky u j) (LB3 ky u j)))) rfl rfl (fun w65 _ew65 => OpR.mono (opR_call Tryd.func56 bd56 nm56 (args2 rfl rfl) (c_rtimes (LA2 ky u j) (LB3 ky u j) _ (goodR_add hL.x2 hL.z2) (goodR_less hL.x3 hL.z3))) (by rintro _ w66 ⟨rfl, _ew66⟩; exact ⟨rfl, _ew66⟩)) ?_
         refine dw_q (v := (agg i64 (LA3 ky u j))) rfl rfl (fun _ _hx => ev_loadA uT83 rfl ti83 s12 (hm60.ext _hx).h0 sZ) <| dw_q (v := (agg i64 (LA3 ky u j))) rfl rfl (fun _ _hx => ev_loadA uT83 rfl ti83 s12 (hm60.ext _hx).h0 sZ) <| dw_x (v := (agg i64 (TimesR (LA3 ky u j) (LA3 ky u j)))) rfl rfl (fun w68 _ew68 => OpR.mono (opR_call Tryd.func56 bd56 nm56 (args2 rfl rfl) (c_rtimes (LA3 ky u j) (LA3 ky u j) _ (goodR_add hL.x3 hL.z3) (goodR_add hL.x3 hL.z3))) (by rintro _ w69 ⟨rfl, _ew69⟩; exact ⟨rfl, _ew69⟩)) <| dw_q (v := (agg i64 (LB3 ky u j))) rfl rfl (fun _ _hx => ev_loadA uT83 rfl ti83 s13 (hm60.ext _hx).h1 sZ) <| dw_q (v := (agg i64 (LB3 ky u j))) rfl rfl (fun _ _hx => ev_loadA uT83 rfl ti83 s13 (hm60.ext _hx).h1 sZ) <| dw_x (v := (agg i64 (TimesR (LB3 ky u j) (LB3 ky u j)))) rfl rfl (fun w71 _ew71 => OpR.mono (opR_call Tryd.func56 bd56 nm56 (args2 rfl rfl) (c_rtimes (LB3 ky u j) (LB3 ky u j) _ (goodR_less hL.x3 hL.z3) (goodR_less hL.x3 hL.z3))) (by rintro _ w72 ⟨rfl, _ew72⟩; exact ⟨rfl, _ew72⟩)) ?_
         exact hS61 _ ⟨s0, s1, s2, s3, s4, s5, s6, s7, s8, s9, s10, s11, s12, s13, s14, s15, s38, s50, rfl, rfl, rfl, rfl, trivial⟩
       rintro g74 ⟨s0, s1, s2, s3, s4, s5, s6, s7, s8, s9, s10, s11, s12, s13, s14, s15, s38, s50, s69, s72, s75, s78, _⟩ g75 w76 ps76 hgo76 hps76 hmm76
       replace s0 := (hgo76 0 (by decide)).trans s0
       replace s1 := (hgo76 1 (by decide)).trans s1
       replace s2 := (hgo76 2 (by decide)).trans s2
       replace s3 := (hgo76 3 (by decide)).trans s3
       replace s4 := (hgo76 4 (by decide)).trans s4
       replace s5 := (hgo76 5 (by decide)).trans s5
       replace s6 := (hgo76 6 (by decide)).trans s6
       replace s7 := (hgo76 7 (by decide)).trans s7
       replace s8 := (hgo76 8 (by decide)).trans s8
       replace s9 := (hgo76 9 (by decide)).trans s9
       replace s10 := (hgo76 10 (by decide)).trans s10
       replace s11 := (hgo76 11 (by decide)).trans s11
       replace s12 := (hgo76 12 (by decide)).trans s12
       replace s13 := (hgo76 13 (by decide)).trans s13
       replace s14 := (hgo76 14 (by decide)).trans s14
       replace s15 := (hgo76 15 (by decide)).trans s15
       replace s38 := (hgo76 38 (by decide)).trans s38
       replace s50 := (hgo76 50 (by decide)).trans s50
       replace s69 := (hgo76 69 (by decide)).trans s69
       replace s72 := (hgo76 72 (by decide)).trans s72
       replace s75 := (hgo76 75 (by decide)).trans s75
       replace s78 := (hgo76 78 (by decide)).trans s78
       have s16 : g75 16 = ptr (ps76 12) 0 := hps76 12 (by decide)
       have s17 : g75 17 = ptr (ps76 13) 0 := hps76 13 (by decide)
       have s18 : g75 18 = ptr (ps76 14) 0 := hps76 14 (by decide)
       have s19 : g75 19 = ptr (ps76 15) 0 := hps76 15 (by decide)
       have hm76 : Mem w76 (restOf w0) [((ps76 12), .cells (cl i64 (List.replicate 16 0)) 83 (0, 0)), ((ps76 13), .cells (cl i64 (List.replicate 16 0)) 83 (0, 0)), ((ps76 14), .cells (cl i64 (List.replicate 16 0)) 83 (0, 0)), ((ps76 15), .cells (cl i64 (List.replicate 16 0)) 83 (0, 0)), (b12, .cells (cl i64 (LA3 ky u j)) 83 (0, 0)), (b13, .cells (cl i64 (LB3 ky u j)) 83 (0, 0)), (b14, .cells (cl i64 (LA2 ky u j)) 83 (0, 0)), (b15, .cells (cl i64 (LB2 ky u j)) 83 (0, 0)), (b6, .cells (cl i64 ((LJ ky u j).x3)) 83 (0, 0)), (b7, .cells (cl i64 ((LJ ky u j).z3)) 83 (0, 0)), (b8, .cells (cl i64 ((LJ ky u j).x2)) 83 (0, 0)), (b9, .cells (cl i64 ((LJ ky u j).z2)) 83 (0, 0)), (b5, .cells (cl i64 (ReadR u)) 83 (0, 0)), (b4, .cells (cl u8 (List.replicate 32 0)) 23 (0, 0)), (b2, .cells (cl u8 (clampR ky)) 23 (0, 0))] := hmm76
       generalize ps76 12 = b16 at hm76 s16
       generalize ps76 13 = b17 at hm76 s17
       generalize ps76 14 = b18 at hm76 s18
       generalize ps76 15 = b19 at hm76 s19
       refine rw_n (or_store_agg (f := i64) (l := TimesR (LB2 ky u j) (LA3 ky u j)) i64_one ti83 s16 s69 sD hm76.h0 sZ rfl) ?_
       rintro _ w77 uq77
       have hm77 := hm76.upd0 uq77
       refine rw_n (or_store_agg (f := i64) (l := TimesR (LA2 ky u j) (LB3 ky u j)) i64_one ti83 s17 s72 sD hm77.h1 sZ rfl) ?_
       rintro _ w78 uq78
       have hm78 := hm77.upd1 uq78
       refine rw_n (or_store_agg (f := i64) (l := TimesR (LA3 ky u j) (LA3 ky u j)) i64_one ti83 s18 s75 sD hm78.h2 sZ rfl) ?_
       rintro _ w79 uq79
       have hm79 := hm78.upd2 uq79
       refine rw_n (or_store_agg (f := i64) (l := TimesR (LB3 ky u j) (LB3 ky u j)) i64_one ti83 s19 s78 sD hm79.h3 sZ rfl) ?_
       rintro _ w80 uq80
       have hm80 := hm79.upd3 uq80
       refine rN (sR ?_)
       refine rw_q (v := (agg i64 (TimesR (LA3 ky u j) (LA3 ky u j)))) rfl (ev_loadA uT83 rfl ti83 s18 hm80.h2 sZ) <| rw_q (v := (agg i64 (TimesR (LB3 ky u j) (LB3 ky u j)))) rfl (ev_loadA uT83 rfl ti83 s19 hm80.h3 sZ) <| rw_c rfl (opR_call Tryd.func55 bd55 nm55 (args2 rfl rfl) (c_rless (TimesR (LA3 ky u j) (LA3 ky u j)) (TimesR (LB3 ky u j) (LB3 ky u j)) _ (goodR_times (goodR_add hL.x3 hL.z3) (goodR_add hL.x3 hL.z3)) (goodR_times (goodR_less hL.x3 hL.z3) (goodR_less hL.x3 hL.z3)))) ?_
       rintro _ w81 ⟨rfl, _ew81⟩
       have hm81 := hm80.ext _ew81
       refine rw_c rfl (or_alloc_agg hm81 ti83) ?_
       rintro _ w83 ⟨b20, rfl, _ew83, hm83⟩
       refine rw_n (or_store_agg (f := i64) (l := LessR (TimesR (LA3 ky u j) (LA3 ky u j)) (TimesR (LB3 ky u j) (LB3 ky u j))) i64_one ti83 rfl rfl sD hm83.h0 sZ rfl) ?_
       rintro _ w84 uq84
       have hm84 := hm83.upd0 uq84
       refine rN (cw_seq ?_)
       refine cw_draw [(0, false), (1, false), (2, false), (3, false), (4, false)] 5 (by kernel_rfl) <| dw_q (v := (agg i64 (TimesR (LB2 ky u j) (LA3 ky u j)))) rfl rfl (fun _ _hx => ev_loadA uT83 rfl ti83 s16 (hm84.ext _hx).h1 sZ) <| dw_q (v := (agg i64 (TimesR (LA2 ky u j) (LB3 ky u j)))) rfl rfl (fun _ _hx => ev_loadA uT83 rfl ti83 s17 (hm84.ext _hx).h2 sZ) <| dw_x (v := (agg i64 (AddR (TimesR (LB2 ky u j) (LA3 ky u j)) (TimesR (LA2 ky u j) (LB3 ky u j))))) rfl rfl (fun w85 _ew85 => OpR.mono (opR_call Tryd.func54 bd54 nm54 (args2 rfl rfl) (c_radd (TimesR (LB2 ky u j) (LA3 ky u j)) (TimesR (LA2 ky u j) (LB3 ky u j)) _ (goodR_times (goodR_less hL.x2 hL.z2) (goodR_add hL.x3 hL.z3)) (goodR_times (goodR_add hL.x2 hL.z2) (goodR_less hL.x3 hL.z3)))) (by rintro _ w86 ⟨rfl, _ew86⟩; exact ⟨rfl, _ew86⟩)) <| dw_q (v := (agg i64 (TimesR (LB2 ky u j) (LA3 ky u j)))) rfl rfl (fun _ _hx => ev_loadA uT83 rfl ti83 s16 (hm84.ext _hx).h1 sZ) <| dw_q (v := (agg i64 (TimesR (LA2 ky u j) (LB3 ky u j)))) rfl rfl (fun _ _hx => ev_loadA uT83 rfl ti83 s17 (hm84.ext _hx).h2 sZ) ?_
       refine dw_nil (fun w88 _ew88 => ?_)
       have hm88 := hm84.ext _ew88
       refine rw_c rfl (opR_call Tryd.func54 bd54 nm54 (args2 rfl rfl) (c_radd (TimesR (LB2 ky u j) (LA3 ky u j)) (TimesR (LA2 ky u j) (LB3 ky u j)) _ (goodR_times (goodR_less hL.x2 hL.z2) (goodR_add hL.x3 hL.z3)) (goodR_times (goodR_add hL.x2 hL.z2) (goodR_less hL.x3 hL.z3)))) ?_
       rintro _ w89 ⟨rfl, _ew89⟩
       have hm89 := hm88.ext _ew89
       refine rw_c rfl (opR_call Tryd.func56 bd56 nm56 (args2 rfl rfl) (c_rtimes (AddR (TimesR (LB2 ky u j) (LA3 ky u j)) (TimesR (LA2 ky u j) (LB3 ky u j))) (AddR (TimesR (LB2 ky u j) (LA3 ky u j)) (TimesR (LA2 ky u j) (LB3 ky u j))) _ (goodR_add (goodR_times (goodR_less hL.x2 hL.z2) (goodR_add hL.x3 hL.z3)) (goodR_times (goodR_add hL.x2 hL.z2) (goodR_less hL.x3 hL.z3))) (goodR_add (goodR_times (goodR_less hL.x2 hL.z2) (goodR_add hL.x3 hL.z3)) (goodR_times (goodR_add hL.x2 hL.z2) (goodR_less hL.x3 hL.z3))))) ?_
       rintro _ w91 ⟨rfl, _ew91⟩
       have hm91 := hm89.ext _ew91
       refine rw_n (or_store_agg (f := i64) (l := TimesR (AddR (TimesR (LB2 ky u j) (LA3 ky u j)) (TimesR (LA2 ky u j) (LB3 ky u j))) (AddR (TimesR (LB2 ky u j) (LA3 ky u j)) (TimesR (LA2 ky u j) (LB3 ky u j)))) i64_one ti83 s8 rfl sD ((Mem.pick [_, _, _, _, _, _, _, _, _, _, _] [_] _ hm91)).h0 sZ rfl) ?_
       rintro _ w93 uq93
       have hm93 : Mem w93 (restOf w0) [(b8, .cells (cl i64 (TimesR (AddR (TimesR (LB2 ky u j) (LA3 ky u j)) (TimesR (LA2 ky u j) (LB3 ky u j))) (AddR (TimesR (LB2 ky u j) (LA3 ky u j)) (TimesR (LA2 ky u j) (LB3 ky u j))))) 83 (0, 0)), (b20, .cells (cl i64 (LessR (TimesR (LA3 ky u j) (LA3 ky u j)) (TimesR (LB3 ky u j) (LB3 ky u j)))) 83 (0, 0)), (b16, .cells (cl i64 (TimesR (LB2 ky u j) (LA3 ky u j))) 83 (0, 0)), (b17, .cells (cl i64 (TimesR (LA2 ky u j) (LB3 ky u j))) 83 (0, 0)), (b18, .cells (cl i64 (TimesR (LA3 ky u j) (LA3 ky u j))) 83 (0, 0)), (b19, .cells (cl i64 (TimesR (LB3 ky u j) (LB3 ky u j))) 83 (0, 0)), (b12, .cells (cl i64 (LA3 ky u j)) 83 (0, 0)), (b13, .cells (cl i64 (LB3 ky u j)) 83 (0, 0)), (b14, .cells (cl i64 (LA2 ky u j)) 83 (0, 0)), (b15, .cells (cl i64 (LB2 ky u j)) 83 (0, 0)), (b6, .cells (cl i64 ((LJ ky u j).x3)) 83 (0, 0)), (b7, .cells (cl i64 ((LJ ky u j).z3)) 83 (0, 0)), (b9, .cells (cl i64 ((LJ ky u j).z2)) 83 (0, 0)), (b5, .cells (cl i64 (ReadR u)) 83 (0, 0)), (b4, .cells (cl u8 (List.replicate 32 0)) 23 (0, 0)), (b2, .cells (cl u8 (clampR ky)) 23 (0, 0))] := Mem.upd0 (Mem.pick [_, _, _, _, _, _, _, _, _, _, _] [_] _ hm91) uq93
       refine rN ?_
       refine CW.abs (fun g => g 0 = (agg u8 ky) ∧ g 1 = (agg u8 u) ∧ g 2 = (ptr b2 0) ∧ g 3 = (ptr b3 0) ∧ g 4 = (ptr b4 0) ∧ g 5 = (ptr b5 0) ∧ g 6 = (ptr b6 0) ∧ g 7 = (ptr b7 0) ∧ g 8 = (ptr b8 0) ∧ g 9 = (ptr b9 0) ∧ g 10 = (i64 (254 - (j : Int))) ∧ g 11 = (u8 ((((clampR ky).getD ((254 - j) / 8) 0) >>> (((254 - j) % 8 : Nat) : Int).toNat) &&& 1#8)) ∧ g 12 = (ptr b12 0) ∧ g 13 = (ptr b13 0) ∧ g 14 = (ptr b14 0) ∧ g 15 = (ptr b15 0) ∧ g 16 = (ptr b16 0) ∧ g 17 = (ptr b17 0) ∧ g 18 = (ptr b18 0) ∧ g 19 = (ptr b19 0) ∧ g 20 = (ptr b20 0) ∧ g 38 = (bl (decide (0 ≤ (254 - (j : Int))))) ∧ g 50 = (bl (((((clampR ky).getD ((254 - j) / 8) 0) >>> (((254 - j) % 8 : Nat) : Int).toNat) &&& 1#8) == 1#8)) ∧ True) ⟨s0, s1, s2, s3, s4, s5, s6, s7, s8, s9, s10, s11, s12, s13, s14, s15, s16, s17, s18, s19, rfl, s38, s50, trivial⟩ ?_
       rintro fr94 ⟨s0, s1, s2, s3, s4, s5, s6, s7, s8, s9, s10, s11, s12, s13, s14, s15, s16, s17, s18, s19, s20, s38, s50, _⟩
       refine cw_seq <| cw_draw [(0, false), (1, false), (2, false), (3, false), (4, false), (5, false), (6, false), (7, false)] 8 (by kernel_rfl) <| dw_q (v := (agg i64 (ReadR u))) rfl rfl (fun _ _hx => ev_loadA uT83 rfl ti83 s5 ((Mem.pick [_, _, _, _, _, _, _, _, _, _, _, _, _] [_] _ (hm93.ext _hx))).h0 sZ) <| dw_q (v := (agg i64 (TimesR (LB2 ky u j) (LA3 ky u j)))) rfl rfl (fun _ _hx => ev_loadA uT83 rfl ti83 s16 (hm93.ext _hx).h2 sZ) <| dw_q (v := (agg i64 (TimesR (LA2 ky u j) (LB3 ky u j)))) rfl rfl (fun _ _hx => ev_loadA uT83 rfl ti83 s17 (hm93.ext _hx).h3 sZ) <| dw_x (v := (agg i64 (LessR (TimesR (LB2 ky u j) (LA3 ky u j)) (TimesR (LA2 ky u j) (LB3 ky u j))))) rfl rfl (fun w95 _ew95 => OpR.mono (opR_call Tryd.func55 bd55 nm55 (args2 rfl rfl) (c_rless (TimesR (LB2 ky u j) (LA3 ky u j)) (TimesR (LA2 ky u j) (LB3 ky u j)) _ (goodR_times (goodR_less hL.x2 hL.z2) (goodR_add hL.x3 hL.z3)) (goodR_times (goodR_add hL.x2 hL.z2) (goodR_less hL.x3 hL.z3)))) (by rintro _ w96 ⟨rfl, _ew96⟩; exact ⟨rfl, _ew96⟩)) ?_
       refine dw_q (v := (agg i64 (TimesR (LB2 ky u j) (LA3 ky u j)))) rfl rfl (fun _ _hx => ev_loadA uT83 rfl ti83 s16 (hm93.ext _hx).h2 sZ) <| dw_q (v := (agg i64 (TimesR (LA2 ky u j) (LB3 ky u j)))) rfl rfl (fun _ _hx => ev_loadA uT83 rfl ti83 s17 (hm93.ext _hx).h3 sZ) <| dw_x (v := (agg i64 (LessR (TimesR (LB2 ky u j) (LA3 ky u j)) (TimesR (LA2 ky u j) (LB3 ky u j))))) rfl rfl (fun w98 _ew98 => OpR.mono (opR_call Tryd.func55 bd55 nm55 (args2 rfl rfl) (c_rless (TimesR (LB2 ky u j) (LA3 ky u j)) (TimesR (LA2 ky u j) (LB3 ky u j)) _ (goodR_times (goodR_less hL.x2 hL.z2) (goodR_add hL.x3 hL.z3)) (goodR_times (goodR_add hL.x2 hL.z2) (goodR_less hL.x3 hL.z3)))) (by rintro _ w99 ⟨rfl, _ew99⟩; exact ⟨rfl, _ew99⟩)) <| dw_x (v := (agg i64 (TimesR (LessR (TimesR (LB2 ky u j) (LA3 ky u j)) (TimesR (LA2 ky u j) (LB3 ky u j))) (LessR (TimesR (LB2 ky u j) (LA3 ky u j)) (TimesR (LA2 ky u j) (LB3 ky u j)))))) rfl rfl (fun w101 _ew101 => OpR.mono (opR_call Tryd.func56 bd56 nm56 (args2 rfl rfl) (c_rtimes (LessR (TimesR (LB2 ky u j) (LA3 ky u j)) (TimesR (LA2 ky u j) (LB3 ky u j))) (LessR (TimesR (LB2 ky u j) (LA3 ky u j)) (TimesR (LA2 ky u j) (LB3 ky u j))) _ (goodR_less (goodR_times (goodR_less hL.x2 hL.z2) (goodR_add hL.x3 hL.z3)) (goodR_times (goodR_add hL.x2 hL.z2) (goodR_less hL.x3 hL.z3))) (goodR_less (goodR_times (goodR_less hL.x2 hL.z2) (goodR_add hL.x3 hL.z3)) (goodR_times (goodR_add hL.x2 hL.z2) (goodR_less hL.x3 hL.z3))))) (by rintro _ w102 ⟨rfl, _ew102⟩; exact ⟨rfl, _ew102⟩)) ?_
       refine dw_nil (fun w104 _ew104 => ?_)
       have hm104 := hm93.ext _ew104
       refine rw_c rfl (opR_call Tryd.func56 bd56 nm56 (args2 rfl rfl) (c_rtimes (ReadR u) (TimesR (LessR (TimesR (LB2 ky u j) (LA3 ky u j)) (TimesR (LA2 ky u j) (LB3 ky u j))) (LessR (TimesR (LB2 ky u j) (LA3 ky u j)) (TimesR (LA2 ky u j) (LB3 ky u j)))) _ (goodR_read u) (goodR_times (goodR_less (goodR_times (goodR_less hL.x2 hL.z2) (goodR_add hL.x3 hL.z3)) (goodR_times (goodR_add hL.x2 hL.z2) (goodR_less hL.x3 hL.z3))) (goodR_less (goodR_times (goodR_less hL.x2 hL.z2) (goodR_add hL.x3 hL.z3)) (goodR_times (goodR_add hL.x2 hL.z2) (goodR_less hL.x3 hL.z3)))))) ?_
       rintro _ w105 ⟨rfl, _ew105⟩
       have hm105 := hm104.ext _ew105
       refine rw_n (or_store_agg (f := i64) (l := TimesR (ReadR u) (TimesR (LessR (TimesR (LB2 ky u j) (LA3 ky u j)) (TimesR (LA2 ky u j) (LB3 ky u j))) (LessR (TimesR (LB2 ky u j) (LA3 ky u j)) (TimesR (LA2 ky u j) (LB3 ky u j))))) i64_one ti83 s9 rfl sD ((Mem.pick [_, _, _, _, _, _, _, _, _, _, _, _] [_] _ hm105)).h0 sZ rfl) ?_
       rintro _ w107 uq107
       have hm107 : Mem w107 (restOf w0) [(b9, .cells (cl i64 (TimesR (ReadR u) (TimesR (LessR (TimesR (LB2 ky u j) (LA3 ky u j)) (TimesR (LA2 ky u j) (LB3 ky u j))) (LessR (TimesR (LB2 ky u j) (LA3 ky u j)) (TimesR (LA2 ky u j) (LB3 ky u j)))))) 83 (0, 0)), (b8, .cells (cl i64 (TimesR (AddR (TimesR (LB2 ky u j) (LA3 ky u j)) (TimesR (LA2 ky u j) (LB3 ky u j))) (AddR (TimesR (LB2 ky u j) (LA3 ky u j)) (TimesR (LA2 ky u j) (LB3 ky u j))))) 83 (0, 0)), (b20, .cells (cl i64 (LessR (TimesR (LA3 ky u j) (LA3 ky u j)) (TimesR (LB3 ky u j) (LB3 ky u j)))) 83 (0, 0)), (b16, .cells (cl i64 (TimesR (LB2 ky u j) (LA3 ky u j))) 83 (0, 0)), (b17, .cells (cl i64 (TimesR (LA2 ky u j) (LB3 ky u j))) 83 (0, 0)), (b18, .cells (cl i64 (TimesR (LA3 ky u j) (LA3 ky u j))) 83 (0, 0)), (b19, .cells (cl i64 (TimesR (LB3 ky u j) (LB3 ky u j))) 83 (0, 0)), (b12, .cells (cl i64 (LA3 ky u j)) 83 (0, 0)), (b13, .cells (cl i64 (LB3 ky u j)) 83 (0, 0)), (b14, .cells (cl i64 (LA2 ky u j)) 83 (0, 0)), (b15, .cells (cl i64 (LB2 ky u j)) 83 (0, 0)), (b6, .cells (cl i64 ((LJ ky u j).x3)) 83 (0, 0)), (b7, .cells (cl i64 ((LJ ky u j).z3)) 83 (0, 0)), (b5, .cells (cl i64 (ReadR u)) 83 (0, 0)), (b4, .cells (cl u8 (List.replicate 32 0)) 23 (0, 0)), (b2, .cells (cl u8 (clampR ky)) 23 (0, 0))] := Mem.upd0 (Mem.pick [_, _, _, _, _, _, _, _, _, _, _, _] [_] _ hm105) uq107
       refine rN (sR ?_)
       refine rw_q (v := (agg i64 (TimesR (LA3 ky u j) (LA3 ky u j)))) rfl (ev_loadA uT83 rfl ti83 s18 hm107.h5 sZ) <| rw_q (v := (agg i64 (TimesR (LB3 ky u j) (LB3 ky u j)))) rfl (ev_loadA uT83 rfl ti83 s19 ((Mem.pick [_, _, _, _, _, _] [_] _ hm107)).h0 sZ) <| rw_c rfl (opR_call Tryd.func56 bd56 nm56 (args2 rfl rfl) (c_rtimes (TimesR (LA3 ky u j) (LA3 ky u j)) (TimesR (LB3 ky u j) (LB3 ky u j)) _ (goodR_times (goodR_add hL.x3 hL.z3) (goodR_add hL.x3 hL.z3)) (goodR_times (goodR_less hL.x3 hL.z3) (goodR_less hL.x3 hL.z3)))) ?_
       rintro _ w108 ⟨rfl, _ew108⟩
       have hm108 := hm107.ext _ew108
       refine rw_n (or_store_agg (f := i64) (l := TimesR (TimesR (LA3 ky u j) (LA3 ky u j)) (TimesR (LB3 ky u j) (LB3 ky u j))) i64_one ti83 s6 rfl sD ((Mem.pick [_, _, _, _, _, _, _, _, _, _, _] [_] _ hm108)).h0 sZ rfl) ?_
       rintro _ w110 uq110
       have hm110 : Mem w110 (restOf w0) [(b6, .cells (cl i64 (TimesR (TimesR (LA3 ky u j) (LA3 ky u j)) (TimesR (LB3 ky u j) (LB3 ky u j)))) 83 (0, 0)), (b9, .cells (cl i64 (TimesR (ReadR u) (TimesR (LessR (TimesR (LB2 ky u j) (LA3 ky u j)) (TimesR (LA2 ky u j) (LB3 ky u j))) (LessR (TimesR (LB2 ky u j) (LA3 ky u j)) (TimesR (LA2 ky u j) (LB3 ky u j)))))) 83 (0, 0)), (b8, .cells (cl i64 (TimesR (AddR (TimesR (LB2 ky u j) (LA3 ky u j)) (TimesR (LA2 ky u j) (LB3 ky u j))) (AddR (TimesR (LB2 ky u j) (LA3 ky u j)) (TimesR (LA2 ky u j) (LB3 ky u j))))) 83 (0, 0)), (b20, .cells (cl i64 (LessR (TimesR (LA3 ky u j) (LA3 ky u j)) (TimesR (LB3 ky u j) (LB3 ky u j)))) 83 (0, 0)), (b16, .cells (cl i64 (TimesR (LB2 ky u j) (LA3 ky u j))) 83 (0, 0)), (b17, .cells (cl i64 (TimesR (LA2 ky u j) (LB3 ky u j))) 83 (0, 0)), (b18, .cells (cl i64 (TimesR (LA3 ky u j) (LA3 ky u j))) 83 (0, 0)), (b19, .cells (cl i64 (TimesR (LB3 ky u j) (LB3 ky u j))) 83 (0, 0)), (b12, .cells (cl i64 (LA3 ky u j)) 83 (0, 0)), (b13, .cells (cl i64 (LB3 ky u j)) 83 (0, 0)), (b14, .cells (cl i64 (LA2 ky u j)) 83 (0, 0)), (b15, .cells (cl i64 (LB2 ky u j)) 83 (0, 0)), (b7, .cells (cl i64 ((LJ ky u j).z3)) 83 (0, 0)), (b5, .cells (cl i64 (ReadR u)) 83 (0, 0)), (b4, .cells (cl u8 (List.replicate 32 0)) 23 (0, 0)), (b2, .cells (cl u8 (clampR ky)) 23 (0, 0))] := Mem.upd0 (Mem.pick [_, _, _, _, _, _, _, _, _, _, _] [_] _ hm108) uq110
       refine rN ?_
       refine CW.abs (fun g => g 0 = (agg u8 ky) ∧ g 1 = (agg u8 u) ∧ g 2 = (ptr b2 0) ∧ g 3 = (ptr b3 0) ∧ g 4 = (ptr b4 0) ∧ g 5 = (ptr b5 0) ∧ g 6 = (ptr b6 0) ∧ g 7 = (ptr b7 0) ∧ g 8 = (ptr b8 0) ∧ g 9 = (ptr b9 0) ∧ g 10 = (i64 (254 - (j : Int))) ∧ g 11 = (u8 ((((clampR ky).getD ((254 - j) / 8) 0) >>> (((254 - j) % 8 : Nat) : Int).toNat) &&& 1#8)) ∧ g 12 = (ptr b12 0) ∧ g 13 = (ptr b13 0) ∧ g 14 = (ptr b14 0) ∧ g 15 = (ptr b15 0) ∧ g 16 = (ptr b16 0) ∧ g 17 = (ptr b17 0) ∧ g 18 = (ptr b18 0) ∧ g 19 = (ptr b19 0) ∧ g 20 = (ptr b20 0) ∧ g 38 = (bl (decide (0 ≤ (254 - (j : Int))))) ∧ g 50 = (bl (((((clampR ky).getD ((254 - j) / 8) 0) >>> (((254 - j) % 8 : Nat) : Int).toNat) &&& 1#8) == 1#8)) ∧ True) ⟨s0, s1, s2, s3, s4, s5, s6, s7, s8, s9, s10, s11, s12, s13, s14, s15, s16, s17, s18, s19, s20, s38, s50, trivial⟩ ?_
       rintro fr111 ⟨s0, s1, s2, s3, s4, s5, s6, s7, s8, s9, s10, s11, s12, s13, s14, s15, s16, s17, s18, s19, s20, s38, s50, _⟩
       refine cw_seq <| cw_draw [(0, false), (1, false), (2, false), (3, false), (4, false), (5, false)] 6 (by kernel_rfl) <| dw_q (v := (agg i64 (LessR (TimesR (LA3 ky u j) (LA3 ky u j)) (TimesR (LB3 ky u j) (LB3 ky u j))))) rfl rfl (fun _ _hx => ev_loadA uT83 rfl ti83 s20 (hm110.ext _hx).h3 sZ) <| dw_q (v := (agg i64 (TimesR (LA3 ky u j) (LA3 ky u j)))) rfl rfl (fun _ _hx => ev_loadA uT83 rfl ti83 s18 ((Mem.pick [_, _, _, _, _, _] [_] _ (hm110.ext _hx))).h0 sZ) <| dw_q rfl rfl (fun _ _hx => ev_build_pa (c := (cl i64 ([56129, 1, 0, 0, 0, 0, 0, 0, 0, 0, 0, 0, 0, 0, 0, 0]))) ti83 uT83 ti2 (pm_cons (i := 0) (v := (i64 56129)) (cs := #[(i64 56129)]) rfl rfl (pm_cons (i := 1) (v := (i64 1)) (cs := #[(i64 1)]) rfl rfl pm_nil)) (by kernel_rfl)) <| dw_q (v := (agg i64 (LessR (TimesR (LA3 ky u j) (LA3 ky u j)) (TimesR (LB3 ky u j) (LB3 ky u j))))) rfl rfl (fun _ _hx => ev_loadA uT83 rfl ti83 s20 (hm110.ext _hx).h3 sZ) ?_
       refine dw_x (v := (agg i64 (TimesR ([56129, 1, 0, 0, 0, 0, 0, 0, 0, 0, 0, 0, 0, 0, 0, 0]) (LessR (TimesR (LA3 ky u j) (LA3 ky u j)) (TimesR (LB3 ky u j) (LB3 ky u j)))))) rfl rfl (fun w112 _ew112 => OpR.mono (opR_call Tryd.func56 bd56 nm56 (args2 rfl rfl) (c_rtimes ([56129, 1, 0, 0, 0, 0, 0, 0, 0, 0, 0, 0, 0, 0, 0, 0]) (LessR (TimesR (LA3 ky u j) (LA3 ky u j)) (TimesR (LB3 ky u j) (LB3 ky u j))) _ goodR_a24 (goodR_less (goodR_times (goodR_add hL.x3 hL.z3) (goodR_add hL.x3 hL.z3)) (goodR_times (goodR_less hL.x3 hL.z3) (goodR_less hL.x3 hL.z3))))) (by rintro _ w113 ⟨rfl, _ew113⟩; exact ⟨rfl, _ew113⟩)) <| dw_x (v := (agg i64 (AddR (TimesR (LA3 ky u j) (LA3 ky u j)) (TimesR ([56129, 1, 0, 0, 0, 0, 0, 0, 0, 0, 0, 0, 0, 0, 0, 0]) (LessR (TimesR (LA3 ky u j) (LA3 ky u j)) (TimesR (LB3 ky u j) (LB3 ky u j))))))) rfl rfl (fun w115 _ew115 => OpR.mono (opR_call Tryd.func54 bd54 nm54 (args2 rfl rfl) (c_radd (TimesR (LA3 ky u j) (LA3 ky u j)) (TimesR ([56129, 1, 0, 0, 0, 0, 0, 0, 0, 0, 0, 0, 0, 0, 0, 0]) (LessR (TimesR (LA3 ky u j) (LA3 ky u j)) (TimesR (LB3 ky u j) (LB3 ky u j)))) _ (goodR_times (goodR_add hL.x3 hL.z3) (goodR_add hL.x3 hL.z3)) (goodR_times goodR_a24 (goodR_less (goodR_times (goodR_add hL.x3 hL.z3) (goodR_add hL.x3 hL.z3)) (goodR_times (goodR_less hL.x3 hL.z3) (goodR_less hL.x3 hL.z3)))))) (by rintro _ w116 ⟨rfl, _ew116⟩; exact ⟨rfl, _ew116⟩)) ?_
       refine dw_nil (fun w118 _ew118 => ?_)
       have hm118 := hm110.ext _ew118
       refine rw_c rfl (opR_call Tryd.func56 bd56 nm56 (args2 rfl rfl) (c_rtimes (LessR (TimesR (LA3 ky u j) (LA3 ky u j)) (TimesR (LB3 ky u j) (LB3 ky u j))) (AddR (TimesR (LA3 ky u j) (LA3 ky u j)) (TimesR ([56129, 1, 0, 0, 0, 0, 0, 0, 0, 0, 0, 0, 0, 0, 0, 0]) (LessR (TimesR (LA3 ky u j) (LA3 ky u j)) (TimesR (LB3 ky u j) (LB3 ky u j))))) _ (goodR_less (goodR_times (goodR_add hL.x3 hL.z3) (goodR_add hL.x3 hL.z3)) (goodR_times (goodR_less hL.x3 hL.z3) (goodR_less hL.x3 hL.z3))) (goodR_add (goodR_times (goodR_add hL.x3 hL.z3) (goodR_add hL.x3 hL.z3)) (goodR_times goodR_a24 (goodR_less (goodR_times (goodR_add hL.x3 hL.z3) (goodR_add hL.x3 hL.z3)) (goodR_times (goodR_less hL.x3 hL.z3) (goodR_less hL.x3 hL.z3))))))) ?_
       rintro _ w119 ⟨rfl, _ew119⟩
       have hm119 := hm118.ext _ew119
       refine rw_n (or_store_agg (f := i64) (l := TimesR (LessR (TimesR (LA3 ky u j) (LA3 ky u j)) (TimesR (LB3 ky u j) (LB3 ky u j))) (AddR (TimesR (LA3 ky u j) (LA3 ky u j)) (TimesR ([56129, 1, 0, 0, 0, 0, 0, 0, 0, 0, 0, 0, 0, 0, 0, 0]) (LessR (TimesR (LA3 ky u j) (LA3 ky u j)) (TimesR (LB3 ky u j) (LB3 ky u j)))))) i64_one ti83 s7 rfl sD ((Mem.pick [_, _, _, _, _, _, _, _, _, _, _, _] [_] _ hm119)).h0 sZ rfl) ?_
       rintro _ w121 uq121
       have hm121 : Mem w121 (restOf w0) [(b7, .cells (cl i64 (TimesR (LessR (TimesR (LA3 ky u j) (LA3 ky u j)) (TimesR (LB3 ky u j) (LB3 ky u j))) (AddR (TimesR (LA3 ky u j) (LA3 ky u j)) (TimesR ([56129, 1, 0, 0, 0, 0, 0, 0, 0, 0, 0, 0, 0, 0, 0, 0]) (LessR (TimesR (LA3 ky u j) (LA3 ky u j)) (TimesR (LB3 ky u j) (LB3 ky u j))))))) 83 (0, 0)), (b6, .cells (cl i64 (TimesR (TimesR (LA3 ky u j) (LA3 ky u j)) (TimesR (LB3 ky u j) (LB3 ky u j)))) 83 (0, 0)), (b9, .cells (cl i64 (TimesR (ReadR u) (TimesR (LessR (TimesR (LB2 ky u j) (LA3 ky u j)) (TimesR (LA2 ky u j) (LB3 ky u j))) (LessR (TimesR (LB2 ky u j) (LA3 ky u j)) (TimesR (LA2 ky u j) (LB3 ky u j)))))) 83 (0, 0)), (b8, .cells (cl i64 (TimesR (AddR (TimesR (LB2 ky u j) (LA3 ky u j)) (TimesR (LA2 ky u j) (LB3 ky u j))) (AddR (TimesR (LB2 ky u j) (LA3 ky u j)) (TimesR (LA2 ky u j) (LB3 ky u j))))) 83 (0, 0)), (b20, .cells (cl i64 (LessR (TimesR (LA3 ky u j) (LA3 ky u j)) (TimesR (LB3 ky u j) (LB3 ky u j)))) 83 (0, 0)), (b16, .cells (cl i64 (TimesR (LB2 ky u j) (LA3 ky u j))) 83 (0, 0)), (b17, .cells (cl i64 (TimesR (LA2 ky u j) (LB3 ky u j))) 83 (0, 0)), (b18, .cells (cl i64 (TimesR (LA3 ky u j) (LA3 ky u j))) 83 (0, 0)), (b19, .cells (cl i64 (TimesR (LB3 ky u j) (LB3 ky u j))) 83 (0, 0)), (b12, .cells (cl i64 (LA3 ky u j)) 83 (0, 0)), (b13, .cells (cl i64 (LB3 ky u j)) 83 (0, 0)), (b14, .cells (cl i64 (LA2 ky u j)) 83 (0, 0)), (b15, .cells (cl i64 (LB2 ky u j)) 83 (0, 0)), (b5, .cells (cl i64 (ReadR u)) 83 (0, 0)), (b4, .cells (cl u8 (List.replicate 32 0)) 23 (0, 0)), (b2, .cells (cl u8 (clampR ky)) 23 (0, 0))] := Mem.upd0 (Mem.pick [_, _, _, _, _, _, _, _, _, _, _, _] [_] _ hm119) uq121
       refine rN (sR ?_)
       refine rM rfl s11 <| rw_q rfl (ev_u8_eql (b := 1#8) rfl rfl) ?_
       refine rN ?_
       refine cw_cond_t rfl hc36 ?_
       refine sR ?_
       refine rw_q rfl (ev_loadA uT83 rfl ti83 s8 hm121.h3 sZ) <| rw_q (v := (agg i64 (TimesR (TimesR (LA3 ky u j) (LA3 ky u j)) (TimesR (LB3 ky u j) (LB3 ky u j))))) rfl (ev_loadA uT83 rfl ti83 s6 hm121.h1 sZ) <| rw_n (or_store_agg (f := i64) (l := TimesR (AddR (TimesR (LB2 ky u j) (LA3 ky u j)) (TimesR (LA2 ky u j) (LB3 ky u j))) (AddR (TimesR (LB2 ky u j) (LA3 ky u j)) (TimesR (LA2 ky u j) (LB3 ky u j)))) i64_one ti83 s6 rfl sD hm121.h1 sZ rfl) ?_
       rintro _ w122 uq122
       have hm122 := hm121.upd1 uq122
       refine rw_n (or_store_agg (f := i64) (l := TimesR (TimesR (LA3 ky u j) (LA3 ky u j)) (TimesR (LB3 ky u j) (LB3 ky u j))) i64_one ti83 s8 rfl sD hm122.h3 sZ rfl) ?_
       rintro _ w123 uq123
       have hm123 := hm122.upd3 uq123
       refine rN ?_
       refine CW.abs (fun g => g 0 = (agg u8 ky) ∧ g 1 = (agg u8 u) ∧ g 2 = (ptr b2 0) ∧ g 3 = (ptr b3 0) ∧ g 4 = (ptr b4 0) ∧ g 5 = (ptr b5 0) ∧ g 6 = (ptr b6 0) ∧ g 7 = (ptr b7 0) ∧ g 8 = (ptr b8 0) ∧ g 9 = (ptr b9 0) ∧ g 10 = (i64 (254 - (j : Int))) ∧ g 11 = (u8 ((((clampR ky).getD ((254 - j) / 8) 0) >>> (((254 - j) % 8 : Nat) : Int).toNat) &&& 1#8)) ∧ g 12 = (ptr b12 0) ∧ g 13 = (ptr b13 0) ∧ g 14 = (ptr b14 0) ∧ g 15 = (ptr b15 0) ∧ g 16 = (ptr b16 0) ∧ g 17 = (ptr b17 0) ∧ g 18 = (ptr b18 0) ∧ g 19 = (ptr b19 0) ∧ g 20 = (ptr b20 0) ∧ g 38 = (bl (decide (0 ≤ (254 - (j : Int))))) ∧ g 50 = (bl (((((clampR ky).getD ((254 - j) / 8) 0) >>> (((254 - j) % 8 : Nat) : Int).toNat) &&& 1#8) == 1#8)) ∧ g 109 = (bl (((((clampR ky).getD ((254 - j) / 8) 0) >>> (((254 - j) % 8 : Nat) : Int).toNat) &&& 1#8) == 1#8)) ∧ True) ⟨s0, s1, s2, s3, s4, s5, s6, s7, s8, s9, s10, s11, s12, s13, s14, s15, s16, s17, s18, s19, s20, s38, s50, rfl, trivial⟩ ?_
       rintro fr124 ⟨s0, s1, s2, s3, s4, s5, s6, s7, s8, s9, s10, s11, s12, s13, s14, s15, s16, s17, s18, s19, s20, s38, s50, s109, _⟩
       refine cw_region <| rw_q rfl (ev_loadA uT83 rfl ti83 s9 hm123.h2 sZ) <| rw_q rfl (ev_loadA uT83 rfl ti83 s7 hm123.h0 sZ) <| rw_n (or_store_agg (f := i64) (l := TimesR (ReadR u) (TimesR (LessR (TimesR (LB2 ky u j) (LA3 ky u j)) (TimesR (LA2 ky u j) (LB3 ky u j))) (LessR (TimesR (LB2 ky u j) (LA3 ky u j)) (TimesR (LA2 ky u j) (LB3 ky u j))))) i64_one ti83 s7 rfl sD hm123.h0 sZ rfl) ?_
       rintro _ w125 uq125
       have hm125 := hm123.upd0 uq125
       refine rw_n (or_store_agg (f := i64) (l := TimesR (LessR (TimesR (LA3 ky u j) (LA3 ky u j)) (TimesR (LB3 ky u j) (LB3 ky u j))) (AddR (TimesR (LA3 ky u j) (LA3 ky u j)) (TimesR ([56129, 1, 0, 0, 0, 0, 0, 0, 0, 0, 0, 0, 0, 0, 0, 0]) (LessR (TimesR (LA3 ky u j) (LA3 ky u j)) (TimesR (LB3 ky u j) (LB3 ky u j)))))) i64_one ti83 s9 rfl sD hm125.h2 sZ rfl) ?_
       rintro _ w126 uq126
       have hm126 := hm125.upd2 uq126
       refine rw_nil (kBlk_normal (cw_region ?_))
       refine rM rfl s10 <| rw_q rfl (ev_i64_sub (b := 1) rfl rfl oM oM) <| rw_q rfl (ev_assign (v := (i64 ((254 - (j : Int)) - 1))) rfl) ?_
       refine rN ?_
       have hm127 := Mem.drop ([(b20, .cells (cl i64 (LessR (TimesR (LA3 ky u j) (LA3 ky u j)) (TimesR (LB3 ky u j) (LB3 ky u j)))) 83 (0, 0))]) _ (Mem.pick [_, _, _, _] [_] _ hm126)
       have hm128 := Mem.drop ([(b16, .cells (cl i64 (TimesR (LB2 ky u j) (LA3 ky u j))) 83 (0, 0))]) _ (Mem.pick [_, _, _, _] [_] _ hm127)
       have hm129 := Mem.drop ([(b17, .cells (cl i64 (TimesR (LA2 ky u j) (LB3 ky u j))) 83 (0, 0))]) _ (Mem.pick [_, _, _, _] [_] _ hm128)
       have hm130 := Mem.drop ([(b18, .cells (cl i64 (TimesR (LA3 ky u j) (LA3 ky u j))) 83 (0, 0))]) _ (Mem.pick [_, _, _, _] [_] _ hm129)
       have hm131 := Mem.drop ([(b19, .cells (cl i64 (TimesR (LB3 ky u j) (LB3 ky u j))) 83 (0, 0))]) _ (Mem.pick [_, _, _, _] [_] _ hm130)
       have hm132 := Mem.drop ([(b12, .cells (cl i64 (LA3 ky u j)) 83 (0, 0))]) _ (Mem.pick [_, _, _, _] [_] _ hm131)
       have hm133 := Mem.drop ([(b13, .cells (cl i64 (LB3 ky u j)) 83 (0, 0))]) _ (Mem.pick [_, _, _, _] [_] _ hm132)
       have hm134 := Mem.drop ([(b14, .cells (cl i64 (LA2 ky u j)) 83 (0, 0))]) _ (Mem.pick [_, _, _, _] [_] _ hm133)
       have hm135 := Mem.drop ([(b15, .cells (cl i64 (LB2 ky u j)) 83 (0, 0))]) _ (Mem.pick [_, _, _, _] [_] _ hm134)
       have hm136 := (Mem.pick [_, _, _, _, _, _] [_] _ hm135)
       have hm137 := (Mem.pick [_, _, _, _, _, _] [_] _ hm136)
       have hm138 := (Mem.pick [_, _, _, _, _, _] [_] _ hm137)
       have hm139 := (Mem.pick [_, _, _, _, _] [_] _ hm138)
       have hm140 := (Mem.pick [_, _, _, _, _, _] [_] _ hm139)
       have hm141 := (Mem.pick [_, _, _, _, _] [_] _ hm140)
       have hm142 := (Mem.pick [_, _, _, _, _, _] [_] _ hm141)
       exact ⟨⟨j + 1, oM, s0, s1, s2, s3, s4, s5, s6, s7, s8, s9, (show i64 (254 - (j : Int) - 1) = i64 (254 - ((j + 1 : Nat) : Int)) from congrArg i64 oM), (by unfold LJ; rw [lad16_t (k := (clampR ky)) (x1 := (ReadR u)) (j := j) hc36]; unfold stepR; exact hm142)⟩, (by show (RowKit.intOf (i64 (254 - (j : Int) - 1)) + 1).toNat < (RowKit.intOf _ + 1).toNat; rw [z10]; simp only [RowKit.intOf, i64]; omega)⟩
     · -- false
       have hc36p := ne_of_beq_false hc36
       refine cw_skip (kThen_normal (cw_seq ?_))
       refine cw_drawE (by kernel_rfl) ?_
       refine re_allocs [12, 13, 14, 15] [(0, false), (1, false), (2, false), (3, false), (4, false), (5, false), (6, false), (7, false), (8, false), (9, false), (10, false), (11, false)] 16 (luN [(12, 12), (13, 13), (14, 14), (15, 15)]) (luN [(12, 83), (13, 83), (14, 83), (15, 83)]) (luV [(12, (agg i64 (List.replicate 16 0))), (13, (agg i64 (List.replicate 16 0))), (14, (agg i64 (List.replicate 16 0))), (15, (agg i64 (List.replicate 16 0)))]) (fun g => g 0 = (agg u8 ky) ∧ g 1 = (agg u8 u) ∧ g 2 = (ptr b2 0) ∧ g 3 = (ptr b3 0) ∧ g 4 = (ptr b4 0) ∧ g 5 = (ptr b5 0) ∧ g 6 = (ptr b6 0) ∧ g 7 = (ptr b7 0) ∧ g 8 = (ptr b8 0) ∧ g 9 = (ptr b9 0) ∧ g 10 = (i64 (254 - (j : Int))) ∧ g 11 = (u8 ((((clampR ky).getD ((254 - j) / 8) 0) >>> (((254 - j) % 8 : Nat) : Int).toNat) &&& 1#8)) ∧ g 38 = (bl (decide (0 ≤ (254 - (j : Int))))) ∧ g 50 = (bl (((((clampR ky).getD ((254 - j) / 8) 0) >>> (((254 - j) % 8 : Nat) : Int).toNat) &&& 1#8) == 1#8)) ∧ g 57 = (agg i64 (LA2 ky u j)) ∧ g 60 = (agg i64 (LB2 ky u j)) ∧ g 63 = (agg i64 (LA3 ky u j)) ∧ g 66 = (agg i64 (LB3 ky u j)) ∧ True) hm33 rfl (by decide) (by kernel_rfl) (by kernel_rfl) (ao_cons ⟨⟨_, _, _, rfl⟩, rfl, _, _, ti83⟩ (ao_cons ⟨⟨_, _, _, rfl⟩, rfl, _, _, ti83⟩ (ao_cons ⟨⟨_, _, _, rfl⟩, rfl, _, _, ti83⟩ (ao_cons ⟨⟨_, _, _, rfl⟩, rfl, _, _, ti83⟩ ao_nil)))) (by decide) (fun sx143 hS143 => ?_) ?_
       · skip
         refine dw_q (v := (agg i64 ((LJ ky u j).x2))) rfl rfl (fun _ _hx => ev_loadA uT83 rfl ti83 s6 (hm33.ext _hx).h0 sZ) <| dw_q (v := (agg i64 ((LJ ky u j).z2))) rfl rfl (fun _ _hx => ev_loadA uT83 rfl ti83 s7 (hm33.ext _hx).h1 sZ) <| dw_x (v := (agg i64 (LA2 ky u j))) rfl rfl (fun w144 _ew144 => OpR.mono (opR_call Tryd.func54 bd54 nm54 (args2 rfl rfl) (c_radd ((LJ ky u j).x2) ((LJ ky u j).z2) _ hL.x2 hL.z2)) (by rintro _ w145 ⟨rfl, _ew145⟩; exact ⟨rfl, _ew145⟩)) <| dw_q (v := (agg i64 ((LJ ky u j).x2))) rfl rfl (fun _ _hx => ev_loadA uT83 rfl ti83 s6 (hm33.ext _hx).h0 sZ) <| dw_q (v := (agg i64 ((LJ ky u j).z2))) rfl rfl (fun _ _hx => ev_loadA uT83 rfl ti83 s7 (hm33.ext _hx).h1 sZ) <| dw_x (v := (agg i64 (LB2 ky u j))) rfl rfl (fun w147 _ew147 => OpR.mono (opR_call Tryd.func55 bd55 nm55 (args2 rfl rfl) (c_rless ((LJ ky u j).x2) ((LJ ky u j).z2) _ hL.x2 hL.z2)) (by rintro _ w148 ⟨rfl, _ew148⟩; exact ⟨rfl, _ew148⟩)) ?_
         refine dw_q (v := (agg i64 ((LJ ky u j).x3))) rfl rfl (fun _ _hx => ev_loadA uT83 rfl ti83 s8 (hm33.ext _hx).h2 sZ) <| dw_q (v := (agg i64 ((LJ ky u j).z3))) rfl rfl (fun _ _hx => ev_loadA uT83 rfl ti83 s9 (hm33.ext _hx).h3 sZ) <| dw_x (v := (agg i64 (LA3 ky u j))) rfl rfl (fun w150 _ew150 => OpR.mono (opR_call Tryd.func54 bd54 nm54 (args2 rfl rfl) (c_radd ((LJ ky u j).x3) ((LJ ky u j).z3) _ hL.x3 hL.z3)) (by rintro _ w151 ⟨rfl, _ew151⟩; exact ⟨rfl, _ew151⟩)) <| dw_q (v := (agg i64 ((LJ ky u j).x3))) rfl rfl (fun _ _hx => ev_loadA uT83 rfl ti83 s8 (hm33.ext _hx).h2 sZ) <| dw_q (v := (agg i64 ((LJ ky u j).z3))) rfl rfl (fun _ _hx => ev_loadA uT83 rfl ti83 s9 (hm33.ext _hx).h3 sZ) <| dw_x (v := (agg i64 (LB3 ky u j))) rfl rfl (fun w153 _ew153 => OpR.mono (opR_call Tryd.func55 bd55 nm55 (args2 rfl rfl) (c_rless ((LJ ky u j).x3) ((LJ ky u j).z3) _ hL.x3 hL.z3)) (by rintro _ w154 ⟨rfl, _ew154⟩; exact ⟨rfl, _ew154⟩)) ?_
         exact hS143 _ ⟨s0, s1, s2, s3, s4, s5, s6, s7, s8, s9, s10, s11, s38, rfl, rfl, rfl, rfl, rfl, trivial⟩
       rintro g156 ⟨s0, s1, s2, s3, s4, s5, s6, s7, s8, s9, s10, s11, s38, s50, s57, s60, s63, s66, _⟩ g157 w158 ps158 hgo158 hps158 hmm158
       replace s0 := (hgo158 0 (by decide)).trans s0
       replace s1 := (hgo158 1 (by decide)).trans s1
       replace s2 := (hgo158 2 (by decide)).trans s2
       replace s3 := (hgo158 3 (by decide)).trans s3
       replace s4 := (hgo158 4 (by decide)).trans s4
       replace s5 := (hgo158 5 (by decide)).trans s5
       replace s6 := (hgo158 6 (by decide)).trans s6
       replace s7 := (hgo158 7 (by decide)).trans s7
       replace s8 := (hgo158 8 (by decide)).trans s8
       replace s9 := (hgo158 9 (by decide)).trans s9
       replace s10 := (hgo158 10 (by decide)).trans s10
       replace s11 := (hgo158 11 (by decide)).trans s11
       replace s38 := (hgo158 38 (by decide)).trans s38
       replace s50 := (hgo158 50 (by decide)).trans s50
       replace s57 := (hgo158 57 (by decide)).trans s57
       replace s60 := (hgo158 60 (by decide)).trans s60
       replace s63 := (hgo158 63 (by decide)).trans s63
       replace s66 := (hgo158 66 (by decide)).trans s66
       have s12 : g157 12 = ptr (ps158 12) 0 := hps158 12 (by decide)
       have s13 : g157 13 = ptr (ps158 13) 0 := hps158 13 (by decide)
       have s14 : g157 14 = ptr (ps158 14) 0 := hps158 14 (by decide)
       have s15 : g157 15 = ptr (ps158 15) 0 := hps158 15 (by decide)
       have hm158 : Mem w158 (restOf w0) [((ps158 12), .cells (cl i64 (List.replicate 16 0)) 83 (0, 0)), ((ps158 13), .cells (cl i64 (List.replicate 16 0)) 83 (0, 0)), ((ps158 14), .cells (cl i64 (List.replicate 16 0)) 83 (0, 0)), ((ps158 15), .cells (cl i64 (List.replicate 16 0)) 83 (0, 0)), (b6, .cells (cl i64 ((LJ ky u j).x2)) 83 (0, 0)), (b7, .cells (cl i64 ((LJ ky u j).z2)) 83 (0, 0)), (b8, .cells (cl i64 ((LJ ky u j).x3)) 83 (0, 0)), (b9, .cells (cl i64 ((LJ ky u j).z3)) 83 (0, 0)), (b5, .cells (cl i64 (ReadR u)) 83 (0, 0)), (b4, .cells (cl u8 (List.replicate 32 0)) 23 (0, 0)), (b2, .cells (cl u8 (clampR ky)) 23 (0, 0))] := hmm158
       generalize ps158 12 = b12_1 at hm158 s12
       generalize ps158 13 = b13_1 at hm158 s13
       generalize ps158 14 = b14_1 at hm158 s14
       generalize ps158 15 = b15_1 at hm158 s15
       refine rw_n (or_store_agg (f := i64) (l := LA2 ky u j) i64_one ti83 s12 s57 sD hm158.h0 sZ rfl) ?_
       rintro _ w159 uq159
       have hm159 := hm158.upd0 uq159
       refine rw_n (or_store_agg (f := i64) (l := LB2 ky u j) i64_one ti83 s13 s60 sD hm159.h1 sZ rfl) ?_
       rintro _ w160 uq160
       have hm160 := hm159.upd1 uq160
       refine rw_n (or_store_agg (f := i64) (l := LA3 ky u j) i64_one ti83 s14 s63 sD hm160.h2 sZ rfl) ?_
       rintro _ w161 uq161
       have hm161 := hm160.upd2 uq161
       refine rw_n (or_store_agg (f := i64) (l := LB3 ky u j) i64_one ti83 s15 s66 sD hm161.h3 sZ rfl) ?_
       rintro _ w162 uq162
       have hm162 := hm161.upd3 uq162
       refine rN (cw_seq ?_)
       refine cw_drawE (by kernel_rfl) ?_
       refine re_allocs [12, 13, 14, 15] [(0, false), (1, false), (2, false), (3, false), (4, false), (5, false), (6, false), (7, false), (8, false), (9, false), (10, false), (11, false)] 16 (luN [(12, 16), (13, 17), (14, 18), (15, 19)]) (luN [(12, 83), (13, 83), (14, 83), (15, 83)]) (luV [(12, (agg i64 (List.replicate 16 0))), (13, (agg i64 (List.replicate 16 0))), (14, (agg i64 (List.replicate 16 0))), (15, (agg i64 (List.replicate 16 0)))]) (fun g => g 0 = (agg u8 ky) ∧ g 1 = (agg u8 u) ∧ g 2 = (ptr b2 0) ∧ g 3 = (ptr b3 0) ∧ g 4 = (ptr b4 0) ∧ g 5 = (ptr b5 0) ∧ g 6 = (ptr b6 0) ∧ g 7 = (ptr b7 0) ∧ g 8 = (ptr b8 0) ∧ g 9 = (ptr b9 0) ∧ g 10 = (i64 (254 - (j : Int))) ∧ g 11 = (u8 ((((clampR ky).getD ((254 - j) / 8) 0) >>> (((254 - j) % 8 : Nat) : Int).toNat) &&& 1#8)) ∧ g 12 = (ptr b12_1 0) ∧ g 13 = (ptr b13_1 0) ∧ g 14 = (ptr b14_1 0) ∧ g 15 = (ptr b15_1 0) ∧ g 38 = (bl (decide (0 ≤ (254 - (j : Int))))) ∧ g 50 = (bl (((((clampR ky).getD ((254 - j) / 8) 0) >>> (((254 - j) % 8 : Nat) : Int).toNat) &&& 1#8) == 1#8)) ∧ g 69 = (agg i64 (TimesR (LB3 ky u j) (LA2 ky u j))) ∧ g 72 = (agg i64 (TimesR (LA3 ky u j) (LB2 ky u j))) ∧ g 75 = (agg i64 (TimesR (LA2 ky u j) (LA2 ky u j))) ∧ g 78 = (agg i64 (TimesR (LB2 ky u j) (LB2 ky u j))) ∧ True) hm162 rfl (by decide) (by kernel_rfl) (by kernel_rfl) (ao_cons ⟨⟨_, _, _, rfl⟩, rfl, _, _, ti83⟩ (ao_cons ⟨⟨_, _, _, rfl⟩, rfl, _, _, ti83⟩ (ao_cons ⟨⟨_, _, _, rfl⟩, rfl, _, _, ti83⟩ (ao_cons ⟨⟨_, _, _, rfl⟩, rfl, _, _, ti83⟩ ao_nil)))) (by decide) (fun sx163 hS163 => ?_) ?_
       · skip
         refine dw_q (v := (agg i64 (LB3 ky u j))) rfl rfl (fun _ _hx => ev_loadA uT83 rfl ti83 s15 (hm162.ext _hx).h3 sZ) <| dw_q (v := (agg i64 (LA2 ky u j))) rfl rfl (fun _ _hx => ev_loadA uT83 rfl ti83 s12 (hm162.ext _hx).h0 sZ) <| dw_x (v := (agg i64 (TimesR (LB3 ky u j) (LA2 ky u j)))) rfl rfl (fun w164 _ew164 => OpR.mono (opR_call Tryd.func56 bd56 nm56 (args2 rfl rfl) (c_rtimes (LB3 ky u j) (LA2 ky u j) _ (goodR_less hL.x3 hL.z3) (goodR_add hL.x2 hL.z2))) (by rintro _ w165 ⟨rfl, _ew165⟩; exact ⟨rfl, _ew165⟩)) <| dw_q (v := (agg i64 (LA3 ky u j))) rfl rfl (fun _ _hx => ev_loadA uT83 rfl ti83 s14 (hm162.ext _hx).h2 sZ) <| dw_q (v := (agg i64 (LB2 ky u j))) rfl rfl (fun _ _hx => ev_loadA uT83 rfl ti83 s13 (hm162.ext _hx).h1 sZ) <| dw_x (v := (agg i64 (TimesR (LA3 ky u j) (LB2 ky u j)))) rfl rfl (fun w167 _ew167 => OpR.mono (opR_call Tryd.func56 bd56 nm56 (args2 rfl rfl) (c_rtimes (LA3 ky u j) (LB2 ky u j) _ (goodR_add hL.x3 hL.z3) (goodR_less hL.x2 hL.z2))) (by rintro _ w168 ⟨rfl, _ew168⟩; exact ⟨rfl, _ew168⟩)) ?_
         refine dw_q (v := (agg i64 (LA2 ky u j))) rfl rfl (fun _ _hx => ev_loadA uT83 rfl ti83 s12 (hm162.ext _hx).h0 sZ) <| dw_q (v := (agg i64 (LA2 ky u j))) rfl rfl (fun _ _hx => ev_loadA uT83 rfl ti83 s12 (hm162.ext _hx).h0 sZ) <| dw_x (v := (agg i64 (TimesR (LA2 ky u j) (LA2 ky u j)))) rfl rfl (fun w170 _ew170 => OpR.mono (opR_call Tryd.func56 bd56 nm56 (args2 rfl rfl) (c_rtimes (LA2 ky u j) (LA2 ky u j) _ (goodR_add hL.x2 hL.z2) (goodR_add hL.x2 hL.z2))) (by rintro _ w171 ⟨rfl, _ew171⟩; exact ⟨rfl, _ew171⟩)) <| dw_q (v := (agg i64 (LB2 ky u j))) rfl rfl (fun _ _hx => ev_loadA uT83 rfl ti83 s13 (hm162.ext _hx).h1 sZ) <| dw_q (v := (agg i64 (LB2 ky u j))) rfl rfl (fun _ _hx => ev_loadA uT83 rfl ti83 s13 (hm162.ext _hx).h1 sZ) <| dw_x (v := (agg i64 (TimesR (LB2 ky u j) (LB2 ky u j)))) rfl rfl (fun w173 _ew173 => OpR.mono (opR_call Tryd.func56 bd56 nm56 (args2 rfl rfl) (c_rtimes (LB2 ky u j) (LB2 ky u j) _ (goodR_less hL.x2 hL.z2) (goodR_less hL.x2 hL.z2))) (by rintro _ w174 ⟨rfl, _ew174⟩; exact ⟨rfl, _ew174⟩)) ?_
         exact hS163 _ ⟨s0, s1, s2, s3, s4, s5, s6, s7, s8, s9, s10, s11, s12, s13, s14, s15, s38, s50, rfl, rfl, rfl, rfl, trivial⟩
       rintro g176 ⟨s0, s1, s2, s3, s4, s5, s6, s7, s8, s9, s10, s11, s12, s13, s14, s15, s38, s50, s69, s72, s75, s78, _⟩ g177 w178 ps178 hgo178 hps178 hmm178
       replace s0 := (hgo178 0 (by decide)).trans s0
       replace s1 := (hgo178 1 (by decide)).trans s1
       replace s2 := (hgo178 2 (by decide)).trans s2
       replace s3 := (hgo178 3 (by decide)).trans s3
       replace s4 := (hgo178 4 (by decide)).trans s4
       replace s5 := (hgo178 5 (by decide)).trans s5
       replace s6 := (hgo178 6 (by decide)).trans s6
       replace s7 := (hgo178 7 (by decide)).trans s7
       replace s8 := (hgo178 8 (by decide)).trans s8
       replace s9 := (hgo178 9 (by decide)).trans s9
       replace s10 := (hgo178 10 (by decide)).trans s10
       replace s11 := (hgo178 11 (by decide)).trans s11
       replace s12 := (hgo178 12 (by decide)).trans s12
       replace s13 := (hgo178 13 (by decide)).trans s13
       replace s14 := (hgo178 14 (by decide)).trans s14
       replace s15 := (hgo178 15 (by decide)).trans s15
       replace s38 := (hgo178 38 (by decide)).trans s38
       replace s50 := (hgo178 50 (by decide)).trans s50
       replace s69 := (hgo178 69 (by decide)).trans s69
       replace s72 := (hgo178 72 (by decide)).trans s72
       replace s75 := (hgo178 75 (by decide)).trans s75
       replace s78 := (hgo178 78 (by decide)).trans s78
       have s16 : g177 16 = ptr (ps178 12) 0 := hps178 12 (by decide)
       have s17 : g177 17 = ptr (ps178 13) 0 := hps178 13 (by decide)
       have s18 : g177 18 = ptr (ps178 14) 0 := hps178 14 (by decide)
       have s19 : g177 19 = ptr (ps178 15) 0 := hps178 15 (by decide)
       have hm178 : Mem w178 (restOf w0) [((ps178 12), .cells (cl i64 (List.replicate 16 0)) 83 (0, 0)), ((ps178 13), .cells (cl i64 (List.replicate 16 0)) 83 (0, 0)), ((ps178 14), .cells (cl i64 (List.replicate 16 0)) 83 (0, 0)), ((ps178 15), .cells (cl i64 (List.replicate 16 0)) 83 (0, 0)), (b12_1, .cells (cl i64 (LA2 ky u j)) 83 (0, 0)), (b13_1, .cells (cl i64 (LB2 ky u j)) 83 (0, 0)), (b14_1, .cells (cl i64 (LA3 ky u j)) 83 (0, 0)), (b15_1, .cells (cl i64 (LB3 ky u j)) 83 (0, 0)), (b6, .cells (cl i64 ((LJ ky u j).x2)) 83 (0, 0)), (b7, .cells (cl i64 ((LJ ky u j).z2)) 83 (0, 0)), (b8, .cells (cl i64 ((LJ ky u j).x3)) 83 (0, 0)), (b9, .cells (cl i64 ((LJ ky u j).z3)) 83 (0, 0)), (b5, .cells (cl i64 (ReadR u)) 83 (0, 0)), (b4, .cells (cl u8 (List.replicate 32 0)) 23 (0, 0)), (b2, .cells (cl u8 (clampR ky)) 23 (0, 0))] := hmm178
       generalize ps178 12 = b16_1 at hm178 s16
       generalize ps178 13 = b17_1 at hm178 s17
       generalize ps178 14 = b18_1 at hm178 s18
       generalize ps178 15 = b19_1 at hm178 s19
       refine rw_n (or_store_agg (f := i64) (l := TimesR (LB3 ky u j) (LA2 ky u j)) i64_one ti83 s16 s69 sD hm178.h0 sZ rfl) ?_
       rintro _ w179 uq179
       have hm179 := hm178.upd0 uq179
       refine rw_n (or_store_agg (f := i64) (l := TimesR (LA3 ky u j) (LB2 ky u j)) i64_one ti83 s17 s72 sD hm179.h1 sZ rfl) ?_
       rintro _ w180 uq180
       have hm180 := hm179.upd1 uq180
       refine rw_n (or_store_agg (f := i64) (l := TimesR (LA2 ky u j) (LA2 ky u j)) i64_one ti83 s18 s75 sD hm180.h2 sZ rfl) ?_
       rintro _ w181 uq181
       have hm181 := hm180.upd2 uq181
       refine rw_n (or_store_agg (f := i64) (l := TimesR (LB2 ky u j) (LB2 ky u j)) i64_one ti83 s19 s78 sD hm181.h3 sZ rfl) ?_
       rintro _ w182 uq182
       have hm182 := hm181.upd3 uq182
       refine rN (sR ?_)
       refine rw_q (v := (agg i64 (TimesR (LA2 ky u j) (LA2 ky u j)))) rfl (ev_loadA uT83 rfl ti83 s18 hm182.h2 sZ) <| rw_q (v := (agg i64 (TimesR (LB2 ky u j) (LB2 ky u j)))) rfl (ev_loadA uT83 rfl ti83 s19 hm182.h3 sZ) <| rw_c rfl (opR_call Tryd.func55 bd55 nm55 (args2 rfl rfl) (c_rless (TimesR (LA2 ky u j) (LA2 ky u j)) (TimesR (LB2 ky u j) (LB2 ky u j)) _ (goodR_times (goodR_add hL.x2 hL.z2) (goodR_add hL.x2 hL.z2)) (goodR_times (goodR_less hL.x2 hL.z2) (goodR_less hL.x2 hL.z2)))) ?_
       rintro _ w183 ⟨rfl, _ew183⟩
       have hm183 := hm182.ext _ew183
       refine rw_c rfl (or_alloc_agg hm183 ti83) ?_
       rintro _ w185 ⟨b20_1, rfl, _ew185, hm185⟩
       refine rw_n (or_store_agg (f := i64) (l := LessR (TimesR (LA2 ky u j) (LA2 ky u j)) (TimesR (LB2 ky u j) (LB2 ky u j))) i64_one ti83 rfl rfl sD hm185.h0 sZ rfl) ?_
       rintro _ w186 uq186
       have hm186 := hm185.upd0 uq186
       refine rN (cw_seq ?_)
       refine cw_draw [(0, false), (1, false), (2, false), (3, false), (4, false)] 5 (by kernel_rfl) <| dw_q (v := (agg i64 (TimesR (LB3 ky u j) (LA2 ky u j)))) rfl rfl (fun _ _hx => ev_loadA uT83 rfl ti83 s16 (hm186.ext _hx).h1 sZ) <| dw_q (v := (agg i64 (TimesR (LA3 ky u j) (LB2 ky u j)))) rfl rfl (fun _ _hx => ev_loadA uT83 rfl ti83 s17 (hm186.ext _hx).h2 sZ) <| dw_x (v := (agg i64 (AddR (TimesR (LB3 ky u j) (LA2 ky u j)) (TimesR (LA3 ky u j) (LB2 ky u j))))) rfl rfl (fun w187 _ew187 => OpR.mono (opR_call Tryd.func54 bd54 nm54 (args2 rfl rfl) (c_radd (TimesR (LB3 ky u j) (LA2 ky u j)) (TimesR (LA3 ky u j) (LB2 ky u j)) _ (goodR_times (goodR_less hL.x3 hL.z3) (goodR_add hL.x2 hL.z2)) (goodR_times (goodR_add hL.x3 hL.z3) (goodR_less hL.x2 hL.z2)))) (by rintro _ w188 ⟨rfl, _ew188⟩; exact ⟨rfl, _ew188⟩)) <| dw_q (v := (agg i64 (TimesR (LB3 ky u j) (LA2 ky u j)))) rfl rfl (fun _ _hx => ev_loadA uT83 rfl ti83 s16 (hm186.ext _hx).h1 sZ) <| dw_q (v := (agg i64 (TimesR (LA3 ky u j) (LB2 ky u j)))) rfl rfl (fun _ _hx => ev_loadA uT83 rfl ti83 s17 (hm186.ext _hx).h2 sZ) ?_
       refine dw_nil (fun w190 _ew190 => ?_)
       have hm190 := hm186.ext _ew190
       refine rw_c rfl (opR_call Tryd.func54 bd54 nm54 (args2 rfl rfl) (c_radd (TimesR (LB3 ky u j) (LA2 ky u j)) (TimesR (LA3 ky u j) (LB2 ky u j)) _ (goodR_times (goodR_less hL.x3 hL.z3) (goodR_add hL.x2 hL.z2)) (goodR_times (goodR_add hL.x3 hL.z3) (goodR_less hL.x2 hL.z2)))) ?_
       rintro _ w191 ⟨rfl, _ew191⟩
       have hm191 := hm190.ext _ew191
       refine rw_c rfl (opR_call Tryd.func56 bd56 nm56 (args2 rfl rfl) (c_rtimes (AddR (TimesR (LB3 ky u j) (LA2 ky u j)) (TimesR (LA3 ky u j) (LB2 ky u j))) (AddR (TimesR (LB3 ky u j) (LA2 ky u j)) (TimesR (LA3 ky u j) (LB2 ky u j))) _ (goodR_add (goodR_times (goodR_less hL.x3 hL.z3) (goodR_add hL.x2 hL.z2)) (goodR_times (goodR_add hL.x3 hL.z3) (goodR_less hL.x2 hL.z2))) (goodR_add (goodR_times (goodR_less hL.x3 hL.z3) (goodR_add hL.x2 hL.z2)) (goodR_times (goodR_add hL.x3 hL.z3) (goodR_less hL.x2 hL.z2))))) ?_
       rintro _ w193 ⟨rfl, _ew193⟩
       have hm193 := hm191.ext _ew193
       refine rw_n (or_store_agg (f := i64) (l := TimesR (AddR (TimesR (LB3 ky u j) (LA2 ky u j)) (TimesR (LA3 ky u j) (LB2 ky u j))) (AddR (TimesR (LB3 ky u j) (LA2 ky u j)) (TimesR (LA3 ky u j) (LB2 ky u j)))) i64_one ti83 s8 rfl sD ((Mem.pick [_, _, _, _, _, _, _, _, _, _, _] [_] _ hm193)).h0 sZ rfl) ?_
       rintro _ w195 uq195
       have hm195 : Mem w195 (restOf w0) [(b8, .cells (cl i64 (TimesR (AddR (TimesR (LB3 ky u j) (LA2 ky u j)) (TimesR (LA3 ky u j) (LB2 ky u j))) (AddR (TimesR (LB3 ky u j) (LA2 ky u j)) (TimesR (LA3 ky u j) (LB2 ky u j))))) 83 (0, 0)), (b20_1, .cells (cl i64 (LessR (TimesR (LA2 ky u j) (LA2 ky u j)) (TimesR (LB2 ky u j) (LB2 ky u j)))) 83 (0, 0)), (b16_1, .cells (cl i64 (TimesR (LB3 ky u j) (LA2 ky u j))) 83 (0, 0)), (b17_1, .cells (cl i64 (TimesR (LA3 ky u j) (LB2 ky u j))) 83 (0, 0)), (b18_1, .cells (cl i64 (TimesR (LA2 ky u j) (LA2 ky u j))) 83 (0, 0)), (b19_1, .cells (cl i64 (TimesR (LB2 ky u j) (LB2 ky u j))) 83 (0, 0)), (b12_1, .cells (cl i64 (LA2 ky u j)) 83 (0, 0)), (b13_1, .cells (cl i64 (LB2 ky u j)) 83 (0, 0)), (b14_1, .cells (cl i64 (LA3 ky u j)) 83 (0, 0)), (b15_1, .cells (cl i64 (LB3 ky u j)) 83 (0, 0)), (b6, .cells (cl i64 ((LJ ky u j).x2)) 83 (0, 0)), (b7, .cells (cl i64 ((LJ ky u j).z2)) 83 (0, 0)), (b9, .cells (cl i64 ((LJ ky u j).z3)) 83 (0, 0)), (b5, .cells (cl i64 (ReadR u)) 83 (0, 0)), (b4, .cells (cl u8 (List.replicate 32 0)) 23 (0, 0)), (b2, .cells (cl u8 (clampR ky)) 23 (0, 0))] := Mem.upd0 (Mem.pick [_, _, _, _, _, _, _, _, _, _, _] [_] _ hm193) uq195
       refine rN ?_
       refine CW.abs (fun g => g 0 = (agg u8 ky) ∧ g 1 = (agg u8 u) ∧ g 2 = (ptr b2 0) ∧ g 3 = (ptr b3 0) ∧ g 4 = (ptr b4 0) ∧ g 5 = (ptr b5 0) ∧ g 6 = (ptr b6 0) ∧ g 7 = (ptr b7 0) ∧ g 8 = (ptr b8 0) ∧ g 9 = (ptr b9 0) ∧ g 10 = (i64 (254 - (j : Int))) ∧ g 11 = (u8 ((((clampR ky).getD ((254 - j) / 8) 0) >>> (((254 - j) % 8 : Nat) : Int).toNat) &&& 1#8)) ∧ g 12 = (ptr b12_1 0) ∧ g 13 = (ptr b13_1 0) ∧ g 14 = (ptr b14_1 0) ∧ g 15 = (ptr b15_1 0) ∧ g 16 = (ptr b16_1 0) ∧ g 17 = (ptr b17_1 0) ∧ g 18 = (ptr b18_1 0) ∧ g 19 = (ptr b19_1 0) ∧ g 20 = (ptr b20_1 0) ∧ g 38 = (bl (decide (0 ≤ (254 - (j : Int))))) ∧ g 50 = (bl (((((clampR ky).getD ((254 - j) / 8) 0) >>> (((254 - j) % 8 : Nat) : Int).toNat) &&& 1#8) == 1#8)) ∧ True) ⟨s0, s1, s2, s3, s4, s5, s6, s7, s8, s9, s10, s11, s12, s13, s14, s15, s16, s17, s18, s19, rfl, s38, s50, trivial⟩ ?_
       rintro fr196 ⟨s0, s1, s2, s3, s4, s5, s6, s7, s8, s9, s10, s11, s12, s13, s14, s15, s16, s17, s18, s19, s20, s38, s50, _⟩
       refine cw_seq <| cw_draw [(0, false), (1, false), (2, false), (3, false), (4, false), (5, false), (6, false), (7, false)] 8 (by kernel_rfl) <| dw_q (v := (agg i64 (ReadR u))) rfl rfl (fun _ _hx => ev_loadA uT83 rfl ti83 s5 ((Mem.pick [_, _, _, _, _, _, _, _, _, _, _, _, _] [_] _ (hm195.ext _hx))).h0 sZ) <| dw_q (v := (agg i64 (TimesR (LB3 ky u j) (LA2 ky u j)))) rfl rfl (fun _ _hx => ev_loadA uT83 rfl ti83 s16 (hm195.ext _hx).h2 sZ) <| dw_q (v := (agg i64 (TimesR (LA3 ky u j) (LB2 ky u j)))) rfl rfl (fun _ _hx => ev_loadA uT83 rfl ti83 s17 (hm195.ext _hx).h3 sZ) <| dw_x (v := (agg i64 (LessR (TimesR (LB3 ky u j) (LA2 ky u j)) (TimesR (LA3 ky u j) (LB2 ky u j))))) rfl rfl (fun w197 _ew197 => OpR.mono (opR_call Tryd.func55 bd55 nm55 (args2 rfl rfl) (c_rless (TimesR (LB3 ky u j) (LA2 ky u j)) (TimesR (LA3 ky u j) (LB2 ky u j)) _ (goodR_times (goodR_less hL.x3 hL.z3) (goodR_add hL.x2 hL.z2)) (goodR_times (goodR_add hL.x3 hL.z3) (goodR_less hL.x2 hL.z2)))) (by rintro _ w198 ⟨rfl, _ew198⟩; exact ⟨rfl, _ew198⟩)) ?_
       refine dw_q (v := (agg i64 (TimesR (LB3 ky u j) (LA2 ky u j)))) rfl rfl (fun _ _hx => ev_loadA uT83 rfl ti83 s16 (hm195.ext _hx).h2 sZ) <| dw_q (v := (agg i64 (TimesR (LA3 ky u j) (LB2 ky u j)))) rfl rfl (fun _ _hx => ev_loadA uT83 rfl ti83 s17 (hm195.ext _hx).h3 sZ) <| dw_x (v := (agg i64 (LessR (TimesR (LB3 ky u j) (LA2 ky u j)) (TimesR (LA3 ky u j) (LB2 ky u j))))) rfl rfl (fun w200 _ew200 => OpR.mono (opR_call Tryd.func55 bd55 nm55 (args2 rfl rfl) (c_rless (TimesR (LB3 ky u j) (LA2 ky u j)) (TimesR (LA3 ky u j) (LB2 ky u j)) _ (goodR_times (goodR_less hL.x3 hL.z3) (goodR_add hL.x2 hL.z2)) (goodR_times (goodR_add hL.x3 hL.z3) (goodR_less hL.x2 hL.z2)))) (by rintro _ w201 ⟨rfl, _ew201⟩; exact ⟨rfl, _ew201⟩)) <| dw_x (v := (agg i64 (TimesR (LessR (TimesR (LB3 ky u j) (LA2 ky u j)) (TimesR (LA3 ky u j) (LB2 ky u j))) (LessR (TimesR (LB3 ky u j) (LA2 ky u j)) (TimesR (LA3 ky u j) (LB2 ky u j)))))) rfl rfl (fun w203 _ew203 => OpR.mono (opR_call Tryd.func56 bd56 nm56 (args2 rfl rfl) (c_rtimes (LessR (TimesR (LB3 ky u j) (LA2 ky u j)) (TimesR (LA3 ky u j) (LB2 ky u j))) (LessR (TimesR (LB3 ky u j) (LA2 ky u j)) (TimesR (LA3 ky u j) (LB2 ky u j))) _ (goodR_less (goodR_times (goodR_less hL.x3 hL.z3) (goodR_add hL.x2 hL.z2)) (goodR_times (goodR_add hL.x3 hL.z3) (goodR_less hL.x2 hL.z2))) (goodR_less (goodR_times (goodR_less hL.x3 hL.z3) (goodR_add hL.x2 hL.z2)) (goodR_times (goodR_add hL.x3 hL.z3) (goodR_less hL.x2 hL.z2))))) (by rintro _ w204 ⟨rfl, _ew204⟩; exact ⟨rfl, _ew204⟩)) ?_
       refine dw_nil (fun w206 _ew206 => ?_)
       have hm206 := hm195.ext _ew206
       refine rw_c rfl (opR_call Tryd.func56 bd56 nm56 (args2 rfl rfl) (c_rtimes (ReadR u) (TimesR (LessR (TimesR (LB3 ky u j) (LA2 ky u j)) (TimesR (LA3 ky u j) (LB2 ky u j))) (LessR (TimesR (LB3 ky u j) (LA2 ky u j)) (TimesR (LA3 ky u j) (LB2 ky u j)))) _ (goodR_read u) (goodR_times (goodR_less (goodR_times (goodR_less hL.x3 hL.z3) (goodR_add hL.x2 hL.z2)) (goodR_times (goodR_add hL.x3 hL.z3) (goodR_less hL.x2 hL.z2))) (goodR_less (goodR_times (goodR_less hL.x3 hL.z3) (goodR_add hL.x2 hL.z2)) (goodR_times (goodR_add hL.x3 hL.z3) (goodR_less hL.x2 hL.z2)))))) ?_
       rintro _ w207 ⟨rfl, _ew207⟩
       have hm207 := hm206.ext _ew207
       refine rw_n (or_store_agg (f := i64) (l := TimesR (ReadR u) (TimesR (LessR (TimesR (LB3 ky u j) (LA2 ky u j)) (TimesR (LA3 ky u j) (LB2 ky u j))) (LessR (TimesR (LB3 ky u j) (LA2 ky u j)) (TimesR (LA3 ky u j) (LB2 ky u j))))) i64_one ti83 s9 rfl sD ((Mem.pick [_, _, _, _, _, _, _, _, _, _, _, _] [_] _ hm207)).h0 sZ rfl) ?_
       rintro _ w209 uq209
       have hm209 : Mem w209 (restOf w0) [(b9, .cells (cl i64 (TimesR (ReadR u) (TimesR (LessR (TimesR (LB3 ky u j) (LA2 ky u j)) (TimesR (LA3 ky u j) (LB2 ky u j))) (LessR (TimesR (LB3 ky u j) (LA2 ky u j)) (TimesR (LA3 ky u j) (LB2 ky u j)))))) 83 (0, 0)), (b8, .cells (cl i64 (TimesR (AddR (TimesR (LB3 ky u j) (LA2 ky u j)) (TimesR (LA3 ky u j) (LB2 ky u j))) (AddR (TimesR (LB3 ky u j) (LA2 ky u j)) (TimesR (LA3 ky u j) (LB2 ky u j))))) 83 (0, 0)), (b20_1, .cells (cl i64 (LessR (TimesR (LA2 ky u j) (LA2 ky u j)) (TimesR (LB2 ky u j) (LB2 ky u j)))) 83 (0, 0)), (b16_1, .cells (cl i64 (TimesR (LB3 ky u j) (LA2 ky u j))) 83 (0, 0)), (b17_1, .cells (cl i64 (TimesR (LA3 ky u j) (LB2 ky u j))) 83 (0, 0)), (b18_1, .cells (cl i64 (TimesR (LA2 ky u j) (LA2 ky u j))) 83 (0, 0)), (b19_1, .cells (cl i64 (TimesR (LB2 ky u j) (LB2 ky u j))) 83 (0, 0)), (b12_1, .cells (cl i64 (LA2 ky u j)) 83 (0, 0)), (b13_1, .cells (cl i64 (LB2 ky u j)) 83 (0, 0)), (b14_1, .cells (cl i64 (LA3 ky u j)) 83 (0, 0)), (b15_1, .cells (cl i64 (LB3 ky u j)) 83 (0, 0)), (b6, .cells (cl i64 ((LJ ky u j).x2)) 83 (0, 0)), (b7, .cells (cl i64 ((LJ ky u j).z2)) 83 (0, 0)), (b5, .cells (cl i64 (ReadR u)) 83 (0, 0)), (b4, .cells (cl u8 (List.replicate 32 0)) 23 (0, 0)), (b2, .cells (cl u8 (clampR ky)) 23 (0, 0))] := Mem.upd0 (Mem.pick [_, _, _, _, _, _, _, _, _, _, _, _] [_] _ hm207) uq209
       refine rN (sR ?_)
       refine rw_q (v := (agg i64 (TimesR (LA2 ky u j) (LA2 ky u j)))) rfl (ev_loadA uT83 rfl ti83 s18 hm209.h5 sZ) <| rw_q (v := (agg i64 (TimesR (LB2 ky u j) (LB2 ky u j)))) rfl (ev_loadA uT83 rfl ti83 s19 ((Mem.pick [_, _, _, _, _, _] [_] _ hm209)).h0 sZ) <| rw_c rfl (opR_call Tryd.func56 bd56 nm56 (args2 rfl rfl) (c_rtimes (TimesR (LA2 ky u j) (LA2 ky u j)) (TimesR (LB2 ky u j) (LB2 ky u j)) _ (goodR_times (goodR_add hL.x2 hL.z2) (goodR_add hL.x2 hL.z2)) (goodR_times (goodR_less hL.x2 hL.z2) (goodR_less hL.x2 hL.z2)))) ?_
       rintro _ w210 ⟨rfl, _ew210⟩
       have hm210 := hm209.ext _ew210
       refine rw_n (or_store_agg (f := i64) (l := TimesR (TimesR (LA2 ky u j) (LA2 ky u j)) (TimesR (LB2 ky u j) (LB2 ky u j))) i64_one ti83 s6 rfl sD ((Mem.pick [_, _, _, _, _, _, _, _, _, _, _] [_] _ hm210)).h0 sZ rfl) ?_
       rintro _ w212 uq212
       have hm212 : Mem w212 (restOf w0) [(b6, .cells (cl i64 (TimesR (TimesR (LA2 ky u j) (LA2 ky u j)) (TimesR (LB2 ky u j) (LB2 ky u j)))) 83 (0, 0)), (b9, .cells (cl i64 (TimesR (ReadR u) (TimesR (LessR (TimesR (LB3 ky u j) (LA2 ky u j)) (TimesR (LA3 ky u j) (LB2 ky u j))) (LessR (TimesR (LB3 ky u j) (LA2 ky u j)) (TimesR (LA3 ky u j) (LB2 ky u j)))))) 83 (0, 0)), (b8, .cells (cl i64 (TimesR (AddR (TimesR (LB3 ky u j) (LA2 ky u j)) (TimesR (LA3 ky u j) (LB2 ky u j))) (AddR (TimesR (LB3 ky u j) (LA2 ky u j)) (TimesR (LA3 ky u j) (LB2 ky u j))))) 83 (0, 0)), (b20_1, .cells (cl i64 (LessR (TimesR (LA2 ky u j) (LA2 ky u j)) (TimesR (LB2 ky u j) (LB2 ky u j)))) 83 (0, 0)), (b16_1, .cells (cl i64 (TimesR (LB3 ky u j) (LA2 ky u j))) 83 (0, 0)), (b17_1, .cells (cl i64 (TimesR (LA3 ky u j) (LB2 ky u j))) 83 (0, 0)), (b18_1, .cells (cl i64 (TimesR (LA2 ky u j) (LA2 ky u j))) 83 (0, 0)), (b19_1, .cells (cl i64 (TimesR (LB2 ky u j) (LB2 ky u j))) 83 (0, 0)), (b12_1, .cells (cl i64 (LA2 ky u j)) 83 (0, 0)), (b13_1, .cells (cl i64 (LB2 ky u j)) 83 (0, 0)), (b14_1, .cells (cl i64 (LA3 ky u j)) 83 (0, 0)), (b15_1, .cells (cl i64 (LB3 ky u j)) 83 (0, 0)), (b7, .cells (cl i64 ((LJ ky u j).z2)) 83 (0, 0)), (b5, .cells (cl i64 (ReadR u)) 83 (0, 0)), (b4, .cells (cl u8 (List.replicate 32 0)) 23 (0, 0)), (b2, .cells (cl u8 (clampR ky)) 23 (0, 0))] := Mem.upd0 (Mem.pick [_, _, _, _, _, _, _, _, _, _, _] [_] _ hm210) uq212
       refine rN ?_
       refine CW.abs (fun g => g 0 = (agg u8 ky) ∧ g 1 = (agg u8 u) ∧ g 2 = (ptr b2 0) ∧ g 3 = (ptr b3 0) ∧ g 4 = (ptr b4 0) ∧ g 5 = (ptr b5 0) ∧ g 6 = (ptr b6 0) ∧ g 7 = (ptr b7 0) ∧ g 8 = (ptr b8 0) ∧ g 9 = (ptr b9 0) ∧ g 10 = (i64 (254 - (j : Int))) ∧ g 11 = (u8 ((((clampR ky).getD ((254 - j) / 8) 0) >>> (((254 - j) % 8 : Nat) : Int).toNat) &&& 1#8)) ∧ g 12 = (ptr b12_1 0) ∧ g 13 = (ptr b13_1 0) ∧ g 14 = (ptr b14_1 0) ∧ g 15 = (ptr b15_1 0) ∧ g 16 = (ptr b16_1 0) ∧ g 17 = (ptr b17_1 0) ∧ g 18 = (ptr b18_1 0) ∧ g 19 = (ptr b19_1 0) ∧ g 20 = (ptr b20_1 0) ∧ g 38 = (bl (decide (0 ≤ (254 - (j : Int))))) ∧ g 50 = (bl (((((clampR ky).getD ((254 - j) / 8) 0) >>> (((254 - j) % 8 : Nat) : Int).toNat) &&& 1#8) == 1#8)) ∧ True) ⟨s0, s1, s2, s3, s4, s5, s6, s7, s8, s9, s10, s11, s12, s13, s14, s15, s16, s17, s18, s19, s20, s38, s50, trivial⟩ ?_
       rintro fr213 ⟨s0, s1, s2, s3, s4, s5, s6, s7, s8, s9, s10, s11, s12, s13, s14, s15, s16, s17, s18, s19, s20, s38, s50, _⟩
       refine cw_seq <| cw_draw [(0, false), (1, false), (2, false), (3, false), (4, false), (5, false)] 6 (by kernel_rfl) <| dw_q (v := (agg i64 (LessR (TimesR (LA2 ky u j) (LA2 ky u j)) (TimesR (LB2 ky u j) (LB2 ky u j))))) rfl rfl (fun _ _hx => ev_loadA uT83 rfl ti83 s20 (hm212.ext _hx).h3 sZ) <| dw_q (v := (agg i64 (TimesR (LA2 ky u j) (LA2 ky u j)))) rfl rfl (fun _ _hx => ev_loadA uT83 rfl ti83 s18 ((Mem.pick [_, _, _, _, _, _] [_] _ (hm212.ext _hx))).h0 sZ) <| dw_q rfl rfl (fun _ _hx => ev_build_pa (c := (cl i64 ([56129, 1, 0, 0, 0, 0, 0, 0, 0, 0, 0, 0, 0, 0, 0, 0]))) ti83 uT83 ti2 (pm_cons (i := 0) (v := (i64 56129)) (cs := #[(i64 56129)]) rfl rfl (pm_cons (i := 1) (v := (i64 1)) (cs := #[(i64 1)]) rfl rfl pm_nil)) (by kernel_rfl)) <| dw_q (v := (agg i64 (LessR (TimesR (LA2 ky u j) (LA2 ky u j)) (TimesR (LB2 ky u j) (LB2 ky u j))))) rfl rfl (fun _ _hx => ev_loadA uT83 rfl ti83 s20 (hm212.ext _hx).h3 sZ) ?_
       refine dw_x (v := (agg i64 (TimesR ([56129, 1, 0, 0, 0, 0, 0, 0, 0, 0, 0, 0, 0, 0, 0, 0]) (LessR (TimesR (LA2 ky u j) (LA2 ky u j)) (TimesR (LB2 ky u j) (LB2 ky u j)))))) rfl rfl (fun w214 _ew214 => OpR.mono (opR_call Tryd.func56 bd56 nm56 (args2 rfl rfl) (c_rtimes ([56129, 1, 0, 0, 0, 0, 0, 0, 0, 0, 0, 0, 0, 0, 0, 0]) (LessR (TimesR (LA2 ky u j) (LA2 ky u j)) (TimesR (LB2 ky u j) (LB2 ky u j))) _ goodR_a24 (goodR_less (goodR_times (goodR_add hL.x2 hL.z2) (goodR_add hL.x2 hL.z2)) (goodR_times (goodR_less hL.x2 hL.z2) (goodR_less hL.x2 hL.z2))))) (by rintro _ w215 ⟨rfl, _ew215⟩; exact ⟨rfl, _ew215⟩)) <| dw_x (v := (agg i64 (AddR (TimesR (LA2 ky u j) (LA2 ky u j)) (TimesR ([56129, 1, 0, 0, 0, 0, 0, 0, 0, 0, 0, 0, 0, 0, 0, 0]) (LessR (TimesR (LA2 ky u j) (LA2 ky u j)) (TimesR (LB2 ky u j) (LB2 ky u j))))))) rfl rfl (fun w217 _ew217 => OpR.mono (opR_call Tryd.func54 bd54 nm54 (args2 rfl rfl) (c_radd (TimesR (LA2 ky u j) (LA2 ky u j)) (TimesR ([56129, 1, 0, 0, 0, 0, 0, 0, 0, 0, 0, 0, 0, 0, 0, 0]) (LessR (TimesR (LA2 ky u j) (LA2 ky u j)) (TimesR (LB2 ky u j) (LB2 ky u j)))) _ (goodR_times (goodR_add hL.x2 hL.z2) (goodR_add hL.x2 hL.z2)) (goodR_times goodR_a24 (goodR_less (goodR_times (goodR_add hL.x2 hL.z2) (goodR_add hL.x2 hL.z2)) (goodR_times (goodR_less hL.x2 hL.z2) (goodR_less hL.x2 hL.z2)))))) (by rintro _ w218 ⟨rfl, _ew218⟩; exact ⟨rfl, _ew218⟩)) ?_
       refine dw_nil (fun w220 _ew220 => ?_)
       have hm220 := hm212.ext _ew220
       refine rw_c rfl (opR_call Tryd.func56 bd56 nm56 (args2 rfl rfl) (c_rtimes (LessR (TimesR (LA2 ky u j) (LA2 ky u j)) (TimesR (LB2 ky u j) (LB2 ky u j))) (AddR (TimesR (LA2 ky u j) (LA2 ky u j)) (TimesR ([56129, 1, 0, 0, 0, 0, 0, 0, 0, 0, 0, 0, 0, 0, 0, 0]) (LessR (TimesR (LA2 ky u j) (LA2 ky u j)) (TimesR (LB2 ky u j) (LB2 ky u j))))) _ (goodR_less (goodR_times (goodR_add hL.x2 hL.z2) (goodR_add hL.x2 hL.z2)) (goodR_times (goodR_less hL.x2 hL.z2) (goodR_less hL.x2 hL.z2))) (goodR_add (goodR_times (goodR_add hL.x2 hL.z2) (goodR_add hL.x2 hL.z2)) (goodR_times goodR_a24 (goodR_less (goodR_times (goodR_add hL.x2 hL.z2) (goodR_add hL.x2 hL.z2)) (goodR_times (goodR_less hL.x2 hL.z2) (goodR_less hL.x2 hL.z2))))))) ?_
       rintro _ w221 ⟨rfl, _ew221⟩
       have hm221 := hm220.ext _ew221
       refine rw_n (or_store_agg (f := i64) (l := TimesR (LessR (TimesR (LA2 ky u j) (LA2 ky u j)) (TimesR (LB2 ky u j) (LB2 ky u j))) (AddR (TimesR (LA2 ky u j) (LA2 ky u j)) (TimesR ([56129, 1, 0, 0, 0, 0, 0, 0, 0, 0, 0, 0, 0, 0, 0, 0]) (LessR (TimesR (LA2 ky u j) (LA2 ky u j)) (TimesR (LB2 ky u j) (LB2 ky u j)))))) i64_one ti83 s7 rfl sD ((Mem.pick [_, _, _, _, _, _, _, _, _, _, _, _] [_] _ hm221)).h0 sZ rfl) ?_
       rintro _ w223 uq223
       have hm223 : Mem w223 (restOf w0) [(b7, .cells (cl i64 (TimesR (LessR (TimesR (LA2 ky u j) (LA2 ky u j)) (TimesR (LB2 ky u j) (LB2 ky u j))) (AddR (TimesR (LA2 ky u j) (LA2 ky u j)) (TimesR ([56129, 1, 0, 0, 0, 0, 0, 0, 0, 0, 0, 0, 0, 0, 0, 0]) (LessR (TimesR (LA2 ky u j) (LA2 ky u j)) (TimesR (LB2 ky u j) (LB2 ky u j))))))) 83 (0, 0)), (b6, .cells (cl i64 (TimesR (TimesR (LA2 ky u j) (LA2 ky u j)) (TimesR (LB2 ky u j) (LB2 ky u j)))) 83 (0, 0)), (b9, .cells (cl i64 (TimesR (ReadR u) (TimesR (LessR (TimesR (LB3 ky u j) (LA2 ky u j)) (TimesR (LA3 ky u j) (LB2 ky u j))) (LessR (TimesR (LB3 ky u j) (LA2 ky u j)) (TimesR (LA3 ky u j) (LB2 ky u j)))))) 83 (0, 0)), (b8, .cells (cl i64 (TimesR (AddR (TimesR (LB3 ky u j) (LA2 ky u j)) (TimesR (LA3 ky u j) (LB2 ky u j))) (AddR (TimesR (LB3 ky u j) (LA2 ky u j)) (TimesR (LA3 ky u j) (LB2 ky u j))))) 83 (0, 0)), (b20_1, .cells (cl i64 (LessR (TimesR (LA2 ky u j) (LA2 ky u j)) (TimesR (LB2 ky u j) (LB2 ky u j)))) 83 (0, 0)), (b16_1, .cells (cl i64 (TimesR (LB3 ky u j) (LA2 ky u j))) 83 (0, 0)), (b17_1, .cells (cl i64 (TimesR (LA3 ky u j) (LB2 ky u j))) 83 (0, 0)), (b18_1, .cells (cl i64 (TimesR (LA2 ky u j) (LA2 ky u j))) 83 (0, 0)), (b19_1, .cells (cl i64 (TimesR (LB2 ky u j) (LB2 ky u j))) 83 (0, 0)), (b12_1, .cells (cl i64 (LA2 ky u j)) 83 (0, 0)), (b13_1, .cells (cl i64 (LB2 ky u j)) 83 (0, 0)), (b14_1, .cells (cl i64 (LA3 ky u j)) 83 (0, 0)), (b15_1, .cells (cl i64 (LB3 ky u j)) 83 (0, 0)), (b5, .cells (cl i64 (ReadR u)) 83 (0, 0)), (b4, .cells (cl u8 (List.replicate 32 0)) 23 (0, 0)), (b2, .cells (cl u8 (clampR ky)) 23 (0, 0))] := Mem.upd0 (Mem.pick [_, _, _, _, _, _, _, _, _, _, _, _] [_] _ hm221) uq223
       refine rN (sR ?_)
       refine rM rfl s11 <| rw_q rfl (ev_u8_eql (b := 1#8) rfl rfl) ?_
       refine rN ?_
       refine cw_cond_f rfl hc36 ?_
       refine cw_skip (kBlk_normal (cw_region ?_))
       refine rM rfl s10 <| rw_q rfl (ev_i64_sub (b := 1) rfl rfl oM oM) <| rw_q rfl (ev_assign (v := (i64 ((254 - (j : Int)) - 1))) rfl) ?_
       refine rN ?_
       have hm224 := Mem.drop ([(b20_1, .cells (cl i64 (LessR (TimesR (LA2 ky u j) (LA2 ky u j)) (TimesR (LB2 ky u j) (LB2 ky u j)))) 83 (0, 0))]) _ (Mem.pick [_, _, _, _] [_] _ hm223)
       have hm225 := Mem.drop ([(b16_1, .cells (cl i64 (TimesR (LB3 ky u j) (LA2 ky u j))) 83 (0, 0))]) _ (Mem.pick [_, _, _, _] [_] _ hm224)
       have hm226 := Mem.drop ([(b17_1, .cells (cl i64 (TimesR (LA3 ky u j) (LB2 ky u j))) 83 (0, 0))]) _ (Mem.pick [_, _, _, _] [_] _ hm225)
       have hm227 := Mem.drop ([(b18_1, .cells (cl i64 (TimesR (LA2 ky u j) (LA2 ky u j))) 83 (0, 0))]) _ (Mem.pick [_, _, _, _] [_] _ hm226)
       have hm228 := Mem.drop ([(b19_1, .cells (cl i64 (TimesR (LB2 ky u j) (LB2 ky u j))) 83 (0, 0))]) _ (Mem.pick [_, _, _, _] [_] _ hm227)
       have hm229 := Mem.drop ([(b12_1, .cells (cl i64 (LA2 ky u j)) 83 (0, 0))]) _ (Mem.pick [_, _, _, _] [_] _ hm228)
       have hm230 := Mem.drop ([(b13_1, .cells (cl i64 (LB2 ky u j)) 83 (0, 0))]) _ (Mem.pick [_, _, _, _] [_] _ hm229)
       have hm231 := Mem.drop ([(b14_1, .cells (cl i64 (LA3 ky u j)) 83 (0, 0))]) _ (Mem.pick [_, _, _, _] [_] _ hm230)
       have hm232 := Mem.drop ([(b15_1, .cells (cl i64 (LB3 ky u j)) 83 (0, 0))]) _ (Mem.pick [_, _, _, _] [_] _ hm231)
       have hm233 := (Mem.pick [_, _, _, _, _, _] [_] _ hm232)
       have hm234 := (Mem.pick [_, _, _, _, _, _] [_] _ hm233)
       have hm235 := (Mem.pick [_, _, _, _, _, _] [_] _ hm234)
       have hm236 := (Mem.pick [_, _, _, _, _] [_] _ hm235)
       have hm237 := (Mem.pick [_, _, _, _, _, _] [_] _ hm236)
       have hm238 := (Mem.pick [_, _, _, _, _] [_] _ hm237)
       have hm239 := (Mem.pick [_, _, _, _, _, _] [_] _ hm238)
       exact ⟨⟨j + 1, oM, s0, s1, s2, s3, s4, s5, s6, s7, s8, s9, (show i64 (254 - (j : Int) - 1) = i64 (254 - ((j + 1 : Nat) : Int)) from congrArg i64 oM), (by unfold LJ; rw [lad16_f (k := (clampR ky)) (x1 := (ReadR u)) (j := j) hc36]; unfold stepR; exact hm239)⟩, (by show (RowKit.intOf (i64 (254 - (j : Int) - 1)) + 1).toNat < (RowKit.intOf _ + 1).toNat; rw [z10]; simp only [RowKit.intOf, i64]; omega)⟩
   · -- false
     have hc34p := of_decide_eq_false hc34
     obtain rfl : j = 255 := by omega
     refine cw_exit ?_
     refine kThen_exit (kThen_exit (kBlk_hit ?_))
     refine cw_seq <| cw_draw [(0, false), (1, false), (2, false)] 3 (by kernel_rfl) <| dw_q (v := (agg i64 ((lad16 (clampR ky) (ReadR u) 255).x2))) rfl rfl (fun _ _hx => ev_loadA uT83 rfl ti83 s6 (hm33.ext _hx).h0 sZ) <| dw_q (v := (agg i64 ((lad16 (clampR ky) (ReadR u) 255).z2))) rfl rfl (fun _ _hx => ev_loadA uT83 rfl ti83 s7 (hm33.ext _hx).h1 sZ) <| dw_x (v := (agg i64 (invRGo ((lad16 (clampR ky) (ReadR u) 255).z2) 255))) rfl rfl (fun w240 _ew240 => OpR.mono (opR_call Tryd.func58 bd58 nm58 (args1 rfl) (c_rinv ((lad16 (clampR ky) (ReadR u) 255).z2) _ hL.z2)) (by rintro _ w241 ⟨rfl, _ew241⟩; exact ⟨rfl, _ew241⟩)) ?_
     refine dw_nil (fun w243 _ew243 => ?_)
     have hm243 := hm33.ext _ew243
     refine rw_c rfl (opR_call Tryd.func56 bd56 nm56 (args2 rfl rfl) (c_rtimes ((lad16 (clampR ky) (ReadR u) 255).x2) (invRGo ((lad16 (clampR ky) (ReadR u) 255).z2) 255) _ hL.x2 (goodR_inv hL.z2 255))) ?_
     rintro _ w244 ⟨rfl, _ew244⟩
     have hm244 := hm243.ext _ew244
     refine rw_c rfl (opR_call Tryd.func57 bd57 nm57 (args1 rfl) (c_rwrite (TimesR ((lad16 (clampR ky) (ReadR u) 255).x2) (invRGo ((lad16 (clampR ky) (ReadR u) 255).z2) 255)) _ (goodR_times hL.x2 (goodR_inv hL.z2 255)))) ?_
     rintro _ w246 ⟨rfl, _ew246⟩
     have hm246 := hm244.ext _ew246
     refine rw_n (or_store_agg (f := u8) (l := WriteR (TimesR ((lad16 (clampR ky) (ReadR u) 255).x2) (invRGo ((lad16 (clampR ky) (ReadR u) 255).z2) 255))) u8_one ti23 s4 rfl sD hm246.h5 sZ rfl) ?_
     rintro _ w248 uq248
     have hm248 := hm246.upd5 uq248
     refine rN (cw_ret ?_)
     refine fnPost_ret [(agg u8 (WriteR (TimesR ((lad16 (clampR ky) (ReadR u) 255).x2) (invRGo ((lad16 (clampR ky) (ReadR u) 255).z2) 255))))] ⟨⟨_, s4, loadVar_run uT23 rfl ti23 hm248.h5 sZ⟩, trivial⟩ ?_
     exact ⟨by unfold multR; rfl, hm248.toExt⟩


end Go.Proofs.YtmiagmbgfhakgaaDoor

