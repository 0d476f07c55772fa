/- The law of the order: its walk. Conditions: none beyond those that each theorem states. -/
import Derived.Test.YtfbnhoolkajebaaSoK
namespace Go.Proofs.Ytfbnhoolkajebaa
set_option linter.unusedVariables false
set_option linter.unusedSimpArgs false
attribute [local irreducible] crashB crashK pushB readB inB errB cutN seenW
attribute [local irreducible] markB putB getB getK partB placeF blkOf rawB writeK blocksN
attribute [local irreducible] mostK newB roomB
attribute [local irreducible] recB recF recN genF badB lastP dataB gOf rOf pOf nOf loopH readH
attribute [local irreducible] okP layK turnL turnP oldB
attribute [local irreducible] openD
attribute [local irreducible] natB tkN tkOk kN vN_ oneOk oneR decF decP decV decE rightB encK recP num2 num4 allR goneB encV encE encL encS doO openK openS okS doK commitF lkA keysB
set_option maxHeartbeats 2000000 in
theorem law_sorder (vL : Value) (lL : List PLT) (front : ByteArray) (w0 : World)  (hrL : RdK (blks w0) encPL 1 vL lL) (hqL : ∀ a ∈ lL, PlR (blks w0) a) (hqB : ∀ a ∈ lL, PlB a) (hlL : lL.length ≤ 9223372036854775807) (hfs : front.size ≤ 9223372036854775807) : CallsR Try.prog 10 #[vL, (Value.string front)] w0 (fun r w1 => r = bl true ∧ RowKit.Below w0.heap.size w0 w1) := by
 refine callsR_of_cw (args := [vL, (Value.string front)]) Try.func10 rfl Try.ntmps10 Try.results10 rfl ?_
 have hm0 : Mem w0 (restOf w0) [] := Mem.of_world w0
 refine sR <| rw_q rfl (ev_assign (v := (bl false)) rfl) ?_
 refine rN (cw_seq (sR ?_))
 refine rw_c rfl (opR_call Try.func30 bd30 nm30 (args0) (c_speaks16 _)) ?_
 rintro _ w1 ⟨rfl, _ew1⟩
 have hm1 := hm0.ext _ew1
 refine rw_q (v := (bl false)) rfl (ev_not (b := true) rfl) <| rN <| cw_cond_f rfl (by decide) ?_
 refine cw_skip (kThen_normal (cw_seq (sR ?_)))
 refine rM rfl (v := vL) rfl <| rw_c rfl (opR_call Try.func38 bd38 nm38 (args1 rfl) (c_greatL vL lL _ (RdK.ofRest hrL hm1) (fun a h => PlR.ofRest (hqL a h) hm1) hqB sL)) ?_
 rintro _ w3 ⟨gLq4, rfl, hgq4, k_w3⟩
 have hm3 : Mem w3 (restOf w0) [] := Mem.new (H := []) (H' := []) hm1 k_w3
 refine rw_q rfl (ev_move (v := (bl gLq4)) rfl) ?_
 rcases Bool.eq_false_or_eq_true gLq4 with hb5 | hb5
 · -- true
   refine rw_gn (s := 22) rfl rfl hb5 rfl <| rw_gn (s := 22) rfl rfl hb5 rfl <| rw_gn (s := 22) rfl rfl hb5 rfl <| rw_q rfl (ev_pick_tk rfl hb5 rfl) <| rN <| cw_cond_t rfl (by decide) ?_
   refine sR <| rw_q rfl (ev_assign (v := (bl true)) rfl) ?_
   refine rN (cw_ret (kThen_ret ?_))
   refine fnPost_ret [(bl true)] ⟨rfl, trivial⟩ ?_
   exact ⟨rfl, Mem.below w0 hm3⟩
 · -- false
   refine rw_gyq (s := 22) rfl rfl hb5 rfl (ev_move (v := (Value.string front)) rfl) <| rw_gyq (s := 22) rfl rfl hb5 rfl (ev_len_str uT9 rfl) <| rw_gyq (s := 22) rfl rfl hb5 rfl (ev_i64_gtr (b := 100) rfl rfl) <| rw_q rfl (ev_pick_fk rfl hb5 rfl) <| rN ?_
   refine cw_cond rfl (fun hc6 => ?_) (fun hc6 => ?_)
   · -- true
     have hc6p := of_decide_eq_true hc6
     refine sR <| rw_q rfl (ev_assign (v := (bl true)) rfl) ?_
     refine rN (cw_ret (kThen_ret ?_))
     refine fnPost_ret [(bl true)] ⟨rfl, trivial⟩ ?_
     exact ⟨rfl, Mem.below w0 hm3⟩
   · -- false
     have hc6p := of_decide_eq_false hc6
     have hgl := hgq4 hb5
     refine cw_skip (kThen_normal (sR ?_))
     refine rw_c rfl (opR_call Try.func13 bd13 nm13 (args1 rfl) (c_dnew (3000 : Int) _ sL)) ?_
     rintro _ w7 ⟨bdq8, vlq8, Hlq8, rfl, glq8, k_w7⟩
     have hm7 : Mem w7 (restOf w0) ([(bdq8, .cells #[vlq8, (Value.slice none 0 0)] 94 (0, 0))] ++ (Hlq8 ++ ([]))) := (by
       have hT := Mem.new (H := []) (H' := _) hm3 k_w7
       try simp only [List.append_assoc, List.cons_append, List.nil_append, List.append_nil] at hT ⊢
       exact hT)
     have hbl0 : List.replicate (3000 : Int).toNat (List.replicate 64 0) = blank 3000 := rfl
     obtain ⟨L0, hL0⟩ : ∃ q : List (List (BitVec 8)), q = (List.replicate (3000 : Int).toNat (List.replicate 64 0)) := ⟨_, rfl⟩
     have hL0l : L0.length = 3000 := by rw [hL0, hbl0]; simp
     have gg9 : GrowK (encA u8) 64 83 vlq8 L0 Hlq8 := GrowK.cast glq8 (hL0.symm)
     rw [hbl0] at hL0
     obtain ⟨hbJ, hbn⟩ := blank_JI (n := 3000) oM oM
     rw [← hL0] at hbJ hbn
     have hn0 := new_le (ls := L0) (by rw [hL0]; exact blank_G _) (by decide)
     have hob0 : oldB L0 [] = ((L0.length : Int) / 2, [[]]) := by rw [hL0]; exact blank_old
     have hodl0 : (openD L0 []).length = L0.length := openD_len
     refine rw_q rfl (ev_move (v := (Value.tuple #[(ptr bdq8 0), (i64 0)])) rfl) <| rw_q (v := (ptr bdq8 0)) rfl (ev_extract rfl rfl) <| rw_q (v := (i64 0)) rfl (ev_extract rfl rfl) <| rw_q rfl (ev_assign (v := (ptr bdq8 0)) rfl) <| rw_q rfl (ev_assign (v := (i64 0)) rfl) ?_
     refine rN (cw_seq (sR ?_))
     refine rw_q rfl (ev_move (v := (i64 0)) rfl) <| rw_q rfl (ev_i64_neq (b := 0) rfl rfl) <| rw_q rfl (ev_move (v := (bl (0 != 0))) rfl) ?_
     have hd10 : (0 != 0) = false := told_ne rfl
     refine rw_gyq (s := 33) rfl rfl hd10 rfl (ev_move (v := (ptr bdq8 0)) rfl) <| rw_gyq (s := 33) rfl rfl hd10 rfl (ev_ptr_nil_eql uT25 rfl rfl) <| rw_q rfl (ev_pick_fk rfl hd10 rfl) <| rN ?_
     refine CW.abs (fun g => g 0 = vL ∧ g 1 = (Value.string front) ∧ g 4 = (bl false) ∧ g 5 = (ptr bdq8 0) ∧ g 6 = (i64 0) ∧ g 19 = (bl false) ∧ g 26 = (bl (decide (100 < (front.size : Int)))) ∧ g 36 = (bl false) ∧ True) ⟨rfl, rfl, rfl, rfl, rfl, rfl, rfl, rfl, trivial⟩ ?_
     rintro fr11 ⟨s0, s1, s4, s5, s6, s19, s26, s36, _⟩
     refine cw_cond_f s36 (by decide) ?_
     refine cw_skip (kThen_normal (sR ?_))
     refine rM rfl s5 ?_
     have hF13 : Mem w7 (restOf w0) (([(bdq8, .cells #[vlq8, (Value.slice none 0 0)] 94 (0, 0))] ++ (Hlq8 ++ ([]))) ++ ([])) := by
       have hT := (Mem.pick Hlq8 [_] _ (Mem.pick [_] Hlq8 _ hm7))
       try simp only [List.append_assoc, List.cons_append, List.nil_append, List.append_nil] at hT ⊢
       exact hT
     refine rw_c rfl (opR_call Try.func39 bd39 nm39 (args1 rfl) (c_sopen bdq8 vlq8 L0 Hlq8 0 1500 [[]] _ _ (Mem.give hF13) gg9 (congrArg Prod.snd hob0) (by rw [hob0]; show _ - (L0.length : Int) / 2 = ((0 : Nat) : Int); omega) hbJ hn0.1 okS_blank oM)) ?_
     rintro _ w12 ⟨bsq14, bjq14, bq14, Hmq14, vrq14, rsq14, Hrq14, Hl2q14, rfl, gmq14, hMq14, grq14, gl2q14, k_w12⟩
     have hm12 : Mem w12 (restOf w0) ([(bsq14, .cells #[(ptr bjq14 0), (Value.map (some bq14))] 118 (0, 0))] ++ (Hmq14 ++ ([(bjq14, .cells #[(ptr bdq8 0), (i64 (0 : Int)), (i64 (1500 : Int)), (u64 (newB L0 [])), vrq14, (i64 (roomB [[]] : Int))] 100 (0, 0))] ++ (Hrq14 ++ ([(bdq8, .cells #[vlq8, (Value.slice none 0 0)] 94 (0, 0))] ++ (Hl2q14 ++ ([]))))))) := (by
       have hT := Mem.back hF13 k_w12
       try simp only [List.append_assoc, List.cons_append, List.nil_append, List.append_nil] at hT ⊢
       exact hT)
     refine rw_q rfl (ev_move (v := (Value.tuple #[(ptr bsq14 0), (i64 0)])) rfl) <| rw_q (v := (ptr bsq14 0)) rfl (ev_extract rfl rfl) <| rw_q (v := (i64 0)) rfl (ev_extract rfl rfl) <| rw_q rfl (ev_assign (v := (ptr bsq14 0)) rfl) <| rw_q rfl (ev_assign (v := (i64 0)) rfl) ?_
     refine rN (cw_seq (sR ?_))
     refine rw_q rfl (ev_move (v := (i64 0)) rfl) <| rw_q rfl (ev_i64_neq (b := 0) rfl rfl) <| rw_q rfl (ev_move (v := (bl (0 != 0))) rfl) <| rw_gyq (s := 44) rfl rfl hd10 rfl (ev_move (v := (ptr bsq14 0)) rfl) <| rw_gyq (s := 44) rfl rfl hd10 rfl (ev_ptr_nil_eql uT70 rfl rfl) <| rw_q rfl (ev_pick_fk rfl hd10 rfl) ?_
     refine rN <| cw_cond_f rfl (by decide) ?_
     refine cw_skip (kThen_normal (cw_seq (sR ?_)))
     refine rM rfl s0 <| rw_q (v := (i64 (lL.length : Int))) rfl (ev_len_rk (RdK.ofRest hrL hm12) uT68 rfl) <| rw_q rfl (ev_move (v := (i64 0)) rfl) ?_
     refine rN (cw_block ?_)
     refine cw_loop (fun g wv => ∃ (k b1 : Nat) (Hm1 : List (Nat × Obj)) (fr : Nat) (ge : BitVec 64) (vr1 : Value) (rs1 : List SlT) (Hr1 : List (Nat × Obj)) (L1 : List (List (BitVec 8))) (Hl1 : List (Nat × Obj)) (LW : List (List (BitVec 8))), (k ≤ lL.length) ∧ (JI L1 fr 1500 ge LW) ∧ (ge.toNat ≤ k + 1) ∧ (okS LW = true) ∧ (rs1.map (·.2) = LW) ∧ (BndK (20 * k) (openS LW)) ∧ (L1.length = 3000) ∧ (MapG mN b1 (openS LW) Hm1) ∧ (GrowL mN 23 vr1 rs1 Hr1) ∧ (GrowK (encA u8) 64 83 vlq8 L1 Hl1) ∧ g 0 = vL ∧ g 1 = (Value.string front) ∧ g 4 = (bl false) ∧ g 5 = (ptr bdq8 0) ∧ g 6 = (i64 0) ∧ g 7 = (ptr bsq14 0) ∧ g 8 = (i64 0) ∧ g 19 = (bl false) ∧ g 26 = (bl (decide (100 < (front.size : Int)))) ∧ g 36 = (bl false) ∧ g 47 = (bl false) ∧ g 48 = vL ∧ g 49 = (i64 (lL.length : Int)) ∧ g 50 = (i64 (k : Int)) ∧ Mem wv (restOf w0) ([(bsq14, .cells #[(ptr bjq14 0), (Value.map (some b1))] 118 (0, 0))] ++ (Hm1 ++ ([(bjq14, .cells #[(ptr bdq8 0), (i64 (fr : Int)), (i64 (1500 : Int)), (u64 ge), vr1, (i64 (roomB LW : Int))] 100 (0, 0))] ++ (Hr1 ++ ([(bdq8, .cells #[vlq8, (Value.slice none 0 0)] 94 (0, 0))] ++ (Hl1 ++ ([])))))))) (fun g wv => ((lL.length : Int) - RowKit.intOf (g 50)).toNat) ?_ ?_
     · exact ⟨0, bq14, Hmq14, 0, (newB L0 []), vrq14, rsq14, Hrq14, (openD L0 []), Hl2q14, [[]], (Nat.zero_le _), hbJ, oM, okS_blank, hMq14, (by rw [openS_blank]; exact BndK.nil), oM, gmq14, grq14, gl2q14, s0, s1, s4, s5, s6, rfl, rfl, s19, s26, s36, rfl, rfl, rfl, rfl, (by
       have hT := hm12
       try simp only [List.append_assoc, List.cons_append, List.nil_append, List.append_nil] at hT ⊢
       exact hT)⟩
     · rintro fr15 w16 ⟨k, b1, Hm1, fr, ge, vr1, rs1, Hr1, L1, Hl1, LW, hk, hJ, hg, hok, hMr, hBn, hL1, gm1, gr1, gl1, s0, s1, s4, s5, s6, s7, s8, s19, s26, s36, s47, s48, s49, s50, hm16⟩
       have z50 := s50
       have hlwr := congrArg List.length hMr; rw [List.length_map] at hlwr
       have hJl := hJ.len; have hJr := hJ.room; have hJh := hJ.half; have hJs := hJ.small
       have hR0 : RightK (openS LW) := openS_right fun b hb => by have := hJ.el b hb; omega
       refine sR <| rw_q rfl (ev_i64_lss s50 s49) ?_
       refine rN (cw_seq ?_)
       refine cw_cond rfl (fun hc17 => ?_) (fun hc17 => ?_)
       · -- true
         have hc17p := of_decide_eq_true hc17
         have hkL : k < lL.length := by omega
         have hSL := hgl.2 k hkL
         have hSL1 := hSL.1
         refine cw_skip (kThen_normal (cw_seq (cw_block (sR ?_))))
         refine rw_q rfl (ev_indexAddr_rk (i := (k : Int)) (RdK.ofRest hrL hm16) uT68 ti55 s48 s50 oM sL) <| rw_q (v := (plv (lL.getD k pl0))) rfl (ev_load_rk1 (i := (k : Int)) (dflt := pl0) (u := (plv (lL.getD k pl0))) (RdK.ofRest hrL hm16) sL uT55 rfl rfl (by decide) rfl) <| rw_q rfl (ev_assign (v := (plv (lL.getD k pl0))) rfl) ?_
         refine rN (cw_region ?_)
         refine rM rfl s7 <| rw_q rfl (ev_move (v := (plv (lL.getD k pl0))) rfl) ?_
         have hF19 : Mem w16 (restOf w0) (([(bsq14, .cells #[(ptr bjq14 0), (Value.map (some b1))] 118 (0, 0))] ++ (Hm1 ++ ([(bjq14, .cells #[(ptr bdq8 0), (i64 (fr : Int)), (i64 (1500 : Int)), (u64 ge), vr1, (i64 (roomB LW : Int))] 100 (0, 0))] ++ (Hr1 ++ ([(bdq8, .cells #[vlq8, (Value.slice none 0 0)] 94 (0, 0))] ++ (Hl1 ++ ([]))))))) ++ ([])) := by
           have hT := (Mem.pick5 Hm1 [_] Hr1 [_] Hl1 [_] _ (Mem.pick5 [_] Hr1 [_] Hl1 [_] Hm1 _ (Mem.pick5 Hr1 [_] Hl1 [_] Hm1 [_] _ (Mem.pick5 [_] Hl1 [_] Hm1 [_] Hr1 _ (Mem.pick5 Hl1 [_] Hm1 [_] Hr1 [_] _ (Mem.pick5 [_] Hm1 [_] Hr1 [_] Hl1 _ hm16))))))
           try simp only [List.append_assoc, List.cons_append, List.nil_append, List.append_nil] at hT ⊢
           exact hT
         refine rw_c rfl (opR_call Try.func41 bd41 nm41 (args2 rfl rfl) (c_scommit bsq14 bjq14 b1 Hm1 fr 1500 ge LW vr1 rs1 Hr1 bdq8 vlq8 L1 Hl1 (plv (lL.getD k pl0)) ((lL.getD k pl0).2) _ _ (Mem.give hF19) gm1 gr1 gl1 hMr hJ oM hok oM (RdK.addRest hF19 (plQ1 hqL (k := k) sD)) (fun a h => Rd.addRest hF19 ((plQ2 hqL (k := k) sD) a h)) sL hSL.el (by have := hSL.len.1; omega) (by have h1 := (hBn.do hSL).enc; omega))) ?_
         rintro _ w18 ⟨b2q20, Hm2q20, fr2q20, ge2q20, vr2q20, rs2q20, Hr2q20, Ls2q20, Hl2q20, rfl, gm2q20, hM2q20, gr2q20, gl2q20, hJ2q20, hg2q20, hl2q20, ho2q20, k_w18⟩
         have hm18 : Mem w18 (restOf w0) ([(bsq14, .cells #[(ptr bjq14 0), (Value.map (some b2q20))] 118 (0, 0))] ++ (Hm2q20 ++ ([(bjq14, .cells #[(ptr bdq8 0), (i64 (fr2q20 : Int)), (i64 (1500 : Int)), (u64 ge2q20), vr2q20, (i64 (roomB (commitF 1500 LW ((lL.getD k pl0).2)).2 : Int))] 100 (0, 0))] ++ (Hr2q20 ++ ([(bdq8, .cells #[vlq8, (Value.slice none 0 0)] 94 (0, 0))] ++ (Hl2q20 ++ ([]))))))) := (by
           have hT := Mem.back hF19 k_w18
           try simp only [List.append_assoc, List.cons_append, List.nil_append, List.append_nil] at hT ⊢
           exact hT)
         obtain ⟨LW3, hLW3⟩ : ∃ q, q = (commitF 1500 LW (lL.getD k pl0).2).2 := ⟨_, rfl⟩
         have hG21 : MapG mN b2q20 (openS LW3) Hm2q20 := by rw [hLW3]; exact gm2q20
         have hM3 : rs2q20.map (·.2) = LW3 := by rw [hLW3]; exact hM2q20
         have hJ3 : JI Ls2q20 fr2q20 1500 ge2q20 LW3 := by rw [hLW3]; exact hJ2q20
         have hok3 : okS LW3 = true := by rw [hLW3]; exact ho2q20
         have hm22 : Mem w18 (restOf w0) ([(bsq14, .cells #[(ptr bjq14 0), (Value.map (some b2q20))] 118 (0, 0))] ++ (Hm2q20 ++ ([(bjq14, .cells #[(ptr bdq8 0), (i64 (fr2q20 : Int)), (i64 (1500 : Int)), (u64 ge2q20), vr2q20, (i64 (roomB LW3 : Int))] 100 (0, 0))] ++ (Hr2q20 ++ ([(bdq8, .cells #[vlq8, (Value.slice none 0 0)] 94 (0, 0))] ++ (Hl2q20 ++ ([]))))))) := by rw [hLW3]; exact hm18
         have hge3 := hg2q20
         have hLl3 := hl2q20
         have hBn3 : BndK (20 * (k + 1)) (openS LW3) := by rw [hLW3, Nat.mul_succ]; exact hBn.commit hok hR0 hSL
         refine rw_nil (kBlk_normal (cw_region ?_))
         refine rw_q rfl (ev_i64_add (b := 1) s50 rfl oM oM) <| rw_q rfl (ev_move (v := (i64 ((k : Int) + 1))) rfl) <| rN ?_
         exact ⟨⟨(k + 1), b2q20, Hm2q20, fr2q20, ge2q20, vr2q20, rs2q20, Hr2q20, Ls2q20, Hl2q20, LW3, oM, hJ3, oM, hok3, hM3, hBn3, oM, hG21, gr2q20, gl2q20, s0, s1, s4, s5, s6, s7, s8, s19, s26, s36, s47, s48, s49, rfl, (by
           have hT := hm22
           try simp only [List.append_assoc, List.cons_append, List.nil_append, List.append_nil] at hT ⊢
           exact hT)⟩, meas (rfl) z50 oM oM⟩
       · -- false
         have hc17p := of_decide_eq_false hc17
         refine cw_exit ?_
         refine kThen_exit (kThen_exit (kBlk_hit ?_))
         refine cw_seq ?_
         have hkl : k = lL.length := by omega
         have hJl := hJ.len
         have hR0 : RightK (openS LW) := openS_right fun b hb => by have := hJ.el b hb; omega
         have hBl := hBn.1
         have hall := keysB_all (openS LW)
         have hal : (keysB (openS LW) ⟨#[]⟩).length = (openS LW).length := by rw [hall, List.length_map]
         have hsub := keysB_sub (openS LW) front
         have hso := openS_sort LW
         have hfl : (keysB (openS LW) front).length ≤ (keysB (openS LW) ⟨#[]⟩).length := by rw [hsub]; exact List.length_filter_le _ _
         refine cw_region <| rM rfl s7 <| rw_c rfl (opR_call Try.func43 bd43 nm43 (args2 rfl rfl) (c_skeys bsq14 bjq14 b1 (openS LW) (⟨#[]⟩) _ hm16.h0 (MapG.rdIn gm1 (fun p hp => (hm16).own _ (List.mem_append_right _ (List.mem_append_left _ hp))) nN) hR0.small sL)) ?_
         rintro rq24 w23 ⟨Hsq24, grq24, k_w23⟩
         have hm23 : Mem w23 (restOf w0) (Hsq24 ++ ([(bsq14, .cells #[(ptr bjq14 0), (Value.map (some b1))] 118 (0, 0))] ++ (Hm1 ++ ([(bjq14, .cells #[(ptr bdq8 0), (i64 (fr : Int)), (i64 (1500 : Int)), (u64 ge), vr1, (i64 (roomB LW : Int))] 100 (0, 0))] ++ (Hr1 ++ ([(bdq8, .cells #[vlq8, (Value.slice none 0 0)] 94 (0, 0))] ++ (Hl1 ++ ([])))))))) := Mem.new (H := [(bsq14, .cells #[(ptr bjq14 0), (Value.map (some b1))] 118 (0, 0))] ++ (Hm1 ++ ([(bjq14, .cells #[(ptr bdq8 0), (i64 (fr : Int)), (i64 (1500 : Int)), (u64 ge), vr1, (i64 (roomB LW : Int))] 100 (0, 0))] ++ (Hr1 ++ ([(bdq8, .cells #[vlq8, (Value.slice none 0 0)] 94 (0, 0))] ++ (Hl1 ++ ([]))))))) (H' := Hsq24) hm16 k_w23
         refine rM rfl s7 <| rM rfl s1 <| rw_c rfl (opR_call Try.func43 bd43 nm43 (args2 rfl rfl) (c_skeys bsq14 bjq14 b1 (openS LW) front _ ((Mem.pick Hsq24 [_] _ hm23)).h0 (MapG.rdIn gm1 (fun p hp => (hm23).own _ (List.mem_append_right _ (List.mem_append_right _ (List.mem_append_left _ hp)))) nN) hR0.small sL)) ?_
         rintro rq26 w25 ⟨Hsq26, grq26, k_w25⟩
         have hm25 : Mem w25 (restOf w0) (Hsq26 ++ (Hsq24 ++ ([(bsq14, .cells #[(ptr bjq14 0), (Value.map (some b1))] 118 (0, 0))] ++ (Hm1 ++ ([(bjq14, .cells #[(ptr bdq8 0), (i64 (fr : Int)), (i64 (1500 : Int)), (u64 ge), vr1, (i64 (roomB LW : Int))] 100 (0, 0))] ++ (Hr1 ++ ([(bdq8, .cells #[vlq8, (Value.slice none 0 0)] 94 (0, 0))] ++ (Hl1 ++ ([]))))))))) := Mem.new (H := Hsq24 ++ ([(bsq14, .cells #[(ptr bjq14 0), (Value.map (some b1))] 118 (0, 0))] ++ (Hm1 ++ ([(bjq14, .cells #[(ptr bdq8 0), (i64 (fr : Int)), (i64 (1500 : Int)), (u64 ge), vr1, (i64 (roomB LW : Int))] 100 (0, 0))] ++ (Hr1 ++ ([(bdq8, .cells #[vlq8, (Value.slice none 0 0)] 94 (0, 0))] ++ (Hl1 ++ ([])))))))) (H' := Hsq26) hm23 k_w25
         refine rA rfl (v := rq24) rfl <| rA rfl (v := rq26) rfl ?_
         refine rN (sR ?_)
         refine rw_q rfl (ev_assign (v := (i64 0)) rfl) ?_
         refine rN (cw_seq (sR ?_))
         refine rM rfl (v := rq24) rfl <| rw_q (v := (i64 ((keysB (openS LW) (⟨#[]⟩)).length : Int))) rfl (ev_len_rd (grq24.rd (Mem.pick Hsq26 Hsq24 _ hm25)) uT76 rfl) <| rw_q rfl (ev_move (v := (i64 0)) rfl) ?_
         refine rN (cw_block ?_)
         refine cw_loop (fun g wv => ∃ (k2 : Nat), (k2 ≤ (keysB (openS LW) ⟨#[]⟩).length) ∧ g 0 = vL ∧ g 1 = (Value.string front) ∧ g 5 = (ptr bdq8 0) ∧ g 6 = (i64 0) ∧ g 7 = (ptr bsq14 0) ∧ g 8 = (i64 0) ∧ g 11 = rq24 ∧ g 12 = rq26 ∧ g 13 = (i64 ((((keysB (openS LW) ⟨#[]⟩).take k2).filter (preB front)).length : Int)) ∧ g 19 = (bl false) ∧ g 26 = (bl (decide (100 < (front.size : Int)))) ∧ g 36 = (bl false) ∧ g 47 = (bl false) ∧ g 48 = vL ∧ g 49 = (i64 (lL.length : Int)) ∧ g 50 = (i64 (k : Int)) ∧ g 51 = (bl (decide ((k : Int) < (lL.length : Int)))) ∧ g 63 = rq24 ∧ g 64 = (i64 ((keysB (openS LW) (⟨#[]⟩)).length : Int)) ∧ g 65 = (i64 (k2 : Int)) ∧ Mem wv (restOf w0) ([(bsq14, .cells #[(ptr bjq14 0), (Value.map (some b1))] 118 (0, 0))] ++ (Hm1 ++ ([(bjq14, .cells #[(ptr bdq8 0), (i64 (fr : Int)), (i64 (1500 : Int)), (u64 ge), vr1, (i64 (roomB LW : Int))] 100 (0, 0))] ++ (Hr1 ++ ([(bdq8, .cells #[vlq8, (Value.slice none 0 0)] 94 (0, 0))] ++ (Hl1 ++ (Hsq24 ++ (Hsq26 ++ ([])))))))))) (fun g wv => (((keysB (openS LW) ⟨#[]⟩).length : Int) - RowKit.intOf (g 65)).toNat) ?_ ?_
         have hm27 := (Mem.pick Hsq26 Hsq24 _ hm25)
         have hm28 := (Mem.pick7 Hsq24 Hsq26 [_] Hm1 [_] Hr1 [_] Hl1 _ hm27)
         have hm29 := (Mem.pick7 Hl1 Hsq24 Hsq26 [_] Hm1 [_] Hr1 [_] _ hm28)
         have hm30 := (Mem.pick7 [_] Hl1 Hsq24 Hsq26 [_] Hm1 [_] Hr1 _ hm29)
         have hm31 := (Mem.pick7 Hr1 [_] Hl1 Hsq24 Hsq26 [_] Hm1 [_] _ hm30)
         have hm32 := (Mem.pick7 [_] Hr1 [_] Hl1 Hsq24 Hsq26 [_] Hm1 _ hm31)
         have hm33 := (Mem.pick7 Hm1 [_] Hr1 [_] Hl1 Hsq24 Hsq26 [_] _ hm32)
         · exact ⟨0, (Nat.zero_le _), s0, s1, s5, s6, s7, s8, rfl, rfl, (Eq.trans rfl (congrArg i64 rfl)), s19, s26, s36, s47, s48, s49, s50, rfl, rfl, rfl, rfl, (by
           have hT := hm33
           try simp only [List.append_assoc, List.cons_append, List.nil_append, List.append_nil] at hT ⊢
           exact hT)⟩
         · rintro fr34 w35 ⟨k2, hk2, s0, s1, s5, s6, s7, s8, s11, s12, s13, s19, s26, s36, s47, s48, s49, s50, s51, s63, s64, s65, hm35⟩
           have z13 := s13
           have z65 := s65
           refine sR <| rw_q rfl (ev_i64_lss s65 s64) ?_
           refine rN (cw_seq ?_)
           refine cw_cond rfl (fun hc36 => ?_) (fun hc36 => ?_)
           · -- true
             have hc36p := of_decide_eq_true hc36
             have hkS : k2 < (openS LW).length := by omega
             have hks := key_some hkS
             rw [← hall] at hks
             have hrise : 0 < k2 → klt ((keysB (openS LW) ⟨#[]⟩).getD (k2 - 1) ByteArray.empty) ((keysB (openS LW) ⟨#[]⟩).getD k2 ByteArray.empty) = true := fun h0 => by rw [hall]; exact keys_rise hso h0 hkS
             have hcl := cnt_le (l := (keysB (openS LW) ⟨#[]⟩)) (P := preB front) k2
             have hvb : ((lkA (openS LW) ((keysB (openS LW) ⟨#[]⟩).getD k2 ByteArray.empty)).getD []).length ≤ 1048576 := hR0.small.val _
             refine cw_skip (kThen_normal (cw_seq (cw_block (sR ?_))))
             refine rM rfl s65 <| rw_q rfl (ev_indexAddr_rdv (grq24.rd (Mem.pick6 [_] Hm1 [_] Hr1 [_] Hl1 Hsq24 _ hm35)) uT76 ti9 s63 s65 oM sL) <| rw_q (v := (Value.string ((keysB (openS LW) (⟨#[]⟩)).getD k2 ByteArray.empty))) rfl (ev_load_rdD (l := (keysB (openS LW) (⟨#[]⟩))) (i := (k2 : Int)) (dflt := ByteArray.empty) (grq24.rd (Mem.pick6 [_] Hm1 [_] Hr1 [_] Hl1 Hsq24 _ hm35)) uT9 rfl oM sL rfl) <| rw_q rfl (ev_assign (v := (i64 (k2 : Int))) rfl) <| rw_q rfl (ev_assign (v := (Value.string ((keysB (openS LW) (⟨#[]⟩)).getD k2 ByteArray.empty))) rfl) ?_
             refine rN (cw_seq (sR ?_))
             refine rM rfl s7 <| rw_q rfl (ev_move (v := (Value.string ((keysB (openS LW) (⟨#[]⟩)).getD k2 ByteArray.empty))) rfl) <| rw_c rfl (opR_call Try.func47 bd47 nm47 (args2 rfl rfl) (c_sget bsq14 bjq14 b1 (openS LW) ((keysB (openS LW) (⟨#[]⟩)).getD k2 ByteArray.empty) _ hm35.h0 (MapG.rdIn gm1 (fun p hp => (hm35).own _ (List.mem_append_right _ (List.mem_append_left _ hp))) nN) hR0.small sL)) ?_
             rintro _ w37 ⟨vq38, Hsq38, rfl, grq38, k_w37⟩
             have hm37 : Mem w37 (restOf w0) (Hsq38 ++ ([(bsq14, .cells #[(ptr bjq14 0), (Value.map (some b1))] 118 (0, 0))] ++ (Hm1 ++ ([(bjq14, .cells #[(ptr bdq8 0), (i64 (fr : Int)), (i64 (1500 : Int)), (u64 ge), vr1, (i64 (roomB LW : Int))] 100 (0, 0))] ++ (Hr1 ++ ([(bdq8, .cells #[vlq8, (Value.slice none 0 0)] 94 (0, 0))] ++ (Hl1 ++ (Hsq24 ++ (Hsq26 ++ ([])))))))))) := Mem.new (H := [(bsq14, .cells #[(ptr bjq14 0), (Value.map (some b1))] 118 (0, 0))] ++ (Hm1 ++ ([(bjq14, .cells #[(ptr bdq8 0), (i64 (fr : Int)), (i64 (1500 : Int)), (u64 ge), vr1, (i64 (roomB LW : Int))] 100 (0, 0))] ++ (Hr1 ++ ([(bdq8, .cells #[vlq8, (Value.slice none 0 0)] 94 (0, 0))] ++ (Hl1 ++ (Hsq24 ++ (Hsq26 ++ ([]))))))))) (H' := Hsq38) hm35 k_w37
             refine rM rfl rfl <| rw_q (v := vq38) rfl (ev_extract rfl rfl) <| rw_q (v := (bl ((lkA (openS LW) ((keysB (openS LW) (⟨#[]⟩)).getD k2 ByteArray.empty)).isSome))) rfl (ev_extract rfl rfl) <| rA rfl (v := vq38) rfl <| rA rfl rfl ?_
             refine rN (sR ?_)
             refine rM rfl rfl <| rw_q rfl (ev_not rfl) <| rM rfl rfl ?_
             have hd39 : ((lkA (openS LW) ((keysB (openS LW) (⟨#[]⟩)).getD k2 ByteArray.empty)).isSome) = true := hks
             have hd40 : (!((lkA (openS LW) ((keysB (openS LW) (⟨#[]⟩)).getD k2 ByteArray.empty)).isSome)) = false := congrArg Bool.not hd39
             refine rw_gyq (s := 78) rfl rfl hd40 rfl (ev_move (v := (i64 (k2 : Int))) rfl) <| rw_gyq (s := 78) rfl rfl hd40 rfl (ev_i64_gtr (b := 0) rfl rfl) <| rw_gyq (s := 78) rfl rfl hd40 rfl (ev_move (v := (bl (decide (0 < (k2 : Int))))) rfl) ?_
             rcases Bool.eq_false_or_eq_true (decide (0 < (k2 : Int))) with hb41 | hb41
             · -- true
               have hb41p := of_decide_eq_true hb41
               refine rw_gyq (s := 81) rfl rfl hb41 rfl (ev_move s11) <| rw_gyq (s := 81) rfl rfl hb41 rfl (ev_move (v := (i64 (k2 : Int))) rfl) <| rw_gyq (s := 81) rfl rfl hb41 rfl (ev_i64_sub (b := 1) rfl rfl oM oM) <| rw_gyq (s := 81) rfl rfl hb41 rfl (ev_indexAddr_rdv (grq24.rd (Mem.pick7 Hsq38 [_] Hm1 [_] Hr1 [_] Hl1 Hsq24 _ hm37)) uT76 ti9 rfl rfl oM sL) <| rw_gyq (s := 81) rfl rfl hb41 rfl (ev_load_rdD (l := (keysB (openS LW) (⟨#[]⟩))) (i := (k2 : Int) - 1) (dflt := ByteArray.empty) (grq24.rd (Mem.pick7 Hsq38 [_] Hm1 [_] Hr1 [_] Hl1 Hsq24 _ hm37)) uT9 rfl oM sL rfl) <| rw_gyq (s := 81) rfl rfl hb41 rfl (ev_move (v := (Value.string ((keysB (openS LW) (⟨#[]⟩)).getD k2 ByteArray.empty))) rfl) ?_
               refine rw_gyq (s := 81) rfl rfl hb41 rfl (ev_str_geq (s := ((keysB (openS LW) (⟨#[]⟩)).getD (((k2 : Int) - 1 : Int).toNat) ByteArray.empty)) (u := ((keysB (openS LW) (⟨#[]⟩)).getD k2 ByteArray.empty)) rfl rfl) <| rw_gyq (s := 78) rfl rfl hd40 rfl (ev_pick_tk rfl hb41 rfl) <| rw_q rfl (ev_pick_fk rfl hd40 rfl) <| rN ?_
               have hm42 := Mem.drop Hsq38 _ hm37
               refine CW.abs (fun g => g 0 = vL ∧ g 1 = (Value.string front) ∧ g 5 = (ptr bdq8 0) ∧ g 6 = (i64 0) ∧ g 7 = (ptr bsq14 0) ∧ g 8 = (i64 0) ∧ g 11 = rq24 ∧ g 12 = rq26 ∧ g 13 = (i64 ((((keysB (openS LW) ⟨#[]⟩).take k2).filter (preB front)).length : Int)) ∧ g 14 = (i64 (k2 : Int)) ∧ g 15 = (Value.string ((keysB (openS LW) (⟨#[]⟩)).getD k2 ByteArray.empty)) ∧ g 17 = (bl ((lkA (openS LW) ((keysB (openS LW) (⟨#[]⟩)).getD k2 ByteArray.empty)).isSome)) ∧ g 19 = (bl false) ∧ g 26 = (bl (decide (100 < (front.size : Int)))) ∧ g 36 = (bl false) ∧ g 47 = (bl false) ∧ g 48 = vL ∧ g 49 = (i64 (lL.length : Int)) ∧ g 50 = (i64 (k : Int)) ∧ g 51 = (bl (decide ((k : Int) < (lL.length : Int)))) ∧ g 63 = rq24 ∧ g 64 = (i64 ((keysB (openS LW) (⟨#[]⟩)).length : Int)) ∧ g 65 = (i64 (k2 : Int)) ∧ g 66 = (bl (decide ((k2 : Int) < ((keysB (openS LW) (⟨#[]⟩)).length : Int)))) ∧ g 90 = (bl (!klt ((keysB (openS LW) (⟨#[]⟩)).getD (((k2 : Int) - 1 : Int).toNat) ByteArray.empty) ((keysB (openS LW) (⟨#[]⟩)).getD k2 ByteArray.empty))) ∧ True) ⟨s0, s1, s5, s6, s7, s8, s11, s12, s13, rfl, rfl, rfl, s19, s26, s36, s47, s48, s49, s50, s51, s63, s64, s65, rfl, rfl, trivial⟩ ?_
               rintro fr43 ⟨s0, s1, s5, s6, s7, s8, s11, s12, s13, s14, s15, s17, s19, s26, s36, s47, s48, s49, s50, s51, s63, s64, s65, s66, s90, _⟩
               have hd44 : (!klt ((keysB (openS LW) (⟨#[]⟩)).getD (((k2 : Int) - 1 : Int).toNat) ByteArray.empty) ((keysB (openS LW) (⟨#[]⟩)).getD k2 ByteArray.empty)) = false := (by rw [show ((k2 : Int) - 1).toNat = k2 - 1 by omega, hrise oM]; rfl)
               refine cw_cond_f s90 hd44 ?_
               refine cw_skip (kThen_normal (sR ?_))
               refine rM rfl s15 <| rw_q (v := (i64 (((keysB (openS LW) (⟨#[]⟩)).getD k2 ByteArray.empty).size : Int))) rfl (ev_len_str uT9 rfl) <| rM rfl s1 <| rw_q (v := (i64 (front.size : Int))) rfl (ev_len_str uT9 rfl) <| rw_q rfl (ev_i64_geq rfl rfl) <| rM rfl rfl ?_
               rcases Bool.eq_false_or_eq_true (decide ((front.size : Int) ≤ (((keysB (openS LW) (⟨#[]⟩)).getD k2 ByteArray.empty).size : Int))) with hb45 | hb45
               · -- true
                 have hb45p := of_decide_eq_true hb45
                 refine rw_gyq (s := 96) rfl rfl hb45 rfl (ev_move s15) <| rw_gyq (s := 96) rfl rfl hb45 rfl (ev_move s1) <| rw_gyq (s := 96) rfl rfl hb45 rfl (ev_len_str uT9 rfl) <| rw_gyq (s := 96) rfl rfl hb45 rfl (ev_slice_strh uT9 rfl rfl sL sL) <| rw_gyq (s := 96) rfl rfl hb45 rfl (ev_move s1) <| rw_gyq (s := 96) rfl rfl hb45 rfl (ev_str_eql (s := (((keysB (openS LW) (⟨#[]⟩)).getD k2 ByteArray.empty).extract 0 ((front.size : Int) : Int).toNat)) (t := front) rfl rfl) ?_
                 refine rw_q rfl (ev_pick_tk rfl hb45 rfl) <| rN ?_
                 refine cw_cond rfl (fun hc46 => ?_) (fun hc46 => ?_)
                 · -- true
                   have hc46p := of_decide_eq_true hc46
                   have hpre : preB front ((keysB (openS LW) ⟨#[]⟩).getD k2 ByteArray.empty) = true := by unfold preB; rw [if_pos hb45]; exact hc46
                   have hcg := cnt_get (l := (keysB (openS LW) ⟨#[]⟩)) (P := preB front) (k := k2) oM hpre
                   rw [← hsub] at hcg
                   have hcs := cnt_step (l := (keysB (openS LW) ⟨#[]⟩)) (P := preB front) (k := k2) oM
                   rw [if_pos hpre] at hcs
                   refine cw_seq (sR ?_)
                   refine rM rfl s13 <| rM rfl s12 <| rw_q (v := (i64 ((keysB (openS LW) front).length : Int))) rfl (ev_len_rd (grq26.rd (Mem.pick7 [_] Hm1 [_] Hr1 [_] Hl1 Hsq24 Hsq26 _ hm42)) uT76 rfl) <| rw_q rfl (ev_i64_geq rfl rfl) <| rM rfl rfl ?_
                   have hd47 : (decide (((keysB (openS LW) front).length : Int) ≤ ((((keysB (openS LW) ⟨#[]⟩).take k2).filter (preB front)).length : Int))) = false := decide_eq_false (by have := hcg.1; omega)
                   refine rw_gyq (s := 108) rfl rfl hd47 rfl (ev_move s12) <| rw_gyq (s := 108) rfl rfl hd47 rfl (ev_move s13) <| rw_gyq (s := 108) rfl rfl hd47 rfl (ev_indexAddr_rdv (grq26.rd (Mem.pick7 [_] Hm1 [_] Hr1 [_] Hl1 Hsq24 Hsq26 _ hm42)) uT76 ti9 rfl rfl oM sL) <| rw_gyq (s := 108) rfl rfl hd47 rfl (ev_load_rdD (l := (keysB (openS LW) front)) (i := ((((keysB (openS LW) ⟨#[]⟩).take k2).filter (preB front)).length : Int)) (dflt := ByteArray.empty) (grq26.rd (Mem.pick7 [_] Hm1 [_] Hr1 [_] Hl1 Hsq24 Hsq26 _ hm42)) uT9 rfl oM sL rfl) <| rw_gyq (s := 108) rfl rfl hd47 rfl (ev_move s15) <| rw_gyq (s := 108) rfl rfl hd47 rfl (ev_str_neq (s := ((keysB (openS LW) front).getD ((((keysB (openS LW) ⟨#[]⟩).take k2).filter (preB front)).length) ByteArray.empty)) (t := ((keysB (openS LW) (⟨#[]⟩)).getD k2 ByteArray.empty)) rfl rfl) ?_
                   refine rw_q rfl (ev_pick_fk rfl hd47 rfl) <| rN ?_
                   refine CW.abs (fun g => g 0 = vL ∧ g 1 = (Value.string front) ∧ g 5 = (ptr bdq8 0) ∧ g 6 = (i64 0) ∧ g 7 = (ptr bsq14 0) ∧ g 8 = (i64 0) ∧ g 11 = rq24 ∧ g 12 = rq26 ∧ g 13 = (i64 ((((keysB (openS LW) ⟨#[]⟩).take k2).filter (preB front)).length : Int)) ∧ g 14 = (i64 (k2 : Int)) ∧ g 15 = (Value.string ((keysB (openS LW) (⟨#[]⟩)).getD k2 ByteArray.empty)) ∧ g 17 = (bl ((lkA (openS LW) ((keysB (openS LW) (⟨#[]⟩)).getD k2 ByteArray.empty)).isSome)) ∧ g 19 = (bl false) ∧ g 26 = (bl (decide (100 < (front.size : Int)))) ∧ g 36 = (bl false) ∧ g 47 = (bl false) ∧ g 48 = vL ∧ g 49 = (i64 (lL.length : Int)) ∧ g 50 = (i64 (k : Int)) ∧ g 51 = (bl (decide ((k : Int) < (lL.length : Int)))) ∧ g 63 = rq24 ∧ g 64 = (i64 ((keysB (openS LW) (⟨#[]⟩)).length : Int)) ∧ g 65 = (i64 (k2 : Int)) ∧ g 66 = (bl (decide ((k2 : Int) < ((keysB (openS LW) (⟨#[]⟩)).length : Int)))) ∧ g 90 = (bl (!klt ((keysB (openS LW) (⟨#[]⟩)).getD (((k2 : Int) - 1 : Int).toNat) ByteArray.empty) ((keysB (openS LW) (⟨#[]⟩)).getD k2 ByteArray.empty))) ∧ g 103 = (bl (decide ((((keysB (openS LW) (⟨#[]⟩)).getD k2 ByteArray.empty).extract 0 ((front.size : Int) : Int).toNat) = front))) ∧ g 115 = (bl (!decide (((keysB (openS LW) front).getD ((((keysB (openS LW) ⟨#[]⟩).take k2).filter (preB front)).length) ByteArray.empty) = ((keysB (openS LW) (⟨#[]⟩)).getD k2 ByteArray.empty)))) ∧ True) ⟨s0, s1, s5, s6, s7, s8, s11, s12, s13, s14, s15, s17, s19, s26, s36, s47, s48, s49, s50, s51, s63, s64, s65, s66, s90, rfl, rfl, trivial⟩ ?_
                   rintro fr48 ⟨s0, s1, s5, s6, s7, s8, s11, s12, s13, s14, s15, s17, s19, s26, s36, s47, s48, s49, s50, s51, s63, s64, s65, s66, s90, s103, s115, _⟩
                   have hd49 : (!decide (((keysB (openS LW) front).getD ((((keysB (openS LW) ⟨#[]⟩).take k2).filter (preB front)).length) ByteArray.empty) = ((keysB (openS LW) (⟨#[]⟩)).getD k2 ByteArray.empty))) = false := (by rw [decide_eq_true hcg.2]; rfl)
                   refine cw_cond_f s115 hd49 ?_
                   refine cw_skip (kThen_normal (cw_region ?_))
                   refine rM rfl s13 <| rw_q rfl (ev_i64_add (b := 1) rfl rfl oM oM) <| rA rfl rfl ?_
                   refine rw_nil (kBlk_normal (cw_region ?_))
                   refine rw_q rfl (ev_i64_add (b := 1) s65 rfl oM oM) <| rw_q rfl (ev_move (v := (i64 ((k2 : Int) + 1))) rfl) <| rN ?_
                   exact ⟨⟨(k2 + 1), oM, s0, s1, s5, s6, s7, s8, s11, s12, (Eq.trans rfl (congrArg i64 (by rw [hcs]; omega))), s19, s26, s36, s47, s48, s49, s50, s51, s63, s64, rfl, (by
                     have hT := hm42
                     try simp only [List.append_assoc, List.cons_append, List.nil_append, List.append_nil] at hT ⊢
                     exact hT)⟩, meas (rfl) z65 oM oM⟩
                 · -- false
                   have hc46p := of_decide_eq_false hc46
                   refine cw_skip (kBlk_normal ?_)
                   have hpre : preB front ((keysB (openS LW) ⟨#[]⟩).getD k2 ByteArray.empty) = false := by unfold preB; rw [if_pos hb45]; exact hc46
                   have hcs := cnt_step (l := (keysB (openS LW) ⟨#[]⟩)) (P := preB front) (k := k2) oM
                   rw [if_neg (by rw [hpre]; decide)] at hcs
                   refine cw_region <| rw_q rfl (ev_i64_add (b := 1) s65 rfl oM oM) <| rw_q rfl (ev_move (v := (i64 ((k2 : Int) + 1))) rfl) <| rN ?_
                   exact ⟨⟨(k2 + 1), oM, s0, s1, s5, s6, s7, s8, s11, s12, (Eq.trans s13 (congrArg i64 (by rw [hcs]; omega))), s19, s26, s36, s47, s48, s49, s50, s51, s63, s64, rfl, (by
                     have hT := hm42
                     try simp only [List.append_assoc, List.cons_append, List.nil_append, List.append_nil] at hT ⊢
                     exact hT)⟩, meas (rfl) z65 oM oM⟩
               · -- false
                 have hb45p := of_decide_eq_false hb45
                 refine rw_gn (s := 96) rfl rfl hb45 rfl <| rw_gn (s := 96) rfl rfl hb45 rfl <| rw_gn (s := 96) rfl rfl hb45 rfl <| rw_gn (s := 96) rfl rfl hb45 rfl <| rw_gn (s := 96) rfl rfl hb45 rfl <| rw_gn (s := 96) rfl rfl hb45 rfl ?_
                 refine rw_q rfl (ev_pick_fk rfl hb45 rfl) <| rN <| cw_cond_f rfl (by decide) ?_
                 refine cw_skip (kBlk_normal ?_)
                 have hpre : preB front ((keysB (openS LW) ⟨#[]⟩).getD k2 ByteArray.empty) = false := by unfold preB; rw [if_neg (by rw [hb45]; decide)]
                 have hcs := cnt_step (l := (keysB (openS LW) ⟨#[]⟩)) (P := preB front) (k := k2) oM
                 rw [if_neg (by rw [hpre]; decide)] at hcs
                 refine cw_region <| rw_q rfl (ev_i64_add (b := 1) s65 rfl oM oM) <| rw_q rfl (ev_move (v := (i64 ((k2 : Int) + 1))) rfl) <| rN ?_
                 exact ⟨⟨(k2 + 1), oM, s0, s1, s5, s6, s7, s8, s11, s12, (Eq.trans s13 (congrArg i64 (by rw [hcs]; omega))), s19, s26, s36, s47, s48, s49, s50, s51, s63, s64, rfl, (by
                   have hT := hm42
                   try simp only [List.append_assoc, List.cons_append, List.nil_append, List.append_nil] at hT ⊢
                   exact hT)⟩, meas (rfl) z65 oM oM⟩
             · -- false
               have hb41p := of_decide_eq_false hb41
               refine rw_gn (s := 81) rfl rfl hb41 rfl <| rw_gn (s := 81) rfl rfl hb41 rfl <| rw_gn (s := 81) rfl rfl hb41 rfl <| rw_gn (s := 81) rfl rfl hb41 rfl <| rw_gn (s := 81) rfl rfl hb41 rfl <| rw_gn (s := 81) rfl rfl hb41 rfl ?_
               refine rw_gn (s := 81) rfl rfl hb41 rfl <| rw_gyq (s := 78) rfl rfl hd40 rfl (ev_pick_fk rfl hb41 rfl) <| rw_q rfl (ev_pick_fk rfl hd40 rfl) <| rN ?_
               have hm50 := Mem.drop Hsq38 _ hm37
               refine CW.abs (fun g => g 0 = vL ∧ g 1 = (Value.string front) ∧ g 5 = (ptr bdq8 0) ∧ g 6 = (i64 0) ∧ g 7 = (ptr bsq14 0) ∧ g 8 = (i64 0) ∧ g 11 = rq24 ∧ g 12 = rq26 ∧ g 13 = (i64 ((((keysB (openS LW) ⟨#[]⟩).take k2).filter (preB front)).length : Int)) ∧ g 14 = (i64 (k2 : Int)) ∧ g 15 = (Value.string ((keysB (openS LW) (⟨#[]⟩)).getD k2 ByteArray.empty)) ∧ g 17 = (bl ((lkA (openS LW) ((keysB (openS LW) (⟨#[]⟩)).getD k2 ByteArray.empty)).isSome)) ∧ g 19 = (bl false) ∧ g 26 = (bl (decide (100 < (front.size : Int)))) ∧ g 36 = (bl false) ∧ g 47 = (bl false) ∧ g 48 = vL ∧ g 49 = (i64 (lL.length : Int)) ∧ g 50 = (i64 (k : Int)) ∧ g 51 = (bl (decide ((k : Int) < (lL.length : Int)))) ∧ g 63 = rq24 ∧ g 64 = (i64 ((keysB (openS LW) (⟨#[]⟩)).length : Int)) ∧ g 65 = (i64 (k2 : Int)) ∧ g 66 = (bl (decide ((k2 : Int) < ((keysB (openS LW) (⟨#[]⟩)).length : Int)))) ∧ g 90 = (bl false) ∧ True) ⟨s0, s1, s5, s6, s7, s8, s11, s12, s13, rfl, rfl, rfl, s19, s26, s36, s47, s48, s49, s50, s51, s63, s64, s65, rfl, rfl, trivial⟩ ?_
               rintro fr51 ⟨s0, s1, s5, s6, s7, s8, s11, s12, s13, s14, s15, s17, s19, s26, s36, s47, s48, s49, s50, s51, s63, s64, s65, s66, s90, _⟩
               refine cw_cond_f s90 (by decide) ?_
               refine cw_skip (kThen_normal (sR ?_))
               refine rM rfl s15 <| rw_q (v := (i64 (((keysB (openS LW) (⟨#[]⟩)).getD k2 ByteArray.empty).size : Int))) rfl (ev_len_str uT9 rfl) <| rM rfl s1 <| rw_q (v := (i64 (front.size : Int))) rfl (ev_len_str uT9 rfl) <| rw_q rfl (ev_i64_geq rfl rfl) <| rM rfl rfl ?_
               rcases Bool.eq_false_or_eq_true (decide ((front.size : Int) ≤ (((keysB (openS LW) (⟨#[]⟩)).getD k2 ByteArray.empty).size : Int))) with hb52 | hb52
               · -- true
                 have hb52p := of_decide_eq_true hb52
                 refine rw_gyq (s := 96) rfl rfl hb52 rfl (ev_move s15) <| rw_gyq (s := 96) rfl rfl hb52 rfl (ev_move s1) <| rw_gyq (s := 96) rfl rfl hb52 rfl (ev_len_str uT9 rfl) <| rw_gyq (s := 96) rfl rfl hb52 rfl (ev_slice_strh uT9 rfl rfl sL sL) <| rw_gyq (s := 96) rfl rfl hb52 rfl (ev_move s1) <| rw_gyq (s := 96) rfl rfl hb52 rfl (ev_str_eql (s := (((keysB (openS LW) (⟨#[]⟩)).getD k2 ByteArray.empty).extract 0 ((front.size : Int) : Int).toNat)) (t := front) rfl rfl) ?_
                 refine rw_q rfl (ev_pick_tk rfl hb52 rfl) <| rN ?_
                 refine cw_cond rfl (fun hc53 => ?_) (fun hc53 => ?_)
                 · -- true
                   have hc53p := of_decide_eq_true hc53
                   have hpre : preB front ((keysB (openS LW) ⟨#[]⟩).getD k2 ByteArray.empty) = true := by unfold preB; rw [if_pos hb52]; exact hc53
                   have hcg := cnt_get (l := (keysB (openS LW) ⟨#[]⟩)) (P := preB front) (k := k2) oM hpre
                   rw [← hsub] at hcg
                   have hcs := cnt_step (l := (keysB (openS LW) ⟨#[]⟩)) (P := preB front) (k := k2) oM
                   rw [if_pos hpre] at hcs
                   refine cw_seq (sR ?_)
                   refine rM rfl s13 <| rM rfl s12 <| rw_q (v := (i64 ((keysB (openS LW) front).length : Int))) rfl (ev_len_rd (grq26.rd (Mem.pick7 [_] Hm1 [_] Hr1 [_] Hl1 Hsq24 Hsq26 _ hm50)) uT76 rfl) <| rw_q rfl (ev_i64_geq rfl rfl) <| rM rfl rfl ?_
                   have hd54 : (decide (((keysB (openS LW) front).length : Int) ≤ ((((keysB (openS LW) ⟨#[]⟩).take k2).filter (preB front)).length : Int))) = false := decide_eq_false (by have := hcg.1; omega)
                   refine rw_gyq (s := 108) rfl rfl hd54 rfl (ev_move s12) <| rw_gyq (s := 108) rfl rfl hd54 rfl (ev_move s13) <| rw_gyq (s := 108) rfl rfl hd54 rfl (ev_indexAddr_rdv (grq26.rd (Mem.pick7 [_] Hm1 [_] Hr1 [_] Hl1 Hsq24 Hsq26 _ hm50)) uT76 ti9 rfl rfl oM sL) <| rw_gyq (s := 108) rfl rfl hd54 rfl (ev_load_rdD (l := (keysB (openS LW) front)) (i := ((((keysB (openS LW) ⟨#[]⟩).take k2).filter (preB front)).length : Int)) (dflt := ByteArray.empty) (grq26.rd (Mem.pick7 [_] Hm1 [_] Hr1 [_] Hl1 Hsq24 Hsq26 _ hm50)) uT9 rfl oM sL rfl) <| rw_gyq (s := 108) rfl rfl hd54 rfl (ev_move s15) <| rw_gyq (s := 108) rfl rfl hd54 rfl (ev_str_neq (s := ((keysB (openS LW) front).getD ((((keysB (openS LW) ⟨#[]⟩).take k2).filter (preB front)).length) ByteArray.empty)) (t := ((keysB (openS LW) (⟨#[]⟩)).getD k2 ByteArray.empty)) rfl rfl) ?_
                   refine rw_q rfl (ev_pick_fk rfl hd54 rfl) <| rN ?_
                   refine CW.abs (fun g => g 0 = vL ∧ g 1 = (Value.string front) ∧ g 5 = (ptr bdq8 0) ∧ g 6 = (i64 0) ∧ g 7 = (ptr bsq14 0) ∧ g 8 = (i64 0) ∧ g 11 = rq24 ∧ g 12 = rq26 ∧ g 13 = (i64 ((((keysB (openS LW) ⟨#[]⟩).take k2).filter (preB front)).length : Int)) ∧ g 14 = (i64 (k2 : Int)) ∧ g 15 = (Value.string ((keysB (openS LW) (⟨#[]⟩)).getD k2 ByteArray.empty)) ∧ g 17 = (bl ((lkA (openS LW) ((keysB (openS LW) (⟨#[]⟩)).getD k2 ByteArray.empty)).isSome)) ∧ g 19 = (bl false) ∧ g 26 = (bl (decide (100 < (front.size : Int)))) ∧ g 36 = (bl false) ∧ g 47 = (bl false) ∧ g 48 = vL ∧ g 49 = (i64 (lL.length : Int)) ∧ g 50 = (i64 (k : Int)) ∧ g 51 = (bl (decide ((k : Int) < (lL.length : Int)))) ∧ g 63 = rq24 ∧ g 64 = (i64 ((keysB (openS LW) (⟨#[]⟩)).length : Int)) ∧ g 65 = (i64 (k2 : Int)) ∧ g 66 = (bl (decide ((k2 : Int) < ((keysB (openS LW) (⟨#[]⟩)).length : Int)))) ∧ g 90 = (bl false) ∧ g 103 = (bl (decide ((((keysB (openS LW) (⟨#[]⟩)).getD k2 ByteArray.empty).extract 0 ((front.size : Int) : Int).toNat) = front))) ∧ g 115 = (bl (!decide (((keysB (openS LW) front).getD ((((keysB (openS LW) ⟨#[]⟩).take k2).filter (preB front)).length) ByteArray.empty) = ((keysB (openS LW) (⟨#[]⟩)).getD k2 ByteArray.empty)))) ∧ True) ⟨s0, s1, s5, s6, s7, s8, s11, s12, s13, s14, s15, s17, s19, s26, s36, s47, s48, s49, s50, s51, s63, s64, s65, s66, s90, rfl, rfl, trivial⟩ ?_
                   rintro fr55 ⟨s0, s1, s5, s6, s7, s8, s11, s12, s13, s14, s15, s17, s19, s26, s36, s47, s48, s49, s50, s51, s63, s64, s65, s66, s90, s103, s115, _⟩
                   have hd56 : (!decide (((keysB (openS LW) front).getD ((((keysB (openS LW) ⟨#[]⟩).take k2).filter (preB front)).length) ByteArray.empty) = ((keysB (openS LW) (⟨#[]⟩)).getD k2 ByteArray.empty))) = false := (by rw [decide_eq_true hcg.2]; rfl)
                   refine cw_cond_f s115 hd56 ?_
                   refine cw_skip (kThen_normal (cw_region ?_))
                   refine rM rfl s13 <| rw_q rfl (ev_i64_add (b := 1) rfl rfl oM oM) <| rA rfl rfl ?_
                   refine rw_nil (kBlk_normal (cw_region ?_))
                   refine rw_q rfl (ev_i64_add (b := 1) s65 rfl oM oM) <| rw_q rfl (ev_move (v := (i64 ((k2 : Int) + 1))) rfl) <| rN ?_
                   exact ⟨⟨(k2 + 1), oM, s0, s1, s5, s6, s7, s8, s11, s12, (Eq.trans rfl (congrArg i64 (by rw [hcs]; omega))), s19, s26, s36, s47, s48, s49, s50, s51, s63, s64, rfl, (by
                     have hT := hm50
                     try simp only [List.append_assoc, List.cons_append, List.nil_append, List.append_nil] at hT ⊢
                     exact hT)⟩, meas (rfl) z65 oM oM⟩
                 · -- false
                   have hc53p := of_decide_eq_false hc53
                   refine cw_skip (kBlk_normal ?_)
                   have hpre : preB front ((keysB (openS LW) ⟨#[]⟩).getD k2 ByteArray.empty) = false := by unfold preB; rw [if_pos hb52]; exact hc53
                   have hcs := cnt_step (l := (keysB (openS LW) ⟨#[]⟩)) (P := preB front) (k := k2) oM
                   rw [if_neg (by rw [hpre]; decide)] at hcs
                   refine cw_region <| rw_q rfl (ev_i64_add (b := 1) s65 rfl oM oM) <| rw_q rfl (ev_move (v := (i64 ((k2 : Int) + 1))) rfl) <| rN ?_
                   exact ⟨⟨(k2 + 1), oM, s0, s1, s5, s6, s7, s8, s11, s12, (Eq.trans s13 (congrArg i64 (by rw [hcs]; omega))), s19, s26, s36, s47, s48, s49, s50, s51, s63, s64, rfl, (by
                     have hT := hm50
                     try simp only [List.append_assoc, List.cons_append, List.nil_append, List.append_nil] at hT ⊢
                     exact hT)⟩, meas (rfl) z65 oM oM⟩
               · -- false
                 have hb52p := of_decide_eq_false hb52
                 refine rw_gn (s := 96) rfl rfl hb52 rfl <| rw_gn (s := 96) rfl rfl hb52 rfl <| rw_gn (s := 96) rfl rfl hb52 rfl <| rw_gn (s := 96) rfl rfl hb52 rfl <| rw_gn (s := 96) rfl rfl hb52 rfl <| rw_gn (s := 96) rfl rfl hb52 rfl ?_
                 refine rw_q rfl (ev_pick_fk rfl hb52 rfl) <| rN <| cw_cond_f rfl (by decide) ?_
                 refine cw_skip (kBlk_normal ?_)
                 have hpre : preB front ((keysB (openS LW) ⟨#[]⟩).getD k2 ByteArray.empty) = false := by unfold preB; rw [if_neg (by rw [hb52]; decide)]
                 have hcs := cnt_step (l := (keysB (openS LW) ⟨#[]⟩)) (P := preB front) (k := k2) oM
                 rw [if_neg (by rw [hpre]; decide)] at hcs
                 refine cw_region <| rw_q rfl (ev_i64_add (b := 1) s65 rfl oM oM) <| rw_q rfl (ev_move (v := (i64 ((k2 : Int) + 1))) rfl) <| rN ?_
                 exact ⟨⟨(k2 + 1), oM, s0, s1, s5, s6, s7, s8, s11, s12, (Eq.trans s13 (congrArg i64 (by rw [hcs]; omega))), s19, s26, s36, s47, s48, s49, s50, s51, s63, s64, rfl, (by
                   have hT := hm50
                   try simp only [List.append_assoc, List.cons_append, List.nil_append, List.append_nil] at hT ⊢
                   exact hT)⟩, meas (rfl) z65 oM oM⟩
           · -- false
             have hc36p := of_decide_eq_false hc36
             refine cw_exit ?_
             refine kThen_exit (kThen_exit (kBlk_hit ?_))
             refine sR <| rM rfl s13 <| rM rfl s12 <| rw_q (v := (i64 ((keysB (openS LW) front).length : Int))) rfl (ev_len_rd (grq26.rd (Mem.pick7 [_] Hm1 [_] Hr1 [_] Hl1 Hsq24 Hsq26 _ hm35)) uT76 rfl) <| rw_q rfl (ev_i64_eql rfl rfl) <| rA rfl rfl ?_
             refine rN (cw_ret ?_)
             refine fnPost_ret [(bl (((((keysB (openS LW) ⟨#[]⟩).take k2).filter (preB front)).length : Int) == ((keysB (openS LW) front).length : Int)))] ⟨rfl, trivial⟩ ?_
             have hd57 : (((((keysB (openS LW) ⟨#[]⟩).take k2).filter (preB front)).length : Int) == ((keysB (openS LW) front).length : Int)) = true := (by rw [show k2 = (keysB (openS LW) ⟨#[]⟩).length by omega, cnt_all, ← hsub]; exact beq_self_eq_true _)
             exact ⟨congrArg bl hd57, Mem.below w0 hm35⟩


end Go.Proofs.Ytfbnhoolkajebaa
