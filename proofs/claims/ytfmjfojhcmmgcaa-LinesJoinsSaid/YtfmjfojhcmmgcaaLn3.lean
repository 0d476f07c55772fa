/- Contracts: mails over a line. Conditions: none beyond those that each theorem states. -/
import Derived.Test.YtfmjfojhcmmgcaaLn2
namespace Go.Proofs.Ytfmjfojhcmmgcaa
set_option linter.unusedVariables false
set_option linter.unusedSimpArgs false
attribute [local irreducible] wholeB linesB restB cutF befB aftB cutAv cutBv laidB stfL stuffB
set_option maxHeartbeats 1000000 in
theorem c_stuff (v : Value) (l : List (BitVec 8)) (w0 : World)  (hT : Tabs (blks w0)) (hr : Rd (blks w0) u8 v l) (hc : capOk v) (hl : l.length ≤ 262144) : CallsR Try.prog 46 #[v] w0 (fun r w1 => ∃ Hs, Grow u8 5 r (stuffB l) Hs ∧ Mem w1 (restOf w0) Hs) := by
 refine callsR_of_cw (args := [v]) Try.func46 rfl Try.ntmps46 Try.results46 rfl ?_
 have hm0 : Mem w0 (restOf w0) [] := Mem.of_world w0
 have hwl := wholeB_length l; have hb1 := stf_bound1 (wholeB l); have hb2 := stf_bound2 (wholeB l); have hb0 := (lines_num (wholeB l)).1; have hrl := restB_len (wholeB l)
 refine sR <| rw_q rfl (ev_assign (v := (Value.slice none 0 0)) rfl) ?_
 refine rN (sR ?_)
 refine rM rfl (v := v) rfl <| rw_c rfl (opR_call Try.func37 bd37 nm37 (args1 rfl) (c_whole v l _ (Rd.ofRest hr hm0) sL)) ?_
 rintro rq2 w1 ⟨Hsq2, grq2, k_w1⟩
 have hm1 : Mem w1 (restOf w0) (Hsq2 ++ ([])) := Mem.new (H := []) (H' := Hsq2) hm0 k_w1
 refine rw_c rfl (opR_call Try.func39 bd39 nm39 (args1 rfl) (c_split rq2 (wholeB l) _ (hT.mono fun b o e => (hm1).rest b o e) (grq2.rd hm1) (Grow.capOk grq2) sL)) ?_
 rintro _ w3 ⟨lsq4, r1q4, r2q4, Hsq4, Heq4, Hrq4, rfl, hMq4, grq4, hEq4, gr2q4, k_w3⟩
 have hm3 : Mem w3 (restOf w0) (Hsq4 ++ (Heq4 ++ (Hrq4 ++ (Hsq2 ++ ([]))))) := (by
   have hT := Mem.new (H := Hsq2 ++ ([])) (H' := _) hm1 k_w3
   simp only [List.append_assoc, List.cons_append, List.nil_append, List.append_nil] at hT ⊢
   exact hT)
 have hl5 := map_snd_len hMq4
 refine rw_q rfl (ev_move (v := (Value.tuple #[r1q4, r2q4])) rfl) <| rw_q (v := r1q4) rfl (ev_extract rfl rfl) <| rw_q (v := r2q4) rfl (ev_extract rfl rfl) <| rA rfl (v := r1q4) rfl <| rA rfl (v := r2q4) rfl ?_
 refine rN (cw_seq (sR ?_))
 refine rM rfl (v := r2q4) rfl <| rw_q (v := (i64 ((restB (wholeB l)).length : Int))) rfl (ev_len_rd (gr2q4.rd (Mem.pick2 Hsq4 Heq4 Hrq4 _ hm3)) uT24 rfl) <| rw_q rfl (ev_i64_gtr (b := 0) rfl rfl) <| rN ?_
 refine cw_cond rfl (fun hc6 => ?_) (fun hc6 => ?_)
 · -- true
   have hc6p := of_decide_eq_true hc6
   refine cw_region <| rM rfl (v := r1q4) rfl <| rM rfl (v := r2q4) rfl <| rw_c rfl (or_buildSlice_ones [r2q4] (List.all_eq_true.1 (one_cons gr2q4.one one_nil)) hm3 uT69 ti24 rfl rfl rfl) ?_
   rintro _ w7 ⟨b18, rfl, _ew7, hm7⟩
   have hm7 : Mem w7 (restOf w0) ([(b18, .cells #[r2q4] 24 (0, 0))] ++ (Hsq4 ++ (Heq4 ++ (Hrq4 ++ (Hsq2 ++ ([])))))) := hm7
   refine rw_c rfl (or_append (f := slv) (Hs := Hsq4) (H := [(b18, .cells #[r2q4] 24 (0, 0))] ++ (Heq4 ++ (Hrq4 ++ (Hsq2 ++ ([]))))) (Mem.pick [_] Hsq4 _ hm7) grq4 rfl rfl (Rd.oneS (l := restB (wholeB l)) hm7.h0 (Grow.toSl (restB (wholeB l)) gr2q4)) uT69 uT69 ti24 rfl slv_one sL sL) ?_
   rintro sv8 w8 ⟨Hs8, hm8, g8⟩
   replace g8 : Grow slv 24 sv8 (lsq4 ++ ([toSl r2q4 (restB (wholeB l))])) Hs8 := g8
   obtain ⟨ls9, hls9⟩ : ∃ x, x = lsq4 ++ ([toSl r2q4 (restB (wholeB l))]) := ⟨_, rfl⟩
   obtain ⟨He10, hHe10⟩ : ∃ x, x = (Hrq4 ++ Heq4) := ⟨_, rfl⟩
   have gl11 : Grow slv 24 sv8 ls9 Hs8 := by rw [hls9]; exact g8
   have hE12 : ElIn He10 ls9 := by rw [hls9, hHe10]; exact (ElIn.snoc hEq4 gr2q4)
   have hM13 : ls9.map (·.2) = (linesB (wholeB l) ++ [restB (wholeB l)]) := by rw [hls9]; exact (map_snd_snoc hMq4 r2q4 (restB (wholeB l)))
   have hl14 := map_snd_len hM13
   have hl14s := hl14
   simp only [List.length_append, List.length_cons, List.length_nil] at hl14s
   have hm15 := (Mem.pick4 Hs8 [_] Heq4 Hrq4 Hsq2 _ hm8)
   have hm16 := (Mem.pick2 Hsq2 Hs8 [_] _ hm15)
   have hm17 := (Mem.pick2 [_] Hsq2 Hs8 _ hm16)
   have hm18 := (Mem.pick3 Hs8 [_] Hsq2 Heq4 _ hm17)
   have hm19 := (Mem.pick4 Heq4 Hs8 [_] Hsq2 Hrq4 _ hm18)
   have hm20 : Mem w8 (restOf w0) (He10 ++ (Hs8 ++ ([(b18, .cells #[r2q4] 24 (0, 0))] ++ (Hsq2 ++ ([]))))) := (by
     have hT := hm19
     rw [hHe10]
     simp only [List.append_assoc, List.cons_append, List.nil_append, List.append_nil] at hT ⊢
     exact hT)
   refine rA rfl (v := sv8) rfl <| rN ?_
   have hm21 := Mem.drop ([(b18, .cells #[r2q4] 24 (0, 0))]) _ (Mem.pick2 He10 Hs8 [_] _ hm20)
   have hm22 := Mem.drop Hsq2 _ (Mem.pick2 He10 Hs8 Hsq2 _ hm21)
   refine CW.abs (fun g => g 0 = v ∧ g 2 = (Value.slice none 0 0) ∧ g 3 = sv8 ∧ g 4 = r2q4 ∧ g 15 = (bl (decide (0 < ((restB (wholeB l)).length : Int)))) ∧ True) ⟨rfl, rfl, rfl, rfl, rfl, trivial⟩ ?_
   rintro fr23 ⟨s0, s2, s3, s4, s15, _⟩
   refine cw_seq (sR ?_)
   refine rM rfl s3 <| rw_c rfl (or_buildSlice_ones [(Value.slice none 0 0)] (by simp [slc, ptr, Value.oneCell', i64, u8, u32, u64, bl]) hm22 uT69 ti24 rfl rfl rfl) ?_
   rintro _ w24 ⟨b21, rfl, _ew24, hm24⟩
   have hm24 : Mem w24 (restOf w0) ([(b21, .cells #[(Value.slice none 0 0)] 24 (0, 0))] ++ (He10 ++ (Hs8 ++ ([])))) := hm24
   refine rw_c rfl (or_append (f := slv) (Hs := Hs8) (H := [(b21, .cells #[(Value.slice none 0 0)] 24 (0, 0))] ++ (He10 ++ ([]))) (Mem.pick2 [_] He10 Hs8 _ hm24) gl11 rfl rfl (Rd.oneS (l := []) hm24.h0 rfl) uT69 uT69 ti24 rfl slv_one sL sL) ?_
   rintro sv25 w25 ⟨Hs25, hm25, g25⟩
   replace g25 : Grow slv 24 sv25 (ls9 ++ ([toSl (Value.slice none 0 0) ([])])) Hs25 := g25
   obtain ⟨ls26, hls26⟩ : ∃ x, x = ls9 ++ ([toSl (Value.slice none 0 0) ([])]) := ⟨_, rfl⟩
   obtain ⟨He27, hHe27⟩ : ∃ x, x = He10 := ⟨_, rfl⟩
   have gl28 : Grow slv 24 sv25 ls26 Hs25 := by rw [hls26]; exact g25
   have hE29 : ElIn He27 ls26 := by rw [hls26, hHe27]; exact (ElIn.snocNil hE12)
   have hM30 : ls26.map (·.2) = ((linesB (wholeB l) ++ [restB (wholeB l)]) ++ [[]]) := by rw [hls26]; exact (map_snd_snoc hM13 (Value.slice none 0 0) ([]))
   have hl31 := map_snd_len hM30
   have hl31s := hl31
   simp only [List.length_append, List.length_cons, List.length_nil] at hl31s
   have hm32 := (Mem.pick Hs25 [_] _ hm25)
   have hm33 := (Mem.pick [_] Hs25 _ hm32)
   have hm34 := (Mem.pick2 Hs25 [_] He10 _ hm33)
   have hm35 : Mem w25 (restOf w0) (He27 ++ (Hs25 ++ ([(b21, .cells #[(Value.slice none 0 0)] 24 (0, 0))]))) := (by
     have hT := hm34
     rw [hHe27]
     simp only [List.append_assoc, List.cons_append, List.nil_append, List.append_nil] at hT ⊢
     exact hT)
   refine rw_q (v := (i64 (ls26.length : Int))) rfl (ev_len_rd (gl28.rd (Mem.pick He27 Hs25 _ hm35)) uT69 rfl) <| rw_q rfl (ev_move (v := (i64 0)) rfl) ?_
   refine rN (cw_block ?_)
   refine cw_loop (fun g wv => ∃ (k : Nat) (v2 : Value) (Hs : List (Nat × Obj)), (k ≤ ((linesB (wholeB l) ++ [restB (wholeB l)]) ++ [[]]).length) ∧ (Grow u8 5 v2 (stfL (((linesB (wholeB l) ++ [restB (wholeB l)]) ++ [[]]).take k)) Hs) ∧ g 0 = v ∧ g 2 = v2 ∧ g 3 = sv8 ∧ g 4 = r2q4 ∧ g 15 = (bl (decide (0 < ((restB (wholeB l)).length : Int)))) ∧ g 22 = sv25 ∧ g 23 = (i64 (ls26.length : Int)) ∧ g 24 = (i64 (k : Int)) ∧ Mem wv (restOf w0) (Hs25 ++ (He27 ++ (Hs ++ ([]))))) (fun g wv => (((((linesB (wholeB l) ++ [restB (wholeB l)]) ++ [[]])).length : Int) - RowKit.intOf (g 24)).toNat) ?_ ?_
   have hm36 := Mem.drop ([(b21, .cells #[(Value.slice none 0 0)] 24 (0, 0))]) _ (Mem.pick2 He27 Hs25 [_] _ hm35)
   have hm37 := (Mem.pick He27 Hs25 _ hm36)
   · exact ⟨0, (Value.slice none 0 0), [], (Nat.zero_le _), (Grow.cast (Grow.none _ _) (stf_nil_take _)), s0, s2, s3, s4, s15, rfl, rfl, rfl, (by
     have hT := hm37
     simp only [List.append_assoc, List.cons_append, List.nil_append, List.append_nil] at hT ⊢
     exact hT)⟩
   · rintro fr38 w39 ⟨k, v2, Hs, hk, hg, s0, s2, s3, s4, s15, s22, s23, s24, hm39⟩
     have z2 := s2
     have z24 := s24
     refine sR <| rw_q rfl (ev_i64_lss s24 s23) ?_
     refine rN (cw_seq ?_)
     refine cw_cond rfl (fun hc40 => ?_) (fun hc40 => ?_)
     · -- true
       have hc40p := of_decide_eq_true hc40
       have hol := stf_take_le ((linesB (wholeB l) ++ [restB (wholeB l)]) ++ [[]]) k; have hel := stf_el (L := ((linesB (wholeB l) ++ [restB (wholeB l)]) ++ [[]])) (k := k) oM
       refine cw_skip (kThen_normal (cw_seq (cw_block (sR ?_))))
       refine rw_q rfl (ev_indexAddr_rdv (gl28.rd hm39) uT69 ti24 s22 s24 oM sL) <| rw_q (v := (slv (ls26.getD k sl0))) rfl (ev_load_rdD (l := ls26) (i := (k : Int)) (dflt := sl0) (gl28.rd hm39) uT24 rfl oM sL rfl) <| rw_q rfl (ev_assign (v := (slv (ls26.getD k sl0))) rfl) ?_
       refine rN (cw_seq (sR ?_))
       refine rw_q rfl (ev_move (v := (slv (ls26.getD k sl0))) rfl) <| rw_q (v := (i64 ((((linesB (wholeB l) ++ [restB (wholeB l)]) ++ [[]]).getD k []).length : Int))) rfl (ev_len_rd (ElIn.get (m := blks _) (k := k) hE29 hM30 sL (fun q hq => (hm39).own q (List.mem_append_right _ (List.mem_append_left _ hq)))) uT24 rfl) <| rw_q rfl (ev_i64_gtr (b := 0) rfl rfl) <| rM rfl rfl ?_
       rcases Bool.eq_false_or_eq_true (decide (0 < ((((linesB (wholeB l) ++ [restB (wholeB l)]) ++ [[]]).getD k []).length : Int))) with hb41 | hb41
       · -- true
         have hb41p := of_decide_eq_true hb41
         refine rw_gyq (s := 31) rfl rfl hb41 rfl (ev_move (v := (slv (ls26.getD k sl0))) rfl) <| rw_gyq (s := 31) rfl rfl hb41 rfl (ev_indexAddr_rdv (i := 0) (ElIn.get (m := blks _) (k := k) hE29 hM30 sL (fun q hq => (hm39).own q (List.mem_append_right _ (List.mem_append_left _ hq)))) uT24 ti5 rfl rfl oM sL) <| rw_gyq (s := 31) rfl rfl hb41 rfl (ev_load_rdD (l := ((linesB (wholeB l) ++ [restB (wholeB l)]) ++ [[]]).getD k []) (i := 0) (dflt := 0) (ElIn.get (m := blks _) (k := k) hE29 hM30 sL (fun q hq => (hm39).own q (List.mem_append_right _ (List.mem_append_left _ hq)))) uT5 rfl oM sL rfl) <| rw_gyq (s := 31) rfl rfl hb41 rfl (ev_u8_eql (b := 46#8) rfl rfl) <| rw_q rfl (ev_pick_tk rfl hb41 rfl) <| rN ?_
         refine CW.abs (fun g => g 0 = v ∧ g 2 = v2 ∧ g 3 = sv8 ∧ g 4 = r2q4 ∧ g 6 = (slv (ls26.getD k sl0)) ∧ g 15 = (bl (decide (0 < ((restB (wholeB l)).length : Int)))) ∧ g 22 = sv25 ∧ g 23 = (i64 (ls26.length : Int)) ∧ g 24 = (i64 (k : Int)) ∧ g 25 = (bl (decide ((k : Int) < (ls26.length : Int)))) ∧ g 36 = (bl (((((linesB (wholeB l) ++ [restB (wholeB l)]) ++ [[]]).getD k []).getD 0 0) == 46#8)) ∧ True) ⟨s0, s2, s3, s4, rfl, s15, s22, s23, s24, rfl, rfl, trivial⟩ ?_
         rintro fr42 ⟨s0, s2, s3, s4, s6, s15, s22, s23, s24, s25, s36, _⟩
         refine cw_cond s36 (fun hc43 => ?_) (fun hc43 => ?_)
         · -- true
           have hc43p := eq_of_beq hc43
           refine cw_region <| rM rfl s2 <| rw_c rfl (or_buildSlice_cl u8 [46#8] u8_one hm39 uT24 ti5 rfl rfl rfl) ?_
           rintro _ w44 ⟨b38, rfl, _ew44, hm44⟩
           refine rw_c rfl (or_append (f := u8) (Hs := Hs) (H := [(b38, .cells (cl u8 ([46#8])) 5 (0, 0))] ++ (Hs25 ++ (He27 ++ ([])))) (Mem.pick3 [_] Hs25 He27 Hs _ hm44) hg rfl rfl (Rd.mkA hm44.h0) uT24 uT24 ti5 rfl u8_one sL sL) ?_
           rintro sv45 w45 ⟨Hs45, hm45, g45⟩
           replace g45 : Grow u8 5 sv45 ((stfL (((linesB (wholeB l) ++ [restB (wholeB l)]) ++ [[]]).take k)) ++ ([46#8])) Hs45 := g45
           refine rA rfl (v := sv45) rfl ?_
           refine rN (cw_region ?_)
           refine rM rfl (v := sv45) rfl <| rM rfl s6 <| rw_c rfl (or_append (f := u8) (Hs := Hs45) (H := [(b38, .cells (cl u8 ([46#8])) 5 (0, 0))] ++ (Hs25 ++ (He27 ++ ([])))) hm45 g45 rfl rfl (ElIn.get (m := blks _) (k := k) hE29 hM30 sL (fun q hq => (hm45).own q (List.mem_append_right _ (List.mem_append_right _ (List.mem_append_right _ (List.mem_append_left _ hq)))))) uT24 uT24 ti5 rfl u8_one sL sL) ?_
           rintro sv46 w46 ⟨Hs46, hm46, g46⟩
           replace g46 : Grow u8 5 sv46 (((stfL (((linesB (wholeB l) ++ [restB (wholeB l)]) ++ [[]]).take k)) ++ ([46#8])) ++ (((linesB (wholeB l) ++ [restB (wholeB l)]) ++ [[]]).getD k [])) Hs46 := g46
           refine rw_c rfl (or_appendS (f := u8) (ms := [13#8, 10#8]) (Hs := Hs46) (H := [(b38, .cells (cl u8 ([46#8])) 5 (0, 0))] ++ (Hs25 ++ (He27 ++ ([])))) hm46 g46 rfl rfl (fun w => str_run w) uT24 uT9 ti5 rfl u8_one sL sL) ?_
           rintro sv47 w47 ⟨Hs47, hm47, g47⟩
           replace g47 : Grow u8 5 sv47 ((((stfL (((linesB (wholeB l) ++ [restB (wholeB l)]) ++ [[]]).take k)) ++ ([46#8])) ++ (((linesB (wholeB l) ++ [restB (wholeB l)]) ++ [[]]).getD k [])) ++ ([13#8, 10#8])) Hs47 := g47
           refine rA rfl (v := sv47) rfl ?_
           refine rw_nil (kBlk_normal (cw_region ?_))
           refine rw_q rfl (ev_i64_add (b := 1) s24 rfl oM oM) <| rw_q rfl (ev_move (v := (i64 ((k : Int) + 1))) rfl) <| rN ?_
           have hm48 := Mem.drop ([(b38, .cells (cl u8 ([46#8])) 5 (0, 0))]) _ (Mem.pick Hs47 [_] _ hm47)
           have hm49 := (Mem.pick2 Hs47 Hs25 He27 _ hm48)
           have hm50 := (Mem.pick2 He27 Hs47 Hs25 _ hm49)
           exact ⟨⟨(k + 1), sv47, Hs47, oM, (Grow.cast g47 (by rw [stf_succ oM, dot_yes oM hc43p]; simp)), s0, rfl, s3, s4, s15, s22, s23, rfl, hm50⟩, meas rfl z24 oM oM⟩
         · -- false
           have hc43p := ne_of_beq_false hc43
           refine cw_skip (kThen_normal (cw_region ?_))
           refine rM rfl s2 <| rM rfl s6 <| rw_c rfl (or_append (f := u8) (Hs := Hs) (H := Hs25 ++ (He27 ++ ([]))) (Mem.pick2 Hs25 He27 Hs _ hm39) hg rfl rfl (ElIn.get (m := blks _) (k := k) hE29 hM30 sL (fun q hq => (hm39).own q (List.mem_append_right _ (List.mem_append_left _ hq)))) uT24 uT24 ti5 rfl u8_one sL sL) ?_
           rintro sv51 w51 ⟨Hs51, hm51, g51⟩
           replace g51 : Grow u8 5 sv51 ((stfL (((linesB (wholeB l) ++ [restB (wholeB l)]) ++ [[]]).take k)) ++ (((linesB (wholeB l) ++ [restB (wholeB l)]) ++ [[]]).getD k [])) Hs51 := g51
           refine rw_c rfl (or_appendS (f := u8) (ms := [13#8, 10#8]) (Hs := Hs51) (H := Hs25 ++ (He27 ++ ([]))) hm51 g51 rfl rfl (fun w => str_run w) uT24 uT9 ti5 rfl u8_one sL sL) ?_
           rintro sv52 w52 ⟨Hs52, hm52, g52⟩
           replace g52 : Grow u8 5 sv52 (((stfL (((linesB (wholeB l) ++ [restB (wholeB l)]) ++ [[]]).take k)) ++ (((linesB (wholeB l) ++ [restB (wholeB l)]) ++ [[]]).getD k [])) ++ ([13#8, 10#8])) Hs52 := g52
           refine rA rfl (v := sv52) rfl ?_
           refine rw_nil (kBlk_normal (cw_region ?_))
           refine rw_q rfl (ev_i64_add (b := 1) s24 rfl oM oM) <| rw_q rfl (ev_move (v := (i64 ((k : Int) + 1))) rfl) <| rN ?_
           have hm53 := (Mem.pick2 Hs52 Hs25 He27 _ hm52)
           have hm54 := (Mem.pick2 He27 Hs52 Hs25 _ hm53)
           exact ⟨⟨(k + 1), sv52, Hs52, oM, (Grow.cast g52 (by rw [stf_succ oM, dot_no (fun _ => hc43p)]; simp)), s0, rfl, s3, s4, s15, s22, s23, rfl, hm54⟩, meas rfl z24 oM oM⟩
       · -- false
         have hb41p := of_decide_eq_false hb41
         refine rw_gn (s := 31) rfl rfl hb41 rfl <| rw_gn (s := 31) rfl rfl hb41 rfl <| rw_gn (s := 31) rfl rfl hb41 rfl <| rw_gn (s := 31) rfl rfl hb41 rfl <| rw_q rfl (ev_pick_fk rfl hb41 rfl) <| rN ?_
         refine CW.abs (fun g => g 0 = v ∧ g 2 = v2 ∧ g 3 = sv8 ∧ g 4 = r2q4 ∧ g 6 = (slv (ls26.getD k sl0)) ∧ g 15 = (bl (decide (0 < ((restB (wholeB l)).length : Int)))) ∧ g 22 = sv25 ∧ g 23 = (i64 (ls26.length : Int)) ∧ g 24 = (i64 (k : Int)) ∧ g 25 = (bl (decide ((k : Int) < (ls26.length : Int)))) ∧ g 36 = (bl false) ∧ True) ⟨s0, s2, s3, s4, rfl, s15, s22, s23, s24, rfl, rfl, trivial⟩ ?_
         rintro fr55 ⟨s0, s2, s3, s4, s6, s15, s22, s23, s24, s25, s36, _⟩
         refine cw_cond_f s36 (by decide) ?_
         refine cw_skip (kThen_normal (cw_region ?_))
         refine rM rfl s2 <| rM rfl s6 <| rw_c rfl (or_append (f := u8) (Hs := Hs) (H := Hs25 ++ (He27 ++ ([]))) (Mem.pick2 Hs25 He27 Hs _ hm39) hg rfl rfl (ElIn.get (m := blks _) (k := k) hE29 hM30 sL (fun q hq => (hm39).own q (List.mem_append_right _ (List.mem_append_left _ hq)))) uT24 uT24 ti5 rfl u8_one sL sL) ?_
         rintro sv56 w56 ⟨Hs56, hm56, g56⟩
         replace g56 : Grow u8 5 sv56 ((stfL (((linesB (wholeB l) ++ [restB (wholeB l)]) ++ [[]]).take k)) ++ (((linesB (wholeB l) ++ [restB (wholeB l)]) ++ [[]]).getD k [])) Hs56 := g56
         refine rw_c rfl (or_appendS (f := u8) (ms := [13#8, 10#8]) (Hs := Hs56) (H := Hs25 ++ (He27 ++ ([]))) hm56 g56 rfl rfl (fun w => str_run w) uT24 uT9 ti5 rfl u8_one sL sL) ?_
         rintro sv57 w57 ⟨Hs57, hm57, g57⟩
         replace g57 : Grow u8 5 sv57 (((stfL (((linesB (wholeB l) ++ [restB (wholeB l)]) ++ [[]]).take k)) ++ (((linesB (wholeB l) ++ [restB (wholeB l)]) ++ [[]]).getD k [])) ++ ([13#8, 10#8])) Hs57 := g57
         refine rA rfl (v := sv57) rfl ?_
         refine rw_nil (kBlk_normal (cw_region ?_))
         refine rw_q rfl (ev_i64_add (b := 1) s24 rfl oM oM) <| rw_q rfl (ev_move (v := (i64 ((k : Int) + 1))) rfl) <| rN ?_
         have hm58 := (Mem.pick2 Hs57 Hs25 He27 _ hm57)
         have hm59 := (Mem.pick2 He27 Hs57 Hs25 _ hm58)
         exact ⟨⟨(k + 1), sv57, Hs57, oM, (Grow.cast g57 (by rw [stf_succ oM, dot_no (fun h => absurd h oM)]; simp)), s0, rfl, s3, s4, s15, s22, s23, rfl, hm59⟩, meas rfl z24 oM oM⟩
     · -- false
       have hc40p := of_decide_eq_false hc40
       replace hg : Grow u8 5 v2 (stfL ((linesB (wholeB l) ++ [restB (wholeB l)]) ++ [[]])) Hs := Grow.cast hg (by rw [List.take_of_length_le oM])
       have h2 := stf_two (linesB (wholeB l) ++ [restB (wholeB l)])
       refine cw_exit ?_
       refine kThen_exit (kThen_exit (kBlk_hit ?_))
       refine sR <| rM rfl s2 <| rM rfl s2 <| rw_q (v := (i64 ((stfL ((linesB (wholeB l) ++ [restB (wholeB l)]) ++ [[]])).length : Int))) rfl (ev_len_rd (hg.rd (Mem.pick2 Hs25 He27 Hs _ hm39)) uT24 rfl) <| rw_q rfl (ev_i64_sub (b := 2) rfl rfl oM oM) <| rw_q rfl (ev_slice_rd (i := 0) (j := ((stfL ((linesB (wholeB l) ++ [restB (wholeB l)]) ++ [[]])).length : Int) - 2) (hg.rd (Mem.pick2 Hs25 He27 Hs _ hm39)) uT24 ti5 rfl (optI_none _ _) (optI_some (k := .i64) (i := ((stfL ((linesB (wholeB l) ++ [restB (wholeB l)]) ++ [[]])).length : Int) - 2) rfl) oM sL sL) ?_
       have hla := stf_le_app (linesB (wholeB l) ++ [restB (wholeB l)]) [[]]
       have gs60 : Grow u8 5 (subv v2 0 (((stfL ((linesB (wholeB l) ++ [restB (wholeB l)]) ++ [[]])).length : Int) - 2)) (stfL (linesB (wholeB l) ++ [restB (wholeB l)])) Hs := Grow.cast (Grow.cast (l' := ((stfL ((linesB (wholeB l) ++ [restB (wholeB l)]) ++ [[]])).drop (0 : Int).toNat).take ((((stfL ((linesB (wholeB l) ++ [restB (wholeB l)]) ++ [[]])).length : Int) - 2 : Int).toNat - (0 : Int).toNat)) (Grow.sub (i := 0) (j := ((stfL ((linesB (wholeB l) ++ [restB (wholeB l)]) ++ [[]])).length : Int) - 2) hg oM sL sL) rfl) (stf_cut (linesB (wholeB l) ++ [restB (wholeB l)]))
       refine rA rfl rfl ?_
       refine rN (sR ?_)
       refine rM rfl rfl <| rw_c rfl (or_buildSlice_cl u8 [46#8] u8_one hm39 uT24 ti5 rfl rfl rfl) ?_
       rintro _ w61 ⟨b51, rfl, _ew61, hm61⟩
       refine rw_c rfl (or_append (f := u8) (Hs := Hs) (H := [(b51, .cells (cl u8 ([46#8])) 5 (0, 0))] ++ (Hs25 ++ (He27 ++ ([])))) (Mem.pick3 [_] Hs25 He27 Hs _ hm61) gs60 rfl rfl (Rd.mkA hm61.h0) uT24 uT24 ti5 rfl u8_one sL sL) ?_
       rintro sv62 w62 ⟨Hs62, hm62, g62⟩
       replace g62 : Grow u8 5 sv62 ((stfL (linesB (wholeB l) ++ [restB (wholeB l)])) ++ ([46#8])) Hs62 := g62
       refine rw_c rfl (or_appendS (f := u8) (ms := [13#8, 10#8]) (Hs := Hs62) (H := [(b51, .cells (cl u8 ([46#8])) 5 (0, 0))] ++ (Hs25 ++ (He27 ++ ([])))) hm62 g62 rfl rfl (fun w => str_run w) uT24 uT9 ti5 rfl u8_one sL sL) ?_
       rintro sv63 w63 ⟨Hs63, hm63, g63⟩
       replace g63 : Grow u8 5 sv63 (((stfL (linesB (wholeB l) ++ [restB (wholeB l)])) ++ ([46#8])) ++ ([13#8, 10#8])) Hs63 := g63
       refine rA rfl (v := sv63) rfl ?_
       refine rN (cw_ret ?_)
       refine fnPost_ret [sv63] ⟨rfl, trivial⟩ ?_
       have hm64 := Mem.drop ([(b51, .cells (cl u8 ([46#8])) 5 (0, 0))]) _ (Mem.pick Hs63 [_] _ hm63)
       have hm65 := Mem.drop Hs25 _ (Mem.pick Hs63 Hs25 _ hm64)
       have hm66 := Mem.drop He27 _ (Mem.pick Hs63 He27 _ hm65)
       exact ⟨Hs63, Grow.cast g63 (stuff_1 (by intro e; rw [e] at hc6p; simp at hc6p)), by simpa using hm66⟩
 · -- false
   have hc6p := of_decide_eq_false hc6
   refine cw_skip (kThen_normal (cw_seq (sR ?_)))
   refine rM rfl (v := r1q4) rfl <| rw_c rfl (or_buildSlice_ones [(Value.slice none 0 0)] (by simp [slc, ptr, Value.oneCell', i64, u8, u32, u64, bl]) hm3 uT69 ti24 rfl rfl rfl) ?_
   rintro _ w67 ⟨b21_1, rfl, _ew67, hm67⟩
   have hm67 : Mem w67 (restOf w0) ([(b21_1, .cells #[(Value.slice none 0 0)] 24 (0, 0))] ++ (Hsq4 ++ (Heq4 ++ (Hrq4 ++ (Hsq2 ++ ([])))))) := hm67
   refine rw_c rfl (or_append (f := slv) (Hs := Hsq4) (H := [(b21_1, .cells #[(Value.slice none 0 0)] 24 (0, 0))] ++ (Heq4 ++ (Hrq4 ++ (Hsq2 ++ ([]))))) (Mem.pick [_] Hsq4 _ hm67) grq4 rfl rfl (Rd.oneS (l := []) hm67.h0 rfl) uT69 uT69 ti24 rfl slv_one sL sL) ?_
   rintro sv68 w68 ⟨Hs68, hm68, g68⟩
   replace g68 : Grow slv 24 sv68 (lsq4 ++ ([toSl (Value.slice none 0 0) ([])])) Hs68 := g68
   obtain ⟨ls69, hls69⟩ : ∃ x, x = lsq4 ++ ([toSl (Value.slice none 0 0) ([])]) := ⟨_, rfl⟩
   obtain ⟨He70, hHe70⟩ : ∃ x, x = Heq4 := ⟨_, rfl⟩
   have gl71 : Grow slv 24 sv68 ls69 Hs68 := by rw [hls69]; exact g68
   have hE72 : ElIn He70 ls69 := by rw [hls69, hHe70]; exact (ElIn.snocNil hEq4)
   have hM73 : ls69.map (·.2) = (linesB (wholeB l) ++ [[]]) := by rw [hls69]; exact (map_snd_snoc hMq4 (Value.slice none 0 0) ([]))
   have hl74 := map_snd_len hM73
   have hl74s := hl74
   simp only [List.length_append, List.length_cons, List.length_nil] at hl74s
   have hm75 := (Mem.pick4 Hs68 [_] Heq4 Hrq4 Hsq2 _ hm68)
   have hm76 := (Mem.pick4 Hsq2 Hs68 [_] Heq4 Hrq4 _ hm75)
   have hm77 := (Mem.pick3 Hrq4 Hsq2 Hs68 [_] _ hm76)
   have hm78 := (Mem.pick3 [_] Hrq4 Hsq2 Hs68 _ hm77)
   have hm79 := (Mem.pick4 Hs68 [_] Hrq4 Hsq2 Heq4 _ hm78)
   have hm80 : Mem w68 (restOf w0) (He70 ++ (Hs68 ++ ([(b21_1, .cells #[(Value.slice none 0 0)] 24 (0, 0))] ++ (Hrq4 ++ (Hsq2 ++ ([])))))) := (by
     have hT := hm79
     rw [hHe70]
     simp only [List.append_assoc, List.cons_append, List.nil_append, List.append_nil] at hT ⊢
     exact hT)
   refine rw_q (v := (i64 (ls69.length : Int))) rfl (ev_len_rd (gl71.rd (Mem.pick He70 Hs68 _ hm80)) uT69 rfl) <| rw_q rfl (ev_move (v := (i64 0)) rfl) <| rN ?_
   have hm81 := Mem.drop ([(b21_1, .cells #[(Value.slice none 0 0)] 24 (0, 0))]) _ (Mem.pick2 He70 Hs68 [_] _ hm80)
   have hm82 := Mem.drop Hsq2 _ (Mem.pick3 He70 Hs68 Hrq4 Hsq2 _ hm81)
   refine CW.abs (fun g => g 0 = v ∧ g 2 = (Value.slice none 0 0) ∧ g 3 = r1q4 ∧ g 4 = r2q4 ∧ g 15 = (bl (decide (0 < ((restB (wholeB l)).length : Int)))) ∧ g 22 = sv68 ∧ g 23 = (i64 (ls69.length : Int)) ∧ g 24 = (i64 0) ∧ True) ⟨rfl, rfl, rfl, rfl, rfl, rfl, rfl, rfl, trivial⟩ ?_
   rintro fr83 ⟨s0, s2, s3, s4, s15, s22, s23, s24, _⟩
   refine cw_block ?_
   refine cw_loop (fun g wv => ∃ (k : Nat) (v2 : Value) (Hs : List (Nat × Obj)), (k ≤ (linesB (wholeB l) ++ [[]]).length) ∧ (Grow u8 5 v2 (stfL ((linesB (wholeB l) ++ [[]]).take k)) Hs) ∧ g 0 = v ∧ g 2 = v2 ∧ g 3 = r1q4 ∧ g 4 = r2q4 ∧ g 15 = (bl (decide (0 < ((restB (wholeB l)).length : Int)))) ∧ g 22 = sv68 ∧ g 23 = (i64 (ls69.length : Int)) ∧ g 24 = (i64 (k : Int)) ∧ Mem wv (restOf w0) (Hs68 ++ (He70 ++ (Hs ++ ([]))))) (fun g wv => ((((linesB (wholeB l) ++ [[]])).length : Int) - RowKit.intOf (g 24)).toNat) ?_ ?_
   have hm84 := Mem.drop Hrq4 _ (Mem.pick2 He70 Hs68 Hrq4 _ hm82)
   have hm85 := (Mem.pick He70 Hs68 _ hm84)
   · exact ⟨0, (Value.slice none 0 0), [], (Nat.zero_le _), (Grow.cast (Grow.none _ _) (stf_nil_take _)), s0, s2, s3, s4, s15, s22, s23, s24, (by
     have hT := hm85
     simp only [List.append_assoc, List.cons_append, List.nil_append, List.append_nil] at hT ⊢
     exact hT)⟩
   · rintro fr86 w87 ⟨k, v2, Hs, hk, hg, s0, s2, s3, s4, s15, s22, s23, s24, hm87⟩
     have z2 := s2
     have z24 := s24
     refine sR <| rw_q rfl (ev_i64_lss s24 s23) ?_
     refine rN (cw_seq ?_)
     refine cw_cond rfl (fun hc88 => ?_) (fun hc88 => ?_)
     · -- true
       have hc88p := of_decide_eq_true hc88
       have hol := stf_take_le (linesB (wholeB l) ++ [[]]) k; have hel := stf_el (L := (linesB (wholeB l) ++ [[]])) (k := k) oM
       refine cw_skip (kThen_normal (cw_seq (cw_block (sR ?_))))
       refine rw_q rfl (ev_indexAddr_rdv (gl71.rd hm87) uT69 ti24 s22 s24 oM sL) <| rw_q (v := (slv (ls69.getD k sl0))) rfl (ev_load_rdD (l := ls69) (i := (k : Int)) (dflt := sl0) (gl71.rd hm87) uT24 rfl oM sL rfl) <| rw_q rfl (ev_assign (v := (slv (ls69.getD k sl0))) rfl) ?_
       refine rN (cw_seq (sR ?_))
       refine rw_q rfl (ev_move (v := (slv (ls69.getD k sl0))) rfl) <| rw_q (v := (i64 (((linesB (wholeB l) ++ [[]]).getD k []).length : Int))) rfl (ev_len_rd (ElIn.get (m := blks _) (k := k) hE72 hM73 sL (fun q hq => (hm87).own q (List.mem_append_right _ (List.mem_append_left _ hq)))) uT24 rfl) <| rw_q rfl (ev_i64_gtr (b := 0) rfl rfl) <| rw_q rfl (ev_move (v := (bl (decide (0 < (((linesB (wholeB l) ++ [[]]).getD k []).length : Int))))) rfl) ?_
       rcases Bool.eq_false_or_eq_true (decide (0 < (((linesB (wholeB l) ++ [[]]).getD k []).length : Int))) with hb89 | hb89
       · -- true
         have hb89p := of_decide_eq_true hb89
         refine rw_gyq (s := 31) rfl rfl hb89 rfl (ev_move (v := (slv (ls69.getD k sl0))) rfl) <| rw_gyq (s := 31) rfl rfl hb89 rfl (ev_indexAddr_rdv (i := 0) (ElIn.get (m := blks _) (k := k) hE72 hM73 sL (fun q hq => (hm87).own q (List.mem_append_right _ (List.mem_append_left _ hq)))) uT24 ti5 rfl rfl oM sL) <| rw_gyq (s := 31) rfl rfl hb89 rfl (ev_load_rdD (l := (linesB (wholeB l) ++ [[]]).getD k []) (i := 0) (dflt := 0) (ElIn.get (m := blks _) (k := k) hE72 hM73 sL (fun q hq => (hm87).own q (List.mem_append_right _ (List.mem_append_left _ hq)))) uT5 rfl oM sL rfl) <| rw_gyq (s := 31) rfl rfl hb89 rfl (ev_u8_eql (b := 46#8) rfl rfl) <| rw_q rfl (ev_pick_tk rfl hb89 rfl) <| rN ?_
         refine CW.abs (fun g => g 0 = v ∧ g 2 = v2 ∧ g 3 = r1q4 ∧ g 4 = r2q4 ∧ g 6 = (slv (ls69.getD k sl0)) ∧ g 15 = (bl (decide (0 < ((restB (wholeB l)).length : Int)))) ∧ g 22 = sv68 ∧ g 23 = (i64 (ls69.length : Int)) ∧ g 24 = (i64 (k : Int)) ∧ g 25 = (bl (decide ((k : Int) < (ls69.length : Int)))) ∧ g 36 = (bl ((((linesB (wholeB l) ++ [[]]).getD k []).getD 0 0) == 46#8)) ∧ True) ⟨s0, s2, s3, s4, rfl, s15, s22, s23, s24, rfl, rfl, trivial⟩ ?_
         rintro fr90 ⟨s0, s2, s3, s4, s6, s15, s22, s23, s24, s25, s36, _⟩
         refine cw_cond s36 (fun hc91 => ?_) (fun hc91 => ?_)
         · -- true
           have hc91p := eq_of_beq hc91
           refine cw_region <| rM rfl s2 <| rw_c rfl (or_buildSlice_cl u8 [46#8] u8_one hm87 uT24 ti5 rfl rfl rfl) ?_
           rintro _ w92 ⟨b38_1, rfl, _ew92, hm92⟩
           refine rw_c rfl (or_append (f := u8) (Hs := Hs) (H := [(b38_1, .cells (cl u8 ([46#8])) 5 (0, 0))] ++ (Hs68 ++ (He70 ++ ([])))) (Mem.pick3 [_] Hs68 He70 Hs _ hm92) hg rfl rfl (Rd.mkA hm92.h0) uT24 uT24 ti5 rfl u8_one sL sL) ?_
           rintro sv93 w93 ⟨Hs93, hm93, g93⟩
           replace g93 : Grow u8 5 sv93 ((stfL ((linesB (wholeB l) ++ [[]]).take k)) ++ ([46#8])) Hs93 := g93
           refine rA rfl (v := sv93) rfl ?_
           refine rN (cw_region ?_)
           refine rM rfl (v := sv93) rfl <| rM rfl s6 <| rw_c rfl (or_append (f := u8) (Hs := Hs93) (H := [(b38_1, .cells (cl u8 ([46#8])) 5 (0, 0))] ++ (Hs68 ++ (He70 ++ ([])))) hm93 g93 rfl rfl (ElIn.get (m := blks _) (k := k) hE72 hM73 sL (fun q hq => (hm93).own q (List.mem_append_right _ (List.mem_append_right _ (List.mem_append_right _ (List.mem_append_left _ hq)))))) uT24 uT24 ti5 rfl u8_one sL sL) ?_
           rintro sv94 w94 ⟨Hs94, hm94, g94⟩
           replace g94 : Grow u8 5 sv94 (((stfL ((linesB (wholeB l) ++ [[]]).take k)) ++ ([46#8])) ++ ((linesB (wholeB l) ++ [[]]).getD k [])) Hs94 := g94
           refine rw_c rfl (or_appendS (f := u8) (ms := [13#8, 10#8]) (Hs := Hs94) (H := [(b38_1, .cells (cl u8 ([46#8])) 5 (0, 0))] ++ (Hs68 ++ (He70 ++ ([])))) hm94 g94 rfl rfl (fun w => str_run w) uT24 uT9 ti5 rfl u8_one sL sL) ?_
           rintro sv95 w95 ⟨Hs95, hm95, g95⟩
           replace g95 : Grow u8 5 sv95 ((((stfL ((linesB (wholeB l) ++ [[]]).take k)) ++ ([46#8])) ++ ((linesB (wholeB l) ++ [[]]).getD k [])) ++ ([13#8, 10#8])) Hs95 := g95
           refine rA rfl (v := sv95) rfl ?_
           refine rw_nil (kBlk_normal (cw_region ?_))
           refine rw_q rfl (ev_i64_add (b := 1) s24 rfl oM oM) <| rw_q rfl (ev_move (v := (i64 ((k : Int) + 1))) rfl) <| rN ?_
           have hm96 := Mem.drop ([(b38_1, .cells (cl u8 ([46#8])) 5 (0, 0))]) _ (Mem.pick Hs95 [_] _ hm95)
           have hm97 := (Mem.pick2 Hs95 Hs68 He70 _ hm96)
           have hm98 := (Mem.pick2 He70 Hs95 Hs68 _ hm97)
           exact ⟨⟨(k + 1), sv95, Hs95, oM, (Grow.cast g95 (by rw [stf_succ oM, dot_yes oM hc91p]; simp)), s0, rfl, s3, s4, s15, s22, s23, rfl, hm98⟩, meas rfl z24 oM oM⟩
         · -- false
           have hc91p := ne_of_beq_false hc91
           refine cw_skip (kThen_normal (cw_region ?_))
           refine rM rfl s2 <| rM rfl s6 <| rw_c rfl (or_append (f := u8) (Hs := Hs) (H := Hs68 ++ (He70 ++ ([]))) (Mem.pick2 Hs68 He70 Hs _ hm87) hg rfl rfl (ElIn.get (m := blks _) (k := k) hE72 hM73 sL (fun q hq => (hm87).own q (List.mem_append_right _ (List.mem_append_left _ hq)))) uT24 uT24 ti5 rfl u8_one sL sL) ?_
           rintro sv99 w99 ⟨Hs99, hm99, g99⟩
           replace g99 : Grow u8 5 sv99 ((stfL ((linesB (wholeB l) ++ [[]]).take k)) ++ ((linesB (wholeB l) ++ [[]]).getD k [])) Hs99 := g99
           refine rw_c rfl (or_appendS (f := u8) (ms := [13#8, 10#8]) (Hs := Hs99) (H := Hs68 ++ (He70 ++ ([]))) hm99 g99 rfl rfl (fun w => str_run w) uT24 uT9 ti5 rfl u8_one sL sL) ?_
           rintro sv100 w100 ⟨Hs100, hm100, g100⟩
           replace g100 : Grow u8 5 sv100 (((stfL ((linesB (wholeB l) ++ [[]]).take k)) ++ ((linesB (wholeB l) ++ [[]]).getD k [])) ++ ([13#8, 10#8])) Hs100 := g100
           refine rA rfl (v := sv100) rfl ?_
           refine rw_nil (kBlk_normal (cw_region ?_))
           refine rw_q rfl (ev_i64_add (b := 1) s24 rfl oM oM) <| rw_q rfl (ev_move (v := (i64 ((k : Int) + 1))) rfl) <| rN ?_
           have hm101 := (Mem.pick2 Hs100 Hs68 He70 _ hm100)
           have hm102 := (Mem.pick2 He70 Hs100 Hs68 _ hm101)
           exact ⟨⟨(k + 1), sv100, Hs100, oM, (Grow.cast g100 (by rw [stf_succ oM, dot_no (fun _ => hc91p)]; simp)), s0, rfl, s3, s4, s15, s22, s23, rfl, hm102⟩, meas rfl z24 oM oM⟩
       · -- false
         have hb89p := of_decide_eq_false hb89
         refine rw_gn (s := 31) rfl rfl hb89 rfl <| rw_gn (s := 31) rfl rfl hb89 rfl <| rw_gn (s := 31) rfl rfl hb89 rfl <| rw_gn (s := 31) rfl rfl hb89 rfl <| rw_q rfl (ev_pick_fk rfl hb89 rfl) <| rN ?_
         refine CW.abs (fun g => g 0 = v ∧ g 2 = v2 ∧ g 3 = r1q4 ∧ g 4 = r2q4 ∧ g 6 = (slv (ls69.getD k sl0)) ∧ g 15 = (bl (decide (0 < ((restB (wholeB l)).length : Int)))) ∧ g 22 = sv68 ∧ g 23 = (i64 (ls69.length : Int)) ∧ g 24 = (i64 (k : Int)) ∧ g 25 = (bl (decide ((k : Int) < (ls69.length : Int)))) ∧ g 36 = (bl false) ∧ True) ⟨s0, s2, s3, s4, rfl, s15, s22, s23, s24, rfl, rfl, trivial⟩ ?_
         rintro fr103 ⟨s0, s2, s3, s4, s6, s15, s22, s23, s24, s25, s36, _⟩
         refine cw_cond_f s36 (by decide) ?_
         refine cw_skip (kThen_normal (cw_region ?_))
         refine rM rfl s2 <| rM rfl s6 <| rw_c rfl (or_append (f := u8) (Hs := Hs) (H := Hs68 ++ (He70 ++ ([]))) (Mem.pick2 Hs68 He70 Hs _ hm87) hg rfl rfl (ElIn.get (m := blks _) (k := k) hE72 hM73 sL (fun q hq => (hm87).own q (List.mem_append_right _ (List.mem_append_left _ hq)))) uT24 uT24 ti5 rfl u8_one sL sL) ?_
         rintro sv104 w104 ⟨Hs104, hm104, g104⟩
         replace g104 : Grow u8 5 sv104 ((stfL ((linesB (wholeB l) ++ [[]]).take k)) ++ ((linesB (wholeB l) ++ [[]]).getD k [])) Hs104 := g104
         refine rw_c rfl (or_appendS (f := u8) (ms := [13#8, 10#8]) (Hs := Hs104) (H := Hs68 ++ (He70 ++ ([]))) hm104 g104 rfl rfl (fun w => str_run w) uT24 uT9 ti5 rfl u8_one sL sL) ?_
         rintro sv105 w105 ⟨Hs105, hm105, g105⟩
         replace g105 : Grow u8 5 sv105 (((stfL ((linesB (wholeB l) ++ [[]]).take k)) ++ ((linesB (wholeB l) ++ [[]]).getD k [])) ++ ([13#8, 10#8])) Hs105 := g105
         refine rA rfl (v := sv105) rfl ?_
         refine rw_nil (kBlk_normal (cw_region ?_))
         refine rw_q rfl (ev_i64_add (b := 1) s24 rfl oM oM) <| rw_q rfl (ev_move (v := (i64 ((k : Int) + 1))) rfl) <| rN ?_
         have hm106 := (Mem.pick2 Hs105 Hs68 He70 _ hm105)
         have hm107 := (Mem.pick2 He70 Hs105 Hs68 _ hm106)
         exact ⟨⟨(k + 1), sv105, Hs105, oM, (Grow.cast g105 (by rw [stf_succ oM, dot_no (fun h => absurd h oM)]; simp)), s0, rfl, s3, s4, s15, s22, s23, rfl, hm107⟩, meas rfl z24 oM oM⟩
     · -- false
       have hc88p := of_decide_eq_false hc88
       replace hg : Grow u8 5 v2 (stfL (linesB (wholeB l) ++ [[]])) Hs := Grow.cast hg (by rw [List.take_of_length_le oM])
       have h2 := stf_two (linesB (wholeB l))
       refine cw_exit ?_
       refine kThen_exit (kThen_exit (kBlk_hit ?_))
       refine sR <| rM rfl s2 <| rM rfl s2 <| rw_q (v := (i64 ((stfL (linesB (wholeB l) ++ [[]])).length : Int))) rfl (ev_len_rd (hg.rd (Mem.pick2 Hs68 He70 Hs _ hm87)) uT24 rfl) <| rw_q rfl (ev_i64_sub (b := 2) rfl rfl oM oM) <| rw_q rfl (ev_slice_rd (i := 0) (j := ((stfL (linesB (wholeB l) ++ [[]])).length : Int) - 2) (hg.rd (Mem.pick2 Hs68 He70 Hs _ hm87)) uT24 ti5 rfl (optI_none _ _) (optI_some (k := .i64) (i := ((stfL (linesB (wholeB l) ++ [[]])).length : Int) - 2) rfl) oM sL sL) ?_
       have hla := stf_le_app (linesB (wholeB l)) [[]]
       have gs108 : Grow u8 5 (subv v2 0 (((stfL (linesB (wholeB l) ++ [[]])).length : Int) - 2)) (stfL (linesB (wholeB l))) Hs := Grow.cast (Grow.cast (l' := ((stfL (linesB (wholeB l) ++ [[]])).drop (0 : Int).toNat).take ((((stfL (linesB (wholeB l) ++ [[]])).length : Int) - 2 : Int).toNat - (0 : Int).toNat)) (Grow.sub (i := 0) (j := ((stfL (linesB (wholeB l) ++ [[]])).length : Int) - 2) hg oM sL sL) rfl) (stf_cut (linesB (wholeB l)))
       refine rw_q rfl (ev_assign (v := (subv v2 0 (((stfL (linesB (wholeB l) ++ [[]])).length : Int) - 2))) rfl) ?_
       refine rN (sR ?_)
       refine rw_q rfl (ev_move (v := (subv v2 0 (((stfL (linesB (wholeB l) ++ [[]])).length : Int) - 2))) rfl) <| rw_c rfl (or_buildSlice_cl u8 [46#8] u8_one hm87 uT24 ti5 rfl rfl rfl) ?_
       rintro _ w109 ⟨b51_1, rfl, _ew109, hm109⟩
       refine rw_c rfl (or_append (f := u8) (Hs := Hs) (H := [(b51_1, .cells (cl u8 ([46#8])) 5 (0, 0))] ++ (Hs68 ++ (He70 ++ ([])))) (Mem.pick3 [_] Hs68 He70 Hs _ hm109) gs108 rfl rfl (Rd.mkA hm109.h0) uT24 uT24 ti5 rfl u8_one sL sL) ?_
       rintro sv110 w110 ⟨Hs110, hm110, g110⟩
       replace g110 : Grow u8 5 sv110 ((stfL (linesB (wholeB l))) ++ ([46#8])) Hs110 := g110
       refine rw_c rfl (or_appendS (f := u8) (ms := [13#8, 10#8]) (Hs := Hs110) (H := [(b51_1, .cells (cl u8 ([46#8])) 5 (0, 0))] ++ (Hs68 ++ (He70 ++ ([])))) hm110 g110 rfl rfl (fun w => str_run w) uT24 uT9 ti5 rfl u8_one sL sL) ?_
       rintro sv111 w111 ⟨Hs111, hm111, g111⟩
       replace g111 : Grow u8 5 sv111 (((stfL (linesB (wholeB l))) ++ ([46#8])) ++ ([13#8, 10#8])) Hs111 := g111
       refine rA rfl (v := sv111) rfl ?_
       refine rN (cw_ret ?_)
       refine fnPost_ret [sv111] ⟨rfl, trivial⟩ ?_
       have hm112 := Mem.drop ([(b51_1, .cells (cl u8 ([46#8])) 5 (0, 0))]) _ (Mem.pick Hs111 [_] _ hm111)
       have hm113 := Mem.drop Hs68 _ (Mem.pick Hs111 Hs68 _ hm112)
       have hm114 := Mem.drop He70 _ (Mem.pick Hs111 He70 _ hm113)
       exact ⟨Hs111, Grow.cast g111 (stuff_2 (List.eq_nil_of_length_eq_zero oM)), by simpa using hm114⟩

set_option maxHeartbeats 1000000 in
theorem c_rlaid (v : Value) (l : List (BitVec 8)) (w0 : World)  (hr : Rd (blks w0) u8 v l) (hl : l.length ≤ 262144) : CallsR Try.prog 48 #[v] w0 (fun r w1 => ∃ Hs, Grow u8 5 r (laidB (wholeB l)) Hs ∧ Mem w1 (restOf w0) Hs) := by
 refine callsR_of_cw (args := [v]) Try.func48 rfl Try.ntmps48 Try.results48 rfl ?_
 have hm0 : Mem w0 (restOf w0) [] := Mem.of_world w0
 have hwl := wholeB_length l
 refine sR <| rw_q rfl (ev_assign (v := (Value.slice none 0 0)) rfl) ?_
 refine rN (sR ?_)
 refine rM rfl (v := v) rfl <| rw_c rfl (opR_call Try.func41 bd41 nm41 (args1 rfl) (c_rwhole v l _ (Rd.ofRest hr hm0) sL)) ?_
 rintro rq2 w1 ⟨Hsq2, grq2, k_w1⟩
 have hm1 : Mem w1 (restOf w0) (Hsq2 ++ ([])) := Mem.new (H := []) (H' := Hsq2) hm0 k_w1
 refine rA rfl (v := rq2) rfl ?_
 refine rN (cw_seq (sR ?_))
 refine rM rfl (v := rq2) rfl <| rw_q (v := (i64 ((wholeB l).length : Int))) rfl (ev_len_rd (grq2.rd hm1) uT24 rfl) <| rw_q rfl (ev_i64_gtr (b := 0) rfl rfl) <| rw_q rfl (ev_move (v := (bl (decide (0 < ((wholeB l).length : Int))))) rfl) ?_
 rcases Bool.eq_false_or_eq_true (decide (0 < ((wholeB l).length : Int))) with hb3 | hb3
 · -- true
   have hb3p := of_decide_eq_true hb3
   refine rw_gyq (s := 9) rfl rfl hb3 rfl (ev_move (v := rq2) rfl) <| rw_gyq (s := 9) rfl rfl hb3 rfl (ev_move (v := rq2) rfl) <| rw_gyq (s := 9) rfl rfl hb3 rfl (ev_len_rd (grq2.rd hm1) uT24 rfl) <| rw_gyq (s := 9) rfl rfl hb3 rfl (ev_i64_sub (b := 1) rfl rfl oM oM) <| rw_gyq (s := 9) rfl rfl hb3 rfl (ev_indexAddr_rdv (grq2.rd hm1) uT24 ti5 rfl rfl oM sL) <| rw_gyq (s := 9) rfl rfl hb3 rfl (ev_load_rdD (l := wholeB l) (i := ((wholeB l).length : Int) - 1) (dflt := 0) (grq2.rd hm1) uT5 rfl oM sL rfl) ?_
   refine rw_gyq (s := 9) rfl rfl hb3 rfl (ev_u8_neq (b := 10#8) rfl rfl) <| rw_gyq (s := 9) rfl rfl hb3 rfl (ev_move rfl) ?_
   rcases Bool.eq_false_or_eq_true (((wholeB l).getD ((((wholeB l).length : Int) - 1 : Int).toNat) 0) != 10#8) with hb4 | hb4
   · -- true
     have hb4p := bne_iff_ne.1 hb4
     refine rw_gn (s := 17) rfl rfl hb4 rfl <| rw_gn (s := 17) rfl rfl hb4 rfl <| rw_gn (s := 17) rfl rfl hb4 rfl <| rw_gyq (s := 9) rfl rfl hb3 rfl (ev_pick_tk rfl hb4 rfl) <| rw_gyq (s := 9) rfl rfl hb3 rfl (ev_move (v := (bl true)) rfl) <| rw_gn (s := 22) rfl rfl rfl rfl ?_
     refine rw_gn (s := 22) rfl rfl rfl rfl <| rw_gn (s := 22) rfl rfl rfl rfl <| rw_gn (s := 22) rfl rfl rfl rfl <| rw_gn (s := 22) rfl rfl rfl rfl <| rw_gn (s := 22) rfl rfl rfl rfl <| rw_gn (s := 22) rfl rfl rfl rfl ?_
     refine rw_gyq (s := 9) rfl rfl hb3 rfl (ev_pick_t rfl rfl) <| rw_q rfl (ev_pick_tk rfl hb3 rfl) <| rN ?_
     refine CW.abs (fun g => g 0 = v ∧ g 2 = (Value.slice none 0 0) ∧ g 3 = rq2 ∧ g 31 = (bl true) ∧ True) ⟨rfl, rfl, rfl, rfl, trivial⟩ ?_
     rintro fr5 ⟨s0, s2, s3, s31, _⟩
     refine cw_cond_t s31 (by decide) <| cw_region <| rM rfl s3 <| rw_c rfl (or_buildSlice_cl u8 [13#8, 10#8] u8_one hm1 uT24 ti5 rfl rfl rfl) ?_
     rintro _ w6 ⟨b33, rfl, _ew6, hm6⟩
     refine rw_c rfl (or_append (f := u8) (Hs := Hsq2) (H := [(b33, .cells (cl u8 ([13#8, 10#8])) 5 (0, 0))]) (Mem.pick [_] Hsq2 _ hm6) grq2 rfl rfl (Rd.mkA hm6.h0) uT24 uT24 ti5 rfl u8_one sL sL) ?_
     rintro sv7 w7 ⟨Hs7, hm7, g7⟩
     replace g7 : Grow u8 5 sv7 ((wholeB l) ++ ([13#8, 10#8])) Hs7 := g7
     refine rA rfl (v := sv7) rfl ?_
     refine rN (sR ?_)
     refine rM rfl (v := sv7) rfl <| rA rfl (v := sv7) rfl ?_
     refine rN (cw_ret ?_)
     refine fnPost_ret [sv7] ⟨rfl, trivial⟩ ?_
     have hm8 := Mem.drop ([(b33, .cells (cl u8 ([13#8, 10#8])) 5 (0, 0))]) _ (Mem.pick Hs7 [_] _ hm7)
     exact ⟨Hs7, Grow.cast g7 (laid_1 (rest_ne oM (fun e => absurd e.2.1 (by have h' := hb4p; rw [show (((wholeB l).length : Int) - 1 : Int).toNat = (wholeB l).length - 1 by omega] at h'; exact h')))), by simpa using hm8⟩
   · -- false
     have hb4p := eq_of_bne_false hb4
     refine rw_gyq (s := 17) rfl rfl hb4 rfl (ev_move (v := rq2) rfl) <| rw_gyq (s := 17) rfl rfl hb4 rfl (ev_len_rd (grq2.rd hm1) uT24 rfl) <| rw_gyq (s := 17) rfl rfl hb4 rfl (ev_i64_lss (b := 2) rfl rfl) <| rw_gyq (s := 9) rfl rfl hb3 rfl (ev_pick_fk rfl hb4 rfl) <| rw_gyq (s := 9) rfl rfl hb3 rfl (ev_move (v := (bl (decide (((wholeB l).length : Int) < 2)))) rfl) ?_
     rcases Bool.eq_false_or_eq_true (decide (((wholeB l).length : Int) < 2)) with hb9 | hb9
     · -- true
       have hb9p := of_decide_eq_true hb9
       refine rw_gn (s := 22) rfl rfl hb9 rfl <| rw_gn (s := 22) rfl rfl hb9 rfl <| rw_gn (s := 22) rfl rfl hb9 rfl <| rw_gn (s := 22) rfl rfl hb9 rfl <| rw_gn (s := 22) rfl rfl hb9 rfl <| rw_gn (s := 22) rfl rfl hb9 rfl ?_
       refine rw_gn (s := 22) rfl rfl hb9 rfl <| rw_gyq (s := 9) rfl rfl hb3 rfl (ev_pick_tk rfl hb9 rfl) <| rw_q rfl (ev_pick_tk rfl hb3 rfl) <| rN ?_
       refine CW.abs (fun g => g 0 = v ∧ g 2 = (Value.slice none 0 0) ∧ g 3 = rq2 ∧ g 31 = (bl true) ∧ True) ⟨rfl, rfl, rfl, rfl, trivial⟩ ?_
       rintro fr10 ⟨s0, s2, s3, s31, _⟩
       refine cw_cond_t s31 (by decide) <| cw_region <| rM rfl s3 <| rw_c rfl (or_buildSlice_cl u8 [13#8, 10#8] u8_one hm1 uT24 ti5 rfl rfl rfl) ?_
       rintro _ w11 ⟨b33_1, rfl, _ew11, hm11⟩
       refine rw_c rfl (or_append (f := u8) (Hs := Hsq2) (H := [(b33_1, .cells (cl u8 ([13#8, 10#8])) 5 (0, 0))]) (Mem.pick [_] Hsq2 _ hm11) grq2 rfl rfl (Rd.mkA hm11.h0) uT24 uT24 ti5 rfl u8_one sL sL) ?_
       rintro sv12 w12 ⟨Hs12, hm12, g12⟩
       replace g12 : Grow u8 5 sv12 ((wholeB l) ++ ([13#8, 10#8])) Hs12 := g12
       refine rA rfl (v := sv12) rfl ?_
       refine rN (sR ?_)
       refine rM rfl (v := sv12) rfl <| rA rfl (v := sv12) rfl ?_
       refine rN (cw_ret ?_)
       refine fnPost_ret [sv12] ⟨rfl, trivial⟩ ?_
       have hm13 := Mem.drop ([(b33_1, .cells (cl u8 ([13#8, 10#8])) 5 (0, 0))]) _ (Mem.pick Hs12 [_] _ hm12)
       exact ⟨Hs12, Grow.cast g12 (laid_1 (rest_ne oM (fun e => absurd e.1 oM))), by simpa using hm13⟩
     · -- false
       have hb9p := of_decide_eq_false hb9
       refine rw_gyq (s := 22) rfl rfl hb9 rfl (ev_move (v := rq2) rfl) <| rw_gyq (s := 22) rfl rfl hb9 rfl (ev_move (v := rq2) rfl) <| rw_gyq (s := 22) rfl rfl hb9 rfl (ev_len_rd (grq2.rd hm1) uT24 rfl) <| rw_gyq (s := 22) rfl rfl hb9 rfl (ev_i64_sub (b := 2) rfl rfl oM oM) <| rw_gyq (s := 22) rfl rfl hb9 rfl (ev_indexAddr_rdv (grq2.rd hm1) uT24 ti5 rfl rfl oM sL) <| rw_gyq (s := 22) rfl rfl hb9 rfl (ev_load_rdD (l := wholeB l) (i := ((wholeB l).length : Int) - 2) (dflt := 0) (grq2.rd hm1) uT5 rfl oM sL rfl) ?_
       refine rw_gyq (s := 22) rfl rfl hb9 rfl (ev_u8_neq (b := 13#8) rfl rfl) <| rw_gyq (s := 9) rfl rfl hb3 rfl (ev_pick_fk rfl hb9 rfl) <| rw_q rfl (ev_pick_tk rfl hb3 rfl) <| rN ?_
       refine CW.abs (fun g => g 0 = v ∧ g 2 = (Value.slice none 0 0) ∧ g 3 = rq2 ∧ g 31 = (bl (((wholeB l).getD ((((wholeB l).length : Int) - 2 : Int).toNat) 0) != 13#8)) ∧ True) ⟨rfl, rfl, rfl, rfl, trivial⟩ ?_
       rintro fr14 ⟨s0, s2, s3, s31, _⟩
       refine cw_cond s31 (fun hc15 => ?_) (fun hc15 => ?_)
       · -- true
         have hc15p := bne_iff_ne.1 hc15
         refine cw_region <| rM rfl s3 <| rw_c rfl (or_buildSlice_cl u8 [13#8, 10#8] u8_one hm1 uT24 ti5 rfl rfl rfl) ?_
         rintro _ w16 ⟨b33_2, rfl, _ew16, hm16⟩
         refine rw_c rfl (or_append (f := u8) (Hs := Hsq2) (H := [(b33_2, .cells (cl u8 ([13#8, 10#8])) 5 (0, 0))]) (Mem.pick [_] Hsq2 _ hm16) grq2 rfl rfl (Rd.mkA hm16.h0) uT24 uT24 ti5 rfl u8_one sL sL) ?_
         rintro sv17 w17 ⟨Hs17, hm17, g17⟩
         replace g17 : Grow u8 5 sv17 ((wholeB l) ++ ([13#8, 10#8])) Hs17 := g17
         refine rA rfl (v := sv17) rfl ?_
         refine rN (sR ?_)
         refine rM rfl (v := sv17) rfl <| rA rfl (v := sv17) rfl ?_
         refine rN (cw_ret ?_)
         refine fnPost_ret [sv17] ⟨rfl, trivial⟩ ?_
         have hm18 := Mem.drop ([(b33_2, .cells (cl u8 ([13#8, 10#8])) 5 (0, 0))]) _ (Mem.pick Hs17 [_] _ hm17)
         exact ⟨Hs17, Grow.cast g17 (laid_1 (rest_ne oM (fun e => absurd e.2.2 (by have h' := hc15p; rw [show (((wholeB l).length : Int) - 2 : Int).toNat = (wholeB l).length - 2 by omega] at h'; exact h')))), by simpa using hm18⟩
       · -- false
         have hc15p := eq_of_bne_false hc15
         refine cw_skip (kThen_normal (sR ?_))
         refine rM rfl s3 <| rA rfl (v := rq2) rfl ?_
         refine rN (cw_ret ?_)
         refine fnPost_ret [rq2] ⟨rfl, trivial⟩ ?_
         exact ⟨Hsq2, Grow.cast grq2 (laid_2 (ends_rest oM (by have h' := hb4p; rw [show (((wholeB l).length : Int) - 1 : Int).toNat = (wholeB l).length - 1 by omega] at h'; exact h') (by have h' := hc15p; rw [show (((wholeB l).length : Int) - 2 : Int).toNat = (wholeB l).length - 2 by omega] at h'; exact h'))), by simpa using hm1⟩
 · -- false
   have hb3p := of_decide_eq_false hb3
   refine rw_gn (s := 9) rfl rfl hb3 rfl <| rw_gn (s := 9) rfl rfl hb3 rfl <| rw_gn (s := 9) rfl rfl hb3 rfl <| rw_gn (s := 9) rfl rfl hb3 rfl <| rw_gn (s := 9) rfl rfl hb3 rfl <| rw_gn (s := 9) rfl rfl hb3 rfl ?_
   refine rw_gn (s := 9) rfl rfl hb3 rfl <| rw_gn (s := 9) rfl rfl hb3 rfl <| rw_gu (s := 17) rfl rfl rfl <| rw_gu (s := 17) rfl rfl rfl <| rw_gu (s := 17) rfl rfl rfl <| rw_gn (s := 9) rfl rfl hb3 rfl ?_
   refine rw_gn (s := 9) rfl rfl hb3 rfl <| rw_gu (s := 22) rfl rfl rfl <| rw_gu (s := 22) rfl rfl rfl <| rw_gu (s := 22) rfl rfl rfl <| rw_gu (s := 22) rfl rfl rfl <| rw_gu (s := 22) rfl rfl rfl ?_
   refine rw_gu (s := 22) rfl rfl rfl <| rw_gu (s := 22) rfl rfl rfl <| rw_gn (s := 9) rfl rfl hb3 rfl <| rw_q rfl (ev_pick_fk rfl hb3 rfl) <| rN ?_
   refine CW.abs (fun g => g 0 = v ∧ g 2 = (Value.slice none 0 0) ∧ g 3 = rq2 ∧ g 31 = (bl false) ∧ True) ⟨rfl, rfl, rfl, rfl, trivial⟩ ?_
   rintro fr19 ⟨s0, s2, s3, s31, _⟩
   refine cw_cond_f s31 (by decide) ?_
   refine cw_skip (kThen_normal (sR ?_))
   refine rM rfl s3 <| rA rfl (v := rq2) rfl ?_
   refine rN (cw_ret ?_)
   refine fnPost_ret [rq2] ⟨rfl, trivial⟩ ?_
   exact ⟨Hsq2, Grow.cast grq2 (laid_2 (rest_nil_of_len oM)), by simpa using hm1⟩

set_option maxHeartbeats 1000000 in
theorem c_rstuff (v : Value) (l : List (BitVec 8)) (w0 : World)  (hr : Rd (blks w0) u8 v l) (hl : l.length ≤ 262144) : CallsR Try.prog 47 #[v] w0 (fun r w1 => ∃ Hs, Grow u8 5 r (stuffB l) Hs ∧ Mem w1 (restOf w0) Hs) := by
 refine callsR_of_cw (args := [v]) Try.func47 rfl Try.ntmps47 Try.results47 rfl ?_
 have hm0 : Mem w0 (restOf w0) [] := Mem.of_world w0
 have hwl := wholeB_length l; have hll := laid_length (wholeB l); have hb3 := stf_bound3 (laidB (wholeB l))
 refine sR <| rw_q rfl (ev_assign (v := (Value.slice none 0 0)) rfl) ?_
 refine rN (sR ?_)
 refine rM rfl (v := v) rfl <| rw_c rfl (opR_call Try.func48 bd48 nm48 (args1 rfl) (c_rlaid v l _ (Rd.ofRest hr hm0) sL)) ?_
 rintro rq2 w1 ⟨Hsq2, grq2, k_w1⟩
 have hm1 : Mem w1 (restOf w0) (Hsq2 ++ ([])) := Mem.new (H := []) (H' := Hsq2) hm0 k_w1
 refine rw_c rfl (opR_call Try.func40 bd40 nm40 (args1 rfl) (c_rsplit rq2 (laidB (wholeB l)) _ (grq2.rd hm1) sL)) ?_
 rintro _ w3 ⟨lsq4, r1q4, r2q4, Hsq4, Heq4, Hrq4, rfl, hMq4, grq4, hEq4, gr2q4, k_w3⟩
 have hm3 : Mem w3 (restOf w0) (Hsq4 ++ (Heq4 ++ (Hrq4 ++ (Hsq2 ++ ([]))))) := (by
   have hT := Mem.new (H := Hsq2 ++ ([])) (H' := _) hm1 k_w3
   simp only [List.append_assoc, List.cons_append, List.nil_append, List.append_nil] at hT ⊢
   exact hT)
 have hl5 := map_snd_len hMq4
 refine rw_q rfl (ev_move (v := (Value.tuple #[r1q4, r2q4])) rfl) <| rw_q (v := r1q4) rfl (ev_extract rfl rfl) <| rw_q (v := r2q4) rfl (ev_extract rfl rfl) <| rA rfl (v := r1q4) rfl <| rA rfl (v := r2q4) rfl ?_
 refine rN (sR ?_)
 refine rw_c rfl (or_buildSlice_cl u8 [] u8_one hm3 uT24 ti5 rfl (by simp [pairs]) rfl) ?_
 rintro _ w6 ⟨b13, rfl, _ew6, hm6⟩
 refine rw_q rfl (ev_assign (v := (slc b13 0 0 0)) rfl) ?_
 refine rN (cw_seq (sR ?_))
 refine rw_q rfl (ev_assign (v := (i64 0)) rfl) ?_
 refine rN (cw_block ?_)
 refine cw_loop (fun g wv => ∃ (k : Nat) (v2 : Value) (Hs : List (Nat × Obj)), (k ≤ (linesB (laidB (wholeB l))).length) ∧ (Grow u8 5 v2 (stfL ((linesB (laidB (wholeB l))).take k)) Hs) ∧ g 0 = v ∧ g 2 = (Value.slice none 0 0) ∧ g 3 = r1q4 ∧ g 5 = v2 ∧ g 6 = (i64 (k : Int)) ∧ Mem wv (restOf w0) (Hsq4 ++ (Heq4 ++ (Hs ++ ([]))))) (fun g wv => ((((linesB (laidB (wholeB l)))).length : Int) - RowKit.intOf (g 6)).toNat) ?_ ?_
 have hm7 := Mem.drop Hrq4 _ (Mem.pick3 [_] Hsq4 Heq4 Hrq4 _ hm6)
 have hm8 := Mem.drop Hsq2 _ (Mem.pick3 [_] Hsq4 Heq4 Hsq2 _ hm7)
 have hm9 := (Mem.pick2 [_] Hsq4 Heq4 _ hm8)
 have hm10 := (Mem.pick2 Heq4 [_] Hsq4 _ hm9)
 · exact ⟨0, (slc b13 0 0 0), [(b13, .cells (cl u8 ([])) 5 (0, 0))], (Nat.zero_le _), (Grow.cast (Grow.of u8 5 b13 []) (stf_nil_take _)), rfl, rfl, rfl, rfl, rfl, (by
   have hT := hm10
   simp only [List.append_assoc, List.cons_append, List.nil_append, List.append_nil] at hT ⊢
   exact hT)⟩
 · rintro fr11 w12 ⟨k, v2, Hs, hk, hg, s0, s2, s3, s5, s6, hm12⟩
   have z5 := s5
   have z6 := s6
   refine cw_seq (sR ?_)
   refine rM rfl s6 <| rM rfl s3 <| rw_q (v := (i64 (lsq4.length : Int))) rfl (ev_len_rd (grq4.rd hm12) uT69 rfl) <| rw_q rfl (ev_i64_lss rfl rfl) <| rN ?_
   refine cw_cond rfl (fun hc13 => ?_) (fun hc13 => ?_)
   · -- true
     have hc13p := of_decide_eq_true hc13
     have hol := stf_take_le (linesB (laidB (wholeB l))) k; have hel := stf_el (L := (linesB (laidB (wholeB l)))) (k := k) oM
     refine cw_skip (kThen_normal (cw_seq (cw_block (cw_seq (sR ?_)))))
     refine rM rfl s3 <| rM rfl s6 <| rw_q rfl (ev_indexAddr_rdv (grq4.rd hm12) uT69 ti24 rfl rfl oM sL) <| rw_q (v := (slv (lsq4.getD k sl0))) rfl (ev_load_rdD (l := lsq4) (i := (k : Int)) (dflt := sl0) (grq4.rd hm12) uT24 rfl oM sL rfl) <| rw_q (v := (i64 (((linesB (laidB (wholeB l))).getD k []).length : Int))) rfl (ev_len_rd (ElIn.get (m := blks _) (k := k) hEq4 hMq4 sL (fun q hq => (hm12).own q (List.mem_append_right _ (List.mem_append_left _ hq)))) uT24 rfl) <| rw_q rfl (ev_i64_gtr (b := 0) rfl rfl) ?_
     refine rw_q rfl (ev_move (v := (bl (decide (0 < (((linesB (laidB (wholeB l))).getD k []).length : Int))))) rfl) ?_
     rcases Bool.eq_false_or_eq_true (decide (0 < (((linesB (laidB (wholeB l))).getD k []).length : Int))) with hb14 | hb14
     · -- true
       have hb14p := of_decide_eq_true hb14
       refine rw_gyq (s := 26) rfl rfl hb14 rfl (ev_move s3) <| rw_gyq (s := 26) rfl rfl hb14 rfl (ev_move s6) <| rw_gyq (s := 26) rfl rfl hb14 rfl (ev_indexAddr_rdv (grq4.rd hm12) uT69 ti24 rfl rfl oM sL) <| rw_gyq (s := 26) rfl rfl hb14 rfl (ev_load_rdD (l := lsq4) (i := (k : Int)) (dflt := sl0) (grq4.rd hm12) uT24 rfl oM sL rfl) <| rw_gyq (s := 26) rfl rfl hb14 rfl (ev_indexAddr_rdv (i := 0) (ElIn.get (m := blks _) (k := k) hEq4 hMq4 sL (fun q hq => (hm12).own q (List.mem_append_right _ (List.mem_append_left _ hq)))) uT24 ti5 rfl rfl oM sL) <| rw_gyq (s := 26) rfl rfl hb14 rfl (ev_load_rdD (l := (linesB (laidB (wholeB l))).getD k []) (i := 0) (dflt := 0) (ElIn.get (m := blks _) (k := k) hEq4 hMq4 sL (fun q hq => (hm12).own q (List.mem_append_right _ (List.mem_append_left _ hq)))) uT5 rfl oM sL rfl) ?_
       refine rw_gyq (s := 26) rfl rfl hb14 rfl (ev_u8_eql (b := 46#8) rfl rfl) <| rw_q rfl (ev_pick_tk rfl hb14 rfl) <| rN ?_
       refine CW.abs (fun g => g 0 = v ∧ g 2 = (Value.slice none 0 0) ∧ g 3 = r1q4 ∧ g 5 = v2 ∧ g 6 = (i64 (k : Int)) ∧ g 17 = (bl (decide ((k : Int) < (lsq4.length : Int)))) ∧ g 34 = (bl ((((linesB (laidB (wholeB l))).getD k []).getD 0 0) == 46#8)) ∧ True) ⟨s0, s2, s3, s5, s6, rfl, rfl, trivial⟩ ?_
       rintro fr15 ⟨s0, s2, s3, s5, s6, s17, s34, _⟩
       refine cw_cond s34 (fun hc16 => ?_) (fun hc16 => ?_)
       · -- true
         have hc16p := eq_of_beq hc16
         refine cw_region <| rM rfl s5 <| rw_c rfl (or_buildSlice_cl u8 [46#8] u8_one hm12 uT24 ti5 rfl rfl rfl) ?_
         rintro _ w17 ⟨b36, rfl, _ew17, hm17⟩
         refine rw_c rfl (or_append (f := u8) (Hs := Hs) (H := [(b36, .cells (cl u8 ([46#8])) 5 (0, 0))] ++ (Hsq4 ++ (Heq4 ++ ([])))) (Mem.pick3 [_] Hsq4 Heq4 Hs _ hm17) hg rfl rfl (Rd.mkA hm17.h0) uT24 uT24 ti5 rfl u8_one sL sL) ?_
         rintro sv18 w18 ⟨Hs18, hm18, g18⟩
         replace g18 : Grow u8 5 sv18 ((stfL ((linesB (laidB (wholeB l))).take k)) ++ ([46#8])) Hs18 := g18
         refine rA rfl (v := sv18) rfl ?_
         refine rN (sR ?_)
         refine rM rfl (v := sv18) rfl <| rM rfl s3 <| rM rfl s6 <| rw_q rfl (ev_indexAddr_rdv (grq4.rd (Mem.pick2 Hs18 [_] Hsq4 _ hm18)) uT69 ti24 rfl rfl oM sL) <| rw_q (v := (slv (lsq4.getD k sl0))) rfl (ev_load_rdD (l := lsq4) (i := (k : Int)) (dflt := sl0) (grq4.rd (Mem.pick2 Hs18 [_] Hsq4 _ hm18)) uT24 rfl oM sL rfl) <| rw_c rfl (or_append (f := u8) (Hs := Hs18) (H := [(b36, .cells (cl u8 ([46#8])) 5 (0, 0))] ++ (Hsq4 ++ (Heq4 ++ ([])))) hm18 g18 rfl rfl (ElIn.get (m := blks _) (k := k) hEq4 hMq4 sL (fun q hq => (hm18).own q (List.mem_append_right _ (List.mem_append_right _ (List.mem_append_right _ (List.mem_append_left _ hq)))))) uT24 uT24 ti5 rfl u8_one sL sL) ?_
         rintro sv19 w19 ⟨Hs19, hm19, g19⟩
         replace g19 : Grow u8 5 sv19 (((stfL ((linesB (laidB (wholeB l))).take k)) ++ ([46#8])) ++ ((linesB (laidB (wholeB l))).getD k [])) Hs19 := g19
         refine rA rfl (v := sv19) rfl ?_
         refine rN (cw_region ?_)
         refine rM rfl (v := sv19) rfl <| rw_c rfl (or_buildSlice_cl u8 [13#8, 10#8] u8_one hm19 uT24 ti5 rfl rfl rfl) ?_
         rintro _ w20 ⟨b45, rfl, _ew20, hm20⟩
         refine rw_c rfl (or_append (f := u8) (Hs := Hs19) (H := [(b45, .cells (cl u8 ([13#8, 10#8])) 5 (0, 0)), (b36, .cells (cl u8 ([46#8])) 5 (0, 0))] ++ (Hsq4 ++ (Heq4 ++ ([])))) (Mem.pick [_] Hs19 _ hm20) g19 rfl rfl (Rd.mkA hm20.h0) uT24 uT24 ti5 rfl u8_one sL sL) ?_
         rintro sv21 w21 ⟨Hs21, hm21, g21⟩
         replace g21 : Grow u8 5 sv21 ((((stfL ((linesB (laidB (wholeB l))).take k)) ++ ([46#8])) ++ ((linesB (laidB (wholeB l))).getD k [])) ++ ([13#8, 10#8])) Hs21 := g21
         refine rA rfl (v := sv21) rfl ?_
         refine rw_nil (kBlk_normal ?_)
         have hm22 := Mem.drop ([(b45, .cells (cl u8 ([13#8, 10#8])) 5 (0, 0))]) _ (Mem.pick Hs21 [_] _ hm21)
         have hm23 := Mem.drop ([(b36, .cells (cl u8 ([46#8])) 5 (0, 0))]) _ (Mem.pick Hs21 [_] _ hm22)
         refine CW.abs (fun g => g 0 = v ∧ g 2 = (Value.slice none 0 0) ∧ g 3 = r1q4 ∧ g 5 = sv21 ∧ g 6 = (i64 (k : Int)) ∧ g 17 = (bl (decide ((k : Int) < (lsq4.length : Int)))) ∧ g 34 = (bl ((((linesB (laidB (wholeB l))).getD k []).getD 0 0) == 46#8)) ∧ True) ⟨s0, s2, s3, rfl, s6, s17, s34, trivial⟩ ?_
         rintro fr24 ⟨s0, s2, s3, s5, s6, s17, s34, _⟩
         refine cw_region <| rM rfl s6 <| rw_q rfl (ev_i64_add (b := 1) rfl rfl oM oM) <| rw_q rfl (ev_assign (v := (i64 ((k : Int) + 1))) rfl) <| rN ?_
         have hm25 := (Mem.pick2 Hs21 Hsq4 Heq4 _ hm23)
         have hm26 := (Mem.pick2 Heq4 Hs21 Hsq4 _ hm25)
         exact ⟨⟨(k + 1), sv21, Hs21, oM, (Grow.cast g21 (by rw [stf_succ oM, dot_yes oM hc16p]; simp)), s0, s2, s3, s5, rfl, hm26⟩, meas rfl z6 oM oM⟩
       · -- false
         have hc16p := ne_of_beq_false hc16
         refine cw_skip (kThen_normal (sR ?_))
         refine rM rfl s5 <| rM rfl s3 <| rM rfl s6 <| rw_q rfl (ev_indexAddr_rdv (grq4.rd hm12) uT69 ti24 rfl rfl oM sL) <| rw_q (v := (slv (lsq4.getD k sl0))) rfl (ev_load_rdD (l := lsq4) (i := (k : Int)) (dflt := sl0) (grq4.rd hm12) uT24 rfl oM sL rfl) <| rw_c rfl (or_append (f := u8) (Hs := Hs) (H := Hsq4 ++ (Heq4 ++ ([]))) (Mem.pick2 Hsq4 Heq4 Hs _ hm12) hg rfl rfl (ElIn.get (m := blks _) (k := k) hEq4 hMq4 sL (fun q hq => (hm12).own q (List.mem_append_right _ (List.mem_append_left _ hq)))) uT24 uT24 ti5 rfl u8_one sL sL) ?_
         rintro sv27 w27 ⟨Hs27, hm27, g27⟩
         replace g27 : Grow u8 5 sv27 ((stfL ((linesB (laidB (wholeB l))).take k)) ++ ((linesB (laidB (wholeB l))).getD k [])) Hs27 := g27
         refine rA rfl (v := sv27) rfl ?_
         refine rN (cw_region ?_)
         refine rM rfl (v := sv27) rfl <| rw_c rfl (or_buildSlice_cl u8 [13#8, 10#8] u8_one hm27 uT24 ti5 rfl rfl rfl) ?_
         rintro _ w28 ⟨b45_1, rfl, _ew28, hm28⟩
         refine rw_c rfl (or_append (f := u8) (Hs := Hs27) (H := [(b45_1, .cells (cl u8 ([13#8, 10#8])) 5 (0, 0))] ++ (Hsq4 ++ (Heq4 ++ ([])))) (Mem.pick [_] Hs27 _ hm28) g27 rfl rfl (Rd.mkA hm28.h0) uT24 uT24 ti5 rfl u8_one sL sL) ?_
         rintro sv29 w29 ⟨Hs29, hm29, g29⟩
         replace g29 : Grow u8 5 sv29 (((stfL ((linesB (laidB (wholeB l))).take k)) ++ ((linesB (laidB (wholeB l))).getD k [])) ++ ([13#8, 10#8])) Hs29 := g29
         refine rA rfl (v := sv29) rfl ?_
         refine rw_nil (kBlk_normal (cw_region ?_))
         refine rM rfl s6 <| rw_q rfl (ev_i64_add (b := 1) rfl rfl oM oM) <| rw_q rfl (ev_assign (v := (i64 ((k : Int) + 1))) rfl) <| rN ?_
         have hm30 := Mem.drop ([(b45_1, .cells (cl u8 ([13#8, 10#8])) 5 (0, 0))]) _ (Mem.pick Hs29 [_] _ hm29)
         have hm31 := (Mem.pick2 Hs29 Hsq4 Heq4 _ hm30)
         have hm32 := (Mem.pick2 Heq4 Hs29 Hsq4 _ hm31)
         exact ⟨⟨(k + 1), sv29, Hs29, oM, (Grow.cast g29 (by rw [stf_succ oM, dot_no (fun _ => hc16p)]; simp)), s0, s2, s3, rfl, rfl, hm32⟩, meas rfl z6 oM oM⟩
     · -- false
       have hb14p := of_decide_eq_false hb14
       refine rw_gn (s := 26) rfl rfl hb14 rfl <| rw_gn (s := 26) rfl rfl hb14 rfl <| rw_gn (s := 26) rfl rfl hb14 rfl <| rw_gn (s := 26) rfl rfl hb14 rfl <| rw_gn (s := 26) rfl rfl hb14 rfl <| rw_gn (s := 26) rfl rfl hb14 rfl ?_
       refine rw_gn (s := 26) rfl rfl hb14 rfl <| rw_q rfl (ev_pick_fk rfl hb14 rfl) <| rN ?_
       refine CW.abs (fun g => g 0 = v ∧ g 2 = (Value.slice none 0 0) ∧ g 3 = r1q4 ∧ g 5 = v2 ∧ g 6 = (i64 (k : Int)) ∧ g 17 = (bl (decide ((k : Int) < (lsq4.length : Int)))) ∧ g 34 = (bl false) ∧ True) ⟨s0, s2, s3, s5, s6, rfl, rfl, trivial⟩ ?_
       rintro fr33 ⟨s0, s2, s3, s5, s6, s17, s34, _⟩
       refine cw_cond_f s34 (by decide) ?_
       refine cw_skip (kThen_normal (sR ?_))
       refine rM rfl s5 <| rM rfl s3 <| rM rfl s6 <| rw_q rfl (ev_indexAddr_rdv (grq4.rd hm12) uT69 ti24 rfl rfl oM sL) <| rw_q (v := (slv (lsq4.getD k sl0))) rfl (ev_load_rdD (l := lsq4) (i := (k : Int)) (dflt := sl0) (grq4.rd hm12) uT24 rfl oM sL rfl) <| rw_c rfl (or_append (f := u8) (Hs := Hs) (H := Hsq4 ++ (Heq4 ++ ([]))) (Mem.pick2 Hsq4 Heq4 Hs _ hm12) hg rfl rfl (ElIn.get (m := blks _) (k := k) hEq4 hMq4 sL (fun q hq => (hm12).own q (List.mem_append_right _ (List.mem_append_left _ hq)))) uT24 uT24 ti5 rfl u8_one sL sL) ?_
       rintro sv34 w34 ⟨Hs34, hm34, g34⟩
       replace g34 : Grow u8 5 sv34 ((stfL ((linesB (laidB (wholeB l))).take k)) ++ ((linesB (laidB (wholeB l))).getD k [])) Hs34 := g34
       refine rA rfl (v := sv34) rfl ?_
       refine rN (cw_region ?_)
       refine rM rfl (v := sv34) rfl <| rw_c rfl (or_buildSlice_cl u8 [13#8, 10#8] u8_one hm34 uT24 ti5 rfl rfl rfl) ?_
       rintro _ w35 ⟨b45_2, rfl, _ew35, hm35⟩
       refine rw_c rfl (or_append (f := u8) (Hs := Hs34) (H := [(b45_2, .cells (cl u8 ([13#8, 10#8])) 5 (0, 0))] ++ (Hsq4 ++ (Heq4 ++ ([])))) (Mem.pick [_] Hs34 _ hm35) g34 rfl rfl (Rd.mkA hm35.h0) uT24 uT24 ti5 rfl u8_one sL sL) ?_
       rintro sv36 w36 ⟨Hs36, hm36, g36⟩
       replace g36 : Grow u8 5 sv36 (((stfL ((linesB (laidB (wholeB l))).take k)) ++ ((linesB (laidB (wholeB l))).getD k [])) ++ ([13#8, 10#8])) Hs36 := g36
       refine rA rfl (v := sv36) rfl ?_
       refine rw_nil (kBlk_normal (cw_region ?_))
       refine rM rfl s6 <| rw_q rfl (ev_i64_add (b := 1) rfl rfl oM oM) <| rw_q rfl (ev_assign (v := (i64 ((k : Int) + 1))) rfl) <| rN ?_
       have hm37 := Mem.drop ([(b45_2, .cells (cl u8 ([13#8, 10#8])) 5 (0, 0))]) _ (Mem.pick Hs36 [_] _ hm36)
       have hm38 := (Mem.pick2 Hs36 Hsq4 Heq4 _ hm37)
       have hm39 := (Mem.pick2 Heq4 Hs36 Hsq4 _ hm38)
       exact ⟨⟨(k + 1), sv36, Hs36, oM, (Grow.cast g36 (by rw [stf_succ oM, dot_no (fun h => absurd h oM)]; simp)), s0, s2, s3, rfl, rfl, hm39⟩, meas rfl z6 oM oM⟩
   · -- false
     have hc13p := of_decide_eq_false hc13
     replace hg : Grow u8 5 v2 (stfL (linesB (laidB (wholeB l)))) Hs := Grow.cast hg (by rw [List.take_of_length_le oM])
     refine cw_exit ?_
     refine kThen_exit (kThen_exit (kBlk_hit ?_))
     refine sR <| rM rfl s5 <| rw_c rfl (or_buildSlice_cl u8 [46#8, 13#8, 10#8] u8_one hm12 uT24 ti5 rfl rfl rfl) ?_
     rintro _ w40 ⟨b48, rfl, _ew40, hm40⟩
     refine rw_c rfl (or_append (f := u8) (Hs := Hs) (H := [(b48, .cells (cl u8 ([46#8, 13#8, 10#8])) 5 (0, 0))] ++ (Hsq4 ++ (Heq4 ++ ([])))) (Mem.pick3 [_] Hsq4 Heq4 Hs _ hm40) hg rfl rfl (Rd.mkA hm40.h0) uT24 uT24 ti5 rfl u8_one sL sL) ?_
     rintro sv41 w41 ⟨Hs41, hm41, g41⟩
     replace g41 : Grow u8 5 sv41 ((stfL (linesB (laidB (wholeB l)))) ++ ([46#8, 13#8, 10#8])) Hs41 := g41
     refine rA rfl (v := sv41) rfl ?_
     refine rN (cw_ret ?_)
     refine fnPost_ret [sv41] ⟨rfl, trivial⟩ ?_
     have hm42 := Mem.drop ([(b48, .cells (cl u8 ([46#8, 13#8, 10#8])) 5 (0, 0))]) _ (Mem.pick Hs41 [_] _ hm41)
     have hm43 := Mem.drop Hsq4 _ (Mem.pick Hs41 Hsq4 _ hm42)
     have hm44 := Mem.drop Heq4 _ (Mem.pick Hs41 Heq4 _ hm43)
     exact ⟨Hs41, Grow.cast g41 (by unfold stuffB; rfl), by simpa using hm44⟩


end Go.Proofs.Ytfmjfojhcmmgcaa
