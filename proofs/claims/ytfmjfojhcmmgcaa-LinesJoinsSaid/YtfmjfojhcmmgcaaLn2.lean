/- Contracts: lines. Conditions: none beyond those that each theorem states. -/
import Derived.Test.YtfmjfojhcmmgcaaLn1
namespace Go.Proofs.Ytfmjfojhcmmgcaa
set_option linter.unusedVariables false
set_option linter.unusedSimpArgs false
attribute [local irreducible] wholeB linesB restB cutF befB aftB cutAv cutBv
set_option maxHeartbeats 1000000 in
theorem c_split (v : Value) (l : List (BitVec 8)) (w0 : World)  (hT : Tabs (blks w0)) (hr : Rd (blks w0) u8 v l) (hc : capOk v) (hl : l.length ≤ 1048576) : CallsR Try.prog 39 #[v] w0 (fun r w1 => ∃ (ls : List SlT) (r1 r2 : Value) (Hs He Hr : List (Nat × Obj)), r = .tuple #[r1, r2] ∧ ls.map (·.2) = linesB l ∧ Grow slv 24 r1 ls Hs ∧ ElIn He ls ∧ Grow u8 5 r2 (restB l) Hr ∧ Mem w1 (restOf w0) (Hs ++ (He ++ Hr))) := by
 refine callsR_of_cw (args := [v]) Try.func39 rfl Try.ntmps39 Try.results39 rfl ?_
 have hm0 : Mem w0 (restOf w0) [] := Mem.of_world w0
 refine sR <| rw_q rfl (ev_assign (v := (Value.slice none 0 0)) rfl) <| rw_q rfl (ev_assign (v := (Value.slice none 0 0)) rfl) ?_
 refine rN (cw_block' ?_)
 refine cw_loop (fun g wv => ∃ (vb : Value) (lb : List (BitVec 8)) (v2 : Value) (ls : List SlT) (Ls : List (List (BitVec 8))) (Hs He : List (Nat × Obj)), (Rd (blks w0) u8 vb lb) ∧ (capOk vb) ∧ (lb.length ≤ l.length) ∧ (ls.map (·.2) = Ls) ∧ (Ls ++ linesB lb = linesB l) ∧ (restB lb = restB l) ∧ (Grow slv 24 v2 ls Hs) ∧ (ElIn He ls) ∧ g 0 = vb ∧ g 2 = v2 ∧ Mem wv (restOf w0) (Hs ++ (He ++ ([])))) (fun g wv => sllen (g 0)) ?_ ?_
 · exact ⟨v, l, (Value.slice none 0 0), [], [], [], [], hr, hc, (Nat.le_refl _), rfl, (List.nil_append _), rfl, (Grow.none _ _), (ElIn.nil _), rfl, rfl, hm0⟩
 · rintro fr1 w2 ⟨vb, lb, v2, ls, Ls, Hs, He, hrb, hcap, hlb, hM, hsp, hrs, hg, hE, s0, s2, hm2⟩
   have z0 := s0
   have z2 := s2
   have hll : 2 * ls.length ≤ l.length := by have h1 := map_snd_len hM; have h2 := congrArg List.length hsp; have h3 := (lines_num l).1; rw [List.length_append] at h2; omega
   have hb1 := (cut_lens lb).1; have hb2 := (cut_lens lb).2.1
   refine cw_block' (sR ?_)
   refine rM rfl s0 <| rw_c rfl (or_buildSlice_cl u8 [13#8, 10#8] u8_one hm2 uT24 ti5 rfl rfl rfl) ?_
   rintro _ w3 ⟨b9, rfl, _ew3, hm3⟩
   refine rw_c rfl (or_conv_mark (m := 2) uT24 uT5 rfl hm3.h0 rfl) ?_
   rintro _ w4 ⟨rfl, uq4⟩
   have hm4 : Mem w4 (restOf w0) ([(b9, .cells (cl u8 ([13#8, 10#8])) 5 (2, 3))] ++ (Hs ++ (He ++ ([])))) := hm3.upd0 uq4
   refine rw_c rfl (opR_call Try.func56 bd56 nm56 (args2 rfl rfl) (c_cut vb (slc b9 0 2 2) lb _ (hT.mono fun b o e => (hm4).rest b o e) (Rd.ofRest hrb hm4) (Rd.mkA hm4.h0) sD sD)) ?_
   rintro _ w5 ⟨rfl, _ew5⟩
   have hm5 := hm4.ext _ew5
   refine rw_q rfl (ev_move (v := (Value.tuple #[(cutBv vb lb), (cutAv vb lb), (bl ((cutF lb).isSome))])) rfl) <| rw_q (v := (cutBv vb lb)) rfl (ev_extract rfl rfl) <| rw_q (v := (cutAv vb lb)) rfl (ev_extract rfl rfl) <| rw_q (v := (bl ((cutF lb).isSome))) rfl (ev_extract rfl rfl) <| rw_q rfl (ev_assign (v := (cutBv vb lb)) rfl) <| rw_q rfl (ev_assign (v := (cutAv vb lb)) rfl) ?_
   refine rw_q rfl (ev_assign (v := (bl ((cutF lb).isSome))) rfl) ?_
   refine rN (cw_seq (sR ?_))
   refine rw_q rfl (ev_move (v := (bl ((cutF lb).isSome))) rfl) <| rw_q rfl (ev_not rfl) <| rN ?_
   have hm7 := Mem.drop ([(b9, .cells (cl u8 ([13#8, 10#8])) 5 (2, 3))]) _ hm5
   refine CW.abs (fun g => g 0 = vb ∧ g 2 = v2 ∧ g 4 = (cutBv vb lb) ∧ g 5 = (cutAv vb lb) ∧ g 6 = (bl ((cutF lb).isSome)) ∧ g 16 = (bl (!((cutF lb).isSome))) ∧ True) ⟨s0, s2, rfl, rfl, rfl, rfl, trivial⟩ ?_
   rintro fr8 ⟨s0, s2, s4, s5, s6, s16, _⟩
   refine cw_cond s16 (fun hc9 => ?_) (fun hc9 => ?_)
   · -- true
     have hc9n : ((cutF lb).isSome) = false := by simpa using hc9
     refine sR <| rM rfl s2 <| rM rfl s0 <| rw_c rfl (opR_call Try.func57 bd57 nm57 (args1 rfl) (c_clone vb lb _ (Rd.ofRest hrb hm7) sD)) ?_
     rintro rq11 w10 ⟨Hsq11, grq11, k_w10⟩
     have hm10 : Mem w10 (restOf w0) (Hsq11 ++ (Hs ++ (He ++ ([])))) := Mem.new (H := Hs ++ (He ++ ([]))) (H' := Hsq11) hm7 k_w10
     refine rA rfl (v := v2) rfl <| rA rfl (v := rq11) rfl ?_
     refine rN (cw_ret ?_)
     refine kThen_ret (kBlk_ret (kThen_ret (kBlk_ret ?_)))
     refine fnPost_ret [v2, rq11] ⟨rfl, rfl, trivial⟩ ?_
     have hm12 := (Mem.pick2 Hsq11 Hs He _ hm10)
     have hm13 := (Mem.pick2 He Hsq11 Hs _ hm12)
     obtain ⟨e1, e2⟩ := lines_nocut hc9n
     exact ⟨ls, v2, rq11, Hs, He, Hsq11, rfl, hM.trans (by rw [← hsp, e1, List.append_nil]), hg, hE, Grow.cast grq11 (by rw [← hrs, e2]), by simpa using hm13⟩
   · -- false
     have hc9n : ((cutF lb).isSome) = true := by simpa using hc9
     refine cw_skip (kThen_normal (sR ?_))
     refine rM rfl s2 <| rM rfl s4 <| rw_c rfl (opR_call Try.func57 bd57 nm57 (args1 rfl) (c_clone (cutBv vb lb) (befB lb) _ (Rd.cutB (Rd.ofRest hrb hm7)) sD)) ?_
     rintro rq15 w14 ⟨Hsq15, grq15, k_w14⟩
     have hm14 : Mem w14 (restOf w0) (Hsq15 ++ (Hs ++ (He ++ ([])))) := Mem.new (H := Hs ++ (He ++ ([]))) (H' := Hsq15) hm7 k_w14
     refine rw_c rfl (or_buildSlice_ones [rq15] (List.all_eq_true.1 (one_cons grq15.one one_nil)) hm14 uT69 ti24 rfl rfl rfl) ?_
     rintro _ w16 ⟨b23, rfl, _ew16, hm16⟩
     have hm16 : Mem w16 (restOf w0) ([(b23, .cells #[rq15] 24 (0, 0))] ++ (Hsq15 ++ (Hs ++ (He ++ ([]))))) := hm16
     refine rw_c rfl (or_append (f := slv) (Hs := Hs) (H := [(b23, .cells #[rq15] 24 (0, 0))] ++ (Hsq15 ++ (He ++ ([])))) (Mem.pick2 [_] Hsq15 Hs _ hm16) hg rfl rfl (Rd.oneS (l := (befB lb)) hm16.h0 (Grow.toSl (befB lb) grq15)) uT69 uT69 ti24 rfl slv_one sD sD) ?_
     rintro sv17 w17 ⟨Hs17, hm17, g17⟩
     replace g17 : Grow slv 24 sv17 (ls ++ ([toSl rq15 (befB lb)])) Hs17 := g17
     refine rA rfl (v := sv17) rfl ?_
     refine rN (cw_region ?_)
     refine rM rfl s5 <| rw_q rfl (ev_assign (v := (cutAv vb lb)) rfl) ?_
     refine rw_nil (kBlk_normal (kThen_normal ?_))
     have hm18 := Mem.drop ([(b23, .cells #[rq15] 24 (0, 0))]) _ (Mem.pick Hs17 [_] _ hm17)
     exact ⟨⟨(cutAv vb lb), (aftB lb), sv17, (ls ++ ([toSl rq15 (befB lb)])), (Ls ++ [befB lb]), Hs17, (Hsq15 ++ He), (Rd.cutA hrb), (capOk_cutA hcap), oM, (map_snd_snoc hM _ _), (by rw [← hsp, (lines_cut (by simpa using hc9 : (cutF lb).isSome = true)).1, List.append_assoc]; rfl), ((lines_cut (by simpa using hc9 : (cutF lb).isSome = true)).2.1.symm.trans hrs), g17, (ElIn.snoc hE grq15), rfl, rfl, (by
       have hT := hm18
       simp only [List.append_assoc, List.cons_append, List.nil_append, List.append_nil] at hT ⊢
       exact hT)⟩, meas_sl (rfl) z0 (Rd.cutA hrb) hrb (by have h5 := (lines_cut (by simpa using hc9 : (cutF lb).isSome = true)).2.2; omega)⟩

set_option maxHeartbeats 1000000 in
theorem c_rsplit (v : Value) (l : List (BitVec 8)) (w0 : World)  (hr : Rd (blks w0) u8 v l) (hl : l.length ≤ 1048576) : CallsR Try.prog 40 #[v] w0 (fun r w1 => ∃ (ls : List SlT) (r1 r2 : Value) (Hs He Hr : List (Nat × Obj)), r = .tuple #[r1, r2] ∧ ls.map (·.2) = linesB l ∧ Grow slv 24 r1 ls Hs ∧ ElIn He ls ∧ Grow u8 5 r2 (restB l) Hr ∧ Mem w1 (restOf w0) (Hs ++ (He ++ Hr))) := by
 refine callsR_of_cw (args := [v]) Try.func40 rfl Try.ntmps40 Try.results40 rfl ?_
 have hm0 : Mem w0 (restOf w0) [] := Mem.of_world w0
 refine sR <| rw_q rfl (ev_assign (v := (Value.slice none 0 0)) rfl) <| rw_q rfl (ev_assign (v := (Value.slice none 0 0)) rfl) ?_
 refine rN (sR ?_)
 refine rw_c rfl (or_buildSlice_ones [] (by simp [slc, ptr, Value.oneCell', i64, u8, u32, u64, bl]) hm0 uT69 ti24 rfl (by simp [pairs]) rfl) ?_
 rintro _ w1 ⟨b7, rfl, _ew1, hm1⟩
 have hm1 : Mem w1 (restOf w0) [(b7, .cells #[] 24 (0, 0))] := hm1
 refine rw_q rfl (ev_assign (v := (slc b7 0 0 0)) rfl) ?_
 refine rN (sR ?_)
 refine rw_c rfl (or_buildSlice_cl u8 [] u8_one hm1 uT24 ti5 rfl (by simp [pairs]) rfl) ?_
 rintro _ w2 ⟨b8, rfl, _ew2, hm2⟩
 refine rw_q rfl (ev_assign (v := (slc b8 0 0 0)) rfl) ?_
 refine rN (cw_seq (sR ?_))
 refine rw_q rfl (ev_assign (v := (i64 0)) rfl) ?_
 refine rN (cw_block ?_)
 refine cw_loop (fun g wv => ∃ (k : Nat) (cur : List (BitVec 8)) (v4 v5 : Value) (ls : List SlT) (Ls : List (List (BitVec 8))) (Hs He Hl : List (Nat × Obj)), (k ≤ l.length) ∧ (ls.map (·.2) = Ls) ∧ (Ls ++ (splF cur (l.drop k)).1 = linesB l) ∧ ((splF cur (l.drop k)).2 = restB l) ∧ (cur.length ≤ k) ∧ (ls.length ≤ k) ∧ (Grow slv 24 v4 ls Hs) ∧ (ElIn He ls) ∧ (Grow u8 5 v5 cur Hl) ∧ g 0 = v ∧ g 2 = (Value.slice none 0 0) ∧ g 3 = (Value.slice none 0 0) ∧ g 4 = v4 ∧ g 5 = v5 ∧ g 6 = (i64 (k : Int)) ∧ Mem wv (restOf w0) (Hs ++ (He ++ (Hl ++ ([]))))) (fun g wv => ((l.length : Int) - RowKit.intOf (g 6)).toNat) ?_ ?_
 have hm3 := (Mem.pick [_] [_] _ hm2)
 · exact ⟨0, [], (slc b7 0 0 0), (slc b8 0 0 0), [], [], [(b7, .cells #[] 24 (0, 0))], [], [(b8, .cells (cl u8 ([])) 5 (0, 0))], (Nat.zero_le _), rfl, (by unfold linesB; rfl), (by unfold restB; rfl), (Nat.le_refl _), (Nat.le_refl _), (Grow.of slv 24 b7 []), (ElIn.nil _), (Grow.of u8 5 b8 []), rfl, rfl, rfl, rfl, rfl, rfl, hm3⟩
 · rintro fr4 w5 ⟨k, cur, v4, v5, ls, Ls, Hs, He, Hl, hk, hM, hsp, hrs, hcl, hll, hg, hE, hgl, s0, s2, s3, s4, s5, s6, hm5⟩
   have z4 := s4
   have z5 := s5
   have z6 := s6
   refine cw_seq (sR ?_)
   refine rM rfl s6 <| rM rfl s0 <| rw_q (v := (i64 (l.length : Int))) rfl (ev_len_rd (Rd.ofRest hr hm5) uT24 rfl) <| rw_q rfl (ev_i64_lss rfl rfl) <| rN ?_
   refine cw_cond rfl (fun hc6 => ?_) (fun hc6 => ?_)
   · -- true
     have hc6p := of_decide_eq_true hc6
     refine cw_skip (kThen_normal (cw_seq (cw_block (sR ?_))))
     refine rM rfl s0 <| rM rfl s6 <| rw_q rfl (ev_indexAddr_rdv (Rd.ofRest hr hm5) uT24 ti5 rfl rfl oM sD) <| rw_q (v := (u8 (l.getD k 0))) rfl (ev_load_rdD (l := l) (i := (k : Int)) (dflt := 0) (Rd.ofRest hr hm5) uT5 rfl oM sD rfl) <| rw_q rfl (ev_u8_eql (b := 13#8) rfl rfl) <| rw_q rfl (ev_move (v := (bl ((l.getD k 0) == 13#8))) rfl) ?_
     rcases Bool.eq_false_or_eq_true ((l.getD k 0) == 13#8) with hb7 | hb7
     · -- true
       have hb7p := eq_of_beq hb7
       refine rw_gyq (s := 20) rfl rfl hb7 rfl (ev_move s6) <| rw_gyq (s := 20) rfl rfl hb7 rfl (ev_i64_add (b := 1) rfl rfl oM oM) <| rw_gyq (s := 20) rfl rfl hb7 rfl (ev_move s0) <| rw_gyq (s := 20) rfl rfl hb7 rfl (ev_len_rd (Rd.ofRest hr hm5) uT24 rfl) <| rw_gyq (s := 20) rfl rfl hb7 rfl (ev_i64_lss rfl rfl) <| rw_q rfl (ev_pick_tk rfl hb7 rfl) ?_
       refine rw_q rfl (ev_move (v := (bl (decide (((k : Int) + 1) < (l.length : Int))))) rfl) ?_
       rcases Bool.eq_false_or_eq_true (decide (((k : Int) + 1) < (l.length : Int))) with hb8 | hb8
       · -- true
         have hb8p := of_decide_eq_true hb8
         refine rw_gyq (s := 27) rfl rfl hb8 rfl (ev_move s0) <| rw_gyq (s := 27) rfl rfl hb8 rfl (ev_move s6) <| rw_gyq (s := 27) rfl rfl hb8 rfl (ev_i64_add (b := 1) rfl rfl oM oM) <| rw_gyq (s := 27) rfl rfl hb8 rfl (ev_indexAddr_rdv (Rd.ofRest hr hm5) uT24 ti5 rfl rfl oM sD) <| rw_gyq (s := 27) rfl rfl hb8 rfl (ev_load_rdD (l := l) (i := (k : Int) + 1) (dflt := 0) (Rd.ofRest hr hm5) uT5 rfl oM sD rfl) <| rw_gyq (s := 27) rfl rfl hb8 rfl (ev_u8_eql (b := 10#8) rfl rfl) ?_
         refine rw_q rfl (ev_pick_tk rfl hb8 rfl) <| rN ?_
         refine CW.abs (fun g => g 0 = v ∧ g 2 = (Value.slice none 0 0) ∧ g 3 = (Value.slice none 0 0) ∧ g 4 = v4 ∧ g 5 = v5 ∧ g 6 = (i64 (k : Int)) ∧ g 12 = (bl (decide ((k : Int) < (l.length : Int)))) ∧ g 34 = (bl ((l.getD (((k : Int) + 1 : Int).toNat) 0) == 10#8)) ∧ True) ⟨s0, s2, s3, s4, s5, s6, rfl, rfl, trivial⟩ ?_
         rintro fr9 ⟨s0, s2, s3, s4, s5, s6, s12, s34, _⟩
         refine cw_cond s34 (fun hc10 => ?_) (fun hc10 => ?_)
         · -- true
           have hc10p := eq_of_beq hc10
           refine sR <| rM rfl s4 <| rM rfl s5 <| rw_c rfl (or_buildSlice_ones [v5] (List.all_eq_true.1 (one_cons hgl.one one_nil)) hm5 uT69 ti24 rfl rfl rfl) ?_
           rintro _ w11 ⟨b37, rfl, _ew11, hm11⟩
           have hm11 : Mem w11 (restOf w0) ([(b37, .cells #[v5] 24 (0, 0))] ++ (Hs ++ (He ++ (Hl ++ ([]))))) := hm11
           refine rw_c rfl (or_append (f := slv) (Hs := Hs) (H := [(b37, .cells #[v5] 24 (0, 0))] ++ (He ++ (Hl ++ ([])))) (Mem.pick [_] Hs _ hm11) hg rfl rfl (Rd.oneS (l := cur) hm11.h0 (Grow.toSl cur hgl)) uT69 uT69 ti24 rfl slv_one sD sD) ?_
           rintro sv12 w12 ⟨Hs12, hm12, g12⟩
           replace g12 : Grow slv 24 sv12 (ls ++ ([toSl v5 cur])) Hs12 := g12
           refine rA rfl (v := sv12) rfl ?_
           refine rN (sR ?_)
           refine rw_c rfl (or_buildSlice_cl u8 [] u8_one hm12 uT24 ti5 rfl (by simp [pairs]) rfl) ?_
           rintro _ w13 ⟨b39, rfl, _ew13, hm13⟩
           refine rw_q rfl (ev_assign (v := (slc b39 0 0 0)) rfl) ?_
           refine rN (cw_region ?_)
           refine rM rfl s6 <| rw_q rfl (ev_i64_add (b := 1) rfl rfl oM oM) <| rw_q rfl (ev_assign (v := (i64 ((k : Int) + 1))) rfl) ?_
           refine rw_nil (kBlk_normal (cw_region ?_))
           refine rw_q rfl (ev_move (v := (i64 ((k : Int) + 1))) rfl) <| rw_q rfl (ev_i64_add (b := 1) rfl rfl oM oM) <| rw_q rfl (ev_assign (v := (i64 (((k : Int) + 1) + 1))) rfl) <| rN ?_
           have hm14 := Mem.drop ([(b37, .cells #[v5] 24 (0, 0))]) _ (Mem.pick2 [_] Hs12 [_] _ hm13)
           have hm15 := (Mem.pick2 [_] Hs12 He _ hm14)
           have hm16 := (Mem.pick3 He [_] Hs12 Hl _ hm15)
           have hm17 := (Mem.pick3 Hl He [_] Hs12 _ hm16)
           exact ⟨⟨(k + 2), [], sv12, (slc b39 0 0 0), (ls ++ ([toSl v5 cur])), (Ls ++ [cur]), Hs12, (Hl ++ He), [(b39, .cells (cl u8 ([])) 5 (0, 0))], oM, (map_snd_snoc hM _ _), (by rw [← hsp, (spl_hit (cur := cur) hb7p oM (by have h' := hc10p; rw [toNat_succ] at h'; exact h'))]; simp), (by rw [← hrs, (spl_hit (cur := cur) hb7p oM (by have h' := hc10p; rw [toNat_succ] at h'; exact h'))]), (Nat.zero_le _), (by simp; omega), g12, (ElIn.snoc hE hgl), (Grow.of u8 5 b39 []), s0, s2, s3, rfl, rfl, rfl, (by
             have hT := hm17
             simp only [List.append_assoc, List.cons_append, List.nil_append, List.append_nil] at hT ⊢
             exact hT)⟩, meas rfl z6 oM oM⟩
         · -- false
           have hc10p := ne_of_beq_false hc10
           refine cw_region <| rM rfl s5 <| rM rfl s0 <| rM rfl s6 <| rw_q rfl (ev_indexAddr_rdv (Rd.ofRest hr hm5) uT24 ti5 rfl rfl oM sD) <| rw_q (v := (u8 (l.getD k 0))) rfl (ev_load_rdD (l := l) (i := (k : Int)) (dflt := 0) (Rd.ofRest hr hm5) uT5 rfl oM sD rfl) ?_
           refine rw_c rfl (or_buildSlice_cl u8 [l.getD k 0] u8_one hm5 uT24 ti5 rfl rfl rfl) ?_
           rintro _ w18 ⟨b47, rfl, _ew18, hm18⟩
           refine rw_c rfl (or_append (f := u8) (Hs := Hl) (H := [(b47, .cells (cl u8 ([l.getD k 0])) 5 (0, 0))] ++ (Hs ++ (He ++ ([])))) (Mem.pick3 [_] Hs He Hl _ hm18) hgl rfl rfl (Rd.mkA hm18.h0) uT24 uT24 ti5 rfl u8_one sD sD) ?_
           rintro sv19 w19 ⟨Hs19, hm19, g19⟩
           replace g19 : Grow u8 5 sv19 (cur ++ ([l.getD k 0])) Hs19 := g19
           refine rA rfl (v := sv19) rfl ?_
           refine rw_nil (kBlk_normal (cw_region ?_))
           refine rM rfl s6 <| rw_q rfl (ev_i64_add (b := 1) rfl rfl oM oM) <| rw_q rfl (ev_assign (v := (i64 ((k : Int) + 1))) rfl) <| rN ?_
           have hm20 := Mem.drop ([(b47, .cells (cl u8 ([l.getD k 0])) 5 (0, 0))]) _ (Mem.pick Hs19 [_] _ hm19)
           have hm21 := (Mem.pick2 Hs19 Hs He _ hm20)
           have hm22 := (Mem.pick2 He Hs19 Hs _ hm21)
           exact ⟨⟨(k + 1), (cur ++ [l.getD k 0]), v4, sv19, ls, Ls, Hs, He, Hs19, oM, hM, (by rw [← hsp, (spl_miss (cur := cur) oM (fun _ _ => (by have h' := hc10p; rw [toNat_succ] at h'; exact h')))]), (by rw [← hrs, (spl_miss (cur := cur) oM (fun _ _ => (by have h' := hc10p; rw [toNat_succ] at h'; exact h')))]), (by simp; omega), oM, hg, hE, g19, s0, s2, s3, s4, rfl, rfl, (by
             have hT := hm22
             simp only [List.append_assoc, List.cons_append, List.nil_append, List.append_nil] at hT ⊢
             exact hT)⟩, meas rfl z6 oM oM⟩
       · -- false
         have hb8p := of_decide_eq_false hb8
         refine rw_gn (s := 27) rfl rfl hb8 rfl <| rw_gn (s := 27) rfl rfl hb8 rfl <| rw_gn (s := 27) rfl rfl hb8 rfl <| rw_gn (s := 27) rfl rfl hb8 rfl <| rw_gn (s := 27) rfl rfl hb8 rfl <| rw_gn (s := 27) rfl rfl hb8 rfl ?_
         refine rw_q rfl (ev_pick_fk rfl hb8 rfl) <| rN ?_
         refine CW.abs (fun g => g 0 = v ∧ g 2 = (Value.slice none 0 0) ∧ g 3 = (Value.slice none 0 0) ∧ g 4 = v4 ∧ g 5 = v5 ∧ g 6 = (i64 (k : Int)) ∧ g 12 = (bl (decide ((k : Int) < (l.length : Int)))) ∧ g 34 = (bl false) ∧ True) ⟨s0, s2, s3, s4, s5, s6, rfl, rfl, trivial⟩ ?_
         rintro fr23 ⟨s0, s2, s3, s4, s5, s6, s12, s34, _⟩
         refine cw_cond_f s34 (by decide) <| cw_region <| rM rfl s5 <| rM rfl s0 <| rM rfl s6 <| rw_q rfl (ev_indexAddr_rdv (Rd.ofRest hr hm5) uT24 ti5 rfl rfl oM sD) ?_
         refine rw_q (v := (u8 (l.getD k 0))) rfl (ev_load_rdD (l := l) (i := (k : Int)) (dflt := 0) (Rd.ofRest hr hm5) uT5 rfl oM sD rfl) <| rw_c rfl (or_buildSlice_cl u8 [l.getD k 0] u8_one hm5 uT24 ti5 rfl rfl rfl) ?_
         rintro _ w24 ⟨b47_1, rfl, _ew24, hm24⟩
         refine rw_c rfl (or_append (f := u8) (Hs := Hl) (H := [(b47_1, .cells (cl u8 ([l.getD k 0])) 5 (0, 0))] ++ (Hs ++ (He ++ ([])))) (Mem.pick3 [_] Hs He Hl _ hm24) hgl rfl rfl (Rd.mkA hm24.h0) uT24 uT24 ti5 rfl u8_one sD sD) ?_
         rintro sv25 w25 ⟨Hs25, hm25, g25⟩
         replace g25 : Grow u8 5 sv25 (cur ++ ([l.getD k 0])) Hs25 := g25
         refine rA rfl (v := sv25) rfl ?_
         refine rw_nil (kBlk_normal (cw_region ?_))
         refine rM rfl s6 <| rw_q rfl (ev_i64_add (b := 1) rfl rfl oM oM) <| rw_q rfl (ev_assign (v := (i64 ((k : Int) + 1))) rfl) <| rN ?_
         have hm26 := Mem.drop ([(b47_1, .cells (cl u8 ([l.getD k 0])) 5 (0, 0))]) _ (Mem.pick Hs25 [_] _ hm25)
         have hm27 := (Mem.pick2 Hs25 Hs He _ hm26)
         have hm28 := (Mem.pick2 He Hs25 Hs _ hm27)
         exact ⟨⟨(k + 1), (cur ++ [l.getD k 0]), v4, sv25, ls, Ls, Hs, He, Hs25, oM, hM, (by rw [← hsp, (spl_miss (cur := cur) oM (fun _ h => absurd h oM))]), (by rw [← hrs, (spl_miss (cur := cur) oM (fun _ h => absurd h oM))]), (by simp; omega), oM, hg, hE, g25, s0, s2, s3, s4, rfl, rfl, (by
           have hT := hm28
           simp only [List.append_assoc, List.cons_append, List.nil_append, List.append_nil] at hT ⊢
           exact hT)⟩, meas rfl z6 oM oM⟩
     · -- false
       have hb7p := ne_of_beq_false hb7
       refine rw_gn (s := 20) rfl rfl hb7 rfl <| rw_gn (s := 20) rfl rfl hb7 rfl <| rw_gn (s := 20) rfl rfl hb7 rfl <| rw_gn (s := 20) rfl rfl hb7 rfl <| rw_gn (s := 20) rfl rfl hb7 rfl <| rw_q rfl (ev_pick_fk rfl hb7 rfl) ?_
       refine rw_q rfl (ev_move (v := (bl false)) rfl) <| rw_gn (s := 27) rfl rfl rfl rfl <| rw_gn (s := 27) rfl rfl rfl rfl <| rw_gn (s := 27) rfl rfl rfl rfl <| rw_gn (s := 27) rfl rfl rfl rfl <| rw_gn (s := 27) rfl rfl rfl rfl ?_
       refine rw_gn (s := 27) rfl rfl rfl rfl <| rw_q rfl (ev_pick_f rfl rfl) <| rN ?_
       refine CW.abs (fun g => g 0 = v ∧ g 2 = (Value.slice none 0 0) ∧ g 3 = (Value.slice none 0 0) ∧ g 4 = v4 ∧ g 5 = v5 ∧ g 6 = (i64 (k : Int)) ∧ g 12 = (bl (decide ((k : Int) < (l.length : Int)))) ∧ g 34 = (bl false) ∧ True) ⟨s0, s2, s3, s4, s5, s6, rfl, rfl, trivial⟩ ?_
       rintro fr29 ⟨s0, s2, s3, s4, s5, s6, s12, s34, _⟩
       refine cw_cond_f s34 (by decide) <| cw_region <| rM rfl s5 <| rM rfl s0 <| rM rfl s6 <| rw_q rfl (ev_indexAddr_rdv (Rd.ofRest hr hm5) uT24 ti5 rfl rfl oM sD) ?_
       refine rw_q (v := (u8 (l.getD k 0))) rfl (ev_load_rdD (l := l) (i := (k : Int)) (dflt := 0) (Rd.ofRest hr hm5) uT5 rfl oM sD rfl) <| rw_c rfl (or_buildSlice_cl u8 [l.getD k 0] u8_one hm5 uT24 ti5 rfl rfl rfl) ?_
       rintro _ w30 ⟨b47_2, rfl, _ew30, hm30⟩
       refine rw_c rfl (or_append (f := u8) (Hs := Hl) (H := [(b47_2, .cells (cl u8 ([l.getD k 0])) 5 (0, 0))] ++ (Hs ++ (He ++ ([])))) (Mem.pick3 [_] Hs He Hl _ hm30) hgl rfl rfl (Rd.mkA hm30.h0) uT24 uT24 ti5 rfl u8_one sD sD) ?_
       rintro sv31 w31 ⟨Hs31, hm31, g31⟩
       replace g31 : Grow u8 5 sv31 (cur ++ ([l.getD k 0])) Hs31 := g31
       refine rA rfl (v := sv31) rfl ?_
       refine rw_nil (kBlk_normal (cw_region ?_))
       refine rM rfl s6 <| rw_q rfl (ev_i64_add (b := 1) rfl rfl oM oM) <| rw_q rfl (ev_assign (v := (i64 ((k : Int) + 1))) rfl) <| rN ?_
       have hm32 := Mem.drop ([(b47_2, .cells (cl u8 ([l.getD k 0])) 5 (0, 0))]) _ (Mem.pick Hs31 [_] _ hm31)
       have hm33 := (Mem.pick2 Hs31 Hs He _ hm32)
       have hm34 := (Mem.pick2 He Hs31 Hs _ hm33)
       exact ⟨⟨(k + 1), (cur ++ [l.getD k 0]), v4, sv31, ls, Ls, Hs, He, Hs31, oM, hM, (by rw [← hsp, (spl_miss (cur := cur) oM (fun e => absurd e hb7p))]), (by rw [← hrs, (spl_miss (cur := cur) oM (fun e => absurd e hb7p))]), (by simp; omega), oM, hg, hE, g31, s0, s2, s3, s4, rfl, rfl, (by
         have hT := hm34
         simp only [List.append_assoc, List.cons_append, List.nil_append, List.append_nil] at hT ⊢
         exact hT)⟩, meas rfl z6 oM oM⟩
   · -- false
     have hc6p := of_decide_eq_false hc6
     refine cw_exit ?_
     refine kThen_exit (kThen_exit (kBlk_hit ?_))
     refine sR <| rM rfl s4 <| rM rfl s5 <| rA rfl (v := v4) rfl <| rA rfl (v := v5) rfl ?_
     refine rN (cw_ret ?_)
     refine fnPost_ret [v4, v5] ⟨rfl, rfl, trivial⟩ ?_
     rw [List.drop_of_length_le oM, splF] at hsp hrs
     exact ⟨ls, v4, v5, Hs, He, Hl, rfl, hM.trans ((List.append_nil _).symm.trans hsp), hg, hE, Grow.cast hgl hrs, by simpa using hm5⟩


end Go.Proofs.Ytfmjfojhcmmgcaa
