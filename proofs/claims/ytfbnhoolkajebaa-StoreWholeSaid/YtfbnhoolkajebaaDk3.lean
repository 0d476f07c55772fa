/- Contracts of the disk: crash. Conditions: none beyond those that each theorem states. -/
import Derived.Test.YtfbnhoolkajebaaDk2
namespace Go.Proofs.Ytfbnhoolkajebaa
set_option linter.unusedVariables false
set_option linter.unusedSimpArgs false

set_option maxHeartbeats 2000000 in
theorem c_dcrash (bd : Nat) (vl : Value) (ls : List (List (BitVec 8))) (Hl : List (Nat × Obj)) (vp : Value) (ps : List WriteT) (Hp : List (Nat × Obj)) (vq : Value) (qs : List (BitVec 8)) (w0 : World) (R : Rest) (hm0 : Mem w0 R ([(bd, .cells #[vl, vp] 94 (0, 0))] ++ (Hl ++ (Hp ++ ([]))))) (gl : GrowK (encA u8) 64 83 vl ls Hl) (gp : GrowK encW 65 104 vp ps Hp) (hq : Rd R.blk u8 vq qs) (hat : ∀ i, i < ps.length → 0 ≤ (ps.getD i write0).at_ ∧ (ps.getD i write0).at_ < (ls.length : Int)) (hll : ls.length ≤ 65536) (hpl : ps.length ≤ 1048576) (hql : qs.length ≤ 1048576) : CallsR Try.prog 17 #[(ptr bd 0), vq] w0 (fun r w1 => ∃ Hl2, r = .tuple #[] ∧ GrowK (encA u8) 64 83 vl (crashB ls ps qs) Hl2 ∧ Mem w1 R ([(bd, .cells #[vl, (Value.slice none 0 0)] 94 (0, 0))] ++ (Hl2 ++ ([])))) := by
 refine callsR_of_cw (args := [(ptr bd 0), vq]) Try.func17 rfl Try.ntmps17 Try.results17 rfl ?_
 refine cw_seq (sR ?_)
 refine rM rfl (v := vq) rfl <| rw_q (v := (i64 (qs.length : Int))) rfl (ev_len_rd (Rd.ofRest hq hm0) uT23 rfl) <| rw_q rfl (ev_i64_eql (b := 0) rfl rfl) <| rN ?_
 refine cw_cond rfl (fun hc1 => ?_) (fun hc1 => ?_)
 · -- true
   have hc1p := eq_of_beq hc1
   refine cw_region <| rw_c rfl (or_buildSlice_cl u8 [0#8] u8_one hm0 uT23 ti5 rfl rfl rfl) ?_
   rintro _ w2 ⟨b11, rfl, _ew2, hm2⟩
   refine rw_q rfl (ev_assign (v := (slc b11 0 1 1)) rfl) ?_
   have hpz := picks_pos qs
   have hpq := picks_0 (q := qs) (by have h := hc1; simpa using h)
   refine rN (cw_seq (sR ?_))
   refine rw_q rfl (ev_move (v := (ptr bd 0)) rfl) <| rw_q rfl (ev_nilCheck rfl) <| rw_q rfl (ev_fa (r := 1) uT94 rfl (by first | rfl | omega) ti92 rfl rfl) <| rw_q (v := vp) rfl (ev_load1 uT92 rfl rfl hm2.h1 rfl) <| rw_q (v := (i64 (ps.length : Int))) rfl (ev_len_rk (gp.rd (Mem.pick2 [_, _] Hl Hp _ hm2)) uT92 rfl) <| rw_q rfl (ev_move (v := (i64 0)) rfl) ?_
   refine rN (cw_block ?_)
   refine cw_loop (fun g wv => ∃ (k : Nat) (Hk : List (Nat × Obj)), (k ≤ ps.length) ∧ (GrowK (encA u8) 64 83 vl (crashK ls ps (picksB qs) k) Hk) ∧ g 0 = (ptr bd 0) ∧ g 1 = (slc b11 0 1 1) ∧ g 10 = (bl ((qs.length : Int) == 0)) ∧ g 15 = vp ∧ g 16 = (i64 (ps.length : Int)) ∧ g 17 = (i64 (k : Int)) ∧ Mem wv R ([(bd, .cells #[vl, vp] 94 (0, 0))] ++ (Hk ++ (Hp ++ ([(b11, .cells (cl u8 ([0#8])) 5 (0, 0))]))))) (fun g wv => ((ps.length : Int) - RowKit.intOf (g 17)).toNat) ?_ ?_
   have hm3 := (Mem.pick2 [_, _] Hl Hp _ hm2)
   have hm4 := (Mem.pick2 Hp [_, _] Hl _ hm3)
   have hm5 := (Mem.pick3 Hl Hp [_] [_] _ hm4)
   · exact ⟨0, Hl, (Nat.zero_le _), gl, rfl, rfl, rfl, rfl, rfl, rfl, hm5⟩
   · rintro fr6 w7 ⟨k, Hk, hk, gk, s0, s1, s10, s15, s16, s17, hm7⟩
     have z17 := s17
     have hck := crashK_len (ls := ls) (ps := ps) (q := picksB qs) k
     refine sR <| rw_q rfl (ev_i64_lss s17 s16) ?_
     refine rN (cw_seq ?_)
     refine cw_cond rfl (fun hc8 => ?_) (fun hc8 => ?_)
     · -- true
       have hc8p := of_decide_eq_true hc8
       have hak := hat k oM
       have hbk := encW_b2 gp.1 (show k < ps.length by omega)
       refine cw_skip (kThen_normal (cw_seq (cw_block (sR ?_))))
       refine rM rfl s17 <| rw_q rfl (ev_indexAddr_rk (i := (k : Int)) (gp.rd (Mem.pick2 [_] Hk Hp _ hm7)) uT92 ti104 s15 s17 oM sL) <| rw_q (v := (Value.agg (segs [[(i64 ((ps.getD k write0).at_))], ((ps.getD k write0).b).map u8]))) rfl (ev_load_rkW (i := (k : Int)) (dflt := write0) (cs := (segs [[(i64 ((ps.getD k write0).at_))], ((ps.getD k write0).b).map u8])) (gp.rd (Mem.pick2 [_] Hk Hp _ hm7)) sL uT104 rfl ti104 rfl rfl rfl) <| rw_c rfl (or_allocX hm7 ti104) ?_
       rintro _ w9 ⟨b5, rfl, _ew9, hm9⟩
       refine rw_q rfl (ev_assign (v := (i64 (k : Int))) rfl) <| rw_n (or_storeW_segs [[(i64 ((ps.getD k write0).at_))], ((ps.getD k write0).b).map u8] ti104 rfl rfl (fl_cons (n := 1) (m := 64) (k := 65) rfl (fl_cons (n := 64) (m := 0) (k := 64) (by first | rfl | (rw [List.length_map]; first | omega | (simp; done) | (simp; omega))) fl_nil rfl) rfl) (so_cons (one_cons (i64_one _) one_nil) (so_cons (encA_one u8_one _) so_nil)) hm9.h0 (by rw [segs_size]; exact (fl_cons (n := 1) (m := 64) (k := 65) rfl (fl_cons (n := 64) (m := 0) (k := 64) (by first | rfl | (rw [List.length_map]; first | omega | (simp; done) | (simp; omega))) fl_nil rfl) rfl)) rfl) ?_
       rintro _ w10 uq10
       have hm10 : Mem w10 R ([(b5, .cells (segs [[(i64 ((ps.getD k write0).at_))], ((ps.getD k write0).b).map u8]) 104 (0, 0)), (bd, .cells #[vl, vp] 94 (0, 0))] ++ (Hk ++ (Hp ++ ([(b11, .cells (cl u8 ([0#8])) 5 (0, 0))])))) := hm9.upd0 uq10
       refine rN (sR ?_)
       refine rM rfl s1 <| rw_q rfl (ev_move (v := (i64 (k : Int))) rfl) <| rM rfl s1 <| rw_q (v := (i64 ((picksB qs).length : Int))) rfl (ev_len_rd (Rd.cast (l' := picksB qs) (Rd.mkA ((Mem.pick3 [_, _] Hk Hp [_] _ hm10)).h0) hpq) uT23 rfl) ?_
       obtain ⟨n11, hn11, hn11l⟩ : ∃ q : Nat, (k : Int) % ((picksB qs).length : Int) = (q : Int) ∧ q < (picksB qs).length := ⟨((k : Int) % ((picksB qs).length : Int)).toNat, (Int.toNat_of_nonneg (Int.emod_nonneg _ oM)).symm, by have h1 := Int.emod_nonneg (k : Int) (b := ((picksB qs).length : Int)) oM; have h2 := Int.emod_lt_of_pos (k : Int) (b := ((picksB qs).length : Int)) oM; omega⟩
       refine rw_q rfl (EvQ.cast (congrArg i64 hn11) (ev_i64_rem rfl rfl oM oM oM)) <| rw_q rfl (ev_indexAddr_rdv (Rd.cast (l' := picksB qs) (Rd.mkA ((Mem.pick3 [_, _] Hk Hp [_] _ hm10)).h0) hpq) uT23 ti5 rfl rfl oM sL) <| rw_q (v := (u8 ((picksB qs).getD n11 0))) rfl (ev_load_rdD (l := (picksB qs)) (i := (n11 : Int)) (dflt := 0) (Rd.cast (l' := picksB qs) (Rd.mkA ((Mem.pick3 [_, _] Hk Hp [_] _ hm10)).h0) hpq) uT5 rfl oM sL rfl) <| rw_q rfl (ev_assign (v := (u8 ((picksB qs).getD n11 0))) rfl) ?_
       refine rN (sR ?_)
       refine rw_q rfl (ev_assign (v := (i64 0)) rfl) ?_
       refine rN (cw_seq (sR ?_))
       refine rw_q rfl (ev_move (v := (u8 ((picksB qs).getD n11 0))) rfl) <| rw_q rfl (ev_u8_rem (b := 3#8) rfl rfl (by decide)) ?_
       refine rN (cw_block (sR ?_))
       refine rw_q rfl (ev_u8_eql (b := 1#8) rfl rfl) <| rw_q rfl (ev_assign (v := (bl ((((picksB qs).getD n11 0) % 3#8) == 1#8))) rfl) <| rN ?_
       refine cw_cond rfl (fun hc12 => ?_) (fun hc12 => ?_)
       · -- true
         have hc12p := eq_of_beq hc12
         refine cw_region <| rw_q rfl (ev_assign (v := (i64 64)) rfl) ?_
         refine rw_nil (kBlk_normal ?_)
         refine cw_draw [(0, false), (1, false), (2, false), (3, false), (4, false), (5, false), (6, false), (7, false), (8, false), (9, false), (10, false)] 11 (by kernel_rfl) <| dM rfl rfl s0 <| dw_q rfl rfl (fun _ _hx => ev_nilCheck rfl) <| dw_q rfl rfl (fun _ _hx => ev_fa (r := 0) uT94 rfl (by first | rfl | omega) ti40 rfl rfl) <| dw_q (v := vl) rfl rfl (fun _ _hx => ev_load1 uT40 rfl rfl (hm10.ext _hx).h1 rfl) <| dw_q rfl rfl (fun _ _hx => ev_fa (r := 0) uT104 rfl (by first | rfl | omega) ti3 rfl rfl) ?_
         refine dw_q (v := (i64 ((ps.getD k write0).at_))) rfl rfl (fun _ _hx => ev_load_segv (v := (i64 ((ps.getD k write0).at_))) [] [((ps.getD k write0).b).map u8] uT3 rfl rfl (hm10.ext _hx).h0 fl_nil) <| dw_q rfl rfl (fun _ _hx => ev_indexAddr_rk (i := (ps.getD k write0).at_) (gk.rd (Mem.pick [_, _] Hk _ (hm10.ext _hx))) uT40 ti83 rfl rfl oM sL) <| dw_q rfl rfl (fun _ _hx => ev_move (v := (i64 64)) rfl) <| dw_q rfl rfl (fun _ _hx => ev_slice_elkP (i := (ps.getD k write0).at_) (j := 64) (gk.rd (Mem.pick [_, _] Hk _ (hm10.ext _hx))) sL rfl uT83 ti5 rfl rfl sL sL) <| dw_q rfl rfl (fun _ _hx => ev_fa (r := 1) uT104 rfl (by first | rfl | omega) ti83 rfl rfl) <| dw_q rfl rfl (fun _ _hx => ev_slice_sla (i := 0) (j := 64) uT83 ti5 rfl (optI_none _ _) (optI_none _ _) oM sL sL) ?_
         refine dw_nil (fun w13 _ew13 => ?_)
         have hm13 := hm10.ext _ew13
         refine rw_c rfl (or_copy_elk (Hs := Hk) (H := [(b5, .cells (segs [[(i64 ((ps.getD k write0).at_))], ((ps.getD k write0).b).map u8]) 104 (0, 0)), (bd, .cells #[vl, vp] 94 (0, 0))] ++ (Hp ++ ([(b11, .cells (cl u8 ([0#8])) 5 (0, 0))]))) (l := (crashK ls ps (picksB qs) k)) (i := (ps.getD k write0).at_) (j := 64) (Mem.pick [_, _] Hk _ hm13) gk sL rfl rfl (Rd.segA [[(i64 ((ps.getD k write0).at_))]] [] hm13.h0 (fl_cons (n := 1) (m := 0) (k := 1) rfl fl_nil rfl) sL (by decide) (by decide)) sL sL sL uT23 ti5 u8_one) ?_
         rintro _ w14 ⟨rfl, Hs14, hm14, g14⟩
         replace g14 : GrowK (encA u8) 64 83 vl ((crashK ls ps (picksB qs) k).set (((ps.getD k write0).at_ : Int).toNat) (((ps.getD k write0).b).take ((64 : Int).toNat) ++ ((crashK ls ps (picksB qs) k).getD (((ps.getD k write0).at_ : Int).toNat) []).drop ((64 : Int).toNat))) Hs14 := g14
         refine rw_nil (kBlk_normal ?_)
         refine CW.abs (fun g => g 0 = (ptr bd 0) ∧ g 1 = (slc b11 0 1 1) ∧ g 4 = (i64 (k : Int)) ∧ g 5 = (ptr b5 0) ∧ g 6 = (u8 ((picksB qs).getD n11 0)) ∧ g 7 = (i64 64) ∧ g 10 = (bl ((qs.length : Int) == 0)) ∧ g 15 = vp ∧ g 16 = (i64 (ps.length : Int)) ∧ g 17 = (i64 (k : Int)) ∧ g 18 = (bl (decide ((k : Int) < (ps.length : Int)))) ∧ g 30 = (u8 (((picksB qs).getD n11 0) % 3#8)) ∧ g 31 = (bl ((((picksB qs).getD n11 0) % 3#8) == 1#8)) ∧ True) ⟨s0, s1, rfl, rfl, rfl, rfl, s10, s15, s16, s17, rfl, rfl, rfl, trivial⟩ ?_
         rintro fr15 ⟨s0, s1, s4, s5, s6, s7, s10, s15, s16, s17, s18, s30, s31, _⟩
         refine cw_region <| rw_q rfl (ev_i64_add (b := 1) s17 rfl oM oM) <| rw_q rfl (ev_move (v := (i64 ((k : Int) + 1))) rfl) <| rN ?_
         have hm16 := Mem.drop ([(b5, .cells (segs [[(i64 ((ps.getD k write0).at_))], ((ps.getD k write0).b).map u8]) 104 (0, 0))]) _ (Mem.pick Hs14 [_] _ hm14)
         have hm17 := (Mem.pick3 Hs14 [_] Hp [_] _ hm16)
         have hm18 := (Mem.pick3 [_] Hs14 [_] Hp _ hm17)
         have hm19 := (Mem.pick2 Hp [_] Hs14 _ hm18)
         have hm20 := (Mem.pick3 Hs14 Hp [_] [_] _ hm19)
         exact ⟨⟨(k + 1), Hs14, oM, (GrowK.cast g14 (crash_step hn11 (cut_1 hc12))), s0, s1, s10, s15, s16, rfl, hm20⟩, meas rfl z17 oM oM⟩
       · -- false
         have hc12p := ne_of_beq_false hc12
         refine sR <| rw_q rfl (ev_u8_eql (b := 2#8) rfl rfl) <| rw_q rfl (ev_assign (v := (bl ((((picksB qs).getD n11 0) % 3#8) == 2#8))) rfl) <| rN ?_
         refine cw_cond rfl (fun hc21 => ?_) (fun hc21 => ?_)
         · -- true
           have hc21p := eq_of_beq hc21
           refine cw_region <| rw_q rfl (ev_move (v := (u8 ((picksB qs).getD n11 0))) rfl) <| rw_q rfl (ev_u8_quo (b := 3#8) rfl rfl (by decide)) <| rw_q rfl (ev_conv_u8_i64 ⟨_, uT5⟩ uT3 rfl) <| rw_q rfl (ev_i64_rem (b := 64) rfl rfl oM oM oM) <| rw_q rfl (ev_assign (v := (i64 (((((picksB qs).getD n11 0) / 3#8).toNat : Int) % 64))) rfl) ?_
           refine rw_nil (kBlk_normal ?_)
           refine cw_draw [(0, false), (1, false), (2, false), (3, false), (4, false), (5, false), (6, false), (7, false), (8, false), (9, false), (10, false)] 11 (by kernel_rfl) <| dM rfl rfl s0 <| dw_q rfl rfl (fun _ _hx => ev_nilCheck rfl) <| dw_q rfl rfl (fun _ _hx => ev_fa (r := 0) uT94 rfl (by first | rfl | omega) ti40 rfl rfl) <| dw_q (v := vl) rfl rfl (fun _ _hx => ev_load1 uT40 rfl rfl (hm10.ext _hx).h1 rfl) <| dw_q rfl rfl (fun _ _hx => ev_fa (r := 0) uT104 rfl (by first | rfl | omega) ti3 rfl rfl) ?_
           refine dw_q (v := (i64 ((ps.getD k write0).at_))) rfl rfl (fun _ _hx => ev_load_segv (v := (i64 ((ps.getD k write0).at_))) [] [((ps.getD k write0).b).map u8] uT3 rfl rfl (hm10.ext _hx).h0 fl_nil) <| dw_q rfl rfl (fun _ _hx => ev_indexAddr_rk (i := (ps.getD k write0).at_) (gk.rd (Mem.pick [_, _] Hk _ (hm10.ext _hx))) uT40 ti83 rfl rfl oM sL) <| dw_q rfl rfl (fun _ _hx => ev_move (v := (i64 (((((picksB qs).getD n11 0) / 3#8).toNat : Int) % 64))) rfl) <| dw_q rfl rfl (fun _ _hx => ev_slice_elkP (i := (ps.getD k write0).at_) (j := ((((picksB qs).getD n11 0) / 3#8).toNat : Int) % 64) (gk.rd (Mem.pick [_, _] Hk _ (hm10.ext _hx))) sL rfl uT83 ti5 rfl rfl sL sL) <| dw_q rfl rfl (fun _ _hx => ev_fa (r := 1) uT104 rfl (by first | rfl | omega) ti83 rfl rfl) <| dw_q rfl rfl (fun _ _hx => ev_slice_sla (i := 0) (j := 64) uT83 ti5 rfl (optI_none _ _) (optI_none _ _) oM sL sL) ?_
           refine dw_nil (fun w22 _ew22 => ?_)
           have hm22 := hm10.ext _ew22
           refine rw_c rfl (or_copy_elk (Hs := Hk) (H := [(b5, .cells (segs [[(i64 ((ps.getD k write0).at_))], ((ps.getD k write0).b).map u8]) 104 (0, 0)), (bd, .cells #[vl, vp] 94 (0, 0))] ++ (Hp ++ ([(b11, .cells (cl u8 ([0#8])) 5 (0, 0))]))) (l := (crashK ls ps (picksB qs) k)) (i := (ps.getD k write0).at_) (j := ((((picksB qs).getD n11 0) / 3#8).toNat : Int) % 64) (Mem.pick [_, _] Hk _ hm22) gk sL rfl rfl (Rd.segA [[(i64 ((ps.getD k write0).at_))]] [] hm22.h0 (fl_cons (n := 1) (m := 0) (k := 1) rfl fl_nil rfl) sL (by decide) (by decide)) sL sL sL uT23 ti5 u8_one) ?_
           rintro _ w23 ⟨rfl, Hs23, hm23, g23⟩
           replace g23 : GrowK (encA u8) 64 83 vl ((crashK ls ps (picksB qs) k).set (((ps.getD k write0).at_ : Int).toNat) (((ps.getD k write0).b).take ((((((picksB qs).getD n11 0) / 3#8).toNat : Int) % 64 : Int).toNat) ++ ((crashK ls ps (picksB qs) k).getD (((ps.getD k write0).at_ : Int).toNat) []).drop ((((((picksB qs).getD n11 0) / 3#8).toNat : Int) % 64 : Int).toNat))) Hs23 := g23
           refine rw_nil (kBlk_normal ?_)
           refine CW.abs (fun g => g 0 = (ptr bd 0) ∧ g 1 = (slc b11 0 1 1) ∧ g 4 = (i64 (k : Int)) ∧ g 5 = (ptr b5 0) ∧ g 6 = (u8 ((picksB qs).getD n11 0)) ∧ g 7 = (i64 (((((picksB qs).getD n11 0) / 3#8).toNat : Int) % 64)) ∧ g 10 = (bl ((qs.length : Int) == 0)) ∧ g 15 = vp ∧ g 16 = (i64 (ps.length : Int)) ∧ g 17 = (i64 (k : Int)) ∧ g 18 = (bl (decide ((k : Int) < (ps.length : Int)))) ∧ g 30 = (u8 (((picksB qs).getD n11 0) % 3#8)) ∧ g 31 = (bl ((((picksB qs).getD n11 0) % 3#8) == 1#8)) ∧ g 33 = (bl ((((picksB qs).getD n11 0) % 3#8) == 2#8)) ∧ True) ⟨s0, s1, rfl, rfl, rfl, rfl, s10, s15, s16, s17, rfl, rfl, rfl, rfl, trivial⟩ ?_
           rintro fr24 ⟨s0, s1, s4, s5, s6, s7, s10, s15, s16, s17, s18, s30, s31, s33, _⟩
           refine cw_region <| rw_q rfl (ev_i64_add (b := 1) s17 rfl oM oM) <| rw_q rfl (ev_move (v := (i64 ((k : Int) + 1))) rfl) <| rN ?_
           have hm25 := Mem.drop ([(b5, .cells (segs [[(i64 ((ps.getD k write0).at_))], ((ps.getD k write0).b).map u8]) 104 (0, 0))]) _ (Mem.pick Hs23 [_] _ hm23)
           have hm26 := (Mem.pick3 Hs23 [_] Hp [_] _ hm25)
           have hm27 := (Mem.pick3 [_] Hs23 [_] Hp _ hm26)
           have hm28 := (Mem.pick2 Hp [_] Hs23 _ hm27)
           have hm29 := (Mem.pick3 Hs23 Hp [_] [_] _ hm28)
           exact ⟨⟨(k + 1), Hs23, oM, (GrowK.cast g23 (crash_step hn11 (cut_2 hc12 hc21))), s0, s1, s10, s15, s16, rfl, hm29⟩, meas rfl z17 oM oM⟩
         · -- false
           have hc21p := ne_of_beq_false hc21
           refine cw_skip (kBlk_normal ?_)
           refine cw_draw [(0, false), (1, false), (2, false), (3, false), (4, false), (5, false), (6, false), (7, false), (8, false), (9, false), (10, false)] 11 (by kernel_rfl) <| dM rfl rfl s0 <| dw_q rfl rfl (fun _ _hx => ev_nilCheck rfl) <| dw_q rfl rfl (fun _ _hx => ev_fa (r := 0) uT94 rfl (by first | rfl | omega) ti40 rfl rfl) <| dw_q (v := vl) rfl rfl (fun _ _hx => ev_load1 uT40 rfl rfl (hm10.ext _hx).h1 rfl) <| dw_q rfl rfl (fun _ _hx => ev_fa (r := 0) uT104 rfl (by first | rfl | omega) ti3 rfl rfl) ?_
           refine dw_q (v := (i64 ((ps.getD k write0).at_))) rfl rfl (fun _ _hx => ev_load_segv (v := (i64 ((ps.getD k write0).at_))) [] [((ps.getD k write0).b).map u8] uT3 rfl rfl (hm10.ext _hx).h0 fl_nil) <| dw_q rfl rfl (fun _ _hx => ev_indexAddr_rk (i := (ps.getD k write0).at_) (gk.rd (Mem.pick [_, _] Hk _ (hm10.ext _hx))) uT40 ti83 rfl rfl oM sL) <| dw_q rfl rfl (fun _ _hx => ev_move (v := (i64 0)) rfl) <| dw_q rfl rfl (fun _ _hx => ev_slice_elkP (i := (ps.getD k write0).at_) (j := 0) (gk.rd (Mem.pick [_, _] Hk _ (hm10.ext _hx))) sL rfl uT83 ti5 rfl rfl sL sL) <| dw_q rfl rfl (fun _ _hx => ev_fa (r := 1) uT104 rfl (by first | rfl | omega) ti83 rfl rfl) <| dw_q rfl rfl (fun _ _hx => ev_slice_sla (i := 0) (j := 64) uT83 ti5 rfl (optI_none _ _) (optI_none _ _) oM sL sL) ?_
           refine dw_nil (fun w30 _ew30 => ?_)
           have hm30 := hm10.ext _ew30
           refine rw_c rfl (or_copy_elk (Hs := Hk) (H := [(b5, .cells (segs [[(i64 ((ps.getD k write0).at_))], ((ps.getD k write0).b).map u8]) 104 (0, 0)), (bd, .cells #[vl, vp] 94 (0, 0))] ++ (Hp ++ ([(b11, .cells (cl u8 ([0#8])) 5 (0, 0))]))) (l := (crashK ls ps (picksB qs) k)) (i := (ps.getD k write0).at_) (j := 0) (Mem.pick [_, _] Hk _ hm30) gk sL rfl rfl (Rd.segA [[(i64 ((ps.getD k write0).at_))]] [] hm30.h0 (fl_cons (n := 1) (m := 0) (k := 1) rfl fl_nil rfl) sL (by decide) (by decide)) sL sL sL uT23 ti5 u8_one) ?_
           rintro _ w31 ⟨rfl, Hs31, hm31, g31⟩
           replace g31 : GrowK (encA u8) 64 83 vl ((crashK ls ps (picksB qs) k).set (((ps.getD k write0).at_ : Int).toNat) (((ps.getD k write0).b).take ((0 : Int).toNat) ++ ((crashK ls ps (picksB qs) k).getD (((ps.getD k write0).at_ : Int).toNat) []).drop ((0 : Int).toNat))) Hs31 := g31
           refine rw_nil (kBlk_normal ?_)
           refine CW.abs (fun g => g 0 = (ptr bd 0) ∧ g 1 = (slc b11 0 1 1) ∧ g 4 = (i64 (k : Int)) ∧ g 5 = (ptr b5 0) ∧ g 6 = (u8 ((picksB qs).getD n11 0)) ∧ g 7 = (i64 0) ∧ g 10 = (bl ((qs.length : Int) == 0)) ∧ g 15 = vp ∧ g 16 = (i64 (ps.length : Int)) ∧ g 17 = (i64 (k : Int)) ∧ g 18 = (bl (decide ((k : Int) < (ps.length : Int)))) ∧ g 30 = (u8 (((picksB qs).getD n11 0) % 3#8)) ∧ g 31 = (bl ((((picksB qs).getD n11 0) % 3#8) == 1#8)) ∧ g 33 = (bl ((((picksB qs).getD n11 0) % 3#8) == 2#8)) ∧ True) ⟨s0, s1, rfl, rfl, rfl, rfl, s10, s15, s16, s17, rfl, rfl, rfl, rfl, trivial⟩ ?_
           rintro fr32 ⟨s0, s1, s4, s5, s6, s7, s10, s15, s16, s17, s18, s30, s31, s33, _⟩
           refine cw_region <| rw_q rfl (ev_i64_add (b := 1) s17 rfl oM oM) <| rw_q rfl (ev_move (v := (i64 ((k : Int) + 1))) rfl) <| rN ?_
           have hm33 := Mem.drop ([(b5, .cells (segs [[(i64 ((ps.getD k write0).at_))], ((ps.getD k write0).b).map u8]) 104 (0, 0))]) _ (Mem.pick Hs31 [_] _ hm31)
           have hm34 := (Mem.pick3 Hs31 [_] Hp [_] _ hm33)
           have hm35 := (Mem.pick3 [_] Hs31 [_] Hp _ hm34)
           have hm36 := (Mem.pick2 Hp [_] Hs31 _ hm35)
           have hm37 := (Mem.pick3 Hs31 Hp [_] [_] _ hm36)
           exact ⟨⟨(k + 1), Hs31, oM, (GrowK.cast g31 (crash_step hn11 (cut_0 hc12 hc21))), s0, s1, s10, s15, s16, rfl, hm37⟩, meas rfl z17 oM oM⟩
     · -- false
       have hc8p := of_decide_eq_false hc8
       refine cw_exit ?_
       refine kThen_exit (kThen_exit (kBlk_hit ?_))
       refine cw_region <| rM rfl s0 <| rw_q rfl (ev_nilCheck rfl) <| rw_q rfl (ev_fa (r := 1) uT94 rfl (by first | rfl | omega) ti92 rfl rfl) <| rw_n (or_store1 ti92 rfl rfl rfl hm7.h0 (by simp) (.inl (Nat.zero_le _))) ?_
       rintro _ w38 uq38
       have hm38 : Mem w38 R ([(bd, .cells #[vl, (Value.slice none 0 0)] 94 (0, 0))] ++ (Hk ++ (Hp ++ ([(b11, .cells (cl u8 ([0#8])) 5 (0, 0))])))) := hm7.upd0 uq38
       refine rw_nil <| fnPost_normal [] trivial ?_
       have hm39 := Mem.drop Hp _ (Mem.pick2 [_] Hk Hp _ hm38)
       have hm40 := Mem.drop ([(b11, .cells (cl u8 ([0#8])) 5 (0, 0))]) _ (Mem.pick2 [_] Hk [_] _ hm39)
       exact ⟨Hk, rfl, GrowK.cast gk (by unfold crashB; rw [show k = ps.length by omega]), (by
         have hT := hm40
         try simp only [List.append_assoc, List.cons_append, List.nil_append, List.append_nil] at hT ⊢
         exact hT)⟩
 · -- false
   have hc1p := ne_of_beq_false hc1
   have hpz := picks_pos qs
   have hpq := picks_n (q := qs) (by have h := hc1; simpa using h)
   refine cw_skip (kThen_normal (cw_seq (sR ?_)))
   refine rw_q rfl (ev_move (v := (ptr bd 0)) rfl) <| rw_q rfl (ev_nilCheck rfl) <| rw_q rfl (ev_fa (r := 1) uT94 rfl (by first | rfl | omega) ti92 rfl rfl) <| rw_q (v := vp) rfl (ev_load1 uT92 rfl rfl hm0.h0 rfl) <| rw_q (v := (i64 (ps.length : Int))) rfl (ev_len_rk (gp.rd (Mem.pick2 [_] Hl Hp _ hm0)) uT92 rfl) <| rw_q rfl (ev_move (v := (i64 0)) rfl) ?_
   refine rN (cw_block ?_)
   refine cw_loop (fun g wv => ∃ (k : Nat) (Hk : List (Nat × Obj)), (k ≤ ps.length) ∧ (GrowK (encA u8) 64 83 vl (crashK ls ps (picksB qs) k) Hk) ∧ g 0 = (ptr bd 0) ∧ g 1 = vq ∧ g 10 = (bl ((qs.length : Int) == 0)) ∧ g 15 = vp ∧ g 16 = (i64 (ps.length : Int)) ∧ g 17 = (i64 (k : Int)) ∧ Mem wv R ([(bd, .cells #[vl, vp] 94 (0, 0))] ++ (Hk ++ (Hp ++ ([]))))) (fun g wv => ((ps.length : Int) - RowKit.intOf (g 17)).toNat) ?_ ?_
   · exact ⟨0, Hl, (Nat.zero_le _), gl, rfl, rfl, rfl, rfl, rfl, rfl, hm0⟩
   · rintro fr41 w42 ⟨k, Hk, hk, gk, s0, s1, s10, s15, s16, s17, hm42⟩
     have z17 := s17
     have hck := crashK_len (ls := ls) (ps := ps) (q := picksB qs) k
     refine sR <| rw_q rfl (ev_i64_lss s17 s16) ?_
     refine rN (cw_seq ?_)
     refine cw_cond rfl (fun hc43 => ?_) (fun hc43 => ?_)
     · -- true
       have hc43p := of_decide_eq_true hc43
       have hak := hat k oM
       have hbk := encW_b2 gp.1 (show k < ps.length by omega)
       refine cw_skip (kThen_normal (cw_seq (cw_block (sR ?_))))
       refine rM rfl s17 <| rw_q rfl (ev_indexAddr_rk (i := (k : Int)) (gp.rd (Mem.pick2 [_] Hk Hp _ hm42)) uT92 ti104 s15 s17 oM sL) <| rw_q (v := (Value.agg (segs [[(i64 ((ps.getD k write0).at_))], ((ps.getD k write0).b).map u8]))) rfl (ev_load_rkW (i := (k : Int)) (dflt := write0) (cs := (segs [[(i64 ((ps.getD k write0).at_))], ((ps.getD k write0).b).map u8])) (gp.rd (Mem.pick2 [_] Hk Hp _ hm42)) sL uT104 rfl ti104 rfl rfl rfl) <| rw_c rfl (or_allocX hm42 ti104) ?_
       rintro _ w44 ⟨b5_1, rfl, _ew44, hm44⟩
       refine rw_q rfl (ev_assign (v := (i64 (k : Int))) rfl) <| rw_n (or_storeW_segs [[(i64 ((ps.getD k write0).at_))], ((ps.getD k write0).b).map u8] ti104 rfl rfl (fl_cons (n := 1) (m := 64) (k := 65) rfl (fl_cons (n := 64) (m := 0) (k := 64) (by first | rfl | (rw [List.length_map]; first | omega | (simp; done) | (simp; omega))) fl_nil rfl) rfl) (so_cons (one_cons (i64_one _) one_nil) (so_cons (encA_one u8_one _) so_nil)) hm44.h0 (by rw [segs_size]; exact (fl_cons (n := 1) (m := 64) (k := 65) rfl (fl_cons (n := 64) (m := 0) (k := 64) (by first | rfl | (rw [List.length_map]; first | omega | (simp; done) | (simp; omega))) fl_nil rfl) rfl)) rfl) ?_
       rintro _ w45 uq45
       have hm45 : Mem w45 R ([(b5_1, .cells (segs [[(i64 ((ps.getD k write0).at_))], ((ps.getD k write0).b).map u8]) 104 (0, 0)), (bd, .cells #[vl, vp] 94 (0, 0))] ++ (Hk ++ (Hp ++ ([])))) := hm44.upd0 uq45
       refine rN (sR ?_)
       refine rM rfl s1 <| rw_q rfl (ev_move (v := (i64 (k : Int))) rfl) <| rM rfl s1 <| rw_q (v := (i64 ((picksB qs).length : Int))) rfl (ev_len_rd (Rd.cast (l' := picksB qs) (Rd.ofRest hq hm45) hpq) uT23 rfl) ?_
       obtain ⟨n46, hn46, hn46l⟩ : ∃ q : Nat, (k : Int) % ((picksB qs).length : Int) = (q : Int) ∧ q < (picksB qs).length := ⟨((k : Int) % ((picksB qs).length : Int)).toNat, (Int.toNat_of_nonneg (Int.emod_nonneg _ oM)).symm, by have h1 := Int.emod_nonneg (k : Int) (b := ((picksB qs).length : Int)) oM; have h2 := Int.emod_lt_of_pos (k : Int) (b := ((picksB qs).length : Int)) oM; omega⟩
       refine rw_q rfl (EvQ.cast (congrArg i64 hn46) (ev_i64_rem rfl rfl oM oM oM)) <| rw_q rfl (ev_indexAddr_rdv (Rd.cast (l' := picksB qs) (Rd.ofRest hq hm45) hpq) uT23 ti5 rfl rfl oM sL) <| rw_q (v := (u8 ((picksB qs).getD n46 0))) rfl (ev_load_rdD (l := (picksB qs)) (i := (n46 : Int)) (dflt := 0) (Rd.cast (l' := picksB qs) (Rd.ofRest hq hm45) hpq) uT5 rfl oM sL rfl) <| rw_q rfl (ev_assign (v := (u8 ((picksB qs).getD n46 0))) rfl) ?_
       refine rN (sR ?_)
       refine rw_q rfl (ev_assign (v := (i64 0)) rfl) ?_
       refine rN (cw_seq (sR ?_))
       refine rw_q rfl (ev_move (v := (u8 ((picksB qs).getD n46 0))) rfl) <| rw_q rfl (ev_u8_rem (b := 3#8) rfl rfl (by decide)) ?_
       refine rN (cw_block (sR ?_))
       refine rw_q rfl (ev_u8_eql (b := 1#8) rfl rfl) <| rw_q rfl (ev_assign (v := (bl ((((picksB qs).getD n46 0) % 3#8) == 1#8))) rfl) <| rN ?_
       refine cw_cond rfl (fun hc47 => ?_) (fun hc47 => ?_)
       · -- true
         have hc47p := eq_of_beq hc47
         refine cw_region <| rw_q rfl (ev_assign (v := (i64 64)) rfl) ?_
         refine rw_nil (kBlk_normal ?_)
         refine cw_draw [(0, false), (1, false), (2, false), (3, false), (4, false), (5, false), (6, false), (7, false), (8, false), (9, false), (10, false)] 11 (by kernel_rfl) <| dM rfl rfl s0 <| dw_q rfl rfl (fun _ _hx => ev_nilCheck rfl) <| dw_q rfl rfl (fun _ _hx => ev_fa (r := 0) uT94 rfl (by first | rfl | omega) ti40 rfl rfl) <| dw_q (v := vl) rfl rfl (fun _ _hx => ev_load1 uT40 rfl rfl (hm45.ext _hx).h1 rfl) <| dw_q rfl rfl (fun _ _hx => ev_fa (r := 0) uT104 rfl (by first | rfl | omega) ti3 rfl rfl) ?_
         refine dw_q (v := (i64 ((ps.getD k write0).at_))) rfl rfl (fun _ _hx => ev_load_segv (v := (i64 ((ps.getD k write0).at_))) [] [((ps.getD k write0).b).map u8] uT3 rfl rfl (hm45.ext _hx).h0 fl_nil) <| dw_q rfl rfl (fun _ _hx => ev_indexAddr_rk (i := (ps.getD k write0).at_) (gk.rd (Mem.pick [_, _] Hk _ (hm45.ext _hx))) uT40 ti83 rfl rfl oM sL) <| dw_q rfl rfl (fun _ _hx => ev_move (v := (i64 64)) rfl) <| dw_q rfl rfl (fun _ _hx => ev_slice_elkP (i := (ps.getD k write0).at_) (j := 64) (gk.rd (Mem.pick [_, _] Hk _ (hm45.ext _hx))) sL rfl uT83 ti5 rfl rfl sL sL) <| dw_q rfl rfl (fun _ _hx => ev_fa (r := 1) uT104 rfl (by first | rfl | omega) ti83 rfl rfl) <| dw_q rfl rfl (fun _ _hx => ev_slice_sla (i := 0) (j := 64) uT83 ti5 rfl (optI_none _ _) (optI_none _ _) oM sL sL) ?_
         refine dw_nil (fun w48 _ew48 => ?_)
         have hm48 := hm45.ext _ew48
         refine rw_c rfl (or_copy_elk (Hs := Hk) (H := [(b5_1, .cells (segs [[(i64 ((ps.getD k write0).at_))], ((ps.getD k write0).b).map u8]) 104 (0, 0)), (bd, .cells #[vl, vp] 94 (0, 0))] ++ (Hp ++ ([]))) (l := (crashK ls ps (picksB qs) k)) (i := (ps.getD k write0).at_) (j := 64) (Mem.pick [_, _] Hk _ hm48) gk sL rfl rfl (Rd.segA [[(i64 ((ps.getD k write0).at_))]] [] hm48.h0 (fl_cons (n := 1) (m := 0) (k := 1) rfl fl_nil rfl) sL (by decide) (by decide)) sL sL sL uT23 ti5 u8_one) ?_
         rintro _ w49 ⟨rfl, Hs49, hm49, g49⟩
         replace g49 : GrowK (encA u8) 64 83 vl ((crashK ls ps (picksB qs) k).set (((ps.getD k write0).at_ : Int).toNat) (((ps.getD k write0).b).take ((64 : Int).toNat) ++ ((crashK ls ps (picksB qs) k).getD (((ps.getD k write0).at_ : Int).toNat) []).drop ((64 : Int).toNat))) Hs49 := g49
         refine rw_nil (kBlk_normal ?_)
         refine CW.abs (fun g => g 0 = (ptr bd 0) ∧ g 1 = vq ∧ g 4 = (i64 (k : Int)) ∧ g 5 = (ptr b5_1 0) ∧ g 6 = (u8 ((picksB qs).getD n46 0)) ∧ g 7 = (i64 64) ∧ g 10 = (bl ((qs.length : Int) == 0)) ∧ g 15 = vp ∧ g 16 = (i64 (ps.length : Int)) ∧ g 17 = (i64 (k : Int)) ∧ g 18 = (bl (decide ((k : Int) < (ps.length : Int)))) ∧ g 30 = (u8 (((picksB qs).getD n46 0) % 3#8)) ∧ g 31 = (bl ((((picksB qs).getD n46 0) % 3#8) == 1#8)) ∧ True) ⟨s0, s1, rfl, rfl, rfl, rfl, s10, s15, s16, s17, rfl, rfl, rfl, trivial⟩ ?_
         rintro fr50 ⟨s0, s1, s4, s5, s6, s7, s10, s15, s16, s17, s18, s30, s31, _⟩
         refine cw_region <| rw_q rfl (ev_i64_add (b := 1) s17 rfl oM oM) <| rw_q rfl (ev_move (v := (i64 ((k : Int) + 1))) rfl) <| rN ?_
         have hm51 := Mem.drop ([(b5_1, .cells (segs [[(i64 ((ps.getD k write0).at_))], ((ps.getD k write0).b).map u8]) 104 (0, 0))]) _ (Mem.pick Hs49 [_] _ hm49)
         have hm52 := (Mem.pick2 Hs49 [_] Hp _ hm51)
         have hm53 := (Mem.pick Hp Hs49 _ hm52)
         have hm54 := (Mem.pick2 Hs49 Hp [_] _ hm53)
         exact ⟨⟨(k + 1), Hs49, oM, (GrowK.cast g49 (crash_step hn46 (cut_1 hc47))), s0, s1, s10, s15, s16, rfl, hm54⟩, meas rfl z17 oM oM⟩
       · -- false
         have hc47p := ne_of_beq_false hc47
         refine sR <| rw_q rfl (ev_u8_eql (b := 2#8) rfl rfl) <| rw_q rfl (ev_assign (v := (bl ((((picksB qs).getD n46 0) % 3#8) == 2#8))) rfl) <| rN ?_
         refine cw_cond rfl (fun hc55 => ?_) (fun hc55 => ?_)
         · -- true
           have hc55p := eq_of_beq hc55
           refine cw_region <| rw_q rfl (ev_move (v := (u8 ((picksB qs).getD n46 0))) rfl) <| rw_q rfl (ev_u8_quo (b := 3#8) rfl rfl (by decide)) <| rw_q rfl (ev_conv_u8_i64 ⟨_, uT5⟩ uT3 rfl) <| rw_q rfl (ev_i64_rem (b := 64) rfl rfl oM oM oM) <| rw_q rfl (ev_assign (v := (i64 (((((picksB qs).getD n46 0) / 3#8).toNat : Int) % 64))) rfl) ?_
           refine rw_nil (kBlk_normal ?_)
           refine cw_draw [(0, false), (1, false), (2, false), (3, false), (4, false), (5, false), (6, false), (7, false), (8, false), (9, false), (10, false)] 11 (by kernel_rfl) <| dM rfl rfl s0 <| dw_q rfl rfl (fun _ _hx => ev_nilCheck rfl) <| dw_q rfl rfl (fun _ _hx => ev_fa (r := 0) uT94 rfl (by first | rfl | omega) ti40 rfl rfl) <| dw_q (v := vl) rfl rfl (fun _ _hx => ev_load1 uT40 rfl rfl (hm45.ext _hx).h1 rfl) <| dw_q rfl rfl (fun _ _hx => ev_fa (r := 0) uT104 rfl (by first | rfl | omega) ti3 rfl rfl) ?_
           refine dw_q (v := (i64 ((ps.getD k write0).at_))) rfl rfl (fun _ _hx => ev_load_segv (v := (i64 ((ps.getD k write0).at_))) [] [((ps.getD k write0).b).map u8] uT3 rfl rfl (hm45.ext _hx).h0 fl_nil) <| dw_q rfl rfl (fun _ _hx => ev_indexAddr_rk (i := (ps.getD k write0).at_) (gk.rd (Mem.pick [_, _] Hk _ (hm45.ext _hx))) uT40 ti83 rfl rfl oM sL) <| dw_q rfl rfl (fun _ _hx => ev_move (v := (i64 (((((picksB qs).getD n46 0) / 3#8).toNat : Int) % 64))) rfl) <| dw_q rfl rfl (fun _ _hx => ev_slice_elkP (i := (ps.getD k write0).at_) (j := ((((picksB qs).getD n46 0) / 3#8).toNat : Int) % 64) (gk.rd (Mem.pick [_, _] Hk _ (hm45.ext _hx))) sL rfl uT83 ti5 rfl rfl sL sL) <| dw_q rfl rfl (fun _ _hx => ev_fa (r := 1) uT104 rfl (by first | rfl | omega) ti83 rfl rfl) <| dw_q rfl rfl (fun _ _hx => ev_slice_sla (i := 0) (j := 64) uT83 ti5 rfl (optI_none _ _) (optI_none _ _) oM sL sL) ?_
           refine dw_nil (fun w56 _ew56 => ?_)
           have hm56 := hm45.ext _ew56
           refine rw_c rfl (or_copy_elk (Hs := Hk) (H := [(b5_1, .cells (segs [[(i64 ((ps.getD k write0).at_))], ((ps.getD k write0).b).map u8]) 104 (0, 0)), (bd, .cells #[vl, vp] 94 (0, 0))] ++ (Hp ++ ([]))) (l := (crashK ls ps (picksB qs) k)) (i := (ps.getD k write0).at_) (j := ((((picksB qs).getD n46 0) / 3#8).toNat : Int) % 64) (Mem.pick [_, _] Hk _ hm56) gk sL rfl rfl (Rd.segA [[(i64 ((ps.getD k write0).at_))]] [] hm56.h0 (fl_cons (n := 1) (m := 0) (k := 1) rfl fl_nil rfl) sL (by decide) (by decide)) sL sL sL uT23 ti5 u8_one) ?_
           rintro _ w57 ⟨rfl, Hs57, hm57, g57⟩
           replace g57 : GrowK (encA u8) 64 83 vl ((crashK ls ps (picksB qs) k).set (((ps.getD k write0).at_ : Int).toNat) (((ps.getD k write0).b).take ((((((picksB qs).getD n46 0) / 3#8).toNat : Int) % 64 : Int).toNat) ++ ((crashK ls ps (picksB qs) k).getD (((ps.getD k write0).at_ : Int).toNat) []).drop ((((((picksB qs).getD n46 0) / 3#8).toNat : Int) % 64 : Int).toNat))) Hs57 := g57
           refine rw_nil (kBlk_normal ?_)
           refine CW.abs (fun g => g 0 = (ptr bd 0) ∧ g 1 = vq ∧ g 4 = (i64 (k : Int)) ∧ g 5 = (ptr b5_1 0) ∧ g 6 = (u8 ((picksB qs).getD n46 0)) ∧ g 7 = (i64 (((((picksB qs).getD n46 0) / 3#8).toNat : Int) % 64)) ∧ g 10 = (bl ((qs.length : Int) == 0)) ∧ g 15 = vp ∧ g 16 = (i64 (ps.length : Int)) ∧ g 17 = (i64 (k : Int)) ∧ g 18 = (bl (decide ((k : Int) < (ps.length : Int)))) ∧ g 30 = (u8 (((picksB qs).getD n46 0) % 3#8)) ∧ g 31 = (bl ((((picksB qs).getD n46 0) % 3#8) == 1#8)) ∧ g 33 = (bl ((((picksB qs).getD n46 0) % 3#8) == 2#8)) ∧ True) ⟨s0, s1, rfl, rfl, rfl, rfl, s10, s15, s16, s17, rfl, rfl, rfl, rfl, trivial⟩ ?_
           rintro fr58 ⟨s0, s1, s4, s5, s6, s7, s10, s15, s16, s17, s18, s30, s31, s33, _⟩
           refine cw_region <| rw_q rfl (ev_i64_add (b := 1) s17 rfl oM oM) <| rw_q rfl (ev_move (v := (i64 ((k : Int) + 1))) rfl) <| rN ?_
           have hm59 := Mem.drop ([(b5_1, .cells (segs [[(i64 ((ps.getD k write0).at_))], ((ps.getD k write0).b).map u8]) 104 (0, 0))]) _ (Mem.pick Hs57 [_] _ hm57)
           have hm60 := (Mem.pick2 Hs57 [_] Hp _ hm59)
           have hm61 := (Mem.pick Hp Hs57 _ hm60)
           have hm62 := (Mem.pick2 Hs57 Hp [_] _ hm61)
           exact ⟨⟨(k + 1), Hs57, oM, (GrowK.cast g57 (crash_step hn46 (cut_2 hc47 hc55))), s0, s1, s10, s15, s16, rfl, hm62⟩, meas rfl z17 oM oM⟩
         · -- false
           have hc55p := ne_of_beq_false hc55
           refine cw_skip (kBlk_normal ?_)
           refine cw_draw [(0, false), (1, false), (2, false), (3, false), (4, false), (5, false), (6, false), (7, false), (8, false), (9, false), (10, false)] 11 (by kernel_rfl) <| dM rfl rfl s0 <| dw_q rfl rfl (fun _ _hx => ev_nilCheck rfl) <| dw_q rfl rfl (fun _ _hx => ev_fa (r := 0) uT94 rfl (by first | rfl | omega) ti40 rfl rfl) <| dw_q (v := vl) rfl rfl (fun _ _hx => ev_load1 uT40 rfl rfl (hm45.ext _hx).h1 rfl) <| dw_q rfl rfl (fun _ _hx => ev_fa (r := 0) uT104 rfl (by first | rfl | omega) ti3 rfl rfl) ?_
           refine dw_q (v := (i64 ((ps.getD k write0).at_))) rfl rfl (fun _ _hx => ev_load_segv (v := (i64 ((ps.getD k write0).at_))) [] [((ps.getD k write0).b).map u8] uT3 rfl rfl (hm45.ext _hx).h0 fl_nil) <| dw_q rfl rfl (fun _ _hx => ev_indexAddr_rk (i := (ps.getD k write0).at_) (gk.rd (Mem.pick [_, _] Hk _ (hm45.ext _hx))) uT40 ti83 rfl rfl oM sL) <| dw_q rfl rfl (fun _ _hx => ev_move (v := (i64 0)) rfl) <| dw_q rfl rfl (fun _ _hx => ev_slice_elkP (i := (ps.getD k write0).at_) (j := 0) (gk.rd (Mem.pick [_, _] Hk _ (hm45.ext _hx))) sL rfl uT83 ti5 rfl rfl sL sL) <| dw_q rfl rfl (fun _ _hx => ev_fa (r := 1) uT104 rfl (by first | rfl | omega) ti83 rfl rfl) <| dw_q rfl rfl (fun _ _hx => ev_slice_sla (i := 0) (j := 64) uT83 ti5 rfl (optI_none _ _) (optI_none _ _) oM sL sL) ?_
           refine dw_nil (fun w63 _ew63 => ?_)
           have hm63 := hm45.ext _ew63
           refine rw_c rfl (or_copy_elk (Hs := Hk) (H := [(b5_1, .cells (segs [[(i64 ((ps.getD k write0).at_))], ((ps.getD k write0).b).map u8]) 104 (0, 0)), (bd, .cells #[vl, vp] 94 (0, 0))] ++ (Hp ++ ([]))) (l := (crashK ls ps (picksB qs) k)) (i := (ps.getD k write0).at_) (j := 0) (Mem.pick [_, _] Hk _ hm63) gk sL rfl rfl (Rd.segA [[(i64 ((ps.getD k write0).at_))]] [] hm63.h0 (fl_cons (n := 1) (m := 0) (k := 1) rfl fl_nil rfl) sL (by decide) (by decide)) sL sL sL uT23 ti5 u8_one) ?_
           rintro _ w64 ⟨rfl, Hs64, hm64, g64⟩
           replace g64 : GrowK (encA u8) 64 83 vl ((crashK ls ps (picksB qs) k).set (((ps.getD k write0).at_ : Int).toNat) (((ps.getD k write0).b).take ((0 : Int).toNat) ++ ((crashK ls ps (picksB qs) k).getD (((ps.getD k write0).at_ : Int).toNat) []).drop ((0 : Int).toNat))) Hs64 := g64
           refine rw_nil (kBlk_normal ?_)
           refine CW.abs (fun g => g 0 = (ptr bd 0) ∧ g 1 = vq ∧ g 4 = (i64 (k : Int)) ∧ g 5 = (ptr b5_1 0) ∧ g 6 = (u8 ((picksB qs).getD n46 0)) ∧ g 7 = (i64 0) ∧ g 10 = (bl ((qs.length : Int) == 0)) ∧ g 15 = vp ∧ g 16 = (i64 (ps.length : Int)) ∧ g 17 = (i64 (k : Int)) ∧ g 18 = (bl (decide ((k : Int) < (ps.length : Int)))) ∧ g 30 = (u8 (((picksB qs).getD n46 0) % 3#8)) ∧ g 31 = (bl ((((picksB qs).getD n46 0) % 3#8) == 1#8)) ∧ g 33 = (bl ((((picksB qs).getD n46 0) % 3#8) == 2#8)) ∧ True) ⟨s0, s1, rfl, rfl, rfl, rfl, s10, s15, s16, s17, rfl, rfl, rfl, rfl, trivial⟩ ?_
           rintro fr65 ⟨s0, s1, s4, s5, s6, s7, s10, s15, s16, s17, s18, s30, s31, s33, _⟩
           refine cw_region <| rw_q rfl (ev_i64_add (b := 1) s17 rfl oM oM) <| rw_q rfl (ev_move (v := (i64 ((k : Int) + 1))) rfl) <| rN ?_
           have hm66 := Mem.drop ([(b5_1, .cells (segs [[(i64 ((ps.getD k write0).at_))], ((ps.getD k write0).b).map u8]) 104 (0, 0))]) _ (Mem.pick Hs64 [_] _ hm64)
           have hm67 := (Mem.pick2 Hs64 [_] Hp _ hm66)
           have hm68 := (Mem.pick Hp Hs64 _ hm67)
           have hm69 := (Mem.pick2 Hs64 Hp [_] _ hm68)
           exact ⟨⟨(k + 1), Hs64, oM, (GrowK.cast g64 (crash_step hn46 (cut_0 hc47 hc55))), s0, s1, s10, s15, s16, rfl, hm69⟩, meas rfl z17 oM oM⟩
     · -- false
       have hc43p := of_decide_eq_false hc43
       refine cw_exit ?_
       refine kThen_exit (kThen_exit (kBlk_hit ?_))
       refine cw_region <| rM rfl s0 <| rw_q rfl (ev_nilCheck rfl) <| rw_q rfl (ev_fa (r := 1) uT94 rfl (by first | rfl | omega) ti92 rfl rfl) <| rw_n (or_store1 ti92 rfl rfl rfl hm42.h0 (by simp) (.inl (Nat.zero_le _))) ?_
       rintro _ w70 uq70
       have hm70 : Mem w70 R ([(bd, .cells #[vl, (Value.slice none 0 0)] 94 (0, 0))] ++ (Hk ++ (Hp ++ ([])))) := hm42.upd0 uq70
       refine rw_nil <| fnPost_normal [] trivial ?_
       have hm71 := Mem.drop Hp _ (Mem.pick2 [_] Hk Hp _ hm70)
       exact ⟨Hk, rfl, GrowK.cast gk (by unfold crashB; rw [show k = ps.length by omega]), (by
         have hT := hm71
         try simp only [List.append_assoc, List.cons_append, List.nil_append, List.append_nil] at hT ⊢
         exact hT)⟩


end Go.Proofs.Ytfbnhoolkajebaa
