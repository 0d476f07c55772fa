/- Contracts of the disk: new, there, write. Conditions: none beyond those that each theorem states. -/
import Derived.Test.YtfbnhoolkajebaaDk1
namespace Go.Proofs.Ytfbnhoolkajebaa
set_option linter.unusedVariables false
set_option linter.unusedSimpArgs false

set_option maxHeartbeats 1000000 in
theorem c_dnew (n : Int) (w0 : World)  (hn : 1 ≤ n ∧ n ≤ 65536) : CallsR Try.prog 13 #[(i64 n)] w0 (fun r w1 => ∃ bd vl Hl, r = .tuple #[ptr bd 0, i64 0] ∧ GrowK (encA u8) 64 83 vl (List.replicate n.toNat (List.replicate 64 0)) Hl ∧ Mem w1 (restOf w0) ([(bd, .cells #[vl, .slice none 0 0] 94 (0, 0))] ++ Hl)) := by
 refine callsR_of_cw (args := [(i64 n)]) Try.func13 rfl Try.ntmps13 Try.results13 rfl ?_
 have hm0 : Mem w0 (restOf w0) [] := Mem.of_world w0
 refine sR <| rw_q rfl (ev_assign (v := (Value.pointer none)) rfl) <| rw_q rfl (ev_assign (v := (i64 0)) rfl) ?_
 refine rN (cw_seq (sR ?_))
 refine rw_q rfl (ev_move (v := (i64 n)) rfl) <| rw_q rfl (ev_i64_lss (b := 1) rfl rfl) <| rw_q rfl (ev_move (v := (bl (decide (n < 1)))) rfl) ?_
 have hd1 : (decide (n < 1)) = false := decide_eq_false oM
 refine rw_gyq (s := 6) rfl rfl hd1 rfl (ev_move (v := (i64 n)) rfl) <| rw_gyq (s := 6) rfl rfl hd1 rfl (ev_i64_gtr (b := 65536) rfl rfl) <| rw_q rfl (ev_pick_fk rfl hd1 rfl) <| rN ?_
 have hd2 : (decide (65536 < n)) = false := decide_eq_false oM
 refine cw_cond_f rfl hd2 ?_
 refine cw_skip (kThen_normal (sR ?_))
 refine rw_q rfl (ev_move (v := (i64 n)) rfl) <| rw_c rfl (or_makeSlice hm0 uT40 ti83 rfl rfl oM oM oM oM) ?_
 rintro _ w3 ⟨b11, rfl, _ew3, hm3⟩
 rw [rep_cellsK (f := u8) (a := 0) (k := 64) rfl (by decide)] at hm3
 obtain ⟨Hs3, hm3, g3⟩ : ∃ Hs, Mem w3 (restOf w0) (Hs ++ []) ∧ GrowK (encA u8) 64 83 (slc b11 0 ((n : Int).toNat) ((n : Int).toNat)) (List.replicate ((n : Int).toNat) (List.replicate 64 (0 : BitVec 8))) Hs := ⟨_, hm3, GrowK.made⟩
 refine rw_q rfl (ev_build_pt (c := #[(slc b11 0 ((n : Int).toNat) ((n : Int).toNat)), (Value.slice none 0 0)]) (pl := [(0, 1), (1, 1)]) ti94 uT94 (by kernel_rfl) (pm_cons (i := 0) (v := (slc b11 0 ((n : Int).toNat) ((n : Int).toNat))) (cs := #[(slc b11 0 ((n : Int).toNat) ((n : Int).toNat))]) rfl (one_cells g3.one) pm_nil) (by kernel_rfl)) <| rw_c rfl (or_boxX (cs := #[(slc b11 0 ((n : Int).toNat) ((n : Int).toNat)), (Value.slice none 0 0)]) hm3 rfl) ?_
 rintro _ w4 ⟨b13, rfl, _ew4, hm4⟩
 refine rw_q rfl (ev_assign (v := (ptr b13 0)) rfl) <| rw_q rfl (ev_assign (v := (i64 0)) rfl) ?_
 refine rN (cw_ret ?_)
 refine fnPost_ret [(ptr b13 0), (i64 0)] ⟨rfl, rfl, trivial⟩ ?_
 exact ⟨b13, (slc b11 0 ((n : Int).toNat) ((n : Int).toNat)), Hs3, rfl, GrowK.cast g3 (by simp), (by
   have hT := hm4
   try simp only [List.append_assoc, List.cons_append, List.nil_append, List.append_nil] at hT ⊢
   exact hT)⟩

theorem c_there (bd : Nat) (vl : Value) (ls : List (List (BitVec 8))) (vp : Value) (n : Int) (w0 : World)  (hd : blks w0 bd = some (.cells #[vl, vp] 94 (0, 0))) (hrl : RdK (blks w0) (encA u8) 64 vl ls) (hll : ls.length ≤ 65536) : CallsR Try.prog 67 #[(ptr bd 0), (i64 n)] w0 (fun r w1 => r = (bl (inB ls n)) ∧ Ext w0 w1) := by
 refine callsR_of_cw (args := [(ptr bd 0), (i64 n)]) Try.func67 rfl Try.ntmps67 Try.results67 rfl ?_
 have hm0 : Mem w0 (restOf w0) [] := Mem.of_world w0
 refine sR <| rw_q rfl (ev_assign (v := (bl false)) rfl) ?_
 refine rN (sR ?_)
 refine rw_q rfl (ev_move (v := (i64 n)) rfl) <| rw_q rfl (ev_i64_geq (b := 0) rfl rfl) <| rw_q rfl (ev_move (v := (bl (decide (0 ≤ n)))) rfl) ?_
 rcases Bool.eq_false_or_eq_true (decide (0 ≤ n)) with hb1 | hb1
 · -- true
   have hb1p := of_decide_eq_true hb1
   refine rw_gyq (s := 7) rfl rfl hb1 rfl (ev_move (v := (i64 n)) rfl) <| rw_gyq (s := 7) rfl rfl hb1 rfl (ev_move (v := (ptr bd 0)) rfl) <| rw_gyq (s := 7) rfl rfl hb1 rfl (ev_nilCheck rfl) <| rw_gyq (s := 7) rfl rfl hb1 rfl (ev_fa (r := 0) uT94 rfl (by first | rfl | omega) ti40 rfl rfl) <| rw_gyq (s := 7) rfl rfl hb1 rfl (ev_load1 uT40 rfl rfl (hm0.rest _ _ hd) rfl) <| rw_gyq (s := 7) rfl rfl hb1 rfl (ev_len_rk (RdK.ofRest hrl hm0) uT40 rfl) ?_
   refine rw_gyq (s := 7) rfl rfl hb1 rfl (ev_i64_lss rfl rfl) <| rw_q rfl (ev_pick_tk rfl hb1 rfl) <| rw_q rfl (ev_assign (v := (bl (decide (n < (ls.length : Int))))) rfl) ?_
   refine rN (cw_ret ?_)
   refine fnPost_ret [(bl (decide (n < (ls.length : Int))))] ⟨rfl, trivial⟩ ?_
   exact ⟨congrArg bl (show _ = inB ls n from by unfold inB; rw [hb1, Bool.true_and]), hm0.toExt⟩
 · -- false
   have hb1p := of_decide_eq_false hb1
   refine rw_gn (s := 7) rfl rfl hb1 rfl <| rw_gn (s := 7) rfl rfl hb1 rfl <| rw_gn (s := 7) rfl rfl hb1 rfl <| rw_gn (s := 7) rfl rfl hb1 rfl <| rw_gn (s := 7) rfl rfl hb1 rfl <| rw_gn (s := 7) rfl rfl hb1 rfl ?_
   refine rw_gn (s := 7) rfl rfl hb1 rfl <| rw_q rfl (ev_pick_fk rfl hb1 rfl) <| rw_q rfl (ev_assign (v := (bl false)) rfl) ?_
   refine rN (cw_ret ?_)
   refine fnPost_ret [(bl false)] ⟨rfl, trivial⟩ ?_
   exact ⟨congrArg bl (show false = inB ls n from by unfold inB; rw [hb1]; rfl), hm0.toExt⟩

set_option maxHeartbeats 1000000 in
theorem c_dwrite (bd : Nat) (vl : Value) (ls : List (List (BitVec 8))) (Hl : List (Nat × Obj)) (vp : Value) (ps : List WriteT) (Hp : List (Nat × Obj)) (n : Int) (b : List (BitVec 8)) (w0 : World) (R : Rest) (hm0 : Mem w0 R ([(bd, .cells #[vl, vp] 94 (0, 0))] ++ (Hl ++ (Hp ++ ([]))))) (gl : GrowK (encA u8) 64 83 vl ls Hl) (gp : GrowK encW 65 104 vp ps Hp) (hll : ls.length ≤ 65536) (hpl : ps.length ≤ 1048576) (hbl : b.length = 64) : CallsR Try.prog 45 #[(ptr bd 0), (i64 n), (agg u8 b)] w0 (fun r w1 => ∃ vp2 Hp2, r = i64 (errB ls n) ∧ GrowK encW 65 104 vp2 (pushB ls ps n b) Hp2 ∧ Mem w1 R ([(bd, .cells #[vl, vp2] 94 (0, 0))] ++ (Hl ++ (Hp2 ++ ([]))))) := by
 refine callsR_of_cw (args := [(ptr bd 0), (i64 n), (agg u8 b)]) Try.func45 rfl Try.ntmps45 Try.results45 rfl <| sR <| rw_c rfl (or_box_agg (f := u8) (l := b) hm0 rfl) ?_
 rintro _ w1 ⟨b5, rfl, _ew1, hm1⟩
 refine rw_q rfl (ev_assign (v := (i64 0)) rfl) ?_
 refine rN (cw_seq (sR ?_))
 refine rw_q rfl (ev_move (v := (ptr bd 0)) rfl) <| rw_q rfl (ev_move (v := (i64 n)) rfl) <| rw_c rfl (opR_call Try.func67 bd67 nm67 (args2 rfl rfl) (c_there bd vl ls vp n _ hm1.h1 (gl.rd (Mem.pick [_, _] Hl _ hm1)) sL)) ?_
 rintro _ w2 ⟨rfl, _ew2⟩
 have hm2 := hm1.ext _ew2
 refine rw_q rfl (ev_not rfl) <| rN ?_
 refine cw_cond rfl (fun hc4 => ?_) (fun hc4 => ?_)
 · -- true
   have hc4n : (inB ls n) = false := by simpa using hc4
   refine sR <| rw_q rfl (ev_assign (v := (i64 2)) rfl) ?_
   refine rN (cw_ret (kThen_ret ?_))
   refine fnPost_ret [(i64 2)] ⟨rfl, trivial⟩ ?_
   have hm5 := Mem.drop ([(b5, .cells (cl u8 b) 83 (0, 0))]) _ hm2
   have hin : inB ls n = false := (by simpa using hc4)
   exact ⟨vp, Hp, (by unfold errB; rw [hin]; rfl), GrowK.cast gp (by unfold pushB; rw [hin]; rfl), (by
     have hT := hm5
     try simp only [List.append_assoc, List.cons_append, List.nil_append, List.append_nil] at hT ⊢
     exact hT)⟩
 · -- false
   have hc4n : (inB ls n) = true := by simpa using hc4
   refine cw_skip (kThen_normal (cw_seq ?_))
   refine cw_drawE (by kernel_rfl) ?_
   have hm6 := (Mem.pick [_, _] Hl _ hm2)
   have hm7 := (Mem.pick2 Hl [_] [_] _ hm6)
   have hm8 := (Mem.pick2 [_] Hl [_] _ hm7)
   have hm9 := (Mem.pick2 [_, _] Hl Hp _ hm8)
   have hFM10 : Mem w2 R ((Hp ++ ([])) ++ ([(b5, .cells (cl u8 b) 83 (0, 0)), (bd, .cells #[vl, vp] 94 (0, 0))] ++ (Hl ++ ([])))) := (by
     have hT := hm9
     try simp only [List.append_assoc, List.cons_append, List.nil_append, List.append_nil] at hT ⊢
     exact hT)
   obtain ⟨RM10, hRM10⟩ : ∃ R2, R2 = Rest.add R ([(b5, .cells (cl u8 b) 83 (0, 0)), (bd, .cells #[vl, vp] 94 (0, 0))] ++ (Hl ++ ([]))) := ⟨_, rfl⟩
   have M100 : Mem w2 RM10 (Hp ++ ([])) := by rw [hRM10]; exact Mem.give hFM10
   have ho11 : RM10.blk b5 = some (.cells (cl u8 b) 83 (0, 0)) := by rw [hRM10]; exact Mem.addOwn hFM10 (List.mem_append_left _ (List.Mem.head _))
   have ho12 : RM10.blk bd = some (.cells #[vl, vp] 94 (0, 0)) := by rw [hRM10]; exact Mem.addOwn hFM10 (List.mem_append_left _ (List.Mem.tail _ (List.Mem.head _)))
   have hg13 : RdK RM10.blk (encA u8) 64 vl ls := gl.rdIn (fun p hp => by rw [hRM10]; exact Mem.addOwn hFM10 (List.mem_append_right _ (List.mem_append_left _ hp)))
   refine re_planM M100 [(0, false), (1, false), (2, false), (3, false), (4, false), (5, false), (6, false), (7, false), (8, true), (9, true)] 10 rfl (by kernel_rfl) <| dk_q rfl rfl (fun w _H _hx => ev_move (v := (ptr bd 0)) rfl) <| dk_q rfl rfl (fun w _H _hx => ev_move (v := (ptr bd 0)) rfl) <| dk_q rfl rfl (fun w _H _hx => ev_nilCheck rfl) <| dk_q rfl rfl (fun w _H _hx => ev_fa (r := 1) uT94 rfl (by first | rfl | omega) ti92 rfl rfl) <| dk_q (v := vp) rfl rfl (fun w _H _hx => ev_load1 uT92 rfl rfl (_hx.rest _ _ ho12) rfl) ?_
   refine dk_q rfl rfl (fun w _H _hx => ev_move (v := (i64 n)) rfl) <| dk_q (v := (agg u8 b)) rfl rfl (fun w _H _hx => ev_loadA uT83 rfl ti83 rfl (_hx.rest _ _ ho11) (by rw [size_cl]; first | omega | (simp only [List.length_set, List.length_append, List.length_replicate, List.length_map, List.length_cons, List.length_nil]; omega) | (simp; done) | (simp; omega) | decide)) <| dk_q rfl rfl (fun w _H _hx => ev_build_pt (c := (segs [[(i64 n)], b.map u8])) (pl := [(0, 1), (1, 64)]) ti104 uT104 (by kernel_rfl) (pm_cons (i := 0) (v := (i64 n)) (cs := #[(i64 n)]) rfl rfl (pm_cons (i := 1) (v := (agg u8 b)) (cs := (cl u8 b)) rfl rfl pm_nil)) (fillA_segs [] [[(i64 0)]] [[(i64 n)]] [(List.replicate 64 0).map u8] rfl rfl fl_nil (fl_cons (n := 1) (m := 0) (k := 1) rfl fl_nil rfl) (fl_cons (n := 1) (m := 0) (k := 1) rfl fl_nil rfl) (fillA_segs [[(i64 n)]] [(List.replicate 64 0).map u8] [b.map u8] [] rfl (segs_one1 u8 _).symm (fl_cons (n := 1) (m := 0) (k := 1) rfl fl_nil rfl) (fl_cons (n := 64) (m := 0) (k := 64) (by first | rfl | (rw [List.length_map]; first | omega | (simp; done) | (simp; omega))) fl_nil rfl) (fl_cons (n := 64) (m := 0) (k := 64) (by first | rfl | (rw [List.length_map]; first | omega | (simp; done) | (simp; omega))) fl_nil rfl) fillA_nil))) ?_
   refine dk_c rfl rfl (fun w14 _ew14 => ?_)
   have hm14 := M100.ext _ew14
   refine OpR.mono (or_buildSlice_k1 (cs := (segs [[(i64 n)], b.map u8])) hm14 uT92 ti104 rfl rfl rfl (by rw [segs_size]; simp; omega)) ?_
   rintro _ w15 ⟨b19, rfl, _ew15, hm15⟩
   have hm15 : Mem w15 RM10 ([(b19, .cells (segs [[(i64 n)], b.map u8]) 104 (0, 0))] ++ (Hp ++ ([]))) := hm15
   refine ⟨⟨_, hm15⟩, ?_⟩
   refine dk_c rfl rfl (fun w16 _ew16 => ?_)
   have hm16 := hm15.ext _ew16
   refine OpR.mono (or_appendK (enc := encW) (k := 65) (Hs := Hp) (H := [(b19, .cells (segs [[(i64 n)], b.map u8]) 104 (0, 0))]) (Mem.pick [_] Hp _ hm16) gp rfl rfl (RdK.ofOne (enc := encW) (k := 65) (a := (WriteT.mk n b)) hm16.h0 rfl (encW_len oM)) uT92 uT92 ti104 rfl rfl (fun a _ => encW_one a) sL sL) ?_
   rintro sv17 w17 ⟨Hs17, hm17, g17⟩
   replace g17 : GrowK encW 65 104 sv17 (ps ++ ([(WriteT.mk n b)])) Hs17 := g17
   refine ⟨⟨_, hm17⟩, ?_⟩
   refine dw_nil (fun w18 _ew18 => ?_)
   have hm18 := hm17.ext _ew18
   have hX19 := hm18
   rw [hRM10] at hX19
   have hm20 : Mem w18 R (Hs17 ++ ([(b19, .cells (segs [[(i64 n)], b.map u8]) 104 (0, 0)), (b5, .cells (cl u8 b) 83 (0, 0)), (bd, .cells #[vl, vp] 94 (0, 0))] ++ (Hl ++ ([])))) := (by
     have hT := Mem.back hFM10 hX19
     try simp only [List.append_assoc, List.cons_append, List.nil_append, List.append_nil] at hT ⊢
     exact hT)
   refine rw_q rfl (ev_nilCheck rfl) <| rw_q rfl (ev_fa (r := 1) uT94 rfl (by first | rfl | omega) ti92 rfl rfl) <| rw_n (or_store1 ti92 rfl rfl g17.one ((Mem.pick2 Hs17 [_, _] [_] _ hm20)).h0 (by simp) (.inl (Nat.zero_le _))) ?_
   rintro _ w21 uq21
   have hm21 : Mem w21 R ([(bd, .cells #[vl, sv17] 94 (0, 0))] ++ (Hs17 ++ ([(b19, .cells (segs [[(i64 n)], b.map u8]) 104 (0, 0)), (b5, .cells (cl u8 b) 83 (0, 0))] ++ (Hl ++ ([]))))) := Mem.upd0 (Mem.pick2 Hs17 [_, _] [_] _ hm20) uq21
   refine rN (sR ?_)
   refine rw_q rfl (ev_assign (v := (i64 0)) rfl) ?_
   refine rN (cw_ret ?_)
   refine fnPost_ret [(i64 0)] ⟨rfl, trivial⟩ ?_
   have hm22 := Mem.drop ([(b19, .cells (segs [[(i64 n)], b.map u8]) 104 (0, 0))]) _ (Mem.pick2 [_] Hs17 [_] _ hm21)
   have hm23 := Mem.drop ([(b5, .cells (cl u8 b) 83 (0, 0))]) _ (Mem.pick2 [_] Hs17 [_] _ hm22)
   have hm24 := (Mem.pick [_] Hs17 _ hm23)
   have hm25 := (Mem.pick2 Hs17 [_] Hl _ hm24)
   have hm26 := (Mem.pick2 Hl Hs17 [_] _ hm25)
   have hin : inB ls n = true := (by simpa using hc4)
   exact ⟨sv17, Hs17, (by unfold errB; rw [hin]; rfl), GrowK.cast g17 (by unfold pushB; rw [hin]; rfl), (by
     have hT := hm26
     try simp only [List.append_assoc, List.cons_append, List.nil_append, List.append_nil] at hT ⊢
     exact hT)⟩


end Go.Proofs.Ytfbnhoolkajebaa
