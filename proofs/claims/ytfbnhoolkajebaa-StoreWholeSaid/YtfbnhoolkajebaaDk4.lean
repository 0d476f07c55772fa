/- Contracts of the disk: read. Conditions: none beyond those that each theorem states. -/
import Derived.Test.YtfbnhoolkajebaaDk3
namespace Go.Proofs.Ytfbnhoolkajebaa
set_option linter.unusedVariables false
set_option linter.unusedSimpArgs false

theorem c_back (vp : Value) (ps : List WriteT) (w0 : World)  (hrp : RdK (blks w0) encW 65 vp ps) : CallsR Try.prog 73 #[vp] w0 (fun r w1 => ∃ b1, r = (Value.func (.func 88) #[] #[ptr b1 0]) ∧ Mem w1 (restOf w0) [(b1, .cells #[vp] 92 (0, 0))]) := by
 refine callsR_of_cw (args := [vp]) Try.func73 rfl Try.ntmps73 Try.results73 rfl ?_
 have hm0 : Mem w0 (restOf w0) [] := Mem.of_world w0
 refine sR <| rw_c rfl (or_box_1 (v := vp) hm0 (RdK.one (RdK.ofRest hrp hm0)) rfl) ?_
 rintro _ w1 ⟨b1, rfl, _ew1, hm1⟩
 refine rA rfl (v := Value.nilFunc) rfl ?_
 refine rN (sR ?_)
 refine rw_q rfl (ev_makeFunc (args1 rfl)) <| rw_q rfl (ev_assign (v := (Value.func (.func 88) #[] #[(ptr b1 0)])) rfl) ?_
 refine rN (cw_ret ?_)
 refine fnPost_ret [(Value.func (.func 88) #[] #[(ptr b1 0)])] ⟨rfl, trivial⟩ ?_
 exact ⟨b1, rfl, hm1⟩

theorem c_bw (l b1 : Nat) (vp : Value) (ps : List WriteT) (Hj : List (Nat × Obj)) (ok : Nat → Prop) (Stop : Nat → World → Prop) (w0 : World) (R : Rest) (hm0 : Mem w0 R (Hj ++ ([]))) (hb : ∀ W, Mem W R Hj → blks W b1 = some (.cells #[vp] 92 (0, 0))) (hr : ∀ W, Mem W R Hj → RdK (blks W) encW 65 vp ps) (hpl : ps.length ≤ 1048576) (hround : ∀ i, i < ps.length → ∀ W, Mem W R Hj → YieldR Try.prog l [i64 (i : Int), (Value.agg (segs [[i64 (ps.getD i write0).at_], (ps.getD i write0).b.map u8]))] W (fun r W1 => ∃ bo : Bool, r = bl bo ∧ (bo = true → Mem W1 R Hj ∧ ok i) ∧ (bo = false → Stop i W1))) : CallsR Try.prog 88 #[(Value.func (.yield l) #[] #[]), (ptr b1 0)] w0 (fun _ w1 => (Mem w1 R Hj ∧ ∀ i, i < ps.length → ok i) ∨ ∃ i, i < ps.length ∧ (∀ j, i < j → j < ps.length → ok j) ∧ Stop i w1) := by
 refine callsR_of_cw (args := [(Value.func (.yield l) #[] #[]), (ptr b1 0)]) Try.func88 rfl Try.ntmps88 Try.results88 rfl <| sR <| rw_q (v := vp) rfl (ev_load1 uT92 rfl rfl (hb _ (by simpa using hm0)) rfl) <| rw_q (v := (i64 (ps.length : Int))) rfl (ev_len_rk (hr _ (by simpa using hm0)) uT92 rfl) <| rw_q rfl (ev_i64_sub (b := 1) rfl rfl oM oM) <| rw_q rfl (ev_assign (v := (i64 ((ps.length : Int) - 1))) rfl) ?_
 refine rN (cw_block' ?_)
 refine cw_loop (fun g wv => ∃ (k : Nat), (k ≤ ps.length) ∧ (∀ j, k ≤ j → j < ps.length → ok j) ∧ g 0 = (Value.func (.yield l) #[] #[]) ∧ g 1 = (ptr b1 0) ∧ g 3 = (i64 ((k : Int) - 1)) ∧ Mem wv R (Hj ++ ([]))) (fun g wv => (RowKit.intOf (g 3) - (-1)).toNat) ?_ ?_
 · exact ⟨ps.length, (Nat.le_refl _), (fun j h1 h2 => absurd h2 oM), rfl, rfl, rfl, hm0⟩
 · rintro fr1 w2 ⟨k, hk, hok, s0, s1, s3, hm2⟩
   have z3 := s3
   refine cw_seq (sR ?_)
   refine rM rfl s3 <| rw_q rfl (ev_i64_geq (b := 0) rfl rfl) <| rN ?_
   refine cw_cond rfl (fun hc3 => ?_) (fun hc3 => ?_)
   · -- true
     have hc3p := of_decide_eq_true hc3
     obtain ⟨k1, hk1⟩ : ∃ k1 : Nat, (k : Int) - 1 = (k1 : Int) := ⟨k - 1, by omega⟩
     refine CW.abs (fun g => g 0 = (Value.func (.yield l) #[] #[]) ∧ g 1 = (ptr b1 0) ∧ g 3 = (i64 (k1 : Int)) ∧ g 8 = (bl (decide (0 ≤ ((k : Int) - 1)))) ∧ True) ⟨s0, s1, (Eq.trans s3 (congrArg i64 hk1)), rfl, trivial⟩ ?_
     rintro fr4 ⟨s0, s1, s3, s8, _⟩
     refine cw_skip (kThen_normal (cw_seq (cw_block (sR ?_))))
     refine rM rfl s0 <| rM rfl s3 <| rw_q (v := vp) rfl (ev_load1 uT92 rfl s1 (hb _ (by simpa using hm2)) rfl) <| rM rfl s3 <| rw_q rfl (ev_indexAddr_rk (i := (k1 : Int)) (hr _ (by simpa using hm2)) uT92 ti104 rfl rfl oM sL) <| rw_q (v := (Value.agg (segs [[(i64 ((ps.getD k1 write0).at_))], ((ps.getD k1 write0).b).map u8]))) rfl (ev_load_rkW (i := (k1 : Int)) (dflt := write0) (cs := (segs [[(i64 ((ps.getD k1 write0).at_))], ((ps.getD k1 write0).b).map u8])) (hr _ (by simpa using hm2)) sL uT104 rfl ti104 rfl rfl rfl) ?_
     refine rw_c rfl (or_yield (vs := [(i64 (k1 : Int)), (Value.agg (segs [[(i64 ((ps.getD k1 write0).at_))], ((ps.getD k1 write0).b).map u8]))]) rfl (args2 rfl rfl) (hround k1 oM _ (by simpa using hm2))) ?_
     rintro _ w5 ⟨bo, rfl, hT, hF⟩
     refine rw_q rfl (ev_not rfl) <| rN ?_
     refine cw_cond rfl (fun hc6 => ?_) (fun hc6 => ?_)
     · -- true
       have hc6n : bo = false := by simpa using hc6
       have hst := hF (by simpa using hc6)
       refine cw_ret ?_
       refine kBlk_ret (kThen_ret (kBlk_ret ?_))
       refine fnPost_ret [] trivial ?_
       exact .inr ⟨k1, by omega, fun j h1 h2 => hok j oM h2, hst⟩
     · -- false
       have hc6n : bo = true := by simpa using hc6
       obtain ⟨hmJ, hokJ⟩ := hT (by simpa using hc6)
       have hmJ2 : Mem w5 R (Hj ++ []) := by simpa using hmJ
       refine cw_skip (kBlk_normal (cw_region ?_))
       refine rM rfl s3 <| rw_q rfl (ev_i64_sub (b := 1) rfl rfl oM oM) <| rw_q rfl (ev_assign (v := (i64 ((k1 : Int) - 1))) rfl) <| rN ?_
       exact ⟨⟨k1, oM, (ok_step hok hk1 hokJ), s0, s1, rfl, hmJ2⟩, measD rfl z3 oM oM⟩
   · -- false
     have hc3p := of_decide_eq_false hc3
     refine cw_exit ?_
     refine kThen_exit (kThen_exit (kBlk_hit ?_))
     refine fnPost_normal [] trivial ?_
     exact .inl ⟨by simpa using hm2, fun i hi => hok i oM hi⟩

set_option maxHeartbeats 2000000 in
theorem c_dread (bd : Nat) (vl : Value) (ls : List (List (BitVec 8))) (vp : Value) (ps : List WriteT) (n : Int) (w0 : World)  (hd : blks w0 bd = some (.cells #[vl, vp] 94 (0, 0))) (hrl : RdK (blks w0) (encA u8) 64 vl ls) (hrp : RdK (blks w0) encW 65 vp ps) (hll : ls.length ≤ 65536) (hpl : ps.length ≤ 1048576) : CallsR Try.prog 55 #[(ptr bd 0), (i64 n)] w0 (fun r w1 => r = (Value.tuple #[(agg u8 (readB ls ps n)), (i64 (errB ls n))]) ∧ Ext w0 w1) := by
 refine callsR_of_cx (args := [(ptr bd 0), (i64 n)]) Try.func55 rfl Try.ntmps55 Try.results55 rfl ?_
 have hm0 : Mem w0 (restOf w0) [] := Mem.of_world w0
 refine cx_seq <| cw_region <| rw_c rfl (or_box_1 (v := (i64 n)) hm0 (i64_one _) rfl) ?_
 rintro _ w1 ⟨b3, rfl, _ew1, hm1⟩
 refine rw_c rfl (or_alloc_agg hm1 ti83) ?_
 rintro _ w2 ⟨b4, rfl, _ew2, hm2⟩
 refine rw_c rfl (or_alloc_1 hm2 rfl ti26) ?_
 rintro _ w3 ⟨b5, rfl, _ew3, hm3⟩
 refine rN <| cx_seq <| sR <| rw_q rfl (ev_move (v := (ptr bd 0)) rfl) <| rw_q (v := (i64 n)) rfl (ev_load1 uT3 rfl rfl hm3.h2 rfl) <| rw_c rfl (opR_call Try.func67 bd67 nm67 (args2 rfl rfl) (c_there bd vl ls vp n _ (hm3.rest _ _ hd) (RdK.ofRest hrl hm3) sL)) ?_
 rintro _ w4 ⟨rfl, _ew4⟩
 have hm4 := hm3.ext _ew4
 refine rw_q rfl (ev_not rfl) <| rN ?_
 refine cw_cond rfl (fun hc6 => ?_) (fun hc6 => ?_)
 · -- true
   have hc6n : (inB ls n) = false := by simpa using hc6
   refine sR <| rw_q rfl (ev_build_arr (ps := []) (c := (cl u8 (List.replicate 64 0))) ti83 uT83 ti5 (by simp) rfl) <| rw_n (or_store_agg (f := u8) (l := List.replicate 64 0) u8_one ti83 rfl rfl sL hm4.h1 (by rw [size_cl]; first | omega | (simp only [List.length_set, List.length_append, List.length_replicate, List.length_map, List.length_cons, List.length_nil]; omega) | (simp; done) | (simp; omega) | decide) rfl) ?_
   rintro _ w7 uq7
   have hm7 := hm4.upd1 uq7
   refine rw_n (or_store1 ti26 rfl rfl (i64_one _) hm7.h0 (by simp) (.inl (Nat.zero_le _))) ?_
   rintro _ w8 uq8
   have hm8 : Mem w8 (restOf w0) [(b5, .cells #[(i64 2)] 26 (0, 0)), (b4, .cells (cl u8 (List.replicate 64 0)) 83 (0, 0)), (b3, .cells #[(i64 n)] 3 (0, 0))] := hm7.upd0 uq8
   refine rN (cw_ret (kThen_ret ?_))
   refine fnPostX_ret [(agg u8 (List.replicate 64 0)), (i64 2)] ⟨⟨_, rfl, loadVar_run uT83 rfl ti83 hm8.h1 (by rw [size_cl]; first | omega | (simp only [List.length_set, List.length_append, List.length_replicate, List.length_map, List.length_cons, List.length_nil]; omega) | (simp; done) | (simp; omega) | decide)⟩, ⟨_, rfl, loadVar_run1 uT26 rfl hm8.h0 rfl⟩, trivial⟩ ?_
   have hin : inB ls n = false := by simpa using hc6
   exact ⟨by unfold readB errB; rw [hin]; rfl, hm8.toExt⟩
 · -- false
   have hc6n : (inB ls n) = true := by simpa using hc6
   have hin : inB ls n = true := by simpa using hc6
   have hin2 := inB_t hin; have hbl := encA_b hrl (show n.toNat < ls.length by omega)
   refine cw_skip (kThen_normal ?_)
   refine cx_seqx <| cx_seq <| cw_region <| rw_q rfl (ev_move (v := (ptr bd 0)) rfl) <| rw_q rfl (ev_nilCheck rfl) <| rw_q rfl (ev_fa (r := 1) uT94 rfl (by first | rfl | omega) ti92 rfl rfl) ?_
   refine rw_q (v := vp) rfl (ev_load1 uT92 rfl rfl (hm4.rest _ _ hd) rfl) <| rw_c rfl (opR_call Try.func73 bd73 nm73 (args1 rfl) (c_back vp ps _ (RdK.ofRest hrp hm4))) ?_
   rintro _ w9 ⟨b1q10, rfl, k_w9⟩
   have hm9 : Mem w9 (restOf w0) [(b1q10, .cells #[vp] 92 (0, 0)), (b5, .cells #[(i64 0)] 26 (0, 0)), (b4, .cells (cl u8 (List.replicate 64 0)) 83 (0, 0)), (b3, .cells #[(i64 n)] 3 (0, 0))] := Mem.new (H := [(b5, .cells #[(i64 0)] 26 (0, 0)), (b4, .cells (cl u8 (List.replicate 64 0)) 83 (0, 0)), (b3, .cells #[(i64 n)] 3 (0, 0))]) (H' := [(b1q10, .cells #[vp] 92 (0, 0))]) hm4 k_w9
   refine rN ?_
   refine cx_block (cx_range (fid := 88) (lb := [ptr b1q10 0]) (H := [(b1q10, .cells #[vp] 92 (0, 0)), (b5, .cells #[(i64 0)] 26 (0, 0)), (b4, .cells (cl u8 (List.replicate 64 0)) 83 (0, 0)), (b3, .cells #[(i64 n)] 3 (0, 0))]) hm9 rfl Try.func88 bd88 nm88 rfl ?_)
   intro l D lp wq hmq hround
   refine CallsR.mono (c_bw l b1q10 vp ps ((l, lp .ready none) :: (D, .deferred (some [])) :: [(b1q10, .cells #[vp] 92 (0, 0)), (b5, .cells #[(i64 0)] 26 (0, 0)), (b4, .cells (cl u8 (List.replicate 64 0)) 83 (0, 0)), (b3, .cells #[(i64 n)] 3 (0, 0))]) (fun i => (ps.getD i write0).at_ ≠ n) (fun i W => (ps.getD i write0).at_ = n ∧ Mem W (restOf w0) ((l, lp .done (some .ret)) :: (D, .deferred (some [])) :: [(b1q10, .cells #[vp] 92 (0, 0)), (b5, .cells #[(i64 0)] 26 (0, 0)), (b4, .cells (cl u8 ((ps.getD i write0).b)) 83 (0, 0)), (b3, .cells #[(i64 n)] 3 (0, 0))])) wq (restOf w0) hmq (fun W hW => hW.own (b1q10, .cells #[vp] 92 (0, 0)) (by simp)) (fun W hW => RdK.ofRest hrp hW) hpl ?_) ?_
   · -- a round
     intro i hi W hW
     have hbi := encW_b hrp hi
     refine hround [i64 (i : Int), (Value.agg (segs [[(i64 ((ps.getD i write0).at_))], ((ps.getD i write0).b).map u8]))] W _ _ rfl hW <| cw_region <| rw_c rfl (or_allocX hW ti104) ?_
     rintro _ w11 ⟨b7, rfl, _ew11, hm11⟩
     refine rw_n (or_storeW_segs [[(i64 ((ps.getD i write0).at_))], ((ps.getD i write0).b).map u8] ti104 rfl rfl (fl_cons (n := 1) (m := 64) (k := 65) rfl (fl_cons (n := 64) (m := 0) (k := 64) (by first | rfl | (rw [List.length_map]; first | omega | (simp; done) | (simp; omega))) fl_nil rfl) rfl) (so_cons (one_cons (i64_one _) one_nil) (so_cons (encA_one u8_one _) so_nil)) hm11.h0 (by rw [segs_size]; exact (fl_cons (n := 1) (m := 64) (k := 65) rfl (fl_cons (n := 64) (m := 0) (k := 64) (by first | rfl | (rw [List.length_map]; first | omega | (simp; done) | (simp; omega))) fl_nil rfl) rfl)) rfl) ?_
     rintro _ w12 uq12
     have hm12 : Mem w12 (restOf w0) [(b7, .cells (segs [[(i64 ((ps.getD i write0).at_))], ((ps.getD i write0).b).map u8]) 104 (0, 0)), (l, lp .ready none), (D, .deferred (some [])), (b1q10, .cells #[vp] 92 (0, 0)), (b5, .cells #[(i64 0)] 26 (0, 0)), (b4, .cells (cl u8 (List.replicate 64 0)) 83 (0, 0)), (b3, .cells #[(i64 n)] 3 (0, 0))] := hm11.upd0 uq12
     refine rN ?_
     have hm13 := (Mem.pick [_, _, _, _, _, _] [_] _ hm12)
     have hm14 := (Mem.pick [_, _, _, _, _, _] [_] _ hm13)
     have hm15 := (Mem.pick [_, _, _, _, _, _] [_] _ hm14)
     have hm16 := (Mem.pick [_, _, _, _, _, _] [_] _ hm15)
     have hm17 := (Mem.pick [_, _, _, _, _, _] [_] _ hm16)
     have hm18 := (Mem.pick [_, _, _, _, _] [_] _ hm17)
     have hm19 := (Mem.pick [_, _, _, _, _, _] [_] _ hm18)
     refine ⟨_, hm19, fun W2 hW2 => ?_⟩
     refine cw_block' (sR ?_)
     refine rw_q rfl (ev_fa (r := 0) uT104 rfl (by first | rfl | omega) ti3 rfl rfl) <| rw_q (v := (i64 ((ps.getD i write0).at_))) rfl (ev_load_segv (v := (i64 ((ps.getD i write0).at_))) [] [((ps.getD i write0).b).map u8] uT3 rfl rfl hW2.h1 fl_nil) <| rw_q (v := (i64 n)) rfl (ev_load1 uT3 rfl rfl ((Mem.pick [_, _, _, _, _, _] [_] _ hW2)).h0 rfl) <| rw_q rfl (ev_i64_eql rfl rfl) <| rN ?_
     refine cw_cond rfl (fun hc20 => ?_) (fun hc20 => ?_)
     · -- true
       have hc20p := eq_of_beq hc20
       refine sR <| rw_q rfl (ev_fa (r := 1) uT104 rfl (by first | rfl | omega) ti83 rfl rfl) <| rw_q (v := (agg u8 ((ps.getD i write0).b))) rfl (ev_load_seg1 (f := u8) [[(i64 ((ps.getD i write0).at_))]] [] ((ps.getD i write0).b) uT83 rfl ti83 rfl hW2.h1 (fl_cons (n := 1) (m := 0) (k := 1) rfl fl_nil rfl) (by first | rfl | omega | (simp; done) | (simp; omega))) <| rw_n (or_store_agg (f := u8) (l := (ps.getD i write0).b) u8_one ti83 rfl rfl sL hW2.h5 (by rw [size_cl]; first | omega | (simp only [List.length_set, List.length_append, List.length_replicate, List.length_map, List.length_cons, List.length_nil]; omega) | (simp; done) | (simp; omega) | decide) rfl) ?_
       rintro _ w21 uq21
       have hm21 := hW2.upd5 uq21
       refine rw_n (or_store1 ti26 rfl rfl (i64_one _) hm21.h4 (by simp) (.inl (Nat.zero_le _))) ?_
       rintro _ w22 uq22
       have hm22 : Mem w22 (restOf w0) [(l, lp .busy none), (b7, .cells (segs [[(i64 ((ps.getD i write0).at_))], ((ps.getD i write0).b).map u8]) 104 (0, 0)), (D, .deferred (some [])), (b1q10, .cells #[vp] 92 (0, 0)), (b5, .cells #[(i64 0)] 26 (0, 0)), (b4, .cells (cl u8 ((ps.getD i write0).b)) 83 (0, 0)), (b3, .cells #[(i64 n)] 3 (0, 0))] := hm21.upd4 uq22
       refine rN (cw_ret ?_)
       refine kBlk_ret ?_
       have hm23 := Mem.drop ([(b7, .cells (segs [[(i64 ((ps.getD i write0).at_))], ((ps.getD i write0).b).map u8]) 104 (0, 0))]) _ (Mem.pick [_] [_] _ hm22)
       refine ⟨_, hm23, fun W5 hW5 => ?_⟩
       exact ⟨false, rfl, (fun h => by cases h), fun _ => ⟨by simpa using hc20, hW5⟩⟩
     · -- false
       have hc20p := ne_of_beq_false hc20
       refine cw_skip (kBlk_normal ?_)
       have hm24 := Mem.drop ([(b7, .cells (segs [[(i64 ((ps.getD i write0).at_))], ((ps.getD i write0).b).map u8]) 104 (0, 0))]) _ (Mem.pick [_] [_] _ hW2)
       refine ⟨_, hm24, fun W5 hW5 => ?_⟩
       exact ⟨true, rfl, fun _ => ⟨hW5, by simpa using hc20⟩, fun h => by cases h⟩
   · rintro _ w2 (⟨hJ2, hok⟩ | ⟨i, hi, hok, hat2, hst⟩)
     · refine ⟨.ready, none, _, (by intro h; cases h), hJ2, fun w3 hm3 => ⟨(fun j h => by cases h), ?_⟩⟩
       refine xThen_normal <| cx_seq <| cw_draw [(0, false), (1, false), (2, false), (3, false), (4, false)] 5 (by kernel_rfl) <| dw_q rfl rfl (fun _ _hx => ev_move (v := (ptr bd 0)) rfl) <| dw_q rfl rfl (fun _ _hx => ev_nilCheck rfl) <| dw_q rfl rfl (fun _ _hx => ev_fa (r := 0) uT94 rfl (by first | rfl | omega) ti40 rfl rfl) ?_
       refine dw_q (v := vl) rfl rfl (fun _ _hx => ev_load1 uT40 rfl rfl ((hm3.ext _hx).rest _ _ hd) rfl) <| dw_q (v := (i64 n)) rfl rfl (fun _ _hx => ev_load1 uT3 rfl rfl (hm3.ext _hx).h4 rfl) ?_
       refine dw_nil (fun w25 _ew25 => ?_)
       have hm25 := hm3.ext _ew25
       refine rw_q rfl (ev_indexAddr_rk (i := n) (RdK.ofRest hrl hm25) uT40 ti83 rfl rfl oM sL) <| rw_q (v := (agg u8 (ls.getD ((n : Int).toNat) []))) rfl (ev_load_rka (i := n) (RdK.ofRest hrl hm25) sL uT83 ti83 rfl rfl) <| rw_n (or_store_agg (f := u8) (l := ls.getD ((n : Int).toNat) []) u8_one ti83 rfl rfl sL hm25.h3 (by rw [size_cl]; first | omega | (simp only [List.length_set, List.length_append, List.length_replicate, List.length_map, List.length_cons, List.length_nil]; omega) | (simp; done) | (simp; omega) | decide) rfl) ?_
       rintro _ w26 uq26
       have hm26 := hm25.upd3 uq26
       refine rw_n (or_store1 ti26 rfl rfl (i64_one _) hm26.h2 (by simp) (.inl (Nat.zero_le _))) ?_
       rintro _ w27 uq27
       have hm27 : Mem w27 (restOf w0) [(D, .deferred (some [])), (b1q10, .cells #[vp] 92 (0, 0)), (b5, .cells #[(i64 0)] 26 (0, 0)), (b4, .cells (cl u8 (ls.getD ((n : Int).toNat) [])) 83 (0, 0)), (b3, .cells #[(i64 n)] 3 (0, 0))] := hm26.upd2 uq27
       refine rN <| cx_of <| cw_ret ?_
       refine fnPostX_mark hm27 [(agg u8 (ls.getD ((n : Int).toNat) [])), (i64 0)] (fun wz hmz => ⟨⟨⟨_, rfl, loadVar_run uT83 rfl ti83 hmz.h2 (by rw [size_cl]; first | omega | (simp only [List.length_set, List.length_append, List.length_replicate, List.length_map, List.length_cons, List.length_nil]; omega) | (simp; done) | (simp; omega) | decide)⟩, ⟨_, rfl, loadVar_run1 uT26 rfl hmz.h1 rfl⟩, trivial⟩, ?_⟩)
       exact ⟨by unfold readB errB; rw [hin, seen_none hok]; rfl, hmz.toExt⟩
     · refine ⟨.done, some .ret, _, (by intro h; cases h), hst, fun w3 hm3 => ⟨(fun j h => by cases h), ?_⟩⟩
       have hbi := encW_b hrp hi
       refine xThen_ret ?_
       refine fnPostX_mark hm3 [(agg u8 ((ps.getD i write0).b)), (i64 0)] (fun wz hmz => ⟨⟨⟨_, rfl, loadVar_run uT83 rfl ti83 hmz.h2 (by rw [size_cl]; first | omega | (simp only [List.length_set, List.length_append, List.length_replicate, List.length_map, List.length_cons, List.length_nil]; omega) | (simp; done) | (simp; omega) | decide)⟩, ⟨_, rfl, loadVar_run1 uT26 rfl hmz.h1 rfl⟩, trivial⟩, ?_⟩)
       exact ⟨by unfold readB errB; rw [hin, seen_hit hi hat2 hok]; rfl, hmz.toExt⟩


end Go.Proofs.Ytfbnhoolkajebaa
