/- A journal's calls that are refused: contracts. Conditions: none beyond those that each theorem states. -/
import Derived.Test.YtfbnhoolkajebaaJoG
namespace Go.Proofs.Ytfbnhoolkajebaa
set_option linter.unusedVariables false
set_option linter.unusedSimpArgs false
attribute [local irreducible] crashB crashK pushB readB inB errB cutN seenW
attribute [local irreducible] markB putB getB getK partB placeF blkOf rawB writeK blocksN
attribute [local irreducible] mostK newB roomB
attribute [local irreducible] recB recF recN genF badB lastP dataB gOf rOf pOf nOf loopH readH
attribute [local irreducible] okP layK turnL turnP oldB
attribute [local irreducible] openD
attribute [local irreducible] okG okV GB natB fitsB
attribute [local irreducible] syncF
attribute [local irreducible] gY rY pY nY wholeY dY halfL halfR diskR topK maxI
attribute [local irreducible] putD blksD layD
attribute [local irreducible] placeI blksK

set_option maxHeartbeats 2000000 in
theorem c_jturn0 (bj : Nat) (fr0 sz : Int) (ge : BitVec 64) (vj : Value) (ja : Int) (bd : Nat) (vl : Value) (ls : List (List (BitVec 8))) (vp : Value) (ps : List WriteT) (vL : Value) (rl : List SlT) (w0 : World)  (hj : blks w0 bj = some (.cells #[ptr bd 0, i64 fr0, i64 sz, u64 ge, vj, i64 ja] 100 (0, 0))) (hd : blks w0 bd = some (.cells #[vl, vp] 94 (0, 0))) (hrl : RdK (blks w0) (encA u8) 64 vl ls) (hrp : RdK (blks w0) encW 65 vp ps) (hrL : RdL (blks w0) vL rl) (hre : ∀ p ∈ rl, p.2.length ≤ 42000) (h1 : rl.length ≤ 1000) (hll : ls.length ≤ 65536) (hpl : ps.length ≤ 1000) (hsz : 0 ≤ sz ∧ sz ≤ 1000) (hbad : sz < (roomB (rl.map (·.2)) : Int) ∨ (newB ls ps == 0#64) = true) : CallsR Try.prog 51 #[(ptr bj 0), vL] w0 (fun r w1 => r = (Value.tuple #[(Value.pointer none), (i64 6)]) ∧ Ext w0 w1) := by
 refine callsR_of_cw (args := [(ptr bj 0), vL]) Try.func51 rfl Try.ntmps51 Try.results51 rfl ?_
 have hm0 : Mem w0 (restOf w0) [] := Mem.of_world w0
 refine sR <| rw_q rfl (ev_assign (v := (Value.pointer none)) rfl) <| rw_q rfl (ev_assign (v := (i64 0)) rfl) ?_
 refine rN (sR ?_)
 refine rw_q rfl (ev_assign (v := (i64 0)) rfl) ?_
 refine rN (cw_seq (sR ?_))
 refine rM rfl (v := vL) rfl <| rw_q (v := (i64 (rl.length : Int))) rfl (ev_len_rd (RdL.row (RdL.ofRest (R := (restOf w0)) hrL hm0)) uT22 rfl) <| rw_q rfl (ev_move (v := (i64 0)) rfl) ?_
 refine rN (cw_block ?_)
 refine cw_loop (fun g wv => ∃ (k : Nat), (k ≤ rl.length) ∧ (roomB ((rl.map (·.2)).take k) ≤ 42001 * k) ∧ g 0 = (ptr bj 0) ∧ g 1 = vL ∧ g 4 = (Value.pointer none) ∧ g 5 = (i64 0) ∧ g 6 = (i64 (roomB ((rl.map (·.2)).take k) : Int)) ∧ g 13 = vL ∧ g 14 = (i64 (rl.length : Int)) ∧ g 15 = (i64 (k : Int)) ∧ Mem wv (restOf w0) []) (fun g wv => ((rl.length : Int) - RowKit.intOf (g 15)).toNat) ?_ ?_
 · exact ⟨0, (Nat.zero_le _), room_0n, rfl, rfl, rfl, rfl, (congrArg i64 room_0), rfl, rfl, rfl, hm0⟩
 · rintro fr1 w2 ⟨k, hk, hrb, s0, s1, s4, s5, s6, s13, s14, s15, hm2⟩
   have z6 := s6
   have z15 := s15
   refine sR <| rw_q rfl (ev_i64_lss s15 s14) ?_
   refine rN (cw_seq ?_)
   refine cw_cond rfl (fun hc3 => ?_) (fun hc3 => ?_)
   · -- true
     have hc3p := of_decide_eq_true hc3
     have hgk : (rl.getD k sl0).2 = (rl.map (·.2)).getD k [] := snd_getD rfl oM
     have hre1 := hre _ (getD_mem (d := sl0) (show k < rl.length by omega))
     have hrs1 := roomT_S (L := (rl.map (·.2))) (k := k) (by simp; omega)
     have hbp := blocksN_pos (rl.getD k sl0).2.length
     refine cw_skip (kThen_normal (cw_seq (cw_block (sR ?_))))
     refine rw_q rfl (ev_indexAddr_rdv (RdL.row (RdL.ofRest (R := (restOf w0)) hrL hm2)) uT22 ti23 s13 s15 oM sL) <| rw_q (v := (slv (rl.getD k sl0))) rfl (ev_load_rdD (l := rl) (i := (k : Int)) (dflt := sl0) (RdL.row (RdL.ofRest (R := (restOf w0)) hrL hm2)) uT23 rfl oM sL rfl) <| rw_q rfl (ev_assign (v := (slv (rl.getD k sl0))) rfl) ?_
     refine rN (cw_region ?_)
     refine rM rfl s6 <| rw_q rfl (ev_move (v := (slv (rl.getD k sl0))) rfl) <| rw_q (v := (i64 (((rl.getD k sl0).2).length : Int))) rfl (ev_len_rd (RdL.get (k := k) (RdL.ofRest (R := (restOf w0)) hrL hm2) sL) uT23 rfl) <| rw_c rfl (opR_call Try.func53 bd53 nm53 (args1 rfl) (c_jblocks (((rl.getD k sl0).2).length) _ sL)) ?_
     rintro _ w4 ⟨rfl, _ew4⟩
     have hm4 := hm2.ext _ew4
     refine rw_q rfl (ev_i64_add rfl rfl oM oM) <| rA rfl rfl ?_
     refine rw_nil (kBlk_normal (cw_region ?_))
     refine rw_q rfl (ev_i64_add (b := 1) s15 rfl oM oM) <| rw_q rfl (ev_move (v := (i64 ((k : Int) + 1))) rfl) <| rN ?_
     exact ⟨⟨(k + 1), oM, (by rw [hrs1, ← hgk]; omega), s0, s1, s4, s5, (Eq.trans rfl (congrArg i64 (by rw [hrs1, ← hgk]; push_cast; rfl))), s13, s14, rfl, hm4⟩, meas (rfl) z15 oM oM⟩
   · -- false
     have hc3p := of_decide_eq_false hc3
     have hneq : (roomB ((rl.map (·.2)).take k) : Int) = (roomB (rl.map (·.2)) : Int) := by rw [List.take_of_length_le (by simp; omega)]
     refine CW.abs (fun g => g 0 = (ptr bj 0) ∧ g 1 = vL ∧ g 4 = (Value.pointer none) ∧ g 5 = (i64 0) ∧ g 6 = (i64 (roomB (rl.map (·.2)) : Int)) ∧ g 13 = vL ∧ g 14 = (i64 (rl.length : Int)) ∧ g 15 = (i64 (k : Int)) ∧ g 16 = (bl (decide ((k : Int) < (rl.length : Int)))) ∧ True) ⟨s0, s1, s4, s5, (Eq.trans s6 (congrArg i64 hneq)), s13, s14, s15, rfl, trivial⟩ ?_
     rintro fr6 ⟨s0, s1, s4, s5, s6, s13, s14, s15, s16, _⟩
     refine cw_exit ?_
     refine kThen_exit (kThen_exit (kBlk_hit ?_))
     refine sR <| rM rfl s0 <| rw_q rfl (ev_nilCheck rfl) <| rw_q rfl (ev_fa (r := 0) uT100 rfl (by first | rfl | omega) ti25 rfl rfl) <| rw_q (v := (ptr bd 0)) rfl (ev_load1 uT25 rfl rfl (hm2.rest _ _ hj) rfl) <| rw_c rfl (opR_call Try.func71 bd71 nm71 (args1 rfl) (c_jnewest bd vl ls vp ps _ (hm2.rest _ _ hd) (RdK.ofRest hrl hm2) (RdK.ofRest hrp hm2) sL sL)) ?_
     rintro _ w7 ⟨rfl, _ew7⟩
     have hm7 := hm2.ext _ew7
     refine rw_q rfl (ev_assign (v := (u64 (newB ls ps))) rfl) ?_
     refine rN (cw_seq (sR ?_))
     refine rM rfl s6 <| rM rfl s0 <| rw_q rfl (ev_nilCheck rfl) <| rw_q rfl (ev_fa (r := 1) uT100 rfl (by first | rfl | omega) ti97 rfl rfl) <| rw_q rfl (ev_fa (r := 2) uT97 rfl (by first | rfl | omega) ti3 rfl rfl) <| rw_q (v := (i64 sz)) rfl (ev_load1 uT3 rfl rfl (hm7.rest _ _ hj) rfl) ?_
     refine rw_q rfl (ev_i64_gtr rfl rfl) <| rw_q rfl (ev_move (v := (bl (decide (sz < (roomB (rl.map (·.2)) : Int))))) rfl) ?_
     rcases Bool.eq_false_or_eq_true (decide (sz < (roomB (rl.map (·.2)) : Int))) with hb9 | hb9
     · -- true
       have hb9p := of_decide_eq_true hb9
       refine rw_gn (s := 37) rfl rfl hb9 rfl <| rw_gn (s := 37) rfl rfl hb9 rfl <| rw_q rfl (ev_pick_tk rfl hb9 rfl) <| rN ?_
       refine CW.abs (fun g => g 0 = (ptr bj 0) ∧ g 1 = vL ∧ g 4 = (Value.pointer none) ∧ g 5 = (i64 0) ∧ g 6 = (i64 (roomB (rl.map (·.2)) : Int)) ∧ g 9 = (u64 (newB ls ps)) ∧ g 13 = vL ∧ g 14 = (i64 (rl.length : Int)) ∧ g 15 = (i64 (k : Int)) ∧ g 16 = (bl (decide ((k : Int) < (rl.length : Int)))) ∧ g 40 = (bl true) ∧ True) ⟨s0, s1, s4, s5, s6, rfl, s13, s14, s15, s16, rfl, trivial⟩ ?_
       rintro fr10 ⟨s0, s1, s4, s5, s6, s9, s13, s14, s15, s16, s40, _⟩
       refine cw_cond_t s40 (by decide) <| sR <| rw_q rfl (ev_assign (v := (Value.pointer none)) rfl) <| rw_q rfl (ev_assign (v := (i64 6)) rfl) ?_
       refine rN (cw_ret (kThen_ret ?_))
       refine fnPost_ret [(Value.pointer none), (i64 6)] ⟨rfl, rfl, trivial⟩ ?_
       exact ⟨rfl, hm7.toExt⟩
     · -- false
       have hb9p := of_decide_eq_false hb9
       refine rw_gyq (s := 37) rfl rfl hb9 rfl (ev_move (v := (u64 (newB ls ps))) rfl) <| rw_gyq (s := 37) rfl rfl hb9 rfl (ev_u64_eql (b := 0#64) rfl rfl) <| rw_q rfl (ev_pick_fk rfl hb9 rfl) <| rN ?_
       refine CW.abs (fun g => g 0 = (ptr bj 0) ∧ g 1 = vL ∧ g 4 = (Value.pointer none) ∧ g 5 = (i64 0) ∧ g 6 = (i64 (roomB (rl.map (·.2)) : Int)) ∧ g 9 = (u64 (newB ls ps)) ∧ g 13 = vL ∧ g 14 = (i64 (rl.length : Int)) ∧ g 15 = (i64 (k : Int)) ∧ g 16 = (bl (decide ((k : Int) < (rl.length : Int)))) ∧ g 40 = (bl ((newB ls ps) == 0#64)) ∧ True) ⟨s0, s1, s4, s5, s6, rfl, s13, s14, s15, s16, rfl, trivial⟩ ?_
       rintro fr11 ⟨s0, s1, s4, s5, s6, s9, s13, s14, s15, s16, s40, _⟩
       have hd12 : ((newB ls ps) == 0#64) = true := hbad.resolve_left (of_decide_eq_false hb9)
       refine cw_cond_t s40 hd12 <| sR <| rw_q rfl (ev_assign (v := (Value.pointer none)) rfl) <| rw_q rfl (ev_assign (v := (i64 6)) rfl) ?_
       refine rN (cw_ret (kThen_ret ?_))
       refine fnPost_ret [(Value.pointer none), (i64 6)] ⟨rfl, rfl, trivial⟩ ?_
       exact ⟨rfl, hm7.toExt⟩

set_option maxHeartbeats 2000000 in
theorem c_jopen0 (bd : Nat) (vl : Value) (ls : List (List (BitVec 8))) (vp : Value) (ps : List WriteT) (w0 : World)  (hd : blks w0 bd = some (.cells #[vl, vp] 94 (0, 0))) (hrl : RdK (blks w0) (encA u8) 64 vl ls) (hrp : RdK (blks w0) encW 65 vp ps) (h4 : ls.length < 4) : CallsR Try.prog 14 #[(ptr bd 0)] w0 (fun r w1 => r = (Value.tuple #[(Value.pointer none), (i64 2)]) ∧ Ext w0 w1) := by
 refine callsR_of_cw (args := [(ptr bd 0)]) Try.func14 rfl Try.ntmps14 Try.results14 rfl ?_
 have hm0 : Mem w0 (restOf w0) [] := Mem.of_world w0
 refine sR <| rw_q rfl (ev_assign (v := (Value.pointer none)) rfl) <| rw_q rfl (ev_assign (v := (i64 0)) rfl) ?_
 refine rN (cw_seq (sR ?_))
 refine rw_q rfl (ev_move (v := (ptr bd 0)) rfl) <| rw_c rfl (opR_call Try.func49 bd49 nm49 (args1 rfl) (c_dsize bd vl ls vp ps _ (hm0.rest _ _ hd) (RdK.ofRest hrl hm0) (RdK.ofRest hrp hm0))) ?_
 rintro _ w1 ⟨rfl, _ew1⟩
 have hm1 := hm0.ext _ew1
 refine rw_q rfl (ev_i64_lss (b := 4) rfl rfl) <| rN ?_
 have hd3 : (decide ((ls.length : Int) < 4)) = true := decide_eq_true oM
 refine cw_cond_t rfl hd3 <| sR <| rw_q rfl (ev_assign (v := (Value.pointer none)) rfl) <| rw_q rfl (ev_assign (v := (i64 2)) rfl) ?_
 refine rN (cw_ret (kThen_ret ?_))
 refine fnPost_ret [(Value.pointer none), (i64 2)] ⟨rfl, rfl, trivial⟩ ?_
 exact ⟨rfl, hm1.toExt⟩

set_option maxHeartbeats 2000000 in
theorem c_jopenF (bd : Nat) (vl : Value) (ls : List (List (BitVec 8))) (vp : Value) (ps : List WriteT) (w0 : World)  (hd : blks w0 bd = some (.cells #[vl, vp] 94 (0, 0))) (hrl : RdK (blks w0) (encA u8) 64 vl ls) (hrp : RdK (blks w0) encW 65 vp ps) (h4 : 4 ≤ ls.length ∧ ls.length ≤ 2000) (hpl : ps.length ≤ 1000) (hnew : (newB ls ps == 0#64) = true) : CallsR Try.prog 14 #[(ptr bd 0)] w0 (fun r w1 => r = (Value.tuple #[(Value.pointer none), (i64 6)]) ∧ Ext w0 w1) := by
 refine callsR_of_cw (args := [(ptr bd 0)]) Try.func14 rfl Try.ntmps14 Try.results14 rfl ?_
 have hm0 : Mem w0 (restOf w0) [] := Mem.of_world w0
 have hI1 := readH_I (ls := ls) (ps := ps) (fr0 := 0) (sz := ((ls.length : Int) / 2)) oM; have hI2 := readH_I (ls := ls) (ps := ps) (fr0 := ((ls.length : Int) / 2)) (sz := ((ls.length : Int) / 2)) oM
 refine sR <| rw_q rfl (ev_assign (v := (Value.pointer none)) rfl) <| rw_q rfl (ev_assign (v := (i64 0)) rfl) ?_
 refine rN (cw_seq (sR ?_))
 refine rw_q rfl (ev_move (v := (ptr bd 0)) rfl) <| rw_c rfl (opR_call Try.func49 bd49 nm49 (args1 rfl) (c_dsize bd vl ls vp ps _ (hm0.rest _ _ hd) (RdK.ofRest hrl hm0) (RdK.ofRest hrp hm0))) ?_
 rintro _ w1 ⟨rfl, _ew1⟩
 have hm1 := hm0.ext _ew1
 refine rw_q rfl (ev_i64_lss (b := 4) rfl rfl) <| rN ?_
 have hd3 : (decide ((ls.length : Int) < 4)) = false := decide_eq_false oM
 refine cw_cond_f rfl hd3 ?_
 refine cw_skip (kThen_normal (sR ?_))
 refine rw_q rfl (ev_move (v := (ptr bd 0)) rfl) <| rw_c rfl (opR_call Try.func49 bd49 nm49 (args1 rfl) (c_dsize bd vl ls vp ps _ (hm1.rest _ _ hd) (RdK.ofRest hrl hm1) (RdK.ofRest hrp hm1))) ?_
 rintro _ w4 ⟨rfl, _ew4⟩
 have hm4 := hm1.ext _ew4
 refine rw_q rfl (ev_i64_quo (b := 2) rfl rfl oM oM oM) <| rw_q rfl (ev_assign (v := (i64 ((ls.length : Int) / 2))) rfl) ?_
 refine rN (sR ?_)
 refine rw_q rfl (ev_move (v := (i64 ((ls.length : Int) / 2))) rfl) <| rw_q rfl (ev_build_pt (c := #[(i64 0), (i64 ((ls.length : Int) / 2)), (u64 0), (Value.slice none 0 0), (i64 0)]) (pl := [(0, 1), (1, 1), (2, 1), (3, 1), (4, 1)]) ti97 uT97 (by kernel_rfl) (pm_cons (i := 1) (v := (i64 ((ls.length : Int) / 2))) (cs := #[(i64 ((ls.length : Int) / 2))]) rfl rfl pm_nil) (by kernel_rfl)) <| rw_q rfl (ev_move (v := (i64 ((ls.length : Int) / 2))) rfl) <| rw_q rfl (ev_move (v := (i64 ((ls.length : Int) / 2))) rfl) <| rw_q rfl (ev_build_pt (c := #[(i64 ((ls.length : Int) / 2)), (i64 ((ls.length : Int) / 2)), (u64 0), (Value.slice none 0 0), (i64 0)]) (pl := [(0, 1), (1, 1), (2, 1), (3, 1), (4, 1)]) ti97 uT97 (by kernel_rfl) (pm_cons (i := 0) (v := (i64 ((ls.length : Int) / 2))) (cs := #[(i64 ((ls.length : Int) / 2))]) rfl rfl (pm_cons (i := 1) (v := (i64 ((ls.length : Int) / 2))) (cs := #[(i64 ((ls.length : Int) / 2))]) rfl rfl pm_nil)) (by kernel_rfl)) <| rw_c rfl (or_allocX hm4 ti97) ?_
 rintro _ w6 ⟨b5, rfl, _ew6, hm6⟩
 refine rw_c rfl (or_allocX hm6 ti97) ?_
 rintro _ w7 ⟨b6, rfl, _ew7, hm7⟩
 refine rw_n (or_storeW (cs := #[(i64 0), (i64 ((ls.length : Int) / 2)), (u64 0), (Value.slice none 0 0), (i64 0)]) ti97 rfl rfl (by kernel_rfl) (one_arr (one_cons (i64_one _) (one_cons (i64_one _) (one_cons (u64_one _) (one_cons rfl (one_cons (i64_one _) one_nil)))))) hm7.h1 (by kernel_rfl) rfl) ?_
 rintro _ w8 uq8
 have hm8 : Mem w8 (restOf w0) [(b6, .cells #[(i64 0), (i64 0), (u64 0), (Value.slice none 0 0), (i64 0)] 97 (0, 0)), (b5, .cells #[(i64 0), (i64 ((ls.length : Int) / 2)), (u64 0), (Value.slice none 0 0), (i64 0)] 97 (0, 0))] := hm7.upd1 uq8
 refine rw_n (or_storeW (cs := #[(i64 ((ls.length : Int) / 2)), (i64 ((ls.length : Int) / 2)), (u64 0), (Value.slice none 0 0), (i64 0)]) ti97 rfl rfl (by kernel_rfl) (one_arr (one_cons (i64_one _) (one_cons (i64_one _) (one_cons (u64_one _) (one_cons rfl (one_cons (i64_one _) one_nil)))))) hm8.h0 (by kernel_rfl) rfl) ?_
 rintro _ w9 uq9
 have hm9 : Mem w9 (restOf w0) [(b6, .cells #[(i64 ((ls.length : Int) / 2)), (i64 ((ls.length : Int) / 2)), (u64 0), (Value.slice none 0 0), (i64 0)] 97 (0, 0)), (b5, .cells #[(i64 0), (i64 ((ls.length : Int) / 2)), (u64 0), (Value.slice none 0 0), (i64 0)] 97 (0, 0))] := hm8.upd0 uq9
 refine rN (sR ?_)
 refine rw_q rfl (ev_move (v := (ptr bd 0)) rfl) ?_
 have hF11 : Mem w9 (restOf w0) ([(b5, .cells #[(i64 0), (i64 ((ls.length : Int) / 2)), (u64 0), (Value.slice none 0 0), (i64 0)] 97 (0, 0))] ++ ([(b6, .cells #[(i64 ((ls.length : Int) / 2)), (i64 ((ls.length : Int) / 2)), (u64 0), (Value.slice none 0 0), (i64 0)] 97 (0, 0))])) := (Mem.pick [_] [_] _ hm9)
 refine rw_c rfl (opR_call Try.func50 bd50 nm50 (args2 rfl rfl) (c_jhread b5 0 ((ls.length : Int) / 2) bd vl ls vp ps _ _ (Mem.give hF11) (Mem.addRest hF11 hd) (RdK.addRest hF11 hrl) (RdK.addRest hF11 hrp) sL sL sL sL)) ?_
 rintro _ w10 ⟨vrq12, rsq12, Hrq12, rfl, hMq12, hLq12, grq12, k_w10⟩
 have hm10 : Mem w10 (restOf w0) ([(b5, .cells #[(i64 0), (i64 ((ls.length : Int) / 2)), (u64 ((readH ls ps 0 ((ls.length : Int) / 2)).gen)), vrq12, (i64 ((readH ls ps 0 ((ls.length : Int) / 2)).at_))] 97 (0, 0))] ++ (Hrq12 ++ ([(b6, .cells #[(i64 ((ls.length : Int) / 2)), (i64 ((ls.length : Int) / 2)), (u64 0), (Value.slice none 0 0), (i64 0)] 97 (0, 0))]))) := (by
   have hT := Mem.back hF11 k_w10
   try simp only [List.append_assoc, List.cons_append, List.nil_append, List.append_nil] at hT ⊢
   exact hT)
 refine rN ?_
 refine CW.abs (fun g => g 0 = (ptr bd 0) ∧ g 2 = (Value.pointer none) ∧ g 3 = (i64 0) ∧ g 4 = (i64 ((ls.length : Int) / 2)) ∧ g 5 = (ptr b5 0) ∧ g 6 = (ptr b6 0) ∧ g 12 = (bl (decide ((ls.length : Int) < 4))) ∧ True) ⟨rfl, rfl, rfl, rfl, rfl, rfl, rfl, trivial⟩ ?_
 rintro fr13 ⟨s0, s2, s3, s4, s5, s6, s12, _⟩
 refine sR <| rM rfl s0 ?_
 have hF15 : Mem w10 (restOf w0) ([(b6, .cells #[(i64 ((ls.length : Int) / 2)), (i64 ((ls.length : Int) / 2)), (u64 0), (Value.slice none 0 0), (i64 0)] 97 (0, 0))] ++ ([(b5, .cells #[(i64 0), (i64 ((ls.length : Int) / 2)), (u64 ((readH ls ps 0 ((ls.length : Int) / 2)).gen)), vrq12, (i64 ((readH ls ps 0 ((ls.length : Int) / 2)).at_))] 97 (0, 0))] ++ (Hrq12 ++ ([])))) := (Mem.pick2 [_] Hrq12 [_] _ hm10)
 refine rw_c rfl (opR_call Try.func50 bd50 nm50 (args2 s6 rfl) (c_jhread b6 ((ls.length : Int) / 2) ((ls.length : Int) / 2) bd vl ls vp ps _ _ (Mem.give hF15) (Mem.addRest hF15 hd) (RdK.addRest hF15 hrl) (RdK.addRest hF15 hrp) sL sL sL sL)) ?_
 rintro _ w14 ⟨vrq16, rsq16, Hrq16, rfl, hMq16, hLq16, grq16, k_w14⟩
 have hm14 : Mem w14 (restOf w0) ([(b6, .cells #[(i64 ((ls.length : Int) / 2)), (i64 ((ls.length : Int) / 2)), (u64 ((readH ls ps ((ls.length : Int) / 2) ((ls.length : Int) / 2)).gen)), vrq16, (i64 ((readH ls ps ((ls.length : Int) / 2) ((ls.length : Int) / 2)).at_))] 97 (0, 0))] ++ (Hrq16 ++ ([(b5, .cells #[(i64 0), (i64 ((ls.length : Int) / 2)), (u64 ((readH ls ps 0 ((ls.length : Int) / 2)).gen)), vrq12, (i64 ((readH ls ps 0 ((ls.length : Int) / 2)).at_))] 97 (0, 0))] ++ (Hrq12 ++ ([]))))) := (by
   have hT := Mem.back hF15 k_w14
   try simp only [List.append_assoc, List.cons_append, List.nil_append, List.append_nil] at hT ⊢
   exact hT)
 refine rN (sR ?_)
 refine rM rfl s0 <| rw_q (v := (Value.agg #[(i64 0), (i64 ((ls.length : Int) / 2)), (u64 ((readH ls ps 0 ((ls.length : Int) / 2)).gen)), vrq12, (i64 ((readH ls ps 0 ((ls.length : Int) / 2)).at_))])) rfl (ev_loadW uT97 rfl ti97 s5 ((Mem.pick2 [_] Hrq16 [_] _ hm14)).h0 (by kernel_rfl)) <| rw_q rfl (ev_build_pt (c := #[(ptr bd 0), (i64 0), (i64 ((ls.length : Int) / 2)), (u64 ((readH ls ps 0 ((ls.length : Int) / 2)).gen)), vrq12, (i64 ((readH ls ps 0 ((ls.length : Int) / 2)).at_))]) (pl := [(0, 1), (1, 5)]) ti100 uT100 (by kernel_rfl) (pm_cons (i := 0) (v := (ptr bd 0)) (cs := #[(ptr bd 0)]) rfl rfl (pm_cons (i := 1) (v := (Value.agg #[(i64 0), (i64 ((ls.length : Int) / 2)), (u64 ((readH ls ps 0 ((ls.length : Int) / 2)).gen)), vrq12, (i64 ((readH ls ps 0 ((ls.length : Int) / 2)).at_))])) (cs := #[(i64 0), (i64 ((ls.length : Int) / 2)), (u64 ((readH ls ps 0 ((ls.length : Int) / 2)).gen)), vrq12, (i64 ((readH ls ps 0 ((ls.length : Int) / 2)).at_))]) rfl rfl pm_nil)) (by kernel_rfl)) <| rw_c rfl (or_boxX (cs := #[(ptr bd 0), (i64 0), (i64 ((ls.length : Int) / 2)), (u64 ((readH ls ps 0 ((ls.length : Int) / 2)).gen)), vrq12, (i64 ((readH ls ps 0 ((ls.length : Int) / 2)).at_))]) hm14 rfl) ?_
 rintro _ w17 ⟨b28, rfl, _ew17, hm17⟩
 refine rw_q rfl (ev_assign (v := (ptr b28 0)) rfl) ?_
 refine rN (cw_seq (sR ?_))
 refine rw_q rfl (ev_fa (r := 2) uT97 rfl (by first | rfl | omega) ti95 rfl s6) <| rw_q (v := (u64 ((readH ls ps ((ls.length : Int) / 2) ((ls.length : Int) / 2)).gen))) rfl (ev_load1 uT95 rfl rfl hm17.h1 rfl) <| rw_q rfl (ev_fa (r := 2) uT97 rfl (by first | rfl | omega) ti95 rfl s5) <| rw_q (v := (u64 ((readH ls ps 0 ((ls.length : Int) / 2)).gen))) rfl (ev_load1 uT95 rfl rfl ((Mem.pick2 [_, _] Hrq16 [_] _ hm17)).h0 rfl) <| rw_q rfl (ev_u64_gtr rfl rfl) <| rN ?_
 refine cw_cond rfl (fun hc18 => ?_) (fun hc18 => ?_)
 · -- true
   have hc18p := of_decide_eq_true hc18
   refine cw_region <| rw_q rfl (ev_move (v := (ptr b28 0)) rfl) <| rw_q (v := (Value.agg #[(i64 ((ls.length : Int) / 2)), (i64 ((ls.length : Int) / 2)), (u64 ((readH ls ps ((ls.length : Int) / 2) ((ls.length : Int) / 2)).gen)), vrq16, (i64 ((readH ls ps ((ls.length : Int) / 2) ((ls.length : Int) / 2)).at_))])) rfl (ev_loadW uT97 rfl ti97 s6 hm17.h1 (by kernel_rfl)) <| rw_q rfl (ev_nilCheck rfl) <| rw_q rfl (ev_fa (r := 1) uT100 rfl (by first | rfl | omega) ti97 rfl rfl) <| rw_n (or_storeX (cs := #[(i64 ((ls.length : Int) / 2)), (i64 ((ls.length : Int) / 2)), (u64 ((readH ls ps ((ls.length : Int) / 2) ((ls.length : Int) / 2)).gen)), vrq16, (i64 ((readH ls ps ((ls.length : Int) / 2) ((ls.length : Int) / 2)).at_))]) (c' := #[(ptr bd 0), (i64 ((ls.length : Int) / 2)), (i64 ((ls.length : Int) / 2)), (u64 ((readH ls ps ((ls.length : Int) / 2) ((ls.length : Int) / 2)).gen)), vrq16, (i64 ((readH ls ps ((ls.length : Int) / 2) ((ls.length : Int) / 2)).at_))]) ti97 rfl rfl (by kernel_rfl) (one_arr (one_cons (i64_one _) (one_cons (i64_one _) (one_cons (u64_one _) (one_cons grq16.one (one_cons (i64_one _) one_nil)))))) hm17.h0 (by kernel_rfl) rfl (by kernel_rfl)) ?_
   rintro _ w19 uq19
   have hm19 : Mem w19 (restOf w0) ([(b28, .cells #[(ptr bd 0), (i64 ((ls.length : Int) / 2)), (i64 ((ls.length : Int) / 2)), (u64 ((readH ls ps ((ls.length : Int) / 2) ((ls.length : Int) / 2)).gen)), vrq16, (i64 ((readH ls ps ((ls.length : Int) / 2) ((ls.length : Int) / 2)).at_))] 100 (0, 0)), (b6, .cells #[(i64 ((ls.length : Int) / 2)), (i64 ((ls.length : Int) / 2)), (u64 ((readH ls ps ((ls.length : Int) / 2) ((ls.length : Int) / 2)).gen)), vrq16, (i64 ((readH ls ps ((ls.length : Int) / 2) ((ls.length : Int) / 2)).at_))] 97 (0, 0))] ++ (Hrq16 ++ ([(b5, .cells #[(i64 0), (i64 ((ls.length : Int) / 2)), (u64 ((readH ls ps 0 ((ls.length : Int) / 2)).gen)), vrq12, (i64 ((readH ls ps 0 ((ls.length : Int) / 2)).at_))] 97 (0, 0))] ++ (Hrq12 ++ ([]))))) := hm17.upd0 uq19
   refine rN (cw_seq (sR ?_))
   refine rw_q rfl (ev_move (v := (ptr b28 0)) rfl) <| rw_q rfl (ev_nilCheck rfl) <| rw_q rfl (ev_fa (r := 1) uT100 rfl (by first | rfl | omega) ti97 rfl rfl) <| rw_q rfl (ev_fa (r := 3) uT97 rfl (by first | rfl | omega) ti95 rfl rfl) <| rw_q (v := (u64 ((readH ls ps ((ls.length : Int) / 2) ((ls.length : Int) / 2)).gen))) rfl (ev_load1 uT95 rfl rfl hm19.h0 rfl) <| rw_q rfl (ev_u64_eql (b := 0#64) rfl rfl) ?_
   refine rN ?_
   refine CW.abs (fun g => g 0 = (ptr bd 0) ∧ g 2 = (Value.pointer none) ∧ g 3 = (i64 0) ∧ g 4 = (i64 ((ls.length : Int) / 2)) ∧ g 5 = (ptr b5 0) ∧ g 6 = (ptr b6 0) ∧ g 7 = (ptr b28 0) ∧ g 12 = (bl (decide ((ls.length : Int) < 4))) ∧ g 33 = (bl (decide (((readH ls ps 0 ((ls.length : Int) / 2)).gen).toNat < ((readH ls ps ((ls.length : Int) / 2) ((ls.length : Int) / 2)).gen).toNat))) ∧ g 43 = (bl (((readH ls ps ((ls.length : Int) / 2) ((ls.length : Int) / 2)).gen) == 0#64)) ∧ True) ⟨s0, s2, s3, s4, s5, s6, rfl, s12, rfl, rfl, trivial⟩ ?_
   rintro fr20 ⟨s0, s2, s3, s4, s5, s6, s7, s12, s33, s43, _⟩
   refine cw_cond s43 (fun hc21 => ?_) (fun hc21 => ?_)
   · -- true
     have hc21p := eq_of_beq hc21
     refine cw_region <| rM rfl s7 <| rM rfl s7 <| rM rfl s4 <| rw_c rfl (or_buildSlice_ones [(Value.slice none 0 0)] (by simp [slc, ptr, Value.oneCell', i64, u8, u32, u64, bl]) hm19 uT22 ti23 rfl rfl rfl) ?_
     rintro _ w22 ⟨b47, rfl, _ew22, hm22⟩
     have hm22 : Mem w22 (restOf w0) ([(b47, .cells #[(Value.slice none 0 0)] 23 (0, 0)), (b28, .cells #[(ptr bd 0), (i64 ((ls.length : Int) / 2)), (i64 ((ls.length : Int) / 2)), (u64 ((readH ls ps ((ls.length : Int) / 2) ((ls.length : Int) / 2)).gen)), vrq16, (i64 ((readH ls ps ((ls.length : Int) / 2) ((ls.length : Int) / 2)).at_))] 100 (0, 0)), (b6, .cells #[(i64 ((ls.length : Int) / 2)), (i64 ((ls.length : Int) / 2)), (u64 ((readH ls ps ((ls.length : Int) / 2) ((ls.length : Int) / 2)).gen)), vrq16, (i64 ((readH ls ps ((ls.length : Int) / 2) ((ls.length : Int) / 2)).at_))] 97 (0, 0))] ++ (Hrq16 ++ ([(b5, .cells #[(i64 0), (i64 ((ls.length : Int) / 2)), (u64 ((readH ls ps 0 ((ls.length : Int) / 2)).gen)), vrq12, (i64 ((readH ls ps 0 ((ls.length : Int) / 2)).at_))] 97 (0, 0))] ++ (Hrq12 ++ ([]))))) := hm22
     obtain ⟨HL22, gL22, hmL22⟩ : ∃ q, GrowL mN 23 (slc b47 0 1 1) [toSl (Value.slice none 0 0) ([])] q ∧ Mem w22 (restOf w0) (q ++ ([(b28, .cells #[(ptr bd 0), (i64 ((ls.length : Int) / 2)), (i64 ((ls.length : Int) / 2)), (u64 ((readH ls ps ((ls.length : Int) / 2) ((ls.length : Int) / 2)).gen)), vrq16, (i64 ((readH ls ps ((ls.length : Int) / 2) ((ls.length : Int) / 2)).at_))] 100 (0, 0)), (b6, .cells #[(i64 ((ls.length : Int) / 2)), (i64 ((ls.length : Int) / 2)), (u64 ((readH ls ps ((ls.length : Int) / 2) ((ls.length : Int) / 2)).gen)), vrq16, (i64 ((readH ls ps ((ls.length : Int) / 2) ((ls.length : Int) / 2)).at_))] 97 (0, 0))] ++ (Hrq16 ++ ([(b5, .cells #[(i64 0), (i64 ((ls.length : Int) / 2)), (u64 ((readH ls ps 0 ((ls.length : Int) / 2)).gen)), vrq12, (i64 ((readH ls ps 0 ((ls.length : Int) / 2)).at_))] 97 (0, 0))] ++ (Hrq12 ++ ([])))))) := ⟨_, GrowL.of1 slv_nil el_nil, (by
       have hT := hm22
       try simp only [List.append_assoc, List.cons_append, List.nil_append, List.append_nil] at hT ⊢
       exact hT)⟩
     refine rw_q rfl (ev_nilCheck rfl) <| rw_q rfl (ev_fa (r := 1) uT100 rfl (by first | rfl | omega) ti97 rfl rfl) <| rw_q rfl (ev_fa (r := 1) uT97 rfl (by first | rfl | omega) ti3 rfl rfl) <| rw_n (or_store1 ti3 rfl rfl (i64_one _) ((Mem.pick HL22 [_] _ hmL22)).h0 (by simp) (.inl (Nat.zero_le _))) ?_
     rintro _ w23 uq23
     have hm23 : Mem w23 (restOf w0) ([(b28, .cells #[(ptr bd 0), (i64 ((ls.length : Int) / 2)), (i64 ((ls.length : Int) / 2)), (u64 ((readH ls ps ((ls.length : Int) / 2) ((ls.length : Int) / 2)).gen)), vrq16, (i64 ((readH ls ps ((ls.length : Int) / 2) ((ls.length : Int) / 2)).at_))] 100 (0, 0))] ++ (HL22 ++ ([(b6, .cells #[(i64 ((ls.length : Int) / 2)), (i64 ((ls.length : Int) / 2)), (u64 ((readH ls ps ((ls.length : Int) / 2) ((ls.length : Int) / 2)).gen)), vrq16, (i64 ((readH ls ps ((ls.length : Int) / 2) ((ls.length : Int) / 2)).at_))] 97 (0, 0))] ++ (Hrq16 ++ ([(b5, .cells #[(i64 0), (i64 ((ls.length : Int) / 2)), (u64 ((readH ls ps 0 ((ls.length : Int) / 2)).gen)), vrq12, (i64 ((readH ls ps 0 ((ls.length : Int) / 2)).at_))] 97 (0, 0))] ++ (Hrq12 ++ ([]))))))) := Mem.upd0 (Mem.pick HL22 [_] _ hmL22) uq23
     refine rw_q rfl (ev_nilCheck rfl) <| rw_q rfl (ev_fa (r := 1) uT100 rfl (by first | rfl | omega) ti97 rfl rfl) <| rw_q rfl (ev_fa (r := 4) uT97 rfl (by first | rfl | omega) ti22 rfl rfl) <| rw_n (or_store1 ti22 rfl rfl gL22.one hm23.h0 (by simp) (.inl (Nat.zero_le _))) ?_
     rintro _ w24 uq24
     have hm24 : Mem w24 (restOf w0) ([(b28, .cells #[(ptr bd 0), (i64 ((ls.length : Int) / 2)), (i64 ((ls.length : Int) / 2)), (u64 ((readH ls ps ((ls.length : Int) / 2) ((ls.length : Int) / 2)).gen)), (slc b47 0 1 1), (i64 ((readH ls ps ((ls.length : Int) / 2) ((ls.length : Int) / 2)).at_))] 100 (0, 0))] ++ (HL22 ++ ([(b6, .cells #[(i64 ((ls.length : Int) / 2)), (i64 ((ls.length : Int) / 2)), (u64 ((readH ls ps ((ls.length : Int) / 2) ((ls.length : Int) / 2)).gen)), vrq16, (i64 ((readH ls ps ((ls.length : Int) / 2) ((ls.length : Int) / 2)).at_))] 97 (0, 0))] ++ (Hrq16 ++ ([(b5, .cells #[(i64 0), (i64 ((ls.length : Int) / 2)), (u64 ((readH ls ps 0 ((ls.length : Int) / 2)).gen)), vrq12, (i64 ((readH ls ps 0 ((ls.length : Int) / 2)).at_))] 97 (0, 0))] ++ (Hrq12 ++ ([]))))))) := hm23.upd0 uq24
     refine rN (cw_seq ?_)
     have hml := nil_map
     have hln : [toSl (Value.slice none 0 0) ([])].length = 1 := rfl
     have hrm : (roomB [[]] : Int) ≤ ((ls.length : Int) / 2) := by rw [room_nil]; omega
     have hel := nil_el
     have hrlm := room_len (L := [[]])
     have hlm := congrArg List.length hml; rw [List.length_map] at hlm
     refine cw_region <| rM rfl s7 <| rM rfl s7 <| rw_q rfl (ev_nilCheck rfl) <| rw_q rfl (ev_fa (r := 1) uT100 rfl (by first | rfl | omega) ti97 rfl rfl) <| rw_q rfl (ev_fa (r := 4) uT97 rfl (by first | rfl | omega) ti22 rfl rfl) ?_
     refine rw_q (v := (slc b47 0 1 1)) rfl (ev_load1 uT22 rfl rfl hm24.h0 rfl) <| rw_c rfl (opR_call Try.func51 bd51 nm51 (args2 rfl rfl) (c_jturn0 b28 ((ls.length : Int) / 2) ((ls.length : Int) / 2) ((readH ls ps ((ls.length : Int) / 2) ((ls.length : Int) / 2)).gen) (slc b47 0 1 1) ((readH ls ps ((ls.length : Int) / 2) ((ls.length : Int) / 2)).at_) bd vl ls vp ps (slc b47 0 1 1) ([toSl (Value.slice none 0 0) ([])]) _ hm24.h0 (hm24.rest _ _ hd) (RdK.ofRest hrl hm24) (RdK.ofRest hrp hm24) (GrowL.rd gL22 (Mem.pick [_] HL22 _ hm24) nN) (map_el hml hel) sL sL sL sL (.inr hnew))) ?_
     rintro _ w25 ⟨rfl, _ew25⟩
     have hm25 := hm24.ext _ew25
     refine rw_q rfl (ev_move (v := (Value.tuple #[(Value.pointer none), (i64 6)])) rfl) <| rw_q (v := (Value.pointer none)) rfl (ev_extract rfl rfl) <| rw_q (v := (i64 6)) rfl (ev_extract rfl rfl) <| rw_q rfl (ev_assign (v := (Value.pointer none)) rfl) <| rw_q rfl (ev_assign (v := (i64 6)) rfl) <| rN ?_
     refine CW.abs (fun g => g 0 = (ptr bd 0) ∧ g 2 = (Value.pointer none) ∧ g 3 = (i64 0) ∧ g 4 = (i64 ((ls.length : Int) / 2)) ∧ g 5 = (ptr b5 0) ∧ g 6 = (ptr b6 0) ∧ g 7 = (ptr b28 0) ∧ g 8 = (Value.pointer none) ∧ g 9 = (i64 6) ∧ g 12 = (bl (decide ((ls.length : Int) < 4))) ∧ g 33 = (bl (decide (((readH ls ps 0 ((ls.length : Int) / 2)).gen).toNat < ((readH ls ps ((ls.length : Int) / 2) ((ls.length : Int) / 2)).gen).toNat))) ∧ g 43 = (bl (((readH ls ps ((ls.length : Int) / 2) ((ls.length : Int) / 2)).gen) == 0#64)) ∧ True) ⟨s0, s2, s3, s4, s5, s6, s7, rfl, rfl, s12, s33, s43, trivial⟩ ?_
     rintro fr27 ⟨s0, s2, s3, s4, s5, s6, s7, s8, s9, s12, s33, s43, _⟩
     refine cw_seq (sR ?_)
     refine rM rfl s9 <| rw_q rfl (ev_i64_neq (b := 0) rfl rfl) <| rN ?_
     have hd28 : (6 != 0) = true := by decide
     refine cw_cond_t rfl hd28 <| sR <| rM rfl s9 <| rw_q rfl (ev_assign (v := (Value.pointer none)) rfl) <| rw_q rfl (ev_assign (v := (i64 6)) rfl) ?_
     refine rN (cw_ret (kThen_ret ?_))
     refine fnPost_ret [(Value.pointer none), (i64 6)] ⟨rfl, rfl, trivial⟩ ?_
     exact ⟨rfl, hm25.toExt⟩
   · -- false
     have hc21p := ne_of_beq_false hc21
     refine cw_skip (kThen_normal (cw_seq ?_))
     have hml := hMq16
     have hln := hLq16
     have hrm : (roomB (readH ls ps ((ls.length : Int) / 2) ((ls.length : Int) / 2)).recs : Int) ≤ ((ls.length : Int) / 2) := by have h1 := hI2.room; have h2 := hI2.at1; omega
     have hel : ∀ b ∈ (readH ls ps ((ls.length : Int) / 2) ((ls.length : Int) / 2)).recs, b.length ≤ 42000 := fun b hb => by have h1 := hI2.el b hb; omega
     have hrlm := room_len (L := (readH ls ps ((ls.length : Int) / 2) ((ls.length : Int) / 2)).recs)
     have hlm := congrArg List.length hml; rw [List.length_map] at hlm
     refine cw_region <| rM rfl s7 <| rM rfl s7 <| rw_q rfl (ev_nilCheck rfl) <| rw_q rfl (ev_fa (r := 1) uT100 rfl (by first | rfl | omega) ti97 rfl rfl) <| rw_q rfl (ev_fa (r := 4) uT97 rfl (by first | rfl | omega) ti22 rfl rfl) ?_
     refine rw_q (v := vrq16) rfl (ev_load1 uT22 rfl rfl hm19.h0 rfl) <| rw_c rfl (opR_call Try.func51 bd51 nm51 (args2 rfl rfl) (c_jturn0 b28 ((ls.length : Int) / 2) ((ls.length : Int) / 2) ((readH ls ps ((ls.length : Int) / 2) ((ls.length : Int) / 2)).gen) vrq16 ((readH ls ps ((ls.length : Int) / 2) ((ls.length : Int) / 2)).at_) bd vl ls vp ps vrq16 rsq16 _ hm19.h0 (hm19.rest _ _ hd) (RdK.ofRest hrl hm19) (RdK.ofRest hrp hm19) (GrowL.rd grq16 (Mem.pick [_, _] Hrq16 _ hm19) nN) (map_el hml hel) sL sL sL sL (.inr hnew))) ?_
     rintro _ w29 ⟨rfl, _ew29⟩
     have hm29 := hm19.ext _ew29
     refine rw_q rfl (ev_move (v := (Value.tuple #[(Value.pointer none), (i64 6)])) rfl) <| rw_q (v := (Value.pointer none)) rfl (ev_extract rfl rfl) <| rw_q (v := (i64 6)) rfl (ev_extract rfl rfl) <| rw_q rfl (ev_assign (v := (Value.pointer none)) rfl) <| rw_q rfl (ev_assign (v := (i64 6)) rfl) ?_
     refine rN (cw_seq (sR ?_))
     refine rw_q rfl (ev_move (v := (i64 6)) rfl) <| rw_q rfl (ev_i64_neq (b := 0) rfl rfl) <| rN ?_
     have hd31 : (6 != 0) = true := by decide
     refine cw_cond_t rfl hd31 <| sR <| rw_q rfl (ev_move (v := (i64 6)) rfl) <| rw_q rfl (ev_assign (v := (Value.pointer none)) rfl) <| rw_q rfl (ev_assign (v := (i64 6)) rfl) <| rN ?_
     refine CW.abs (fun g => g 0 = (ptr bd 0) ∧ g 2 = (Value.pointer none) ∧ g 3 = (i64 6) ∧ g 4 = (i64 ((ls.length : Int) / 2)) ∧ g 5 = (ptr b5 0) ∧ g 6 = (ptr b6 0) ∧ g 7 = (ptr b28 0) ∧ g 8 = (Value.pointer none) ∧ g 9 = (i64 6) ∧ g 12 = (bl (decide ((ls.length : Int) < 4))) ∧ g 33 = (bl (decide (((readH ls ps 0 ((ls.length : Int) / 2)).gen).toNat < ((readH ls ps ((ls.length : Int) / 2) ((ls.length : Int) / 2)).gen).toNat))) ∧ g 43 = (bl (((readH ls ps ((ls.length : Int) / 2) ((ls.length : Int) / 2)).gen) == 0#64)) ∧ g 65 = (bl (6 != 0)) ∧ True) ⟨s0, rfl, rfl, s4, s5, s6, s7, rfl, rfl, s12, s33, s43, rfl, trivial⟩ ?_
     rintro fr32 ⟨s0, s2, s3, s4, s5, s6, s7, s8, s9, s12, s33, s43, s65, _⟩
     refine cw_ret (kThen_ret ?_)
     refine fnPost_ret [(Value.pointer none), (i64 6)] ⟨s2, s3, trivial⟩ ?_
     exact ⟨rfl, hm29.toExt⟩
 · -- false
   have hc18p := of_decide_eq_false hc18
   refine cw_skip (kThen_normal (cw_seq (sR ?_)))
   refine rw_q rfl (ev_move (v := (ptr b28 0)) rfl) <| rw_q rfl (ev_nilCheck rfl) <| rw_q rfl (ev_fa (r := 1) uT100 rfl (by first | rfl | omega) ti97 rfl rfl) <| rw_q rfl (ev_fa (r := 3) uT97 rfl (by first | rfl | omega) ti95 rfl rfl) <| rw_q (v := (u64 ((readH ls ps 0 ((ls.length : Int) / 2)).gen))) rfl (ev_load1 uT95 rfl rfl hm17.h0 rfl) <| rw_q rfl (ev_u64_eql (b := 0#64) rfl rfl) ?_
   refine rN ?_
   refine CW.abs (fun g => g 0 = (ptr bd 0) ∧ g 2 = (Value.pointer none) ∧ g 3 = (i64 0) ∧ g 4 = (i64 ((ls.length : Int) / 2)) ∧ g 5 = (ptr b5 0) ∧ g 6 = (ptr b6 0) ∧ g 7 = (ptr b28 0) ∧ g 12 = (bl (decide ((ls.length : Int) < 4))) ∧ g 33 = (bl (decide (((readH ls ps 0 ((ls.length : Int) / 2)).gen).toNat < ((readH ls ps ((ls.length : Int) / 2) ((ls.length : Int) / 2)).gen).toNat))) ∧ g 43 = (bl (((readH ls ps 0 ((ls.length : Int) / 2)).gen) == 0#64)) ∧ True) ⟨s0, s2, s3, s4, s5, s6, rfl, s12, rfl, rfl, trivial⟩ ?_
   rintro fr33 ⟨s0, s2, s3, s4, s5, s6, s7, s12, s33, s43, _⟩
   refine cw_cond s43 (fun hc34 => ?_) (fun hc34 => ?_)
   · -- true
     have hc34p := eq_of_beq hc34
     refine cw_region <| rM rfl s7 <| rM rfl s7 <| rM rfl s4 <| rw_c rfl (or_buildSlice_ones [(Value.slice none 0 0)] (by simp [slc, ptr, Value.oneCell', i64, u8, u32, u64, bl]) hm17 uT22 ti23 rfl rfl rfl) ?_
     rintro _ w35 ⟨b47_1, rfl, _ew35, hm35⟩
     have hm35 : Mem w35 (restOf w0) ([(b47_1, .cells #[(Value.slice none 0 0)] 23 (0, 0)), (b28, .cells #[(ptr bd 0), (i64 0), (i64 ((ls.length : Int) / 2)), (u64 ((readH ls ps 0 ((ls.length : Int) / 2)).gen)), vrq12, (i64 ((readH ls ps 0 ((ls.length : Int) / 2)).at_))] 100 (0, 0)), (b6, .cells #[(i64 ((ls.length : Int) / 2)), (i64 ((ls.length : Int) / 2)), (u64 ((readH ls ps ((ls.length : Int) / 2) ((ls.length : Int) / 2)).gen)), vrq16, (i64 ((readH ls ps ((ls.length : Int) / 2) ((ls.length : Int) / 2)).at_))] 97 (0, 0))] ++ (Hrq16 ++ ([(b5, .cells #[(i64 0), (i64 ((ls.length : Int) / 2)), (u64 ((readH ls ps 0 ((ls.length : Int) / 2)).gen)), vrq12, (i64 ((readH ls ps 0 ((ls.length : Int) / 2)).at_))] 97 (0, 0))] ++ (Hrq12 ++ ([]))))) := hm35
     obtain ⟨HL35, gL35, hmL35⟩ : ∃ q, GrowL mN 23 (slc b47_1 0 1 1) [toSl (Value.slice none 0 0) ([])] q ∧ Mem w35 (restOf w0) (q ++ ([(b28, .cells #[(ptr bd 0), (i64 0), (i64 ((ls.length : Int) / 2)), (u64 ((readH ls ps 0 ((ls.length : Int) / 2)).gen)), vrq12, (i64 ((readH ls ps 0 ((ls.length : Int) / 2)).at_))] 100 (0, 0)), (b6, .cells #[(i64 ((ls.length : Int) / 2)), (i64 ((ls.length : Int) / 2)), (u64 ((readH ls ps ((ls.length : Int) / 2) ((ls.length : Int) / 2)).gen)), vrq16, (i64 ((readH ls ps ((ls.length : Int) / 2) ((ls.length : Int) / 2)).at_))] 97 (0, 0))] ++ (Hrq16 ++ ([(b5, .cells #[(i64 0), (i64 ((ls.length : Int) / 2)), (u64 ((readH ls ps 0 ((ls.length : Int) / 2)).gen)), vrq12, (i64 ((readH ls ps 0 ((ls.length : Int) / 2)).at_))] 97 (0, 0))] ++ (Hrq12 ++ ([])))))) := ⟨_, GrowL.of1 slv_nil el_nil, (by
       have hT := hm35
       try simp only [List.append_assoc, List.cons_append, List.nil_append, List.append_nil] at hT ⊢
       exact hT)⟩
     refine rw_q rfl (ev_nilCheck rfl) <| rw_q rfl (ev_fa (r := 1) uT100 rfl (by first | rfl | omega) ti97 rfl rfl) <| rw_q rfl (ev_fa (r := 1) uT97 rfl (by first | rfl | omega) ti3 rfl rfl) <| rw_n (or_store1 ti3 rfl rfl (i64_one _) ((Mem.pick HL35 [_] _ hmL35)).h0 (by simp) (.inl (Nat.zero_le _))) ?_
     rintro _ w36 uq36
     have hm36 : Mem w36 (restOf w0) ([(b28, .cells #[(ptr bd 0), (i64 ((ls.length : Int) / 2)), (i64 ((ls.length : Int) / 2)), (u64 ((readH ls ps 0 ((ls.length : Int) / 2)).gen)), vrq12, (i64 ((readH ls ps 0 ((ls.length : Int) / 2)).at_))] 100 (0, 0))] ++ (HL35 ++ ([(b6, .cells #[(i64 ((ls.length : Int) / 2)), (i64 ((ls.length : Int) / 2)), (u64 ((readH ls ps ((ls.length : Int) / 2) ((ls.length : Int) / 2)).gen)), vrq16, (i64 ((readH ls ps ((ls.length : Int) / 2) ((ls.length : Int) / 2)).at_))] 97 (0, 0))] ++ (Hrq16 ++ ([(b5, .cells #[(i64 0), (i64 ((ls.length : Int) / 2)), (u64 ((readH ls ps 0 ((ls.length : Int) / 2)).gen)), vrq12, (i64 ((readH ls ps 0 ((ls.length : Int) / 2)).at_))] 97 (0, 0))] ++ (Hrq12 ++ ([]))))))) := Mem.upd0 (Mem.pick HL35 [_] _ hmL35) uq36
     refine rw_q rfl (ev_nilCheck rfl) <| rw_q rfl (ev_fa (r := 1) uT100 rfl (by first | rfl | omega) ti97 rfl rfl) <| rw_q rfl (ev_fa (r := 4) uT97 rfl (by first | rfl | omega) ti22 rfl rfl) <| rw_n (or_store1 ti22 rfl rfl gL35.one hm36.h0 (by simp) (.inl (Nat.zero_le _))) ?_
     rintro _ w37 uq37
     have hm37 : Mem w37 (restOf w0) ([(b28, .cells #[(ptr bd 0), (i64 ((ls.length : Int) / 2)), (i64 ((ls.length : Int) / 2)), (u64 ((readH ls ps 0 ((ls.length : Int) / 2)).gen)), (slc b47_1 0 1 1), (i64 ((readH ls ps 0 ((ls.length : Int) / 2)).at_))] 100 (0, 0))] ++ (HL35 ++ ([(b6, .cells #[(i64 ((ls.length : Int) / 2)), (i64 ((ls.length : Int) / 2)), (u64 ((readH ls ps ((ls.length : Int) / 2) ((ls.length : Int) / 2)).gen)), vrq16, (i64 ((readH ls ps ((ls.length : Int) / 2) ((ls.length : Int) / 2)).at_))] 97 (0, 0))] ++ (Hrq16 ++ ([(b5, .cells #[(i64 0), (i64 ((ls.length : Int) / 2)), (u64 ((readH ls ps 0 ((ls.length : Int) / 2)).gen)), vrq12, (i64 ((readH ls ps 0 ((ls.length : Int) / 2)).at_))] 97 (0, 0))] ++ (Hrq12 ++ ([]))))))) := hm36.upd0 uq37
     refine rN (cw_seq ?_)
     have hml := nil_map
     have hln : [toSl (Value.slice none 0 0) ([])].length = 1 := rfl
     have hrm : (roomB [[]] : Int) ≤ ((ls.length : Int) / 2) := by rw [room_nil]; omega
     have hel := nil_el
     have hrlm := room_len (L := [[]])
     have hlm := congrArg List.length hml; rw [List.length_map] at hlm
     refine cw_region <| rM rfl s7 <| rM rfl s7 <| rw_q rfl (ev_nilCheck rfl) <| rw_q rfl (ev_fa (r := 1) uT100 rfl (by first | rfl | omega) ti97 rfl rfl) <| rw_q rfl (ev_fa (r := 4) uT97 rfl (by first | rfl | omega) ti22 rfl rfl) ?_
     refine rw_q (v := (slc b47_1 0 1 1)) rfl (ev_load1 uT22 rfl rfl hm37.h0 rfl) <| rw_c rfl (opR_call Try.func51 bd51 nm51 (args2 rfl rfl) (c_jturn0 b28 ((ls.length : Int) / 2) ((ls.length : Int) / 2) ((readH ls ps 0 ((ls.length : Int) / 2)).gen) (slc b47_1 0 1 1) ((readH ls ps 0 ((ls.length : Int) / 2)).at_) bd vl ls vp ps (slc b47_1 0 1 1) ([toSl (Value.slice none 0 0) ([])]) _ hm37.h0 (hm37.rest _ _ hd) (RdK.ofRest hrl hm37) (RdK.ofRest hrp hm37) (GrowL.rd gL35 (Mem.pick [_] HL35 _ hm37) nN) (map_el hml hel) sL sL sL sL (.inr hnew))) ?_
     rintro _ w38 ⟨rfl, _ew38⟩
     have hm38 := hm37.ext _ew38
     refine rw_q rfl (ev_move (v := (Value.tuple #[(Value.pointer none), (i64 6)])) rfl) <| rw_q (v := (Value.pointer none)) rfl (ev_extract rfl rfl) <| rw_q (v := (i64 6)) rfl (ev_extract rfl rfl) <| rw_q rfl (ev_assign (v := (Value.pointer none)) rfl) <| rw_q rfl (ev_assign (v := (i64 6)) rfl) <| rN ?_
     refine CW.abs (fun g => g 0 = (ptr bd 0) ∧ g 2 = (Value.pointer none) ∧ g 3 = (i64 0) ∧ g 4 = (i64 ((ls.length : Int) / 2)) ∧ g 5 = (ptr b5 0) ∧ g 6 = (ptr b6 0) ∧ g 7 = (ptr b28 0) ∧ g 8 = (Value.pointer none) ∧ g 9 = (i64 6) ∧ g 12 = (bl (decide ((ls.length : Int) < 4))) ∧ g 33 = (bl (decide (((readH ls ps 0 ((ls.length : Int) / 2)).gen).toNat < ((readH ls ps ((ls.length : Int) / 2) ((ls.length : Int) / 2)).gen).toNat))) ∧ g 43 = (bl (((readH ls ps 0 ((ls.length : Int) / 2)).gen) == 0#64)) ∧ True) ⟨s0, s2, s3, s4, s5, s6, s7, rfl, rfl, s12, s33, s43, trivial⟩ ?_
     rintro fr40 ⟨s0, s2, s3, s4, s5, s6, s7, s8, s9, s12, s33, s43, _⟩
     refine cw_seq (sR ?_)
     refine rM rfl s9 <| rw_q rfl (ev_i64_neq (b := 0) rfl rfl) <| rN ?_
     have hd41 : (6 != 0) = true := by decide
     refine cw_cond_t rfl hd41 <| sR <| rM rfl s9 <| rw_q rfl (ev_assign (v := (Value.pointer none)) rfl) <| rw_q rfl (ev_assign (v := (i64 6)) rfl) ?_
     refine rN (cw_ret (kThen_ret ?_))
     refine fnPost_ret [(Value.pointer none), (i64 6)] ⟨rfl, rfl, trivial⟩ ?_
     exact ⟨rfl, hm38.toExt⟩
   · -- false
     have hc34p := ne_of_beq_false hc34
     refine cw_skip (kThen_normal (cw_seq ?_))
     have hml := hMq12
     have hln := hLq12
     have hrm : (roomB (readH ls ps 0 ((ls.length : Int) / 2)).recs : Int) ≤ ((ls.length : Int) / 2) := by have h1 := hI1.room; have h2 := hI1.at1; omega
     have hel : ∀ b ∈ (readH ls ps 0 ((ls.length : Int) / 2)).recs, b.length ≤ 42000 := fun b hb => by have h1 := hI1.el b hb; omega
     have hrlm := room_len (L := (readH ls ps 0 ((ls.length : Int) / 2)).recs)
     have hlm := congrArg List.length hml; rw [List.length_map] at hlm
     refine cw_region <| rM rfl s7 <| rM rfl s7 <| rw_q rfl (ev_nilCheck rfl) <| rw_q rfl (ev_fa (r := 1) uT100 rfl (by first | rfl | omega) ti97 rfl rfl) <| rw_q rfl (ev_fa (r := 4) uT97 rfl (by first | rfl | omega) ti22 rfl rfl) ?_
     refine rw_q (v := vrq12) rfl (ev_load1 uT22 rfl rfl hm17.h0 rfl) <| rw_c rfl (opR_call Try.func51 bd51 nm51 (args2 rfl rfl) (c_jturn0 b28 0 ((ls.length : Int) / 2) ((readH ls ps 0 ((ls.length : Int) / 2)).gen) vrq12 ((readH ls ps 0 ((ls.length : Int) / 2)).at_) bd vl ls vp ps vrq12 rsq12 _ hm17.h0 (hm17.rest _ _ hd) (RdK.ofRest hrl hm17) (RdK.ofRest hrp hm17) (GrowL.rd grq12 (Mem.pick3 [_, _] Hrq16 [_] Hrq12 _ hm17) nN) (map_el hml hel) sL sL sL sL (.inr hnew))) ?_
     rintro _ w42 ⟨rfl, _ew42⟩
     have hm42 := hm17.ext _ew42
     refine rw_q rfl (ev_move (v := (Value.tuple #[(Value.pointer none), (i64 6)])) rfl) <| rw_q (v := (Value.pointer none)) rfl (ev_extract rfl rfl) <| rw_q (v := (i64 6)) rfl (ev_extract rfl rfl) <| rw_q rfl (ev_assign (v := (Value.pointer none)) rfl) <| rw_q rfl (ev_assign (v := (i64 6)) rfl) ?_
     refine rN (cw_seq (sR ?_))
     refine rw_q rfl (ev_move (v := (i64 6)) rfl) <| rw_q rfl (ev_i64_neq (b := 0) rfl rfl) <| rN ?_
     have hd44 : (6 != 0) = true := by decide
     refine cw_cond_t rfl hd44 <| sR <| rw_q rfl (ev_move (v := (i64 6)) rfl) <| rw_q rfl (ev_assign (v := (Value.pointer none)) rfl) <| rw_q rfl (ev_assign (v := (i64 6)) rfl) <| rN ?_
     refine CW.abs (fun g => g 0 = (ptr bd 0) ∧ g 2 = (Value.pointer none) ∧ g 3 = (i64 6) ∧ g 4 = (i64 ((ls.length : Int) / 2)) ∧ g 5 = (ptr b5 0) ∧ g 6 = (ptr b6 0) ∧ g 7 = (ptr b28 0) ∧ g 8 = (Value.pointer none) ∧ g 9 = (i64 6) ∧ g 12 = (bl (decide ((ls.length : Int) < 4))) ∧ g 33 = (bl (decide (((readH ls ps 0 ((ls.length : Int) / 2)).gen).toNat < ((readH ls ps ((ls.length : Int) / 2) ((ls.length : Int) / 2)).gen).toNat))) ∧ g 43 = (bl (((readH ls ps 0 ((ls.length : Int) / 2)).gen) == 0#64)) ∧ g 65 = (bl (6 != 0)) ∧ True) ⟨s0, rfl, rfl, s4, s5, s6, s7, rfl, rfl, s12, s33, s43, rfl, trivial⟩ ?_
     rintro fr45 ⟨s0, s2, s3, s4, s5, s6, s7, s8, s9, s12, s33, s43, s65, _⟩
     refine cw_ret (kThen_ret ?_)
     refine fnPost_ret [(Value.pointer none), (i64 6)] ⟨s2, s3, trivial⟩ ?_
     exact ⟨rfl, hm42.toExt⟩

set_option maxHeartbeats 2000000 in
theorem c_jrestart0 (bj : Nat) (fr0 sz : Int) (ge : BitVec 64) (vr : Value) (ja : Int) (bd : Nat) (vl : Value) (ls : List (List (BitVec 8))) (vp : Value) (ps : List WriteT) (vb : Value) (b : List (BitVec 8)) (w0 : World)  (hj : blks w0 bj = some (.cells #[ptr bd 0, i64 fr0, i64 sz, u64 ge, vr, i64 ja] 100 (0, 0))) (hd : blks w0 bd = some (.cells #[vl, vp] 94 (0, 0))) (hrl : RdK (blks w0) (encA u8) 64 vl ls) (hrp : RdK (blks w0) encW 65 vp ps) (hb : Rd (blks w0) u8 vb b) (hbl : b.length ≤ 42000) (hll : ls.length ≤ 65536) (hpl : ps.length ≤ 1000) (hsz : 0 ≤ sz ∧ sz ≤ 1000) (hbad : sz < (blocksN b.length : Int) ∨ (newB ls ps == 0#64) = true) : CallsR Try.prog 21 #[(ptr bj 0), vb] w0 (fun r w1 => r = (i64 6) ∧ Ext w0 w1) := by
 refine callsR_of_cw (args := [(ptr bj 0), vb]) Try.func21 rfl Try.ntmps21 Try.results21 rfl ?_
 have hm0 : Mem w0 (restOf w0) [] := Mem.of_world w0
 refine sR <| rw_q rfl (ev_assign (v := (i64 0)) rfl) ?_
 refine rN (sR ?_)
 refine rw_q rfl (ev_move (v := (ptr bj 0)) rfl) <| rM rfl (v := vb) rfl <| rw_c rfl (or_buildSlice_ones [vb] (List.all_eq_true.1 (one_cons (Rd.one (Rd.ofRest hb hm0)) one_nil)) hm0 uT22 ti23 rfl rfl rfl) ?_
 rintro _ w1 ⟨b10, rfl, _ew1, hm1⟩
 have hm1 : Mem w1 (restOf w0) [(b10, .cells #[vb] 23 (0, 0))] := hm1
 refine rw_c rfl (opR_call Try.func51 bd51 nm51 (args2 rfl rfl) (c_jturn0 bj fr0 sz ge vr ja bd vl ls vp ps (slc b10 0 1 1) ([toSl vb b]) _ (hm1.rest _ _ hj) (hm1.rest _ _ hd) (RdK.ofRest hrl hm1) (RdK.ofRest hrp hm1) (RdL.one1 (l0 := b) hm1.h0 (Rd.ofRest hb hm1)) (map_el1 hbl) sL sL sL sL (by rw [one_map, room_1]; exact hbad))) ?_
 rintro _ w2 ⟨rfl, _ew2⟩
 have hm2 := hm1.ext _ew2
 refine rw_q rfl (ev_move (v := (Value.tuple #[(Value.pointer none), (i64 6)])) rfl) <| rw_q (v := (Value.pointer none)) rfl (ev_extract rfl rfl) <| rw_q (v := (i64 6)) rfl (ev_extract rfl rfl) <| rw_q rfl (ev_assign (v := (Value.pointer none)) rfl) <| rw_q rfl (ev_assign (v := (i64 6)) rfl) ?_
 refine rN (cw_seq (sR ?_))
 refine rw_q rfl (ev_move (v := (i64 6)) rfl) <| rw_q rfl (ev_i64_neq (b := 0) rfl rfl) <| rN ?_
 have hd4 : (6 != 0) = true := by decide
 refine cw_cond_t rfl hd4 <| sR <| rw_q rfl (ev_move (v := (i64 6)) rfl) <| rw_q rfl (ev_assign (v := (i64 6)) rfl) ?_
 refine rN (cw_ret (kThen_ret ?_))
 refine fnPost_ret [(i64 6)] ⟨rfl, trivial⟩ ?_
 exact ⟨rfl, hm2.toExt⟩


end Go.Proofs.Ytfbnhoolkajebaa
