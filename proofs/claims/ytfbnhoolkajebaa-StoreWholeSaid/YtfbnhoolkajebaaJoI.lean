/- A disk with any blocks; calls; a journal opened as the document says. Conditions: none beyond those that each theorem states. -/
import Derived.Test.YtfbnhoolkajebaaJoG
namespace Go.Proofs.Ytfbnhoolkajebaa
section
set_option linter.unusedVariables false
set_option linter.unusedSimpArgs false
attribute [local irreducible] crashB crashK pushB readB inB errB cutN seenW
attribute [local irreducible] markB putB getB getK partB placeF blkOf rawB writeK blocksN
attribute [local irreducible] mostK newB roomB
attribute [local irreducible] recB recF recN genF badB lastP dataB gOf rOf pOf nOf loopH readH
attribute [local irreducible] okP layK turnL turnP oldB
attribute [local irreducible] openD
attribute [local irreducible] okG okV GB natB fitsB
attribute [local irreducible] syncF
attribute [local irreducible] gY rY pY nY wholeY dY halfL halfR diskR topK
attribute [local irreducible] putD blksD layD
set_option maxHeartbeats 2000000 in
theorem c_jturn0 (bj : Nat) (fr0 sz : Int) (ge : BitVec 64) (vj : Value) (ja : Int) (bd : Nat) (vl : Value) (ls : List (List (BitVec 8))) (vp : Value) (ps : List WriteT) (vL : Value) (rl : List SlT) (w0 : World)  (hj : blks w0 bj = some (.cells #[ptr bd 0, i64 fr0, i64 sz, u64 ge, vj, i64 ja] 100 (0, 0))) (hd : blks w0 bd = some (.cells #[vl, vp] 94 (0, 0))) (hrl : RdK (blks w0) (encA u8) 64 vl ls) (hrp : RdK (blks w0) encW 65 vp ps) (hrL : RdL (blks w0) vL rl) (hre : ∀ p ∈ rl, p.2.length ≤ 4000000) (h1 : rl.length ≤ 2000) (hll : ls.length ≤ 65536) (hpl : ps.length ≤ 2000) (hsz : 0 ≤ sz ∧ sz ≤ 2000) (hbad : sz < (roomB (rl.map (·.2)) : Int) ∨ (newB ls ps == 0#64) = true) : CallsR Try.prog 51 #[(ptr bj 0), vL] w0 (fun r w1 => r = (Value.tuple #[(Value.pointer none), (i64 6)]) ∧ Ext w0 w1) := by
 refine callsR_of_cw (args := [(ptr bj 0), vL]) Try.func51 rfl Try.ntmps51 Try.results51 rfl ?_
 have hm0 : Mem w0 (restOf w0) [] := Mem.of_world w0
 refine sR <| rw_q rfl (ev_assign (v := (Value.pointer none)) rfl) <| rw_q rfl (ev_assign (v := (i64 0)) rfl) ?_
 refine rN (sR ?_)
 refine rw_q rfl (ev_assign (v := (i64 0)) rfl) ?_
 refine rN (cw_seq (sR ?_))
 refine rM rfl (v := vL) rfl <| rw_q (v := (i64 (rl.length : Int))) rfl (ev_len_rd (RdL.row (RdL.ofRest (R := (restOf w0)) hrL hm0)) uT22 rfl) <| rw_q rfl (ev_move (v := (i64 0)) rfl) ?_
 refine rN (cw_block ?_)
 refine cw_loop (fun g wv => ∃ (k : Nat), (k ≤ rl.length) ∧ (roomB ((rl.map (·.2)).take k) ≤ 4000001 * k) ∧ g 0 = (ptr bj 0) ∧ g 1 = vL ∧ g 4 = (Value.pointer none) ∧ g 5 = (i64 0) ∧ g 6 = (i64 (roomB ((rl.map (·.2)).take k) : Int)) ∧ g 13 = vL ∧ g 14 = (i64 (rl.length : Int)) ∧ g 15 = (i64 (k : Int)) ∧ Mem wv (restOf w0) []) (fun g wv => ((rl.length : Int) - RowKit.intOf (g 15)).toNat) ?_ ?_
 · exact ⟨0, (Nat.zero_le _), room_0n, rfl, rfl, rfl, rfl, (congrArg i64 room_0), rfl, rfl, rfl, hm0⟩
 · rintro fr1 w2 ⟨k, hk, hrb, s0, s1, s4, s5, s6, s13, s14, s15, hm2⟩
   have z6 := s6
   have z15 := s15
   refine sR <| rw_q rfl (ev_i64_lss s15 s14) ?_
   refine rN (cw_seq ?_)
   refine cw_cond rfl (fun hc3 => ?_) (fun hc3 => ?_)
   · -- true
     have hc3p := of_decide_eq_true hc3
     have hgk : (rl.getD k sl0).2 = (rl.map (·.2)).getD k [] := snd_getD rfl oM
     have hre1 := hre _ (getD_mem (d := sl0) (show k < rl.length by omega))
     have hrs1 := roomT_S (L := (rl.map (·.2))) (k := k) (by simp; omega)
     have hbp := blocksN_pos (rl.getD k sl0).2.length
     refine cw_skip (kThen_normal (cw_seq (cw_block (sR ?_))))
     refine rw_q rfl (ev_indexAddr_rdv (RdL.row (RdL.ofRest (R := (restOf w0)) hrL hm2)) uT22 ti23 s13 s15 oM sL) <| rw_q (v := (slv (rl.getD k sl0))) rfl (ev_load_rdD (l := rl) (i := (k : Int)) (dflt := sl0) (RdL.row (RdL.ofRest (R := (restOf w0)) hrL hm2)) uT23 rfl oM sL rfl) <| rw_q rfl (ev_assign (v := (slv (rl.getD k sl0))) rfl) ?_
     refine rN (cw_region ?_)
     refine rM rfl s6 <| rw_q rfl (ev_move (v := (slv (rl.getD k sl0))) rfl) <| rw_q (v := (i64 (((rl.getD k sl0).2).length : Int))) rfl (ev_len_rd (RdL.get (k := k) (RdL.ofRest (R := (restOf w0)) hrL hm2) sL) uT23 rfl) <| rw_c rfl (opR_call Try.func53 bd53 nm53 (args1 rfl) (c_jblocks (((rl.getD k sl0).2).length) _ sL)) ?_
     rintro _ w4 ⟨rfl, _ew4⟩
     have hm4 := hm2.ext _ew4
     refine rw_q rfl (ev_i64_add rfl rfl oM oM) <| rA rfl rfl ?_
     refine rw_nil (kBlk_normal (cw_region ?_))
     refine rw_q rfl (ev_i64_add (b := 1) s15 rfl oM oM) <| rw_q rfl (ev_move (v := (i64 ((k : Int) + 1))) rfl) <| rN ?_
     exact ⟨⟨(k + 1), oM, (by rw [hrs1, ← hgk]; omega), s0, s1, s4, s5, (Eq.trans rfl (congrArg i64 (by rw [hrs1, ← hgk]; push_cast; rfl))), s13, s14, rfl, hm4⟩, meas (rfl) z15 oM oM⟩
   · -- false
     have hc3p := of_decide_eq_false hc3
     have hneq : (roomB ((rl.map (·.2)).take k) : Int) = (roomB (rl.map (·.2)) : Int) := by rw [List.take_of_length_le (by simp; omega)]
     refine CW.abs (fun g => g 0 = (ptr bj 0) ∧ g 1 = vL ∧ g 4 = (Value.pointer none) ∧ g 5 = (i64 0) ∧ g 6 = (i64 (roomB (rl.map (·.2)) : Int)) ∧ g 13 = vL ∧ g 14 = (i64 (rl.length : Int)) ∧ g 15 = (i64 (k : Int)) ∧ g 16 = (bl (decide ((k : Int) < (rl.length : Int)))) ∧ True) ⟨s0, s1, s4, s5, (Eq.trans s6 (congrArg i64 hneq)), s13, s14, s15, rfl, trivial⟩ ?_
     rintro fr6 ⟨s0, s1, s4, s5, s6, s13, s14, s15, s16, _⟩
     refine cw_exit ?_
     refine kThen_exit (kThen_exit (kBlk_hit ?_))
     refine sR <| rM rfl s0 <| rw_q rfl (ev_nilCheck rfl) <| rw_q rfl (ev_fa (r := 0) uT100 rfl (by first | rfl | omega) ti25 rfl rfl) <| rw_q (v := (ptr bd 0)) rfl (ev_load1 uT25 rfl rfl (hm2.rest _ _ hj) rfl) <| rw_c rfl (opR_call Try.func71 bd71 nm71 (args1 rfl) (c_jnewest bd vl ls vp ps _ (hm2.rest _ _ hd) (RdK.ofRest hrl hm2) (RdK.ofRest hrp hm2) sL sL)) ?_
     rintro _ w7 ⟨rfl, _ew7⟩
     have hm7 := hm2.ext _ew7
     refine rw_q rfl (ev_assign (v := (u64 (newB ls ps))) rfl) ?_
     refine rN (cw_seq (sR ?_))
     refine rM rfl s6 <| rM rfl s0 <| rw_q rfl (ev_nilCheck rfl) <| rw_q rfl (ev_fa (r := 1) uT100 rfl (by first | rfl | omega) ti97 rfl rfl) <| rw_q rfl (ev_fa (r := 2) uT97 rfl (by first | rfl | omega) ti3 rfl rfl) <| rw_q (v := (i64 sz)) rfl (ev_load1 uT3 rfl rfl (hm7.rest _ _ hj) rfl) ?_
     refine rw_q rfl (ev_i64_gtr rfl rfl) <| rw_q rfl (ev_move (v := (bl (decide (sz < (roomB (rl.map (·.2)) : Int))))) rfl) ?_
     rcases Bool.eq_false_or_eq_true (decide (sz < (roomB (rl.map (·.2)) : Int))) with hb9 | hb9
     · -- true
       have hb9p := of_decide_eq_true hb9
       refine rw_gn (s := 37) rfl rfl hb9 rfl <| rw_gn (s := 37) rfl rfl hb9 rfl <| rw_q rfl (ev_pick_tk rfl hb9 rfl) <| rN ?_
       refine CW.abs (fun g => g 0 = (ptr bj 0) ∧ g 1 = vL ∧ g 4 = (Value.pointer none) ∧ g 5 = (i64 0) ∧ g 6 = (i64 (roomB (rl.map (·.2)) : Int)) ∧ g 9 = (u64 (newB ls ps)) ∧ g 13 = vL ∧ g 14 = (i64 (rl.length : Int)) ∧ g 15 = (i64 (k : Int)) ∧ g 16 = (bl (decide ((k : Int) < (rl.length : Int)))) ∧ g 40 = (bl true) ∧ True) ⟨s0, s1, s4, s5, s6, rfl, s13, s14, s15, s16, rfl, trivial⟩ ?_
       rintro fr10 ⟨s0, s1, s4, s5, s6, s9, s13, s14, s15, s16, s40, _⟩
       refine cw_cond_t s40 (by decide) <| sR <| rw_q rfl (ev_assign (v := (Value.pointer none)) rfl) <| rw_q rfl (ev_assign (v := (i64 6)) rfl) ?_
       refine rN (cw_ret (kThen_ret ?_))
       refine fnPost_ret [(Value.pointer none), (i64 6)] ⟨rfl, rfl, trivial⟩ ?_
       exact ⟨rfl, hm7.toExt⟩
     · -- false
       have hb9p := of_decide_eq_false hb9
       refine rw_gyq (s := 37) rfl rfl hb9 rfl (ev_move (v := (u64 (newB ls ps))) rfl) <| rw_gyq (s := 37) rfl rfl hb9 rfl (ev_u64_eql (b := 0#64) rfl rfl) <| rw_q rfl (ev_pick_fk rfl hb9 rfl) <| rN ?_
       refine CW.abs (fun g => g 0 = (ptr bj 0) ∧ g 1 = vL ∧ g 4 = (Value.pointer none) ∧ g 5 = (i64 0) ∧ g 6 = (i64 (roomB (rl.map (·.2)) : Int)) ∧ g 9 = (u64 (newB ls ps)) ∧ g 13 = vL ∧ g 14 = (i64 (rl.length : Int)) ∧ g 15 = (i64 (k : Int)) ∧ g 16 = (bl (decide ((k : Int) < (rl.length : Int)))) ∧ g 40 = (bl ((newB ls ps) == 0#64)) ∧ True) ⟨s0, s1, s4, s5, s6, rfl, s13, s14, s15, s16, rfl, trivial⟩ ?_
       rintro fr11 ⟨s0, s1, s4, s5, s6, s9, s13, s14, s15, s16, s40, _⟩
       have hd12 : ((newB ls ps) == 0#64) = true := hbad.resolve_left (of_decide_eq_false hb9)
       refine cw_cond_t s40 hd12 <| sR <| rw_q rfl (ev_assign (v := (Value.pointer none)) rfl) <| rw_q rfl (ev_assign (v := (i64 6)) rfl) ?_
       refine rN (cw_ret (kThen_ret ?_))
       refine fnPost_ret [(Value.pointer none), (i64 6)] ⟨rfl, rfl, trivial⟩ ?_
       exact ⟨rfl, hm7.toExt⟩

set_option maxHeartbeats 2000000 in
theorem c_jrestart0 (bj : Nat) (fr0 sz : Int) (ge : BitVec 64) (vr : Value) (ja : Int) (bd : Nat) (vl : Value) (ls : List (List (BitVec 8))) (vp : Value) (ps : List WriteT) (vb : Value) (b : List (BitVec 8)) (w0 : World)  (hj : blks w0 bj = some (.cells #[ptr bd 0, i64 fr0, i64 sz, u64 ge, vr, i64 ja] 100 (0, 0))) (hd : blks w0 bd = some (.cells #[vl, vp] 94 (0, 0))) (hrl : RdK (blks w0) (encA u8) 64 vl ls) (hrp : RdK (blks w0) encW 65 vp ps) (hb : Rd (blks w0) u8 vb b) (hbl : b.length ≤ 4000000) (hll : ls.length ≤ 65536) (hpl : ps.length ≤ 2000) (hsz : 0 ≤ sz ∧ sz ≤ 2000) (hbad : sz < (blocksN b.length : Int) ∨ (newB ls ps == 0#64) = true) : CallsR Try.prog 21 #[(ptr bj 0), vb] w0 (fun r w1 => r = (i64 6) ∧ Ext w0 w1) := by
 refine callsR_of_cw (args := [(ptr bj 0), vb]) Try.func21 rfl Try.ntmps21 Try.results21 rfl ?_
 have hm0 : Mem w0 (restOf w0) [] := Mem.of_world w0
 refine sR <| rw_q rfl (ev_assign (v := (i64 0)) rfl) ?_
 refine rN (sR ?_)
 refine rw_q rfl (ev_move (v := (ptr bj 0)) rfl) <| rM rfl (v := vb) rfl <| rw_c rfl (or_buildSlice_ones [vb] (List.all_eq_true.1 (one_cons (Rd.one (Rd.ofRest hb hm0)) one_nil)) hm0 uT22 ti23 rfl rfl rfl) ?_
 rintro _ w1 ⟨b10, rfl, _ew1, hm1⟩
 have hm1 : Mem w1 (restOf w0) [(b10, .cells #[vb] 23 (0, 0))] := hm1
 refine rw_c rfl (opR_call Try.func51 bd51 nm51 (args2 rfl rfl) (c_jturn0 bj fr0 sz ge vr ja bd vl ls vp ps (slc b10 0 1 1) ([toSl vb b]) _ (hm1.rest _ _ hj) (hm1.rest _ _ hd) (RdK.ofRest hrl hm1) (RdK.ofRest hrp hm1) (RdL.one1 (l0 := b) hm1.h0 (Rd.ofRest hb hm1)) (map_el1 hbl) sL sL sL sL (by rw [one_map, room_1]; exact hbad))) ?_
 rintro _ w2 ⟨rfl, _ew2⟩
 have hm2 := hm1.ext _ew2
 refine rw_q rfl (ev_move (v := (Value.tuple #[(Value.pointer none), (i64 6)])) rfl) <| rw_q (v := (Value.pointer none)) rfl (ev_extract rfl rfl) <| rw_q (v := (i64 6)) rfl (ev_extract rfl rfl) <| rw_q rfl (ev_assign (v := (Value.pointer none)) rfl) <| rw_q rfl (ev_assign (v := (i64 6)) rfl) ?_
 refine rN (cw_seq (sR ?_))
 refine rw_q rfl (ev_move (v := (i64 6)) rfl) <| rw_q rfl (ev_i64_neq (b := 0) rfl rfl) <| rN ?_
 have hd4 : (6 != 0) = true := by decide
 refine cw_cond_t rfl hd4 <| sR <| rw_q rfl (ev_move (v := (i64 6)) rfl) <| rw_q rfl (ev_assign (v := (i64 6)) rfl) ?_
 refine rN (cw_ret (kThen_ret ?_))
 refine fnPost_ret [(i64 6)] ⟨rfl, trivial⟩ ?_
 exact ⟨rfl, hm2.toExt⟩


end --m
section
set_option linter.unusedVariables false
set_option linter.unusedSimpArgs false
/-! ### A disk with any blocks; calls -/
section
variable {P : Program} {t : TypeId} {f0 f1 f2 : Field} {k0 k1 k2 n : Nat} {C0 C1 C2 : World → List Value → Prop}
theorem opens_sx3 (hu : P.underlying t = some (.struct #[f0, f1, f2])) (hct : P.cellsOf t = n) (hn : n = k0 + (k1 + k2)) (o : f0.offset = 0 ∧ f1.offset = k0 ∧ f2.offset = k0 + k1) (c : P.cellsOf f0.type = k0 ∧ P.cellsOf f1.type = k1 ∧ P.cellsOf f2.type = k2)
    (h0 : Opens P f0.type C0) (h1 : Opens P f1.type C1) (h2 : Opens P f2.type C2) :
    Opens P t (fun w cs => ∃ c0 c1 c2, cs = c0 ++ (c1 ++ c2) ∧ C0 w c0 ∧ C1 w c1 ∧ C2 w c2) := by
  refine ⟨fun H en w fuel cs x h => ?_⟩
  obtain ⟨xs, m, _, _, hl, hlen, hf⟩ := DataW.trod_struct hu h
  have g : ∀ (i : Nat) (f : Field) (C : World → List Value → Prop), #[f0, f1, f2][i]? = some f → i < 3 → Opens P f.type C → C w ((cs.drop f.offset).take (P.cellsOf f.type)) := by
    intro i f C hi hi5 hop
    have h5 := hf i f hi
    rw [List.getElem?_eq_getElem (by rw [hlen]; simpa using hi5)] at h5
    exact hop.is H en w m _ _ h5
  have q0 := g 0 f0 C0 rfl oM h0
  have q1 := g 1 f1 C1 rfl oM h1
  have q2 := g 2 f2 C2 rfl oM h2
  rw [o.1, c.1] at q0
  rw [o.2.1, c.2.1] at q1
  rw [o.2.2, c.2.2] at q2
  rw [hct, hn] at hl
  refine ⟨_, _, _, ?_, q0, q1, q2⟩
  have e2 : (cs.drop (k0 + k1)).take k2 = cs.drop (k0 + k1) := List.take_of_length_le (by rw [List.length_drop]; omega)
  have e1 : (cs.drop k0).take k1 ++ cs.drop (k0 + k1) = cs.drop k0 := by rw [← List.drop_drop (i := k1)]; exact List.take_append_drop _ _
  rw [e2, e1, List.drop_zero, List.take_append_drop]
end
theorem rdQ {α : Type} {l : List α} {d : α} {k : Nat} {m : Nat → Option Obj} (g : α → SlT) (h : ∀ a ∈ l, Rd m u8 (slv (g a)) (g a).2) (hk : k < l.length) : Rd m u8 (slv (g (l.getD k d))) (g (l.getD k d)).2 := h _ (getD_mem hk)
attribute [local irreducible] crashB crashK pushB readB inB errB cutN seenW
attribute [local irreducible] markB putB getB getK partB placeF blkOf rawB writeK blocksN
attribute [local irreducible] mostK newB roomB
attribute [local irreducible] recB recF recN genF badB lastP dataB gOf rOf pOf nOf loopH readH
attribute [local irreducible] okP layK turnL turnP oldB
attribute [local irreducible] openD
attribute [local irreducible] okG okV GB natB fitsB
attribute [local irreducible] syncF
attribute [local irreducible] gY rY pY nY wholeY dY halfL halfR diskR topK
attribute [local irreducible] putD blksD layD
end --m
end Go.Proofs.Ytfbnhoolkajebaa
