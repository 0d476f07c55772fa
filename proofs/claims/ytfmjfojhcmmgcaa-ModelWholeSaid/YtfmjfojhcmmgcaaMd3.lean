/- Contracts: faults, and what is missing. Conditions: none beyond those that each theorem states. -/
import Derived.Test.YtfmjfojhcmmgcaaMd2
namespace Go.Proofs.Ytfmjfojhcmmgcaa
set_option linter.unusedVariables false
set_option linter.unusedSimpArgs false
attribute [local irreducible] judgeF missF atI accF seenF jpre missK stepF

set_option maxHeartbeats 4000000 in
theorem c_judge (vs : Value) (ls : List SentT) (who : ByteArray) (vn : Value) (ln : List NoteT) (w0 : World)  (hrs : RdK (blks w0) encS 6 vs ls) (hqs : ∀ a ∈ ls, Rd (blks w0) u8 (slv a.body) a.body.2) (hls : ls.length ≤ 1048576) (hrn : RdK (blks w0) encN 5 vn ln) (hqn : ∀ a ∈ ln, Rd (blks w0) u8 (slv a.body) a.body.2) (hln : ln.length ≤ 1048576) : CallsR Try.prog 21 #[vs, (Value.string who), vn] w0 (fun r w1 => ∃ Hs, Grow i64 3 r (judgeF ls who ln) Hs ∧ Mem w1 (restOf w0) Hs) := by
 refine callsR_of_cw (args := [vs, (Value.string who), vn]) Try.func21 rfl Try.ntmps21 Try.results21 rfl ?_
 have hm0 : Mem w0 (restOf w0) [] := Mem.of_world w0
 refine sR <| rw_q rfl (ev_assign (v := (Value.slice none 0 0)) rfl) ?_
 refine rN (sR ?_)
 refine rw_c rfl (or_makeMap (fun n : Int => i64 n) hm0) ?_
 rintro _ w1 ⟨b16, om1, rfl, _ew1, hm1, hM1⟩
 have hm1 : Mem w1 (restOf w0) [(b16, om1)] := hm1
 refine rw_c rfl (or_makeMap two hm1) ?_
 rintro _ w2 ⟨b17, om2, rfl, _ew2, hm2, hM2⟩
 have hm2 : Mem w2 (restOf w0) [(b17, om2), (b16, om1)] := hm2
 refine rw_q rfl (ev_assign (v := (Value.map (some b16))) rfl) <| rw_q rfl (ev_assign (v := (Value.map (some b17))) rfl) ?_
 refine rN (cw_seq (sR ?_))
 refine rM rfl (v := vn) rfl <| rw_q (v := (i64 (ln.length : Int))) rfl (ev_len_rk (RdK.ofRest hrn hm2) uT23 rfl) <| rw_q rfl (ev_move (v := (i64 0)) rfl) ?_
 refine rN (cw_block ?_)
 refine cw_loop (fun g wv => ∃ (k : Nat) (of os : Obj) (mf : Int → Bool) (ms : ByteArray × ByteArray → Bool), (k ≤ ln.length) ∧ (MapIs (fun n : Int => i64 n) of mf) ∧ (MapIs two os ms) ∧ (∀ f, 1 ≤ f → f ≤ 5 → mf f = accF ls who ln k f) ∧ (∀ p, ms p = seenF ln k p) ∧ g 0 = vs ∧ g 1 = (Value.string who) ∧ g 2 = vn ∧ g 6 = (Value.slice none 0 0) ∧ g 7 = (Value.map (some b16)) ∧ g 8 = (Value.map (some b17)) ∧ g 18 = vn ∧ g 19 = (i64 (ln.length : Int)) ∧ g 20 = (i64 (k : Int)) ∧ Mem wv (restOf w0) [(b16, of), (b17, os)]) (fun g wv => ((ln.length : Int) - RowKit.intOf (g 20)).toNat) ?_ ?_
 have hm3 := (Mem.pick [_] [_] _ hm2)
 · exact ⟨0, om1, om2, (fun _ => false), (fun _ => false), (Nat.zero_le _), hM1, hM2, (fun f _ _ => acc_0 f), (fun p => seen_0 p), rfl, rfl, rfl, rfl, rfl, rfl, rfl, rfl, rfl, hm3⟩
 · rintro fr4 w5 ⟨k, of, os, mf, ms, hk, hmf, hms, him, hse, s0, s1, s2, s6, s7, s8, s18, s19, s20, hm5⟩
   have z7 := s7
   have z8 := s8
   have z20 := s20
   refine sR <| rw_q rfl (ev_i64_lss s20 s19) ?_
   refine rN (cw_seq ?_)
   refine cw_cond rfl (fun hc6 => ?_) (fun hc6 => ?_)
   · -- true
     have hc6p := of_decide_eq_true hc6
     refine cw_skip (kThen_normal (cw_seq (cw_block (sR ?_))))
     refine rw_q rfl (ev_indexAddr_rk (i := (k : Int)) (RdK.ofRest hrn hm5) uT23 ti26 s18 s20 oM sL) <| rw_q (v := (Value.agg #[(Value.string ((ln.getD k note0).th)), (Value.string ((ln.getD k note0).frm)), (Value.string ((ln.getD k note0).id_)), (bl ((ln.getD k note0).sl)), (slv (ln.getD k note0).body)])) rfl (ev_load_rkA (i := (k : Int)) (dflt := note0) (cs := #[(Value.string ((ln.getD k note0).th)), (Value.string ((ln.getD k note0).frm)), (Value.string ((ln.getD k note0).id_)), (bl ((ln.getD k note0).sl)), (slv (ln.getD k note0).body)]) (RdK.ofRest hrn hm5) sL uT26 rfl ti26 rfl rfl (by decide) rfl) <| rw_c rfl (or_allocX hm5 ti26) ?_
     rintro _ w7 ⟨b10, rfl, _ew7, hm7⟩
     refine rw_n (or_storeW (cs := #[(Value.string ((ln.getD k note0).th)), (Value.string ((ln.getD k note0).frm)), (Value.string ((ln.getD k note0).id_)), (bl ((ln.getD k note0).sl)), (slv (ln.getD k note0).body)]) ti26 rfl rfl (by kernel_rfl) (one_arr (one_cons rfl (one_cons rfl (one_cons rfl (one_cons rfl (one_cons rfl one_nil)))))) hm7.h0 (by kernel_rfl) rfl) ?_
     rintro _ w8 uq8
     have hm8 : Mem w8 (restOf w0) [(b10, .cells #[(Value.string ((ln.getD k note0).th)), (Value.string ((ln.getD k note0).frm)), (Value.string ((ln.getD k note0).id_)), (bl ((ln.getD k note0).sl)), (slv (ln.getD k note0).body)] 26 (0, 0)), (b16, of), (b17, os)] := hm7.upd0 uq8
     refine rN (sR ?_)
     refine rw_q rfl (ev_fa (r := 1) uT26 rfl (by first | rfl | omega) ti9 rfl rfl) <| rw_q (v := (Value.string ((ln.getD k note0).frm))) rfl (ev_load1 uT9 rfl rfl hm8.h0 rfl) <| rw_q rfl (ev_fa (r := 2) uT26 rfl (by first | rfl | omega) ti9 rfl rfl) <| rw_q (v := (Value.string ((ln.getD k note0).id_))) rfl (ev_load1 uT9 rfl rfl hm8.h0 rfl) <| rw_q rfl (ev_build_pt (c := #[(Value.string ((ln.getD k note0).frm)), (Value.string ((ln.getD k note0).id_))]) (pl := [(0, 1), (1, 1)]) ti82 uT82 (by kernel_rfl) (pm_cons (i := 0) (v := (Value.string ((ln.getD k note0).frm))) (cs := #[(Value.string ((ln.getD k note0).frm))]) rfl rfl (pm_cons (i := 1) (v := (Value.string ((ln.getD k note0).id_))) (cs := #[(Value.string ((ln.getD k note0).id_))]) rfl rfl pm_nil)) (by kernel_rfl)) <| rw_c rfl (or_allocX hm8 ti82) ?_
     rintro _ w9 ⟨b11, rfl, _ew9, hm9⟩
     refine rw_n (or_storeW (cs := #[(Value.string ((ln.getD k note0).frm)), (Value.string ((ln.getD k note0).id_))]) ti82 rfl rfl (by kernel_rfl) (one_arr (one_cons rfl (one_cons rfl one_nil))) hm9.h0 (by kernel_rfl) rfl) ?_
     rintro _ w10 uq10
     have hm10 : Mem w10 (restOf w0) [(b11, .cells #[(Value.string ((ln.getD k note0).frm)), (Value.string ((ln.getD k note0).id_))] 82 (0, 0)), (b10, .cells #[(Value.string ((ln.getD k note0).th)), (Value.string ((ln.getD k note0).frm)), (Value.string ((ln.getD k note0).id_)), (bl ((ln.getD k note0).sl)), (slv (ln.getD k note0).body)] 26 (0, 0)), (b16, of), (b17, os)] := hm9.upd0 uq10
     refine rN (sR ?_)
     refine rM rfl s7 <| rM rfl s7 <| rw_q rfl (ev_lookup (m := mf) (k := (2 : Int)) kok_i uT85 ti4 hm10.h2 hmf rfl rfl) <| rw_q rfl (ev_move (v := (bl (mf (2 : Int)))) rfl) ?_
     rcases Bool.eq_false_or_eq_true (mf (2 : Int)) with hb11 | hb11
     · -- true
       refine rw_gn (s := 32) rfl rfl hb11 rfl <| rw_gn (s := 32) rfl rfl hb11 rfl <| rw_gn (s := 32) rfl rfl hb11 rfl <| rw_q rfl (ev_pick_tk rfl hb11 rfl) <| rw_n (or_mapUpdate (m := mf) (k := (2 : Int)) (v := true) (H := [(b11, .cells #[(Value.string ((ln.getD k note0).frm)), (Value.string ((ln.getD k note0).id_))] 82 (0, 0)), (b10, .cells #[(Value.string ((ln.getD k note0).th)), (Value.string ((ln.getD k note0).frm)), (Value.string ((ln.getD k note0).id_)), (bl ((ln.getD k note0).sl)), (slv (ln.getD k note0).body)] 26 (0, 0)), (b17, os)]) kok_i uT85 (Mem.pick [_, _] [_] _ hm10) hmf rfl rfl rfl) ?_
       rintro _ w12 ⟨om12, hm12, hM12⟩
       obtain ⟨mp12, hmp12⟩ : ∃ q, q = fun j => if j = (2 : Int) then true else mf j := ⟨_, rfl⟩
       rw [← hmp12] at hM12
       refine rN ?_
       refine CW.abs (fun g => g 0 = vs ∧ g 1 = (Value.string who) ∧ g 2 = vn ∧ g 6 = (Value.slice none 0 0) ∧ g 7 = (Value.map (some b16)) ∧ g 8 = (Value.map (some b17)) ∧ g 10 = (ptr b10 0) ∧ g 11 = (ptr b11 0) ∧ g 18 = vn ∧ g 19 = (i64 (ln.length : Int)) ∧ g 20 = (i64 (k : Int)) ∧ g 21 = (bl (decide ((k : Int) < (ln.length : Int)))) ∧ True) ⟨s0, s1, s2, s6, s7, s8, rfl, rfl, s18, s19, s20, rfl, trivial⟩ ?_
       rintro fr13 ⟨s0, s1, s2, s6, s7, s8, s10, s11, s18, s19, s20, s21, _⟩
       refine sR <| rM rfl s8 <| rw_q (v := (Value.agg #[(Value.string ((ln.getD k note0).frm)), (Value.string ((ln.getD k note0).id_))])) rfl (ev_loadW uT82 rfl ti82 s11 hm12.h1 (by kernel_rfl)) <| rw_n (or_mapUpdate (m := ms) (k := ((ln.getD k note0).frm, (ln.getD k note0).id_)) (v := true) (H := [(b16, om12), (b11, .cells #[(Value.string ((ln.getD k note0).frm)), (Value.string ((ln.getD k note0).id_))] 82 (0, 0)), (b10, .cells #[(Value.string ((ln.getD k note0).th)), (Value.string ((ln.getD k note0).frm)), (Value.string ((ln.getD k note0).id_)), (bl ((ln.getD k note0).sl)), (slv (ln.getD k note0).body)] 26 (0, 0))]) kok_m uT84 (Mem.pick [_, _, _] [_] _ hm12) hms rfl rfl rfl) ?_
       rintro _ w14 ⟨om14, hm14, hM14⟩
       obtain ⟨mp14, hmp14⟩ : ∃ q, q = fun j => if j = ((ln.getD k note0).frm, (ln.getD k note0).id_) then true else ms j := ⟨_, rfl⟩
       rw [← hmp14] at hM14
       refine rN (sR ?_)
       refine rM rfl s0 <| rM rfl s1 <| rw_q (v := (Value.agg #[(Value.string ((ln.getD k note0).th)), (Value.string ((ln.getD k note0).frm)), (Value.string ((ln.getD k note0).id_)), (bl ((ln.getD k note0).sl)), (slv (ln.getD k note0).body)])) rfl (ev_loadW uT26 rfl ti26 s10 hm14.h3 (by kernel_rfl)) <| rw_c rfl (opR_call Try.func16 bd16 nm16 (args3 rfl rfl rfl) (c_mplace vs ls who (ln.getD k note0) _ (RdK.ofRest hrs hm14) (fun a h => Rd.ofRest (hqs a h) hm14) sL (Rd.ofRest (rdQ NoteT.body hqn (k := k) sD) hm14))) ?_
       rintro _ w15 ⟨rfl, _ew15⟩
       have hm15 := hm14.ext _ew15
       refine rM rfl rfl <| rw_q (v := (i64 (if 0 > atI ls who (ln.getD k note0) then 0 else atI ls who (ln.getD k note0)))) rfl (ev_extract rfl rfl) <| rw_q (v := (bl (decide (0 ≤ atI ls who (ln.getD k note0))))) rfl (ev_extract rfl rfl) <| rA rfl rfl <| rw_q rfl (ev_assign (v := (bl (decide (0 ≤ atI ls who (ln.getD k note0))))) rfl) ?_
       refine rN (cw_seq (sR ?_))
       refine rw_q rfl (ev_move (v := (bl (decide (0 ≤ atI ls who (ln.getD k note0))))) rfl) <| rw_q rfl (ev_not rfl) <| rN ?_
       refine CW.abs (fun g => g 0 = vs ∧ g 1 = (Value.string who) ∧ g 2 = vn ∧ g 6 = (Value.slice none 0 0) ∧ g 7 = (Value.map (some b16)) ∧ g 8 = (Value.map (some b17)) ∧ g 10 = (ptr b10 0) ∧ g 11 = (ptr b11 0) ∧ g 12 = (i64 (if 0 > atI ls who (ln.getD k note0) then 0 else atI ls who (ln.getD k note0))) ∧ g 13 = (bl (decide (0 ≤ atI ls who (ln.getD k note0)))) ∧ g 18 = vn ∧ g 19 = (i64 (ln.length : Int)) ∧ g 20 = (i64 (k : Int)) ∧ g 21 = (bl (decide ((k : Int) < (ln.length : Int)))) ∧ g 47 = (bl (!(decide (0 ≤ atI ls who (ln.getD k note0))))) ∧ True) ⟨s0, s1, s2, s6, s7, s8, s10, s11, rfl, rfl, s18, s19, s20, s21, rfl, trivial⟩ ?_
       rintro fr17 ⟨s0, s1, s2, s6, s7, s8, s10, s11, s12, s13, s18, s19, s20, s21, s47, _⟩
       refine cw_cond s47 (fun hc18 => ?_) (fun hc18 => ?_)
       · -- true
         have hc18n : (decide (0 ≤ atI ls who (ln.getD k note0))) = false := by simpa using hc18
         have hc18p := of_decide_eq_false hc18n
         refine sR <| rM rfl s7 <| rw_n (or_mapUpdate (m := mp12) (k := (1 : Int)) (v := true) (H := [(b17, om14), (b11, .cells #[(Value.string ((ln.getD k note0).frm)), (Value.string ((ln.getD k note0).id_))] 82 (0, 0)), (b10, .cells #[(Value.string ((ln.getD k note0).th)), (Value.string ((ln.getD k note0).frm)), (Value.string ((ln.getD k note0).id_)), (bl ((ln.getD k note0).sl)), (slv (ln.getD k note0).body)] 26 (0, 0))]) kok_i uT85 (Mem.pick [_] [_] _ hm15) hM12 rfl rfl rfl) ?_
         rintro _ w19 ⟨om19, hm19, hM19⟩
         obtain ⟨mp19, hmp19⟩ : ∃ q, q = fun j => if j = (1 : Int) then true else mp12 j := ⟨_, rfl⟩
         rw [← hmp19] at hM19
         refine rN (cw_exit ?_)
         refine kThen_exit (kBlk_hit ?_)
         refine cw_region <| rw_q rfl (ev_i64_add (b := 1) s20 rfl oM oM) <| rw_q rfl (ev_move (v := (i64 ((k : Int) + 1))) rfl) <| rN ?_
         obtain ⟨t1, t3, t4, t5⟩ := st_no (pre := ln.take k) (by simpa using hc18 : decide (0 ≤ atI ls who (ln.getD k note0)) = false)
         have c1 : mp19 1 = (true) := by simp [hmp19]
         have c2 : mp19 2 = (true) := by simp [hmp19, hmp12]
         have c3 : mp19 3 = (mf 3) := by simp [hmp19, hmp12]
         have c4 : mp19 4 = (mf 4) := by simp [hmp19, hmp12]
         have c5 : mp19 5 = (mf 5) := by simp [hmp19, hmp12]
         have hm20 := Mem.drop ([(b11, .cells #[(Value.string ((ln.getD k note0).frm)), (Value.string ((ln.getD k note0).id_))] 82 (0, 0))]) _ (Mem.pick [_, _] [_] _ hm19)
         have hm21 := Mem.drop ([(b10, .cells #[(Value.string ((ln.getD k note0).th)), (Value.string ((ln.getD k note0).frm)), (Value.string ((ln.getD k note0).id_)), (bl ((ln.getD k note0).sl)), (slv (ln.getD k note0).body)] 26 (0, 0))]) _ (Mem.pick [_, _] [_] _ hm20)
         exact ⟨⟨(k + 1), om19, om14, mp19, mp14, oM, hM19, hM14, (acc_step him (by rw [c1, t1, Bool.or_true]) (by rw [c2, hb11]; rfl) (by rw [c3, t3, Bool.or_false]) (by rw [c4, t4, Bool.or_false]) (by rw [c5, t5, Bool.or_false])), (fun p => by rw [hmp14, ← seen_succ oM p, ← hse p]), s0, s1, s2, s6, s7, s8, s18, s19, rfl, hm21⟩, meas (rfl) z20 oM oM⟩
       · -- false
         have hc18n : (decide (0 ≤ atI ls who (ln.getD k note0))) = true := by simpa using hc18
         have hc18p := of_decide_eq_true hc18n
         obtain ⟨aq, haq⟩ : ∃ q : Nat, atI ls who (ln.getD k note0) = (q : Int) := ⟨(atI ls who (ln.getD k note0)).toNat, (Int.toNat_of_nonneg (of_decide_eq_true (by simpa using hc18))).symm⟩
         have har := at_range (sent := ls) (who := who) (n := (ln.getD k note0))
         have e12 : i64 (if 0 > atI ls who (ln.getD k note0) then 0 else atI ls who (ln.getD k note0)) = i64 (aq : Int) := by rw [haq]; exact congrArg i64 (if_neg oM)
         refine CW.abs (fun g => g 0 = vs ∧ g 1 = (Value.string who) ∧ g 2 = vn ∧ g 6 = (Value.slice none 0 0) ∧ g 7 = (Value.map (some b16)) ∧ g 8 = (Value.map (some b17)) ∧ g 10 = (ptr b10 0) ∧ g 11 = (ptr b11 0) ∧ g 12 = (i64 (aq : Int)) ∧ g 13 = (bl (decide (0 ≤ atI ls who (ln.getD k note0)))) ∧ g 18 = vn ∧ g 19 = (i64 (ln.length : Int)) ∧ g 20 = (i64 (k : Int)) ∧ g 21 = (bl (decide ((k : Int) < (ln.length : Int)))) ∧ g 47 = (bl (!(decide (0 ≤ atI ls who (ln.getD k note0))))) ∧ True) ⟨s0, s1, s2, s6, s7, s8, s10, s11, (Eq.trans s12 e12), s13, s18, s19, s20, s21, s47, trivial⟩ ?_
         rintro fr22 ⟨s0, s1, s2, s6, s7, s8, s10, s11, s12, s13, s18, s19, s20, s21, s47, _⟩
         refine cw_skip (kThen_normal (sR ?_))
         refine rM rfl s0 <| rM rfl s12 <| rw_q rfl (ev_indexAddr_rk (i := (aq : Int)) (RdK.ofRest hrs hm15) uT22 ti39 rfl rfl oM sL) <| rw_q (v := (Value.agg #[(Value.string ((ls.getD aq sent0).frm)), (Value.string ((ls.getD aq sent0).to_)), (Value.string ((ls.getD aq sent0).id_)), (Value.string ((ls.getD aq sent0).th)), (bl ((ls.getD aq sent0).sl)), (slv (ls.getD aq sent0).body)])) rfl (ev_load_rkA (i := (aq : Int)) (dflt := sent0) (cs := #[(Value.string ((ls.getD aq sent0).frm)), (Value.string ((ls.getD aq sent0).to_)), (Value.string ((ls.getD aq sent0).id_)), (Value.string ((ls.getD aq sent0).th)), (bl ((ls.getD aq sent0).sl)), (slv (ls.getD aq sent0).body)]) (RdK.ofRest hrs hm15) sL uT39 rfl ti39 rfl rfl (by decide) rfl) <| rw_c rfl (or_allocX hm15 ti39) ?_
         rintro _ w23 ⟨b14, rfl, _ew23, hm23⟩
         refine rw_n (or_storeW (cs := #[(Value.string ((ls.getD aq sent0).frm)), (Value.string ((ls.getD aq sent0).to_)), (Value.string ((ls.getD aq sent0).id_)), (Value.string ((ls.getD aq sent0).th)), (bl ((ls.getD aq sent0).sl)), (slv (ls.getD aq sent0).body)]) ti39 rfl rfl (by kernel_rfl) (one_arr (one_cons rfl (one_cons rfl (one_cons rfl (one_cons rfl (one_cons rfl (one_cons rfl one_nil))))))) hm23.h0 (by kernel_rfl) rfl) ?_
         rintro _ w24 uq24
         have hm24 : Mem w24 (restOf w0) [(b14, .cells #[(Value.string ((ls.getD aq sent0).frm)), (Value.string ((ls.getD aq sent0).to_)), (Value.string ((ls.getD aq sent0).id_)), (Value.string ((ls.getD aq sent0).th)), (bl ((ls.getD aq sent0).sl)), (slv (ls.getD aq sent0).body)] 39 (0, 0)), (b17, om14), (b16, om12), (b11, .cells #[(Value.string ((ln.getD k note0).frm)), (Value.string ((ln.getD k note0).id_))] 82 (0, 0)), (b10, .cells #[(Value.string ((ln.getD k note0).th)), (Value.string ((ln.getD k note0).frm)), (Value.string ((ln.getD k note0).id_)), (bl ((ln.getD k note0).sl)), (slv (ln.getD k note0).body)] 26 (0, 0))] := hm23.upd0 uq24
         refine rN (sR ?_)
         refine rM rfl s7 <| rM rfl s7 <| rw_q rfl (EvQ.cast (congrArg bl (show mp12 (3 : Int) = (mf (3 : Int)) from by simp [hmp12])) (ev_lookup (m := mp12) (k := (3 : Int)) kok_i uT85 ti4 hm24.h2 hM12 rfl rfl)) <| rw_q rfl (ev_move (v := (bl (mf (3 : Int)))) rfl) ?_
         rcases Bool.eq_false_or_eq_true (mf (3 : Int)) with hb25 | hb25
         · -- true
           refine rw_gn (s := 56) rfl rfl hb25 rfl <| rw_gn (s := 56) rfl rfl hb25 rfl <| rw_gn (s := 56) rfl rfl hb25 rfl <| rw_gn (s := 56) rfl rfl hb25 rfl <| rw_gn (s := 56) rfl rfl hb25 rfl <| rw_q rfl (ev_pick_tk rfl hb25 rfl) ?_
           refine rw_n (or_mapUpdate (m := mp12) (k := (3 : Int)) (v := true) (H := [(b14, .cells #[(Value.string ((ls.getD aq sent0).frm)), (Value.string ((ls.getD aq sent0).to_)), (Value.string ((ls.getD aq sent0).id_)), (Value.string ((ls.getD aq sent0).th)), (bl ((ls.getD aq sent0).sl)), (slv (ls.getD aq sent0).body)] 39 (0, 0)), (b17, om14), (b11, .cells #[(Value.string ((ln.getD k note0).frm)), (Value.string ((ln.getD k note0).id_))] 82 (0, 0)), (b10, .cells #[(Value.string ((ln.getD k note0).th)), (Value.string ((ln.getD k note0).frm)), (Value.string ((ln.getD k note0).id_)), (bl ((ln.getD k note0).sl)), (slv (ln.getD k note0).body)] 26 (0, 0))]) kok_i uT85 (Mem.pick [_, _] [_] _ hm24) hM12 rfl rfl rfl) ?_
           rintro _ w26 ⟨om26, hm26, hM26⟩
           obtain ⟨mp26, hmp26⟩ : ∃ q, q = fun j => if j = (3 : Int) then true else mp12 j := ⟨_, rfl⟩
           rw [← hmp26] at hM26
           refine rN ?_
           refine CW.abs (fun g => g 0 = vs ∧ g 1 = (Value.string who) ∧ g 2 = vn ∧ g 6 = (Value.slice none 0 0) ∧ g 7 = (Value.map (some b16)) ∧ g 8 = (Value.map (some b17)) ∧ g 10 = (ptr b10 0) ∧ g 11 = (ptr b11 0) ∧ g 12 = (i64 (aq : Int)) ∧ g 13 = (bl (decide (0 ≤ atI ls who (ln.getD k note0)))) ∧ g 14 = (ptr b14 0) ∧ g 18 = vn ∧ g 19 = (i64 (ln.length : Int)) ∧ g 20 = (i64 (k : Int)) ∧ g 21 = (bl (decide ((k : Int) < (ln.length : Int)))) ∧ g 47 = (bl (!(decide (0 ≤ atI ls who (ln.getD k note0))))) ∧ True) ⟨s0, s1, s2, s6, s7, s8, s10, s11, s12, s13, rfl, s18, s19, s20, s21, s47, trivial⟩ ?_
           rintro fr27 ⟨s0, s1, s2, s6, s7, s8, s10, s11, s12, s13, s14, s18, s19, s20, s21, s47, _⟩
           refine sR <| rM rfl s7 <| rM rfl s7 <| rw_q rfl (EvQ.cast (congrArg bl (show mp26 (4 : Int) = (mf (4 : Int)) from by simp [hmp26, hmp12])) (ev_lookup (m := mp26) (k := (4 : Int)) kok_i uT85 ti4 hm26.h0 hM26 rfl rfl)) <| rw_q rfl (ev_move (v := (bl (mf (4 : Int)))) rfl) ?_
           rcases Bool.eq_false_or_eq_true (mf (4 : Int)) with hb28 | hb28
           · -- true
             refine rw_gn (s := 66) rfl rfl hb28 rfl <| rw_gn (s := 66) rfl rfl hb28 rfl <| rw_gn (s := 66) rfl rfl hb28 rfl <| rw_gn (s := 66) rfl rfl hb28 rfl <| rw_gn (s := 66) rfl rfl hb28 rfl <| rw_gn (s := 66) rfl rfl hb28 rfl ?_
             refine rw_q rfl (ev_pick_tk rfl hb28 rfl) <| rw_n (or_mapUpdate (m := mp26) (k := (4 : Int)) (v := true) (H := [(b14, .cells #[(Value.string ((ls.getD aq sent0).frm)), (Value.string ((ls.getD aq sent0).to_)), (Value.string ((ls.getD aq sent0).id_)), (Value.string ((ls.getD aq sent0).th)), (bl ((ls.getD aq sent0).sl)), (slv (ls.getD aq sent0).body)] 39 (0, 0)), (b17, om14), (b11, .cells #[(Value.string ((ln.getD k note0).frm)), (Value.string ((ln.getD k note0).id_))] 82 (0, 0)), (b10, .cells #[(Value.string ((ln.getD k note0).th)), (Value.string ((ln.getD k note0).frm)), (Value.string ((ln.getD k note0).id_)), (bl ((ln.getD k note0).sl)), (slv (ln.getD k note0).body)] 26 (0, 0))]) kok_i uT85 hm26 hM26 rfl rfl rfl) ?_
             rintro _ w29 ⟨om29, hm29, hM29⟩
             obtain ⟨mp29, hmp29⟩ : ∃ q, q = fun j => if j = (4 : Int) then true else mp26 j := ⟨_, rfl⟩
             rw [← hmp29] at hM29
             refine rN (cw_region ?_)
             refine rM rfl s7 <| rM rfl s7 <| rw_q rfl (EvQ.cast (congrArg bl (show mp29 (5 : Int) = (mf (5 : Int)) from by simp [hmp29, hmp26, hmp12])) (ev_lookup (m := mp29) (k := (5 : Int)) kok_i uT85 ti4 hm29.h0 hM29 rfl rfl)) <| rw_q rfl (ev_move (v := (bl (mf (5 : Int)))) rfl) ?_
             rcases Bool.eq_false_or_eq_true (mf (5 : Int)) with hb30 | hb30
             · -- true
               refine rw_gn (s := 77) rfl rfl hb30 rfl <| rw_gn (s := 77) rfl rfl hb30 rfl <| rw_gn (s := 77) rfl rfl hb30 rfl <| rw_gn (s := 77) rfl rfl hb30 rfl <| rw_gn (s := 77) rfl rfl hb30 rfl <| rw_q rfl (ev_pick_tk rfl hb30 rfl) ?_
               refine rw_n (or_mapUpdate (m := mp29) (k := (5 : Int)) (v := true) (H := [(b14, .cells #[(Value.string ((ls.getD aq sent0).frm)), (Value.string ((ls.getD aq sent0).to_)), (Value.string ((ls.getD aq sent0).id_)), (Value.string ((ls.getD aq sent0).th)), (bl ((ls.getD aq sent0).sl)), (slv (ls.getD aq sent0).body)] 39 (0, 0)), (b17, om14), (b11, .cells #[(Value.string ((ln.getD k note0).frm)), (Value.string ((ln.getD k note0).id_))] 82 (0, 0)), (b10, .cells #[(Value.string ((ln.getD k note0).th)), (Value.string ((ln.getD k note0).frm)), (Value.string ((ln.getD k note0).id_)), (bl ((ln.getD k note0).sl)), (slv (ln.getD k note0).body)] 26 (0, 0))]) kok_i uT85 hm29 hM29 rfl rfl rfl) ?_
               rintro _ w31 ⟨om31, hm31, hM31⟩
               obtain ⟨mp31, hmp31⟩ : ∃ q, q = fun j => if j = (5 : Int) then true else mp29 j := ⟨_, rfl⟩
               rw [← hmp31] at hM31
               refine rw_nil (kBlk_normal ?_)
               refine CW.abs (fun g => g 0 = vs ∧ g 1 = (Value.string who) ∧ g 2 = vn ∧ g 6 = (Value.slice none 0 0) ∧ g 7 = (Value.map (some b16)) ∧ g 8 = (Value.map (some b17)) ∧ g 10 = (ptr b10 0) ∧ g 11 = (ptr b11 0) ∧ g 12 = (i64 (aq : Int)) ∧ g 13 = (bl (decide (0 ≤ atI ls who (ln.getD k note0)))) ∧ g 14 = (ptr b14 0) ∧ g 18 = vn ∧ g 19 = (i64 (ln.length : Int)) ∧ g 20 = (i64 (k : Int)) ∧ g 21 = (bl (decide ((k : Int) < (ln.length : Int)))) ∧ g 47 = (bl (!(decide (0 ≤ atI ls who (ln.getD k note0))))) ∧ True) ⟨s0, s1, s2, s6, s7, s8, s10, s11, s12, s13, s14, s18, s19, s20, s21, s47, trivial⟩ ?_
               rintro fr32 ⟨s0, s1, s2, s6, s7, s8, s10, s11, s12, s13, s14, s18, s19, s20, s21, s47, _⟩
               refine cw_region <| rw_q rfl (ev_i64_add (b := 1) s20 rfl oM oM) <| rw_q rfl (ev_move (v := (i64 ((k : Int) + 1))) rfl) <| rN ?_
               obtain ⟨t1, t3, t4, t5⟩ := st_ok (pre := ln.take k) (by simpa using hc18 : decide (0 ≤ atI ls who (ln.getD k note0)) = true)
               rw [show (atI ls who (ln.getD k note0)).toNat = aq by rw [haq]; rfl] at t3 t4 t5
               have c1 : mp31 1 = (mf 1) := by simp [hmp31, hmp29, hmp26, hmp12]
               have c2 : mp31 2 = (true) := by simp [hmp31, hmp29, hmp26, hmp12]
               have c3 : mp31 3 = (true) := by simp [hmp31, hmp29, hmp26]
               have c4 : mp31 4 = (true) := by simp [hmp31, hmp29]
               have c5 : mp31 5 = (true) := by simp [hmp31]
               have hm33 := Mem.drop ([(b14, .cells #[(Value.string ((ls.getD aq sent0).frm)), (Value.string ((ls.getD aq sent0).to_)), (Value.string ((ls.getD aq sent0).id_)), (Value.string ((ls.getD aq sent0).th)), (bl ((ls.getD aq sent0).sl)), (slv (ls.getD aq sent0).body)] 39 (0, 0))]) _ (Mem.pick [_] [_] _ hm31)
               have hm34 := Mem.drop ([(b11, .cells #[(Value.string ((ln.getD k note0).frm)), (Value.string ((ln.getD k note0).id_))] 82 (0, 0))]) _ (Mem.pick [_, _] [_] _ hm33)
               have hm35 := Mem.drop ([(b10, .cells #[(Value.string ((ln.getD k note0).th)), (Value.string ((ln.getD k note0).frm)), (Value.string ((ln.getD k note0).id_)), (bl ((ln.getD k note0).sl)), (slv (ln.getD k note0).body)] 26 (0, 0))]) _ (Mem.pick [_, _] [_] _ hm34)
               exact ⟨⟨(k + 1), om31, om14, mp31, mp14, oM, hM31, hM14, (acc_step him (by rw [c1, t1, Bool.or_false]) (by rw [c2, hb11]; rfl) (by rw [c3, hb25]; rfl) (by rw [c4, hb28]; rfl) (by rw [c5, hb30]; rfl)), (fun p => by rw [hmp14, ← seen_succ oM p, ← hse p]), s0, s1, s2, s6, s7, s8, s18, s19, rfl, hm35⟩, meas (rfl) z20 oM oM⟩
             · -- false
               refine rw_gyq (s := 77) rfl rfl hb30 rfl (ev_fa (r := 4) uT39 rfl (by first | rfl | omega) ti4 rfl s14) <| rw_gyq (s := 77) rfl rfl hb30 rfl (ev_load1 uT4 rfl rfl hm29.h1 rfl) <| rw_gyq (s := 77) rfl rfl hb30 rfl (ev_fa (r := 3) uT26 rfl (by first | rfl | omega) ti4 rfl s10) <| rw_gyq (s := 77) rfl rfl hb30 rfl (ev_load1 uT4 rfl rfl hm29.h4 rfl) <| rw_gyq (s := 77) rfl rfl hb30 rfl (ev_bool_neq uT4 rfl rfl) <| rw_q rfl (ev_pick_fk rfl hb30 rfl) ?_
               refine rw_n (or_mapUpdate (m := mp29) (k := (5 : Int)) (v := ((ls.getD aq sent0).sl) != ((ln.getD k note0).sl)) (H := [(b14, .cells #[(Value.string ((ls.getD aq sent0).frm)), (Value.string ((ls.getD aq sent0).to_)), (Value.string ((ls.getD aq sent0).id_)), (Value.string ((ls.getD aq sent0).th)), (bl ((ls.getD aq sent0).sl)), (slv (ls.getD aq sent0).body)] 39 (0, 0)), (b17, om14), (b11, .cells #[(Value.string ((ln.getD k note0).frm)), (Value.string ((ln.getD k note0).id_))] 82 (0, 0)), (b10, .cells #[(Value.string ((ln.getD k note0).th)), (Value.string ((ln.getD k note0).frm)), (Value.string ((ln.getD k note0).id_)), (bl ((ln.getD k note0).sl)), (slv (ln.getD k note0).body)] 26 (0, 0))]) kok_i uT85 hm29 hM29 rfl rfl rfl) ?_
               rintro _ w36 ⟨om36, hm36, hM36⟩
               obtain ⟨mp36, hmp36⟩ : ∃ q, q = fun j => if j = (5 : Int) then ((ls.getD aq sent0).sl) != ((ln.getD k note0).sl) else mp29 j := ⟨_, rfl⟩
               rw [← hmp36] at hM36
               refine rw_nil (kBlk_normal ?_)
               refine CW.abs (fun g => g 0 = vs ∧ g 1 = (Value.string who) ∧ g 2 = vn ∧ g 6 = (Value.slice none 0 0) ∧ g 7 = (Value.map (some b16)) ∧ g 8 = (Value.map (some b17)) ∧ g 10 = (ptr b10 0) ∧ g 11 = (ptr b11 0) ∧ g 12 = (i64 (aq : Int)) ∧ g 13 = (bl (decide (0 ≤ atI ls who (ln.getD k note0)))) ∧ g 14 = (ptr b14 0) ∧ g 18 = vn ∧ g 19 = (i64 (ln.length : Int)) ∧ g 20 = (i64 (k : Int)) ∧ g 21 = (bl (decide ((k : Int) < (ln.length : Int)))) ∧ g 47 = (bl (!(decide (0 ≤ atI ls who (ln.getD k note0))))) ∧ True) ⟨s0, s1, s2, s6, s7, s8, s10, s11, s12, s13, s14, s18, s19, s20, s21, s47, trivial⟩ ?_
               rintro fr37 ⟨s0, s1, s2, s6, s7, s8, s10, s11, s12, s13, s14, s18, s19, s20, s21, s47, _⟩
               refine cw_region <| rw_q rfl (ev_i64_add (b := 1) s20 rfl oM oM) <| rw_q rfl (ev_move (v := (i64 ((k : Int) + 1))) rfl) <| rN ?_
               obtain ⟨t1, t3, t4, t5⟩ := st_ok (pre := ln.take k) (by simpa using hc18 : decide (0 ≤ atI ls who (ln.getD k note0)) = true)
               rw [show (atI ls who (ln.getD k note0)).toNat = aq by rw [haq]; rfl] at t3 t4 t5
               have c1 : mp36 1 = (mf 1) := by simp [hmp36, hmp29, hmp26, hmp12]
               have c2 : mp36 2 = (true) := by simp [hmp36, hmp29, hmp26, hmp12]
               have c3 : mp36 3 = (true) := by simp [hmp36, hmp29, hmp26]
               have c4 : mp36 4 = (true) := by simp [hmp36, hmp29]
               have c5 : mp36 5 = (((ls.getD aq sent0).sl) != ((ln.getD k note0).sl)) := by simp [hmp36]
               have hm38 := Mem.drop ([(b14, .cells #[(Value.string ((ls.getD aq sent0).frm)), (Value.string ((ls.getD aq sent0).to_)), (Value.string ((ls.getD aq sent0).id_)), (Value.string ((ls.getD aq sent0).th)), (bl ((ls.getD aq sent0).sl)), (slv (ls.getD aq sent0).body)] 39 (0, 0))]) _ (Mem.pick [_] [_] _ hm36)
               have hm39 := Mem.drop ([(b11, .cells #[(Value.string ((ln.getD k note0).frm)), (Value.string ((ln.getD k note0).id_))] 82 (0, 0))]) _ (Mem.pick [_, _] [_] _ hm38)
               have hm40 := Mem.drop ([(b10, .cells #[(Value.string ((ln.getD k note0).th)), (Value.string ((ln.getD k note0).frm)), (Value.string ((ln.getD k note0).id_)), (bl ((ln.getD k note0).sl)), (slv (ln.getD k note0).body)] 26 (0, 0))]) _ (Mem.pick [_, _] [_] _ hm39)
               exact ⟨⟨(k + 1), om36, om14, mp36, mp14, oM, hM36, hM14, (acc_step him (by rw [c1, t1, Bool.or_false]) (by rw [c2, hb11]; rfl) (by rw [c3, hb25]; rfl) (by rw [c4, hb28]; rfl) (by rw [c5, hb30, t5, Bool.false_or])), (fun p => by rw [hmp14, ← seen_succ oM p, ← hse p]), s0, s1, s2, s6, s7, s8, s18, s19, rfl, hm40⟩, meas (rfl) z20 oM oM⟩
           · -- false
             refine rw_gyq (s := 66) rfl rfl hb28 rfl (ev_fa (r := 5) uT39 rfl (by first | rfl | omega) ti24 rfl s14) <| rw_gyq (s := 66) rfl rfl hb28 rfl (ev_load1 uT24 rfl rfl hm26.h1 rfl) <| rw_gyq (s := 66) rfl rfl hb28 rfl (ev_fa (r := 4) uT26 rfl (by first | rfl | omega) ti24 rfl s10) <| rw_gyq (s := 66) rfl rfl hb28 rfl (ev_load1 uT24 rfl rfl hm26.h4 rfl) <| rw_gy (s := 66) rfl rfl hb28 rfl (opR_call Try.func51 bd51 nm51 (args2 rfl rfl) (c_beq (slv (ls.getD aq sent0).body) (slv (ln.getD k note0).body) ((ls.getD aq sent0).body.2) ((ln.getD k note0).body.2) _ (Rd.ofRest (rdQ SentT.body hqs (k := aq) sD) hm26) (Rd.ofRest (rdQ NoteT.body hqn (k := k) sD) hm26))) ?_
             rintro _ w41 ⟨rfl, _ew41⟩
             have hm41 := hm26.ext _ew41
             refine rw_gyq (s := 66) rfl rfl hb28 rfl (ev_not rfl) <| rw_q rfl (ev_pick_fk rfl hb28 rfl) <| rw_n (or_mapUpdate (m := mp26) (k := (4 : Int)) (v := !(((ls.getD aq sent0).body.2) == ((ln.getD k note0).body.2))) (H := [(b14, .cells #[(Value.string ((ls.getD aq sent0).frm)), (Value.string ((ls.getD aq sent0).to_)), (Value.string ((ls.getD aq sent0).id_)), (Value.string ((ls.getD aq sent0).th)), (bl ((ls.getD aq sent0).sl)), (slv (ls.getD aq sent0).body)] 39 (0, 0)), (b17, om14), (b11, .cells #[(Value.string ((ln.getD k note0).frm)), (Value.string ((ln.getD k note0).id_))] 82 (0, 0)), (b10, .cells #[(Value.string ((ln.getD k note0).th)), (Value.string ((ln.getD k note0).frm)), (Value.string ((ln.getD k note0).id_)), (bl ((ln.getD k note0).sl)), (slv (ln.getD k note0).body)] 26 (0, 0))]) kok_i uT85 hm41 hM26 rfl rfl rfl) ?_
             rintro _ w43 ⟨om43, hm43, hM43⟩
             obtain ⟨mp43, hmp43⟩ : ∃ q, q = fun j => if j = (4 : Int) then !(((ls.getD aq sent0).body.2) == ((ln.getD k note0).body.2)) else mp26 j := ⟨_, rfl⟩
             rw [← hmp43] at hM43
             refine rN (cw_region ?_)
             refine rM rfl s7 <| rM rfl s7 <| rw_q rfl (EvQ.cast (congrArg bl (show mp43 (5 : Int) = (mf (5 : Int)) from by simp [hmp43, hmp26, hmp12])) (ev_lookup (m := mp43) (k := (5 : Int)) kok_i uT85 ti4 hm43.h0 hM43 rfl rfl)) <| rw_q rfl (ev_move (v := (bl (mf (5 : Int)))) rfl) ?_
             rcases Bool.eq_false_or_eq_true (mf (5 : Int)) with hb44 | hb44
             · -- true
               refine rw_gn (s := 77) rfl rfl hb44 rfl <| rw_gn (s := 77) rfl rfl hb44 rfl <| rw_gn (s := 77) rfl rfl hb44 rfl <| rw_gn (s := 77) rfl rfl hb44 rfl <| rw_gn (s := 77) rfl rfl hb44 rfl <| rw_q rfl (ev_pick_tk rfl hb44 rfl) ?_
               refine rw_n (or_mapUpdate (m := mp43) (k := (5 : Int)) (v := true) (H := [(b14, .cells #[(Value.string ((ls.getD aq sent0).frm)), (Value.string ((ls.getD aq sent0).to_)), (Value.string ((ls.getD aq sent0).id_)), (Value.string ((ls.getD aq sent0).th)), (bl ((ls.getD aq sent0).sl)), (slv (ls.getD aq sent0).body)] 39 (0, 0)), (b17, om14), (b11, .cells #[(Value.string ((ln.getD k note0).frm)), (Value.string ((ln.getD k note0).id_))] 82 (0, 0)), (b10, .cells #[(Value.string ((ln.getD k note0).th)), (Value.string ((ln.getD k note0).frm)), (Value.string ((ln.getD k note0).id_)), (bl ((ln.getD k note0).sl)), (slv (ln.getD k note0).body)] 26 (0, 0))]) kok_i uT85 hm43 hM43 rfl rfl rfl) ?_
               rintro _ w45 ⟨om45, hm45, hM45⟩
               obtain ⟨mp45, hmp45⟩ : ∃ q, q = fun j => if j = (5 : Int) then true else mp43 j := ⟨_, rfl⟩
               rw [← hmp45] at hM45
               refine rw_nil (kBlk_normal ?_)
               refine CW.abs (fun g => g 0 = vs ∧ g 1 = (Value.string who) ∧ g 2 = vn ∧ g 6 = (Value.slice none 0 0) ∧ g 7 = (Value.map (some b16)) ∧ g 8 = (Value.map (some b17)) ∧ g 10 = (ptr b10 0) ∧ g 11 = (ptr b11 0) ∧ g 12 = (i64 (aq : Int)) ∧ g 13 = (bl (decide (0 ≤ atI ls who (ln.getD k note0)))) ∧ g 14 = (ptr b14 0) ∧ g 18 = vn ∧ g 19 = (i64 (ln.length : Int)) ∧ g 20 = (i64 (k : Int)) ∧ g 21 = (bl (decide ((k : Int) < (ln.length : Int)))) ∧ g 47 = (bl (!(decide (0 ≤ atI ls who (ln.getD k note0))))) ∧ True) ⟨s0, s1, s2, s6, s7, s8, s10, s11, s12, s13, s14, s18, s19, s20, s21, s47, trivial⟩ ?_
               rintro fr46 ⟨s0, s1, s2, s6, s7, s8, s10, s11, s12, s13, s14, s18, s19, s20, s21, s47, _⟩
               refine cw_region <| rw_q rfl (ev_i64_add (b := 1) s20 rfl oM oM) <| rw_q rfl (ev_move (v := (i64 ((k : Int) + 1))) rfl) <| rN ?_
               obtain ⟨t1, t3, t4, t5⟩ := st_ok (pre := ln.take k) (by simpa using hc18 : decide (0 ≤ atI ls who (ln.getD k note0)) = true)
               rw [show (atI ls who (ln.getD k note0)).toNat = aq by rw [haq]; rfl] at t3 t4 t5
               have c1 : mp45 1 = (mf 1) := by simp [hmp45, hmp43, hmp26, hmp12]
               have c2 : mp45 2 = (true) := by simp [hmp45, hmp43, hmp26, hmp12]
               have c3 : mp45 3 = (true) := by simp [hmp45, hmp43, hmp26]
               have c4 : mp45 4 = (!(((ls.getD aq sent0).body.2) == ((ln.getD k note0).body.2))) := by simp [hmp45, hmp43]
               have c5 : mp45 5 = (true) := by simp [hmp45]
               have hm47 := Mem.drop ([(b14, .cells #[(Value.string ((ls.getD aq sent0).frm)), (Value.string ((ls.getD aq sent0).to_)), (Value.string ((ls.getD aq sent0).id_)), (Value.string ((ls.getD aq sent0).th)), (bl ((ls.getD aq sent0).sl)), (slv (ls.getD aq sent0).body)] 39 (0, 0))]) _ (Mem.pick [_] [_] _ hm45)
               have hm48 := Mem.drop ([(b11, .cells #[(Value.string ((ln.getD k note0).frm)), (Value.string ((ln.getD k note0).id_))] 82 (0, 0))]) _ (Mem.pick [_, _] [_] _ hm47)
               have hm49 := Mem.drop ([(b10, .cells #[(Value.string ((ln.getD k note0).th)), (Value.string ((ln.getD k note0).frm)), (Value.string ((ln.getD k note0).id_)), (bl ((ln.getD k note0).sl)), (slv (ln.getD k note0).body)] 26 (0, 0))]) _ (Mem.pick [_, _] [_] _ hm48)
               exact ⟨⟨(k + 1), om45, om14, mp45, mp14, oM, hM45, hM14, (acc_step him (by rw [c1, t1, Bool.or_false]) (by rw [c2, hb11]; rfl) (by rw [c3, hb25]; rfl) (by rw [c4, hb28, t4, Bool.false_or]) (by rw [c5, hb44]; rfl)), (fun p => by rw [hmp14, ← seen_succ oM p, ← hse p]), s0, s1, s2, s6, s7, s8, s18, s19, rfl, hm49⟩, meas (rfl) z20 oM oM⟩
             · -- false
               refine rw_gyq (s := 77) rfl rfl hb44 rfl (ev_fa (r := 4) uT39 rfl (by first | rfl | omega) ti4 rfl s14) <| rw_gyq (s := 77) rfl rfl hb44 rfl (ev_load1 uT4 rfl rfl hm43.h1 rfl) <| rw_gyq (s := 77) rfl rfl hb44 rfl (ev_fa (r := 3) uT26 rfl (by first | rfl | omega) ti4 rfl s10) <| rw_gyq (s := 77) rfl rfl hb44 rfl (ev_load1 uT4 rfl rfl hm43.h4 rfl) <| rw_gyq (s := 77) rfl rfl hb44 rfl (ev_bool_neq uT4 rfl rfl) <| rw_q rfl (ev_pick_fk rfl hb44 rfl) ?_
               refine rw_n (or_mapUpdate (m := mp43) (k := (5 : Int)) (v := ((ls.getD aq sent0).sl) != ((ln.getD k note0).sl)) (H := [(b14, .cells #[(Value.string ((ls.getD aq sent0).frm)), (Value.string ((ls.getD aq sent0).to_)), (Value.string ((ls.getD aq sent0).id_)), (Value.string ((ls.getD aq sent0).th)), (bl ((ls.getD aq sent0).sl)), (slv (ls.getD aq sent0).body)] 39 (0, 0)), (b17, om14), (b11, .cells #[(Value.string ((ln.getD k note0).frm)), (Value.string ((ln.getD k note0).id_))] 82 (0, 0)), (b10, .cells #[(Value.string ((ln.getD k note0).th)), (Value.string ((ln.getD k note0).frm)), (Value.string ((ln.getD k note0).id_)), (bl ((ln.getD k note0).sl)), (slv (ln.getD k note0).body)] 26 (0, 0))]) kok_i uT85 hm43 hM43 rfl rfl rfl) ?_
               rintro _ w50 ⟨om50, hm50, hM50⟩
               obtain ⟨mp50, hmp50⟩ : ∃ q, q = fun j => if j = (5 : Int) then ((ls.getD aq sent0).sl) != ((ln.getD k note0).sl) else mp43 j := ⟨_, rfl⟩
               rw [← hmp50] at hM50
               refine rw_nil (kBlk_normal ?_)
               refine CW.abs (fun g => g 0 = vs ∧ g 1 = (Value.string who) ∧ g 2 = vn ∧ g 6 = (Value.slice none 0 0) ∧ g 7 = (Value.map (some b16)) ∧ g 8 = (Value.map (some b17)) ∧ g 10 = (ptr b10 0) ∧ g 11 = (ptr b11 0) ∧ g 12 = (i64 (aq : Int)) ∧ g 13 = (bl (decide (0 ≤ atI ls who (ln.getD k note0)))) ∧ g 14 = (ptr b14 0) ∧ g 18 = vn ∧ g 19 = (i64 (ln.length : Int)) ∧ g 20 = (i64 (k : Int)) ∧ g 21 = (bl (decide ((k : Int) < (ln.length : Int)))) ∧ g 47 = (bl (!(decide (0 ≤ atI ls who (ln.getD k note0))))) ∧ True) ⟨s0, s1, s2, s6, s7, s8, s10, s11, s12, s13, s14, s18, s19, s20, s21, s47, trivial⟩ ?_
               rintro fr51 ⟨s0, s1, s2, s6, s7, s8, s10, s11, s12, s13, s14, s18, s19, s20, s21, s47, _⟩
               refine cw_region <| rw_q rfl (ev_i64_add (b := 1) s20 rfl oM oM) <| rw_q rfl (ev_move (v := (i64 ((k : Int) + 1))) rfl) <| rN ?_
               obtain ⟨t1, t3, t4, t5⟩ := st_ok (pre := ln.take k) (by simpa using hc18 : decide (0 ≤ atI ls who (ln.getD k note0)) = true)
               rw [show (atI ls who (ln.getD k note0)).toNat = aq by rw [haq]; rfl] at t3 t4 t5
               have c1 : mp50 1 = (mf 1) := by simp [hmp50, hmp43, hmp26, hmp12]
               have c2 : mp50 2 = (true) := by simp [hmp50, hmp43, hmp26, hmp12]
               have c3 : mp50 3 = (true) := by simp [hmp50, hmp43, hmp26]
               have c4 : mp50 4 = (!(((ls.getD aq sent0).body.2) == ((ln.getD k note0).body.2))) := by simp [hmp50, hmp43]
               have c5 : mp50 5 = (((ls.getD aq sent0).sl) != ((ln.getD k note0).sl)) := by simp [hmp50]
               have hm52 := Mem.drop ([(b14, .cells #[(Value.string ((ls.getD aq sent0).frm)), (Value.string ((ls.getD aq sent0).to_)), (Value.string ((ls.getD aq sent0).id_)), (Value.string ((ls.getD aq sent0).th)), (bl ((ls.getD aq sent0).sl)), (slv (ls.getD aq sent0).body)] 39 (0, 0))]) _ (Mem.pick [_] [_] _ hm50)
               have hm53 := Mem.drop ([(b11, .cells #[(Value.string ((ln.getD k note0).frm)), (Value.string ((ln.getD k note0).id_))] 82 (0, 0))]) _ (Mem.pick [_, _] [_] _ hm52)
               have hm54 := Mem.drop ([(b10, .cells #[(Value.string ((ln.getD k note0).th)), (Value.string ((ln.getD k note0).frm)), (Value.string ((ln.getD k note0).id_)), (bl ((ln.getD k note0).sl)), (slv (ln.getD k note0).body)] 26 (0, 0))]) _ (Mem.pick [_, _] [_] _ hm53)
               exact ⟨⟨(k + 1), om50, om14, mp50, mp14, oM, hM50, hM14, (acc_step him (by rw [c1, t1, Bool.or_false]) (by rw [c2, hb11]; rfl) (by rw [c3, hb25]; rfl) (by rw [c4, hb28, t4, Bool.false_or]) (by rw [c5, hb44, t5, Bool.false_or])), (fun p => by rw [hmp14, ← seen_succ oM p, ← hse p]), s0, s1, s2, s6, s7, s8, s18, s19, rfl, hm54⟩, meas (rfl) z20 oM oM⟩
         · -- false
           refine rw_gyq (s := 56) rfl rfl hb25 rfl (ev_fa (r := 3) uT39 rfl (by first | rfl | omega) ti9 rfl rfl) <| rw_gyq (s := 56) rfl rfl hb25 rfl (ev_load1 uT9 rfl rfl hm24.h0 rfl) <| rw_gyq (s := 56) rfl rfl hb25 rfl (ev_fa (r := 0) uT26 rfl (by first | rfl | omega) ti9 rfl s10) <| rw_gyq (s := 56) rfl rfl hb25 rfl (ev_load1 uT9 rfl rfl hm24.h4 rfl) <| rw_gyq (s := 56) rfl rfl hb25 rfl (ev_str_neq (s := (ls.getD aq sent0).th) (t := (ln.getD k note0).th) rfl rfl) <| rw_q rfl (ev_pick_fk rfl hb25 rfl) ?_
           refine rw_n (or_mapUpdate (m := mp12) (k := (3 : Int)) (v := !decide ((ls.getD aq sent0).th = (ln.getD k note0).th)) (H := [(b14, .cells #[(Value.string ((ls.getD aq sent0).frm)), (Value.string ((ls.getD aq sent0).to_)), (Value.string ((ls.getD aq sent0).id_)), (Value.string ((ls.getD aq sent0).th)), (bl ((ls.getD aq sent0).sl)), (slv (ls.getD aq sent0).body)] 39 (0, 0)), (b17, om14), (b11, .cells #[(Value.string ((ln.getD k note0).frm)), (Value.string ((ln.getD k note0).id_))] 82 (0, 0)), (b10, .cells #[(Value.string ((ln.getD k note0).th)), (Value.string ((ln.getD k note0).frm)), (Value.string ((ln.getD k note0).id_)), (bl ((ln.getD k note0).sl)), (slv (ln.getD k note0).body)] 26 (0, 0))]) kok_i uT85 (Mem.pick [_, _] [_] _ hm24) hM12 rfl rfl rfl) ?_
           rintro _ w55 ⟨om55, hm55, hM55⟩
           obtain ⟨mp55, hmp55⟩ : ∃ q, q = fun j => if j = (3 : Int) then !decide ((ls.getD aq sent0).th = (ln.getD k note0).th) else mp12 j := ⟨_, rfl⟩
           rw [← hmp55] at hM55
           refine rN ?_
           refine CW.abs (fun g => g 0 = vs ∧ g 1 = (Value.string who) ∧ g 2 = vn ∧ g 6 = (Value.slice none 0 0) ∧ g 7 = (Value.map (some b16)) ∧ g 8 = (Value.map (some b17)) ∧ g 10 = (ptr b10 0) ∧ g 11 = (ptr b11 0) ∧ g 12 = (i64 (aq : Int)) ∧ g 13 = (bl (decide (0 ≤ atI ls who (ln.getD k note0)))) ∧ g 14 = (ptr b14 0) ∧ g 18 = vn ∧ g 19 = (i64 (ln.length : Int)) ∧ g 20 = (i64 (k : Int)) ∧ g 21 = (bl (decide ((k : Int) < (ln.length : Int)))) ∧ g 47 = (bl (!(decide (0 ≤ atI ls who (ln.getD k note0))))) ∧ True) ⟨s0, s1, s2, s6, s7, s8, s10, s11, s12, s13, rfl, s18, s19, s20, s21, s47, trivial⟩ ?_
           rintro fr56 ⟨s0, s1, s2, s6, s7, s8, s10, s11, s12, s13, s14, s18, s19, s20, s21, s47, _⟩
           refine sR <| rM rfl s7 <| rM rfl s7 <| rw_q rfl (EvQ.cast (congrArg bl (show mp55 (4 : Int) = (mf (4 : Int)) from by simp [hmp55, hmp12])) (ev_lookup (m := mp55) (k := (4 : Int)) kok_i uT85 ti4 hm55.h0 hM55 rfl rfl)) <| rw_q rfl (ev_move (v := (bl (mf (4 : Int)))) rfl) ?_
           rcases Bool.eq_false_or_eq_true (mf (4 : Int)) with hb57 | hb57
           · -- true
             refine rw_gn (s := 66) rfl rfl hb57 rfl <| rw_gn (s := 66) rfl rfl hb57 rfl <| rw_gn (s := 66) rfl rfl hb57 rfl <| rw_gn (s := 66) rfl rfl hb57 rfl <| rw_gn (s := 66) rfl rfl hb57 rfl <| rw_gn (s := 66) rfl rfl hb57 rfl ?_
             refine rw_q rfl (ev_pick_tk rfl hb57 rfl) <| rw_n (or_mapUpdate (m := mp55) (k := (4 : Int)) (v := true) (H := [(b14, .cells #[(Value.string ((ls.getD aq sent0).frm)), (Value.string ((ls.getD aq sent0).to_)), (Value.string ((ls.getD aq sent0).id_)), (Value.string ((ls.getD aq sent0).th)), (bl ((ls.getD aq sent0).sl)), (slv (ls.getD aq sent0).body)] 39 (0, 0)), (b17, om14), (b11, .cells #[(Value.string ((ln.getD k note0).frm)), (Value.string ((ln.getD k note0).id_))] 82 (0, 0)), (b10, .cells #[(Value.string ((ln.getD k note0).th)), (Value.string ((ln.getD k note0).frm)), (Value.string ((ln.getD k note0).id_)), (bl ((ln.getD k note0).sl)), (slv (ln.getD k note0).body)] 26 (0, 0))]) kok_i uT85 hm55 hM55 rfl rfl rfl) ?_
             rintro _ w58 ⟨om58, hm58, hM58⟩
             obtain ⟨mp58, hmp58⟩ : ∃ q, q = fun j => if j = (4 : Int) then true else mp55 j := ⟨_, rfl⟩
             rw [← hmp58] at hM58
             refine rN (cw_region ?_)
             refine rM rfl s7 <| rM rfl s7 <| rw_q rfl (EvQ.cast (congrArg bl (show mp58 (5 : Int) = (mf (5 : Int)) from by simp [hmp58, hmp55, hmp12])) (ev_lookup (m := mp58) (k := (5 : Int)) kok_i uT85 ti4 hm58.h0 hM58 rfl rfl)) <| rw_q rfl (ev_move (v := (bl (mf (5 : Int)))) rfl) ?_
             rcases Bool.eq_false_or_eq_true (mf (5 : Int)) with hb59 | hb59
             · -- true
               refine rw_gn (s := 77) rfl rfl hb59 rfl <| rw_gn (s := 77) rfl rfl hb59 rfl <| rw_gn (s := 77) rfl rfl hb59 rfl <| rw_gn (s := 77) rfl rfl hb59 rfl <| rw_gn (s := 77) rfl rfl hb59 rfl <| rw_q rfl (ev_pick_tk rfl hb59 rfl) ?_
               refine rw_n (or_mapUpdate (m := mp58) (k := (5 : Int)) (v := true) (H := [(b14, .cells #[(Value.string ((ls.getD aq sent0).frm)), (Value.string ((ls.getD aq sent0).to_)), (Value.string ((ls.getD aq sent0).id_)), (Value.string ((ls.getD aq sent0).th)), (bl ((ls.getD aq sent0).sl)), (slv (ls.getD aq sent0).body)] 39 (0, 0)), (b17, om14), (b11, .cells #[(Value.string ((ln.getD k note0).frm)), (Value.string ((ln.getD k note0).id_))] 82 (0, 0)), (b10, .cells #[(Value.string ((ln.getD k note0).th)), (Value.string ((ln.getD k note0).frm)), (Value.string ((ln.getD k note0).id_)), (bl ((ln.getD k note0).sl)), (slv (ln.getD k note0).body)] 26 (0, 0))]) kok_i uT85 hm58 hM58 rfl rfl rfl) ?_
               rintro _ w60 ⟨om60, hm60, hM60⟩
               obtain ⟨mp60, hmp60⟩ : ∃ q, q = fun j => if j = (5 : Int) then true else mp58 j := ⟨_, rfl⟩
               rw [← hmp60] at hM60
               refine rw_nil (kBlk_normal ?_)
               refine CW.abs (fun g => g 0 = vs ∧ g 1 = (Value.string who) ∧ g 2 = vn ∧ g 6 = (Value.slice none 0 0) ∧ g 7 = (Value.map (some b16)) ∧ g 8 = (Value.map (some b17)) ∧ g 10 = (ptr b10 0) ∧ g 11 = (ptr b11 0) ∧ g 12 = (i64 (aq : Int)) ∧ g 13 = (bl (decide (0 ≤ atI ls who (ln.getD k note0)))) ∧ g 14 = (ptr b14 0) ∧ g 18 = vn ∧ g 19 = (i64 (ln.length : Int)) ∧ g 20 = (i64 (k : Int)) ∧ g 21 = (bl (decide ((k : Int) < (ln.length : Int)))) ∧ g 47 = (bl (!(decide (0 ≤ atI ls who (ln.getD k note0))))) ∧ True) ⟨s0, s1, s2, s6, s7, s8, s10, s11, s12, s13, s14, s18, s19, s20, s21, s47, trivial⟩ ?_
               rintro fr61 ⟨s0, s1, s2, s6, s7, s8, s10, s11, s12, s13, s14, s18, s19, s20, s21, s47, _⟩
               refine cw_region <| rw_q rfl (ev_i64_add (b := 1) s20 rfl oM oM) <| rw_q rfl (ev_move (v := (i64 ((k : Int) + 1))) rfl) <| rN ?_
               obtain ⟨t1, t3, t4, t5⟩ := st_ok (pre := ln.take k) (by simpa using hc18 : decide (0 ≤ atI ls who (ln.getD k note0)) = true)
               rw [show (atI ls who (ln.getD k note0)).toNat = aq by rw [haq]; rfl] at t3 t4 t5
               have c1 : mp60 1 = (mf 1) := by simp [hmp60, hmp58, hmp55, hmp12]
               have c2 : mp60 2 = (true) := by simp [hmp60, hmp58, hmp55, hmp12]
               have c3 : mp60 3 = (!decide ((ls.getD aq sent0).th = (ln.getD k note0).th)) := by simp [hmp60, hmp58, hmp55]
               have c4 : mp60 4 = (true) := by simp [hmp60, hmp58]
               have c5 : mp60 5 = (true) := by simp [hmp60]
               have hm62 := Mem.drop ([(b14, .cells #[(Value.string ((ls.getD aq sent0).frm)), (Value.string ((ls.getD aq sent0).to_)), (Value.string ((ls.getD aq sent0).id_)), (Value.string ((ls.getD aq sent0).th)), (bl ((ls.getD aq sent0).sl)), (slv (ls.getD aq sent0).body)] 39 (0, 0))]) _ (Mem.pick [_] [_] _ hm60)
               have hm63 := Mem.drop ([(b11, .cells #[(Value.string ((ln.getD k note0).frm)), (Value.string ((ln.getD k note0).id_))] 82 (0, 0))]) _ (Mem.pick [_, _] [_] _ hm62)
               have hm64 := Mem.drop ([(b10, .cells #[(Value.string ((ln.getD k note0).th)), (Value.string ((ln.getD k note0).frm)), (Value.string ((ln.getD k note0).id_)), (bl ((ln.getD k note0).sl)), (slv (ln.getD k note0).body)] 26 (0, 0))]) _ (Mem.pick [_, _] [_] _ hm63)
               exact ⟨⟨(k + 1), om60, om14, mp60, mp14, oM, hM60, hM14, (acc_step him (by rw [c1, t1, Bool.or_false]) (by rw [c2, hb11]; rfl) (by rw [c3, hb25, t3, Bool.false_or]) (by rw [c4, hb57]; rfl) (by rw [c5, hb59]; rfl)), (fun p => by rw [hmp14, ← seen_succ oM p, ← hse p]), s0, s1, s2, s6, s7, s8, s18, s19, rfl, hm64⟩, meas (rfl) z20 oM oM⟩
             · -- false
               refine rw_gyq (s := 77) rfl rfl hb59 rfl (ev_fa (r := 4) uT39 rfl (by first | rfl | omega) ti4 rfl s14) <| rw_gyq (s := 77) rfl rfl hb59 rfl (ev_load1 uT4 rfl rfl hm58.h1 rfl) <| rw_gyq (s := 77) rfl rfl hb59 rfl (ev_fa (r := 3) uT26 rfl (by first | rfl | omega) ti4 rfl s10) <| rw_gyq (s := 77) rfl rfl hb59 rfl (ev_load1 uT4 rfl rfl hm58.h4 rfl) <| rw_gyq (s := 77) rfl rfl hb59 rfl (ev_bool_neq uT4 rfl rfl) <| rw_q rfl (ev_pick_fk rfl hb59 rfl) ?_
               refine rw_n (or_mapUpdate (m := mp58) (k := (5 : Int)) (v := ((ls.getD aq sent0).sl) != ((ln.getD k note0).sl)) (H := [(b14, .cells #[(Value.string ((ls.getD aq sent0).frm)), (Value.string ((ls.getD aq sent0).to_)), (Value.string ((ls.getD aq sent0).id_)), (Value.string ((ls.getD aq sent0).th)), (bl ((ls.getD aq sent0).sl)), (slv (ls.getD aq sent0).body)] 39 (0, 0)), (b17, om14), (b11, .cells #[(Value.string ((ln.getD k note0).frm)), (Value.string ((ln.getD k note0).id_))] 82 (0, 0)), (b10, .cells #[(Value.string ((ln.getD k note0).th)), (Value.string ((ln.getD k note0).frm)), (Value.string ((ln.getD k note0).id_)), (bl ((ln.getD k note0).sl)), (slv (ln.getD k note0).body)] 26 (0, 0))]) kok_i uT85 hm58 hM58 rfl rfl rfl) ?_
               rintro _ w65 ⟨om65, hm65, hM65⟩
               obtain ⟨mp65, hmp65⟩ : ∃ q, q = fun j => if j = (5 : Int) then ((ls.getD aq sent0).sl) != ((ln.getD k note0).sl) else mp58 j := ⟨_, rfl⟩
               rw [← hmp65] at hM65
               refine rw_nil (kBlk_normal ?_)
               refine CW.abs (fun g => g 0 = vs ∧ g 1 = (Value.string who) ∧ g 2 = vn ∧ g 6 = (Value.slice none 0 0) ∧ g 7 = (Value.map (some b16)) ∧ g 8 = (Value.map (some b17)) ∧ g 10 = (ptr b10 0) ∧ g 11 = (ptr b11 0) ∧ g 12 = (i64 (aq : Int)) ∧ g 13 = (bl (decide (0 ≤ atI ls who (ln.getD k note0)))) ∧ g 14 = (ptr b14 0) ∧ g 18 = vn ∧ g 19 = (i64 (ln.length : Int)) ∧ g 20 = (i64 (k : Int)) ∧ g 21 = (bl (decide ((k : Int) < (ln.length : Int)))) ∧ g 47 = (bl (!(decide (0 ≤ atI ls who (ln.getD k note0))))) ∧ True) ⟨s0, s1, s2, s6, s7, s8, s10, s11, s12, s13, s14, s18, s19, s20, s21, s47, trivial⟩ ?_
               rintro fr66 ⟨s0, s1, s2, s6, s7, s8, s10, s11, s12, s13, s14, s18, s19, s20, s21, s47, _⟩
               refine cw_region <| rw_q rfl (ev_i64_add (b := 1) s20 rfl oM oM) <| rw_q rfl (ev_move (v := (i64 ((k : Int) + 1))) rfl) <| rN ?_
               obtain ⟨t1, t3, t4, t5⟩ := st_ok (pre := ln.take k) (by simpa using hc18 : decide (0 ≤ atI ls who (ln.getD k note0)) = true)
               rw [show (atI ls who (ln.getD k note0)).toNat = aq by rw [haq]; rfl] at t3 t4 t5
               have c1 : mp65 1 = (mf 1) := by simp [hmp65, hmp58, hmp55, hmp12]
               have c2 : mp65 2 = (true) := by simp [hmp65, hmp58, hmp55, hmp12]
               have c3 : mp65 3 = (!decide ((ls.getD aq sent0).th = (ln.getD k note0).th)) := by simp [hmp65, hmp58, hmp55]
               have c4 : mp65 4 = (true) := by simp [hmp65, hmp58]
               have c5 : mp65 5 = (((ls.getD aq sent0).sl) != ((ln.getD k note0).sl)) := by simp [hmp65]
               have hm67 := Mem.drop ([(b14, .cells #[(Value.string ((ls.getD aq sent0).frm)), (Value.string ((ls.getD aq sent0).to_)), (Value.string ((ls.getD aq sent0).id_)), (Value.string ((ls.getD aq sent0).th)), (bl ((ls.getD aq sent0).sl)), (slv (ls.getD aq sent0).body)] 39 (0, 0))]) _ (Mem.pick [_] [_] _ hm65)
               have hm68 := Mem.drop ([(b11, .cells #[(Value.string ((ln.getD k note0).frm)), (Value.string ((ln.getD k note0).id_))] 82 (0, 0))]) _ (Mem.pick [_, _] [_] _ hm67)
               have hm69 := Mem.drop ([(b10, .cells #[(Value.string ((ln.getD k note0).th)), (Value.string ((ln.getD k note0).frm)), (Value.string ((ln.getD k note0).id_)), (bl ((ln.getD k note0).sl)), (slv (ln.getD k note0).body)] 26 (0, 0))]) _ (Mem.pick [_, _] [_] _ hm68)
               exact ⟨⟨(k + 1), om65, om14, mp65, mp14, oM, hM65, hM14, (acc_step him (by rw [c1, t1, Bool.or_false]) (by rw [c2, hb11]; rfl) (by rw [c3, hb25, t3, Bool.false_or]) (by rw [c4, hb57]; rfl) (by rw [c5, hb59, t5, Bool.false_or])), (fun p => by rw [hmp14, ← seen_succ oM p, ← hse p]), s0, s1, s2, s6, s7, s8, s18, s19, rfl, hm69⟩, meas (rfl) z20 oM oM⟩
           · -- false
             refine rw_gyq (s := 66) rfl rfl hb57 rfl (ev_fa (r := 5) uT39 rfl (by first | rfl | omega) ti24 rfl s14) <| rw_gyq (s := 66) rfl rfl hb57 rfl (ev_load1 uT24 rfl rfl hm55.h1 rfl) <| rw_gyq (s := 66) rfl rfl hb57 rfl (ev_fa (r := 4) uT26 rfl (by first | rfl | omega) ti24 rfl s10) <| rw_gyq (s := 66) rfl rfl hb57 rfl (ev_load1 uT24 rfl rfl hm55.h4 rfl) <| rw_gy (s := 66) rfl rfl hb57 rfl (opR_call Try.func51 bd51 nm51 (args2 rfl rfl) (c_beq (slv (ls.getD aq sent0).body) (slv (ln.getD k note0).body) ((ls.getD aq sent0).body.2) ((ln.getD k note0).body.2) _ (Rd.ofRest (rdQ SentT.body hqs (k := aq) sD) hm55) (Rd.ofRest (rdQ NoteT.body hqn (k := k) sD) hm55))) ?_
             rintro _ w70 ⟨rfl, _ew70⟩
             have hm70 := hm55.ext _ew70
             refine rw_gyq (s := 66) rfl rfl hb57 rfl (ev_not rfl) <| rw_q rfl (ev_pick_fk rfl hb57 rfl) <| rw_n (or_mapUpdate (m := mp55) (k := (4 : Int)) (v := !(((ls.getD aq sent0).body.2) == ((ln.getD k note0).body.2))) (H := [(b14, .cells #[(Value.string ((ls.getD aq sent0).frm)), (Value.string ((ls.getD aq sent0).to_)), (Value.string ((ls.getD aq sent0).id_)), (Value.string ((ls.getD aq sent0).th)), (bl ((ls.getD aq sent0).sl)), (slv (ls.getD aq sent0).body)] 39 (0, 0)), (b17, om14), (b11, .cells #[(Value.string ((ln.getD k note0).frm)), (Value.string ((ln.getD k note0).id_))] 82 (0, 0)), (b10, .cells #[(Value.string ((ln.getD k note0).th)), (Value.string ((ln.getD k note0).frm)), (Value.string ((ln.getD k note0).id_)), (bl ((ln.getD k note0).sl)), (slv (ln.getD k note0).body)] 26 (0, 0))]) kok_i uT85 hm70 hM55 rfl rfl rfl) ?_
             rintro _ w72 ⟨om72, hm72, hM72⟩
             obtain ⟨mp72, hmp72⟩ : ∃ q, q = fun j => if j = (4 : Int) then !(((ls.getD aq sent0).body.2) == ((ln.getD k note0).body.2)) else mp55 j := ⟨_, rfl⟩
             rw [← hmp72] at hM72
             refine rN (cw_region ?_)
             refine rM rfl s7 <| rM rfl s7 <| rw_q rfl (EvQ.cast (congrArg bl (show mp72 (5 : Int) = (mf (5 : Int)) from by simp [hmp72, hmp55, hmp12])) (ev_lookup (m := mp72) (k := (5 : Int)) kok_i uT85 ti4 hm72.h0 hM72 rfl rfl)) <| rw_q rfl (ev_move (v := (bl (mf (5 : Int)))) rfl) ?_
             rcases Bool.eq_false_or_eq_true (mf (5 : Int)) with hb73 | hb73
             · -- true
               refine rw_gn (s := 77) rfl rfl hb73 rfl <| rw_gn (s := 77) rfl rfl hb73 rfl <| rw_gn (s := 77) rfl rfl hb73 rfl <| rw_gn (s := 77) rfl rfl hb73 rfl <| rw_gn (s := 77) rfl rfl hb73 rfl <| rw_q rfl (ev_pick_tk rfl hb73 rfl) ?_
               refine rw_n (or_mapUpdate (m := mp72) (k := (5 : Int)) (v := true) (H := [(b14, .cells #[(Value.string ((ls.getD aq sent0).frm)), (Value.string ((ls.getD aq sent0).to_)), (Value.string ((ls.getD aq sent0).id_)), (Value.string ((ls.getD aq sent0).th)), (bl ((ls.getD aq sent0).sl)), (slv (ls.getD aq sent0).body)] 39 (0, 0)), (b17, om14), (b11, .cells #[(Value.string ((ln.getD k note0).frm)), (Value.string ((ln.getD k note0).id_))] 82 (0, 0)), (b10, .cells #[(Value.string ((ln.getD k note0).th)), (Value.string ((ln.getD k note0).frm)), (Value.string ((ln.getD k note0).id_)), (bl ((ln.getD k note0).sl)), (slv (ln.getD k note0).body)] 26 (0, 0))]) kok_i uT85 hm72 hM72 rfl rfl rfl) ?_
               rintro _ w74 ⟨om74, hm74, hM74⟩
               obtain ⟨mp74, hmp74⟩ : ∃ q, q = fun j => if j = (5 : Int) then true else mp72 j := ⟨_, rfl⟩
               rw [← hmp74] at hM74
               refine rw_nil (kBlk_normal ?_)
               refine CW.abs (fun g => g 0 = vs ∧ g 1 = (Value.string who) ∧ g 2 = vn ∧ g 6 = (Value.slice none 0 0) ∧ g 7 = (Value.map (some b16)) ∧ g 8 = (Value.map (some b17)) ∧ g 10 = (ptr b10 0) ∧ g 11 = (ptr b11 0) ∧ g 12 = (i64 (aq : Int)) ∧ g 13 = (bl (decide (0 ≤ atI ls who (ln.getD k note0)))) ∧ g 14 = (ptr b14 0) ∧ g 18 = vn ∧ g 19 = (i64 (ln.length : Int)) ∧ g 20 = (i64 (k : Int)) ∧ g 21 = (bl (decide ((k : Int) < (ln.length : Int)))) ∧ g 47 = (bl (!(decide (0 ≤ atI ls who (ln.getD k note0))))) ∧ True) ⟨s0, s1, s2, s6, s7, s8, s10, s11, s12, s13, s14, s18, s19, s20, s21, s47, trivial⟩ ?_
               rintro fr75 ⟨s0, s1, s2, s6, s7, s8, s10, s11, s12, s13, s14, s18, s19, s20, s21, s47, _⟩
               refine cw_region <| rw_q rfl (ev_i64_add (b := 1) s20 rfl oM oM) <| rw_q rfl (ev_move (v := (i64 ((k : Int) + 1))) rfl) <| rN ?_
               obtain ⟨t1, t3, t4, t5⟩ := st_ok (pre := ln.take k) (by simpa using hc18 : decide (0 ≤ atI ls who (ln.getD k note0)) = true)
               rw [show (atI ls who (ln.getD k note0)).toNat = aq by rw [haq]; rfl] at t3 t4 t5
               have c1 : mp74 1 = (mf 1) := by simp [hmp74, hmp72, hmp55, hmp12]
               have c2 : mp74 2 = (true) := by simp [hmp74, hmp72, hmp55, hmp12]
               have c3 : mp74 3 = (!decide ((ls.getD aq sent0).th = (ln.getD k note0).th)) := by simp [hmp74, hmp72, hmp55]
               have c4 : mp74 4 = (!(((ls.getD aq sent0).body.2) == ((ln.getD k note0).body.2))) := by simp [hmp74, hmp72]
               have c5 : mp74 5 = (true) := by simp [hmp74]
               have hm76 := Mem.drop ([(b14, .cells #[(Value.string ((ls.getD aq sent0).frm)), (Value.string ((ls.getD aq sent0).to_)), (Value.string ((ls.getD aq sent0).id_)), (Value.string ((ls.getD aq sent0).th)), (bl ((ls.getD aq sent0).sl)), (slv (ls.getD aq sent0).body)] 39 (0, 0))]) _ (Mem.pick [_] [_] _ hm74)
               have hm77 := Mem.drop ([(b11, .cells #[(Value.string ((ln.getD k note0).frm)), (Value.string ((ln.getD k note0).id_))] 82 (0, 0))]) _ (Mem.pick [_, _] [_] _ hm76)
               have hm78 := Mem.drop ([(b10, .cells #[(Value.string ((ln.getD k note0).th)), (Value.string ((ln.getD k note0).frm)), (Value.string ((ln.getD k note0).id_)), (bl ((ln.getD k note0).sl)), (slv (ln.getD k note0).body)] 26 (0, 0))]) _ (Mem.pick [_, _] [_] _ hm77)
               exact ⟨⟨(k + 1), om74, om14, mp74, mp14, oM, hM74, hM14, (acc_step him (by rw [c1, t1, Bool.or_false]) (by rw [c2, hb11]; rfl) (by rw [c3, hb25, t3, Bool.false_or]) (by rw [c4, hb57, t4, Bool.false_or]) (by rw [c5, hb73]; rfl)), (fun p => by rw [hmp14, ← seen_succ oM p, ← hse p]), s0, s1, s2, s6, s7, s8, s18, s19, rfl, hm78⟩, meas (rfl) z20 oM oM⟩
             · -- false
               refine rw_gyq (s := 77) rfl rfl hb73 rfl (ev_fa (r := 4) uT39 rfl (by first | rfl | omega) ti4 rfl s14) <| rw_gyq (s := 77) rfl rfl hb73 rfl (ev_load1 uT4 rfl rfl hm72.h1 rfl) <| rw_gyq (s := 77) rfl rfl hb73 rfl (ev_fa (r := 3) uT26 rfl (by first | rfl | omega) ti4 rfl s10) <| rw_gyq (s := 77) rfl rfl hb73 rfl (ev_load1 uT4 rfl rfl hm72.h4 rfl) <| rw_gyq (s := 77) rfl rfl hb73 rfl (ev_bool_neq uT4 rfl rfl) <| rw_q rfl (ev_pick_fk rfl hb73 rfl) ?_
               refine rw_n (or_mapUpdate (m := mp72) (k := (5 : Int)) (v := ((ls.getD aq sent0).sl) != ((ln.getD k note0).sl)) (H := [(b14, .cells #[(Value.string ((ls.getD aq sent0).frm)), (Value.string ((ls.getD aq sent0).to_)), (Value.string ((ls.getD aq sent0).id_)), (Value.string ((ls.getD aq sent0).th)), (bl ((ls.getD aq sent0).sl)), (slv (ls.getD aq sent0).body)] 39 (0, 0)), (b17, om14), (b11, .cells #[(Value.string ((ln.getD k note0).frm)), (Value.string ((ln.getD k note0).id_))] 82 (0, 0)), (b10, .cells #[(Value.string ((ln.getD k note0).th)), (Value.string ((ln.getD k note0).frm)), (Value.string ((ln.getD k note0).id_)), (bl ((ln.getD k note0).sl)), (slv (ln.getD k note0).body)] 26 (0, 0))]) kok_i uT85 hm72 hM72 rfl rfl rfl) ?_
               rintro _ w79 ⟨om79, hm79, hM79⟩
               obtain ⟨mp79, hmp79⟩ : ∃ q, q = fun j => if j = (5 : Int) then ((ls.getD aq sent0).sl) != ((ln.getD k note0).sl) else mp72 j := ⟨_, rfl⟩
               rw [← hmp79] at hM79
               refine rw_nil (kBlk_normal ?_)
               refine CW.abs (fun g => g 0 = vs ∧ g 1 = (Value.string who) ∧ g 2 = vn ∧ g 6 = (Value.slice none 0 0) ∧ g 7 = (Value.map (some b16)) ∧ g 8 = (Value.map (some b17)) ∧ g 10 = (ptr b10 0) ∧ g 11 = (ptr b11 0) ∧ g 12 = (i64 (aq : Int)) ∧ g 13 = (bl (decide (0 ≤ atI ls who (ln.getD k note0)))) ∧ g 14 = (ptr b14 0) ∧ g 18 = vn ∧ g 19 = (i64 (ln.length : Int)) ∧ g 20 = (i64 (k : Int)) ∧ g 21 = (bl (decide ((k : Int) < (ln.length : Int)))) ∧ g 47 = (bl (!(decide (0 ≤ atI ls who (ln.getD k note0))))) ∧ True) ⟨s0, s1, s2, s6, s7, s8, s10, s11, s12, s13, s14, s18, s19, s20, s21, s47, trivial⟩ ?_
               rintro fr80 ⟨s0, s1, s2, s6, s7, s8, s10, s11, s12, s13, s14, s18, s19, s20, s21, s47, _⟩
               refine cw_region <| rw_q rfl (ev_i64_add (b := 1) s20 rfl oM oM) <| rw_q rfl (ev_move (v := (i64 ((k : Int) + 1))) rfl) <| rN ?_
               obtain ⟨t1, t3, t4, t5⟩ := st_ok (pre := ln.take k) (by simpa using hc18 : decide (0 ≤ atI ls who (ln.getD k note0)) = true)
               rw [show (atI ls who (ln.getD k note0)).toNat = aq by rw [haq]; rfl] at t3 t4 t5
               have c1 : mp79 1 = (mf 1) := by simp [hmp79, hmp72, hmp55, hmp12]
               have c2 : mp79 2 = (true) := by simp [hmp79, hmp72, hmp55, hmp12]
               have c3 : mp79 3 = (!decide ((ls.getD aq sent0).th = (ln.getD k note0).th)) := by simp [hmp79, hmp72, hmp55]
               have c4 : mp79 4 = (!(((ls.getD aq sent0).body.2) == ((ln.getD k note0).body.2))) := by simp [hmp79, hmp72]
               have c5 : mp79 5 = (((ls.getD aq sent0).sl) != ((ln.getD k note0).sl)) := by simp [hmp79]
               have hm81 := Mem.drop ([(b14, .cells #[(Value.string ((ls.getD aq sent0).frm)), (Value.string ((ls.getD aq sent0).to_)), (Value.string ((ls.getD aq sent0).id_)), (Value.string ((ls.getD aq sent0).th)), (bl ((ls.getD aq sent0).sl)), (slv (ls.getD aq sent0).body)] 39 (0, 0))]) _ (Mem.pick [_] [_] _ hm79)
               have hm82 := Mem.drop ([(b11, .cells #[(Value.string ((ln.getD k note0).frm)), (Value.string ((ln.getD k note0).id_))] 82 (0, 0))]) _ (Mem.pick [_, _] [_] _ hm81)
               have hm83 := Mem.drop ([(b10, .cells #[(Value.string ((ln.getD k note0).th)), (Value.string ((ln.getD k note0).frm)), (Value.string ((ln.getD k note0).id_)), (bl ((ln.getD k note0).sl)), (slv (ln.getD k note0).body)] 26 (0, 0))]) _ (Mem.pick [_, _] [_] _ hm82)
               exact ⟨⟨(k + 1), om79, om14, mp79, mp14, oM, hM79, hM14, (acc_step him (by rw [c1, t1, Bool.or_false]) (by rw [c2, hb11]; rfl) (by rw [c3, hb25, t3, Bool.false_or]) (by rw [c4, hb57, t4, Bool.false_or]) (by rw [c5, hb73, t5, Bool.false_or])), (fun p => by rw [hmp14, ← seen_succ oM p, ← hse p]), s0, s1, s2, s6, s7, s8, s18, s19, rfl, hm83⟩, meas (rfl) z20 oM oM⟩
     · -- false
       refine rw_gyq (s := 32) rfl rfl hb11 rfl (ev_move s8) <| rw_gyq (s := 32) rfl rfl hb11 rfl (ev_loadW uT82 rfl ti82 rfl hm10.h0 (by kernel_rfl)) <| rw_gyq (s := 32) rfl rfl hb11 rfl (ev_lookup (m := ms) (k := ((ln.getD k note0).frm, (ln.getD k note0).id_)) kok_m uT84 ti4 hm10.h3 hms rfl rfl) <| rw_q rfl (ev_pick_fk rfl hb11 rfl) <| rw_n (or_mapUpdate (m := mf) (k := (2 : Int)) (v := (ms ((ln.getD k note0).frm, (ln.getD k note0).id_))) (H := [(b11, .cells #[(Value.string ((ln.getD k note0).frm)), (Value.string ((ln.getD k note0).id_))] 82 (0, 0)), (b10, .cells #[(Value.string ((ln.getD k note0).th)), (Value.string ((ln.getD k note0).frm)), (Value.string ((ln.getD k note0).id_)), (bl ((ln.getD k note0).sl)), (slv (ln.getD k note0).body)] 26 (0, 0)), (b17, os)]) kok_i uT85 (Mem.pick [_, _] [_] _ hm10) hmf rfl rfl rfl) ?_
       rintro _ w84 ⟨om84, hm84, hM84⟩
       obtain ⟨mp84, hmp84⟩ : ∃ q, q = fun j => if j = (2 : Int) then (ms ((ln.getD k note0).frm, (ln.getD k note0).id_)) else mf j := ⟨_, rfl⟩
       rw [← hmp84] at hM84
       refine rN ?_
       refine CW.abs (fun g => g 0 = vs ∧ g 1 = (Value.string who) ∧ g 2 = vn ∧ g 6 = (Value.slice none 0 0) ∧ g 7 = (Value.map (some b16)) ∧ g 8 = (Value.map (some b17)) ∧ g 10 = (ptr b10 0) ∧ g 11 = (ptr b11 0) ∧ g 18 = vn ∧ g 19 = (i64 (ln.length : Int)) ∧ g 20 = (i64 (k : Int)) ∧ g 21 = (bl (decide ((k : Int) < (ln.length : Int)))) ∧ True) ⟨s0, s1, s2, s6, s7, s8, rfl, rfl, s18, s19, s20, rfl, trivial⟩ ?_
       rintro fr85 ⟨s0, s1, s2, s6, s7, s8, s10, s11, s18, s19, s20, s21, _⟩
       refine sR <| rM rfl s8 <| rw_q (v := (Value.agg #[(Value.string ((ln.getD k note0).frm)), (Value.string ((ln.getD k note0).id_))])) rfl (ev_loadW uT82 rfl ti82 s11 hm84.h1 (by kernel_rfl)) <| rw_n (or_mapUpdate (m := ms) (k := ((ln.getD k note0).frm, (ln.getD k note0).id_)) (v := true) (H := [(b16, om84), (b11, .cells #[(Value.string ((ln.getD k note0).frm)), (Value.string ((ln.getD k note0).id_))] 82 (0, 0)), (b10, .cells #[(Value.string ((ln.getD k note0).th)), (Value.string ((ln.getD k note0).frm)), (Value.string ((ln.getD k note0).id_)), (bl ((ln.getD k note0).sl)), (slv (ln.getD k note0).body)] 26 (0, 0))]) kok_m uT84 (Mem.pick [_, _, _] [_] _ hm84) hms rfl rfl rfl) ?_
       rintro _ w86 ⟨om86, hm86, hM86⟩
       obtain ⟨mp86, hmp86⟩ : ∃ q, q = fun j => if j = ((ln.getD k note0).frm, (ln.getD k note0).id_) then true else ms j := ⟨_, rfl⟩
       rw [← hmp86] at hM86
       refine rN (sR ?_)
       refine rM rfl s0 <| rM rfl s1 <| rw_q (v := (Value.agg #[(Value.string ((ln.getD k note0).th)), (Value.string ((ln.getD k note0).frm)), (Value.string ((ln.getD k note0).id_)), (bl ((ln.getD k note0).sl)), (slv (ln.getD k note0).body)])) rfl (ev_loadW uT26 rfl ti26 s10 hm86.h3 (by kernel_rfl)) <| rw_c rfl (opR_call Try.func16 bd16 nm16 (args3 rfl rfl rfl) (c_mplace vs ls who (ln.getD k note0) _ (RdK.ofRest hrs hm86) (fun a h => Rd.ofRest (hqs a h) hm86) sL (Rd.ofRest (rdQ NoteT.body hqn (k := k) sD) hm86))) ?_
       rintro _ w87 ⟨rfl, _ew87⟩
       have hm87 := hm86.ext _ew87
       refine rM rfl rfl <| rw_q (v := (i64 (if 0 > atI ls who (ln.getD k note0) then 0 else atI ls who (ln.getD k note0)))) rfl (ev_extract rfl rfl) <| rw_q (v := (bl (decide (0 ≤ atI ls who (ln.getD k note0))))) rfl (ev_extract rfl rfl) <| rA rfl rfl <| rw_q rfl (ev_assign (v := (bl (decide (0 ≤ atI ls who (ln.getD k note0))))) rfl) ?_
       refine rN (cw_seq (sR ?_))
       refine rw_q rfl (ev_move (v := (bl (decide (0 ≤ atI ls who (ln.getD k note0))))) rfl) <| rw_q rfl (ev_not rfl) <| rN ?_
       refine CW.abs (fun g => g 0 = vs ∧ g 1 = (Value.string who) ∧ g 2 = vn ∧ g 6 = (Value.slice none 0 0) ∧ g 7 = (Value.map (some b16)) ∧ g 8 = (Value.map (some b17)) ∧ g 10 = (ptr b10 0) ∧ g 11 = (ptr b11 0) ∧ g 12 = (i64 (if 0 > atI ls who (ln.getD k note0) then 0 else atI ls who (ln.getD k note0))) ∧ g 13 = (bl (decide (0 ≤ atI ls who (ln.getD k note0)))) ∧ g 18 = vn ∧ g 19 = (i64 (ln.length : Int)) ∧ g 20 = (i64 (k : Int)) ∧ g 21 = (bl (decide ((k : Int) < (ln.length : Int)))) ∧ g 47 = (bl (!(decide (0 ≤ atI ls who (ln.getD k note0))))) ∧ True) ⟨s0, s1, s2, s6, s7, s8, s10, s11, rfl, rfl, s18, s19, s20, s21, rfl, trivial⟩ ?_
       rintro fr89 ⟨s0, s1, s2, s6, s7, s8, s10, s11, s12, s13, s18, s19, s20, s21, s47, _⟩
       refine cw_cond s47 (fun hc90 => ?_) (fun hc90 => ?_)
       · -- true
         have hc90n : (decide (0 ≤ atI ls who (ln.getD k note0))) = false := by simpa using hc90
         have hc90p := of_decide_eq_false hc90n
         refine sR <| rM rfl s7 <| rw_n (or_mapUpdate (m := mp84) (k := (1 : Int)) (v := true) (H := [(b17, om86), (b11, .cells #[(Value.string ((ln.getD k note0).frm)), (Value.string ((ln.getD k note0).id_))] 82 (0, 0)), (b10, .cells #[(Value.string ((ln.getD k note0).th)), (Value.string ((ln.getD k note0).frm)), (Value.string ((ln.getD k note0).id_)), (bl ((ln.getD k note0).sl)), (slv (ln.getD k note0).body)] 26 (0, 0))]) kok_i uT85 (Mem.pick [_] [_] _ hm87) hM84 rfl rfl rfl) ?_
         rintro _ w91 ⟨om91, hm91, hM91⟩
         obtain ⟨mp91, hmp91⟩ : ∃ q, q = fun j => if j = (1 : Int) then true else mp84 j := ⟨_, rfl⟩
         rw [← hmp91] at hM91
         refine rN (cw_exit ?_)
         refine kThen_exit (kBlk_hit ?_)
         refine cw_region <| rw_q rfl (ev_i64_add (b := 1) s20 rfl oM oM) <| rw_q rfl (ev_move (v := (i64 ((k : Int) + 1))) rfl) <| rN ?_
         obtain ⟨t1, t3, t4, t5⟩ := st_no (pre := ln.take k) (by simpa using hc90 : decide (0 ≤ atI ls who (ln.getD k note0)) = false)
         have c1 : mp91 1 = (true) := by simp [hmp91]
         have c2 : mp91 2 = ((ms ((ln.getD k note0).frm, (ln.getD k note0).id_))) := by simp [hmp91, hmp84]
         have c3 : mp91 3 = (mf 3) := by simp [hmp91, hmp84]
         have c4 : mp91 4 = (mf 4) := by simp [hmp91, hmp84]
         have c5 : mp91 5 = (mf 5) := by simp [hmp91, hmp84]
         have hm92 := Mem.drop ([(b11, .cells #[(Value.string ((ln.getD k note0).frm)), (Value.string ((ln.getD k note0).id_))] 82 (0, 0))]) _ (Mem.pick [_, _] [_] _ hm91)
         have hm93 := Mem.drop ([(b10, .cells #[(Value.string ((ln.getD k note0).th)), (Value.string ((ln.getD k note0).frm)), (Value.string ((ln.getD k note0).id_)), (bl ((ln.getD k note0).sl)), (slv (ln.getD k note0).body)] 26 (0, 0))]) _ (Mem.pick [_, _] [_] _ hm92)
         exact ⟨⟨(k + 1), om91, om86, mp91, mp86, oM, hM91, hM86, (acc_step him (by rw [c1, t1, Bool.or_true]) (by rw [c2, hb11, st_2, Bool.false_or]; exact (hse _).trans (seen_any _ _)) (by rw [c3, t3, Bool.or_false]) (by rw [c4, t4, Bool.or_false]) (by rw [c5, t5, Bool.or_false])), (fun p => by rw [hmp86, ← seen_succ oM p, ← hse p]), s0, s1, s2, s6, s7, s8, s18, s19, rfl, hm93⟩, meas (rfl) z20 oM oM⟩
       · -- false
         have hc90n : (decide (0 ≤ atI ls who (ln.getD k note0))) = true := by simpa using hc90
         have hc90p := of_decide_eq_true hc90n
         obtain ⟨aq, haq⟩ : ∃ q : Nat, atI ls who (ln.getD k note0) = (q : Int) := ⟨(atI ls who (ln.getD k note0)).toNat, (Int.toNat_of_nonneg (of_decide_eq_true (by simpa using hc90))).symm⟩
         have har := at_range (sent := ls) (who := who) (n := (ln.getD k note0))
         have e12 : i64 (if 0 > atI ls who (ln.getD k note0) then 0 else atI ls who (ln.getD k note0)) = i64 (aq : Int) := by rw [haq]; exact congrArg i64 (if_neg oM)
         refine CW.abs (fun g => g 0 = vs ∧ g 1 = (Value.string who) ∧ g 2 = vn ∧ g 6 = (Value.slice none 0 0) ∧ g 7 = (Value.map (some b16)) ∧ g 8 = (Value.map (some b17)) ∧ g 10 = (ptr b10 0) ∧ g 11 = (ptr b11 0) ∧ g 12 = (i64 (aq : Int)) ∧ g 13 = (bl (decide (0 ≤ atI ls who (ln.getD k note0)))) ∧ g 18 = vn ∧ g 19 = (i64 (ln.length : Int)) ∧ g 20 = (i64 (k : Int)) ∧ g 21 = (bl (decide ((k : Int) < (ln.length : Int)))) ∧ g 47 = (bl (!(decide (0 ≤ atI ls who (ln.getD k note0))))) ∧ True) ⟨s0, s1, s2, s6, s7, s8, s10, s11, (Eq.trans s12 e12), s13, s18, s19, s20, s21, s47, trivial⟩ ?_
         rintro fr94 ⟨s0, s1, s2, s6, s7, s8, s10, s11, s12, s13, s18, s19, s20, s21, s47, _⟩
         refine cw_skip (kThen_normal (sR ?_))
         refine rM rfl s0 <| rM rfl s12 <| rw_q rfl (ev_indexAddr_rk (i := (aq : Int)) (RdK.ofRest hrs hm87) uT22 ti39 rfl rfl oM sL) <| rw_q (v := (Value.agg #[(Value.string ((ls.getD aq sent0).frm)), (Value.string ((ls.getD aq sent0).to_)), (Value.string ((ls.getD aq sent0).id_)), (Value.string ((ls.getD aq sent0).th)), (bl ((ls.getD aq sent0).sl)), (slv (ls.getD aq sent0).body)])) rfl (ev_load_rkA (i := (aq : Int)) (dflt := sent0) (cs := #[(Value.string ((ls.getD aq sent0).frm)), (Value.string ((ls.getD aq sent0).to_)), (Value.string ((ls.getD aq sent0).id_)), (Value.string ((ls.getD aq sent0).th)), (bl ((ls.getD aq sent0).sl)), (slv (ls.getD aq sent0).body)]) (RdK.ofRest hrs hm87) sL uT39 rfl ti39 rfl rfl (by decide) rfl) <| rw_c rfl (or_allocX hm87 ti39) ?_
         rintro _ w95 ⟨b14_1, rfl, _ew95, hm95⟩
         refine rw_n (or_storeW (cs := #[(Value.string ((ls.getD aq sent0).frm)), (Value.string ((ls.getD aq sent0).to_)), (Value.string ((ls.getD aq sent0).id_)), (Value.string ((ls.getD aq sent0).th)), (bl ((ls.getD aq sent0).sl)), (slv (ls.getD aq sent0).body)]) ti39 rfl rfl (by kernel_rfl) (one_arr (one_cons rfl (one_cons rfl (one_cons rfl (one_cons rfl (one_cons rfl (one_cons rfl one_nil))))))) hm95.h0 (by kernel_rfl) rfl) ?_
         rintro _ w96 uq96
         have hm96 : Mem w96 (restOf w0) [(b14_1, .cells #[(Value.string ((ls.getD aq sent0).frm)), (Value.string ((ls.getD aq sent0).to_)), (Value.string ((ls.getD aq sent0).id_)), (Value.string ((ls.getD aq sent0).th)), (bl ((ls.getD aq sent0).sl)), (slv (ls.getD aq sent0).body)] 39 (0, 0)), (b17, om86), (b16, om84), (b11, .cells #[(Value.string ((ln.getD k note0).frm)), (Value.string ((ln.getD k note0).id_))] 82 (0, 0)), (b10, .cells #[(Value.string ((ln.getD k note0).th)), (Value.string ((ln.getD k note0).frm)), (Value.string ((ln.getD k note0).id_)), (bl ((ln.getD k note0).sl)), (slv (ln.getD k note0).body)] 26 (0, 0))] := hm95.upd0 uq96
         refine rN (sR ?_)
         refine rM rfl s7 <| rM rfl s7 <| rw_q rfl (EvQ.cast (congrArg bl (show mp84 (3 : Int) = (mf (3 : Int)) from by simp [hmp84])) (ev_lookup (m := mp84) (k := (3 : Int)) kok_i uT85 ti4 hm96.h2 hM84 rfl rfl)) <| rw_q rfl (ev_move (v := (bl (mf (3 : Int)))) rfl) ?_
         rcases Bool.eq_false_or_eq_true (mf (3 : Int)) with hb97 | hb97
         · -- true
           refine rw_gn (s := 56) rfl rfl hb97 rfl <| rw_gn (s := 56) rfl rfl hb97 rfl <| rw_gn (s := 56) rfl rfl hb97 rfl <| rw_gn (s := 56) rfl rfl hb97 rfl <| rw_gn (s := 56) rfl rfl hb97 rfl <| rw_q rfl (ev_pick_tk rfl hb97 rfl) ?_
           refine rw_n (or_mapUpdate (m := mp84) (k := (3 : Int)) (v := true) (H := [(b14_1, .cells #[(Value.string ((ls.getD aq sent0).frm)), (Value.string ((ls.getD aq sent0).to_)), (Value.string ((ls.getD aq sent0).id_)), (Value.string ((ls.getD aq sent0).th)), (bl ((ls.getD aq sent0).sl)), (slv (ls.getD aq sent0).body)] 39 (0, 0)), (b17, om86), (b11, .cells #[(Value.string ((ln.getD k note0).frm)), (Value.string ((ln.getD k note0).id_))] 82 (0, 0)), (b10, .cells #[(Value.string ((ln.getD k note0).th)), (Value.string ((ln.getD k note0).frm)), (Value.string ((ln.getD k note0).id_)), (bl ((ln.getD k note0).sl)), (slv (ln.getD k note0).body)] 26 (0, 0))]) kok_i uT85 (Mem.pick [_, _] [_] _ hm96) hM84 rfl rfl rfl) ?_
           rintro _ w98 ⟨om98, hm98, hM98⟩
           obtain ⟨mp98, hmp98⟩ : ∃ q, q = fun j => if j = (3 : Int) then true else mp84 j := ⟨_, rfl⟩
           rw [← hmp98] at hM98
           refine rN ?_
           refine CW.abs (fun g => g 0 = vs ∧ g 1 = (Value.string who) ∧ g 2 = vn ∧ g 6 = (Value.slice none 0 0) ∧ g 7 = (Value.map (some b16)) ∧ g 8 = (Value.map (some b17)) ∧ g 10 = (ptr b10 0) ∧ g 11 = (ptr b11 0) ∧ g 12 = (i64 (aq : Int)) ∧ g 13 = (bl (decide (0 ≤ atI ls who (ln.getD k note0)))) ∧ g 14 = (ptr b14_1 0) ∧ g 18 = vn ∧ g 19 = (i64 (ln.length : Int)) ∧ g 20 = (i64 (k : Int)) ∧ g 21 = (bl (decide ((k : Int) < (ln.length : Int)))) ∧ g 47 = (bl (!(decide (0 ≤ atI ls who (ln.getD k note0))))) ∧ True) ⟨s0, s1, s2, s6, s7, s8, s10, s11, s12, s13, rfl, s18, s19, s20, s21, s47, trivial⟩ ?_
           rintro fr99 ⟨s0, s1, s2, s6, s7, s8, s10, s11, s12, s13, s14, s18, s19, s20, s21, s47, _⟩
           refine sR <| rM rfl s7 <| rM rfl s7 <| rw_q rfl (EvQ.cast (congrArg bl (show mp98 (4 : Int) = (mf (4 : Int)) from by simp [hmp98, hmp84])) (ev_lookup (m := mp98) (k := (4 : Int)) kok_i uT85 ti4 hm98.h0 hM98 rfl rfl)) <| rw_q rfl (ev_move (v := (bl (mf (4 : Int)))) rfl) ?_
           rcases Bool.eq_false_or_eq_true (mf (4 : Int)) with hb100 | hb100
           · -- true
             refine rw_gn (s := 66) rfl rfl hb100 rfl <| rw_gn (s := 66) rfl rfl hb100 rfl <| rw_gn (s := 66) rfl rfl hb100 rfl <| rw_gn (s := 66) rfl rfl hb100 rfl <| rw_gn (s := 66) rfl rfl hb100 rfl <| rw_gn (s := 66) rfl rfl hb100 rfl ?_
             refine rw_q rfl (ev_pick_tk rfl hb100 rfl) <| rw_n (or_mapUpdate (m := mp98) (k := (4 : Int)) (v := true) (H := [(b14_1, .cells #[(Value.string ((ls.getD aq sent0).frm)), (Value.string ((ls.getD aq sent0).to_)), (Value.string ((ls.getD aq sent0).id_)), (Value.string ((ls.getD aq sent0).th)), (bl ((ls.getD aq sent0).sl)), (slv (ls.getD aq sent0).body)] 39 (0, 0)), (b17, om86), (b11, .cells #[(Value.string ((ln.getD k note0).frm)), (Value.string ((ln.getD k note0).id_))] 82 (0, 0)), (b10, .cells #[(Value.string ((ln.getD k note0).th)), (Value.string ((ln.getD k note0).frm)), (Value.string ((ln.getD k note0).id_)), (bl ((ln.getD k note0).sl)), (slv (ln.getD k note0).body)] 26 (0, 0))]) kok_i uT85 hm98 hM98 rfl rfl rfl) ?_
             rintro _ w101 ⟨om101, hm101, hM101⟩
             obtain ⟨mp101, hmp101⟩ : ∃ q, q = fun j => if j = (4 : Int) then true else mp98 j := ⟨_, rfl⟩
             rw [← hmp101] at hM101
             refine rN (cw_region ?_)
             refine rM rfl s7 <| rM rfl s7 <| rw_q rfl (EvQ.cast (congrArg bl (show mp101 (5 : Int) = (mf (5 : Int)) from by simp [hmp101, hmp98, hmp84])) (ev_lookup (m := mp101) (k := (5 : Int)) kok_i uT85 ti4 hm101.h0 hM101 rfl rfl)) <| rw_q rfl (ev_move (v := (bl (mf (5 : Int)))) rfl) ?_
             rcases Bool.eq_false_or_eq_true (mf (5 : Int)) with hb102 | hb102
             · -- true
               refine rw_gn (s := 77) rfl rfl hb102 rfl <| rw_gn (s := 77) rfl rfl hb102 rfl <| rw_gn (s := 77) rfl rfl hb102 rfl <| rw_gn (s := 77) rfl rfl hb102 rfl <| rw_gn (s := 77) rfl rfl hb102 rfl <| rw_q rfl (ev_pick_tk rfl hb102 rfl) ?_
               refine rw_n (or_mapUpdate (m := mp101) (k := (5 : Int)) (v := true) (H := [(b14_1, .cells #[(Value.string ((ls.getD aq sent0).frm)), (Value.string ((ls.getD aq sent0).to_)), (Value.string ((ls.getD aq sent0).id_)), (Value.string ((ls.getD aq sent0).th)), (bl ((ls.getD aq sent0).sl)), (slv (ls.getD aq sent0).body)] 39 (0, 0)), (b17, om86), (b11, .cells #[(Value.string ((ln.getD k note0).frm)), (Value.string ((ln.getD k note0).id_))] 82 (0, 0)), (b10, .cells #[(Value.string ((ln.getD k note0).th)), (Value.string ((ln.getD k note0).frm)), (Value.string ((ln.getD k note0).id_)), (bl ((ln.getD k note0).sl)), (slv (ln.getD k note0).body)] 26 (0, 0))]) kok_i uT85 hm101 hM101 rfl rfl rfl) ?_
               rintro _ w103 ⟨om103, hm103, hM103⟩
               obtain ⟨mp103, hmp103⟩ : ∃ q, q = fun j => if j = (5 : Int) then true else mp101 j := ⟨_, rfl⟩
               rw [← hmp103] at hM103
               refine rw_nil (kBlk_normal ?_)
               refine CW.abs (fun g => g 0 = vs ∧ g 1 = (Value.string who) ∧ g 2 = vn ∧ g 6 = (Value.slice none 0 0) ∧ g 7 = (Value.map (some b16)) ∧ g 8 = (Value.map (some b17)) ∧ g 10 = (ptr b10 0) ∧ g 11 = (ptr b11 0) ∧ g 12 = (i64 (aq : Int)) ∧ g 13 = (bl (decide (0 ≤ atI ls who (ln.getD k note0)))) ∧ g 14 = (ptr b14_1 0) ∧ g 18 = vn ∧ g 19 = (i64 (ln.length : Int)) ∧ g 20 = (i64 (k : Int)) ∧ g 21 = (bl (decide ((k : Int) < (ln.length : Int)))) ∧ g 47 = (bl (!(decide (0 ≤ atI ls who (ln.getD k note0))))) ∧ True) ⟨s0, s1, s2, s6, s7, s8, s10, s11, s12, s13, s14, s18, s19, s20, s21, s47, trivial⟩ ?_
               rintro fr104 ⟨s0, s1, s2, s6, s7, s8, s10, s11, s12, s13, s14, s18, s19, s20, s21, s47, _⟩
               refine cw_region <| rw_q rfl (ev_i64_add (b := 1) s20 rfl oM oM) <| rw_q rfl (ev_move (v := (i64 ((k : Int) + 1))) rfl) <| rN ?_
               obtain ⟨t1, t3, t4, t5⟩ := st_ok (pre := ln.take k) (by simpa using hc90 : decide (0 ≤ atI ls who (ln.getD k note0)) = true)
               rw [show (atI ls who (ln.getD k note0)).toNat = aq by rw [haq]; rfl] at t3 t4 t5
               have c1 : mp103 1 = (mf 1) := by simp [hmp103, hmp101, hmp98, hmp84]
               have c2 : mp103 2 = ((ms ((ln.getD k note0).frm, (ln.getD k note0).id_))) := by simp [hmp103, hmp101, hmp98, hmp84]
               have c3 : mp103 3 = (true) := by simp [hmp103, hmp101, hmp98]
               have c4 : mp103 4 = (true) := by simp [hmp103, hmp101]
               have c5 : mp103 5 = (true) := by simp [hmp103]
               have hm105 := Mem.drop ([(b14_1, .cells #[(Value.string ((ls.getD aq sent0).frm)), (Value.string ((ls.getD aq sent0).to_)), (Value.string ((ls.getD aq sent0).id_)), (Value.string ((ls.getD aq sent0).th)), (bl ((ls.getD aq sent0).sl)), (slv (ls.getD aq sent0).body)] 39 (0, 0))]) _ (Mem.pick [_] [_] _ hm103)
               have hm106 := Mem.drop ([(b11, .cells #[(Value.string ((ln.getD k note0).frm)), (Value.string ((ln.getD k note0).id_))] 82 (0, 0))]) _ (Mem.pick [_, _] [_] _ hm105)
               have hm107 := Mem.drop ([(b10, .cells #[(Value.string ((ln.getD k note0).th)), (Value.string ((ln.getD k note0).frm)), (Value.string ((ln.getD k note0).id_)), (bl ((ln.getD k note0).sl)), (slv (ln.getD k note0).body)] 26 (0, 0))]) _ (Mem.pick [_, _] [_] _ hm106)
               exact ⟨⟨(k + 1), om103, om86, mp103, mp86, oM, hM103, hM86, (acc_step him (by rw [c1, t1, Bool.or_false]) (by rw [c2, hb11, st_2, Bool.false_or]; exact (hse _).trans (seen_any _ _)) (by rw [c3, hb97]; rfl) (by rw [c4, hb100]; rfl) (by rw [c5, hb102]; rfl)), (fun p => by rw [hmp86, ← seen_succ oM p, ← hse p]), s0, s1, s2, s6, s7, s8, s18, s19, rfl, hm107⟩, meas (rfl) z20 oM oM⟩
             · -- false
               refine rw_gyq (s := 77) rfl rfl hb102 rfl (ev_fa (r := 4) uT39 rfl (by first | rfl | omega) ti4 rfl s14) <| rw_gyq (s := 77) rfl rfl hb102 rfl (ev_load1 uT4 rfl rfl hm101.h1 rfl) <| rw_gyq (s := 77) rfl rfl hb102 rfl (ev_fa (r := 3) uT26 rfl (by first | rfl | omega) ti4 rfl s10) <| rw_gyq (s := 77) rfl rfl hb102 rfl (ev_load1 uT4 rfl rfl hm101.h4 rfl) <| rw_gyq (s := 77) rfl rfl hb102 rfl (ev_bool_neq uT4 rfl rfl) <| rw_q rfl (ev_pick_fk rfl hb102 rfl) ?_
               refine rw_n (or_mapUpdate (m := mp101) (k := (5 : Int)) (v := ((ls.getD aq sent0).sl) != ((ln.getD k note0).sl)) (H := [(b14_1, .cells #[(Value.string ((ls.getD aq sent0).frm)), (Value.string ((ls.getD aq sent0).to_)), (Value.string ((ls.getD aq sent0).id_)), (Value.string ((ls.getD aq sent0).th)), (bl ((ls.getD aq sent0).sl)), (slv (ls.getD aq sent0).body)] 39 (0, 0)), (b17, om86), (b11, .cells #[(Value.string ((ln.getD k note0).frm)), (Value.string ((ln.getD k note0).id_))] 82 (0, 0)), (b10, .cells #[(Value.string ((ln.getD k note0).th)), (Value.string ((ln.getD k note0).frm)), (Value.string ((ln.getD k note0).id_)), (bl ((ln.getD k note0).sl)), (slv (ln.getD k note0).body)] 26 (0, 0))]) kok_i uT85 hm101 hM101 rfl rfl rfl) ?_
               rintro _ w108 ⟨om108, hm108, hM108⟩
               obtain ⟨mp108, hmp108⟩ : ∃ q, q = fun j => if j = (5 : Int) then ((ls.getD aq sent0).sl) != ((ln.getD k note0).sl) else mp101 j := ⟨_, rfl⟩
               rw [← hmp108] at hM108
               refine rw_nil (kBlk_normal ?_)
               refine CW.abs (fun g => g 0 = vs ∧ g 1 = (Value.string who) ∧ g 2 = vn ∧ g 6 = (Value.slice none 0 0) ∧ g 7 = (Value.map (some b16)) ∧ g 8 = (Value.map (some b17)) ∧ g 10 = (ptr b10 0) ∧ g 11 = (ptr b11 0) ∧ g 12 = (i64 (aq : Int)) ∧ g 13 = (bl (decide (0 ≤ atI ls who (ln.getD k note0)))) ∧ g 14 = (ptr b14_1 0) ∧ g 18 = vn ∧ g 19 = (i64 (ln.length : Int)) ∧ g 20 = (i64 (k : Int)) ∧ g 21 = (bl (decide ((k : Int) < (ln.length : Int)))) ∧ g 47 = (bl (!(decide (0 ≤ atI ls who (ln.getD k note0))))) ∧ True) ⟨s0, s1, s2, s6, s7, s8, s10, s11, s12, s13, s14, s18, s19, s20, s21, s47, trivial⟩ ?_
               rintro fr109 ⟨s0, s1, s2, s6, s7, s8, s10, s11, s12, s13, s14, s18, s19, s20, s21, s47, _⟩
               refine cw_region <| rw_q rfl (ev_i64_add (b := 1) s20 rfl oM oM) <| rw_q rfl (ev_move (v := (i64 ((k : Int) + 1))) rfl) <| rN ?_
               obtain ⟨t1, t3, t4, t5⟩ := st_ok (pre := ln.take k) (by simpa using hc90 : decide (0 ≤ atI ls who (ln.getD k note0)) = true)
               rw [show (atI ls who (ln.getD k note0)).toNat = aq by rw [haq]; rfl] at t3 t4 t5
               have c1 : mp108 1 = (mf 1) := by simp [hmp108, hmp101, hmp98, hmp84]
               have c2 : mp108 2 = ((ms ((ln.getD k note0).frm, (ln.getD k note0).id_))) := by simp [hmp108, hmp101, hmp98, hmp84]
               have c3 : mp108 3 = (true) := by simp [hmp108, hmp101, hmp98]
               have c4 : mp108 4 = (true) := by simp [hmp108, hmp101]
               have c5 : mp108 5 = (((ls.getD aq sent0).sl) != ((ln.getD k note0).sl)) := by simp [hmp108]
               have hm110 := Mem.drop ([(b14_1, .cells #[(Value.string ((ls.getD aq sent0).frm)), (Value.string ((ls.getD aq sent0).to_)), (Value.string ((ls.getD aq sent0).id_)), (Value.string ((ls.getD aq sent0).th)), (bl ((ls.getD aq sent0).sl)), (slv (ls.getD aq sent0).body)] 39 (0, 0))]) _ (Mem.pick [_] [_] _ hm108)
               have hm111 := Mem.drop ([(b11, .cells #[(Value.string ((ln.getD k note0).frm)), (Value.string ((ln.getD k note0).id_))] 82 (0, 0))]) _ (Mem.pick [_, _] [_] _ hm110)
               have hm112 := Mem.drop ([(b10, .cells #[(Value.string ((ln.getD k note0).th)), (Value.string ((ln.getD k note0).frm)), (Value.string ((ln.getD k note0).id_)), (bl ((ln.getD k note0).sl)), (slv (ln.getD k note0).body)] 26 (0, 0))]) _ (Mem.pick [_, _] [_] _ hm111)
               exact ⟨⟨(k + 1), om108, om86, mp108, mp86, oM, hM108, hM86, (acc_step him (by rw [c1, t1, Bool.or_false]) (by rw [c2, hb11, st_2, Bool.false_or]; exact (hse _).trans (seen_any _ _)) (by rw [c3, hb97]; rfl) (by rw [c4, hb100]; rfl) (by rw [c5, hb102, t5, Bool.false_or])), (fun p => by rw [hmp86, ← seen_succ oM p, ← hse p]), s0, s1, s2, s6, s7, s8, s18, s19, rfl, hm112⟩, meas (rfl) z20 oM oM⟩
           · -- false
             refine rw_gyq (s := 66) rfl rfl hb100 rfl (ev_fa (r := 5) uT39 rfl (by first | rfl | omega) ti24 rfl s14) <| rw_gyq (s := 66) rfl rfl hb100 rfl (ev_load1 uT24 rfl rfl hm98.h1 rfl) <| rw_gyq (s := 66) rfl rfl hb100 rfl (ev_fa (r := 4) uT26 rfl (by first | rfl | omega) ti24 rfl s10) <| rw_gyq (s := 66) rfl rfl hb100 rfl (ev_load1 uT24 rfl rfl hm98.h4 rfl) <| rw_gy (s := 66) rfl rfl hb100 rfl (opR_call Try.func51 bd51 nm51 (args2 rfl rfl) (c_beq (slv (ls.getD aq sent0).body) (slv (ln.getD k note0).body) ((ls.getD aq sent0).body.2) ((ln.getD k note0).body.2) _ (Rd.ofRest (rdQ SentT.body hqs (k := aq) sD) hm98) (Rd.ofRest (rdQ NoteT.body hqn (k := k) sD) hm98))) ?_
             rintro _ w113 ⟨rfl, _ew113⟩
             have hm113 := hm98.ext _ew113
             refine rw_gyq (s := 66) rfl rfl hb100 rfl (ev_not rfl) <| rw_q rfl (ev_pick_fk rfl hb100 rfl) <| rw_n (or_mapUpdate (m := mp98) (k := (4 : Int)) (v := !(((ls.getD aq sent0).body.2) == ((ln.getD k note0).body.2))) (H := [(b14_1, .cells #[(Value.string ((ls.getD aq sent0).frm)), (Value.string ((ls.getD aq sent0).to_)), (Value.string ((ls.getD aq sent0).id_)), (Value.string ((ls.getD aq sent0).th)), (bl ((ls.getD aq sent0).sl)), (slv (ls.getD aq sent0).body)] 39 (0, 0)), (b17, om86), (b11, .cells #[(Value.string ((ln.getD k note0).frm)), (Value.string ((ln.getD k note0).id_))] 82 (0, 0)), (b10, .cells #[(Value.string ((ln.getD k note0).th)), (Value.string ((ln.getD k note0).frm)), (Value.string ((ln.getD k note0).id_)), (bl ((ln.getD k note0).sl)), (slv (ln.getD k note0).body)] 26 (0, 0))]) kok_i uT85 hm113 hM98 rfl rfl rfl) ?_
             rintro _ w115 ⟨om115, hm115, hM115⟩
             obtain ⟨mp115, hmp115⟩ : ∃ q, q = fun j => if j = (4 : Int) then !(((ls.getD aq sent0).body.2) == ((ln.getD k note0).body.2)) else mp98 j := ⟨_, rfl⟩
             rw [← hmp115] at hM115
             refine rN (cw_region ?_)
             refine rM rfl s7 <| rM rfl s7 <| rw_q rfl (EvQ.cast (congrArg bl (show mp115 (5 : Int) = (mf (5 : Int)) from by simp [hmp115, hmp98, hmp84])) (ev_lookup (m := mp115) (k := (5 : Int)) kok_i uT85 ti4 hm115.h0 hM115 rfl rfl)) <| rw_q rfl (ev_move (v := (bl (mf (5 : Int)))) rfl) ?_
             rcases Bool.eq_false_or_eq_true (mf (5 : Int)) with hb116 | hb116
             · -- true
               refine rw_gn (s := 77) rfl rfl hb116 rfl <| rw_gn (s := 77) rfl rfl hb116 rfl <| rw_gn (s := 77) rfl rfl hb116 rfl <| rw_gn (s := 77) rfl rfl hb116 rfl <| rw_gn (s := 77) rfl rfl hb116 rfl <| rw_q rfl (ev_pick_tk rfl hb116 rfl) ?_
               refine rw_n (or_mapUpdate (m := mp115) (k := (5 : Int)) (v := true) (H := [(b14_1, .cells #[(Value.string ((ls.getD aq sent0).frm)), (Value.string ((ls.getD aq sent0).to_)), (Value.string ((ls.getD aq sent0).id_)), (Value.string ((ls.getD aq sent0).th)), (bl ((ls.getD aq sent0).sl)), (slv (ls.getD aq sent0).body)] 39 (0, 0)), (b17, om86), (b11, .cells #[(Value.string ((ln.getD k note0).frm)), (Value.string ((ln.getD k note0).id_))] 82 (0, 0)), (b10, .cells #[(Value.string ((ln.getD k note0).th)), (Value.string ((ln.getD k note0).frm)), (Value.string ((ln.getD k note0).id_)), (bl ((ln.getD k note0).sl)), (slv (ln.getD k note0).body)] 26 (0, 0))]) kok_i uT85 hm115 hM115 rfl rfl rfl) ?_
               rintro _ w117 ⟨om117, hm117, hM117⟩
               obtain ⟨mp117, hmp117⟩ : ∃ q, q = fun j => if j = (5 : Int) then true else mp115 j := ⟨_, rfl⟩
               rw [← hmp117] at hM117
               refine rw_nil (kBlk_normal ?_)
               refine CW.abs (fun g => g 0 = vs ∧ g 1 = (Value.string who) ∧ g 2 = vn ∧ g 6 = (Value.slice none 0 0) ∧ g 7 = (Value.map (some b16)) ∧ g 8 = (Value.map (some b17)) ∧ g 10 = (ptr b10 0) ∧ g 11 = (ptr b11 0) ∧ g 12 = (i64 (aq : Int)) ∧ g 13 = (bl (decide (0 ≤ atI ls who (ln.getD k note0)))) ∧ g 14 = (ptr b14_1 0) ∧ g 18 = vn ∧ g 19 = (i64 (ln.length : Int)) ∧ g 20 = (i64 (k : Int)) ∧ g 21 = (bl (decide ((k : Int) < (ln.length : Int)))) ∧ g 47 = (bl (!(decide (0 ≤ atI ls who (ln.getD k note0))))) ∧ True) ⟨s0, s1, s2, s6, s7, s8, s10, s11, s12, s13, s14, s18, s19, s20, s21, s47, trivial⟩ ?_
               rintro fr118 ⟨s0, s1, s2, s6, s7, s8, s10, s11, s12, s13, s14, s18, s19, s20, s21, s47, _⟩
               refine cw_region <| rw_q rfl (ev_i64_add (b := 1) s20 rfl oM oM) <| rw_q rfl (ev_move (v := (i64 ((k : Int) + 1))) rfl) <| rN ?_
               obtain ⟨t1, t3, t4, t5⟩ := st_ok (pre := ln.take k) (by simpa using hc90 : decide (0 ≤ atI ls who (ln.getD k note0)) = true)
               rw [show (atI ls who (ln.getD k note0)).toNat = aq by rw [haq]; rfl] at t3 t4 t5
               have c1 : mp117 1 = (mf 1) := by simp [hmp117, hmp115, hmp98, hmp84]
               have c2 : mp117 2 = ((ms ((ln.getD k note0).frm, (ln.getD k note0).id_))) := by simp [hmp117, hmp115, hmp98, hmp84]
               have c3 : mp117 3 = (true) := by simp [hmp117, hmp115, hmp98]
               have c4 : mp117 4 = (!(((ls.getD aq sent0).body.2) == ((ln.getD k note0).body.2))) := by simp [hmp117, hmp115]
               have c5 : mp117 5 = (true) := by simp [hmp117]
               have hm119 := Mem.drop ([(b14_1, .cells #[(Value.string ((ls.getD aq sent0).frm)), (Value.string ((ls.getD aq sent0).to_)), (Value.string ((ls.getD aq sent0).id_)), (Value.string ((ls.getD aq sent0).th)), (bl ((ls.getD aq sent0).sl)), (slv (ls.getD aq sent0).body)] 39 (0, 0))]) _ (Mem.pick [_] [_] _ hm117)
               have hm120 := Mem.drop ([(b11, .cells #[(Value.string ((ln.getD k note0).frm)), (Value.string ((ln.getD k note0).id_))] 82 (0, 0))]) _ (Mem.pick [_, _] [_] _ hm119)
               have hm121 := Mem.drop ([(b10, .cells #[(Value.string ((ln.getD k note0).th)), (Value.string ((ln.getD k note0).frm)), (Value.string ((ln.getD k note0).id_)), (bl ((ln.getD k note0).sl)), (slv (ln.getD k note0).body)] 26 (0, 0))]) _ (Mem.pick [_, _] [_] _ hm120)
               exact ⟨⟨(k + 1), om117, om86, mp117, mp86, oM, hM117, hM86, (acc_step him (by rw [c1, t1, Bool.or_false]) (by rw [c2, hb11, st_2, Bool.false_or]; exact (hse _).trans (seen_any _ _)) (by rw [c3, hb97]; rfl) (by rw [c4, hb100, t4, Bool.false_or]) (by rw [c5, hb116]; rfl)), (fun p => by rw [hmp86, ← seen_succ oM p, ← hse p]), s0, s1, s2, s6, s7, s8, s18, s19, rfl, hm121⟩, meas (rfl) z20 oM oM⟩
             · -- false
               refine rw_gyq (s := 77) rfl rfl hb116 rfl (ev_fa (r := 4) uT39 rfl (by first | rfl | omega) ti4 rfl s14) <| rw_gyq (s := 77) rfl rfl hb116 rfl (ev_load1 uT4 rfl rfl hm115.h1 rfl) <| rw_gyq (s := 77) rfl rfl hb116 rfl (ev_fa (r := 3) uT26 rfl (by first | rfl | omega) ti4 rfl s10) <| rw_gyq (s := 77) rfl rfl hb116 rfl (ev_load1 uT4 rfl rfl hm115.h4 rfl) <| rw_gyq (s := 77) rfl rfl hb116 rfl (ev_bool_neq uT4 rfl rfl) <| rw_q rfl (ev_pick_fk rfl hb116 rfl) ?_
               refine rw_n (or_mapUpdate (m := mp115) (k := (5 : Int)) (v := ((ls.getD aq sent0).sl) != ((ln.getD k note0).sl)) (H := [(b14_1, .cells #[(Value.string ((ls.getD aq sent0).frm)), (Value.string ((ls.getD aq sent0).to_)), (Value.string ((ls.getD aq sent0).id_)), (Value.string ((ls.getD aq sent0).th)), (bl ((ls.getD aq sent0).sl)), (slv (ls.getD aq sent0).body)] 39 (0, 0)), (b17, om86), (b11, .cells #[(Value.string ((ln.getD k note0).frm)), (Value.string ((ln.getD k note0).id_))] 82 (0, 0)), (b10, .cells #[(Value.string ((ln.getD k note0).th)), (Value.string ((ln.getD k note0).frm)), (Value.string ((ln.getD k note0).id_)), (bl ((ln.getD k note0).sl)), (slv (ln.getD k note0).body)] 26 (0, 0))]) kok_i uT85 hm115 hM115 rfl rfl rfl) ?_
               rintro _ w122 ⟨om122, hm122, hM122⟩
               obtain ⟨mp122, hmp122⟩ : ∃ q, q = fun j => if j = (5 : Int) then ((ls.getD aq sent0).sl) != ((ln.getD k note0).sl) else mp115 j := ⟨_, rfl⟩
               rw [← hmp122] at hM122
               refine rw_nil (kBlk_normal ?_)
               refine CW.abs (fun g => g 0 = vs ∧ g 1 = (Value.string who) ∧ g 2 = vn ∧ g 6 = (Value.slice none 0 0) ∧ g 7 = (Value.map (some b16)) ∧ g 8 = (Value.map (some b17)) ∧ g 10 = (ptr b10 0) ∧ g 11 = (ptr b11 0) ∧ g 12 = (i64 (aq : Int)) ∧ g 13 = (bl (decide (0 ≤ atI ls who (ln.getD k note0)))) ∧ g 14 = (ptr b14_1 0) ∧ g 18 = vn ∧ g 19 = (i64 (ln.length : Int)) ∧ g 20 = (i64 (k : Int)) ∧ g 21 = (bl (decide ((k : Int) < (ln.length : Int)))) ∧ g 47 = (bl (!(decide (0 ≤ atI ls who (ln.getD k note0))))) ∧ True) ⟨s0, s1, s2, s6, s7, s8, s10, s11, s12, s13, s14, s18, s19, s20, s21, s47, trivial⟩ ?_
               rintro fr123 ⟨s0, s1, s2, s6, s7, s8, s10, s11, s12, s13, s14, s18, s19, s20, s21, s47, _⟩
               refine cw_region <| rw_q rfl (ev_i64_add (b := 1) s20 rfl oM oM) <| rw_q rfl (ev_move (v := (i64 ((k : Int) + 1))) rfl) <| rN ?_
               obtain ⟨t1, t3, t4, t5⟩ := st_ok (pre := ln.take k) (by simpa using hc90 : decide (0 ≤ atI ls who (ln.getD k note0)) = true)
               rw [show (atI ls who (ln.getD k note0)).toNat = aq by rw [haq]; rfl] at t3 t4 t5
               have c1 : mp122 1 = (mf 1) := by simp [hmp122, hmp115, hmp98, hmp84]
               have c2 : mp122 2 = ((ms ((ln.getD k note0).frm, (ln.getD k note0).id_))) := by simp [hmp122, hmp115, hmp98, hmp84]
               have c3 : mp122 3 = (true) := by simp [hmp122, hmp115, hmp98]
               have c4 : mp122 4 = (!(((ls.getD aq sent0).body.2) == ((ln.getD k note0).body.2))) := by simp [hmp122, hmp115]
               have c5 : mp122 5 = (((ls.getD aq sent0).sl) != ((ln.getD k note0).sl)) := by simp [hmp122]
               have hm124 := Mem.drop ([(b14_1, .cells #[(Value.string ((ls.getD aq sent0).frm)), (Value.string ((ls.getD aq sent0).to_)), (Value.string ((ls.getD aq sent0).id_)), (Value.string ((ls.getD aq sent0).th)), (bl ((ls.getD aq sent0).sl)), (slv (ls.getD aq sent0).body)] 39 (0, 0))]) _ (Mem.pick [_] [_] _ hm122)
               have hm125 := Mem.drop ([(b11, .cells #[(Value.string ((ln.getD k note0).frm)), (Value.string ((ln.getD k note0).id_))] 82 (0, 0))]) _ (Mem.pick [_, _] [_] _ hm124)
               have hm126 := Mem.drop ([(b10, .cells #[(Value.string ((ln.getD k note0).th)), (Value.string ((ln.getD k note0).frm)), (Value.string ((ln.getD k note0).id_)), (bl ((ln.getD k note0).sl)), (slv (ln.getD k note0).body)] 26 (0, 0))]) _ (Mem.pick [_, _] [_] _ hm125)
               exact ⟨⟨(k + 1), om122, om86, mp122, mp86, oM, hM122, hM86, (acc_step him (by rw [c1, t1, Bool.or_false]) (by rw [c2, hb11, st_2, Bool.false_or]; exact (hse _).trans (seen_any _ _)) (by rw [c3, hb97]; rfl) (by rw [c4, hb100, t4, Bool.false_or]) (by rw [c5, hb116, t5, Bool.false_or])), (fun p => by rw [hmp86, ← seen_succ oM p, ← hse p]), s0, s1, s2, s6, s7, s8, s18, s19, rfl, hm126⟩, meas (rfl) z20 oM oM⟩
         · -- false
           refine rw_gyq (s := 56) rfl rfl hb97 rfl (ev_fa (r := 3) uT39 rfl (by first | rfl | omega) ti9 rfl rfl) <| rw_gyq (s := 56) rfl rfl hb97 rfl (ev_load1 uT9 rfl rfl hm96.h0 rfl) <| rw_gyq (s := 56) rfl rfl hb97 rfl (ev_fa (r := 0) uT26 rfl (by first | rfl | omega) ti9 rfl s10) <| rw_gyq (s := 56) rfl rfl hb97 rfl (ev_load1 uT9 rfl rfl hm96.h4 rfl) <| rw_gyq (s := 56) rfl rfl hb97 rfl (ev_str_neq (s := (ls.getD aq sent0).th) (t := (ln.getD k note0).th) rfl rfl) <| rw_q rfl (ev_pick_fk rfl hb97 rfl) ?_
           refine rw_n (or_mapUpdate (m := mp84) (k := (3 : Int)) (v := !decide ((ls.getD aq sent0).th = (ln.getD k note0).th)) (H := [(b14_1, .cells #[(Value.string ((ls.getD aq sent0).frm)), (Value.string ((ls.getD aq sent0).to_)), (Value.string ((ls.getD aq sent0).id_)), (Value.string ((ls.getD aq sent0).th)), (bl ((ls.getD aq sent0).sl)), (slv (ls.getD aq sent0).body)] 39 (0, 0)), (b17, om86), (b11, .cells #[(Value.string ((ln.getD k note0).frm)), (Value.string ((ln.getD k note0).id_))] 82 (0, 0)), (b10, .cells #[(Value.string ((ln.getD k note0).th)), (Value.string ((ln.getD k note0).frm)), (Value.string ((ln.getD k note0).id_)), (bl ((ln.getD k note0).sl)), (slv (ln.getD k note0).body)] 26 (0, 0))]) kok_i uT85 (Mem.pick [_, _] [_] _ hm96) hM84 rfl rfl rfl) ?_
           rintro _ w127 ⟨om127, hm127, hM127⟩
           obtain ⟨mp127, hmp127⟩ : ∃ q, q = fun j => if j = (3 : Int) then !decide ((ls.getD aq sent0).th = (ln.getD k note0).th) else mp84 j := ⟨_, rfl⟩
           rw [← hmp127] at hM127
           refine rN ?_
           refine CW.abs (fun g => g 0 = vs ∧ g 1 = (Value.string who) ∧ g 2 = vn ∧ g 6 = (Value.slice none 0 0) ∧ g 7 = (Value.map (some b16)) ∧ g 8 = (Value.map (some b17)) ∧ g 10 = (ptr b10 0) ∧ g 11 = (ptr b11 0) ∧ g 12 = (i64 (aq : Int)) ∧ g 13 = (bl (decide (0 ≤ atI ls who (ln.getD k note0)))) ∧ g 14 = (ptr b14_1 0) ∧ g 18 = vn ∧ g 19 = (i64 (ln.length : Int)) ∧ g 20 = (i64 (k : Int)) ∧ g 21 = (bl (decide ((k : Int) < (ln.length : Int)))) ∧ g 47 = (bl (!(decide (0 ≤ atI ls who (ln.getD k note0))))) ∧ True) ⟨s0, s1, s2, s6, s7, s8, s10, s11, s12, s13, rfl, s18, s19, s20, s21, s47, trivial⟩ ?_
           rintro fr128 ⟨s0, s1, s2, s6, s7, s8, s10, s11, s12, s13, s14, s18, s19, s20, s21, s47, _⟩
           refine sR <| rM rfl s7 <| rM rfl s7 <| rw_q rfl (EvQ.cast (congrArg bl (show mp127 (4 : Int) = (mf (4 : Int)) from by simp [hmp127, hmp84])) (ev_lookup (m := mp127) (k := (4 : Int)) kok_i uT85 ti4 hm127.h0 hM127 rfl rfl)) <| rw_q rfl (ev_move (v := (bl (mf (4 : Int)))) rfl) ?_
           rcases Bool.eq_false_or_eq_true (mf (4 : Int)) with hb129 | hb129
           · -- true
             refine rw_gn (s := 66) rfl rfl hb129 rfl <| rw_gn (s := 66) rfl rfl hb129 rfl <| rw_gn (s := 66) rfl rfl hb129 rfl <| rw_gn (s := 66) rfl rfl hb129 rfl <| rw_gn (s := 66) rfl rfl hb129 rfl <| rw_gn (s := 66) rfl rfl hb129 rfl ?_
             refine rw_q rfl (ev_pick_tk rfl hb129 rfl) <| rw_n (or_mapUpdate (m := mp127) (k := (4 : Int)) (v := true) (H := [(b14_1, .cells #[(Value.string ((ls.getD aq sent0).frm)), (Value.string ((ls.getD aq sent0).to_)), (Value.string ((ls.getD aq sent0).id_)), (Value.string ((ls.getD aq sent0).th)), (bl ((ls.getD aq sent0).sl)), (slv (ls.getD aq sent0).body)] 39 (0, 0)), (b17, om86), (b11, .cells #[(Value.string ((ln.getD k note0).frm)), (Value.string ((ln.getD k note0).id_))] 82 (0, 0)), (b10, .cells #[(Value.string ((ln.getD k note0).th)), (Value.string ((ln.getD k note0).frm)), (Value.string ((ln.getD k note0).id_)), (bl ((ln.getD k note0).sl)), (slv (ln.getD k note0).body)] 26 (0, 0))]) kok_i uT85 hm127 hM127 rfl rfl rfl) ?_
             rintro _ w130 ⟨om130, hm130, hM130⟩
             obtain ⟨mp130, hmp130⟩ : ∃ q, q = fun j => if j = (4 : Int) then true else mp127 j := ⟨_, rfl⟩
             rw [← hmp130] at hM130
             refine rN (cw_region ?_)
             refine rM rfl s7 <| rM rfl s7 <| rw_q rfl (EvQ.cast (congrArg bl (show mp130 (5 : Int) = (mf (5 : Int)) from by simp [hmp130, hmp127, hmp84])) (ev_lookup (m := mp130) (k := (5 : Int)) kok_i uT85 ti4 hm130.h0 hM130 rfl rfl)) <| rw_q rfl (ev_move (v := (bl (mf (5 : Int)))) rfl) ?_
             rcases Bool.eq_false_or_eq_true (mf (5 : Int)) with hb131 | hb131
             · -- true
               refine rw_gn (s := 77) rfl rfl hb131 rfl <| rw_gn (s := 77) rfl rfl hb131 rfl <| rw_gn (s := 77) rfl rfl hb131 rfl <| rw_gn (s := 77) rfl rfl hb131 rfl <| rw_gn (s := 77) rfl rfl hb131 rfl <| rw_q rfl (ev_pick_tk rfl hb131 rfl) ?_
               refine rw_n (or_mapUpdate (m := mp130) (k := (5 : Int)) (v := true) (H := [(b14_1, .cells #[(Value.string ((ls.getD aq sent0).frm)), (Value.string ((ls.getD aq sent0).to_)), (Value.string ((ls.getD aq sent0).id_)), (Value.string ((ls.getD aq sent0).th)), (bl ((ls.getD aq sent0).sl)), (slv (ls.getD aq sent0).body)] 39 (0, 0)), (b17, om86), (b11, .cells #[(Value.string ((ln.getD k note0).frm)), (Value.string ((ln.getD k note0).id_))] 82 (0, 0)), (b10, .cells #[(Value.string ((ln.getD k note0).th)), (Value.string ((ln.getD k note0).frm)), (Value.string ((ln.getD k note0).id_)), (bl ((ln.getD k note0).sl)), (slv (ln.getD k note0).body)] 26 (0, 0))]) kok_i uT85 hm130 hM130 rfl rfl rfl) ?_
               rintro _ w132 ⟨om132, hm132, hM132⟩
               obtain ⟨mp132, hmp132⟩ : ∃ q, q = fun j => if j = (5 : Int) then true else mp130 j := ⟨_, rfl⟩
               rw [← hmp132] at hM132
               refine rw_nil (kBlk_normal ?_)
               refine CW.abs (fun g => g 0 = vs ∧ g 1 = (Value.string who) ∧ g 2 = vn ∧ g 6 = (Value.slice none 0 0) ∧ g 7 = (Value.map (some b16)) ∧ g 8 = (Value.map (some b17)) ∧ g 10 = (ptr b10 0) ∧ g 11 = (ptr b11 0) ∧ g 12 = (i64 (aq : Int)) ∧ g 13 = (bl (decide (0 ≤ atI ls who (ln.getD k note0)))) ∧ g 14 = (ptr b14_1 0) ∧ g 18 = vn ∧ g 19 = (i64 (ln.length : Int)) ∧ g 20 = (i64 (k : Int)) ∧ g 21 = (bl (decide ((k : Int) < (ln.length : Int)))) ∧ g 47 = (bl (!(decide (0 ≤ atI ls who (ln.getD k note0))))) ∧ True) ⟨s0, s1, s2, s6, s7, s8, s10, s11, s12, s13, s14, s18, s19, s20, s21, s47, trivial⟩ ?_
               rintro fr133 ⟨s0, s1, s2, s6, s7, s8, s10, s11, s12, s13, s14, s18, s19, s20, s21, s47, _⟩
               refine cw_region <| rw_q rfl (ev_i64_add (b := 1) s20 rfl oM oM) <| rw_q rfl (ev_move (v := (i64 ((k : Int) + 1))) rfl) <| rN ?_
               obtain ⟨t1, t3, t4, t5⟩ := st_ok (pre := ln.take k) (by simpa using hc90 : decide (0 ≤ atI ls who (ln.getD k note0)) = true)
               rw [show (atI ls who (ln.getD k note0)).toNat = aq by rw [haq]; rfl] at t3 t4 t5
               have c1 : mp132 1 = (mf 1) := by simp [hmp132, hmp130, hmp127, hmp84]
               have c2 : mp132 2 = ((ms ((ln.getD k note0).frm, (ln.getD k note0).id_))) := by simp [hmp132, hmp130, hmp127, hmp84]
               have c3 : mp132 3 = (!decide ((ls.getD aq sent0).th = (ln.getD k note0).th)) := by simp [hmp132, hmp130, hmp127]
               have c4 : mp132 4 = (true) := by simp [hmp132, hmp130]
               have c5 : mp132 5 = (true) := by simp [hmp132]
               have hm134 := Mem.drop ([(b14_1, .cells #[(Value.string ((ls.getD aq sent0).frm)), (Value.string ((ls.getD aq sent0).to_)), (Value.string ((ls.getD aq sent0).id_)), (Value.string ((ls.getD aq sent0).th)), (bl ((ls.getD aq sent0).sl)), (slv (ls.getD aq sent0).body)] 39 (0, 0))]) _ (Mem.pick [_] [_] _ hm132)
               have hm135 := Mem.drop ([(b11, .cells #[(Value.string ((ln.getD k note0).frm)), (Value.string ((ln.getD k note0).id_))] 82 (0, 0))]) _ (Mem.pick [_, _] [_] _ hm134)
               have hm136 := Mem.drop ([(b10, .cells #[(Value.string ((ln.getD k note0).th)), (Value.string ((ln.getD k note0).frm)), (Value.string ((ln.getD k note0).id_)), (bl ((ln.getD k note0).sl)), (slv (ln.getD k note0).body)] 26 (0, 0))]) _ (Mem.pick [_, _] [_] _ hm135)
               exact ⟨⟨(k + 1), om132, om86, mp132, mp86, oM, hM132, hM86, (acc_step him (by rw [c1, t1, Bool.or_false]) (by rw [c2, hb11, st_2, Bool.false_or]; exact (hse _).trans (seen_any _ _)) (by rw [c3, hb97, t3, Bool.false_or]) (by rw [c4, hb129]; rfl) (by rw [c5, hb131]; rfl)), (fun p => by rw [hmp86, ← seen_succ oM p, ← hse p]), s0, s1, s2, s6, s7, s8, s18, s19, rfl, hm136⟩, meas (rfl) z20 oM oM⟩
             · -- false
               refine rw_gyq (s := 77) rfl rfl hb131 rfl (ev_fa (r := 4) uT39 rfl (by first | rfl | omega) ti4 rfl s14) <| rw_gyq (s := 77) rfl rfl hb131 rfl (ev_load1 uT4 rfl rfl hm130.h1 rfl) <| rw_gyq (s := 77) rfl rfl hb131 rfl (ev_fa (r := 3) uT26 rfl (by first | rfl | omega) ti4 rfl s10) <| rw_gyq (s := 77) rfl rfl hb131 rfl (ev_load1 uT4 rfl rfl hm130.h4 rfl) <| rw_gyq (s := 77) rfl rfl hb131 rfl (ev_bool_neq uT4 rfl rfl) <| rw_q rfl (ev_pick_fk rfl hb131 rfl) ?_
               refine rw_n (or_mapUpdate (m := mp130) (k := (5 : Int)) (v := ((ls.getD aq sent0).sl) != ((ln.getD k note0).sl)) (H := [(b14_1, .cells #[(Value.string ((ls.getD aq sent0).frm)), (Value.string ((ls.getD aq sent0).to_)), (Value.string ((ls.getD aq sent0).id_)), (Value.string ((ls.getD aq sent0).th)), (bl ((ls.getD aq sent0).sl)), (slv (ls.getD aq sent0).body)] 39 (0, 0)), (b17, om86), (b11, .cells #[(Value.string ((ln.getD k note0).frm)), (Value.string ((ln.getD k note0).id_))] 82 (0, 0)), (b10, .cells #[(Value.string ((ln.getD k note0).th)), (Value.string ((ln.getD k note0).frm)), (Value.string ((ln.getD k note0).id_)), (bl ((ln.getD k note0).sl)), (slv (ln.getD k note0).body)] 26 (0, 0))]) kok_i uT85 hm130 hM130 rfl rfl rfl) ?_
               rintro _ w137 ⟨om137, hm137, hM137⟩
               obtain ⟨mp137, hmp137⟩ : ∃ q, q = fun j => if j = (5 : Int) then ((ls.getD aq sent0).sl) != ((ln.getD k note0).sl) else mp130 j := ⟨_, rfl⟩
               rw [← hmp137] at hM137
               refine rw_nil (kBlk_normal ?_)
               refine CW.abs (fun g => g 0 = vs ∧ g 1 = (Value.string who) ∧ g 2 = vn ∧ g 6 = (Value.slice none 0 0) ∧ g 7 = (Value.map (some b16)) ∧ g 8 = (Value.map (some b17)) ∧ g 10 = (ptr b10 0) ∧ g 11 = (ptr b11 0) ∧ g 12 = (i64 (aq : Int)) ∧ g 13 = (bl (decide (0 ≤ atI ls who (ln.getD k note0)))) ∧ g 14 = (ptr b14_1 0) ∧ g 18 = vn ∧ g 19 = (i64 (ln.length : Int)) ∧ g 20 = (i64 (k : Int)) ∧ g 21 = (bl (decide ((k : Int) < (ln.length : Int)))) ∧ g 47 = (bl (!(decide (0 ≤ atI ls who (ln.getD k note0))))) ∧ True) ⟨s0, s1, s2, s6, s7, s8, s10, s11, s12, s13, s14, s18, s19, s20, s21, s47, trivial⟩ ?_
               rintro fr138 ⟨s0, s1, s2, s6, s7, s8, s10, s11, s12, s13, s14, s18, s19, s20, s21, s47, _⟩
               refine cw_region <| rw_q rfl (ev_i64_add (b := 1) s20 rfl oM oM) <| rw_q rfl (ev_move (v := (i64 ((k : Int) + 1))) rfl) <| rN ?_
               obtain ⟨t1, t3, t4, t5⟩ := st_ok (pre := ln.take k) (by simpa using hc90 : decide (0 ≤ atI ls who (ln.getD k note0)) = true)
               rw [show (atI ls who (ln.getD k note0)).toNat = aq by rw [haq]; rfl] at t3 t4 t5
               have c1 : mp137 1 = (mf 1) := by simp [hmp137, hmp130, hmp127, hmp84]
               have c2 : mp137 2 = ((ms ((ln.getD k note0).frm, (ln.getD k note0).id_))) := by simp [hmp137, hmp130, hmp127, hmp84]
               have c3 : mp137 3 = (!decide ((ls.getD aq sent0).th = (ln.getD k note0).th)) := by simp [hmp137, hmp130, hmp127]
               have c4 : mp137 4 = (true) := by simp [hmp137, hmp130]
               have c5 : mp137 5 = (((ls.getD aq sent0).sl) != ((ln.getD k note0).sl)) := by simp [hmp137]
               have hm139 := Mem.drop ([(b14_1, .cells #[(Value.string ((ls.getD aq sent0).frm)), (Value.string ((ls.getD aq sent0).to_)), (Value.string ((ls.getD aq sent0).id_)), (Value.string ((ls.getD aq sent0).th)), (bl ((ls.getD aq sent0).sl)), (slv (ls.getD aq sent0).body)] 39 (0, 0))]) _ (Mem.pick [_] [_] _ hm137)
               have hm140 := Mem.drop ([(b11, .cells #[(Value.string ((ln.getD k note0).frm)), (Value.string ((ln.getD k note0).id_))] 82 (0, 0))]) _ (Mem.pick [_, _] [_] _ hm139)
               have hm141 := Mem.drop ([(b10, .cells #[(Value.string ((ln.getD k note0).th)), (Value.string ((ln.getD k note0).frm)), (Value.string ((ln.getD k note0).id_)), (bl ((ln.getD k note0).sl)), (slv (ln.getD k note0).body)] 26 (0, 0))]) _ (Mem.pick [_, _] [_] _ hm140)
               exact ⟨⟨(k + 1), om137, om86, mp137, mp86, oM, hM137, hM86, (acc_step him (by rw [c1, t1, Bool.or_false]) (by rw [c2, hb11, st_2, Bool.false_or]; exact (hse _).trans (seen_any _ _)) (by rw [c3, hb97, t3, Bool.false_or]) (by rw [c4, hb129]; rfl) (by rw [c5, hb131, t5, Bool.false_or])), (fun p => by rw [hmp86, ← seen_succ oM p, ← hse p]), s0, s1, s2, s6, s7, s8, s18, s19, rfl, hm141⟩, meas (rfl) z20 oM oM⟩
           · -- false
             refine rw_gyq (s := 66) rfl rfl hb129 rfl (ev_fa (r := 5) uT39 rfl (by first | rfl | omega) ti24 rfl s14) <| rw_gyq (s := 66) rfl rfl hb129 rfl (ev_load1 uT24 rfl rfl hm127.h1 rfl) <| rw_gyq (s := 66) rfl rfl hb129 rfl (ev_fa (r := 4) uT26 rfl (by first | rfl | omega) ti24 rfl s10) <| rw_gyq (s := 66) rfl rfl hb129 rfl (ev_load1 uT24 rfl rfl hm127.h4 rfl) <| rw_gy (s := 66) rfl rfl hb129 rfl (opR_call Try.func51 bd51 nm51 (args2 rfl rfl) (c_beq (slv (ls.getD aq sent0).body) (slv (ln.getD k note0).body) ((ls.getD aq sent0).body.2) ((ln.getD k note0).body.2) _ (Rd.ofRest (rdQ SentT.body hqs (k := aq) sD) hm127) (Rd.ofRest (rdQ NoteT.body hqn (k := k) sD) hm127))) ?_
             rintro _ w142 ⟨rfl, _ew142⟩
             have hm142 := hm127.ext _ew142
             refine rw_gyq (s := 66) rfl rfl hb129 rfl (ev_not rfl) <| rw_q rfl (ev_pick_fk rfl hb129 rfl) <| rw_n (or_mapUpdate (m := mp127) (k := (4 : Int)) (v := !(((ls.getD aq sent0).body.2) == ((ln.getD k note0).body.2))) (H := [(b14_1, .cells #[(Value.string ((ls.getD aq sent0).frm)), (Value.string ((ls.getD aq sent0).to_)), (Value.string ((ls.getD aq sent0).id_)), (Value.string ((ls.getD aq sent0).th)), (bl ((ls.getD aq sent0).sl)), (slv (ls.getD aq sent0).body)] 39 (0, 0)), (b17, om86), (b11, .cells #[(Value.string ((ln.getD k note0).frm)), (Value.string ((ln.getD k note0).id_))] 82 (0, 0)), (b10, .cells #[(Value.string ((ln.getD k note0).th)), (Value.string ((ln.getD k note0).frm)), (Value.string ((ln.getD k note0).id_)), (bl ((ln.getD k note0).sl)), (slv (ln.getD k note0).body)] 26 (0, 0))]) kok_i uT85 hm142 hM127 rfl rfl rfl) ?_
             rintro _ w144 ⟨om144, hm144, hM144⟩
             obtain ⟨mp144, hmp144⟩ : ∃ q, q = fun j => if j = (4 : Int) then !(((ls.getD aq sent0).body.2) == ((ln.getD k note0).body.2)) else mp127 j := ⟨_, rfl⟩
             rw [← hmp144] at hM144
             refine rN (cw_region ?_)
             refine rM rfl s7 <| rM rfl s7 <| rw_q rfl (EvQ.cast (congrArg bl (show mp144 (5 : Int) = (mf (5 : Int)) from by simp [hmp144, hmp127, hmp84])) (ev_lookup (m := mp144) (k := (5 : Int)) kok_i uT85 ti4 hm144.h0 hM144 rfl rfl)) <| rw_q rfl (ev_move (v := (bl (mf (5 : Int)))) rfl) ?_
             rcases Bool.eq_false_or_eq_true (mf (5 : Int)) with hb145 | hb145
             · -- true
               refine rw_gn (s := 77) rfl rfl hb145 rfl <| rw_gn (s := 77) rfl rfl hb145 rfl <| rw_gn (s := 77) rfl rfl hb145 rfl <| rw_gn (s := 77) rfl rfl hb145 rfl <| rw_gn (s := 77) rfl rfl hb145 rfl <| rw_q rfl (ev_pick_tk rfl hb145 rfl) ?_
               refine rw_n (or_mapUpdate (m := mp144) (k := (5 : Int)) (v := true) (H := [(b14_1, .cells #[(Value.string ((ls.getD aq sent0).frm)), (Value.string ((ls.getD aq sent0).to_)), (Value.string ((ls.getD aq sent0).id_)), (Value.string ((ls.getD aq sent0).th)), (bl ((ls.getD aq sent0).sl)), (slv (ls.getD aq sent0).body)] 39 (0, 0)), (b17, om86), (b11, .cells #[(Value.string ((ln.getD k note0).frm)), (Value.string ((ln.getD k note0).id_))] 82 (0, 0)), (b10, .cells #[(Value.string ((ln.getD k note0).th)), (Value.string ((ln.getD k note0).frm)), (Value.string ((ln.getD k note0).id_)), (bl ((ln.getD k note0).sl)), (slv (ln.getD k note0).body)] 26 (0, 0))]) kok_i uT85 hm144 hM144 rfl rfl rfl) ?_
               rintro _ w146 ⟨om146, hm146, hM146⟩
               obtain ⟨mp146, hmp146⟩ : ∃ q, q = fun j => if j = (5 : Int) then true else mp144 j := ⟨_, rfl⟩
               rw [← hmp146] at hM146
               refine rw_nil (kBlk_normal ?_)
               refine CW.abs (fun g => g 0 = vs ∧ g 1 = (Value.string who) ∧ g 2 = vn ∧ g 6 = (Value.slice none 0 0) ∧ g 7 = (Value.map (some b16)) ∧ g 8 = (Value.map (some b17)) ∧ g 10 = (ptr b10 0) ∧ g 11 = (ptr b11 0) ∧ g 12 = (i64 (aq : Int)) ∧ g 13 = (bl (decide (0 ≤ atI ls who (ln.getD k note0)))) ∧ g 14 = (ptr b14_1 0) ∧ g 18 = vn ∧ g 19 = (i64 (ln.length : Int)) ∧ g 20 = (i64 (k : Int)) ∧ g 21 = (bl (decide ((k : Int) < (ln.length : Int)))) ∧ g 47 = (bl (!(decide (0 ≤ atI ls who (ln.getD k note0))))) ∧ True) ⟨s0, s1, s2, s6, s7, s8, s10, s11, s12, s13, s14, s18, s19, s20, s21, s47, trivial⟩ ?_
               rintro fr147 ⟨s0, s1, s2, s6, s7, s8, s10, s11, s12, s13, s14, s18, s19, s20, s21, s47, _⟩
               refine cw_region <| rw_q rfl (ev_i64_add (b := 1) s20 rfl oM oM) <| rw_q rfl (ev_move (v := (i64 ((k : Int) + 1))) rfl) <| rN ?_
               obtain ⟨t1, t3, t4, t5⟩ := st_ok (pre := ln.take k) (by simpa using hc90 : decide (0 ≤ atI ls who (ln.getD k note0)) = true)
               rw [show (atI ls who (ln.getD k note0)).toNat = aq by rw [haq]; rfl] at t3 t4 t5
               have c1 : mp146 1 = (mf 1) := by simp [hmp146, hmp144, hmp127, hmp84]
               have c2 : mp146 2 = ((ms ((ln.getD k note0).frm, (ln.getD k note0).id_))) := by simp [hmp146, hmp144, hmp127, hmp84]
               have c3 : mp146 3 = (!decide ((ls.getD aq sent0).th = (ln.getD k note0).th)) := by simp [hmp146, hmp144, hmp127]
               have c4 : mp146 4 = (!(((ls.getD aq sent0).body.2) == ((ln.getD k note0).body.2))) := by simp [hmp146, hmp144]
               have c5 : mp146 5 = (true) := by simp [hmp146]
               have hm148 := Mem.drop ([(b14_1, .cells #[(Value.string ((ls.getD aq sent0).frm)), (Value.string ((ls.getD aq sent0).to_)), (Value.string ((ls.getD aq sent0).id_)), (Value.string ((ls.getD aq sent0).th)), (bl ((ls.getD aq sent0).sl)), (slv (ls.getD aq sent0).body)] 39 (0, 0))]) _ (Mem.pick [_] [_] _ hm146)
               have hm149 := Mem.drop ([(b11, .cells #[(Value.string ((ln.getD k note0).frm)), (Value.string ((ln.getD k note0).id_))] 82 (0, 0))]) _ (Mem.pick [_, _] [_] _ hm148)
               have hm150 := Mem.drop ([(b10, .cells #[(Value.string ((ln.getD k note0).th)), (Value.string ((ln.getD k note0).frm)), (Value.string ((ln.getD k note0).id_)), (bl ((ln.getD k note0).sl)), (slv (ln.getD k note0).body)] 26 (0, 0))]) _ (Mem.pick [_, _] [_] _ hm149)
               exact ⟨⟨(k + 1), om146, om86, mp146, mp86, oM, hM146, hM86, (acc_step him (by rw [c1, t1, Bool.or_false]) (by rw [c2, hb11, st_2, Bool.false_or]; exact (hse _).trans (seen_any _ _)) (by rw [c3, hb97, t3, Bool.false_or]) (by rw [c4, hb129, t4, Bool.false_or]) (by rw [c5, hb145]; rfl)), (fun p => by rw [hmp86, ← seen_succ oM p, ← hse p]), s0, s1, s2, s6, s7, s8, s18, s19, rfl, hm150⟩, meas (rfl) z20 oM oM⟩
             · -- false
               refine rw_gyq (s := 77) rfl rfl hb145 rfl (ev_fa (r := 4) uT39 rfl (by first | rfl | omega) ti4 rfl s14) <| rw_gyq (s := 77) rfl rfl hb145 rfl (ev_load1 uT4 rfl rfl hm144.h1 rfl) <| rw_gyq (s := 77) rfl rfl hb145 rfl (ev_fa (r := 3) uT26 rfl (by first | rfl | omega) ti4 rfl s10) <| rw_gyq (s := 77) rfl rfl hb145 rfl (ev_load1 uT4 rfl rfl hm144.h4 rfl) <| rw_gyq (s := 77) rfl rfl hb145 rfl (ev_bool_neq uT4 rfl rfl) <| rw_q rfl (ev_pick_fk rfl hb145 rfl) ?_
               refine rw_n (or_mapUpdate (m := mp144) (k := (5 : Int)) (v := ((ls.getD aq sent0).sl) != ((ln.getD k note0).sl)) (H := [(b14_1, .cells #[(Value.string ((ls.getD aq sent0).frm)), (Value.string ((ls.getD aq sent0).to_)), (Value.string ((ls.getD aq sent0).id_)), (Value.string ((ls.getD aq sent0).th)), (bl ((ls.getD aq sent0).sl)), (slv (ls.getD aq sent0).body)] 39 (0, 0)), (b17, om86), (b11, .cells #[(Value.string ((ln.getD k note0).frm)), (Value.string ((ln.getD k note0).id_))] 82 (0, 0)), (b10, .cells #[(Value.string ((ln.getD k note0).th)), (Value.string ((ln.getD k note0).frm)), (Value.string ((ln.getD k note0).id_)), (bl ((ln.getD k note0).sl)), (slv (ln.getD k note0).body)] 26 (0, 0))]) kok_i uT85 hm144 hM144 rfl rfl rfl) ?_
               rintro _ w151 ⟨om151, hm151, hM151⟩
               obtain ⟨mp151, hmp151⟩ : ∃ q, q = fun j => if j = (5 : Int) then ((ls.getD aq sent0).sl) != ((ln.getD k note0).sl) else mp144 j := ⟨_, rfl⟩
               rw [← hmp151] at hM151
               refine rw_nil (kBlk_normal ?_)
               refine CW.abs (fun g => g 0 = vs ∧ g 1 = (Value.string who) ∧ g 2 = vn ∧ g 6 = (Value.slice none 0 0) ∧ g 7 = (Value.map (some b16)) ∧ g 8 = (Value.map (some b17)) ∧ g 10 = (ptr b10 0) ∧ g 11 = (ptr b11 0) ∧ g 12 = (i64 (aq : Int)) ∧ g 13 = (bl (decide (0 ≤ atI ls who (ln.getD k note0)))) ∧ g 14 = (ptr b14_1 0) ∧ g 18 = vn ∧ g 19 = (i64 (ln.length : Int)) ∧ g 20 = (i64 (k : Int)) ∧ g 21 = (bl (decide ((k : Int) < (ln.length : Int)))) ∧ g 47 = (bl (!(decide (0 ≤ atI ls who (ln.getD k note0))))) ∧ True) ⟨s0, s1, s2, s6, s7, s8, s10, s11, s12, s13, s14, s18, s19, s20, s21, s47, trivial⟩ ?_
               rintro fr152 ⟨s0, s1, s2, s6, s7, s8, s10, s11, s12, s13, s14, s18, s19, s20, s21, s47, _⟩
               refine cw_region <| rw_q rfl (ev_i64_add (b := 1) s20 rfl oM oM) <| rw_q rfl (ev_move (v := (i64 ((k : Int) + 1))) rfl) <| rN ?_
               obtain ⟨t1, t3, t4, t5⟩ := st_ok (pre := ln.take k) (by simpa using hc90 : decide (0 ≤ atI ls who (ln.getD k note0)) = true)
               rw [show (atI ls who (ln.getD k note0)).toNat = aq by rw [haq]; rfl] at t3 t4 t5
               have c1 : mp151 1 = (mf 1) := by simp [hmp151, hmp144, hmp127, hmp84]
               have c2 : mp151 2 = ((ms ((ln.getD k note0).frm, (ln.getD k note0).id_))) := by simp [hmp151, hmp144, hmp127, hmp84]
               have c3 : mp151 3 = (!decide ((ls.getD aq sent0).th = (ln.getD k note0).th)) := by simp [hmp151, hmp144, hmp127]
               have c4 : mp151 4 = (!(((ls.getD aq sent0).body.2) == ((ln.getD k note0).body.2))) := by simp [hmp151, hmp144]
               have c5 : mp151 5 = (((ls.getD aq sent0).sl) != ((ln.getD k note0).sl)) := by simp [hmp151]
               have hm153 := Mem.drop ([(b14_1, .cells #[(Value.string ((ls.getD aq sent0).frm)), (Value.string ((ls.getD aq sent0).to_)), (Value.string ((ls.getD aq sent0).id_)), (Value.string ((ls.getD aq sent0).th)), (bl ((ls.getD aq sent0).sl)), (slv (ls.getD aq sent0).body)] 39 (0, 0))]) _ (Mem.pick [_] [_] _ hm151)
               have hm154 := Mem.drop ([(b11, .cells #[(Value.string ((ln.getD k note0).frm)), (Value.string ((ln.getD k note0).id_))] 82 (0, 0))]) _ (Mem.pick [_, _] [_] _ hm153)
               have hm155 := Mem.drop ([(b10, .cells #[(Value.string ((ln.getD k note0).th)), (Value.string ((ln.getD k note0).frm)), (Value.string ((ln.getD k note0).id_)), (bl ((ln.getD k note0).sl)), (slv (ln.getD k note0).body)] 26 (0, 0))]) _ (Mem.pick [_, _] [_] _ hm154)
               exact ⟨⟨(k + 1), om151, om86, mp151, mp86, oM, hM151, hM86, (acc_step him (by rw [c1, t1, Bool.or_false]) (by rw [c2, hb11, st_2, Bool.false_or]; exact (hse _).trans (seen_any _ _)) (by rw [c3, hb97, t3, Bool.false_or]) (by rw [c4, hb129, t4, Bool.false_or]) (by rw [c5, hb145, t5, Bool.false_or])), (fun p => by rw [hmp86, ← seen_succ oM p, ← hse p]), s0, s1, s2, s6, s7, s8, s18, s19, rfl, hm155⟩, meas (rfl) z20 oM oM⟩
   · -- false
     have hc6p := of_decide_eq_false hc6
     have hmn : ∀ f, 1 ≤ f → f ≤ 5 → mf f = accF ls who ln ln.length f := by have h : k = ln.length := oM; rw [h] at him; exact him
     refine cw_exit ?_
     refine kThen_exit (kThen_exit (kBlk_hit ?_))
     refine cw_seq (sR ?_)
     refine rw_q rfl (ev_assign (v := (i64 1)) rfl) ?_
     refine rN (cw_block ?_)
     refine cw_loop (fun g wv => ∃ (k2 : Nat) (v6 : Value) (Hs : List (Nat × Obj)), (k2 ≤ 5) ∧ (Grow i64 3 v6 (jpre ls who ln k2) Hs) ∧ g 0 = vs ∧ g 1 = (Value.string who) ∧ g 2 = vn ∧ g 6 = v6 ∧ g 7 = (Value.map (some b16)) ∧ g 8 = (Value.map (some b17)) ∧ g 15 = (i64 ((k2 : Int) + 1)) ∧ g 18 = vn ∧ g 19 = (i64 (ln.length : Int)) ∧ g 20 = (i64 (k : Int)) ∧ g 21 = (bl (decide ((k : Int) < (ln.length : Int)))) ∧ Mem wv (restOf w0) ([(b16, of)] ++ (Hs ++ ([])))) (fun g wv => (6 - RowKit.intOf (g 15)).toNat) ?_ ?_
     have hm156 := Mem.drop ([(b17, os)]) _ (Mem.pick [_] [_] _ hm5)
     · exact ⟨0, (Value.slice none 0 0), [], (Nat.zero_le _), (Grow.cast (Grow.none _ _) jpre_0), s0, s1, s2, s6, s7, s8, rfl, s18, s19, s20, rfl, (by
       have hT := hm156
       simp only [List.append_assoc, List.cons_append, List.nil_append, List.append_nil] at hT ⊢
       exact hT)⟩
     · rintro fr157 w158 ⟨k2, v6, Hs, hk2, hg, s0, s1, s2, s6, s7, s8, s15, s18, s19, s20, s21, hm158⟩
       have z6 := s6
       have z15 := s15
       have hjl := jpre_len (sent := ls) (who := who) (notes := ln) k2
       refine cw_seq (sR ?_)
       refine rM rfl s15 <| rw_q rfl (ev_i64_leq (b := 5) rfl rfl) <| rN ?_
       refine cw_cond rfl (fun hc159 => ?_) (fun hc159 => ?_)
       · -- true
         have hc159p := of_decide_eq_true hc159
         refine cw_skip (kThen_normal (cw_seq (cw_block (sR ?_))))
         refine rM rfl s7 <| rM rfl s15 <| rw_q rfl (ev_lookup (m := mf) (k := (((k2 : Int) + 1) : Int)) kok_i uT85 ti4 hm158.h0 hmf rfl rfl) <| rN ?_
         refine cw_cond rfl (fun hc160 => ?_) (fun hc160 => ?_)
         · -- true
           refine cw_region <| rM rfl s6 <| rM rfl s15 <| rw_c rfl (or_buildSlice_cl i64 [((k2 : Int) + 1)] i64_one hm158 uT35 ti3 rfl rfl rfl) ?_
           rintro _ w161 ⟨b94, rfl, _ew161, hm161⟩
           refine rw_c rfl (or_append (f := i64) (Hs := Hs) (H := [(b94, .cells (cl i64 ([((k2 : Int) + 1)])) 3 (0, 0)), (b16, of)]) (Mem.pick [_, _] Hs _ hm161) hg rfl rfl (Rd.mkA hm161.h0) uT35 uT35 ti3 rfl i64_one sL sL) ?_
           rintro sv162 w162 ⟨Hs162, hm162, g162⟩
           replace g162 : Grow i64 3 sv162 ((jpre ls who ln k2) ++ ([((k2 : Int) + 1)])) Hs162 := g162
           refine rA rfl (v := sv162) rfl ?_
           refine rw_nil (kBlk_normal (cw_region ?_))
           refine rM rfl s15 <| rw_q rfl (ev_i64_add (b := 1) rfl rfl oM oM) <| rw_q rfl (ev_assign (v := (i64 (((k2 : Int) + 1) + 1))) rfl) <| rN ?_
           have hm163 := Mem.drop ([(b94, .cells (cl i64 ([((k2 : Int) + 1)])) 3 (0, 0))]) _ (Mem.pick Hs162 [_] _ hm162)
           have hm164 := (Mem.pick Hs162 [_] _ hm163)
           exact ⟨⟨(k2 + 1), sv162, Hs162, oM, (Grow.cast g162 (by rw [jpre_succ oM, ← hmn _ oM oM, hc160]; simp)), s0, s1, s2, rfl, s7, s8, rfl, s18, s19, s20, s21, hm164⟩, meas (rfl) z15 oM oM⟩
         · -- false
           refine cw_skip (kBlk_normal (cw_region ?_))
           refine rM rfl s15 <| rw_q rfl (ev_i64_add (b := 1) rfl rfl oM oM) <| rw_q rfl (ev_assign (v := (i64 (((k2 : Int) + 1) + 1))) rfl) <| rN ?_
           exact ⟨⟨(k2 + 1), v6, Hs, oM, (Grow.cast hg (by rw [jpre_succ oM, ← hmn _ oM oM, hc160]; simp)), s0, s1, s2, s6, s7, s8, rfl, s18, s19, s20, s21, hm158⟩, meas (rfl) z15 oM oM⟩
       · -- false
         have hc159p := of_decide_eq_false hc159
         refine cw_exit ?_
         refine kThen_exit (kThen_exit (kBlk_hit ?_))
         refine sR <| rM rfl s6 <| rA rfl (v := v6) rfl ?_
         refine rN (cw_ret ?_)
         refine fnPost_ret [v6] ⟨rfl, trivial⟩ ?_
         have hm165 := Mem.drop ([(b16, of)]) _ hm158
         have h5 : k2 = 5 := by omega
         exact ⟨Hs, Grow.cast hg (by rw [h5, jpre_5]), by simpa using hm165⟩

set_option maxHeartbeats 4000000 in
theorem c_missing (vs : Value) (ls : List SentT) (who : ByteArray) (vn : Value) (ln : List NoteT) (w0 : World)  (hrs : RdK (blks w0) encS 6 vs ls) (hqs : ∀ a ∈ ls, Rd (blks w0) u8 (slv a.body) a.body.2) (hls : ls.length ≤ 1048576) (hrn : RdK (blks w0) encN 5 vn ln) (hqn : ∀ a ∈ ln, Rd (blks w0) u8 (slv a.body) a.body.2) (hln : ln.length ≤ 1048576) : CallsR Try.prog 18 #[vs, (Value.string who), vn] w0 (fun r w1 => ∃ Hs, Grow strv 9 r (missF ls who ln) Hs ∧ Mem w1 (restOf w0) Hs) := by
 refine callsR_of_cw (args := [vs, (Value.string who), vn]) Try.func18 rfl Try.ntmps18 Try.results18 rfl ?_
 have hm0 : Mem w0 (restOf w0) [] := Mem.of_world w0
 refine sR <| rw_q rfl (ev_assign (v := (Value.slice none 0 0)) rfl) ?_
 refine rN (sR ?_)
 refine rw_c rfl (or_makeMap two hm0) ?_
 rintro _ w1 ⟨b12, om1, rfl, _ew1, hm1, hM1⟩
 have hm1 : Mem w1 (restOf w0) [(b12, om1)] := hm1
 refine rw_q rfl (ev_assign (v := (Value.map (some b12))) rfl) ?_
 refine rN (cw_seq (sR ?_))
 refine rM rfl (v := vn) rfl <| rw_q (v := (i64 (ln.length : Int))) rfl (ev_len_rk (RdK.ofRest hrn hm1) uT23 rfl) <| rw_q rfl (ev_move (v := (i64 0)) rfl) ?_
 refine rN (cw_block ?_)
 refine cw_loop (fun g wv => ∃ (k : Nat) (os : Obj) (ms : ByteArray × ByteArray → Bool), (k ≤ ln.length) ∧ (MapIs two os ms) ∧ (∀ p, ms p = seenF ln k p) ∧ g 0 = vs ∧ g 1 = (Value.string who) ∧ g 2 = vn ∧ g 6 = (Value.slice none 0 0) ∧ g 7 = (Value.map (some b12)) ∧ g 13 = vn ∧ g 14 = (i64 (ln.length : Int)) ∧ g 15 = (i64 (k : Int)) ∧ Mem wv (restOf w0) [(b12, os)]) (fun g wv => ((ln.length : Int) - RowKit.intOf (g 15)).toNat) ?_ ?_
 · exact ⟨0, om1, (fun _ => false), (Nat.zero_le _), hM1, (fun p => seen_0 p), rfl, rfl, rfl, rfl, rfl, rfl, rfl, rfl, hm1⟩
 · rintro fr2 w3 ⟨k, os, ms, hk, hms, hse, s0, s1, s2, s6, s7, s13, s14, s15, hm3⟩
   have z7 := s7
   have z15 := s15
   refine sR <| rw_q rfl (ev_i64_lss s15 s14) ?_
   refine rN (cw_seq ?_)
   refine cw_cond rfl (fun hc4 => ?_) (fun hc4 => ?_)
   · -- true
     have hc4p := of_decide_eq_true hc4
     refine cw_skip (kThen_normal (cw_seq (cw_block (sR ?_))))
     refine rw_q rfl (ev_indexAddr_rk (i := (k : Int)) (RdK.ofRest hrn hm3) uT23 ti26 s13 s15 oM sL) <| rw_q (v := (Value.agg #[(Value.string ((ln.getD k note0).th)), (Value.string ((ln.getD k note0).frm)), (Value.string ((ln.getD k note0).id_)), (bl ((ln.getD k note0).sl)), (slv (ln.getD k note0).body)])) rfl (ev_load_rkA (i := (k : Int)) (dflt := note0) (cs := #[(Value.string ((ln.getD k note0).th)), (Value.string ((ln.getD k note0).frm)), (Value.string ((ln.getD k note0).id_)), (bl ((ln.getD k note0).sl)), (slv (ln.getD k note0).body)]) (RdK.ofRest hrn hm3) sL uT26 rfl ti26 rfl rfl (by decide) rfl) <| rw_c rfl (or_allocX hm3 ti26) ?_
     rintro _ w5 ⟨b9, rfl, _ew5, hm5⟩
     refine rw_n (or_storeW (cs := #[(Value.string ((ln.getD k note0).th)), (Value.string ((ln.getD k note0).frm)), (Value.string ((ln.getD k note0).id_)), (bl ((ln.getD k note0).sl)), (slv (ln.getD k note0).body)]) ti26 rfl rfl (by kernel_rfl) (one_arr (one_cons rfl (one_cons rfl (one_cons rfl (one_cons rfl (one_cons rfl one_nil)))))) hm5.h0 (by kernel_rfl) rfl) ?_
     rintro _ w6 uq6
     have hm6 : Mem w6 (restOf w0) [(b9, .cells #[(Value.string ((ln.getD k note0).th)), (Value.string ((ln.getD k note0).frm)), (Value.string ((ln.getD k note0).id_)), (bl ((ln.getD k note0).sl)), (slv (ln.getD k note0).body)] 26 (0, 0)), (b12, os)] := hm5.upd0 uq6
     refine rN (cw_region ?_)
     refine rM rfl s7 <| rw_q rfl (ev_fa (r := 1) uT26 rfl (by first | rfl | omega) ti9 rfl rfl) <| rw_q (v := (Value.string ((ln.getD k note0).frm))) rfl (ev_load1 uT9 rfl rfl hm6.h0 rfl) <| rw_q rfl (ev_fa (r := 2) uT26 rfl (by first | rfl | omega) ti9 rfl rfl) <| rw_q (v := (Value.string ((ln.getD k note0).id_))) rfl (ev_load1 uT9 rfl rfl hm6.h0 rfl) <| rw_q rfl (ev_build_pt (c := #[(Value.string ((ln.getD k note0).frm)), (Value.string ((ln.getD k note0).id_))]) (pl := [(0, 1), (1, 1)]) ti82 uT82 (by kernel_rfl) (pm_cons (i := 0) (v := (Value.string ((ln.getD k note0).frm))) (cs := #[(Value.string ((ln.getD k note0).frm))]) rfl rfl (pm_cons (i := 1) (v := (Value.string ((ln.getD k note0).id_))) (cs := #[(Value.string ((ln.getD k note0).id_))]) rfl rfl pm_nil)) (by kernel_rfl)) ?_
     refine rw_n (or_mapUpdate (m := ms) (k := ((ln.getD k note0).frm, (ln.getD k note0).id_)) (v := true) (H := [(b9, .cells #[(Value.string ((ln.getD k note0).th)), (Value.string ((ln.getD k note0).frm)), (Value.string ((ln.getD k note0).id_)), (bl ((ln.getD k note0).sl)), (slv (ln.getD k note0).body)] 26 (0, 0))]) kok_m uT84 (Mem.pick [_] [_] _ hm6) hms rfl rfl rfl) ?_
     rintro _ w7 ⟨om7, hm7, hM7⟩
     obtain ⟨mp7, hmp7⟩ : ∃ q, q = fun j => if j = ((ln.getD k note0).frm, (ln.getD k note0).id_) then true else ms j := ⟨_, rfl⟩
     rw [← hmp7] at hM7
     refine rw_nil (kBlk_normal (cw_region ?_))
     refine rw_q rfl (ev_i64_add (b := 1) s15 rfl oM oM) <| rw_q rfl (ev_move (v := (i64 ((k : Int) + 1))) rfl) <| rN ?_
     have hm8 := Mem.drop ([(b9, .cells #[(Value.string ((ln.getD k note0).th)), (Value.string ((ln.getD k note0).frm)), (Value.string ((ln.getD k note0).id_)), (bl ((ln.getD k note0).sl)), (slv (ln.getD k note0).body)] 26 (0, 0))]) _ (Mem.pick [_] [_] _ hm7)
     exact ⟨⟨(k + 1), om7, mp7, oM, hM7, (fun p => by rw [hmp7, ← seen_succ oM p, ← hse p]), s0, s1, s2, s6, s7, s13, s14, rfl, hm8⟩, meas (rfl) z15 oM oM⟩
   · -- false
     have hc4p := of_decide_eq_false hc4
     have hall : ∀ p, ms p = ln.any (sameF p.1 p.2) := fun p => by rw [hse p, show k = ln.length by omega, seen_all]
     refine cw_exit ?_
     refine kThen_exit (kThen_exit (kBlk_hit ?_))
     refine cw_seq (sR ?_)
     refine rM rfl s0 <| rw_q (v := (i64 (ls.length : Int))) rfl (ev_len_rk (RdK.ofRest hrs hm3) uT22 rfl) <| rw_q rfl (ev_move (v := (i64 0)) rfl) ?_
     refine rN (cw_block ?_)
     refine cw_loop (fun g wv => ∃ (k2 : Nat) (v6 : Value) (Hs : List (Nat × Obj)), (k2 ≤ ls.length) ∧ (Grow strv 9 v6 (missK ls who ln k2) Hs) ∧ g 0 = vs ∧ g 1 = (Value.string who) ∧ g 2 = vn ∧ g 6 = v6 ∧ g 7 = (Value.map (some b12)) ∧ g 13 = vn ∧ g 14 = (i64 (ln.length : Int)) ∧ g 15 = (i64 (k : Int)) ∧ g 16 = (bl (decide ((k : Int) < (ln.length : Int)))) ∧ g 26 = vs ∧ g 27 = (i64 (ls.length : Int)) ∧ g 28 = (i64 (k2 : Int)) ∧ Mem wv (restOf w0) ([(b12, os)] ++ (Hs ++ ([])))) (fun g wv => ((ls.length : Int) - RowKit.intOf (g 28)).toNat) ?_ ?_
     · exact ⟨0, (Value.slice none 0 0), [], (Nat.zero_le _), (Grow.cast (Grow.none _ _) miss_0), s0, s1, s2, s6, s7, s13, s14, s15, rfl, rfl, rfl, rfl, (by
       have hT := hm3
       simp only [List.append_assoc, List.cons_append, List.nil_append, List.append_nil] at hT ⊢
       exact hT)⟩
     · rintro fr9 w10 ⟨k2, v6, Hs, hk2, hg, s0, s1, s2, s6, s7, s13, s14, s15, s16, s26, s27, s28, hm10⟩
       have z6 := s6
       have z28 := s28
       have hml := miss_len (sent := ls) (who := who) (notes := ln) k2
       refine sR <| rw_q rfl (ev_i64_lss s28 s27) ?_
       refine rN (cw_seq ?_)
       refine cw_cond rfl (fun hc11 => ?_) (fun hc11 => ?_)
       · -- true
         have hc11p := of_decide_eq_true hc11
         refine cw_skip (kThen_normal (cw_seq (cw_block (sR ?_))))
         refine rw_q rfl (ev_indexAddr_rk (i := (k2 : Int)) (RdK.ofRest hrs hm10) uT22 ti39 s26 s28 oM sL) <| rw_q (v := (Value.agg #[(Value.string ((ls.getD k2 sent0).frm)), (Value.string ((ls.getD k2 sent0).to_)), (Value.string ((ls.getD k2 sent0).id_)), (Value.string ((ls.getD k2 sent0).th)), (bl ((ls.getD k2 sent0).sl)), (slv (ls.getD k2 sent0).body)])) rfl (ev_load_rkA (i := (k2 : Int)) (dflt := sent0) (cs := #[(Value.string ((ls.getD k2 sent0).frm)), (Value.string ((ls.getD k2 sent0).to_)), (Value.string ((ls.getD k2 sent0).id_)), (Value.string ((ls.getD k2 sent0).th)), (bl ((ls.getD k2 sent0).sl)), (slv (ls.getD k2 sent0).body)]) (RdK.ofRest hrs hm10) sL uT39 rfl ti39 rfl rfl (by decide) rfl) <| rw_c rfl (or_allocX hm10 ti39) ?_
         rintro _ w12 ⟨b11, rfl, _ew12, hm12⟩
         refine rw_n (or_storeW (cs := #[(Value.string ((ls.getD k2 sent0).frm)), (Value.string ((ls.getD k2 sent0).to_)), (Value.string ((ls.getD k2 sent0).id_)), (Value.string ((ls.getD k2 sent0).th)), (bl ((ls.getD k2 sent0).sl)), (slv (ls.getD k2 sent0).body)]) ti39 rfl rfl (by kernel_rfl) (one_arr (one_cons rfl (one_cons rfl (one_cons rfl (one_cons rfl (one_cons rfl (one_cons rfl one_nil))))))) hm12.h0 (by kernel_rfl) rfl) ?_
         rintro _ w13 uq13
         have hm13 : Mem w13 (restOf w0) ([(b11, .cells #[(Value.string ((ls.getD k2 sent0).frm)), (Value.string ((ls.getD k2 sent0).to_)), (Value.string ((ls.getD k2 sent0).id_)), (Value.string ((ls.getD k2 sent0).th)), (bl ((ls.getD k2 sent0).sl)), (slv (ls.getD k2 sent0).body)] 39 (0, 0)), (b12, os)] ++ (Hs ++ ([]))) := hm12.upd0 uq13
         refine rN (sR ?_)
         refine rw_q rfl (ev_fa (r := 1) uT39 rfl (by first | rfl | omega) ti9 rfl rfl) <| rw_q (v := (Value.string ((ls.getD k2 sent0).to_))) rfl (ev_load1 uT9 rfl rfl hm13.h0 rfl) <| rM rfl s1 <| rw_q rfl (ev_str_eql (s := (ls.getD k2 sent0).to_) (t := who) rfl rfl) <| rw_q rfl (ev_move (v := (bl (decide ((ls.getD k2 sent0).to_ = who)))) rfl) ?_
         rcases Bool.eq_false_or_eq_true (decide ((ls.getD k2 sent0).to_ = who)) with hb14 | hb14
         · -- true
           have hb14p := of_decide_eq_true hb14
           refine rw_gyq (s := 36) rfl rfl hb14 rfl (ev_move s7) <| rw_gyq (s := 36) rfl rfl hb14 rfl (ev_fa (r := 0) uT39 rfl (by first | rfl | omega) ti9 rfl rfl) <| rw_gyq (s := 36) rfl rfl hb14 rfl (ev_load1 uT9 rfl rfl hm13.h0 rfl) <| rw_gyq (s := 36) rfl rfl hb14 rfl (ev_fa (r := 2) uT39 rfl (by first | rfl | omega) ti9 rfl rfl) <| rw_gyq (s := 36) rfl rfl hb14 rfl (ev_load1 uT9 rfl rfl hm13.h0 rfl) <| rw_gyq (s := 36) rfl rfl hb14 rfl (ev_build_pt (c := #[(Value.string ((ls.getD k2 sent0).frm)), (Value.string ((ls.getD k2 sent0).id_))]) (pl := [(0, 1), (1, 1)]) ti82 uT82 (by kernel_rfl) (pm_cons (i := 0) (v := (Value.string ((ls.getD k2 sent0).frm))) (cs := #[(Value.string ((ls.getD k2 sent0).frm))]) rfl rfl (pm_cons (i := 1) (v := (Value.string ((ls.getD k2 sent0).id_))) (cs := #[(Value.string ((ls.getD k2 sent0).id_))]) rfl rfl pm_nil)) (by kernel_rfl)) ?_
           refine rw_gyq (s := 36) rfl rfl hb14 rfl (ev_lookup (m := ms) (k := ((ls.getD k2 sent0).frm, (ls.getD k2 sent0).id_)) kok_m uT84 ti4 hm13.h1 hms rfl rfl) <| rw_gyq (s := 36) rfl rfl hb14 rfl (ev_not rfl) <| rw_q rfl (ev_pick_tk rfl hb14 rfl) <| rN ?_
           refine CW.abs (fun g => g 0 = vs ∧ g 1 = (Value.string who) ∧ g 2 = vn ∧ g 6 = v6 ∧ g 7 = (Value.map (some b12)) ∧ g 11 = (ptr b11 0) ∧ g 13 = vn ∧ g 14 = (i64 (ln.length : Int)) ∧ g 15 = (i64 (k : Int)) ∧ g 16 = (bl (decide ((k : Int) < (ln.length : Int)))) ∧ g 26 = vs ∧ g 27 = (i64 (ls.length : Int)) ∧ g 28 = (i64 (k2 : Int)) ∧ g 29 = (bl (decide ((k2 : Int) < (ls.length : Int)))) ∧ g 45 = (bl (!(ms ((ls.getD k2 sent0).frm, (ls.getD k2 sent0).id_)))) ∧ True) ⟨s0, s1, s2, s6, s7, rfl, s13, s14, s15, s16, s26, s27, s28, rfl, rfl, trivial⟩ ?_
           rintro fr15 ⟨s0, s1, s2, s6, s7, s11, s13, s14, s15, s16, s26, s27, s28, s29, s45, _⟩
           refine cw_cond s45 (fun hc16 => ?_) (fun hc16 => ?_)
           · -- true
             have hc16n : (ms ((ls.getD k2 sent0).frm, (ls.getD k2 sent0).id_)) = false := by simpa using hc16
             refine cw_region <| rM rfl s6 <| rw_q rfl (ev_fa (r := 2) uT39 rfl (by first | rfl | omega) ti9 rfl s11) <| rw_q (v := (Value.string ((ls.getD k2 sent0).id_))) rfl (ev_load1 uT9 rfl rfl hm13.h0 rfl) <| rw_c rfl (or_buildSlice_ones [(Value.string ((ls.getD k2 sent0).id_))] (by simp [slc, ptr, Value.oneCell', i64, u8, u32, u64, bl]) hm13 uT32 ti9 rfl rfl rfl) ?_
             rintro _ w17 ⟨b49, rfl, _ew17, hm17⟩
             have hm17 : Mem w17 (restOf w0) ([(b49, .cells #[(Value.string ((ls.getD k2 sent0).id_))] 9 (0, 0)), (b11, .cells #[(Value.string ((ls.getD k2 sent0).frm)), (Value.string ((ls.getD k2 sent0).to_)), (Value.string ((ls.getD k2 sent0).id_)), (Value.string ((ls.getD k2 sent0).th)), (bl ((ls.getD k2 sent0).sl)), (slv (ls.getD k2 sent0).body)] 39 (0, 0)), (b12, os)] ++ (Hs ++ ([]))) := hm17
             refine rw_c rfl (or_append (f := strv) (Hs := Hs) (H := [(b49, .cells #[(Value.string ((ls.getD k2 sent0).id_))] 9 (0, 0)), (b11, .cells #[(Value.string ((ls.getD k2 sent0).frm)), (Value.string ((ls.getD k2 sent0).to_)), (Value.string ((ls.getD k2 sent0).id_)), (Value.string ((ls.getD k2 sent0).th)), (bl ((ls.getD k2 sent0).sl)), (slv (ls.getD k2 sent0).body)] 39 (0, 0)), (b12, os)]) (Mem.pick [_, _, _] Hs _ hm17) hg rfl rfl (Rd.mkA (f := strv) (l := [(ls.getD k2 sent0).id_]) hm17.h0) uT32 uT32 ti9 rfl strv_one sL sL) ?_
             rintro sv18 w18 ⟨Hs18, hm18, g18⟩
             replace g18 : Grow strv 9 sv18 ((missK ls who ln k2) ++ ([(ls.getD k2 sent0).id_])) Hs18 := g18
             refine rA rfl (v := sv18) rfl ?_
             refine rw_nil (kBlk_normal (cw_region ?_))
             refine rw_q rfl (ev_i64_add (b := 1) s28 rfl oM oM) <| rw_q rfl (ev_move (v := (i64 ((k2 : Int) + 1))) rfl) <| rN ?_
             have hm19 := Mem.drop ([(b49, .cells #[(Value.string ((ls.getD k2 sent0).id_))] 9 (0, 0))]) _ (Mem.pick Hs18 [_] _ hm18)
             have hm20 := Mem.drop ([(b11, .cells #[(Value.string ((ls.getD k2 sent0).frm)), (Value.string ((ls.getD k2 sent0).to_)), (Value.string ((ls.getD k2 sent0).id_)), (Value.string ((ls.getD k2 sent0).th)), (bl ((ls.getD k2 sent0).sl)), (slv (ls.getD k2 sent0).body)] 39 (0, 0))]) _ (Mem.pick Hs18 [_] _ hm19)
             have hm21 := (Mem.pick Hs18 [_] _ hm20)
             exact ⟨⟨(k2 + 1), sv18, Hs18, oM, (Grow.cast g18 (miss_yes oM hb14 ((hall _).symm.trans (by simpa using hc16))).symm), s0, s1, s2, rfl, s7, s13, s14, s15, s16, s26, s27, rfl, hm21⟩, meas (rfl) z28 oM oM⟩
           · -- false
             have hc16n : (ms ((ls.getD k2 sent0).frm, (ls.getD k2 sent0).id_)) = true := by simpa using hc16
             refine cw_skip (kBlk_normal (cw_region ?_))
             refine rw_q rfl (ev_i64_add (b := 1) s28 rfl oM oM) <| rw_q rfl (ev_move (v := (i64 ((k2 : Int) + 1))) rfl) <| rN ?_
             have hm22 := Mem.drop ([(b11, .cells #[(Value.string ((ls.getD k2 sent0).frm)), (Value.string ((ls.getD k2 sent0).to_)), (Value.string ((ls.getD k2 sent0).id_)), (Value.string ((ls.getD k2 sent0).th)), (bl ((ls.getD k2 sent0).sl)), (slv (ls.getD k2 sent0).body)] 39 (0, 0))]) _ hm13
             exact ⟨⟨(k2 + 1), v6, Hs, oM, (Grow.cast hg (miss_no oM (fun _ => (hall _).symm.trans (by simpa using hc16))).symm), s0, s1, s2, s6, s7, s13, s14, s15, s16, s26, s27, rfl, hm22⟩, meas (rfl) z28 oM oM⟩
         · -- false
           have hb14p := of_decide_eq_false hb14
           refine rw_gn (s := 36) rfl rfl hb14 rfl <| rw_gn (s := 36) rfl rfl hb14 rfl <| rw_gn (s := 36) rfl rfl hb14 rfl <| rw_gn (s := 36) rfl rfl hb14 rfl <| rw_gn (s := 36) rfl rfl hb14 rfl <| rw_gn (s := 36) rfl rfl hb14 rfl ?_
           refine rw_gn (s := 36) rfl rfl hb14 rfl <| rw_gn (s := 36) rfl rfl hb14 rfl <| rw_q rfl (ev_pick_fk rfl hb14 rfl) <| rN ?_
           refine CW.abs (fun g => g 0 = vs ∧ g 1 = (Value.string who) ∧ g 2 = vn ∧ g 6 = v6 ∧ g 7 = (Value.map (some b12)) ∧ g 11 = (ptr b11 0) ∧ g 13 = vn ∧ g 14 = (i64 (ln.length : Int)) ∧ g 15 = (i64 (k : Int)) ∧ g 16 = (bl (decide ((k : Int) < (ln.length : Int)))) ∧ g 26 = vs ∧ g 27 = (i64 (ls.length : Int)) ∧ g 28 = (i64 (k2 : Int)) ∧ g 29 = (bl (decide ((k2 : Int) < (ls.length : Int)))) ∧ g 45 = (bl false) ∧ True) ⟨s0, s1, s2, s6, s7, rfl, s13, s14, s15, s16, s26, s27, s28, rfl, rfl, trivial⟩ ?_
           rintro fr23 ⟨s0, s1, s2, s6, s7, s11, s13, s14, s15, s16, s26, s27, s28, s29, s45, _⟩
           refine cw_cond_f s45 (by decide) ?_
           refine cw_skip (kBlk_normal (cw_region ?_))
           refine rw_q rfl (ev_i64_add (b := 1) s28 rfl oM oM) <| rw_q rfl (ev_move (v := (i64 ((k2 : Int) + 1))) rfl) <| rN ?_
           have hm24 := Mem.drop ([(b11, .cells #[(Value.string ((ls.getD k2 sent0).frm)), (Value.string ((ls.getD k2 sent0).to_)), (Value.string ((ls.getD k2 sent0).id_)), (Value.string ((ls.getD k2 sent0).th)), (bl ((ls.getD k2 sent0).sl)), (slv (ls.getD k2 sent0).body)] 39 (0, 0))]) _ hm13
           exact ⟨⟨(k2 + 1), v6, Hs, oM, (Grow.cast hg (miss_no oM (fun e => by rw [hb14] at e; cases e)).symm), s0, s1, s2, s6, s7, s13, s14, s15, s16, s26, s27, rfl, hm24⟩, meas (rfl) z28 oM oM⟩
       · -- false
         have hc11p := of_decide_eq_false hc11
         refine cw_exit ?_
         refine kThen_exit (kThen_exit (kBlk_hit ?_))
         refine sR <| rM rfl s6 <| rA rfl (v := v6) rfl ?_
         refine rN (cw_ret ?_)
         refine fnPost_ret [v6] ⟨rfl, trivial⟩ ?_
         have hm25 := Mem.drop ([(b12, os)]) _ hm10
         have h5 : k2 = ls.length := by omega
         exact ⟨Hs, Grow.cast hg (by rw [h5]; unfold missF; rfl), by simpa using hm25⟩

set_option maxHeartbeats 4000000 in
theorem c_rmissing (vs : Value) (ls : List SentT) (who : ByteArray) (vn : Value) (ln : List NoteT) (w0 : World)  (hrs : RdK (blks w0) encS 6 vs ls) (hqs : ∀ a ∈ ls, Rd (blks w0) u8 (slv a.body) a.body.2) (hls : ls.length ≤ 1048576) (hrn : RdK (blks w0) encN 5 vn ln) (hqn : ∀ a ∈ ln, Rd (blks w0) u8 (slv a.body) a.body.2) (hln : ln.length ≤ 1048576) : CallsR Try.prog 19 #[vs, (Value.string who), vn] w0 (fun r w1 => ∃ Hs, Grow strv 9 r (missF ls who ln) Hs ∧ Mem w1 (restOf w0) Hs) := by
 refine callsR_of_cw (args := [vs, (Value.string who), vn]) Try.func19 rfl Try.ntmps19 Try.results19 rfl ?_
 have hm0 : Mem w0 (restOf w0) [] := Mem.of_world w0
 refine sR <| rw_q rfl (ev_assign (v := (Value.slice none 0 0)) rfl) ?_
 refine rN (sR ?_)
 refine rw_c rfl (or_buildSlice_ones [] (by simp [slc, ptr, Value.oneCell', i64, u8, u32, u64, bl]) hm0 uT32 ti9 rfl (by simp [pairs]) rfl) ?_
 rintro _ w1 ⟨b11, rfl, _ew1, hm1⟩
 have hm1 : Mem w1 (restOf w0) [(b11, .cells #[] 9 (0, 0))] := hm1
 refine rw_q rfl (ev_assign (v := (slc b11 0 0 0)) rfl) ?_
 refine rN (cw_seq (sR ?_))
 refine rw_q rfl (ev_assign (v := (i64 0)) rfl) ?_
 refine rN (cw_block ?_)
 refine cw_loop (fun g wv => ∃ (k : Nat) (v7 : Value) (Hs : List (Nat × Obj)), (k ≤ ls.length) ∧ (Grow strv 9 v7 (missK ls who ln k) Hs) ∧ g 0 = vs ∧ g 1 = (Value.string who) ∧ g 2 = vn ∧ g 6 = (Value.slice none 0 0) ∧ g 7 = v7 ∧ g 8 = (i64 (k : Int)) ∧ Mem wv (restOf w0) (Hs ++ ([]))) (fun g wv => ((ls.length : Int) - RowKit.intOf (g 8)).toNat) ?_ ?_
 · exact ⟨0, (slc b11 0 0 0), [(b11, .cells #[] 9 (0, 0))], (Nat.zero_le _), (Grow.cast (Grow.of strv 9 b11 []) miss_0), rfl, rfl, rfl, rfl, rfl, rfl, hm1⟩
 · rintro fr2 w3 ⟨k, v7, Hs, hk, hg, s0, s1, s2, s6, s7, s8, hm3⟩
   have z7 := s7
   have z8 := s8
   have hml := miss_len (sent := ls) (who := who) (notes := ln) k
   refine cw_seq (sR ?_)
   refine rM rfl s8 <| rM rfl s0 <| rw_q (v := (i64 (ls.length : Int))) rfl (ev_len_rk (RdK.ofRest hrs hm3) uT22 rfl) <| rw_q rfl (ev_i64_lss rfl rfl) <| rN ?_
   refine cw_cond rfl (fun hc4 => ?_) (fun hc4 => ?_)
   · -- true
     have hc4p := of_decide_eq_true hc4
     refine cw_skip (kThen_normal (cw_seq (cw_block (sR ?_))))
     refine rM rfl s0 <| rM rfl s8 <| rw_q rfl (ev_indexAddr_rk (i := (k : Int)) (RdK.ofRest hrs hm3) uT22 ti39 rfl rfl oM sL) <| rw_q rfl (ev_fa_rk (i := (k : Int)) (RdK.ofRest hrs hm3) sL uT39 rfl (by first | rfl | omega) ti9 rfl rfl) <| rw_q (v := (Value.string ((ls.getD k sent0).to_))) rfl (ev_load_rk1 (i := (k : Int)) (dflt := sent0) (u := (Value.string ((ls.getD k sent0).to_))) (RdK.ofRest hrs hm3) sL uT9 rfl rfl (by decide) rfl) <| rM rfl s1 ?_
     refine rw_q rfl (ev_str_neq (s := (ls.getD k sent0).to_) (t := who) rfl rfl) <| rw_q rfl (ev_assign (v := (bl (!decide ((ls.getD k sent0).to_ = who)))) rfl) ?_
     refine rN (cw_seq (sR ?_))
     refine rw_q rfl (ev_assign (v := (i64 0)) rfl) <| rN ?_
     refine CW.abs (fun g => g 0 = vs ∧ g 1 = (Value.string who) ∧ g 2 = vn ∧ g 6 = (Value.slice none 0 0) ∧ g 7 = v7 ∧ g 8 = (i64 (k : Int)) ∧ g 9 = (bl (!decide ((ls.getD k sent0).to_ = who))) ∧ g 10 = (i64 0) ∧ g 15 = (bl (decide ((k : Int) < (ls.length : Int)))) ∧ True) ⟨s0, s1, s2, s6, s7, s8, rfl, rfl, rfl, trivial⟩ ?_
     rintro fr5 ⟨s0, s1, s2, s6, s7, s8, s9, s10, s15, _⟩
     refine cw_block ?_
     refine cw_loop (fun g wv => ∃ (k2 : Nat) (th : Bool), (k2 ≤ ln.length) ∧ (th = ((!decide ((ls.getD k sent0).to_ = who)) || (ln.take k2).any (sameF (ls.getD k sent0).frm (ls.getD k sent0).id_))) ∧ g 0 = vs ∧ g 1 = (Value.string who) ∧ g 2 = vn ∧ g 6 = (Value.slice none 0 0) ∧ g 7 = v7 ∧ g 8 = (i64 (k : Int)) ∧ g 9 = (bl th) ∧ g 10 = (i64 (k2 : Int)) ∧ g 15 = (bl (decide ((k : Int) < (ls.length : Int)))) ∧ Mem wv (restOf w0) (Hs ++ ([]))) (fun g wv => ((ln.length : Int) - RowKit.intOf (g 10)).toNat) ?_ ?_
     · exact ⟨0, !decide ((ls.getD k sent0).to_ = who), (Nat.zero_le _), (by simp), s0, s1, s2, s6, s7, s8, s9, s10, s15, hm3⟩
     · rintro fr6 w7 ⟨k2, th, hk2, hth, s0, s1, s2, s6, s7, s8, s9, s10, s15, hm7⟩
       have z9 := s9
       have z10 := s10
       refine cw_seq (sR ?_)
       refine rM rfl s10 <| rM rfl s2 <| rw_q (v := (i64 (ln.length : Int))) rfl (ev_len_rk (RdK.ofRest hrn hm7) uT23 rfl) <| rw_q rfl (ev_i64_lss rfl rfl) <| rN ?_
       refine cw_cond rfl (fun hc8 => ?_) (fun hc8 => ?_)
       · -- true
         have hc8p := of_decide_eq_true hc8
         refine cw_skip (kThen_normal (cw_seq (cw_block ?_)))
         refine cw_draw [(0, false), (1, false), (2, false), (3, false), (4, false), (5, false), (6, false), (7, false), (8, false), (9, false), (10, false), (11, false), (12, false), (13, false), (14, false), (15, false), (16, false), (17, false), (18, false), (19, false), (20, false), (21, false), (22, false), (23, false)] 24 (by kernel_rfl) <| dM rfl rfl s9 <| dw_q rfl rfl (fun _ _hx => ev_move (v := (bl th)) rfl) ?_
         rcases Bool.eq_false_or_eq_true th with hb9 | hb9
         · -- true
           refine dw_gqn (s := 32) rfl rfl rfl hb9 rfl <| dw_gqn (s := 32) rfl rfl rfl hb9 rfl <| dw_gqn (s := 32) rfl rfl rfl hb9 rfl <| dw_gqn (s := 32) rfl rfl rfl hb9 rfl <| dw_gqn (s := 32) rfl rfl rfl hb9 rfl <| dw_gqn (s := 32) rfl rfl rfl hb9 rfl ?_
           refine dw_gqn (s := 32) rfl rfl rfl hb9 rfl <| dw_gqn (s := 32) rfl rfl rfl hb9 rfl <| dw_gqn (s := 32) rfl rfl rfl hb9 rfl <| dw_gqn (s := 32) rfl rfl rfl hb9 rfl <| dw_gqn (s := 32) rfl rfl rfl hb9 rfl <| dw_gqn (s := 32) rfl rfl rfl hb9 rfl ?_
           refine dw_gun (s := 44) rfl rfl rfl rfl <| dw_gun (s := 44) rfl rfl rfl rfl <| dw_gun (s := 44) rfl rfl rfl rfl <| dw_gun (s := 44) rfl rfl rfl rfl <| dw_gun (s := 44) rfl rfl rfl rfl <| dw_gun (s := 44) rfl rfl rfl rfl ?_
           refine dw_gun (s := 44) rfl rfl rfl rfl <| dw_gun (s := 44) rfl rfl rfl rfl <| dw_gun (s := 44) rfl rfl rfl rfl <| dw_gun (s := 44) rfl rfl rfl rfl ?_
           refine dw_nil (fun w10 _ew10 => ?_)
           have hm10 := hm7.ext _ew10
           refine rw_gu (s := 44) rfl rfl rfl <| rw_gn (s := 32) rfl rfl hb9 rfl <| rw_q rfl (ev_pick_tk rfl hb9 rfl) <| rw_q rfl (ev_assign (v := (bl true)) rfl) ?_
           refine rw_nil (kBlk_normal ?_)
           refine CW.abs (fun g => g 0 = vs ∧ g 1 = (Value.string who) ∧ g 2 = vn ∧ g 6 = (Value.slice none 0 0) ∧ g 7 = v7 ∧ g 8 = (i64 (k : Int)) ∧ g 9 = (bl true) ∧ g 10 = (i64 (k2 : Int)) ∧ g 15 = (bl (decide ((k : Int) < (ls.length : Int)))) ∧ g 28 = (bl (decide ((k2 : Int) < (ln.length : Int)))) ∧ True) ⟨s0, s1, s2, s6, s7, s8, rfl, s10, s15, rfl, trivial⟩ ?_
           rintro fr11 ⟨s0, s1, s2, s6, s7, s8, s9, s10, s15, s28, _⟩
           refine cw_region <| rM rfl s10 <| rw_q rfl (ev_i64_add (b := 1) rfl rfl oM oM) <| rw_q rfl (ev_assign (v := (i64 ((k2 : Int) + 1))) rfl) <| rN ?_
           exact ⟨⟨(k2 + 1), true, oM, (by rw [← (any_succ (k := k2) oM (sameF (ls.getD k sent0).frm (ls.getD k sent0).id_)), ← Bool.or_assoc, ← hth, hb9]; rfl), s0, s1, s2, s6, s7, s8, s9, rfl, s15, hm10⟩, meas (rfl) z10 oM oM⟩
         · -- false
           refine dw_gqy (s := 32) rfl rfl rfl hb9 rfl (fun _ _hx => ev_move s2) <| dw_gqy (s := 32) rfl rfl rfl hb9 rfl (fun _ _hx => ev_move s10) <| dw_gqy (s := 32) rfl rfl rfl hb9 rfl (fun _ _hx => ev_indexAddr_rk (i := (k2 : Int)) (RdK.ofRest hrn (hm7.ext _hx)) uT23 ti26 rfl rfl oM sL) <| dw_gqy (s := 32) rfl rfl rfl hb9 rfl (fun _ _hx => ev_fa_rk (i := (k2 : Int)) (RdK.ofRest hrn (hm7.ext _hx)) sL uT26 rfl (by first | rfl | omega) ti9 rfl rfl) <| dw_gqy (s := 32) rfl rfl rfl hb9 rfl (fun _ _hx => ev_load_rk1 (i := (k2 : Int)) (dflt := note0) (u := (Value.string ((ln.getD k2 note0).frm))) (RdK.ofRest hrn (hm7.ext _hx)) sL uT9 rfl rfl (by decide) rfl) <| dw_gqy (s := 32) rfl rfl rfl hb9 rfl (fun _ _hx => ev_move s0) ?_
           refine dw_gqy (s := 32) rfl rfl rfl hb9 rfl (fun _ _hx => ev_move s8) <| dw_gqy (s := 32) rfl rfl rfl hb9 rfl (fun _ _hx => ev_indexAddr_rk (i := (k : Int)) (RdK.ofRest hrs (hm7.ext _hx)) uT22 ti39 rfl rfl oM sL) <| dw_gqy (s := 32) rfl rfl rfl hb9 rfl (fun _ _hx => ev_fa_rk (i := (k : Int)) (RdK.ofRest hrs (hm7.ext _hx)) sL uT39 rfl (by first | rfl | omega) ti9 rfl rfl) <| dw_gqy (s := 32) rfl rfl rfl hb9 rfl (fun _ _hx => ev_load_rk1 (i := (k : Int)) (dflt := sent0) (u := (Value.string ((ls.getD k sent0).frm))) (RdK.ofRest hrs (hm7.ext _hx)) sL uT9 rfl rfl (by decide) rfl) <| dw_gqy (s := 32) rfl rfl rfl hb9 rfl (fun _ _hx => ev_str_eql (s := (ln.getD k2 note0).frm) (t := (ls.getD k sent0).frm) rfl rfl) <| dw_gqy (s := 32) rfl rfl rfl hb9 rfl (fun _ _hx => ev_move (v := (bl (decide ((ln.getD k2 note0).frm = (ls.getD k sent0).frm)))) rfl) ?_
           rcases Bool.eq_false_or_eq_true (decide ((ln.getD k2 note0).frm = (ls.getD k sent0).frm)) with hb12 | hb12
           · -- true
             have hb12p := of_decide_eq_true hb12
             refine dw_gqy (s := 44) rfl rfl rfl hb12 rfl (fun _ _hx => ev_move s2) <| dw_gqy (s := 44) rfl rfl rfl hb12 rfl (fun _ _hx => ev_move s10) <| dw_gqy (s := 44) rfl rfl rfl hb12 rfl (fun _ _hx => ev_indexAddr_rk (i := (k2 : Int)) (RdK.ofRest hrn (hm7.ext _hx)) uT23 ti26 rfl rfl oM sL) <| dw_gqy (s := 44) rfl rfl rfl hb12 rfl (fun _ _hx => ev_fa_rk (i := (k2 : Int)) (RdK.ofRest hrn (hm7.ext _hx)) sL uT26 rfl (by first | rfl | omega) ti9 rfl rfl) <| dw_gqy (s := 44) rfl rfl rfl hb12 rfl (fun _ _hx => ev_load_rk1 (i := (k2 : Int)) (dflt := note0) (u := (Value.string ((ln.getD k2 note0).id_))) (RdK.ofRest hrn (hm7.ext _hx)) sL uT9 rfl rfl (by decide) rfl) <| dw_gqy (s := 44) rfl rfl rfl hb12 rfl (fun _ _hx => ev_move s0) ?_
             refine dw_gqy (s := 44) rfl rfl rfl hb12 rfl (fun _ _hx => ev_move s8) <| dw_gqy (s := 44) rfl rfl rfl hb12 rfl (fun _ _hx => ev_indexAddr_rk (i := (k : Int)) (RdK.ofRest hrs (hm7.ext _hx)) uT22 ti39 rfl rfl oM sL) <| dw_gqy (s := 44) rfl rfl rfl hb12 rfl (fun _ _hx => ev_fa_rk (i := (k : Int)) (RdK.ofRest hrs (hm7.ext _hx)) sL uT39 rfl (by first | rfl | omega) ti9 rfl rfl) <| dw_gqy (s := 44) rfl rfl rfl hb12 rfl (fun _ _hx => ev_load_rk1 (i := (k : Int)) (dflt := sent0) (u := (Value.string ((ls.getD k sent0).id_))) (RdK.ofRest hrs (hm7.ext _hx)) sL uT9 rfl rfl (by decide) rfl) ?_
             refine dw_nil (fun w13 _ew13 => ?_)
             have hm13 := hm7.ext _ew13
             refine rw_gyq (s := 44) rfl rfl hb12 rfl (ev_str_eql (s := (ln.getD k2 note0).id_) (t := (ls.getD k sent0).id_) rfl rfl) <| rw_gyq (s := 32) rfl rfl hb9 rfl (ev_pick_tk rfl hb12 rfl) <| rw_q rfl (ev_pick_fk rfl hb9 rfl) <| rw_q rfl (ev_assign (v := (bl (decide ((ln.getD k2 note0).id_ = (ls.getD k sent0).id_)))) rfl) ?_
             refine rw_nil (kBlk_normal ?_)
             refine CW.abs (fun g => g 0 = vs ∧ g 1 = (Value.string who) ∧ g 2 = vn ∧ g 6 = (Value.slice none 0 0) ∧ g 7 = v7 ∧ g 8 = (i64 (k : Int)) ∧ g 9 = (bl (decide ((ln.getD k2 note0).id_ = (ls.getD k sent0).id_))) ∧ g 10 = (i64 (k2 : Int)) ∧ g 15 = (bl (decide ((k : Int) < (ls.length : Int)))) ∧ g 28 = (bl (decide ((k2 : Int) < (ln.length : Int)))) ∧ True) ⟨s0, s1, s2, s6, s7, s8, rfl, s10, s15, rfl, trivial⟩ ?_
             rintro fr14 ⟨s0, s1, s2, s6, s7, s8, s9, s10, s15, s28, _⟩
             refine cw_region <| rM rfl s10 <| rw_q rfl (ev_i64_add (b := 1) rfl rfl oM oM) <| rw_q rfl (ev_assign (v := (i64 ((k2 : Int) + 1))) rfl) <| rN ?_
             exact ⟨⟨(k2 + 1), decide ((ln.getD k2 note0).id_ = (ls.getD k sent0).id_), oM, (by rw [← (any_succ (k := k2) oM (sameF (ls.getD k sent0).frm (ls.getD k sent0).id_)), ← Bool.or_assoc, ← hth, hb9, show sameF (ls.getD k sent0).frm (ls.getD k sent0).id_ (ln.getD k2 note0) = decide ((ln.getD k2 note0).id_ = (ls.getD k sent0).id_) from by unfold sameF; rw [hb12, Bool.true_and]]; rfl), s0, s1, s2, s6, s7, s8, s9, rfl, s15, hm13⟩, meas (rfl) z10 oM oM⟩
           · -- false
             have hb12p := of_decide_eq_false hb12
             refine dw_gqn (s := 44) rfl rfl rfl hb12 rfl <| dw_gqn (s := 44) rfl rfl rfl hb12 rfl <| dw_gqn (s := 44) rfl rfl rfl hb12 rfl <| dw_gqn (s := 44) rfl rfl rfl hb12 rfl <| dw_gqn (s := 44) rfl rfl rfl hb12 rfl <| dw_gqn (s := 44) rfl rfl rfl hb12 rfl ?_
             refine dw_gqn (s := 44) rfl rfl rfl hb12 rfl <| dw_gqn (s := 44) rfl rfl rfl hb12 rfl <| dw_gqn (s := 44) rfl rfl rfl hb12 rfl <| dw_gqn (s := 44) rfl rfl rfl hb12 rfl ?_
             refine dw_nil (fun w15 _ew15 => ?_)
             have hm15 := hm7.ext _ew15
             refine rw_gn (s := 44) rfl rfl hb12 rfl <| rw_gyq (s := 32) rfl rfl hb9 rfl (ev_pick_fk rfl hb12 rfl) <| rw_q rfl (ev_pick_fk rfl hb9 rfl) <| rw_q rfl (ev_assign (v := (bl false)) rfl) ?_
             refine rw_nil (kBlk_normal ?_)
             refine CW.abs (fun g => g 0 = vs ∧ g 1 = (Value.string who) ∧ g 2 = vn ∧ g 6 = (Value.slice none 0 0) ∧ g 7 = v7 ∧ g 8 = (i64 (k : Int)) ∧ g 9 = (bl false) ∧ g 10 = (i64 (k2 : Int)) ∧ g 15 = (bl (decide ((k : Int) < (ls.length : Int)))) ∧ g 28 = (bl (decide ((k2 : Int) < (ln.length : Int)))) ∧ True) ⟨s0, s1, s2, s6, s7, s8, rfl, s10, s15, rfl, trivial⟩ ?_
             rintro fr16 ⟨s0, s1, s2, s6, s7, s8, s9, s10, s15, s28, _⟩
             refine cw_region <| rM rfl s10 <| rw_q rfl (ev_i64_add (b := 1) rfl rfl oM oM) <| rw_q rfl (ev_assign (v := (i64 ((k2 : Int) + 1))) rfl) <| rN ?_
             exact ⟨⟨(k2 + 1), false, oM, (by rw [← (any_succ (k := k2) oM (sameF (ls.getD k sent0).frm (ls.getD k sent0).id_)), ← Bool.or_assoc, ← hth, hb9, show sameF (ls.getD k sent0).frm (ls.getD k sent0).id_ (ln.getD k2 note0) = false from by unfold sameF; rw [hb12]; rfl]; rfl), s0, s1, s2, s6, s7, s8, s9, rfl, s15, hm15⟩, meas (rfl) z10 oM oM⟩
       · -- false
         have hc8p := of_decide_eq_false hc8
         have hka : k2 = ln.length := by omega
         refine cw_exit ?_
         refine kThen_exit (kThen_exit (kBlk_hit ?_))
         refine sR <| rM rfl s9 <| rw_q rfl (ev_not rfl) <| rN ?_
         refine cw_cond rfl (fun hc17 => ?_) (fun hc17 => ?_)
         · -- true
           have hc17n : th = false := by simpa using hc17
           refine cw_region <| rM rfl s7 <| rM rfl s0 <| rM rfl s8 <| rw_q rfl (ev_indexAddr_rk (i := (k : Int)) (RdK.ofRest hrs hm7) uT22 ti39 rfl rfl oM sL) <| rw_q rfl (ev_fa_rk (i := (k : Int)) (RdK.ofRest hrs hm7) sL uT39 rfl (by first | rfl | omega) ti9 rfl rfl) ?_
           refine rw_q (v := (Value.string ((ls.getD k sent0).id_))) rfl (ev_load_rk1 (i := (k : Int)) (dflt := sent0) (u := (Value.string ((ls.getD k sent0).id_))) (RdK.ofRest hrs hm7) sL uT9 rfl rfl (by decide) rfl) <| rw_c rfl (or_buildSlice_ones [(Value.string ((ls.getD k sent0).id_))] (by simp [slc, ptr, Value.oneCell', i64, u8, u32, u64, bl]) hm7 uT32 ti9 rfl rfl rfl) ?_
           rintro _ w18 ⟨b66, rfl, _ew18, hm18⟩
           have hm18 : Mem w18 (restOf w0) ([(b66, .cells #[(Value.string ((ls.getD k sent0).id_))] 9 (0, 0))] ++ (Hs ++ ([]))) := hm18
           refine rw_c rfl (or_append (f := strv) (Hs := Hs) (H := [(b66, .cells #[(Value.string ((ls.getD k sent0).id_))] 9 (0, 0))]) (Mem.pick [_] Hs _ hm18) hg rfl rfl (Rd.mkA (f := strv) (l := [(ls.getD k sent0).id_]) hm18.h0) uT32 uT32 ti9 rfl strv_one sL sL) ?_
           rintro sv19 w19 ⟨Hs19, hm19, g19⟩
           replace g19 : Grow strv 9 sv19 ((missK ls who ln k) ++ ([(ls.getD k sent0).id_])) Hs19 := g19
           refine rA rfl (v := sv19) rfl ?_
           refine rw_nil (kBlk_normal ?_)
           have hm20 := Mem.drop ([(b66, .cells #[(Value.string ((ls.getD k sent0).id_))] 9 (0, 0))]) _ (Mem.pick Hs19 [_] _ hm19)
           refine CW.abs (fun g => g 0 = vs ∧ g 1 = (Value.string who) ∧ g 2 = vn ∧ g 6 = (Value.slice none 0 0) ∧ g 7 = sv19 ∧ g 8 = (i64 (k : Int)) ∧ g 9 = (bl th) ∧ g 10 = (i64 (k2 : Int)) ∧ g 15 = (bl (decide ((k : Int) < (ls.length : Int)))) ∧ g 28 = (bl (decide ((k2 : Int) < (ln.length : Int)))) ∧ g 59 = (bl (!th)) ∧ True) ⟨s0, s1, s2, s6, rfl, s8, s9, s10, s15, rfl, rfl, trivial⟩ ?_
           rintro fr21 ⟨s0, s1, s2, s6, s7, s8, s9, s10, s15, s28, s59, _⟩
           refine cw_region <| rM rfl s8 <| rw_q rfl (ev_i64_add (b := 1) rfl rfl oM oM) <| rw_q rfl (ev_assign (v := (i64 ((k : Int) + 1))) rfl) <| rN ?_
           exact ⟨⟨(k + 1), sv19, Hs19, oM, (Grow.cast g19 (by have h := hth; rw [hka, List.take_length, (by simpa using hc17 : th = false)] at h; have h1 := (Bool.or_eq_false_iff.1 h.symm); exact (miss_yes oM (by simpa using h1.1) h1.2).symm)), s0, s1, s2, s6, s7, rfl, hm20⟩, meas (rfl) z8 oM oM⟩
         · -- false
           have hc17n : th = true := by simpa using hc17
           refine cw_skip (kBlk_normal (cw_region ?_))
           refine rM rfl s8 <| rw_q rfl (ev_i64_add (b := 1) rfl rfl oM oM) <| rw_q rfl (ev_assign (v := (i64 ((k : Int) + 1))) rfl) <| rN ?_
           exact ⟨⟨(k + 1), v7, Hs, oM, (Grow.cast hg (miss_no oM (fun e => by have h := hth; rw [hka, List.take_length, (by simpa using hc17 : th = true), e] at h; simpa using h.symm)).symm), s0, s1, s2, s6, s7, rfl, hm7⟩, meas (rfl) z8 oM oM⟩
   · -- false
     have hc4p := of_decide_eq_false hc4
     refine cw_exit ?_
     refine kThen_exit (kThen_exit (kBlk_hit ?_))
     refine sR <| rM rfl s7 <| rA rfl (v := v7) rfl ?_
     refine rN (cw_ret ?_)
     refine fnPost_ret [v7] ⟨rfl, trivial⟩ ?_
     have h5 : k = ls.length := by omega
     exact ⟨Hs, Grow.cast hg (by rw [h5]; unfold missF; rfl), by simpa using hm3⟩


end Go.Proofs.Ytfmjfojhcmmgcaa
