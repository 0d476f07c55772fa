/- The laws of lines and places: their walks. Conditions: none beyond those that each theorem states. -/
import Derived.Test.YtfmjfojhcmmgcaaLn5
import Derived.Test.YtfmjfojhcmmgcaaFwX
namespace Go.Proofs.Ytfmjfojhcmmgcaa
set_option linter.unusedVariables false
set_option linter.unusedSimpArgs false
theorem join_nil_take (L : List (List (BitVec 8))) : [] = joinL (L.take 0) := rfl
theorem place_0 (l : List (BitVec 8)) : placeB l 0 = (0, 0) := rfl
theorem getD_takeB {l : List (BitVec 8)} {m k : Nat} (h : k < m) : (l.take m).getD k 0 = l.getD k 0 := by simp [List.getD_eq_getElem?_getD, List.getElem?_take, h]
theorem take_min {l : List (BitVec 8)} (m : Nat) (h : m ≤ l.length) : ((l.drop (0 : Int).toNat).take (((m : Nat) : Int).toNat - (0 : Int).toNat)) = l.take m := by simp
theorem take_min_len {l : List (BitVec 8)} (m : Nat) (h : m ≤ l.length) : (l.take m).length = m := by simp; omega
theorem sub_one' (x : List (BitVec 8)) (n : Nat) : ((x.drop (0 : Int).toNat).take (((n : Int)).toNat - (0 : Int).toNat)) = x.take n := by simp
attribute [local irreducible] wholeB linesB restB cutF befB aftB cutAv cutBv laidB stfL stuffB unB joinL placeB

set_option maxHeartbeats 1000000 in
theorem c_place (v : Value) (l : List (BitVec 8)) (n : Int) (w0 : World)  (hr : Rd (blks w0) u8 v l) (hl : l.length ≤ 2000) (hn : -9223372036854775808 ≤ n ∧ n ≤ 9223372036854775807) : CallsR Try.prog 42 #[v, (i64 n)] w0 (fun r w1 => r = (Value.tuple #[(i64 ((placeB l (min n.toNat l.length)).1 : Int)), (i64 ((placeB l (min n.toNat l.length)).2 : Int))]) ∧ Ext w0 w1) := by
 refine callsR_of_cw (args := [v, (i64 n)]) Try.func42 rfl Try.ntmps42 Try.results42 rfl ?_
 have hm0 : Mem w0 (restOf w0) [] := Mem.of_world w0
 have htk := take_min_len (l := l) (min n.toNat l.length) oM
 refine sR <| rw_q rfl (ev_assign (v := (i64 0)) rfl) <| rw_q rfl (ev_assign (v := (i64 0)) rfl) ?_
 refine rN (sR ?_)
 refine rw_q rfl (ev_assign (v := (cpx 0 0)) rfl) ?_
 refine rN (cw_seq (sR ?_))
 refine rM rfl (v := v) rfl <| rw_q rfl (ev_move (v := (i64 n)) rfl) <| rw_q (v := (i64 (if 0 > n then 0 else n))) rfl (ev_max_i64 (j := 0) rfl rfl) <| rM rfl (v := v) rfl <| rw_q (v := (i64 (l.length : Int))) rfl (ev_len_rd (Rd.ofRest hr hm0) uT24 rfl) <| rw_q (v := (i64 (((min n.toNat l.length) : Nat) : Int))) rfl (EvQ.cast (congrArg i64 (by split <;> split <;> omega)) (ev_min_i64 rfl rfl)) ?_
 refine rw_q rfl (ev_slice_rd (i := 0) (j := (((min n.toNat l.length) : Nat) : Int)) (Rd.ofRest hr hm0) uT24 ti5 rfl (optI_none _ _) (optI_some (k := .i64) (i := (((min n.toNat l.length) : Nat) : Int)) rfl) oM sL sL) <| rw_q (v := (i64 ((l.take (min n.toNat l.length)).length : Int))) rfl (ev_len_rd (Rd.cast (l' := l.take (min n.toNat l.length)) (Rd.cast (l' := (l.drop (0 : Int).toNat).take (((((min n.toNat l.length) : Nat) : Int) : Int).toNat - (0 : Int).toNat)) (Rd.sub (Rd.ofRest hr hm0) oM sL sL) rfl) (take_min (l := l) (min n.toNat l.length) oM)) uT24 rfl) <| rw_q rfl (ev_move (v := (i64 0)) rfl) ?_
 refine rN (cw_block ?_)
 refine cw_loop (fun g wv => ∃ (k : Nat), (k ≤ (min n.toNat l.length)) ∧ g 0 = v ∧ g 1 = (i64 n) ∧ g 4 = (i64 0) ∧ g 5 = (i64 0) ∧ g 6 = (cpx ((placeB l k).1) ((placeB l k).2)) ∧ g 15 = (subv v 0 (((min n.toNat l.length) : Nat) : Int)) ∧ g 16 = (i64 ((l.take (min n.toNat l.length)).length : Int)) ∧ g 17 = (i64 (k : Int)) ∧ Mem wv (restOf w0) []) (fun g wv => (((min n.toNat l.length) : Int) - RowKit.intOf (g 17)).toNat) ?_ ?_
 · exact ⟨0, (Nat.zero_le _), rfl, rfl, rfl, rfl, (by rw [place_0]; rfl), rfl, rfl, rfl, hm0⟩
 · rintro fr1 w2 ⟨k, hk, s0, s1, s4, s5, s6, s15, s16, s17, hm2⟩
   have z6 := s6
   have z17 := s17
   have hpl := place_le l k
   refine sR <| rw_q rfl (ev_i64_lss s17 s16) ?_
   refine rN (cw_seq ?_)
   refine cw_cond rfl (fun hc3 => ?_) (fun hc3 => ?_)
   · -- true
     have hc3p := of_decide_eq_true hc3
     refine cw_skip (kThen_normal (cw_seq (cw_block (sR ?_))))
     refine rw_q rfl (ev_indexAddr_rdv (Rd.cast (l' := l.take (min n.toNat l.length)) (Rd.cast (l' := (l.drop (0 : Int).toNat).take (((((min n.toNat l.length) : Nat) : Int) : Int).toNat - (0 : Int).toNat)) (Rd.sub (Rd.ofRest hr hm2) oM sL sL) rfl) (take_min (l := l) (min n.toNat l.length) oM)) uT24 ti5 s15 s17 oM sL) <| rw_q (v := (u8 ((l.take (min n.toNat l.length)).getD k 0))) rfl (ev_load_rdD (l := l.take (min n.toNat l.length)) (i := (k : Int)) (dflt := 0) (Rd.cast (l' := l.take (min n.toNat l.length)) (Rd.cast (l' := (l.drop (0 : Int).toNat).take (((((min n.toNat l.length) : Nat) : Int) : Int).toNat - (0 : Int).toNat)) (Rd.sub (Rd.ofRest hr hm2) oM sL sL) rfl) (take_min (l := l) (min n.toNat l.length) oM)) uT5 rfl oM sL rfl) <| rw_q rfl (ev_assign (v := (u8 ((l.take (min n.toNat l.length)).getD k 0))) rfl) ?_
     refine rN (sR ?_)
     refine rM rfl s6 <| rw_q rfl (ev_cpx_add (a := (placeB l k).1) (b := (placeB l k).2) sL sL rfl rfl) <| rw_q rfl (ev_assign (v := (cpx ((placeB l k).1) ((placeB l k).2 + 1))) rfl) ?_
     refine rN (sR ?_)
     refine rw_q rfl (ev_move (v := (u8 ((l.take (min n.toNat l.length)).getD k 0))) rfl) <| rw_q rfl (ev_u8_eql (b := 10#8) rfl rfl) <| rN ?_
     refine cw_cond rfl (fun hc4 => ?_) (fun hc4 => ?_)
     · -- true
       have hc4p := eq_of_beq hc4
       refine cw_region <| rw_q rfl (ev_move (v := (cpx ((placeB l k).1) ((placeB l k).2 + 1))) rfl) <| rw_q (v := (flt ((placeB l k).1))) rfl (ev_real (a := (placeB l k).1) (b := ((placeB l k).2 + 1)) rfl) <| rw_q rfl (ev_flt_add (a := (placeB l k).1) sL rfl rfl) <| rw_q (v := (cpx ((placeB l k).1 + 1) 0)) rfl (ev_complex (a := ((placeB l k).1 + 1)) (b := 0) rfl rfl) <| rw_q rfl (ev_assign (v := (cpx ((placeB l k).1 + 1) 0)) rfl) ?_
       refine rw_nil (kBlk_normal ?_)
       refine CW.abs (fun g => g 0 = v ∧ g 1 = (i64 n) ∧ g 4 = (i64 0) ∧ g 5 = (i64 0) ∧ g 6 = (cpx ((placeB l k).1 + 1) 0) ∧ g 8 = (u8 ((l.take (min n.toNat l.length)).getD k 0)) ∧ g 15 = (subv v 0 (((min n.toNat l.length) : Nat) : Int)) ∧ g 16 = (i64 ((l.take (min n.toNat l.length)).length : Int)) ∧ g 17 = (i64 (k : Int)) ∧ g 18 = (bl (decide ((k : Int) < ((l.take (min n.toNat l.length)).length : Int)))) ∧ g 24 = (bl (((l.take (min n.toNat l.length)).getD k 0) == 10#8)) ∧ True) ⟨s0, s1, s4, s5, rfl, rfl, s15, s16, s17, rfl, rfl, trivial⟩ ?_
       rintro fr5 ⟨s0, s1, s4, s5, s6, s8, s15, s16, s17, s18, s24, _⟩
       refine cw_region <| rw_q rfl (ev_i64_add (b := 1) s17 rfl oM oM) <| rw_q rfl (ev_move (v := (i64 ((k : Int) + 1))) rfl) <| rN ?_
       have hgk : (l.take (min n.toNat l.length)).getD k 0 = l.getD k 0 := getD_takeB oM
       have e6 : cpx ((placeB l k).1 + 1) 0 = cpx (placeB l (k + 1)).1 (placeB l (k + 1)).2 := by rw [place_lf oM (hgk.symm.trans hc4p)]
       exact ⟨⟨(k + 1), oM, s0, s1, s4, s5, (Eq.trans s6 e6), s15, s16, rfl, hm2⟩, meas (rfl) z17 oM oM⟩
     · -- false
       have hc4p := ne_of_beq_false hc4
       refine cw_skip (kBlk_normal (cw_region ?_))
       refine rw_q rfl (ev_i64_add (b := 1) s17 rfl oM oM) <| rw_q rfl (ev_move (v := (i64 ((k : Int) + 1))) rfl) <| rN ?_
       have hgk : (l.take (min n.toNat l.length)).getD k 0 = l.getD k 0 := getD_takeB oM
       have e6 : cpx ((placeB l k).1) ((placeB l k).2 + 1) = cpx (placeB l (k + 1)).1 (placeB l (k + 1)).2 := by rw [place_on oM (fun e => hc4p (hgk.trans e))]
       exact ⟨⟨(k + 1), oM, s0, s1, s4, s5, (Eq.trans rfl e6), s15, s16, rfl, hm2⟩, meas (rfl) z17 oM oM⟩
   · -- false
     have hc3p := of_decide_eq_false hc3
     have hpl := place_le l k
     refine cw_exit ?_
     refine kThen_exit (kThen_exit (kBlk_hit ?_))
     refine sR <| rM rfl s6 <| rw_q (v := (flt ((placeB l k).1))) rfl (ev_real (a := (placeB l k).1) (b := (placeB l k).2) rfl) <| rw_q rfl (ev_flt_int (a := (placeB l k).1) sL uT100 uT3 rfl) <| rM rfl s6 <| rw_q (v := (flt ((placeB l k).2))) rfl (ev_imag (a := (placeB l k).1) (b := (placeB l k).2) rfl) ?_
     refine rw_q rfl (ev_flt_int (a := (placeB l k).2) sL uT100 uT3 rfl) <| rw_q rfl (ev_assign (v := (i64 ((placeB l k).1 : Int))) rfl) <| rw_q rfl (ev_assign (v := (i64 ((placeB l k).2 : Int))) rfl) ?_
     refine rN (cw_ret ?_)
     refine fnPost_ret [(i64 ((placeB l k).1 : Int)), (i64 ((placeB l k).2 : Int))] ⟨rfl, rfl, trivial⟩ ?_
     exact ⟨by rw [show k = (min n.toNat l.length) by omega] <;> rfl, hm2.toExt⟩

set_option maxHeartbeats 1000000 in
theorem c_rplace (v : Value) (l : List (BitVec 8)) (n : Int) (w0 : World)  (hr : Rd (blks w0) u8 v l) (hl : l.length ≤ 2000) (hn : -9223372036854775808 ≤ n ∧ n ≤ 9223372036854775807) : CallsR Try.prog 43 #[v, (i64 n)] w0 (fun r w1 => r = (Value.tuple #[(i64 ((placeB l (min n.toNat l.length)).1 : Int)), (i64 ((placeB l (min n.toNat l.length)).2 : Int))]) ∧ Ext w0 w1) := by
 refine callsR_of_cw (args := [v, (i64 n)]) Try.func43 rfl Try.ntmps43 Try.results43 rfl ?_
 have hm0 : Mem w0 (restOf w0) [] := Mem.of_world w0
 refine sR <| rw_q rfl (ev_assign (v := (i64 0)) rfl) <| rw_q rfl (ev_assign (v := (i64 0)) rfl) ?_
 refine rN (sR ?_)
 refine rw_q rfl (ev_assign (v := (i64 0)) rfl) <| rw_q rfl (ev_assign (v := (i64 0)) rfl) ?_
 refine rN (cw_seq (sR ?_))
 refine rw_q rfl (ev_assign (v := (i64 0)) rfl) ?_
 refine rN (cw_block ?_)
 refine cw_loop (fun g wv => ∃ (k : Nat), (k ≤ (min n.toNat l.length)) ∧ g 0 = v ∧ g 1 = (i64 n) ∧ g 4 = (i64 0) ∧ g 5 = (i64 0) ∧ g 6 = (i64 (((placeB l k).1 : Nat) : Int)) ∧ g 7 = (i64 (((placeB l k).2 : Nat) : Int)) ∧ g 8 = (i64 (k : Int)) ∧ Mem wv (restOf w0) []) (fun g wv => (((min n.toNat l.length) : Int) - RowKit.intOf (g 8)).toNat) ?_ ?_
 · exact ⟨0, (Nat.zero_le _), rfl, rfl, rfl, rfl, (by rw [place_0]; rfl), (by rw [place_0]; rfl), rfl, hm0⟩
 · rintro fr1 w2 ⟨k, hk, s0, s1, s4, s5, s6, s7, s8, hm2⟩
   have z6 := s6
   have z7 := s7
   have z8 := s8
   have hpl := place_le l k
   refine cw_seq (sR ?_)
   refine rM rfl s8 <| rM rfl s1 <| rw_q rfl (ev_i64_lss rfl rfl) <| rw_q rfl (ev_move (v := (bl (decide ((k : Int) < n)))) rfl) ?_
   rcases Bool.eq_false_or_eq_true (decide ((k : Int) < n)) with hb3 | hb3
   · -- true
     have hb3p := of_decide_eq_true hb3
     refine rw_gyq (s := 12) rfl rfl hb3 rfl (ev_move s8) <| rw_gyq (s := 12) rfl rfl hb3 rfl (ev_move s0) <| rw_gyq (s := 12) rfl rfl hb3 rfl (ev_len_rd (Rd.ofRest hr hm2) uT24 rfl) <| rw_gyq (s := 12) rfl rfl hb3 rfl (ev_i64_lss rfl rfl) <| rw_q rfl (ev_pick_tk rfl hb3 rfl) <| rN ?_
     refine cw_cond rfl (fun hc4 => ?_) (fun hc4 => ?_)
     · -- true
       have hc4p := of_decide_eq_true hc4
       refine cw_skip (kThen_normal (cw_seq (cw_block (sR ?_))))
       refine rM rfl s7 <| rw_q rfl (ev_i64_add (b := 1) rfl rfl oM oM) <| rw_q rfl (ev_assign (v := (i64 ((((placeB l k).2 : Nat) : Int) + 1))) rfl) ?_
       refine rN (sR ?_)
       refine rM rfl s0 <| rM rfl s8 <| rw_q rfl (ev_indexAddr_rdv (Rd.ofRest hr hm2) uT24 ti5 rfl rfl oM sL) <| rw_q (v := (u8 (l.getD k 0))) rfl (ev_load_rdD (l := l) (i := (k : Int)) (dflt := 0) (Rd.ofRest hr hm2) uT5 rfl oM sL rfl) <| rw_q rfl (ev_u8_eql (b := 10#8) rfl rfl) <| rN ?_
       refine CW.abs (fun g => g 0 = v ∧ g 1 = (i64 n) ∧ g 4 = (i64 0) ∧ g 5 = (i64 0) ∧ g 6 = (i64 (((placeB l k).1 : Nat) : Int)) ∧ g 7 = (i64 ((((placeB l k).2 : Nat) : Int) + 1)) ∧ g 8 = (i64 (k : Int)) ∧ g 17 = (bl (decide ((k : Int) < (l.length : Int)))) ∧ g 26 = (bl ((l.getD k 0) == 10#8)) ∧ True) ⟨s0, s1, s4, s5, s6, rfl, s8, rfl, rfl, trivial⟩ ?_
       rintro fr5 ⟨s0, s1, s4, s5, s6, s7, s8, s17, s26, _⟩
       refine cw_cond s26 (fun hc6 => ?_) (fun hc6 => ?_)
       · -- true
         have hc6p := eq_of_beq hc6
         refine sR <| rM rfl s6 <| rw_q rfl (ev_i64_add (b := 1) rfl rfl oM oM) <| rw_q rfl (ev_assign (v := (i64 ((((placeB l k).1 : Nat) : Int) + 1))) rfl) ?_
         refine rN (cw_region ?_)
         refine rw_q rfl (ev_assign (v := (i64 0)) rfl) ?_
         refine rw_nil (kBlk_normal (cw_region ?_))
         refine rM rfl s8 <| rw_q rfl (ev_i64_add (b := 1) rfl rfl oM oM) <| rw_q rfl (ev_assign (v := (i64 ((k : Int) + 1))) rfl) <| rN ?_
         have e1 : i64 ((((placeB l k).1 : Nat) : Int) + 1) = i64 (((placeB l (k + 1)).1 : Nat) : Int) := by rw [place_lf oM hc6p]; rfl
         have e2 : i64 (0) = i64 (((placeB l (k + 1)).2 : Nat) : Int) := by rw [place_lf oM hc6p]; rfl
         exact ⟨⟨(k + 1), oM, s0, s1, s4, s5, (Eq.trans rfl e1), (Eq.trans rfl e2), rfl, hm2⟩, meas (rfl) z8 oM oM⟩
       · -- false
         have hc6p := ne_of_beq_false hc6
         refine cw_skip (kBlk_normal (cw_region ?_))
         refine rM rfl s8 <| rw_q rfl (ev_i64_add (b := 1) rfl rfl oM oM) <| rw_q rfl (ev_assign (v := (i64 ((k : Int) + 1))) rfl) <| rN ?_
         have e1 : i64 ((((placeB l k).1 : Nat) : Int)) = i64 (((placeB l (k + 1)).1 : Nat) : Int) := by rw [place_on oM hc6p]
         have e2 : i64 ((((placeB l k).2 : Nat) : Int) + 1) = i64 (((placeB l (k + 1)).2 : Nat) : Int) := by rw [place_on oM hc6p]; rfl
         exact ⟨⟨(k + 1), oM, s0, s1, s4, s5, (Eq.trans s6 e1), (Eq.trans s7 e2), rfl, hm2⟩, meas (rfl) z8 oM oM⟩
     · -- false
       have hc4p := of_decide_eq_false hc4
       refine cw_exit ?_
       refine kThen_exit (kThen_exit (kBlk_hit ?_))
       refine sR <| rM rfl s6 <| rM rfl s7 <| rw_q rfl (ev_assign (v := (i64 (((placeB l k).1 : Nat) : Int))) rfl) <| rw_q rfl (ev_assign (v := (i64 (((placeB l k).2 : Nat) : Int))) rfl) <| rN ?_
       refine CW.abs (fun g => g 0 = v ∧ g 1 = (i64 n) ∧ g 4 = (i64 (((placeB l k).1 : Nat) : Int)) ∧ g 5 = (i64 (((placeB l k).2 : Nat) : Int)) ∧ g 6 = (i64 (((placeB l k).1 : Nat) : Int)) ∧ g 7 = (i64 (((placeB l k).2 : Nat) : Int)) ∧ g 8 = (i64 (k : Int)) ∧ g 17 = (bl (decide ((k : Int) < (l.length : Int)))) ∧ True) ⟨s0, s1, rfl, rfl, s6, s7, s8, rfl, trivial⟩ ?_
       rintro fr7 ⟨s0, s1, s4, s5, s6, s7, s8, s17, _⟩
       refine cw_ret <| fnPost_ret [(i64 (((placeB l k).1 : Nat) : Int)), (i64 (((placeB l k).2 : Nat) : Int))] ⟨s4, s5, trivial⟩ ?_
       exact ⟨by rw [show k = (min n.toNat l.length) by omega] <;> rfl, hm2.toExt⟩
   · -- false
     have hb3p := of_decide_eq_false hb3
     refine rw_gn (s := 12) rfl rfl hb3 rfl <| rw_gn (s := 12) rfl rfl hb3 rfl <| rw_gn (s := 12) rfl rfl hb3 rfl <| rw_gn (s := 12) rfl rfl hb3 rfl <| rw_q rfl (ev_pick_fk rfl hb3 rfl) <| rN ?_
     refine cw_cond_f rfl (by decide) <| cw_exit ?_
     refine kThen_exit (kThen_exit (kBlk_hit ?_))
     refine sR <| rM rfl s6 <| rM rfl s7 <| rw_q rfl (ev_assign (v := (i64 (((placeB l k).1 : Nat) : Int))) rfl) <| rw_q rfl (ev_assign (v := (i64 (((placeB l k).2 : Nat) : Int))) rfl) <| rN ?_
     refine CW.abs (fun g => g 0 = v ∧ g 1 = (i64 n) ∧ g 4 = (i64 (((placeB l k).1 : Nat) : Int)) ∧ g 5 = (i64 (((placeB l k).2 : Nat) : Int)) ∧ g 6 = (i64 (((placeB l k).1 : Nat) : Int)) ∧ g 7 = (i64 (((placeB l k).2 : Nat) : Int)) ∧ g 8 = (i64 (k : Int)) ∧ g 17 = (bl false) ∧ True) ⟨s0, s1, rfl, rfl, s6, s7, s8, rfl, trivial⟩ ?_
     rintro fr8 ⟨s0, s1, s4, s5, s6, s7, s8, s17, _⟩
     refine cw_ret <| fnPost_ret [(i64 (((placeB l k).1 : Nat) : Int)), (i64 (((placeB l k).2 : Nat) : Int))] ⟨s4, s5, trivial⟩ ?_
     exact ⟨by rw [show k = (min n.toNat l.length) by omega] <;> rfl, hm2.toExt⟩

set_option maxHeartbeats 1000000 in
theorem law_ltold (v : Value) (l : List (BitVec 8)) (n : Int) (w0 : World)  (hT : Tabs (blks w0)) (hr : Rd (blks w0) u8 v l) (hb : l.length ≤ 9223372036854775807) (hn : -9223372036854775808 ≤ n ∧ n ≤ 9223372036854775807) : CallsR Try.prog 10 #[v, (i64 n)] w0 (fun r w1 => r = bl true ∧ RowKit.Below w0.heap.size w0 w1) := by
 refine callsR_of_cw (args := [v, (i64 n)]) Try.func10 rfl Try.ntmps10 Try.results10 rfl ?_
 have hm0 : Mem w0 (restOf w0) [] := Mem.of_world w0
 have hwl := wholeB_length l; have hrl := restB_len l; have hnl := lines_num l
 refine sR <| rw_q rfl (ev_assign (v := (bl false)) rfl) ?_
 refine rN (cw_seq (sR ?_))
 refine rw_c rfl (opR_call Try.func36 bd36 nm36 (args0) (c_speaks8 _ (hT.mono fun b o e => (hm0).rest b o e))) ?_
 rintro _ w1 ⟨rfl, _ew1⟩
 have hm1 := hm0.ext _ew1
 refine rw_q (v := (bl false)) rfl (ev_not (b := true) rfl) <| rN <| cw_cond_f rfl (by decide) ?_
 refine cw_skip (kThen_normal (cw_seq (sR ?_)))
 refine rM rfl (v := v) rfl <| rw_q (v := (i64 (l.length : Int))) rfl (ev_len_rd (Rd.ofRest hr hm1) uT24 rfl) <| rw_q rfl (ev_i64_gtr (b := 2000) rfl rfl) <| rN ?_
 refine cw_cond rfl (fun hc3 => ?_) (fun hc3 => ?_)
 · -- true
   have hc3p := of_decide_eq_true hc3
   refine sR <| rw_q rfl (ev_assign (v := (bl true)) rfl) ?_
   refine rN (cw_ret (kThen_ret ?_))
   refine fnPost_ret [(bl true)] ⟨rfl, trivial⟩ ?_
   exact ⟨rfl, Mem.below w0 hm1⟩
 · -- false
   have hc3p := of_decide_eq_false hc3
   refine cw_skip (kThen_normal (sR ?_))
   refine rw_c rfl (or_buildSlice_cl u8 [] u8_one hm1 uT24 ti5 rfl (by simp [pairs]) rfl) ?_
   rintro _ w4 ⟨b20, rfl, _ew4, hm4⟩
   refine rM rfl (v := v) rfl <| rw_c rfl (or_append (f := u8) (Hs := [(b20, .cells (cl u8 ([])) 5 (0, 0))]) (H := []) hm4 (Grow.of u8 5 b20 ([])) rfl rfl (Rd.ofRest hr hm4) uT24 uT24 ti5 rfl u8_one sL sL) ?_
   rintro sv5 w5 ⟨Hs5, hm5, g5⟩
   replace g5 : Grow u8 5 sv5 l Hs5 := g5
   refine rA rfl (v := sv5) rfl ?_
   refine rN (sR ?_)
   refine rM rfl (v := sv5) rfl <| rw_c rfl (opR_call Try.func39 bd39 nm39 (args1 rfl) (c_split sv5 l _ (hT.mono fun b o e => (hm5).rest b o e) (g5.rd hm5) (Grow.capOk g5) sL)) ?_
   rintro _ w6 ⟨lsq7, r1q7, r2q7, Hsq7, Heq7, Hrq7, rfl, hMq7, grq7, hEq7, gr2q7, k_w6⟩
   have hm6 : Mem w6 (restOf w0) (Hsq7 ++ (Heq7 ++ (Hrq7 ++ (Hs5 ++ ([]))))) := (by
     have hT := Mem.new (H := Hs5 ++ ([])) (H' := _) hm5 k_w6
     simp only [List.append_assoc, List.cons_append, List.nil_append, List.append_nil] at hT ⊢
     exact hT)
   have hl8 := map_snd_len hMq7
   refine rw_q rfl (ev_move (v := (Value.tuple #[r1q7, r2q7])) rfl) <| rw_q (v := r1q7) rfl (ev_extract rfl rfl) <| rw_q (v := r2q7) rfl (ev_extract rfl rfl) <| rA rfl (v := r1q7) rfl <| rA rfl (v := r2q7) rfl <| rN ?_
   refine CW.abs (fun g => g 0 = v ∧ g 1 = (i64 n) ∧ g 4 = (bl false) ∧ g 5 = sv5 ∧ g 6 = r1q7 ∧ g 7 = r2q7 ∧ g 16 = (bl false) ∧ g 19 = (bl (decide (2000 < (l.length : Int)))) ∧ True) ⟨rfl, rfl, rfl, rfl, rfl, rfl, rfl, rfl, trivial⟩ ?_
   rintro fr9 ⟨s0, s1, s4, s5, s6, s7, s16, s19, _⟩
   refine sR <| rM rfl s0 <| rw_c rfl (opR_call Try.func40 bd40 nm40 (args1 rfl) (c_rsplit v l _ (Rd.ofRest hr hm6) sL)) ?_
   rintro _ w10 ⟨lsq11, r1q11, r2q11, Hsq11, Heq11, Hrq11, rfl, hMq11, grq11, hEq11, gr2q11, k_w10⟩
   have hm10 : Mem w10 (restOf w0) (Hsq11 ++ (Heq11 ++ (Hrq11 ++ (Hsq7 ++ (Heq7 ++ (Hrq7 ++ (Hs5 ++ ([])))))))) := (by
     have hT := Mem.new (H := Hsq7 ++ (Heq7 ++ (Hrq7 ++ (Hs5 ++ ([]))))) (H' := _) hm6 k_w10
     simp only [List.append_assoc, List.cons_append, List.nil_append, List.append_nil] at hT ⊢
     exact hT)
   have hl12 := map_snd_len hMq11
   refine rw_q rfl (ev_move (v := (Value.tuple #[r1q11, r2q11])) rfl) <| rw_q (v := r1q11) rfl (ev_extract rfl rfl) <| rw_q (v := r2q11) rfl (ev_extract rfl rfl) <| rA rfl (v := r1q11) rfl <| rA rfl (v := r2q11) rfl ?_
   refine rN (cw_seq (sR ?_))
   refine rM rfl s6 <| rw_q (v := (i64 (lsq7.length : Int))) rfl (ev_len_rd (grq7.rd (Mem.pick3 Hsq11 Heq11 Hrq11 Hsq7 _ hm10)) uT69 rfl) <| rM rfl (v := r1q11) rfl <| rw_q (v := (i64 (lsq11.length : Int))) rfl (ev_len_rd (grq11.rd hm10) uT69 rfl) <| rw_q rfl (ev_i64_neq rfl rfl) <| rw_q rfl (ev_move (v := (bl ((lsq7.length : Int) != (lsq11.length : Int)))) rfl) ?_
   have hd13 : ((lsq7.length : Int) != (lsq11.length : Int)) = false := told_ne oM
   refine rw_gyq (s := 38) rfl rfl hd13 rfl (ev_move s7) <| rw_gyq (s := 38) rfl rfl hd13 rfl (ev_move (v := r2q11) rfl) <| rw_gy (s := 38) rfl rfl hd13 rfl (opR_call Try.func38 bd38 nm38 (args2 rfl rfl) (c_same r2q7 r2q11 (restB l) (restB l) _ (gr2q7.rd (Mem.pick5 Hsq11 Heq11 Hrq11 Hsq7 Heq7 Hrq7 _ hm10)) (gr2q11.rd (Mem.pick2 Hsq11 Heq11 Hrq11 _ hm10)) sL)) ?_
   rintro _ w14 ⟨rfl, _ew14⟩
   have hm14 := hm10.ext _ew14
   refine rw_gyq (s := 38) rfl rfl hd13 rfl (ev_not rfl) <| rw_q rfl (ev_pick_fk rfl hd13 rfl) <| rw_q rfl (ev_move (v := (bl (!((restB l) == (restB l))))) rfl) ?_
   have hd16 : ((restB l) == (restB l)) = true := told_true rfl
   have hd17 : (!((restB l) == (restB l))) = false := congrArg Bool.not hd16
   refine rw_gyq (s := 44) rfl rfl hd17 rfl (ev_move s5) <| rw_gy (s := 44) rfl rfl hd17 rfl (opR_call Try.func37 bd37 nm37 (args1 rfl) (c_whole sv5 l _ (g5.rd (Mem.pick6 Hsq11 Heq11 Hrq11 Hsq7 Heq7 Hrq7 Hs5 _ hm14)) sL)) ?_
   rintro rq19 w18 ⟨Hsq19, grq19, k_w18⟩
   have hm18 : Mem w18 (restOf w0) (Hsq19 ++ (Hsq11 ++ (Heq11 ++ (Hrq11 ++ (Hsq7 ++ (Heq7 ++ (Hrq7 ++ (Hs5 ++ ([]))))))))) := Mem.new (H := Hsq11 ++ (Heq11 ++ (Hrq11 ++ (Hsq7 ++ (Heq7 ++ (Hrq7 ++ (Hs5 ++ ([])))))))) (H' := Hsq19) hm14 k_w18
   refine rw_gyq (s := 44) rfl rfl hd17 rfl (ev_move s0) <| rw_gy (s := 44) rfl rfl hd17 rfl (opR_call Try.func41 bd41 nm41 (args1 rfl) (c_rwhole v l _ (Rd.ofRest hr hm18) sL)) ?_
   rintro rq21 w20 ⟨Hsq21, grq21, k_w20⟩
   have hm20 : Mem w20 (restOf w0) (Hsq21 ++ (Hsq19 ++ (Hsq11 ++ (Heq11 ++ (Hrq11 ++ (Hsq7 ++ (Heq7 ++ (Hrq7 ++ (Hs5 ++ ([])))))))))) := Mem.new (H := Hsq19 ++ (Hsq11 ++ (Heq11 ++ (Hrq11 ++ (Hsq7 ++ (Heq7 ++ (Hrq7 ++ (Hs5 ++ ([]))))))))) (H' := Hsq21) hm18 k_w20
   refine rw_gy (s := 44) rfl rfl hd17 rfl (opR_call Try.func38 bd38 nm38 (args2 rfl rfl) (c_same rq19 rq21 (wholeB l) (wholeB l) _ (grq19.rd (Mem.pick Hsq21 Hsq19 _ hm20)) (grq21.rd hm20) sL)) ?_
   rintro _ w22 ⟨rfl, _ew22⟩
   have hm22 := hm20.ext _ew22
   refine rw_gyq (s := 44) rfl rfl hd17 rfl (ev_not rfl) <| rw_q rfl (ev_pick_fk rfl hd17 rfl) <| rN ?_
   have hm24 := Mem.drop Hsq21 _ hm22
   have hm25 := Mem.drop Hsq19 _ hm24
   refine CW.abs (fun g => g 0 = v ∧ g 1 = (i64 n) ∧ g 4 = (bl false) ∧ g 5 = sv5 ∧ g 6 = r1q7 ∧ g 7 = r2q7 ∧ g 8 = r1q11 ∧ g 9 = r2q11 ∧ g 16 = (bl false) ∧ g 19 = (bl (decide (2000 < (l.length : Int)))) ∧ g 51 = (bl (!((wholeB l) == (wholeB l)))) ∧ True) ⟨s0, s1, s4, s5, s6, s7, rfl, rfl, s16, s19, rfl, trivial⟩ ?_
   rintro fr26 ⟨s0, s1, s4, s5, s6, s7, s8, s9, s16, s19, s51, _⟩
   have hd27 : ((wholeB l) == (wholeB l)) = true := told_true rfl
   have hd28 : (!((wholeB l) == (wholeB l))) = false := congrArg Bool.not hd27
   refine cw_cond_f s51 hd28 ?_
   refine cw_skip (kThen_normal (cw_seq (sR ?_)))
   refine rM rfl s6 <| rw_q (v := (i64 (lsq7.length : Int))) rfl (ev_len_rd (grq7.rd (Mem.pick3 Hsq11 Heq11 Hrq11 Hsq7 _ hm25)) uT69 rfl) <| rw_q rfl (ev_move (v := (i64 0)) rfl) ?_
   refine rN (cw_block ?_)
   refine cw_loop (fun g wv => ∃ (k : Nat), (k ≤ (linesB l).length) ∧ g 0 = v ∧ g 1 = (i64 n) ∧ g 5 = sv5 ∧ g 6 = r1q7 ∧ g 7 = r2q7 ∧ g 8 = r1q11 ∧ g 9 = r2q11 ∧ g 16 = (bl false) ∧ g 19 = (bl (decide (2000 < (l.length : Int)))) ∧ g 51 = (bl (!((wholeB l) == (wholeB l)))) ∧ g 53 = (i64 (lsq7.length : Int)) ∧ g 54 = (i64 (k : Int)) ∧ Mem wv (restOf w0) (Hsq11 ++ (Heq11 ++ (Hrq11 ++ (Hsq7 ++ (Heq7 ++ (Hrq7 ++ (Hs5 ++ ([]))))))))) (fun g wv => (((linesB l).length : Int) - RowKit.intOf (g 54)).toNat) ?_ ?_
   · exact ⟨0, (Nat.zero_le _), s0, s1, s5, s6, s7, s8, s9, s16, s19, s51, rfl, rfl, hm25⟩
   · rintro fr29 w30 ⟨k, hk, s0, s1, s5, s6, s7, s8, s9, s16, s19, s51, s53, s54, hm30⟩
     have z54 := s54
     refine sR <| rw_q rfl (ev_i64_lss s54 s53) ?_
     refine rN (cw_seq ?_)
     refine cw_cond rfl (fun hc31 => ?_) (fun hc31 => ?_)
     · -- true
       have hc31p := of_decide_eq_true hc31
       have hel := join_el (L := linesB l) (k := k) oM
       refine cw_skip (kThen_normal (cw_seq (cw_block (sR ?_))))
       refine rM rfl s54 <| rw_q rfl (ev_assign (v := (i64 (k : Int))) rfl) ?_
       refine rN (cw_seq ?_)
       refine cw_draw [(0, false), (1, false), (2, false), (3, false), (4, false), (5, false), (6, false), (7, false)] 8 (by kernel_rfl) <| dM rfl rfl s6 <| dw_q rfl rfl (fun _ _hx => ev_move (v := (i64 (k : Int))) rfl) <| dw_q rfl rfl (fun _ _hx => ev_indexAddr_rdv (grq7.rd (Mem.pick3 Hsq11 Heq11 Hrq11 Hsq7 _ (hm30.ext _hx))) uT69 ti24 rfl rfl oM sL) <| dw_q (v := (slv (lsq7.getD k sl0))) rfl rfl (fun _ _hx => ev_load_rdD (l := lsq7) (i := (k : Int)) (dflt := sl0) (grq7.rd (Mem.pick3 Hsq11 Heq11 Hrq11 Hsq7 _ (hm30.ext _hx))) uT24 rfl oM sL rfl) <| dM rfl rfl s8 ?_
       refine dw_q rfl rfl (fun _ _hx => ev_move (v := (i64 (k : Int))) rfl) <| dw_q rfl rfl (fun _ _hx => ev_indexAddr_rdv (grq11.rd (hm30.ext _hx)) uT69 ti24 rfl rfl oM sL) <| dw_q (v := (slv (lsq11.getD k sl0))) rfl rfl (fun _ _hx => ev_load_rdD (l := lsq11) (i := (k : Int)) (dflt := sl0) (grq11.rd (hm30.ext _hx)) uT24 rfl oM sL rfl) ?_
       refine dw_nil (fun w32 _ew32 => ?_)
       have hm32 := hm30.ext _ew32
       refine rw_c rfl (opR_call Try.func38 bd38 nm38 (args2 rfl rfl) (c_same (slv (lsq7.getD k sl0)) (slv (lsq11.getD k sl0)) ((linesB l).getD k []) ((linesB l).getD k []) _ (ElIn.get (m := blks _) (k := k) hEq7 hMq7 sL (fun q hq => (hm32).own q (List.mem_append_right _ (List.mem_append_right _ (List.mem_append_right _ (List.mem_append_right _ (List.mem_append_left _ hq))))))) (ElIn.get (m := blks _) (k := k) hEq11 hMq11 sL (fun q hq => (hm32).own q (List.mem_append_right _ (List.mem_append_left _ hq)))) sL)) ?_
       rintro _ w33 ⟨rfl, _ew33⟩
       have hm33 := hm32.ext _ew33
       refine rw_q rfl (ev_not rfl) <| rN ?_
       refine CW.abs (fun g => g 0 = v ∧ g 1 = (i64 n) ∧ g 5 = sv5 ∧ g 6 = r1q7 ∧ g 7 = r2q7 ∧ g 8 = r1q11 ∧ g 9 = r2q11 ∧ g 10 = (i64 (k : Int)) ∧ g 16 = (bl false) ∧ g 19 = (bl (decide (2000 < (l.length : Int)))) ∧ g 51 = (bl (!((wholeB l) == (wholeB l)))) ∧ g 53 = (i64 (lsq7.length : Int)) ∧ g 54 = (i64 (k : Int)) ∧ g 55 = (bl (decide ((k : Int) < (lsq7.length : Int)))) ∧ g 66 = (bl (!(((linesB l).getD k []) == ((linesB l).getD k [])))) ∧ True) ⟨s0, s1, s5, s6, s7, s8, s9, rfl, s16, s19, s51, s53, s54, rfl, rfl, trivial⟩ ?_
       rintro fr35 ⟨s0, s1, s5, s6, s7, s8, s9, s10, s16, s19, s51, s53, s54, s55, s66, _⟩
       have hd36 : (((linesB l).getD k []) == ((linesB l).getD k [])) = true := told_true rfl
       have hd37 : (!(((linesB l).getD k []) == ((linesB l).getD k []))) = false := congrArg Bool.not hd36
       refine cw_cond_f s66 hd37 ?_
       refine cw_skip (kBlk_normal (cw_region ?_))
       refine rw_q rfl (ev_i64_add (b := 1) s54 rfl oM oM) <| rw_q rfl (ev_move (v := (i64 ((k : Int) + 1))) rfl) <| rN ?_
       exact ⟨⟨(k + 1), oM, s0, s1, s5, s6, s7, s8, s9, s16, s19, s51, s53, rfl, hm33⟩, meas (rfl) z54 oM oM⟩
     · -- false
       have hc31p := of_decide_eq_false hc31
       refine cw_exit ?_
       refine kThen_exit (kThen_exit (kBlk_hit ?_))
       refine sR <| rM rfl s5 <| rM rfl s1 <| rw_c rfl (opR_call Try.func42 bd42 nm42 (args2 rfl rfl) (c_place sv5 l n _ (g5.rd (Mem.pick6 Hsq11 Heq11 Hrq11 Hsq7 Heq7 Hrq7 Hs5 _ hm30)) sL sL)) ?_
       rintro _ w38 ⟨rfl, _ew38⟩
       have hm38 := hm30.ext _ew38
       refine rM rfl rfl <| rw_q (v := (i64 ((placeB l (min n.toNat l.length)).1 : Int))) rfl (ev_extract rfl rfl) <| rw_q (v := (i64 ((placeB l (min n.toNat l.length)).2 : Int))) rfl (ev_extract rfl rfl) <| rw_q rfl (ev_assign (v := (i64 ((placeB l (min n.toNat l.length)).1 : Int))) rfl) <| rw_q rfl (ev_assign (v := (i64 ((placeB l (min n.toNat l.length)).2 : Int))) rfl) ?_
       refine rN (sR ?_)
       refine rM rfl s0 <| rM rfl s1 <| rw_c rfl (opR_call Try.func43 bd43 nm43 (args2 rfl rfl) (c_rplace v l n _ (Rd.ofRest hr hm38) sL sL)) ?_
       rintro _ w40 ⟨rfl, _ew40⟩
       have hm40 := hm38.ext _ew40
       refine rM rfl rfl <| rw_q (v := (i64 ((placeB l (min n.toNat l.length)).1 : Int))) rfl (ev_extract rfl rfl) <| rw_q (v := (i64 ((placeB l (min n.toNat l.length)).2 : Int))) rfl (ev_extract rfl rfl) <| rw_q rfl (ev_assign (v := (i64 ((placeB l (min n.toNat l.length)).1 : Int))) rfl) <| rw_q rfl (ev_assign (v := (i64 ((placeB l (min n.toNat l.length)).2 : Int))) rfl) <| rN ?_
       refine CW.abs (fun g => g 0 = v ∧ g 1 = (i64 n) ∧ g 5 = sv5 ∧ g 6 = r1q7 ∧ g 7 = r2q7 ∧ g 8 = r1q11 ∧ g 9 = r2q11 ∧ g 11 = (i64 ((placeB l (min n.toNat l.length)).1 : Int)) ∧ g 12 = (i64 ((placeB l (min n.toNat l.length)).2 : Int)) ∧ g 13 = (i64 ((placeB l (min n.toNat l.length)).1 : Int)) ∧ g 14 = (i64 ((placeB l (min n.toNat l.length)).2 : Int)) ∧ g 16 = (bl false) ∧ g 19 = (bl (decide (2000 < (l.length : Int)))) ∧ g 51 = (bl (!((wholeB l) == (wholeB l)))) ∧ g 53 = (i64 (lsq7.length : Int)) ∧ g 54 = (i64 (k : Int)) ∧ g 55 = (bl (decide ((k : Int) < (lsq7.length : Int)))) ∧ True) ⟨s0, s1, s5, s6, s7, s8, s9, rfl, rfl, rfl, rfl, s16, s19, s51, s53, s54, rfl, trivial⟩ ?_
       rintro fr42 ⟨s0, s1, s5, s6, s7, s8, s9, s11, s12, s13, s14, s16, s19, s51, s53, s54, s55, _⟩
       refine sR <| rM rfl s11 <| rM rfl s13 <| rw_q rfl (ev_i64_eql rfl rfl) <| rM rfl rfl ?_
       have hd43 : (((placeB l (min n.toNat l.length)).1 : Int) == ((placeB l (min n.toNat l.length)).1 : Int)) = true := told_true rfl
       refine rw_gyq (s := 83) rfl rfl hd43 rfl (ev_move s12) <| rw_gyq (s := 83) rfl rfl hd43 rfl (ev_move s14) <| rw_gyq (s := 83) rfl rfl hd43 rfl (ev_i64_eql rfl rfl) <| rw_q rfl (ev_pick_tk rfl hd43 rfl) <| rM rfl rfl ?_
       have hd44 : (((placeB l (min n.toNat l.length)).2 : Int) == ((placeB l (min n.toNat l.length)).2 : Int)) = true := told_true rfl
       refine rw_gyq (s := 88) rfl rfl hd44 rfl (ev_move s5) <| rw_gyq (s := 88) rfl rfl hd44 rfl (ev_move s0) <| rw_gy (s := 88) rfl rfl hd44 rfl (opR_call Try.func38 bd38 nm38 (args2 rfl rfl) (c_same sv5 v l l _ (g5.rd (Mem.pick6 Hsq11 Heq11 Hrq11 Hsq7 Heq7 Hrq7 Hs5 _ hm40)) (Rd.ofRest hr hm40) sL)) ?_
       rintro _ w45 ⟨rfl, _ew45⟩
       have hm45 := hm40.ext _ew45
       refine rw_q rfl (ev_pick_tk rfl hd44 rfl) <| rw_q rfl (ev_assign (v := (bl (l == l))) rfl) <| rN ?_
       refine CW.abs (fun g => g 0 = v ∧ g 1 = (i64 n) ∧ g 4 = (bl (l == l)) ∧ g 5 = sv5 ∧ g 6 = r1q7 ∧ g 7 = r2q7 ∧ g 8 = r1q11 ∧ g 9 = r2q11 ∧ g 11 = (i64 ((placeB l (min n.toNat l.length)).1 : Int)) ∧ g 12 = (i64 ((placeB l (min n.toNat l.length)).2 : Int)) ∧ g 13 = (i64 ((placeB l (min n.toNat l.length)).1 : Int)) ∧ g 14 = (i64 ((placeB l (min n.toNat l.length)).2 : Int)) ∧ g 16 = (bl false) ∧ g 19 = (bl (decide (2000 < (l.length : Int)))) ∧ g 51 = (bl (!((wholeB l) == (wholeB l)))) ∧ g 53 = (i64 (lsq7.length : Int)) ∧ g 54 = (i64 (k : Int)) ∧ g 55 = (bl (decide ((k : Int) < (lsq7.length : Int)))) ∧ True) ⟨s0, s1, rfl, s5, s6, s7, s8, s9, s11, s12, s13, s14, s16, s19, s51, s53, s54, s55, trivial⟩ ?_
       rintro fr47 ⟨s0, s1, s4, s5, s6, s7, s8, s9, s11, s12, s13, s14, s16, s19, s51, s53, s54, s55, _⟩
       refine cw_ret <| fnPost_ret [(bl (l == l))] ⟨s4, trivial⟩ ?_
       have hd48 : (l == l) = true := told_true rfl
       exact ⟨congrArg bl hd48, Mem.below w0 hm45⟩

set_option maxHeartbeats 1000000 in
theorem law_ljoins (v : Value) (l : List (BitVec 8)) (n : Int) (w0 : World)  (hT : Tabs (blks w0)) (hr : Rd (blks w0) u8 v l) (hb : l.length ≤ 9223372036854775807) (hcap : capOk v) (hn : -9223372036854775808 ≤ n ∧ n ≤ 9223372036854775807) : CallsR Try.prog 11 #[v, (i64 n)] w0 (fun r w1 => r = bl true ∧ RowKit.Below w0.heap.size w0 w1) := by
 refine callsR_of_cw (args := [v, (i64 n)]) Try.func11 rfl Try.ntmps11 Try.results11 rfl ?_
 have hm0 : Mem w0 (restOf w0) [] := Mem.of_world w0
 have hrl := restB_len l; have hnl := lines_num l
 refine sR <| rw_q rfl (ev_assign (v := (bl false)) rfl) ?_
 refine rN (cw_seq (sR ?_))
 refine rw_c rfl (opR_call Try.func36 bd36 nm36 (args0) (c_speaks8 _ (hT.mono fun b o e => (hm0).rest b o e))) ?_
 rintro _ w1 ⟨rfl, _ew1⟩
 have hm1 := hm0.ext _ew1
 refine rw_q (v := (bl false)) rfl (ev_not (b := true) rfl) <| rN <| cw_cond_f rfl (by decide) ?_
 refine cw_skip (kThen_normal (cw_seq (sR ?_)))
 refine rM rfl (v := v) rfl <| rw_q (v := (i64 (l.length : Int))) rfl (ev_len_rd (Rd.ofRest hr hm1) uT24 rfl) <| rw_q rfl (ev_i64_gtr (b := 2000) rfl rfl) <| rN ?_
 refine cw_cond rfl (fun hc3 => ?_) (fun hc3 => ?_)
 · -- true
   have hc3p := of_decide_eq_true hc3
   refine sR <| rw_q rfl (ev_assign (v := (bl true)) rfl) ?_
   refine rN (cw_ret (kThen_ret ?_))
   refine fnPost_ret [(bl true)] ⟨rfl, trivial⟩ ?_
   exact ⟨rfl, Mem.below w0 hm1⟩
 · -- false
   have hc3p := of_decide_eq_false hc3
   refine cw_skip (kThen_normal (sR ?_))
   refine rM rfl (v := v) rfl <| rw_c rfl (opR_call Try.func39 bd39 nm39 (args1 rfl) (c_split v l _ (hT.mono fun b o e => (hm1).rest b o e) (Rd.ofRest hr hm1) hcap sL)) ?_
   rintro _ w4 ⟨lsq5, r1q5, r2q5, Hsq5, Heq5, Hrq5, rfl, hMq5, grq5, hEq5, gr2q5, k_w4⟩
   have hm4 : Mem w4 (restOf w0) (Hsq5 ++ (Heq5 ++ (Hrq5 ++ ([])))) := (by
     have hT := Mem.new (H := []) (H' := _) hm1 k_w4
     simp only [List.append_assoc, List.cons_append, List.nil_append, List.append_nil] at hT ⊢
     exact hT)
   have hl6 := map_snd_len hMq5
   refine rw_q rfl (ev_move (v := (Value.tuple #[r1q5, r2q5])) rfl) <| rw_q (v := r1q5) rfl (ev_extract rfl rfl) <| rw_q (v := r2q5) rfl (ev_extract rfl rfl) <| rA rfl (v := r1q5) rfl <| rA rfl (v := r2q5) rfl <| rN ?_
   refine CW.abs (fun g => g 0 = v ∧ g 1 = (i64 n) ∧ g 4 = (bl false) ∧ g 5 = r1q5 ∧ g 6 = r2q5 ∧ g 17 = (bl false) ∧ g 20 = (bl (decide (2000 < (l.length : Int)))) ∧ True) ⟨rfl, rfl, rfl, rfl, rfl, rfl, rfl, trivial⟩ ?_
   rintro fr7 ⟨s0, s1, s4, s5, s6, s17, s20, _⟩
   refine sR <| rw_c rfl (or_buildSlice_cl u8 [] u8_one hm4 uT24 ti5 rfl (by simp [pairs]) rfl) ?_
   rintro _ w8 ⟨b26, rfl, _ew8, hm8⟩
   refine rw_q rfl (ev_assign (v := (slc b26 0 0 0)) rfl) ?_
   refine rN (cw_seq (sR ?_))
   refine rM rfl s5 <| rw_q (v := (i64 (lsq5.length : Int))) rfl (ev_len_rd (grq5.rd (Mem.pick [_] Hsq5 _ hm8)) uT69 rfl) <| rw_q rfl (ev_move (v := (i64 0)) rfl) ?_
   refine rN (cw_block ?_)
   refine cw_loop (fun g wv => ∃ (k : Nat) (v7 : Value) (Ha : List (Nat × Obj)), (k ≤ (linesB l).length) ∧ (Grow u8 5 v7 (joinL ((linesB l).take k)) Ha) ∧ g 0 = v ∧ g 1 = (i64 n) ∧ g 4 = (bl false) ∧ g 5 = r1q5 ∧ g 6 = r2q5 ∧ g 7 = v7 ∧ g 17 = (bl false) ∧ g 20 = (bl (decide (2000 < (l.length : Int)))) ∧ g 27 = r1q5 ∧ g 28 = (i64 (lsq5.length : Int)) ∧ g 29 = (i64 (k : Int)) ∧ Mem wv (restOf w0) (Hsq5 ++ (Heq5 ++ (Hrq5 ++ (Ha ++ ([])))))) (fun g wv => (((linesB l).length : Int) - RowKit.intOf (g 29)).toNat) ?_ ?_
   have hm9 := (Mem.pick3 [_] Hsq5 Heq5 Hrq5 _ hm8)
   have hm10 := (Mem.pick3 Hrq5 [_] Hsq5 Heq5 _ hm9)
   have hm11 := (Mem.pick3 Heq5 Hrq5 [_] Hsq5 _ hm10)
   · exact ⟨0, (slc b26 0 0 0), [(b26, .cells (cl u8 ([])) 5 (0, 0))], (Nat.zero_le _), (Grow.cast (Grow.of u8 5 b26 []) (join_nil_take _)), s0, s1, s4, s5, s6, rfl, s17, s20, rfl, rfl, rfl, (by
     have hT := hm11
     simp only [List.append_assoc, List.cons_append, List.nil_append, List.append_nil] at hT ⊢
     exact hT)⟩
   · rintro fr12 w13 ⟨k, v7, Ha, hk, hg, s0, s1, s4, s5, s6, s7, s17, s20, s27, s28, s29, hm13⟩
     have z7 := s7
     have z29 := s29
     refine sR <| rw_q rfl (ev_i64_lss s29 s28) ?_
     refine rN (cw_seq ?_)
     refine cw_cond rfl (fun hc14 => ?_) (fun hc14 => ?_)
     · -- true
       have hc14p := of_decide_eq_true hc14
       have hel := join_el (L := linesB l) (k := k) oM
       refine cw_skip (kThen_normal (cw_seq (cw_block (sR ?_))))
       refine rw_q rfl (ev_indexAddr_rdv (grq5.rd hm13) uT69 ti24 s27 s29 oM sL) <| rw_q (v := (slv (lsq5.getD k sl0))) rfl (ev_load_rdD (l := lsq5) (i := (k : Int)) (dflt := sl0) (grq5.rd hm13) uT24 rfl oM sL rfl) <| rw_q rfl (ev_assign (v := (slv (lsq5.getD k sl0))) rfl) ?_
       refine rN (cw_region ?_)
       refine rM rfl s7 <| rw_q rfl (ev_move (v := (slv (lsq5.getD k sl0))) rfl) <| rw_c rfl (or_append (f := u8) (Hs := Ha) (H := Hsq5 ++ (Heq5 ++ (Hrq5 ++ ([])))) (Mem.pick3 Hsq5 Heq5 Hrq5 Ha _ hm13) hg rfl rfl (ElIn.get (m := blks _) (k := k) hEq5 hMq5 sL (fun q hq => (hm13).own q (List.mem_append_right _ (List.mem_append_left _ hq)))) uT24 uT24 ti5 rfl u8_one sL sL) ?_
       rintro sv15 w15 ⟨Hs15, hm15, g15⟩
       replace g15 : Grow u8 5 sv15 ((joinL ((linesB l).take k)) ++ ((linesB l).getD k [])) Hs15 := g15
       refine rw_c rfl (or_appendS (f := u8) (ms := [13#8, 10#8]) (Hs := Hs15) (H := Hsq5 ++ (Heq5 ++ (Hrq5 ++ ([])))) hm15 g15 rfl rfl (fun w => str_run w) uT24 uT9 ti5 rfl u8_one sL sL) ?_
       rintro sv16 w16 ⟨Hs16, hm16, g16⟩
       replace g16 : Grow u8 5 sv16 (((joinL ((linesB l).take k)) ++ ((linesB l).getD k [])) ++ ([13#8, 10#8])) Hs16 := g16
       refine rA rfl (v := sv16) rfl ?_
       refine rw_nil (kBlk_normal (cw_region ?_))
       refine rw_q rfl (ev_i64_add (b := 1) s29 rfl oM oM) <| rw_q rfl (ev_move (v := (i64 ((k : Int) + 1))) rfl) <| rN ?_
       have hm17 := (Mem.pick3 Hs16 Hsq5 Heq5 Hrq5 _ hm16)
       have hm18 := (Mem.pick3 Hrq5 Hs16 Hsq5 Heq5 _ hm17)
       have hm19 := (Mem.pick3 Heq5 Hrq5 Hs16 Hsq5 _ hm18)
       exact ⟨⟨(k + 1), sv16, Hs16, oM, (Grow.cast g16 (join_take_succ oM).symm), s0, s1, s4, s5, s6, rfl, s17, s20, s27, s28, rfl, hm19⟩, meas rfl z29 oM oM⟩
     · -- false
       have hc14p := of_decide_eq_false hc14
       replace hg : Grow u8 5 v7 (joinL (linesB l)) Ha := Grow.cast hg (by rw [List.take_of_length_le oM])
       refine cw_exit ?_
       refine kThen_exit (kThen_exit (kBlk_hit ?_))
       refine cw_seq (sR ?_)
       refine rM rfl s7 <| rM rfl s6 <| rw_c rfl (or_append (f := u8) (Hs := Ha) (H := Hsq5 ++ (Heq5 ++ (Hrq5 ++ ([])))) (Mem.pick3 Hsq5 Heq5 Hrq5 Ha _ hm13) hg rfl rfl (gr2q5.rd (Mem.pick2 Hsq5 Heq5 Hrq5 _ hm13)) uT24 uT24 ti5 rfl u8_one sL sL) ?_
       rintro sv20 w20 ⟨Hs20, hm20, g20⟩
       replace g20 : Grow u8 5 sv20 ((joinL (linesB l)) ++ (restB l)) Hs20 := g20
       refine rM rfl s0 <| rw_c rfl (opR_call Try.func38 bd38 nm38 (args2 rfl rfl) (c_same sv20 v ((joinL (linesB l)) ++ (restB l)) l _ (g20.rd hm20) (Rd.ofRest hr hm20) sL)) ?_
       rintro _ w21 ⟨rfl, _ew21⟩
       have hm21 := hm20.ext _ew21
       refine rw_q rfl (ev_not rfl) <| rN ?_
       have hd23 : (((joinL (linesB l)) ++ (restB l)) == l) = true := told_true (lines_join l)
       have hd24 : (!(((joinL (linesB l)) ++ (restB l)) == l)) = false := congrArg Bool.not hd23
       refine cw_cond_f rfl hd24 ?_
       refine cw_skip (kThen_normal (sR ?_))
       refine rM rfl s1 <| rM rfl s0 <| rw_q (v := (i64 (l.length : Int))) rfl (ev_len_rd (Rd.ofRest hr hm21) uT24 rfl) <| rw_q (v := (i64 (if (l.length : Int) < n then (l.length : Int) else n))) rfl (ev_min_i64 rfl rfl) <| rw_q (v := (i64 (((min n.toNat l.length) : Nat) : Int))) rfl (EvQ.cast (congrArg i64 (by split <;> split <;> omega)) (ev_max_i64 (j := 0) rfl rfl)) <| rw_q rfl (ev_assign (v := (i64 (((min n.toNat l.length) : Nat) : Int))) rfl) ?_
       refine rN ?_
       have hm25 := Mem.drop Hs20 _ hm21
       refine CW.abs (fun g => g 0 = v ∧ g 1 = (i64 n) ∧ g 4 = (bl false) ∧ g 5 = r1q5 ∧ g 6 = r2q5 ∧ g 7 = v7 ∧ g 10 = (i64 (((min n.toNat l.length) : Nat) : Int)) ∧ g 17 = (bl false) ∧ g 20 = (bl (decide (2000 < (l.length : Int)))) ∧ g 27 = r1q5 ∧ g 28 = (i64 (lsq5.length : Int)) ∧ g 29 = (i64 (k : Int)) ∧ g 30 = (bl (decide ((k : Int) < (lsq5.length : Int)))) ∧ g 43 = (bl (!(((joinL (linesB l)) ++ (restB l)) == l))) ∧ True) ⟨s0, s1, s4, s5, s6, s7, rfl, s17, s20, s27, s28, s29, rfl, rfl, trivial⟩ ?_
       rintro fr26 ⟨s0, s1, s4, s5, s6, s7, s10, s17, s20, s27, s28, s29, s30, s43, _⟩
       refine sR <| rM rfl s0 <| rM rfl s1 <| rw_c rfl (opR_call Try.func42 bd42 nm42 (args2 rfl rfl) (c_place v l n _ (Rd.ofRest hr hm25) sL sL)) ?_
       rintro _ w27 ⟨rfl, _ew27⟩
       have hm27 := hm25.ext _ew27
       refine rM rfl rfl <| rw_q (v := (i64 ((placeB l (min n.toNat l.length)).1 : Int))) rfl (ev_extract rfl rfl) <| rw_q (v := (i64 ((placeB l (min n.toNat l.length)).2 : Int))) rfl (ev_extract rfl rfl) <| rw_q rfl (ev_assign (v := (i64 ((placeB l (min n.toNat l.length)).1 : Int))) rfl) <| rw_q rfl (ev_assign (v := (i64 ((placeB l (min n.toNat l.length)).2 : Int))) rfl) ?_
       refine rN (sR ?_)
       refine rw_q rfl (ev_assign (v := (i64 0)) rfl) <| rw_q rfl (ev_assign (v := (i64 0)) rfl) ?_
       refine rN (cw_seq (sR ?_))
       refine rw_q rfl (ev_assign (v := (i64 0)) rfl) ?_
       refine rN (cw_block ?_)
       refine cw_loop (fun g wv => ∃ (k2 : Nat), (k2 ≤ (min n.toNat l.length)) ∧ g 0 = v ∧ g 1 = (i64 n) ∧ g 4 = (bl false) ∧ g 5 = r1q5 ∧ g 6 = r2q5 ∧ g 7 = v7 ∧ g 10 = (i64 (((min n.toNat l.length) : Nat) : Int)) ∧ g 11 = (i64 ((placeB l (min n.toNat l.length)).1 : Int)) ∧ g 12 = (i64 ((placeB l (min n.toNat l.length)).2 : Int)) ∧ g 13 = (i64 (((placeB l k2).1 : Nat) : Int)) ∧ g 14 = (i64 ((k2 : Int) - (((placeB l k2).2 : Nat) : Int))) ∧ g 15 = (i64 (k2 : Int)) ∧ g 17 = (bl false) ∧ g 20 = (bl (decide (2000 < (l.length : Int)))) ∧ g 27 = r1q5 ∧ g 28 = (i64 (lsq5.length : Int)) ∧ g 29 = (i64 (k : Int)) ∧ g 30 = (bl (decide ((k : Int) < (lsq5.length : Int)))) ∧ g 43 = (bl (!(((joinL (linesB l)) ++ (restB l)) == l))) ∧ Mem wv (restOf w0) (Hsq5 ++ (Heq5 ++ (Hrq5 ++ ([]))))) (fun g wv => (((min n.toNat l.length) : Int) - RowKit.intOf (g 15)).toNat) ?_ ?_
       · exact ⟨0, (Nat.zero_le _), s0, s1, s4, s5, s6, s7, s10, rfl, rfl, (by rw [place_0]; rfl), (by rw [place_0]; rfl), rfl, s17, s20, s27, s28, s29, s30, s43, hm27⟩
       · rintro fr29 w30 ⟨k2, hk2, s0, s1, s4, s5, s6, s7, s10, s11, s12, s13, s14, s15, s17, s20, s27, s28, s29, s30, s43, hm30⟩
         have z13 := s13
         have z14 := s14
         have z15 := s15
         have hpl := place_le l k2
         refine cw_seq (sR ?_)
         refine rM rfl s15 <| rM rfl s10 <| rw_q rfl (ev_i64_lss rfl rfl) <| rN ?_
         refine cw_cond rfl (fun hc31 => ?_) (fun hc31 => ?_)
         · -- true
           have hc31p := of_decide_eq_true hc31
           refine cw_skip (kThen_normal (cw_seq (cw_block (sR ?_))))
           refine rM rfl s0 <| rM rfl s15 <| rw_q rfl (ev_indexAddr_rdv (Rd.ofRest hr hm30) uT24 ti5 rfl rfl oM sL) <| rw_q (v := (u8 (l.getD k2 0))) rfl (ev_load_rdD (l := l) (i := (k2 : Int)) (dflt := 0) (Rd.ofRest hr hm30) uT5 rfl oM sL rfl) <| rw_q rfl (ev_u8_eql (b := 10#8) rfl rfl) <| rN ?_
           refine cw_cond rfl (fun hc32 => ?_) (fun hc32 => ?_)
           · -- true
             have hc32p := eq_of_beq hc32
             refine sR <| rM rfl s13 <| rw_q rfl (ev_i64_add (b := 1) rfl rfl oM oM) <| rw_q rfl (ev_assign (v := (i64 ((((placeB l k2).1 : Nat) : Int) + 1))) rfl) ?_
             refine rN (cw_region ?_)
             refine rM rfl s15 <| rw_q rfl (ev_i64_add (b := 1) rfl rfl oM oM) <| rw_q rfl (ev_assign (v := (i64 ((k2 : Int) + 1))) rfl) ?_
             refine rw_nil (kBlk_normal ?_)
             refine CW.abs (fun g => g 0 = v ∧ g 1 = (i64 n) ∧ g 4 = (bl false) ∧ g 5 = r1q5 ∧ g 6 = r2q5 ∧ g 7 = v7 ∧ g 10 = (i64 (((min n.toNat l.length) : Nat) : Int)) ∧ g 11 = (i64 ((placeB l (min n.toNat l.length)).1 : Int)) ∧ g 12 = (i64 ((placeB l (min n.toNat l.length)).2 : Int)) ∧ g 13 = (i64 ((((placeB l k2).1 : Nat) : Int) + 1)) ∧ g 14 = (i64 ((k2 : Int) + 1)) ∧ g 15 = (i64 (k2 : Int)) ∧ g 17 = (bl false) ∧ g 20 = (bl (decide (2000 < (l.length : Int)))) ∧ g 27 = r1q5 ∧ g 28 = (i64 (lsq5.length : Int)) ∧ g 29 = (i64 (k : Int)) ∧ g 30 = (bl (decide ((k : Int) < (lsq5.length : Int)))) ∧ g 43 = (bl (!(((joinL (linesB l)) ++ (restB l)) == l))) ∧ g 57 = (bl (decide ((k2 : Int) < (((min n.toNat l.length) : Nat) : Int)))) ∧ g 64 = (bl ((l.getD k2 0) == 10#8)) ∧ True) ⟨s0, s1, s4, s5, s6, s7, s10, s11, s12, rfl, rfl, s15, s17, s20, s27, s28, s29, s30, s43, rfl, rfl, trivial⟩ ?_
             rintro fr33 ⟨s0, s1, s4, s5, s6, s7, s10, s11, s12, s13, s14, s15, s17, s20, s27, s28, s29, s30, s43, s57, s64, _⟩
             refine cw_region <| rM rfl s15 <| rw_q rfl (ev_i64_add (b := 1) rfl rfl oM oM) <| rw_q rfl (ev_assign (v := (i64 ((k2 : Int) + 1))) rfl) <| rN ?_
             have e1 : i64 ((((placeB l k2).1 : Nat) : Int) + 1) = i64 (((placeB l (k2 + 1)).1 : Nat) : Int) := by rw [place_lf oM hc32p]; rfl
             have e2 : i64 ((k2 : Int) + 1) = i64 (((k2 + 1 : Nat) : Int) - (((placeB l (k2 + 1)).2 : Nat) : Int)) := by rw [place_lf oM hc32p]; exact congrArg i64 oM
             exact ⟨⟨(k2 + 1), oM, s0, s1, s4, s5, s6, s7, s10, s11, s12, (Eq.trans s13 e1), (Eq.trans s14 e2), rfl, s17, s20, s27, s28, s29, s30, s43, hm30⟩, meas (rfl) z15 oM oM⟩
           · -- false
             have hc32p := ne_of_beq_false hc32
             refine cw_skip (kBlk_normal (cw_region ?_))
             refine rM rfl s15 <| rw_q rfl (ev_i64_add (b := 1) rfl rfl oM oM) <| rw_q rfl (ev_assign (v := (i64 ((k2 : Int) + 1))) rfl) <| rN ?_
             have e1 : i64 ((((placeB l k2).1 : Nat) : Int)) = i64 (((placeB l (k2 + 1)).1 : Nat) : Int) := by rw [place_on oM hc32p]
             have e2 : i64 ((k2 : Int) - (((placeB l k2).2 : Nat) : Int)) = i64 (((k2 + 1 : Nat) : Int) - (((placeB l (k2 + 1)).2 : Nat) : Int)) := by rw [place_on oM hc32p]; exact congrArg i64 oM
             exact ⟨⟨(k2 + 1), oM, s0, s1, s4, s5, s6, s7, s10, s11, s12, (Eq.trans s13 e1), (Eq.trans s14 e2), rfl, s17, s20, s27, s28, s29, s30, s43, hm30⟩, meas (rfl) z15 oM oM⟩
         · -- false
           have hc31p := of_decide_eq_false hc31
           have hkM : k2 = (min n.toNat l.length) := by omega
           refine cw_exit ?_
           refine kThen_exit (kThen_exit (kBlk_hit ?_))
           refine sR <| rM rfl s11 <| rM rfl s13 <| rw_q rfl (ev_i64_eql rfl rfl) <| rM rfl rfl ?_
           have hd34 : (((placeB l (min n.toNat l.length)).1 : Int) == (((placeB l k2).1 : Nat) : Int)) = true := told_true (by rw [hkM])
           refine rw_gyq (s := 72) rfl rfl hd34 rfl (ev_move s12) <| rw_gyq (s := 72) rfl rfl hd34 rfl (ev_move s10) <| rw_gyq (s := 72) rfl rfl hd34 rfl (ev_move s14) <| rw_gyq (s := 72) rfl rfl hd34 rfl (ev_i64_sub rfl rfl oM oM) <| rw_gyq (s := 72) rfl rfl hd34 rfl (ev_i64_eql rfl rfl) <| rw_q rfl (ev_pick_tk rfl hd34 rfl) ?_
           refine rA rfl rfl <| rN ?_
           refine CW.abs (fun g => g 0 = v ∧ g 1 = (i64 n) ∧ g 4 = (bl (((placeB l (min n.toNat l.length)).2 : Int) == ((((min n.toNat l.length) : Nat) : Int) - ((k2 : Int) - (((placeB l k2).2 : Nat) : Int))))) ∧ g 5 = r1q5 ∧ g 6 = r2q5 ∧ g 7 = v7 ∧ g 10 = (i64 (((min n.toNat l.length) : Nat) : Int)) ∧ g 11 = (i64 ((placeB l (min n.toNat l.length)).1 : Int)) ∧ g 12 = (i64 ((placeB l (min n.toNat l.length)).2 : Int)) ∧ g 13 = (i64 (((placeB l k2).1 : Nat) : Int)) ∧ g 14 = (i64 ((k2 : Int) - (((placeB l k2).2 : Nat) : Int))) ∧ g 15 = (i64 (k2 : Int)) ∧ g 17 = (bl false) ∧ g 20 = (bl (decide (2000 < (l.length : Int)))) ∧ g 27 = r1q5 ∧ g 28 = (i64 (lsq5.length : Int)) ∧ g 29 = (i64 (k : Int)) ∧ g 30 = (bl (decide ((k : Int) < (lsq5.length : Int)))) ∧ g 43 = (bl (!(((joinL (linesB l)) ++ (restB l)) == l))) ∧ g 57 = (bl (decide ((k2 : Int) < (((min n.toNat l.length) : Nat) : Int)))) ∧ True) ⟨s0, s1, rfl, s5, s6, s7, s10, s11, s12, s13, s14, s15, s17, s20, s27, s28, s29, s30, s43, rfl, trivial⟩ ?_
           rintro fr35 ⟨s0, s1, s4, s5, s6, s7, s10, s11, s12, s13, s14, s15, s17, s20, s27, s28, s29, s30, s43, s57, _⟩
           refine cw_ret <| fnPost_ret [(bl (((placeB l (min n.toNat l.length)).2 : Int) == ((((min n.toNat l.length) : Nat) : Int) - ((k2 : Int) - (((placeB l k2).2 : Nat) : Int)))))] ⟨s4, trivial⟩ ?_
           have hd36 : (((placeB l (min n.toNat l.length)).2 : Int) == ((((min n.toNat l.length) : Nat) : Int) - ((k2 : Int) - (((placeB l k2).2 : Nat) : Int)))) = true := told_true (by rw [hkM]; omega)
           exact ⟨congrArg bl hd36, Mem.below w0 hm30⟩


end Go.Proofs.Ytfmjfojhcmmgcaa
