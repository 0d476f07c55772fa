/- Contracts: whole lines' ends. Conditions: none beyond those that each theorem states. -/
import Derived.Test.YtfmjfojhcmmgcaaTab
import Derived.Test.YtfmjfojhcmmgcaaLc1
namespace Go.Proofs.Ytfmjfojhcmmgcaa
set_option linter.unusedVariables false
set_option linter.unusedSimpArgs false
attribute [local irreducible] wholeB

theorem same_len {la lb : List (BitVec 8)} (h : (la.length : Int) ≠ (lb.length : Int)) : false = (la == lb) := by
  symm; rw [beq_eq_false_iff_ne]; rintro rfl; exact h rfl
theorem same_at {la lb : List (BitVec 8)} {k : Nat} (h : la.getD k 0 ≠ lb.getD k 0) : false = (la == lb) := by
  symm; rw [beq_eq_false_iff_ne]; rintro rfl; exact h rfl
theorem same_all {la lb : List (BitVec 8)} (h : (la.length : Int) = (lb.length : Int)) (hall : ∀ j, j < la.length → la.getD j 0 = lb.getD j 0) : true = (la == lb) := by
  symm; rw [beq_iff_eq]
  refine List.ext_getElem oM fun i h1 h2 => ?_
  have := hall i h1
  simpa [List.getD_eq_getElem?_getD, h1, h2] using this
theorem same_step {la lb : List (BitVec 8)} {k : Nat} (heq : ∀ j, j < k → la.getD j 0 = lb.getD j 0) (h : la.getD k 0 = lb.getD k 0) : ∀ j, j < k + 1 → la.getD j 0 = lb.getD j 0 := by
  intro j hj
  rcases Nat.lt_or_ge j k with h1 | h1
  · exact heq j h1
  · have : j = k := by omega
    subst this; exact h

theorem c_same (va vb : Value) (la lb : List (BitVec 8)) (w0 : World)  (hra : Rd (blks w0) u8 va la) (hrb : Rd (blks w0) u8 vb lb) (hla : la.length ≤ 281474976710656) : CallsR Try.prog 38 #[va, vb] w0 (fun r w1 => r = (bl (la == lb)) ∧ Ext w0 w1) := by
 refine callsR_of_cw (args := [va, vb]) Try.func38 rfl Try.ntmps38 Try.results38 rfl ?_
 have hm0 : Mem w0 (restOf w0) [] := Mem.of_world w0
 refine sR <| rw_q rfl (ev_assign (v := (bl false)) rfl) ?_
 refine rN (cw_seq (sR ?_))
 refine rM rfl (v := va) rfl <| rw_q (v := (i64 (la.length : Int))) rfl (ev_len_rd (Rd.ofRest hra hm0) uT24 rfl) <| rM rfl (v := vb) rfl <| rw_q (v := (i64 (lb.length : Int))) rfl (ev_len_rd (Rd.ofRest hrb hm0) uT24 rfl) <| rw_q rfl (ev_i64_neq rfl rfl) <| rN ?_
 refine cw_cond rfl (fun hc1 => ?_) (fun hc1 => ?_)
 · -- true
   have hc1p := bne_iff_ne.1 hc1
   refine sR <| rw_q rfl (ev_assign (v := (bl false)) rfl) ?_
   refine rN (cw_ret (kThen_ret ?_))
   refine fnPost_ret [(bl false)] ⟨rfl, trivial⟩ ?_
   exact ⟨congrArg bl (same_len hc1p), hm0.toExt⟩
 · -- false
   have hc1p := eq_of_bne_false hc1
   refine cw_skip (kThen_normal (cw_seq (sR ?_)))
   refine rw_q rfl (ev_assign (v := (i64 0)) rfl) ?_
   refine rN (cw_block ?_)
   refine cw_loop (fun g wv => ∃ (k : Nat), (k ≤ la.length) ∧ (∀ j, j < k → la.getD j 0 = lb.getD j 0) ∧ g 0 = va ∧ g 1 = vb ∧ g 5 = (i64 (k : Int)) ∧ g 10 = (bl ((la.length : Int) != (lb.length : Int))) ∧ Mem wv (restOf w0) []) (fun g wv => ((la.length : Int) - RowKit.intOf (g 5)).toNat) ?_ ?_
   · exact ⟨0, oM, (by intro j hj; omega), rfl, rfl, rfl, rfl, hm0⟩
   · rintro fr2 w3 ⟨k, hk, heq, s0, s1, s5, s10, hm3⟩
     have z5 := s5
     refine cw_seq (sR ?_)
     refine rM rfl s5 <| rM rfl s0 <| rw_q (v := (i64 (la.length : Int))) rfl (ev_len_rd (Rd.ofRest hra hm3) uT24 rfl) <| rw_q rfl (ev_i64_lss rfl rfl) <| rN ?_
     refine cw_cond rfl (fun hc4 => ?_) (fun hc4 => ?_)
     · -- true
       have hc4p := of_decide_eq_true hc4
       refine cw_skip (kThen_normal (cw_seq (cw_block (cw_seq ?_))))
       refine cw_draw [(0, false), (1, false), (2, false), (3, false), (4, false), (5, false), (6, false), (7, false)] 8 (by kernel_rfl) <| dM rfl rfl s0 <| dM rfl rfl s5 <| dw_q rfl rfl (fun _ _hx => ev_indexAddr_rdv (Rd.ofRest hra (hm3.ext _hx)) uT24 ti5 rfl rfl oM sD) <| dw_q (v := (u8 (la.getD k 0))) rfl rfl (fun _ _hx => ev_load_rdD (l := la) (i := (k : Int)) (dflt := 0) (Rd.ofRest hra (hm3.ext _hx)) uT5 rfl oM sD rfl) <| dM rfl rfl s1 ?_
       refine dM rfl rfl s5 <| dw_q rfl rfl (fun _ _hx => ev_indexAddr_rdv (Rd.ofRest hrb (hm3.ext _hx)) uT24 ti5 rfl rfl oM sD) <| dw_q (v := (u8 (lb.getD k 0))) rfl rfl (fun _ _hx => ev_load_rdD (l := lb) (i := (k : Int)) (dflt := 0) (Rd.ofRest hrb (hm3.ext _hx)) uT5 rfl oM sD rfl) ?_
       refine dw_nil (fun w5 _ew5 => ?_)
       have hm5 := hm3.ext _ew5
       refine rw_q rfl (ev_u8_neq rfl rfl) <| rN ?_
       refine CW.abs (fun g => g 0 = va ∧ g 1 = vb ∧ g 5 = (i64 (k : Int)) ∧ g 10 = (bl ((la.length : Int) != (lb.length : Int))) ∧ g 14 = (bl (decide ((k : Int) < (la.length : Int)))) ∧ g 25 = (bl ((la.getD k 0) != (lb.getD k 0))) ∧ True) ⟨s0, s1, s5, s10, rfl, rfl, trivial⟩ ?_
       rintro fr6 ⟨s0, s1, s5, s10, s14, s25, _⟩
       refine cw_cond s25 (fun hc7 => ?_) (fun hc7 => ?_)
       · -- true
         have hc7p := bne_iff_ne.1 hc7
         refine sR <| rw_q rfl (ev_assign (v := (bl false)) rfl) ?_
         refine rN (cw_ret ?_)
         refine kBlk_ret (kThen_ret (kBlk_ret ?_))
         refine fnPost_ret [(bl false)] ⟨rfl, trivial⟩ ?_
         exact ⟨congrArg bl (same_at hc7p), hm5.toExt⟩
       · -- false
         have hc7p := eq_of_bne_false hc7
         refine cw_skip (kBlk_normal (cw_region ?_))
         refine rM rfl s5 <| rw_q rfl (ev_i64_add (b := 1) rfl rfl oM oM) <| rw_q rfl (ev_assign (v := (i64 ((k : Int) + 1))) rfl) <| rN ?_
         exact ⟨⟨k + 1, oM, (same_step heq hc7p), s0, s1, rfl, s10, hm5⟩, meas rfl z5 oM oM⟩
     · -- false
       have hc4p := of_decide_eq_false hc4
       refine cw_exit ?_
       refine kThen_exit (kThen_exit (kBlk_hit ?_))
       refine sR <| rw_q rfl (ev_assign (v := (bl true)) rfl) ?_
       refine rN (cw_ret ?_)
       refine fnPost_ret [(bl true)] ⟨rfl, trivial⟩ ?_
       exact ⟨congrArg bl (same_all hc1p (fun j hj => heq j oM)), hm3.toExt⟩

theorem c_clone (v : Value) (l : List (BitVec 8)) (w0 : World)  (hr : Rd (blks w0) u8 v l) (hl : l.length ≤ 35184372088832) : CallsR Try.prog 57 #[v] w0 (fun r w1 => ∃ Hs, Grow u8 5 r l Hs ∧ Mem w1 (restOf w0) Hs) := by
 refine callsR_of_cw (args := [v]) Try.func57 rfl Try.ntmps57 Try.results57 rfl ?_
 have hm0 : Mem w0 (restOf w0) [] := Mem.of_world w0
 have hr0 := hr
 obtain ⟨a, cap, rfl, hle, hce⟩ := hr.is
 refine sR <| rw_q rfl (ev_assign (v := (Value.slice none 0 0)) rfl) ?_
 refine rN (cw_seq (sR ?_))
 refine rw_q rfl (ev_move (v := (Value.slice a l.length cap)) rfl) <| rw_q rfl (ev_slnil_of uT24 rfl rfl) <| rN ?_
 refine cw_cond rfl (fun hc1 => ?_) (fun hc1 => ?_)
 · -- true
   refine sR <| rw_q rfl (ev_assign (v := (Value.slice none 0 0)) rfl) ?_
   refine rN (cw_ret (kThen_ret ?_))
   refine fnPost_ret [(Value.slice none 0 0)] ⟨rfl, trivial⟩ ?_
   obtain rfl : l = [] := isNone_nil' hc1 hce
   exact ⟨[], Grow.none u8 5, hm0⟩
 · -- false
   refine cw_skip (kThen_normal (sR ?_))
   refine rw_c rfl (or_buildSlice_cl u8 [] u8_one hm0 uT24 ti5 rfl (by simp [pairs]) rfl) ?_
   rintro _ w2 ⟨b5, rfl, _ew2, hm2⟩
   refine rw_q rfl (ev_move (v := (Value.slice a l.length cap)) rfl) <| rw_c rfl (or_append (f := u8) (Hs := [(b5, .cells (cl u8 ([])) 5 (0, 0))]) (H := []) hm2 (Grow.of u8 5 b5 ([])) rfl rfl (Rd.ofRest hr0 hm2) uT24 uT24 ti5 rfl u8_one sD sD) ?_
   rintro sv3 w3 ⟨Hs3, hm3, g3⟩
   replace g3 : Grow u8 5 sv3 l Hs3 := g3
   refine rA rfl (v := sv3) rfl ?_
   refine rN (cw_ret ?_)
   refine fnPost_ret [sv3] ⟨rfl, trivial⟩ ?_
   exact ⟨Hs3, g3, by simpa using hm3⟩

set_option maxHeartbeats 1000000 in
theorem c_whole (v : Value) (l : List (BitVec 8)) (w0 : World)  (hr : Rd (blks w0) u8 v l) (hl : l.length ≤ 1048576) : CallsR Try.prog 37 #[v] w0 (fun r w1 => ∃ Hs, Grow u8 5 r (wholeB l) Hs ∧ Mem w1 (restOf w0) Hs) := by
 refine callsR_of_cw (args := [v]) Try.func37 rfl Try.ntmps37 Try.results37 rfl ?_
 have hm0 : Mem w0 (restOf w0) [] := Mem.of_world w0
 refine sR <| rw_q rfl (ev_assign (v := (Value.slice none 0 0)) rfl) ?_
 refine rN (sR ?_)
 refine rw_q rfl (ev_assign (v := (u8 0#8)) rfl) ?_
 refine rN (cw_seq (sR ?_))
 refine rM rfl (v := v) rfl <| rw_q (v := (i64 (l.length : Int))) rfl (ev_len_rd (Rd.ofRest hr hm0) uT24 rfl) <| rw_q rfl (ev_move (v := (i64 0)) rfl) ?_
 refine rN (cw_block ?_)
 refine cw_loop (fun g wv => ∃ (k : Nat) (o : List (BitVec 8)) (q : BitVec 8) (v2 : Value) (Hs : List (Nat × Obj)), (k ≤ l.length) ∧ (o ++ whP q (l.drop k) = wholeB l) ∧ (Grow u8 5 v2 o Hs) ∧ g 0 = v ∧ g 2 = v2 ∧ g 3 = (u8 q) ∧ g 6 = v ∧ g 7 = (i64 (l.length : Int)) ∧ g 8 = (i64 (k : Int)) ∧ Mem wv (restOf w0) (Hs ++ ([]))) (fun g wv => ((l.length : Int) - RowKit.intOf (g 8)).toNat) ?_ ?_
 · exact ⟨0, [], 0#8, (Value.slice none 0 0), [], (Nat.zero_le _), (by unfold wholeB; rfl), (Grow.none _ _), rfl, rfl, rfl, rfl, rfl, rfl, hm0⟩
 · rintro fr1 w2 ⟨k, o, q, v2, Hs, hk, ho, hg, s0, s2, s3, s6, s7, s8, hm2⟩
   have z2 := s2
   have z3 := s3
   have z8 := s8
   have hol : o.length ≤ 2 * l.length := by have h1 := congrArg List.length ho; have h2 := wholeB_length l; rw [List.length_append] at h1; omega
   refine sR <| rw_q rfl (ev_i64_lss s8 s7) ?_
   refine rN (cw_seq ?_)
   refine cw_cond rfl (fun hc3 => ?_) (fun hc3 => ?_)
   · -- true
     have hc3p := of_decide_eq_true hc3
     refine cw_skip (kThen_normal (cw_seq (cw_block (sR ?_))))
     refine rM rfl s8 <| rw_q rfl (ev_indexAddr_rdv (Rd.ofRest hr hm2) uT24 ti5 s6 s8 oM sD) <| rw_q (v := (u8 (l.getD k 0))) rfl (ev_load_rdD (l := l) (i := (k : Int)) (dflt := 0) (Rd.ofRest hr hm2) uT5 rfl oM sD rfl) <| rw_q rfl (ev_assign (v := (i64 (k : Int))) rfl) <| rw_q rfl (ev_assign (v := (u8 (l.getD k 0))) rfl) ?_
     refine rN (cw_seq (sR ?_))
     refine rw_q rfl (ev_move (v := (u8 (l.getD k 0))) rfl) <| rw_q rfl (ev_u8_eql (b := 10#8) rfl rfl) <| rw_q rfl (ev_move (v := (bl ((l.getD k 0) == 10#8))) rfl) ?_
     rcases Bool.eq_false_or_eq_true ((l.getD k 0) == 10#8) with hb4 | hb4
     · -- true
       have hb4p := eq_of_beq hb4
       refine rw_gyq (s := 15) rfl rfl hb4 rfl (ev_move s3) <| rw_gyq (s := 15) rfl rfl hb4 rfl (ev_u8_neq (b := 13#8) rfl rfl) <| rw_q rfl (ev_pick_tk rfl hb4 rfl) <| rN ?_
       refine cw_cond rfl (fun hc5 => ?_) (fun hc5 => ?_)
       · -- true
         have hc5p := bne_iff_ne.1 hc5
         refine cw_region <| rM rfl s2 <| rw_c rfl (or_buildSlice_cl u8 [13#8] u8_one hm2 uT24 ti5 rfl rfl rfl) ?_
         rintro _ w6 ⟨b20, rfl, _ew6, hm6⟩
         refine rw_c rfl (or_append (f := u8) (Hs := Hs) (H := [(b20, .cells (cl u8 ([13#8])) 5 (0, 0))]) (Mem.pick [_] Hs _ hm6) hg rfl rfl (Rd.mkA hm6.h0) uT24 uT24 ti5 rfl u8_one sD sD) ?_
         rintro sv7 w7 ⟨Hs7, hm7, g7⟩
         replace g7 : Grow u8 5 sv7 (o ++ ([13#8])) Hs7 := g7
         refine rA rfl (v := sv7) rfl <| rN ?_
         have hm8 := Mem.drop ([(b20, .cells (cl u8 ([13#8])) 5 (0, 0))]) _ (Mem.pick Hs7 [_] _ hm7)
         refine CW.abs (fun g => g 0 = v ∧ g 2 = sv7 ∧ g 3 = (u8 q) ∧ g 4 = (i64 (k : Int)) ∧ g 5 = (u8 (l.getD k 0)) ∧ g 6 = v ∧ g 7 = (i64 (l.length : Int)) ∧ g 8 = (i64 (k : Int)) ∧ g 9 = (bl (decide ((k : Int) < (l.length : Int)))) ∧ g 18 = (bl (q != 13#8)) ∧ True) ⟨s0, rfl, s3, rfl, rfl, s6, s7, s8, rfl, rfl, trivial⟩ ?_
         rintro fr9 ⟨s0, s2, s3, s4, s5, s6, s7, s8, s9, s18, _⟩
         refine sR <| rM rfl s2 <| rM rfl s5 <| rw_c rfl (or_buildSlice_cl u8 [l.getD k 0] u8_one hm8 uT24 ti5 rfl rfl rfl) ?_
         rintro _ w10 ⟨b24, rfl, _ew10, hm10⟩
         refine rw_c rfl (or_append (f := u8) (Hs := Hs7) (H := [(b24, .cells (cl u8 ([l.getD k 0])) 5 (0, 0))]) (Mem.pick [_] Hs7 _ hm10) g7 rfl rfl (Rd.mkA hm10.h0) uT24 uT24 ti5 rfl u8_one sD sD) ?_
         rintro sv11 w11 ⟨Hs11, hm11, g11⟩
         replace g11 : Grow u8 5 sv11 ((o ++ ([13#8])) ++ ([l.getD k 0])) Hs11 := g11
         refine rA rfl (v := sv11) rfl ?_
         refine rN (cw_seq (sR ?_))
         refine rM rfl s5 <| rw_q rfl (ev_u8_eql (b := 13#8) rfl rfl) <| rw_q rfl (ev_move (v := (bl ((l.getD k 0) == 13#8))) rfl) ?_
         have hd12 : ((l.getD k 0) == 13#8) = false := by rw [hb4p]; rfl
         refine rw_gn (s := 28) rfl rfl hd12 rfl <| rw_gn (s := 28) rfl rfl hd12 rfl <| rw_gn (s := 28) rfl rfl hd12 rfl <| rw_gn (s := 28) rfl rfl hd12 rfl <| rw_gn (s := 28) rfl rfl hd12 rfl <| rw_gn (s := 28) rfl rfl hd12 rfl ?_
         refine rw_gu (s := 34) rfl rfl rfl <| rw_gu (s := 34) rfl rfl rfl <| rw_gu (s := 34) rfl rfl rfl <| rw_gu (s := 34) rfl rfl rfl <| rw_gu (s := 34) rfl rfl rfl <| rw_gu (s := 34) rfl rfl rfl ?_
         refine rw_gn (s := 28) rfl rfl hd12 rfl <| rw_q rfl (ev_pick_fk rfl hd12 rfl) <| rN ?_
         have hm13 := Mem.drop ([(b24, .cells (cl u8 ([l.getD k 0])) 5 (0, 0))]) _ (Mem.pick Hs11 [_] _ hm11)
         refine CW.abs (fun g => g 0 = v ∧ g 2 = sv11 ∧ g 3 = (u8 q) ∧ g 4 = (i64 (k : Int)) ∧ g 5 = (u8 (l.getD k 0)) ∧ g 6 = v ∧ g 7 = (i64 (l.length : Int)) ∧ g 8 = (i64 (k : Int)) ∧ g 9 = (bl (decide ((k : Int) < (l.length : Int)))) ∧ g 18 = (bl (q != 13#8)) ∧ g 42 = (bl false) ∧ True) ⟨s0, rfl, s3, s4, s5, s6, s7, s8, s9, s18, rfl, trivial⟩ ?_
         rintro fr14 ⟨s0, s2, s3, s4, s5, s6, s7, s8, s9, s18, s42, _⟩
         refine cw_cond_f s42 (by decide) ?_
         refine cw_skip (kThen_normal (cw_region ?_))
         refine rM rfl s5 <| rw_q rfl (ev_assign (v := (u8 (l.getD k 0))) rfl) ?_
         refine rw_nil (kBlk_normal (cw_region ?_))
         refine rw_q rfl (ev_i64_add (b := 1) s8 rfl oM oM) <| rw_q rfl (ev_move (v := (i64 ((k : Int) + 1))) rfl) <| rN ?_
         exact ⟨⟨(k + 1), ((o ++ ([13#8])) ++ ([l.getD k 0])), (l.getD k 0), sv11, Hs11, oM, (wh_A ho oM hb4p hc5p), g11, s0, s2, rfl, s6, s7, rfl, hm13⟩, meas rfl z8 oM oM⟩
       · -- false
         have hc5p := eq_of_bne_false hc5
         refine cw_skip (kThen_normal (sR ?_))
         refine rM rfl s2 <| rw_q rfl (ev_move (v := (u8 (l.getD k 0))) rfl) <| rw_c rfl (or_buildSlice_cl u8 [l.getD k 0] u8_one hm2 uT24 ti5 rfl rfl rfl) ?_
         rintro _ w15 ⟨b24_1, rfl, _ew15, hm15⟩
         refine rw_c rfl (or_append (f := u8) (Hs := Hs) (H := [(b24_1, .cells (cl u8 ([l.getD k 0])) 5 (0, 0))]) (Mem.pick [_] Hs _ hm15) hg rfl rfl (Rd.mkA hm15.h0) uT24 uT24 ti5 rfl u8_one sD sD) ?_
         rintro sv16 w16 ⟨Hs16, hm16, g16⟩
         replace g16 : Grow u8 5 sv16 (o ++ ([l.getD k 0])) Hs16 := g16
         refine rA rfl (v := sv16) rfl <| rN ?_
         have hm17 := Mem.drop ([(b24_1, .cells (cl u8 ([l.getD k 0])) 5 (0, 0))]) _ (Mem.pick Hs16 [_] _ hm16)
         refine CW.abs (fun g => g 0 = v ∧ g 2 = sv16 ∧ g 3 = (u8 q) ∧ g 4 = (i64 (k : Int)) ∧ g 5 = (u8 (l.getD k 0)) ∧ g 6 = v ∧ g 7 = (i64 (l.length : Int)) ∧ g 8 = (i64 (k : Int)) ∧ g 9 = (bl (decide ((k : Int) < (l.length : Int)))) ∧ g 18 = (bl (q != 13#8)) ∧ True) ⟨s0, rfl, s3, rfl, rfl, s6, s7, s8, rfl, rfl, trivial⟩ ?_
         rintro fr18 ⟨s0, s2, s3, s4, s5, s6, s7, s8, s9, s18, _⟩
         refine cw_seq (sR ?_)
         refine rM rfl s5 <| rw_q rfl (ev_u8_eql (b := 13#8) rfl rfl) <| rw_q rfl (ev_move (v := (bl ((l.getD k 0) == 13#8))) rfl) ?_
         have hd19 : ((l.getD k 0) == 13#8) = false := by rw [hb4p]; rfl
         refine rw_gn (s := 28) rfl rfl hd19 rfl <| rw_gn (s := 28) rfl rfl hd19 rfl <| rw_gn (s := 28) rfl rfl hd19 rfl <| rw_gn (s := 28) rfl rfl hd19 rfl <| rw_gn (s := 28) rfl rfl hd19 rfl <| rw_gn (s := 28) rfl rfl hd19 rfl ?_
         refine rw_gu (s := 34) rfl rfl rfl <| rw_gu (s := 34) rfl rfl rfl <| rw_gu (s := 34) rfl rfl rfl <| rw_gu (s := 34) rfl rfl rfl <| rw_gu (s := 34) rfl rfl rfl <| rw_gu (s := 34) rfl rfl rfl ?_
         refine rw_gn (s := 28) rfl rfl hd19 rfl <| rw_q rfl (ev_pick_fk rfl hd19 rfl) <| rN ?_
         refine CW.abs (fun g => g 0 = v ∧ g 2 = sv16 ∧ g 3 = (u8 q) ∧ g 4 = (i64 (k : Int)) ∧ g 5 = (u8 (l.getD k 0)) ∧ g 6 = v ∧ g 7 = (i64 (l.length : Int)) ∧ g 8 = (i64 (k : Int)) ∧ g 9 = (bl (decide ((k : Int) < (l.length : Int)))) ∧ g 18 = (bl (q != 13#8)) ∧ g 42 = (bl false) ∧ True) ⟨s0, s2, s3, s4, s5, s6, s7, s8, s9, s18, rfl, trivial⟩ ?_
         rintro fr20 ⟨s0, s2, s3, s4, s5, s6, s7, s8, s9, s18, s42, _⟩
         refine cw_cond_f s42 (by decide) ?_
         refine cw_skip (kThen_normal (cw_region ?_))
         refine rM rfl s5 <| rw_q rfl (ev_assign (v := (u8 (l.getD k 0))) rfl) ?_
         refine rw_nil (kBlk_normal (cw_region ?_))
         refine rw_q rfl (ev_i64_add (b := 1) s8 rfl oM oM) <| rw_q rfl (ev_move (v := (i64 ((k : Int) + 1))) rfl) <| rN ?_
         exact ⟨⟨(k + 1), (o ++ ([l.getD k 0])), (l.getD k 0), sv16, Hs16, oM, (wh_C ho oM (fun _ => hc5p) (fun e => absurd (hb4p.symm.trans e) (by decide))), g16, s0, s2, rfl, s6, s7, rfl, hm17⟩, meas rfl z8 oM oM⟩
     · -- false
       have hb4p := ne_of_beq_false hb4
       refine rw_gn (s := 15) rfl rfl hb4 rfl <| rw_gn (s := 15) rfl rfl hb4 rfl <| rw_q rfl (ev_pick_fk rfl hb4 rfl) <| rN <| cw_cond_f rfl (by decide) ?_
       refine cw_skip (kThen_normal (sR ?_))
       refine rM rfl s2 <| rw_q rfl (ev_move (v := (u8 (l.getD k 0))) rfl) <| rw_c rfl (or_buildSlice_cl u8 [l.getD k 0] u8_one hm2 uT24 ti5 rfl rfl rfl) ?_
       rintro _ w21 ⟨b24_2, rfl, _ew21, hm21⟩
       refine rw_c rfl (or_append (f := u8) (Hs := Hs) (H := [(b24_2, .cells (cl u8 ([l.getD k 0])) 5 (0, 0))]) (Mem.pick [_] Hs _ hm21) hg rfl rfl (Rd.mkA hm21.h0) uT24 uT24 ti5 rfl u8_one sD sD) ?_
       rintro sv22 w22 ⟨Hs22, hm22, g22⟩
       replace g22 : Grow u8 5 sv22 (o ++ ([l.getD k 0])) Hs22 := g22
       refine rA rfl (v := sv22) rfl <| rN ?_
       have hm23 := Mem.drop ([(b24_2, .cells (cl u8 ([l.getD k 0])) 5 (0, 0))]) _ (Mem.pick Hs22 [_] _ hm22)
       refine CW.abs (fun g => g 0 = v ∧ g 2 = sv22 ∧ g 3 = (u8 q) ∧ g 4 = (i64 (k : Int)) ∧ g 5 = (u8 (l.getD k 0)) ∧ g 6 = v ∧ g 7 = (i64 (l.length : Int)) ∧ g 8 = (i64 (k : Int)) ∧ g 9 = (bl (decide ((k : Int) < (l.length : Int)))) ∧ g 18 = (bl false) ∧ True) ⟨s0, rfl, s3, rfl, rfl, s6, s7, s8, rfl, rfl, trivial⟩ ?_
       rintro fr24 ⟨s0, s2, s3, s4, s5, s6, s7, s8, s9, s18, _⟩
       refine cw_seq (sR ?_)
       refine rM rfl s5 <| rw_q rfl (ev_u8_eql (b := 13#8) rfl rfl) <| rw_q rfl (ev_move (v := (bl ((l.getD k 0) == 13#8))) rfl) ?_
       rcases Bool.eq_false_or_eq_true ((l.getD k 0) == 13#8) with hb25 | hb25
       · -- true
         have hb25p := eq_of_beq hb25
         refine rw_gyq (s := 28) rfl rfl hb25 rfl (ev_move s4) <| rw_gyq (s := 28) rfl rfl hb25 rfl (ev_i64_add (b := 1) rfl rfl oM oM) <| rw_gyq (s := 28) rfl rfl hb25 rfl (ev_move s0) <| rw_gyq (s := 28) rfl rfl hb25 rfl (ev_len_rd (Rd.ofRest hr hm23) uT24 rfl) <| rw_gyq (s := 28) rfl rfl hb25 rfl (ev_i64_eql rfl rfl) <| rw_gyq (s := 28) rfl rfl hb25 rfl (ev_move (v := (bl (((k : Int) + 1) == (l.length : Int)))) rfl) ?_
         rcases Bool.eq_false_or_eq_true (((k : Int) + 1) == (l.length : Int)) with hb26 | hb26
         · -- true
           have hb26p := eq_of_beq hb26
           refine rw_gn (s := 34) rfl rfl hb26 rfl <| rw_gn (s := 34) rfl rfl hb26 rfl <| rw_gn (s := 34) rfl rfl hb26 rfl <| rw_gn (s := 34) rfl rfl hb26 rfl <| rw_gn (s := 34) rfl rfl hb26 rfl <| rw_gn (s := 34) rfl rfl hb26 rfl ?_
           refine rw_gyq (s := 28) rfl rfl hb25 rfl (ev_pick_tk rfl hb26 rfl) <| rw_q rfl (ev_pick_tk rfl hb25 rfl) <| rN ?_
           refine CW.abs (fun g => g 0 = v ∧ g 2 = sv22 ∧ g 3 = (u8 q) ∧ g 4 = (i64 (k : Int)) ∧ g 5 = (u8 (l.getD k 0)) ∧ g 6 = v ∧ g 7 = (i64 (l.length : Int)) ∧ g 8 = (i64 (k : Int)) ∧ g 9 = (bl (decide ((k : Int) < (l.length : Int)))) ∧ g 18 = (bl false) ∧ g 42 = (bl true) ∧ True) ⟨s0, s2, s3, s4, s5, s6, s7, s8, s9, s18, rfl, trivial⟩ ?_
           rintro fr27 ⟨s0, s2, s3, s4, s5, s6, s7, s8, s9, s18, s42, _⟩
           refine cw_cond_t s42 (by decide) <| cw_region <| rM rfl s2 <| rw_c rfl (or_buildSlice_cl u8 [10#8] u8_one hm23 uT24 ti5 rfl rfl rfl) ?_
           rintro _ w28 ⟨b44, rfl, _ew28, hm28⟩
           refine rw_c rfl (or_append (f := u8) (Hs := Hs22) (H := [(b44, .cells (cl u8 ([10#8])) 5 (0, 0))]) (Mem.pick [_] Hs22 _ hm28) g22 rfl rfl (Rd.mkA hm28.h0) uT24 uT24 ti5 rfl u8_one sD sD) ?_
           rintro sv29 w29 ⟨Hs29, hm29, g29⟩
           replace g29 : Grow u8 5 sv29 ((o ++ ([l.getD k 0])) ++ ([10#8])) Hs29 := g29
           refine rA rfl (v := sv29) rfl <| rw_q rfl (ev_assign (v := (u8 10#8)) rfl) ?_
           refine rN (cw_region ?_)
           refine rw_q rfl (ev_move (v := (u8 10#8)) rfl) <| rw_q rfl (ev_assign (v := (u8 10#8)) rfl) ?_
           refine rw_nil (kBlk_normal (cw_region ?_))
           refine rw_q rfl (ev_i64_add (b := 1) s8 rfl oM oM) <| rw_q rfl (ev_move (v := (i64 ((k : Int) + 1))) rfl) <| rN ?_
           have hm30 := Mem.drop ([(b44, .cells (cl u8 ([10#8])) 5 (0, 0))]) _ (Mem.pick Hs29 [_] _ hm29)
           exact ⟨⟨(k + 1), ((o ++ ([l.getD k 0])) ++ ([10#8])), (10#8), sv29, Hs29, oM, (wh_B ho oM hb25p (fun hl => absurd hl oM)), g29, s0, rfl, rfl, s6, s7, rfl, hm30⟩, meas rfl z8 oM oM⟩
         · -- false
           have hb26p := ne_of_beq_false hb26
           refine rw_gyq (s := 34) rfl rfl hb26 rfl (ev_move s0) <| rw_gyq (s := 34) rfl rfl hb26 rfl (ev_move s4) <| rw_gyq (s := 34) rfl rfl hb26 rfl (ev_i64_add (b := 1) rfl rfl oM oM) <| rw_gyq (s := 34) rfl rfl hb26 rfl (ev_indexAddr_rdv (Rd.ofRest hr hm23) uT24 ti5 rfl rfl oM sD) <| rw_gyq (s := 34) rfl rfl hb26 rfl (ev_load_rdD (l := l) (i := (k : Int) + 1) (dflt := 0) (Rd.ofRest hr hm23) uT5 rfl oM sD rfl) <| rw_gyq (s := 34) rfl rfl hb26 rfl (ev_u8_neq (b := 10#8) rfl rfl) ?_
           refine rw_gyq (s := 28) rfl rfl hb25 rfl (ev_pick_fk rfl hb26 rfl) <| rw_q rfl (ev_pick_tk rfl hb25 rfl) <| rN ?_
           refine CW.abs (fun g => g 0 = v ∧ g 2 = sv22 ∧ g 3 = (u8 q) ∧ g 4 = (i64 (k : Int)) ∧ g 5 = (u8 (l.getD k 0)) ∧ g 6 = v ∧ g 7 = (i64 (l.length : Int)) ∧ g 8 = (i64 (k : Int)) ∧ g 9 = (bl (decide ((k : Int) < (l.length : Int)))) ∧ g 18 = (bl false) ∧ g 42 = (bl ((l.getD (((k : Int) + 1 : Int).toNat) 0) != 10#8)) ∧ True) ⟨s0, s2, s3, s4, s5, s6, s7, s8, s9, s18, rfl, trivial⟩ ?_
           rintro fr31 ⟨s0, s2, s3, s4, s5, s6, s7, s8, s9, s18, s42, _⟩
           refine cw_cond s42 (fun hc32 => ?_) (fun hc32 => ?_)
           · -- true
             have hc32p := bne_iff_ne.1 hc32
             refine cw_region <| rM rfl s2 <| rw_c rfl (or_buildSlice_cl u8 [10#8] u8_one hm23 uT24 ti5 rfl rfl rfl) ?_
             rintro _ w33 ⟨b44_1, rfl, _ew33, hm33⟩
             refine rw_c rfl (or_append (f := u8) (Hs := Hs22) (H := [(b44_1, .cells (cl u8 ([10#8])) 5 (0, 0))]) (Mem.pick [_] Hs22 _ hm33) g22 rfl rfl (Rd.mkA hm33.h0) uT24 uT24 ti5 rfl u8_one sD sD) ?_
             rintro sv34 w34 ⟨Hs34, hm34, g34⟩
             replace g34 : Grow u8 5 sv34 ((o ++ ([l.getD k 0])) ++ ([10#8])) Hs34 := g34
             refine rA rfl (v := sv34) rfl <| rw_q rfl (ev_assign (v := (u8 10#8)) rfl) ?_
             refine rN (cw_region ?_)
             refine rw_q rfl (ev_move (v := (u8 10#8)) rfl) <| rw_q rfl (ev_assign (v := (u8 10#8)) rfl) ?_
             refine rw_nil (kBlk_normal (cw_region ?_))
             refine rw_q rfl (ev_i64_add (b := 1) s8 rfl oM oM) <| rw_q rfl (ev_move (v := (i64 ((k : Int) + 1))) rfl) <| rN ?_
             have hm35 := Mem.drop ([(b44_1, .cells (cl u8 ([10#8])) 5 (0, 0))]) _ (Mem.pick Hs34 [_] _ hm34)
             exact ⟨⟨(k + 1), ((o ++ ([l.getD k 0])) ++ ([10#8])), (10#8), sv34, Hs34, oM, (wh_B ho oM hb25p (fun _ => by have h' := hc32p; rw [toNat_succ] at h'; exact h')), g34, s0, rfl, rfl, s6, s7, rfl, hm35⟩, meas rfl z8 oM oM⟩
           · -- false
             have hc32p := eq_of_bne_false hc32
             refine cw_skip (kThen_normal (cw_region ?_))
             refine rM rfl s5 <| rw_q rfl (ev_assign (v := (u8 (l.getD k 0))) rfl) ?_
             refine rw_nil (kBlk_normal (cw_region ?_))
             refine rw_q rfl (ev_i64_add (b := 1) s8 rfl oM oM) <| rw_q rfl (ev_move (v := (i64 ((k : Int) + 1))) rfl) <| rN ?_
             exact ⟨⟨(k + 1), (o ++ ([l.getD k 0])), (l.getD k 0), sv22, Hs22, oM, (wh_C ho oM (fun e => absurd e hb4p) (fun _ => ⟨by omega, by have h' := hc32p; rw [toNat_succ] at h'; exact h'⟩)), g22, s0, s2, rfl, s6, s7, rfl, hm23⟩, meas rfl z8 oM oM⟩
       · -- false
         have hb25p := ne_of_beq_false hb25
         refine rw_gn (s := 28) rfl rfl hb25 rfl <| rw_gn (s := 28) rfl rfl hb25 rfl <| rw_gn (s := 28) rfl rfl hb25 rfl <| rw_gn (s := 28) rfl rfl hb25 rfl <| rw_gn (s := 28) rfl rfl hb25 rfl <| rw_gn (s := 28) rfl rfl hb25 rfl ?_
         refine rw_gu (s := 34) rfl rfl rfl <| rw_gu (s := 34) rfl rfl rfl <| rw_gu (s := 34) rfl rfl rfl <| rw_gu (s := 34) rfl rfl rfl <| rw_gu (s := 34) rfl rfl rfl <| rw_gu (s := 34) rfl rfl rfl ?_
         refine rw_gn (s := 28) rfl rfl hb25 rfl <| rw_q rfl (ev_pick_fk rfl hb25 rfl) <| rN ?_
         refine CW.abs (fun g => g 0 = v ∧ g 2 = sv22 ∧ g 3 = (u8 q) ∧ g 4 = (i64 (k : Int)) ∧ g 5 = (u8 (l.getD k 0)) ∧ g 6 = v ∧ g 7 = (i64 (l.length : Int)) ∧ g 8 = (i64 (k : Int)) ∧ g 9 = (bl (decide ((k : Int) < (l.length : Int)))) ∧ g 18 = (bl false) ∧ g 42 = (bl false) ∧ True) ⟨s0, s2, s3, s4, s5, s6, s7, s8, s9, s18, rfl, trivial⟩ ?_
         rintro fr36 ⟨s0, s2, s3, s4, s5, s6, s7, s8, s9, s18, s42, _⟩
         refine cw_cond_f s42 (by decide) ?_
         refine cw_skip (kThen_normal (cw_region ?_))
         refine rM rfl s5 <| rw_q rfl (ev_assign (v := (u8 (l.getD k 0))) rfl) ?_
         refine rw_nil (kBlk_normal (cw_region ?_))
         refine rw_q rfl (ev_i64_add (b := 1) s8 rfl oM oM) <| rw_q rfl (ev_move (v := (i64 ((k : Int) + 1))) rfl) <| rN ?_
         exact ⟨⟨(k + 1), (o ++ ([l.getD k 0])), (l.getD k 0), sv22, Hs22, oM, (wh_C ho oM (fun e => absurd e hb4p) (fun e => absurd e hb25p)), g22, s0, s2, rfl, s6, s7, rfl, hm23⟩, meas rfl z8 oM oM⟩
   · -- false
     have hc3p := of_decide_eq_false hc3
     refine cw_exit ?_
     refine kThen_exit (kThen_exit (kBlk_hit ?_))
     refine sR <| rM rfl s2 <| rA rfl (v := v2) rfl ?_
     refine rN (cw_ret ?_)
     refine fnPost_ret [v2] ⟨rfl, trivial⟩ ?_
     have he : o = wholeB l := by have h := ho; rw [List.drop_of_length_le oM] at h; simpa [whP] using h
     exact ⟨Hs, Grow.cast hg he, by simpa using hm2⟩

set_option maxHeartbeats 1000000 in
theorem c_rwhole (v : Value) (l : List (BitVec 8)) (w0 : World)  (hr : Rd (blks w0) u8 v l) (hl : l.length ≤ 1048576) : CallsR Try.prog 41 #[v] w0 (fun r w1 => ∃ Hs, Grow u8 5 r (wholeB l) Hs ∧ Mem w1 (restOf w0) Hs) := by
 refine callsR_of_cw (args := [v]) Try.func41 rfl Try.ntmps41 Try.results41 rfl ?_
 have hm0 : Mem w0 (restOf w0) [] := Mem.of_world w0
 refine sR <| rw_q rfl (ev_assign (v := (Value.slice none 0 0)) rfl) ?_
 refine rN (sR ?_)
 refine rw_c rfl (or_buildSlice_cl u8 [] u8_one hm0 uT24 ti5 rfl (by simp [pairs]) rfl) ?_
 rintro _ w1 ⟨b5, rfl, _ew1, hm1⟩
 refine rw_q rfl (ev_assign (v := (slc b5 0 0 0)) rfl) ?_
 refine rN (cw_seq (sR ?_))
 refine rw_q rfl (ev_assign (v := (i64 0)) rfl) ?_
 refine rN (cw_block ?_)
 refine cw_loop (fun g wv => ∃ (k : Nat) (o : List (BitVec 8)) (v2 : Value) (Hs : List (Nat × Obj)), (k ≤ l.length) ∧ (o ++ whR (prevB l k) (l.drop k) = wholeB l) ∧ (Grow u8 5 v2 o Hs) ∧ g 0 = v ∧ g 2 = (Value.slice none 0 0) ∧ g 3 = v2 ∧ g 4 = (i64 (k : Int)) ∧ Mem wv (restOf w0) (Hs ++ ([]))) (fun g wv => ((l.length : Int) - RowKit.intOf (g 4)).toNat) ?_ ?_
 · exact ⟨0, [], (slc b5 0 0 0), [(b5, .cells (cl u8 ([])) 5 (0, 0))], (Nat.zero_le _), (whole_eq l), (Grow.of u8 5 b5 []), rfl, rfl, rfl, rfl, hm1⟩
 · rintro fr2 w3 ⟨k, o, v2, Hs, hk, ho, hg, s0, s2, s3, s4, hm3⟩
   have z3 := s3
   have z4 := s4
   have hol : o.length ≤ 2 * l.length := by have h1 := congrArg List.length ho; have h2 := wholeB_length l; rw [List.length_append] at h1; omega
   refine cw_seq (sR ?_)
   refine rM rfl s4 <| rM rfl s0 <| rw_q (v := (i64 (l.length : Int))) rfl (ev_len_rd (Rd.ofRest hr hm3) uT24 rfl) <| rw_q rfl (ev_i64_lss rfl rfl) <| rN ?_
   refine cw_cond rfl (fun hc4 => ?_) (fun hc4 => ?_)
   · -- true
     have hc4p := of_decide_eq_true hc4
     refine cw_skip (kThen_normal (cw_seq (cw_block (sR ?_))))
     refine rM rfl s0 <| rM rfl s4 <| rw_q rfl (ev_indexAddr_rdv (Rd.ofRest hr hm3) uT24 ti5 rfl rfl oM sD) <| rw_q (v := (u8 (l.getD k 0))) rfl (ev_load_rdD (l := l) (i := (k : Int)) (dflt := 0) (Rd.ofRest hr hm3) uT5 rfl oM sD rfl) <| rw_q rfl (ev_u8_eql (b := 10#8) rfl rfl) <| rw_q rfl (ev_move (v := (bl ((l.getD k 0) == 10#8))) rfl) ?_
     rcases Bool.eq_false_or_eq_true ((l.getD k 0) == 10#8) with hb5 | hb5
     · -- true
       have hb5p := eq_of_beq hb5
       refine rw_gyq (s := 17) rfl rfl hb5 rfl (ev_move s4) <| rw_gyq (s := 17) rfl rfl hb5 rfl (ev_i64_eql (b := 0) rfl rfl) <| rw_gyq (s := 17) rfl rfl hb5 rfl (ev_move (v := (bl ((k : Int) == 0))) rfl) ?_
       rcases Bool.eq_false_or_eq_true ((k : Int) == 0) with hb6 | hb6
       · -- true
         have hb6p := eq_of_beq hb6
         refine rw_gn (s := 20) rfl rfl hb6 rfl <| rw_gn (s := 20) rfl rfl hb6 rfl <| rw_gn (s := 20) rfl rfl hb6 rfl <| rw_gn (s := 20) rfl rfl hb6 rfl <| rw_gn (s := 20) rfl rfl hb6 rfl <| rw_gn (s := 20) rfl rfl hb6 rfl ?_
         refine rw_gyq (s := 17) rfl rfl hb5 rfl (ev_pick_tk rfl hb6 rfl) <| rw_q rfl (ev_pick_tk rfl hb5 rfl) <| rN ?_
         refine CW.abs (fun g => g 0 = v ∧ g 2 = (Value.slice none 0 0) ∧ g 3 = v2 ∧ g 4 = (i64 (k : Int)) ∧ g 9 = (bl (decide ((k : Int) < (l.length : Int)))) ∧ g 28 = (bl true) ∧ True) ⟨s0, s2, s3, s4, rfl, rfl, trivial⟩ ?_
         rintro fr7 ⟨s0, s2, s3, s4, s9, s28, _⟩
         refine cw_cond_t s28 (by decide) <| cw_region <| rM rfl s3 <| rw_c rfl (or_buildSlice_cl u8 [13#8, 10#8] u8_one hm3 uT24 ti5 rfl rfl rfl) ?_
         rintro _ w8 ⟨b30, rfl, _ew8, hm8⟩
         refine rw_c rfl (or_append (f := u8) (Hs := Hs) (H := [(b30, .cells (cl u8 ([13#8, 10#8])) 5 (0, 0))]) (Mem.pick [_] Hs _ hm8) hg rfl rfl (Rd.mkA hm8.h0) uT24 uT24 ti5 rfl u8_one sD sD) ?_
         rintro sv9 w9 ⟨Hs9, hm9, g9⟩
         replace g9 : Grow u8 5 sv9 (o ++ ([13#8, 10#8])) Hs9 := g9
         refine rA rfl (v := sv9) rfl ?_
         refine rw_nil (kBlk_normal (cw_region ?_))
         refine rM rfl s4 <| rw_q rfl (ev_i64_add (b := 1) rfl rfl oM oM) <| rw_q rfl (ev_assign (v := (i64 ((k : Int) + 1))) rfl) <| rN ?_
         have hm10 := Mem.drop ([(b30, .cells (cl u8 ([13#8, 10#8])) 5 (0, 0))]) _ (Mem.pick Hs9 [_] _ hm9)
         exact ⟨⟨(k + 1), (o ++ ([13#8, 10#8])), sv9, Hs9, oM, (rw_A ho oM hb5p (.inl oM)), g9, s0, s2, rfl, rfl, hm10⟩, meas rfl z4 oM oM⟩
       · -- false
         have hb6p := ne_of_beq_false hb6
         refine rw_gyq (s := 20) rfl rfl hb6 rfl (ev_move s0) <| rw_gyq (s := 20) rfl rfl hb6 rfl (ev_move s4) <| rw_gyq (s := 20) rfl rfl hb6 rfl (ev_i64_sub (b := 1) rfl rfl oM oM) <| rw_gyq (s := 20) rfl rfl hb6 rfl (ev_indexAddr_rdv (Rd.ofRest hr hm3) uT24 ti5 rfl rfl oM sD) <| rw_gyq (s := 20) rfl rfl hb6 rfl (ev_load_rdD (l := l) (i := (k : Int) - 1) (dflt := 0) (Rd.ofRest hr hm3) uT5 rfl oM sD rfl) <| rw_gyq (s := 20) rfl rfl hb6 rfl (ev_u8_neq (b := 13#8) rfl rfl) ?_
         refine rw_gyq (s := 17) rfl rfl hb5 rfl (ev_pick_fk rfl hb6 rfl) <| rw_q rfl (ev_pick_tk rfl hb5 rfl) <| rN ?_
         refine CW.abs (fun g => g 0 = v ∧ g 2 = (Value.slice none 0 0) ∧ g 3 = v2 ∧ g 4 = (i64 (k : Int)) ∧ g 9 = (bl (decide ((k : Int) < (l.length : Int)))) ∧ g 28 = (bl ((l.getD (((k : Int) - 1 : Int).toNat) 0) != 13#8)) ∧ True) ⟨s0, s2, s3, s4, rfl, rfl, trivial⟩ ?_
         rintro fr11 ⟨s0, s2, s3, s4, s9, s28, _⟩
         refine cw_cond s28 (fun hc12 => ?_) (fun hc12 => ?_)
         · -- true
           have hc12p := bne_iff_ne.1 hc12
           refine cw_region <| rM rfl s3 <| rw_c rfl (or_buildSlice_cl u8 [13#8, 10#8] u8_one hm3 uT24 ti5 rfl rfl rfl) ?_
           rintro _ w13 ⟨b30_1, rfl, _ew13, hm13⟩
           refine rw_c rfl (or_append (f := u8) (Hs := Hs) (H := [(b30_1, .cells (cl u8 ([13#8, 10#8])) 5 (0, 0))]) (Mem.pick [_] Hs _ hm13) hg rfl rfl (Rd.mkA hm13.h0) uT24 uT24 ti5 rfl u8_one sD sD) ?_
           rintro sv14 w14 ⟨Hs14, hm14, g14⟩
           replace g14 : Grow u8 5 sv14 (o ++ ([13#8, 10#8])) Hs14 := g14
           refine rA rfl (v := sv14) rfl ?_
           refine rw_nil (kBlk_normal (cw_region ?_))
           refine rM rfl s4 <| rw_q rfl (ev_i64_add (b := 1) rfl rfl oM oM) <| rw_q rfl (ev_assign (v := (i64 ((k : Int) + 1))) rfl) <| rN ?_
           have hm15 := Mem.drop ([(b30_1, .cells (cl u8 ([13#8, 10#8])) 5 (0, 0))]) _ (Mem.pick Hs14 [_] _ hm14)
           exact ⟨⟨(k + 1), (o ++ ([13#8, 10#8])), sv14, Hs14, oM, (rw_A ho oM hb5p (.inr (by have h' := hc12p; rw [show ((k : Int) - 1 : Int).toNat = k - 1 by omega] at h'; exact h'))), g14, s0, s2, rfl, rfl, hm15⟩, meas rfl z4 oM oM⟩
         · -- false
           have hc12p := eq_of_bne_false hc12
           refine sR <| rM rfl s0 <| rM rfl s4 <| rw_q rfl (ev_indexAddr_rdv (Rd.ofRest hr hm3) uT24 ti5 rfl rfl oM sD) <| rw_q (v := (u8 (l.getD k 0))) rfl (ev_load_rdD (l := l) (i := (k : Int)) (dflt := 0) (Rd.ofRest hr hm3) uT5 rfl oM sD rfl) <| rw_q rfl (ev_u8_eql (b := 13#8) rfl rfl) ?_
           refine rw_q rfl (ev_move (v := (bl ((l.getD k 0) == 13#8))) rfl) ?_
           have hd16 : ((l.getD k 0) == 13#8) = false := by rw [hb5p]; rfl
           refine rw_gn (s := 37) rfl rfl hd16 rfl <| rw_gn (s := 37) rfl rfl hd16 rfl <| rw_gn (s := 37) rfl rfl hd16 rfl <| rw_gn (s := 37) rfl rfl hd16 rfl <| rw_gn (s := 37) rfl rfl hd16 rfl <| rw_gn (s := 37) rfl rfl hd16 rfl ?_
           refine rw_gu (s := 43) rfl rfl rfl <| rw_gu (s := 43) rfl rfl rfl <| rw_gu (s := 43) rfl rfl rfl <| rw_gu (s := 43) rfl rfl rfl <| rw_gu (s := 43) rfl rfl rfl <| rw_gu (s := 43) rfl rfl rfl ?_
           refine rw_gn (s := 37) rfl rfl hd16 rfl <| rw_q rfl (ev_pick_fk rfl hd16 rfl) <| rN ?_
           refine CW.abs (fun g => g 0 = v ∧ g 2 = (Value.slice none 0 0) ∧ g 3 = v2 ∧ g 4 = (i64 (k : Int)) ∧ g 9 = (bl (decide ((k : Int) < (l.length : Int)))) ∧ g 28 = (bl ((l.getD (((k : Int) - 1 : Int).toNat) 0) != 13#8)) ∧ g 51 = (bl false) ∧ True) ⟨s0, s2, s3, s4, s9, s28, rfl, trivial⟩ ?_
           rintro fr17 ⟨s0, s2, s3, s4, s9, s28, s51, _⟩
           refine cw_cond_f s51 (by decide) <| cw_region <| rM rfl s3 <| rM rfl s0 <| rM rfl s4 <| rw_q rfl (ev_indexAddr_rdv (Rd.ofRest hr hm3) uT24 ti5 rfl rfl oM sD) ?_
           refine rw_q (v := (u8 (l.getD k 0))) rfl (ev_load_rdD (l := l) (i := (k : Int)) (dflt := 0) (Rd.ofRest hr hm3) uT5 rfl oM sD rfl) <| rw_c rfl (or_buildSlice_cl u8 [l.getD k 0] u8_one hm3 uT24 ti5 rfl rfl rfl) ?_
           rintro _ w18 ⟨b60, rfl, _ew18, hm18⟩
           refine rw_c rfl (or_append (f := u8) (Hs := Hs) (H := [(b60, .cells (cl u8 ([l.getD k 0])) 5 (0, 0))]) (Mem.pick [_] Hs _ hm18) hg rfl rfl (Rd.mkA hm18.h0) uT24 uT24 ti5 rfl u8_one sD sD) ?_
           rintro sv19 w19 ⟨Hs19, hm19, g19⟩
           replace g19 : Grow u8 5 sv19 (o ++ ([l.getD k 0])) Hs19 := g19
           refine rA rfl (v := sv19) rfl ?_
           refine rw_nil (kBlk_normal (cw_region ?_))
           refine rM rfl s4 <| rw_q rfl (ev_i64_add (b := 1) rfl rfl oM oM) <| rw_q rfl (ev_assign (v := (i64 ((k : Int) + 1))) rfl) <| rN ?_
           have hm20 := Mem.drop ([(b60, .cells (cl u8 ([l.getD k 0])) 5 (0, 0))]) _ (Mem.pick Hs19 [_] _ hm19)
           exact ⟨⟨(k + 1), (o ++ ([l.getD k 0])), sv19, Hs19, oM, (rw_C ho oM (fun _ => ⟨by omega, by have h' := hc12p; rw [show ((k : Int) - 1 : Int).toNat = k - 1 by omega] at h'; exact h'⟩) (fun e => absurd (hb5p.symm.trans e) (by decide))), g19, s0, s2, rfl, rfl, hm20⟩, meas rfl z4 oM oM⟩
     · -- false
       have hb5p := ne_of_beq_false hb5
       refine rw_gn (s := 17) rfl rfl hb5 rfl <| rw_gn (s := 17) rfl rfl hb5 rfl <| rw_gn (s := 17) rfl rfl hb5 rfl <| rw_gu (s := 20) rfl rfl rfl <| rw_gu (s := 20) rfl rfl rfl <| rw_gu (s := 20) rfl rfl rfl ?_
       refine rw_gu (s := 20) rfl rfl rfl <| rw_gu (s := 20) rfl rfl rfl <| rw_gu (s := 20) rfl rfl rfl <| rw_gn (s := 17) rfl rfl hb5 rfl <| rw_q rfl (ev_pick_fk rfl hb5 rfl) <| rN ?_
       refine CW.abs (fun g => g 0 = v ∧ g 2 = (Value.slice none 0 0) ∧ g 3 = v2 ∧ g 4 = (i64 (k : Int)) ∧ g 9 = (bl (decide ((k : Int) < (l.length : Int)))) ∧ g 28 = (bl false) ∧ True) ⟨s0, s2, s3, s4, rfl, rfl, trivial⟩ ?_
       rintro fr21 ⟨s0, s2, s3, s4, s9, s28, _⟩
       refine cw_cond_f s28 (by decide) <| sR <| rM rfl s0 <| rM rfl s4 <| rw_q rfl (ev_indexAddr_rdv (Rd.ofRest hr hm3) uT24 ti5 rfl rfl oM sD) <| rw_q (v := (u8 (l.getD k 0))) rfl (ev_load_rdD (l := l) (i := (k : Int)) (dflt := 0) (Rd.ofRest hr hm3) uT5 rfl oM sD rfl) ?_
       refine rw_q rfl (ev_u8_eql (b := 13#8) rfl rfl) <| rw_q rfl (ev_move (v := (bl ((l.getD k 0) == 13#8))) rfl) ?_
       rcases Bool.eq_false_or_eq_true ((l.getD k 0) == 13#8) with hb22 | hb22
       · -- true
         have hb22p := eq_of_beq hb22
         refine rw_gyq (s := 37) rfl rfl hb22 rfl (ev_move s4) <| rw_gyq (s := 37) rfl rfl hb22 rfl (ev_i64_add (b := 1) rfl rfl oM oM) <| rw_gyq (s := 37) rfl rfl hb22 rfl (ev_move s0) <| rw_gyq (s := 37) rfl rfl hb22 rfl (ev_len_rd (Rd.ofRest hr hm3) uT24 rfl) <| rw_gyq (s := 37) rfl rfl hb22 rfl (ev_i64_eql rfl rfl) <| rw_gyq (s := 37) rfl rfl hb22 rfl (ev_move (v := (bl (((k : Int) + 1) == (l.length : Int)))) rfl) ?_
         rcases Bool.eq_false_or_eq_true (((k : Int) + 1) == (l.length : Int)) with hb23 | hb23
         · -- true
           have hb23p := eq_of_beq hb23
           refine rw_gn (s := 43) rfl rfl hb23 rfl <| rw_gn (s := 43) rfl rfl hb23 rfl <| rw_gn (s := 43) rfl rfl hb23 rfl <| rw_gn (s := 43) rfl rfl hb23 rfl <| rw_gn (s := 43) rfl rfl hb23 rfl <| rw_gn (s := 43) rfl rfl hb23 rfl ?_
           refine rw_gyq (s := 37) rfl rfl hb22 rfl (ev_pick_tk rfl hb23 rfl) <| rw_q rfl (ev_pick_tk rfl hb22 rfl) <| rN ?_
           refine CW.abs (fun g => g 0 = v ∧ g 2 = (Value.slice none 0 0) ∧ g 3 = v2 ∧ g 4 = (i64 (k : Int)) ∧ g 9 = (bl (decide ((k : Int) < (l.length : Int)))) ∧ g 28 = (bl false) ∧ g 51 = (bl true) ∧ True) ⟨s0, s2, s3, s4, s9, s28, rfl, trivial⟩ ?_
           rintro fr24 ⟨s0, s2, s3, s4, s9, s28, s51, _⟩
           refine cw_cond_t s51 (by decide) <| cw_region <| rM rfl s3 <| rw_c rfl (or_buildSlice_cl u8 [13#8, 10#8] u8_one hm3 uT24 ti5 rfl rfl rfl) ?_
           rintro _ w25 ⟨b53, rfl, _ew25, hm25⟩
           refine rw_c rfl (or_append (f := u8) (Hs := Hs) (H := [(b53, .cells (cl u8 ([13#8, 10#8])) 5 (0, 0))]) (Mem.pick [_] Hs _ hm25) hg rfl rfl (Rd.mkA hm25.h0) uT24 uT24 ti5 rfl u8_one sD sD) ?_
           rintro sv26 w26 ⟨Hs26, hm26, g26⟩
           replace g26 : Grow u8 5 sv26 (o ++ ([13#8, 10#8])) Hs26 := g26
           refine rA rfl (v := sv26) rfl ?_
           refine rw_nil (kBlk_normal (cw_region ?_))
           refine rM rfl s4 <| rw_q rfl (ev_i64_add (b := 1) rfl rfl oM oM) <| rw_q rfl (ev_assign (v := (i64 ((k : Int) + 1))) rfl) <| rN ?_
           have hm27 := Mem.drop ([(b53, .cells (cl u8 ([13#8, 10#8])) 5 (0, 0))]) _ (Mem.pick Hs26 [_] _ hm26)
           exact ⟨⟨(k + 1), (o ++ ([13#8, 10#8])), sv26, Hs26, oM, (rw_B ho oM hb22p (fun hl => absurd hl oM)), g26, s0, s2, rfl, rfl, hm27⟩, meas rfl z4 oM oM⟩
         · -- false
           have hb23p := ne_of_beq_false hb23
           refine rw_gyq (s := 43) rfl rfl hb23 rfl (ev_move s0) <| rw_gyq (s := 43) rfl rfl hb23 rfl (ev_move s4) <| rw_gyq (s := 43) rfl rfl hb23 rfl (ev_i64_add (b := 1) rfl rfl oM oM) <| rw_gyq (s := 43) rfl rfl hb23 rfl (ev_indexAddr_rdv (Rd.ofRest hr hm3) uT24 ti5 rfl rfl oM sD) <| rw_gyq (s := 43) rfl rfl hb23 rfl (ev_load_rdD (l := l) (i := (k : Int) + 1) (dflt := 0) (Rd.ofRest hr hm3) uT5 rfl oM sD rfl) <| rw_gyq (s := 43) rfl rfl hb23 rfl (ev_u8_neq (b := 10#8) rfl rfl) ?_
           refine rw_gyq (s := 37) rfl rfl hb22 rfl (ev_pick_fk rfl hb23 rfl) <| rw_q rfl (ev_pick_tk rfl hb22 rfl) <| rN ?_
           refine CW.abs (fun g => g 0 = v ∧ g 2 = (Value.slice none 0 0) ∧ g 3 = v2 ∧ g 4 = (i64 (k : Int)) ∧ g 9 = (bl (decide ((k : Int) < (l.length : Int)))) ∧ g 28 = (bl false) ∧ g 51 = (bl ((l.getD (((k : Int) + 1 : Int).toNat) 0) != 10#8)) ∧ True) ⟨s0, s2, s3, s4, s9, s28, rfl, trivial⟩ ?_
           rintro fr28 ⟨s0, s2, s3, s4, s9, s28, s51, _⟩
           refine cw_cond s51 (fun hc29 => ?_) (fun hc29 => ?_)
           · -- true
             have hc29p := bne_iff_ne.1 hc29
             refine cw_region <| rM rfl s3 <| rw_c rfl (or_buildSlice_cl u8 [13#8, 10#8] u8_one hm3 uT24 ti5 rfl rfl rfl) ?_
             rintro _ w30 ⟨b53_1, rfl, _ew30, hm30⟩
             refine rw_c rfl (or_append (f := u8) (Hs := Hs) (H := [(b53_1, .cells (cl u8 ([13#8, 10#8])) 5 (0, 0))]) (Mem.pick [_] Hs _ hm30) hg rfl rfl (Rd.mkA hm30.h0) uT24 uT24 ti5 rfl u8_one sD sD) ?_
             rintro sv31 w31 ⟨Hs31, hm31, g31⟩
             replace g31 : Grow u8 5 sv31 (o ++ ([13#8, 10#8])) Hs31 := g31
             refine rA rfl (v := sv31) rfl ?_
             refine rw_nil (kBlk_normal (cw_region ?_))
             refine rM rfl s4 <| rw_q rfl (ev_i64_add (b := 1) rfl rfl oM oM) <| rw_q rfl (ev_assign (v := (i64 ((k : Int) + 1))) rfl) <| rN ?_
             have hm32 := Mem.drop ([(b53_1, .cells (cl u8 ([13#8, 10#8])) 5 (0, 0))]) _ (Mem.pick Hs31 [_] _ hm31)
             exact ⟨⟨(k + 1), (o ++ ([13#8, 10#8])), sv31, Hs31, oM, (rw_B ho oM hb22p (fun _ => by have h' := hc29p; rw [toNat_succ] at h'; exact h')), g31, s0, s2, rfl, rfl, hm32⟩, meas rfl z4 oM oM⟩
           · -- false
             have hc29p := eq_of_bne_false hc29
             refine cw_region <| rM rfl s3 <| rM rfl s0 <| rM rfl s4 <| rw_q rfl (ev_indexAddr_rdv (Rd.ofRest hr hm3) uT24 ti5 rfl rfl oM sD) <| rw_q (v := (u8 (l.getD k 0))) rfl (ev_load_rdD (l := l) (i := (k : Int)) (dflt := 0) (Rd.ofRest hr hm3) uT5 rfl oM sD rfl) ?_
             refine rw_c rfl (or_buildSlice_cl u8 [l.getD k 0] u8_one hm3 uT24 ti5 rfl rfl rfl) ?_
             rintro _ w33 ⟨b60_1, rfl, _ew33, hm33⟩
             refine rw_c rfl (or_append (f := u8) (Hs := Hs) (H := [(b60_1, .cells (cl u8 ([l.getD k 0])) 5 (0, 0))]) (Mem.pick [_] Hs _ hm33) hg rfl rfl (Rd.mkA hm33.h0) uT24 uT24 ti5 rfl u8_one sD sD) ?_
             rintro sv34 w34 ⟨Hs34, hm34, g34⟩
             replace g34 : Grow u8 5 sv34 (o ++ ([l.getD k 0])) Hs34 := g34
             refine rA rfl (v := sv34) rfl ?_
             refine rw_nil (kBlk_normal (cw_region ?_))
             refine rM rfl s4 <| rw_q rfl (ev_i64_add (b := 1) rfl rfl oM oM) <| rw_q rfl (ev_assign (v := (i64 ((k : Int) + 1))) rfl) <| rN ?_
             have hm35 := Mem.drop ([(b60_1, .cells (cl u8 ([l.getD k 0])) 5 (0, 0))]) _ (Mem.pick Hs34 [_] _ hm34)
             exact ⟨⟨(k + 1), (o ++ ([l.getD k 0])), sv34, Hs34, oM, (rw_C ho oM (fun e => absurd e hb5p) (fun _ => ⟨by omega, by have h' := hc29p; rw [toNat_succ] at h'; exact h'⟩)), g34, s0, s2, rfl, rfl, hm35⟩, meas rfl z4 oM oM⟩
       · -- false
         have hb22p := ne_of_beq_false hb22
         refine rw_gn (s := 37) rfl rfl hb22 rfl <| rw_gn (s := 37) rfl rfl hb22 rfl <| rw_gn (s := 37) rfl rfl hb22 rfl <| rw_gn (s := 37) rfl rfl hb22 rfl <| rw_gn (s := 37) rfl rfl hb22 rfl <| rw_gn (s := 37) rfl rfl hb22 rfl ?_
         refine rw_gu (s := 43) rfl rfl rfl <| rw_gu (s := 43) rfl rfl rfl <| rw_gu (s := 43) rfl rfl rfl <| rw_gu (s := 43) rfl rfl rfl <| rw_gu (s := 43) rfl rfl rfl <| rw_gu (s := 43) rfl rfl rfl ?_
         refine rw_gn (s := 37) rfl rfl hb22 rfl <| rw_q rfl (ev_pick_fk rfl hb22 rfl) <| rN ?_
         refine CW.abs (fun g => g 0 = v ∧ g 2 = (Value.slice none 0 0) ∧ g 3 = v2 ∧ g 4 = (i64 (k : Int)) ∧ g 9 = (bl (decide ((k : Int) < (l.length : Int)))) ∧ g 28 = (bl false) ∧ g 51 = (bl false) ∧ True) ⟨s0, s2, s3, s4, s9, s28, rfl, trivial⟩ ?_
         rintro fr36 ⟨s0, s2, s3, s4, s9, s28, s51, _⟩
         refine cw_cond_f s51 (by decide) <| cw_region <| rM rfl s3 <| rM rfl s0 <| rM rfl s4 <| rw_q rfl (ev_indexAddr_rdv (Rd.ofRest hr hm3) uT24 ti5 rfl rfl oM sD) ?_
         refine rw_q (v := (u8 (l.getD k 0))) rfl (ev_load_rdD (l := l) (i := (k : Int)) (dflt := 0) (Rd.ofRest hr hm3) uT5 rfl oM sD rfl) <| rw_c rfl (or_buildSlice_cl u8 [l.getD k 0] u8_one hm3 uT24 ti5 rfl rfl rfl) ?_
         rintro _ w37 ⟨b60_2, rfl, _ew37, hm37⟩
         refine rw_c rfl (or_append (f := u8) (Hs := Hs) (H := [(b60_2, .cells (cl u8 ([l.getD k 0])) 5 (0, 0))]) (Mem.pick [_] Hs _ hm37) hg rfl rfl (Rd.mkA hm37.h0) uT24 uT24 ti5 rfl u8_one sD sD) ?_
         rintro sv38 w38 ⟨Hs38, hm38, g38⟩
         replace g38 : Grow u8 5 sv38 (o ++ ([l.getD k 0])) Hs38 := g38
         refine rA rfl (v := sv38) rfl ?_
         refine rw_nil (kBlk_normal (cw_region ?_))
         refine rM rfl s4 <| rw_q rfl (ev_i64_add (b := 1) rfl rfl oM oM) <| rw_q rfl (ev_assign (v := (i64 ((k : Int) + 1))) rfl) <| rN ?_
         have hm39 := Mem.drop ([(b60_2, .cells (cl u8 ([l.getD k 0])) 5 (0, 0))]) _ (Mem.pick Hs38 [_] _ hm38)
         exact ⟨⟨(k + 1), (o ++ ([l.getD k 0])), sv38, Hs38, oM, (rw_C ho oM (fun e => absurd e hb5p) (fun e => absurd e hb22p)), g38, s0, s2, rfl, rfl, hm39⟩, meas rfl z4 oM oM⟩
   · -- false
     have hc4p := of_decide_eq_false hc4
     refine cw_exit ?_
     refine kThen_exit (kThen_exit (kBlk_hit ?_))
     refine sR <| rM rfl s3 <| rA rfl (v := v2) rfl ?_
     refine rN (cw_ret ?_)
     refine fnPost_ret [v2] ⟨rfl, trivial⟩ ?_
     have he : o = wholeB l := by have h := ho; rw [List.drop_of_length_le oM] at h; simpa [whR] using h
     exact ⟨Hs, Grow.cast hg he, by simpa using hm3⟩


end Go.Proofs.Ytfmjfojhcmmgcaa
