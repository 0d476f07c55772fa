/- Equality of lists of records. Conditions: none beyond those that each theorem states. -/
import Derived.Test.YtfbnhoolkajebaaJoB
import Derived.Test.YtfbnhoolkajebaaJo9
namespace Go.Proofs.Ytfbnhoolkajebaa
set_option linter.unusedVariables false
set_option linter.unusedSimpArgs false

theorem same_len {la lb : List (BitVec 8)} (h : (la.length : Int) ≠ (lb.length : Int)) : false = (la == lb) := by
  symm; rw [beq_eq_false_iff_ne]; rintro rfl; exact h rfl
theorem same_at {la lb : List (BitVec 8)} {k : Nat} (h : la.getD k 0 ≠ lb.getD k 0) : false = (la == lb) := by
  symm; rw [beq_eq_false_iff_ne]; rintro rfl; exact h rfl
theorem same_all {la lb : List (BitVec 8)} (h : (la.length : Int) = (lb.length : Int)) (hall : ∀ j, j < la.length → la.getD j 0 = lb.getD j 0) : true = (la == lb) := by
  symm; rw [beq_iff_eq]
  refine List.ext_getElem oM fun i h1 h2 => ?_
  have := hall i h1
  simpa [List.getD_eq_getElem?_getD, h1, h2] using this
theorem same_step {la lb : List (BitVec 8)} {k : Nat} (heq : ∀ j, j < k → la.getD j 0 = lb.getD j 0) (h : la.getD k 0 = lb.getD k 0) : ∀ j, j < k + 1 → la.getD j 0 = lb.getD j 0 := by
  intro j hj
  rcases Nat.lt_or_ge j k with h1 | h1
  · exact heq j h1
  · have : j = k := by omega
    subst this; exact h
theorem sl_len {A B : List (List (BitVec 8))} (h : (A.length : Int) ≠ (B.length : Int)) : (A == B) = false := by
  rw [beq_eq_false_iff_ne]; rintro rfl; exact h rfl
theorem sl_at {A B : List (List (BitVec 8))} {k : Nat} (h : (A.getD k [] == B.getD k []) = false) : (A == B) = false := by
  rw [beq_eq_false_iff_ne]; rintro rfl; simp at h
theorem sl_all {A B : List (List (BitVec 8))} (hl : A.length = B.length) (h : A.take A.length = B.take A.length) : (A == B) = true := by
  rw [beq_iff_eq]
  rw [List.take_length, List.take_of_length_le oM] at h; exact h
theorem sl_step {A B : List (List (BitVec 8))} {k : Nat} (hk : k < A.length) (hl : A.length = B.length) (h : A.take k = B.take k) (he : (A.getD k [] == B.getD k []) = true) : A.take (k + 1) = B.take (k + 1) := by
  rw [← take_snoc (d := []) hk, ← take_snoc (d := []) (by omega : k < B.length), h, beq_iff_eq.1 he]
theorem crash_none {ls : List (List (BitVec 8))} {q : List (BitVec 8)} : crashB ls [] q = ls := rfl
attribute [local irreducible] crashB crashK pushB readB inB errB cutN seenW
attribute [local irreducible] markB putB getB getK partB placeF blkOf rawB writeK blocksN
attribute [local irreducible] mostK newB roomB
attribute [local irreducible] recB recF recN genF badB lastP dataB gOf rOf pOf nOf loopH readH
attribute [local irreducible] okP layK turnL turnP oldB
attribute [local irreducible] openD
attribute [local irreducible] okG okV GB natB fitsB
attribute [local irreducible] syncF

theorem c_same (va vb : Value) (la lb : List (BitVec 8)) (w0 : World)  (hra : Rd (blks w0) u8 va la) (hrb : Rd (blks w0) u8 vb lb) (hla : la.length ≤ 281474976710656) : CallsR Try.prog 36 #[va, vb] w0 (fun r w1 => r = (bl (la == lb)) ∧ Ext w0 w1) := by
 refine callsR_of_cw (args := [va, vb]) Try.func36 rfl Try.ntmps36 Try.results36 rfl ?_
 have hm0 : Mem w0 (restOf w0) [] := Mem.of_world w0
 refine sR <| rw_q rfl (ev_assign (v := (bl false)) rfl) ?_
 refine rN (cw_seq (sR ?_))
 refine rM rfl (v := va) rfl <| rw_q (v := (i64 (la.length : Int))) rfl (ev_len_rd (Rd.ofRest hra hm0) uT23 rfl) <| rM rfl (v := vb) rfl <| rw_q (v := (i64 (lb.length : Int))) rfl (ev_len_rd (Rd.ofRest hrb hm0) uT23 rfl) <| rw_q rfl (ev_i64_neq rfl rfl) <| rN ?_
 refine cw_cond rfl (fun hc1 => ?_) (fun hc1 => ?_)
 · -- true
   have hc1p := bne_iff_ne.1 hc1
   refine sR <| rw_q rfl (ev_assign (v := (bl false)) rfl) ?_
   refine rN (cw_ret (kThen_ret ?_))
   refine fnPost_ret [(bl false)] ⟨rfl, trivial⟩ ?_
   exact ⟨congrArg bl (same_len hc1p), hm0.toExt⟩
 · -- false
   have hc1p := eq_of_bne_false hc1
   refine cw_skip (kThen_normal (cw_seq (sR ?_)))
   refine rw_q rfl (ev_assign (v := (i64 0)) rfl) ?_
   refine rN (cw_block ?_)
   refine cw_loop (fun g wv => ∃ (k : Nat), (k ≤ la.length) ∧ (∀ j, j < k → la.getD j 0 = lb.getD j 0) ∧ g 0 = va ∧ g 1 = vb ∧ g 5 = (i64 (k : Int)) ∧ g 10 = (bl ((la.length : Int) != (lb.length : Int))) ∧ Mem wv (restOf w0) []) (fun g wv => ((la.length : Int) - RowKit.intOf (g 5)).toNat) ?_ ?_
   · exact ⟨0, oM, (by intro j hj; omega), rfl, rfl, rfl, rfl, hm0⟩
   · rintro fr2 w3 ⟨k, hk, heq, s0, s1, s5, s10, hm3⟩
     have z5 := s5
     refine cw_seq (sR ?_)
     refine rM rfl s5 <| rM rfl s0 <| rw_q (v := (i64 (la.length : Int))) rfl (ev_len_rd (Rd.ofRest hra hm3) uT23 rfl) <| rw_q rfl (ev_i64_lss rfl rfl) <| rN ?_
     refine cw_cond rfl (fun hc4 => ?_) (fun hc4 => ?_)
     · -- true
       have hc4p := of_decide_eq_true hc4
       refine cw_skip (kThen_normal (cw_seq (cw_block (cw_seq ?_))))
       refine cw_draw [(0, false), (1, false), (2, false), (3, false), (4, false), (5, false), (6, false), (7, false)] 8 (by kernel_rfl) <| dM rfl rfl s0 <| dM rfl rfl s5 <| dw_q rfl rfl (fun _ _hx => ev_indexAddr_rdv (Rd.ofRest hra (hm3.ext _hx)) uT23 ti5 rfl rfl oM sD) <| dw_q (v := (u8 (la.getD k 0))) rfl rfl (fun _ _hx => ev_load_rdD (l := la) (i := (k : Int)) (dflt := 0) (Rd.ofRest hra (hm3.ext _hx)) uT5 rfl oM sD rfl) <| dM rfl rfl s1 ?_
       refine dM rfl rfl s5 <| dw_q rfl rfl (fun _ _hx => ev_indexAddr_rdv (Rd.ofRest hrb (hm3.ext _hx)) uT23 ti5 rfl rfl oM sD) <| dw_q (v := (u8 (lb.getD k 0))) rfl rfl (fun _ _hx => ev_load_rdD (l := lb) (i := (k : Int)) (dflt := 0) (Rd.ofRest hrb (hm3.ext _hx)) uT5 rfl oM sD rfl) ?_
       refine dw_nil (fun w5 _ew5 => ?_)
       have hm5 := hm3.ext _ew5
       refine rw_q rfl (ev_u8_neq rfl rfl) <| rN ?_
       refine CW.abs (fun g => g 0 = va ∧ g 1 = vb ∧ g 5 = (i64 (k : Int)) ∧ g 10 = (bl ((la.length : Int) != (lb.length : Int))) ∧ g 14 = (bl (decide ((k : Int) < (la.length : Int)))) ∧ g 25 = (bl ((la.getD k 0) != (lb.getD k 0))) ∧ True) ⟨s0, s1, s5, s10, rfl, rfl, trivial⟩ ?_
       rintro fr6 ⟨s0, s1, s5, s10, s14, s25, _⟩
       refine cw_cond s25 (fun hc7 => ?_) (fun hc7 => ?_)
       · -- true
         have hc7p := bne_iff_ne.1 hc7
         refine sR <| rw_q rfl (ev_assign (v := (bl false)) rfl) ?_
         refine rN (cw_ret ?_)
         refine kBlk_ret (kThen_ret (kBlk_ret ?_))
         refine fnPost_ret [(bl false)] ⟨rfl, trivial⟩ ?_
         exact ⟨congrArg bl (same_at hc7p), hm5.toExt⟩
       · -- false
         have hc7p := eq_of_bne_false hc7
         refine cw_skip (kBlk_normal (cw_region ?_))
         refine rM rfl s5 <| rw_q rfl (ev_i64_add (b := 1) rfl rfl oM oM) <| rw_q rfl (ev_assign (v := (i64 ((k : Int) + 1))) rfl) <| rN ?_
         exact ⟨⟨k + 1, oM, (same_step heq hc7p), s0, s1, rfl, s10, hm5⟩, meas rfl z5 oM oM⟩
     · -- false
       have hc4p := of_decide_eq_false hc4
       refine cw_exit ?_
       refine kThen_exit (kThen_exit (kBlk_hit ?_))
       refine sR <| rw_q rfl (ev_assign (v := (bl true)) rfl) ?_
       refine rN (cw_ret ?_)
       refine fnPost_ret [(bl true)] ⟨rfl, trivial⟩ ?_
       exact ⟨congrArg bl (same_all hc1p (fun j hj => heq j oM)), hm3.toExt⟩

set_option maxHeartbeats 2000000 in
theorem c_samelist (va : Value) (la : List SlT) (vb : Value) (lb : List SlT) (w0 : World)  (hla : RdL (blks w0) va la) (hlb : RdL (blks w0) vb lb) (hn : la.length ≤ 1000000) (hre : ∀ p ∈ la, p.2.length ≤ 281474976710656) : CallsR Try.prog 18 #[va, vb] w0 (fun r w1 => r = (bl ((la.map (·.2)) == (lb.map (·.2)))) ∧ Ext w0 w1) := by
 refine callsR_of_cw (args := [va, vb]) Try.func18 rfl Try.ntmps18 Try.results18 rfl ?_
 have hm0 : Mem w0 (restOf w0) [] := Mem.of_world w0
 refine sR <| rw_q rfl (ev_assign (v := (bl false)) rfl) ?_
 refine rN (cw_seq (sR ?_))
 refine rM rfl (v := va) rfl <| rw_q (v := (i64 (la.length : Int))) rfl (ev_len_rd (RdL.row (RdL.ofRest (R := (restOf w0)) hla hm0)) uT22 rfl) <| rM rfl (v := vb) rfl <| rw_q (v := (i64 (lb.length : Int))) rfl (ev_len_rd (RdL.row (RdL.ofRest (R := (restOf w0)) hlb hm0)) uT22 rfl) <| rw_q rfl (ev_i64_neq rfl rfl) <| rN ?_
 refine cw_cond rfl (fun hc1 => ?_) (fun hc1 => ?_)
 · -- true
   have hc1p := bne_iff_ne.1 hc1
   refine sR <| rw_q rfl (ev_assign (v := (bl false)) rfl) ?_
   refine rN (cw_ret (kThen_ret ?_))
   refine fnPost_ret [(bl false)] ⟨rfl, trivial⟩ ?_
   exact ⟨congrArg bl (sl_len (by simpa using hc1)).symm, hm0.toExt⟩
 · -- false
   have hc1p := eq_of_bne_false hc1
   refine cw_skip (kThen_normal (cw_seq (sR ?_)))
   refine rw_q rfl (ev_assign (v := (i64 0)) rfl) ?_
   refine rN (cw_block ?_)
   refine cw_loop (fun g wv => ∃ (k : Nat), (k ≤ la.length) ∧ ((la.map (·.2)).take k = (lb.map (·.2)).take k) ∧ g 0 = va ∧ g 1 = vb ∧ g 5 = (i64 (k : Int)) ∧ g 10 = (bl ((la.length : Int) != (lb.length : Int))) ∧ Mem wv (restOf w0) []) (fun g wv => ((la.length : Int) - RowKit.intOf (g 5)).toNat) ?_ ?_
   · exact ⟨0, (Nat.zero_le _), rfl, rfl, rfl, rfl, rfl, hm0⟩
   · rintro fr2 w3 ⟨k, hk, hpre, s0, s1, s5, s10, hm3⟩
     have z5 := s5
     refine cw_seq (sR ?_)
     refine rM rfl s5 <| rM rfl s0 <| rw_q (v := (i64 (la.length : Int))) rfl (ev_len_rd (RdL.row (RdL.ofRest (R := (restOf w0)) hla hm3)) uT22 rfl) <| rw_q rfl (ev_i64_lss rfl rfl) <| rN ?_
     refine cw_cond rfl (fun hc4 => ?_) (fun hc4 => ?_)
     · -- true
       have hc4p := of_decide_eq_true hc4
       have hek := hre _ (getD_mem (d := sl0) (show k < la.length by omega))
       refine cw_skip (kThen_normal (cw_seq (cw_block (cw_seq ?_))))
       refine cw_draw [(0, false), (1, false), (2, false), (3, false), (4, false), (5, false), (6, false), (7, false)] 8 (by kernel_rfl) <| dM rfl rfl s0 <| dM rfl rfl s5 <| dw_q rfl rfl (fun _ _hx => ev_indexAddr_rdv (RdL.row (RdL.ofRest (R := (restOf w0)) hla (hm3.ext _hx))) uT22 ti23 rfl rfl oM sL) <| dw_q (v := (slv (la.getD k sl0))) rfl rfl (fun _ _hx => ev_load_rdD (l := la) (i := (k : Int)) (dflt := sl0) (RdL.row (RdL.ofRest (R := (restOf w0)) hla (hm3.ext _hx))) uT23 rfl oM sL rfl) <| dM rfl rfl s1 ?_
       refine dM rfl rfl s5 <| dw_q rfl rfl (fun _ _hx => ev_indexAddr_rdv (RdL.row (RdL.ofRest (R := (restOf w0)) hlb (hm3.ext _hx))) uT22 ti23 rfl rfl oM sL) <| dw_q (v := (slv (lb.getD k sl0))) rfl rfl (fun _ _hx => ev_load_rdD (l := lb) (i := (k : Int)) (dflt := sl0) (RdL.row (RdL.ofRest (R := (restOf w0)) hlb (hm3.ext _hx))) uT23 rfl oM sL rfl) ?_
       refine dw_nil (fun w5 _ew5 => ?_)
       have hm5 := hm3.ext _ew5
       refine rw_c rfl (opR_call Try.func36 bd36 nm36 (args2 rfl rfl) (c_same (slv (la.getD k sl0)) (slv (lb.getD k sl0)) ((la.getD k sl0).2) ((lb.getD k sl0).2) _ (RdL.get (k := k) (RdL.ofRest (R := (restOf w0)) hla hm5) sL) (RdL.get (k := k) (RdL.ofRest (R := (restOf w0)) hlb hm5) sL) sL)) ?_
       rintro _ w6 ⟨rfl, _ew6⟩
       have hm6 := hm5.ext _ew6
       refine rw_q rfl (ev_not rfl) <| rN ?_
       refine cw_cond rfl (fun hc8 => ?_) (fun hc8 => ?_)
       · -- true
         have hc8n : (((la.getD k sl0).2) == ((lb.getD k sl0).2)) = false := by simpa using hc8
         have hc8p := ne_of_beq_false hc8n
         refine sR <| rw_q rfl (ev_assign (v := (bl false)) rfl) ?_
         refine rN (cw_ret ?_)
         refine kBlk_ret (kThen_ret (kBlk_ret ?_))
         refine fnPost_ret [(bl false)] ⟨rfl, trivial⟩ ?_
         exact ⟨congrArg bl (sl_at (k := k) (by rw [← snd_getD (ls := la) rfl oM, ← snd_getD (ls := lb) rfl oM]; simpa using hc8)).symm, hm6.toExt⟩
       · -- false
         have hc8n : (((la.getD k sl0).2) == ((lb.getD k sl0).2)) = true := by simpa using hc8
         have hc8p := eq_of_beq hc8n
         refine cw_skip (kBlk_normal (cw_region ?_))
         refine rM rfl s5 <| rw_q rfl (ev_i64_add (b := 1) rfl rfl oM oM) <| rw_q rfl (ev_assign (v := (i64 ((k : Int) + 1))) rfl) <| rN ?_
         exact ⟨⟨(k + 1), oM, (sl_step (by simp; omega) (by simp; omega) hpre (by rw [← snd_getD (ls := la) rfl oM, ← snd_getD (ls := lb) rfl oM]; simpa using hc8)), s0, s1, rfl, s10, hm6⟩, meas (rfl) z5 oM oM⟩
     · -- false
       have hc4p := of_decide_eq_false hc4
       refine cw_exit ?_
       refine kThen_exit (kThen_exit (kBlk_hit ?_))
       refine sR <| rw_q rfl (ev_assign (v := (bl true)) rfl) ?_
       refine rN (cw_ret ?_)
       refine fnPost_ret [(bl true)] ⟨rfl, trivial⟩ ?_
       exact ⟨congrArg bl (sl_all (by simp; omega) (by rw [List.length_map, show la.length = k by omega]; exact hpre)).symm, hm3.toExt⟩


end Go.Proofs.Ytfbnhoolkajebaa
