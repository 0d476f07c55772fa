/- Contracts: bundles' bytes. Conditions: none beyond those that each theorem states. -/
import Derived.Test.YtmiagmbgfhakgaaTab
import Derived.Test.YtmiagmbgfhakgaaFwS
namespace Go.Proofs.Ytmiagmbgfhakgaa
set_option linter.unusedVariables false
set_option linter.unusedSimpArgs false
theorem told_true {α : Type} [BEq α] [LawfulBEq α] {a b : α} (h : a = b) : (a == b) = true := by rw [h]; exact beq_self_eq_true b
theorem told_ne {α : Type} [BEq α] [LawfulBEq α] {a b : α} (h : a = b) : (a != b) = false := by rw [h]; simp
theorem told_two {α : Type} [BEq α] [LawfulBEq α] {a b c d : α} (h : a = b) (h' : c = d) : (a == b && c == d) = true := by rw [h, h']; simp
def joinB (ps : List (Value × List (BitVec 8))) : List (BitVec 8) := ps.flatMap Prod.snd
def encB (id pk : List (BitVec 8)) : List (BitVec 8) := 1#8 :: (id ++ pk)
@[simp] theorem encB_length (id pk : List (BitVec 8)) : (encB id pk).length = 1 + (id.length + pk.length) := by simp [encB]; omega
def okB (l : List (BitVec 8)) : Bool := l.length == 65 && l.getD 0 0 == 1#8
def decI (l : List (BitVec 8)) : List (BitVec 8) := if okB l then (l.drop 1).take 32 else List.replicate 32 0#8
def decP (l : List (BitVec 8)) : List (BitVec 8) := if okB l then (l.drop 33).take 32 else List.replicate 32 0#8
def errB (l : List (BitVec 8)) : Int := if okB l then 0 else 3
theorem ok_len {l : List (BitVec 8)} (h : okB l = true) : l.length = 65 := by unfold okB at h; simp at h; exact h.1
@[simp] theorem decI_length (l : List (BitVec 8)) : (decI l).length = 32 := by
  unfold decI; split
  · rename_i h; have := ok_len h; simp; omega
  · simp
@[simp] theorem decP_length (l : List (BitVec 8)) : (decP l).length = 32 := by
  unfold decP; split
  · rename_i h; have := ok_len h; simp; omega
  · simp
theorem ok_mk {l : List (BitVec 8)} (h : l.length = 65) (h1 : l.getD 0 0 = 1#8) : okB l = true := by unfold okB; rw [h, h1]; rfl
theorem ok_not1 {l : List (BitVec 8)} (h : ¬ l.length = 65) : okB l = false := by unfold okB; simp [h]
theorem ok_not2 {l : List (BitVec 8)} (h : ¬ l.getD 0 0 = 1#8) : okB l = false := by
  unfold okB; rw [beq_eq_false_iff_ne.2 h, Bool.and_false]
theorem dec_none {l : List (BitVec 8)} (h : okB l = false) : decI l = List.replicate 32 0#8 ∧ decP l = List.replicate 32 0#8 ∧ errB l = 3 := by
  unfold decI decP errB; rw [h]; exact ⟨rfl, rfl, rfl⟩
theorem dec_some {l : List (BitVec 8)} (h : okB l = true) : decI l = (l.drop 1).take 32 ∧ decP l = (l.drop 33).take 32 ∧ errB l = 0 := by
  unfold decI decP errB; rw [h]; exact ⟨rfl, rfl, rfl⟩
theorem enc_ok {id pk : List (BitVec 8)} (h1 : id.length = 32) (h2 : pk.length = 32) : okB (encB id pk) = true := ok_mk (by rw [encB_length, h1, h2]) rfl
theorem dec_enc {id pk : List (BitVec 8)} (h1 : id.length = 32) (h2 : pk.length = 32) : decI (encB id pk) = id ∧ decP (encB id pk) = pk ∧ errB (encB id pk) = 0 := by
  obtain ⟨e1, e2, e3⟩ := dec_some (enc_ok h1 h2)
  refine ⟨?_, ?_, e3⟩
  · rw [e1]; show (id ++ pk).take 32 = id; rw [← h1, List.take_left]
  · rw [e2]; show ((id ++ pk).drop 32).take 32 = pk; rw [← h1, List.drop_left, h1, ← h2, List.take_length]
theorem enc_dec {l : List (BitVec 8)} (h : okB l = true) : encB (decI l) (decP l) = l := by
  have hl := ok_len h
  obtain ⟨e1, e2, _⟩ := dec_some h
  have h0 : l.getD 0 0 = 1#8 := by unfold okB at h; simp at h; simpa using h.2
  match l, hl, h0, e1, e2 with
  | a :: r, hl, h0, e1, e2 =>
    have : a = 1#8 := h0
    subst this
    rw [e1, e2]
    unfold encB
    have hr : r.length = 64 := by simpa using hl
    show 1#8 :: (r.take 32 ++ (r.drop 32).take 32) = 1#8 :: r
    have : (r.drop 32).take 32 = r.drop 32 := List.take_of_length_le (by rw [List.length_drop]; omega)
    rw [this, List.take_append_drop]

theorem same_len {la lb : List (BitVec 8)} (h : (la.length : Int) ≠ (lb.length : Int)) : false = (la == lb) := by
  symm; rw [beq_eq_false_iff_ne]; rintro rfl; exact h rfl
theorem same_at {la lb : List (BitVec 8)} {k : Nat} (h : la.getD k 0 ≠ lb.getD k 0) : false = (la == lb) := by
  symm; rw [beq_eq_false_iff_ne]; rintro rfl; exact h rfl
theorem same_all {la lb : List (BitVec 8)} (h : (la.length : Int) = (lb.length : Int)) (hall : ∀ j, j < la.length → la.getD j 0 = lb.getD j 0) : true = (la == lb) := by
  symm; rw [beq_iff_eq]
  refine List.ext_getElem oM fun i h1 h2 => ?_
  have := hall i h1
  simpa [List.getD_eq_getElem?_getD, h1, h2] using this
theorem same_step {la lb : List (BitVec 8)} {k : Nat} (heq : ∀ j, j < k → la.getD j 0 = lb.getD j 0) (h : la.getD k 0 = lb.getD k 0) : ∀ j, j < k + 1 → la.getD j 0 = lb.getD j 0 := by
  intro j hj
  rcases Nat.lt_or_ge j k with h1 | h1
  · exact heq j h1
  · have : j = k := by omega
    subst this; exact h

theorem c_same (va vb : Value) (la lb : List (BitVec 8)) (w0 : World)  (hra : Rd (blks w0) u8 va la) (hrb : Rd (blks w0) u8 vb lb) (hla : la.length ≤ 281474976710656) : CallsR Try.prog 9 #[va, vb] w0 (fun r w1 => r = (bl (la == lb)) ∧ Ext w0 w1) := by
 refine callsR_of_cw (args := [va, vb]) Try.func9 rfl Try.ntmps9 Try.results9 rfl ?_
 have hm0 : Mem w0 (restOf w0) [] := Mem.of_world w0
 refine cw_seq (cw_region ?_)
 refine rw_q rfl (ev_assign (v := (bl false)) rfl) ?_
 refine rw_nil (kThen_normal (cw_seq (cw_seq (cw_region ?_))))
 refine rM rfl (v := va) rfl <| rw_q (v := (i64 (la.length : Int))) rfl (ev_len_rd (Rd.ofRest hra hm0) uT26 rfl) <| rM rfl (v := vb) rfl <| rw_q (v := (i64 (lb.length : Int))) rfl (ev_len_rd (Rd.ofRest hrb hm0) uT26 rfl) <| rw_q rfl (ev_i64_neq rfl rfl) ?_
 refine rw_nil (kThen_normal ?_)
 refine cw_cond rfl (fun hc1 => ?_) (fun hc1 => ?_)
 · -- true
   have hc1p := bne_iff_ne.1 hc1
   refine cw_seq (cw_region ?_)
   refine rw_q rfl (ev_assign (v := (bl false)) rfl) ?_
   refine rw_nil (kThen_normal (cw_ret (kThen_ret ?_)))
   refine fnPost_ret [(bl false)] ⟨rfl, trivial⟩ ?_
   exact ⟨congrArg bl (same_len hc1p), hm0.toExt⟩
 · -- false
   have hc1p := eq_of_bne_false hc1
   refine cw_skip (kThen_normal (cw_seq (cw_seq (cw_region ?_))))
   refine rw_q rfl (ev_assign (v := (i64 0)) rfl) ?_
   refine rw_nil (kThen_normal (cw_block ?_))
   refine cw_loop (fun g wv => ∃ (k : Nat), (k ≤ la.length) ∧ (∀ j, j < k → la.getD j 0 = lb.getD j 0) ∧ g 0 = va ∧ g 1 = vb ∧ g 5 = (i64 (k : Int)) ∧ g 10 = (bl ((la.length : Int) != (lb.length : Int))) ∧ Mem wv (restOf w0) []) (fun g wv => ((la.length : Int) - RowKit.intOf (g 5)).toNat) ?_ ?_
   · exact ⟨0, oM, (by intro j hj; omega), rfl, rfl, rfl, rfl, hm0⟩
   · rintro fr2 w3 ⟨k, hk, heq, s0, s1, s5, s10, hm3⟩
     have z5 := s5
     refine cw_seq (cw_seq (cw_region ?_))
     refine rM rfl s5 <| rM rfl s0 <| rw_q (v := (i64 (la.length : Int))) rfl (ev_len_rd (Rd.ofRest hra hm3) uT26 rfl) <| rw_q rfl (ev_i64_lss rfl rfl) ?_
     refine rw_nil (kThen_normal ?_)
     refine cw_cond rfl (fun hc4 => ?_) (fun hc4 => ?_)
     · -- true
       have hc4p := of_decide_eq_true hc4
       refine cw_skip (kThen_normal (cw_seq (cw_block (cw_seq ?_))))
       refine cw_draw [(0, false), (1, false), (2, false), (3, false), (4, false), (5, false), (6, false), (7, false)] 8 (by kernel_rfl) <| dM rfl rfl s0 <| dM rfl rfl s5 <| dw_q rfl rfl (fun _ _hx => ev_indexAddr_rdv (Rd.ofRest hra (hm3.ext _hx)) uT26 ti5 rfl rfl oM sD) <| dw_q (v := (u8 (la.getD k 0))) rfl rfl (fun _ _hx => ev_load_rdD (l := la) (i := (k : Int)) (dflt := 0) (Rd.ofRest hra (hm3.ext _hx)) uT5 rfl oM sD rfl) <| dM rfl rfl s1 ?_
       refine dM rfl rfl s5 <| dw_q rfl rfl (fun _ _hx => ev_indexAddr_rdv (Rd.ofRest hrb (hm3.ext _hx)) uT26 ti5 rfl rfl oM sD) <| dw_q (v := (u8 (lb.getD k 0))) rfl rfl (fun _ _hx => ev_load_rdD (l := lb) (i := (k : Int)) (dflt := 0) (Rd.ofRest hrb (hm3.ext _hx)) uT5 rfl oM sD rfl) ?_
       refine dw_nil (fun w5 _ew5 => ?_)
       have hm5 := hm3.ext _ew5
       refine rw_q rfl (ev_u8_neq rfl rfl) ?_
       refine rw_nil (kThen_normal ?_)
       refine CW.abs (fun g => g 0 = va ∧ g 1 = vb ∧ g 5 = (i64 (k : Int)) ∧ g 10 = (bl ((la.length : Int) != (lb.length : Int))) ∧ g 14 = (bl (decide ((k : Int) < (la.length : Int)))) ∧ g 25 = (bl ((la.getD k 0) != (lb.getD k 0))) ∧ True) ⟨s0, s1, s5, s10, rfl, rfl, trivial⟩ ?_
       rintro fr6 ⟨s0, s1, s5, s10, s14, s25, _⟩
       refine cw_cond s25 (fun hc7 => ?_) (fun hc7 => ?_)
       · -- true
         have hc7p := bne_iff_ne.1 hc7
         refine cw_seq (cw_region ?_)
         refine rw_q rfl (ev_assign (v := (bl false)) rfl) ?_
         refine rw_nil (kThen_normal (cw_ret ?_))
         refine kBlk_ret (kThen_ret (kBlk_ret ?_))
         refine fnPost_ret [(bl false)] ⟨rfl, trivial⟩ ?_
         exact ⟨congrArg bl (same_at hc7p), hm5.toExt⟩
       · -- false
         have hc7p := eq_of_bne_false hc7
         refine cw_skip (kBlk_normal (cw_region ?_))
         refine rM rfl s5 <| rw_q rfl (ev_i64_add (b := 1) rfl rfl oM oM) <| rw_q rfl (ev_assign (v := (i64 ((k : Int) + 1))) rfl) ?_
         refine rw_nil (kThen_normal ?_)
         exact ⟨⟨k + 1, oM, (same_step heq hc7p), s0, s1, rfl, s10, hm5⟩, meas rfl z5 oM oM⟩
     · -- false
       have hc4p := of_decide_eq_false hc4
       refine cw_exit ?_
       refine kThen_exit (kThen_exit (kBlk_hit ?_))
       refine cw_seq (cw_region ?_)
       refine rw_q rfl (ev_assign (v := (bl true)) rfl) ?_
       refine rw_nil (kThen_normal (cw_ret ?_))
       refine fnPost_ret [(bl true)] ⟨rfl, trivial⟩ ?_
       exact ⟨congrArg bl (same_all hc1p (fun j hj => heq j oM)), hm3.toExt⟩

set_option maxHeartbeats 1000000 in
theorem c_join3 (vp : Value) (ps : List (Value × List (BitVec 8))) (w0 : World)  (hrp : Rd (blks w0) Prod.fst vp ps) (hps : ∀ p ∈ ps, Rd (blks w0) u8 p.1 p.2) (h3 : ∃ va la vb lb vc lc, ps = [(va, la), (vb, lb), (vc, lc)] ∧ la.length = 1 ∧ lb.length = 32 ∧ lc.length = 32) : CallsR Try.prog 20 #[vp, (Value.slice none 0 0)] w0 (fun r w1 => ∃ Hs, Grow u8 5 r (joinB ps) Hs ∧ Mem w1 (restOf w0) Hs) := by
 refine callsR_of_cw (args := [vp, (Value.slice none 0 0)]) Try.func20 rfl Try.ntmps20 Try.results20 rfl ?_
 have hm0 : Mem w0 (restOf w0) [] := Mem.of_world w0
 obtain ⟨va, la, vb, lb, vc, lc, rfl, hla, hlb, hlc⟩ := h3
 have hva := hps (va, la) (by simp); have hvb := hps (vb, lb) (by simp); have hvc := hps (vc, lc) (by simp)
 have hva : Rd (blks w0) u8 va la := hva; have hvb : Rd (blks w0) u8 vb lb := hvb; have hvc : Rd (blks w0) u8 vc lc := hvc
 refine cw_seq (cw_region ?_)
 refine rw_q rfl (ev_assign (v := (Value.slice none 0 0)) rfl) ?_
 refine rw_nil (kThen_normal (cw_seq (cw_seq (cw_region ?_))))
 refine rM rfl (v := vp) rfl <| rw_q (v := (i64 3)) rfl (ev_len_rd (l := [(va, la), (vb, lb), (vc, lc)]) (Rd.ofRest hrp hm0) uT43 rfl) <| rw_q rfl (ev_i64_eql (a := 3) (b := 0) rfl rfl) ?_
 refine rw_nil (kThen_normal ?_)
 refine cw_cond_f rfl (by decide) ?_
 refine cw_skip (kThen_normal (cw_seq (cw_seq (cw_region ?_))))
 refine rM rfl (v := vp) rfl <| rw_q (v := (i64 3)) rfl (ev_len_rd (l := [(va, la), (vb, lb), (vc, lc)]) (Rd.ofRest hrp hm0) uT43 rfl) <| rw_q rfl (ev_i64_eql (a := 3) (b := 1) rfl rfl) ?_
 refine rw_nil (kThen_normal ?_)
 refine cw_cond_f rfl (by decide) ?_
 refine cw_skip (kThen_normal (cw_seq (cw_region ?_)))
 refine rw_q rfl (ev_assign (v := (i64 0)) rfl) ?_
 refine rw_nil (kThen_normal (cw_seq (cw_seq (cw_region ?_))))
 refine rw_q rfl (ev_move (v := (Value.slice none 0 0)) rfl) <| rw_q (v := (i64 ((0 : Nat) : Int))) rfl (ev_len_sl uT26 rfl) <| rw_q rfl (ev_i64_gtr (b := 0) rfl rfl) ?_
 refine rw_nil (kThen_normal ?_)
 refine CW.abs (fun g => g 0 = vp ∧ g 1 = (Value.slice none 0 0) ∧ g 4 = (Value.slice none 0 0) ∧ g 5 = (i64 0) ∧ g 14 = (bl false) ∧ g 18 = (bl false) ∧ g 25 = (bl (decide (0 < ((0 : Nat) : Int)))) ∧ True) ⟨rfl, rfl, rfl, rfl, rfl, rfl, rfl, trivial⟩ ?_
 rintro fr1 ⟨s0, s1, s4, s5, s14, s18, s25, _⟩
 have hd2 : (decide (0 < ((0 : Nat) : Int))) = false := decide_eq_false oM
 refine cw_cond_f s25 hd2 ?_
 refine cw_skip (kThen_normal (cw_seq (cw_seq (cw_region ?_))))
 refine rM rfl s0 <| rw_q (v := (i64 3)) rfl (ev_len_rd (l := [(va, la), (vb, lb), (vc, lc)]) (Rd.ofRest hrp hm0) uT43 rfl) <| rw_q rfl (ev_move (v := (i64 0)) rfl) ?_
 refine rw_nil (kThen_normal (cw_block ?_))
 refine cw_rounds 4 ?_
 refine cr_succ (cw_seq (cw_region ?_))
 refine rw_q rfl (ev_i64_lss (a := 0) (b := 3) rfl rfl) ?_
 refine rw_nil (kThen_normal (cw_seq ?_))
 refine cw_cond_t rfl (by decide) ?_
 refine cw_skip (kThen_normal (cw_seq (cw_block (cw_seq (cw_region ?_)))))
 refine rw_q rfl (ev_indexAddr_rdv (i := 0) (Rd.ofRest hrp hm0) uT43 ti26 rfl rfl oM (by simp)) <| rw_q (v := va) rfl (ev_load_rdD (l := [(va, la), (vb, lb), (vc, lc)]) (i := 0) (dflt := (undef, [])) (Rd.ofRest hrp hm0) uT26 rfl oM (by simp) rfl) <| rA rfl (v := va) rfl ?_
 refine rw_nil (kThen_normal (cw_seq (cw_seq (cw_region ?_))))
 refine rM rfl (v := va) rfl <| rw_q (v := (i64 (la.length : Int))) rfl (ev_len_rd (Rd.ofRest hva hm0) uT26 rfl) <| rM rfl s5 <| rw_q (v := (i64 9223372036854775807)) rfl (ev_i64_sub (a := 9223372036854775807) (b := 0) rfl rfl oM oM) <| rw_q rfl (ev_i64_gtr (b := 9223372036854775807) rfl rfl) ?_
 refine rw_nil (kThen_normal ?_)
 refine CW.abs (fun g => g 0 = vp ∧ g 1 = (Value.slice none 0 0) ∧ g 4 = (Value.slice none 0 0) ∧ g 5 = (i64 0) ∧ g 7 = va ∧ g 14 = (bl false) ∧ g 18 = (bl false) ∧ g 25 = (bl (decide (0 < ((0 : Nat) : Int)))) ∧ g 42 = vp ∧ g 43 = (i64 3) ∧ g 44 = (i64 0) ∧ g 45 = (bl true) ∧ g 52 = (bl (decide (9223372036854775807 < (la.length : Int)))) ∧ True) ⟨s0, s1, s4, s5, rfl, s14, s18, s25, rfl, rfl, rfl, rfl, rfl, trivial⟩ ?_
 rintro fr3 ⟨s0, s1, s4, s5, s7, s14, s18, s25, s42, s43, s44, s45, s52, _⟩
 have hd4 : (decide (9223372036854775807 < (la.length : Int))) = false := decide_eq_false oM
 refine cw_cond_f s52 hd4 ?_
 refine cw_skip (kThen_normal (cw_region ?_))
 refine rM rfl s5 <| rM rfl s7 <| rw_q (v := (i64 (la.length : Int))) rfl (ev_len_rd (Rd.ofRest hva hm0) uT26 rfl) <| rw_q rfl (ev_i64_add (a := 0) rfl rfl oM oM) <| rw_q rfl (ev_assign (v := (i64 (0 + (la.length : Int)))) rfl) ?_
 refine rw_nil (kBlk_normal (cw_region ?_))
 refine rw_q (v := (i64 1)) rfl (ev_i64_add (a := 0) (b := 1) s44 rfl oM oM) <| rw_q rfl (ev_move (v := (i64 1)) rfl) ?_
 refine rw_nil (kThen_normal (cr_succ (cw_seq (cw_region ?_))))
 refine rw_q rfl (ev_i64_lss (a := 1) (b := 3) rfl s43) ?_
 refine rw_nil (kThen_normal (cw_seq ?_))
 refine cw_cond_t rfl (by decide) ?_
 refine cw_skip (kThen_normal (cw_seq (cw_block (cw_seq (cw_region ?_)))))
 refine rw_q rfl (ev_indexAddr_rdv (i := 1) (Rd.ofRest hrp hm0) uT43 ti26 s42 rfl oM (by simp)) <| rw_q (v := vb) rfl (ev_load_rdD (l := [(va, la), (vb, lb), (vc, lc)]) (i := 1) (dflt := (undef, [])) (Rd.ofRest hrp hm0) uT26 rfl oM (by simp) rfl) <| rA rfl (v := vb) rfl ?_
 refine rw_nil (kThen_normal ?_)
 refine CW.abs (fun g => g 0 = vp ∧ g 1 = (Value.slice none 0 0) ∧ g 4 = (Value.slice none 0 0) ∧ g 5 = (i64 (0 + (la.length : Int))) ∧ g 7 = vb ∧ g 14 = (bl false) ∧ g 18 = (bl false) ∧ g 25 = (bl (decide (0 < ((0 : Nat) : Int)))) ∧ g 42 = vp ∧ g 43 = (i64 3) ∧ g 44 = (i64 1) ∧ g 45 = (bl true) ∧ g 52 = (bl (decide (9223372036854775807 < (la.length : Int)))) ∧ True) ⟨s0, s1, s4, rfl, rfl, s14, s18, s25, s42, s43, rfl, rfl, s52, trivial⟩ ?_
 rintro fr5 ⟨s0, s1, s4, s5, s7, s14, s18, s25, s42, s43, s44, s45, s52, _⟩
 refine cw_seq (cw_seq (cw_region ?_))
 refine rM rfl s7 <| rw_q (v := (i64 (lb.length : Int))) rfl (ev_len_rd (Rd.ofRest hvb hm0) uT26 rfl) <| rM rfl s5 <| rw_q rfl (ev_i64_sub (a := 9223372036854775807) rfl rfl oM oM) <| rw_q rfl (ev_i64_gtr rfl rfl) ?_
 refine rw_nil (kThen_normal ?_)
 have hd6 : (decide ((9223372036854775807 - (0 + (la.length : Int))) < (lb.length : Int))) = false := decide_eq_false oM
 refine cw_cond_f rfl hd6 ?_
 refine cw_skip (kThen_normal (cw_region ?_))
 refine rM rfl s5 <| rM rfl s7 <| rw_q (v := (i64 (lb.length : Int))) rfl (ev_len_rd (Rd.ofRest hvb hm0) uT26 rfl) <| rw_q rfl (ev_i64_add rfl rfl oM oM) <| rw_q rfl (ev_assign (v := (i64 ((0 + (la.length : Int)) + (lb.length : Int)))) rfl) ?_
 refine rw_nil (kBlk_normal (cw_region ?_))
 refine rw_q (v := (i64 2)) rfl (ev_i64_add (a := 1) (b := 1) s44 rfl oM oM) <| rw_q rfl (ev_move (v := (i64 2)) rfl) ?_
 refine rw_nil (kThen_normal ?_)
 refine CR.abs (fun g => g 0 = vp ∧ g 1 = (Value.slice none 0 0) ∧ g 4 = (Value.slice none 0 0) ∧ g 5 = (i64 ((0 + (la.length : Int)) + (lb.length : Int))) ∧ g 7 = vb ∧ g 14 = (bl false) ∧ g 18 = (bl false) ∧ g 25 = (bl (decide (0 < ((0 : Nat) : Int)))) ∧ g 42 = vp ∧ g 43 = (i64 3) ∧ g 44 = (i64 2) ∧ g 45 = (bl true) ∧ g 52 = (bl (decide ((9223372036854775807 - (0 + (la.length : Int))) < (lb.length : Int)))) ∧ True) ⟨s0, s1, s4, rfl, s7, s14, s18, s25, s42, s43, rfl, s45, rfl, trivial⟩ ?_
 rintro fr7 ⟨s0, s1, s4, s5, s7, s14, s18, s25, s42, s43, s44, s45, s52, _⟩
 refine cr_succ (cw_seq (cw_region ?_))
 refine rw_q rfl (ev_i64_lss (a := 2) (b := 3) s44 s43) ?_
 refine rw_nil (kThen_normal (cw_seq ?_))
 refine cw_cond_t rfl (by decide) ?_
 refine cw_skip (kThen_normal (cw_seq (cw_block (cw_seq (cw_region ?_)))))
 refine rw_q rfl (ev_indexAddr_rdv (i := 2) (Rd.ofRest hrp hm0) uT43 ti26 s42 s44 oM (by simp)) <| rw_q (v := vc) rfl (ev_load_rdD (l := [(va, la), (vb, lb), (vc, lc)]) (i := 2) (dflt := (undef, [])) (Rd.ofRest hrp hm0) uT26 rfl oM (by simp) rfl) <| rA rfl (v := vc) rfl ?_
 refine rw_nil (kThen_normal (cw_seq (cw_seq (cw_region ?_))))
 refine rM rfl (v := vc) rfl <| rw_q (v := (i64 (lc.length : Int))) rfl (ev_len_rd (Rd.ofRest hvc hm0) uT26 rfl) <| rM rfl s5 <| rw_q rfl (ev_i64_sub (a := 9223372036854775807) rfl rfl oM oM) <| rw_q rfl (ev_i64_gtr rfl rfl) ?_
 refine rw_nil (kThen_normal ?_)
 have hd8 : (decide ((9223372036854775807 - ((0 + (la.length : Int)) + (lb.length : Int))) < (lc.length : Int))) = false := decide_eq_false oM
 refine cw_cond_f rfl hd8 ?_
 refine cw_skip (kThen_normal (cw_region ?_))
 refine rM rfl s5 <| rM rfl (v := vc) rfl <| rw_q (v := (i64 (lc.length : Int))) rfl (ev_len_rd (Rd.ofRest hvc hm0) uT26 rfl) <| rw_q rfl (ev_i64_add rfl rfl oM oM) <| rw_q rfl (ev_assign (v := (i64 (((0 + (la.length : Int)) + (lb.length : Int)) + (lc.length : Int)))) rfl) ?_
 refine rw_nil (kBlk_normal ?_)
 refine CW.abs (fun g => g 0 = vp ∧ g 1 = (Value.slice none 0 0) ∧ g 4 = (Value.slice none 0 0) ∧ g 5 = (i64 (((0 + (la.length : Int)) + (lb.length : Int)) + (lc.length : Int))) ∧ g 7 = vc ∧ g 14 = (bl false) ∧ g 18 = (bl false) ∧ g 25 = (bl (decide (0 < ((0 : Nat) : Int)))) ∧ g 42 = vp ∧ g 43 = (i64 3) ∧ g 44 = (i64 2) ∧ g 45 = (bl true) ∧ g 52 = (bl (decide ((9223372036854775807 - ((0 + (la.length : Int)) + (lb.length : Int))) < (lc.length : Int)))) ∧ True) ⟨s0, s1, s4, rfl, rfl, s14, s18, s25, s42, s43, s44, rfl, rfl, trivial⟩ ?_
 rintro fr9 ⟨s0, s1, s4, s5, s7, s14, s18, s25, s42, s43, s44, s45, s52, _⟩
 refine cw_region <| rw_q (v := (i64 3)) rfl (ev_i64_add (a := 2) (b := 1) s44 rfl oM oM) <| rw_q rfl (ev_move (v := (i64 3)) rfl) ?_
 refine rw_nil (kThen_normal (cr_succ (cw_seq (cw_region ?_))))
 refine rw_q rfl (ev_i64_lss (a := 3) (b := 3) rfl s43) ?_
 refine rw_nil (kThen_normal (cw_seq ?_))
 refine cw_cond_f rfl (by decide) <| cw_exit ?_
 refine kThen_exit (kThen_exit (kBlk_hit ?_))
 refine cw_seq (cw_region ?_)
 refine rM rfl s5 <| rw_c rfl (or_noZero (ps := #[3]) (n := (((0 + (la.length : Int)) + (lb.length : Int)) + (lc.length : Int) : Int).toNat) hm0 Try.func32 (by kernel_rfl) (by kernel_rfl) (by kernel_rfl) (by kernel_rfl) uT26 rfl oM oM) ?_
 rintro sv10 w10 ⟨mz10, Hs10, hlmz10, g10, hm10⟩
 refine rM rfl s5 <| rM rfl s5 <| rw_q rfl (ev_slice3_rd (j := ((0 + (la.length : Int)) + (lb.length : Int)) + (lc.length : Int)) (g10.rd hm10) uT26 ti5 rfl rfl rfl oM sD) <| rA rfl rfl ?_
 refine rw_nil (kThen_normal (cw_seq (cw_region ?_)))
 refine rM rfl rfl <| rM rfl s0 <| rw_q rfl (ev_indexAddr_rdv (i := 0) (Rd.ofRest hrp hm10) uT43 ti26 rfl rfl oM (by simp)) <| rw_q (v := va) rfl (ev_load_rdD (l := [(va, la), (vb, lb), (vc, lc)]) (i := 0) (dflt := (undef, [])) (Rd.ofRest hrp hm10) uT26 rfl oM (by simp) rfl) <| rw_c rfl (or_copy_grow (f := u8) (d := ([] : List (BitVec 8))) (base := mz10.take (((0 + (la.length : Int)) + (lb.length : Int)) + (lc.length : Int) : Int).toNat) (ms := la) (i := 0) (j := ((mz10.take (((0 + (la.length : Int)) + (lb.length : Int)) + (lc.length : Int) : Int).toNat).length : Int)) (q := (la.length : Int)) (Hs := Hs10) (H := []) hm10 (Grow.cast (l' := ([] : List (BitVec 8)) ++ (mz10.take (((0 + (la.length : Int)) + (lb.length : Int)) + (lc.length : Int) : Int).toNat).drop ([] : List (BitVec 8)).length) (Grow.cut (j := ((0 + (la.length : Int)) + (lb.length : Int)) + (lc.length : Int)) g10 oM sD) (by simp)) (Eq.trans rfl (subv0 (Grow.cut (j := ((0 + (la.length : Int)) + (lb.length : Int)) + (lc.length : Int)) g10 oM sD) (by first | rfl | omega | (simp; done) | (simp; omega) | (simp only [List.length_append, List.length_take, List.length_drop, List.length_nil] at *; omega)))) (by first | rfl | omega | (simp; done) | (simp; omega) | (simp only [List.length_append, List.length_take, List.length_drop, List.length_nil] at *; omega)) (by first | rfl | omega | (simp; done) | (simp; omega) | (simp only [List.length_append, List.length_take, List.length_drop, List.length_nil] at *; omega)) rfl (Rd.ofRest hva hm10) uT26 ti5 u8_one (by first | rfl | omega | (simp; done) | (simp; omega) | (simp only [List.length_append, List.length_take, List.length_drop, List.length_nil] at *; omega)) (by first | rfl | omega | (simp; done) | (simp; omega) | (simp only [List.length_append, List.length_take, List.length_drop, List.length_nil] at *; omega)) rfl) ?_
 rintro _ w11 ⟨rfl, Hs11, g11, hm11⟩
 replace g11 : Grow u8 5 (sub3v sv10 0 (((0 + (la.length : Int)) + (lb.length : Int)) + (lc.length : Int)) (((0 + (la.length : Int)) + (lb.length : Int)) + (lc.length : Int))) (la ++ (mz10.take (((0 + (la.length : Int)) + (lb.length : Int)) + (lc.length : Int) : Int).toNat).drop la.length) Hs11 := Grow.cast g11 (by first | rfl | simp)
 refine rw_q rfl (ev_assign (v := (i64 (la.length : Int))) rfl) ?_
 refine rw_nil (kThen_normal ?_)
 refine CW.abs (fun g => g 0 = vp ∧ g 1 = (Value.slice none 0 0) ∧ g 4 = (Value.slice none 0 0) ∧ g 5 = (i64 (((0 + (la.length : Int)) + (lb.length : Int)) + (lc.length : Int))) ∧ g 7 = vc ∧ g 8 = (sub3v sv10 0 (((0 + (la.length : Int)) + (lb.length : Int)) + (lc.length : Int)) (((0 + (la.length : Int)) + (lb.length : Int)) + (lc.length : Int))) ∧ g 9 = (i64 (la.length : Int)) ∧ g 14 = (bl false) ∧ g 18 = (bl false) ∧ g 25 = (bl (decide (0 < ((0 : Nat) : Int)))) ∧ g 42 = vp ∧ g 43 = (i64 3) ∧ g 44 = (i64 3) ∧ g 45 = (bl false) ∧ g 52 = (bl (decide ((9223372036854775807 - ((0 + (la.length : Int)) + (lb.length : Int))) < (lc.length : Int)))) ∧ True) ⟨s0, s1, s4, s5, s7, rfl, rfl, s14, s18, s25, s42, s43, rfl, rfl, s52, trivial⟩ ?_
 rintro fr12 ⟨s0, s1, s4, s5, s7, s8, s9, s14, s18, s25, s42, s43, s44, s45, s52, _⟩
 refine cw_seq (cw_seq (cw_region ?_))
 refine rM rfl s0 <| rw_q rfl (ev_slice_rd (i := 1) (j := (([(va, la), (vb, lb), (vc, lc)]).length : Int)) (Rd.ofRest hrp hm11) uT43 ti26 rfl (optI_some (k := .i64) (i := 1) rfl) (optI_none _ _) oM sD sD) <| rw_q (v := (i64 2)) rfl (ev_len_rd (l := [(vb, lb), (vc, lc)]) (Rd.cast (l' := [(vb, lb), (vc, lc)]) (Rd.sub (Rd.ofRest hrp hm11) oM sD sD) rfl) uT43 rfl) <| rw_q rfl (ev_move (v := (i64 0)) rfl) ?_
 refine rw_nil (kThen_normal (cw_block ?_))
 refine cw_rounds 3 ?_
 refine cr_succ (cw_seq (cw_region ?_))
 refine rw_q rfl (ev_i64_lss (a := 0) (b := 2) rfl rfl) ?_
 refine rw_nil (kThen_normal (cw_seq ?_))
 refine cw_cond_t rfl (by decide) ?_
 refine cw_skip (kThen_normal (cw_seq (cw_block (cw_seq (cw_region ?_)))))
 refine rw_q rfl (ev_indexAddr_rdv (i := 0) (Rd.cast (l' := [(vb, lb), (vc, lc)]) (Rd.sub (Rd.ofRest hrp hm11) oM sD sD) rfl) uT43 ti26 rfl rfl oM (by simp)) <| rw_q (v := vb) rfl (ev_load_rdD (l := [(vb, lb), (vc, lc)]) (i := 0) (dflt := (undef, [])) (Rd.cast (l' := [(vb, lb), (vc, lc)]) (Rd.sub (Rd.ofRest hrp hm11) oM sD sD) rfl) uT26 rfl oM (by simp) rfl) <| rA rfl (v := vb) rfl ?_
 refine rw_nil (kThen_normal (cw_seq (cw_region ?_)))
 refine rM rfl s9 <| rM rfl s8 <| rM rfl s9 <| rw_q rfl (ev_slice_rd (i := (la.length : Int)) (j := ((la ++ (mz10.take (((0 + (la.length : Int)) + (lb.length : Int)) + (lc.length : Int) : Int).toNat).drop la.length).length : Int)) (g11.rd hm11) uT26 ti5 rfl (optI_some (k := .i64) (i := (la.length : Int)) rfl) (optI_none _ _) oM sD sD) <| rM rfl s1 <| rw_c rfl (or_copy_grow (f := u8) (d := la) (base := mz10.take (((0 + (la.length : Int)) + (lb.length : Int)) + (lc.length : Int) : Int).toNat) (ms := []) (i := (la.length : Int)) (j := ((la ++ (mz10.take (((0 + (la.length : Int)) + (lb.length : Int)) + (lc.length : Int) : Int).toNat).drop la.length).length : Int)) (q := 0) (Hs := Hs11) (H := []) hm11 g11 rfl (by first | rfl | omega | (simp; done) | (simp; omega) | (simp only [List.length_append, List.length_take, List.length_drop, List.length_nil] at *; omega)) (by first | rfl | omega | (simp; done) | (simp; omega) | (simp only [List.length_append, List.length_take, List.length_drop, List.length_nil] at *; omega)) rfl (Rd.nil _ _) uT26 ti5 u8_one (by first | rfl | omega | (simp; done) | (simp; omega) | (simp only [List.length_append, List.length_take, List.length_drop, List.length_nil] at *; omega)) (by first | rfl | omega | (simp; done) | (simp; omega) | (simp only [List.length_append, List.length_take, List.length_drop, List.length_nil] at *; omega)) rfl) ?_
 rintro _ w13 ⟨rfl, Hs13, g13, hm13⟩
 replace g13 : Grow u8 5 (sub3v sv10 0 (((0 + (la.length : Int)) + (lb.length : Int)) + (lc.length : Int)) (((0 + (la.length : Int)) + (lb.length : Int)) + (lc.length : Int))) (la ++ (mz10.take (((0 + (la.length : Int)) + (lb.length : Int)) + (lc.length : Int) : Int).toNat).drop la.length) Hs13 := Grow.cast g13 (by first | rfl | simp)
 refine rw_q rfl (ev_i64_add (b := 0) rfl rfl oM oM) <| rw_q rfl (ev_assign (v := (i64 ((la.length : Int) + 0))) rfl) ?_
 refine rw_nil (kThen_normal ?_)
 refine CW.abs (fun g => g 0 = vp ∧ g 1 = (Value.slice none 0 0) ∧ g 4 = (Value.slice none 0 0) ∧ g 5 = (i64 (((0 + (la.length : Int)) + (lb.length : Int)) + (lc.length : Int))) ∧ g 7 = vc ∧ g 8 = (sub3v sv10 0 (((0 + (la.length : Int)) + (lb.length : Int)) + (lc.length : Int)) (((0 + (la.length : Int)) + (lb.length : Int)) + (lc.length : Int))) ∧ g 9 = (i64 ((la.length : Int) + 0)) ∧ g 11 = vb ∧ g 14 = (bl false) ∧ g 18 = (bl false) ∧ g 25 = (bl (decide (0 < ((0 : Nat) : Int)))) ∧ g 42 = vp ∧ g 43 = (i64 3) ∧ g 44 = (i64 3) ∧ g 45 = (bl false) ∧ g 52 = (bl (decide ((9223372036854775807 - ((0 + (la.length : Int)) + (lb.length : Int))) < (lc.length : Int)))) ∧ g 70 = (subv vp 1 (([(va, la), (vb, lb), (vc, lc)]).length : Int)) ∧ g 71 = (i64 2) ∧ g 72 = (i64 0) ∧ g 73 = (bl true) ∧ True) ⟨s0, s1, s4, s5, s7, s8, rfl, rfl, s14, s18, s25, s42, s43, s44, s45, s52, rfl, rfl, rfl, rfl, trivial⟩ ?_
 rintro fr14 ⟨s0, s1, s4, s5, s7, s8, s9, s11, s14, s18, s25, s42, s43, s44, s45, s52, s70, s71, s72, s73, _⟩
 refine cw_region <| rM rfl s9 <| rM rfl s8 <| rM rfl s9 <| rw_q rfl (ev_slice_rd (i := (la.length : Int) + 0) (j := ((la ++ (mz10.take (((0 + (la.length : Int)) + (lb.length : Int)) + (lc.length : Int) : Int).toNat).drop la.length).length : Int)) (g13.rd hm13) uT26 ti5 rfl (optI_some (k := .i64) (i := (la.length : Int) + 0) rfl) (optI_none _ _) oM sD sD) <| rM rfl s11 ?_
 refine rw_c rfl (or_copy_grow (f := u8) (d := la) (base := mz10.take (((0 + (la.length : Int)) + (lb.length : Int)) + (lc.length : Int) : Int).toNat) (ms := lb) (i := (la.length : Int) + 0) (j := ((la ++ (mz10.take (((0 + (la.length : Int)) + (lb.length : Int)) + (lc.length : Int) : Int).toNat).drop la.length).length : Int)) (q := (lb.length : Int)) (Hs := Hs13) (H := []) hm13 g13 rfl (by first | rfl | omega | (simp; done) | (simp; omega) | (simp only [List.length_append, List.length_take, List.length_drop, List.length_nil] at *; omega)) (by first | rfl | omega | (simp; done) | (simp; omega) | (simp only [List.length_append, List.length_take, List.length_drop, List.length_nil] at *; omega)) rfl (Rd.ofRest hvb hm13) uT26 ti5 u8_one (by first | rfl | omega | (simp; done) | (simp; omega) | (simp only [List.length_append, List.length_take, List.length_drop, List.length_nil] at *; omega)) (by first | rfl | omega | (simp; done) | (simp; omega) | (simp only [List.length_append, List.length_take, List.length_drop, List.length_nil] at *; omega)) rfl) ?_
 rintro _ w15 ⟨rfl, Hs15, g15, hm15⟩
 replace g15 : Grow u8 5 (sub3v sv10 0 (((0 + (la.length : Int)) + (lb.length : Int)) + (lc.length : Int)) (((0 + (la.length : Int)) + (lb.length : Int)) + (lc.length : Int))) ((la ++ lb) ++ (mz10.take (((0 + (la.length : Int)) + (lb.length : Int)) + (lc.length : Int) : Int).toNat).drop (la ++ lb).length) Hs15 := Grow.cast g15 (by first | rfl | simp)
 refine rw_q rfl (ev_i64_add rfl rfl oM oM) <| rw_q rfl (ev_assign (v := (i64 (((la.length : Int) + 0) + (lb.length : Int)))) rfl) ?_
 refine rw_nil (kBlk_normal (cw_region ?_))
 refine rw_q (v := (i64 1)) rfl (ev_i64_add (a := 0) (b := 1) s72 rfl oM oM) <| rw_q rfl (ev_move (v := (i64 1)) rfl) ?_
 refine rw_nil (kThen_normal (cr_succ (cw_seq (cw_region ?_))))
 refine rw_q rfl (ev_i64_lss (a := 1) (b := 2) rfl s71) ?_
 refine rw_nil (kThen_normal ?_)
 refine CW.abs (fun g => g 0 = vp ∧ g 1 = (Value.slice none 0 0) ∧ g 4 = (Value.slice none 0 0) ∧ g 5 = (i64 (((0 + (la.length : Int)) + (lb.length : Int)) + (lc.length : Int))) ∧ g 7 = vc ∧ g 8 = (sub3v sv10 0 (((0 + (la.length : Int)) + (lb.length : Int)) + (lc.length : Int)) (((0 + (la.length : Int)) + (lb.length : Int)) + (lc.length : Int))) ∧ g 9 = (i64 (((la.length : Int) + 0) + (lb.length : Int))) ∧ g 11 = vb ∧ g 14 = (bl false) ∧ g 18 = (bl false) ∧ g 25 = (bl (decide (0 < ((0 : Nat) : Int)))) ∧ g 42 = vp ∧ g 43 = (i64 3) ∧ g 44 = (i64 3) ∧ g 45 = (bl false) ∧ g 52 = (bl (decide ((9223372036854775807 - ((0 + (la.length : Int)) + (lb.length : Int))) < (lc.length : Int)))) ∧ g 70 = (subv vp 1 (([(va, la), (vb, lb), (vc, lc)]).length : Int)) ∧ g 71 = (i64 2) ∧ g 72 = (i64 1) ∧ g 73 = (bl true) ∧ True) ⟨s0, s1, s4, s5, s7, s8, rfl, s11, s14, s18, s25, s42, s43, s44, s45, s52, s70, s71, rfl, rfl, trivial⟩ ?_
 rintro fr16 ⟨s0, s1, s4, s5, s7, s8, s9, s11, s14, s18, s25, s42, s43, s44, s45, s52, s70, s71, s72, s73, _⟩
 refine cw_seq <| cw_cond_t s73 (by decide) ?_
 refine cw_skip (kThen_normal (cw_seq (cw_block (cw_seq (cw_region ?_)))))
 refine rw_q rfl (ev_indexAddr_rdv (i := 1) (Rd.cast (l' := [(vb, lb), (vc, lc)]) (Rd.sub (Rd.ofRest hrp hm15) oM sD sD) rfl) uT43 ti26 s70 s72 oM (by simp)) <| rw_q (v := vc) rfl (ev_load_rdD (l := [(vb, lb), (vc, lc)]) (i := 1) (dflt := (undef, [])) (Rd.cast (l' := [(vb, lb), (vc, lc)]) (Rd.sub (Rd.ofRest hrp hm15) oM sD sD) rfl) uT26 rfl oM (by simp) rfl) <| rA rfl (v := vc) rfl ?_
 refine rw_nil (kThen_normal (cw_seq (cw_region ?_)))
 refine rM rfl s9 <| rM rfl s8 <| rM rfl s9 <| rw_q rfl (ev_slice_rd (i := ((la.length : Int) + 0) + (lb.length : Int)) (j := (((la ++ lb) ++ (mz10.take (((0 + (la.length : Int)) + (lb.length : Int)) + (lc.length : Int) : Int).toNat).drop (la ++ lb).length).length : Int)) (g15.rd hm15) uT26 ti5 rfl (optI_some (k := .i64) (i := ((la.length : Int) + 0) + (lb.length : Int)) rfl) (optI_none _ _) oM sD sD) <| rM rfl s1 <| rw_c rfl (or_copy_grow (f := u8) (d := la ++ lb) (base := mz10.take (((0 + (la.length : Int)) + (lb.length : Int)) + (lc.length : Int) : Int).toNat) (ms := []) (i := ((la.length : Int) + 0) + (lb.length : Int)) (j := (((la ++ lb) ++ (mz10.take (((0 + (la.length : Int)) + (lb.length : Int)) + (lc.length : Int) : Int).toNat).drop (la ++ lb).length).length : Int)) (q := 0) (Hs := Hs15) (H := []) hm15 g15 rfl (by first | rfl | omega | (simp; done) | (simp; omega) | (simp only [List.length_append, List.length_take, List.length_drop, List.length_nil] at *; omega)) (by first | rfl | omega | (simp; done) | (simp; omega) | (simp only [List.length_append, List.length_take, List.length_drop, List.length_nil] at *; omega)) rfl (Rd.nil _ _) uT26 ti5 u8_one (by first | rfl | omega | (simp; done) | (simp; omega) | (simp only [List.length_append, List.length_take, List.length_drop, List.length_nil] at *; omega)) (by first | rfl | omega | (simp; done) | (simp; omega) | (simp only [List.length_append, List.length_take, List.length_drop, List.length_nil] at *; omega)) rfl) ?_
 rintro _ w17 ⟨rfl, Hs17, g17, hm17⟩
 replace g17 : Grow u8 5 (sub3v sv10 0 (((0 + (la.length : Int)) + (lb.length : Int)) + (lc.length : Int)) (((0 + (la.length : Int)) + (lb.length : Int)) + (lc.length : Int))) ((la ++ lb) ++ (mz10.take (((0 + (la.length : Int)) + (lb.length : Int)) + (lc.length : Int) : Int).toNat).drop (la ++ lb).length) Hs17 := Grow.cast g17 (by first | rfl | simp)
 refine rw_q rfl (ev_i64_add (b := 0) rfl rfl oM oM) <| rw_q rfl (ev_assign (v := (i64 ((((la.length : Int) + 0) + (lb.length : Int)) + 0))) rfl) ?_
 refine rw_nil (kThen_normal ?_)
 refine CW.abs (fun g => g 0 = vp ∧ g 1 = (Value.slice none 0 0) ∧ g 4 = (Value.slice none 0 0) ∧ g 5 = (i64 (((0 + (la.length : Int)) + (lb.length : Int)) + (lc.length : Int))) ∧ g 7 = vc ∧ g 8 = (sub3v sv10 0 (((0 + (la.length : Int)) + (lb.length : Int)) + (lc.length : Int)) (((0 + (la.length : Int)) + (lb.length : Int)) + (lc.length : Int))) ∧ g 9 = (i64 ((((la.length : Int) + 0) + (lb.length : Int)) + 0)) ∧ g 11 = vc ∧ g 14 = (bl false) ∧ g 18 = (bl false) ∧ g 25 = (bl (decide (0 < ((0 : Nat) : Int)))) ∧ g 42 = vp ∧ g 43 = (i64 3) ∧ g 44 = (i64 3) ∧ g 45 = (bl false) ∧ g 52 = (bl (decide ((9223372036854775807 - ((0 + (la.length : Int)) + (lb.length : Int))) < (lc.length : Int)))) ∧ g 70 = (subv vp 1 (([(va, la), (vb, lb), (vc, lc)]).length : Int)) ∧ g 71 = (i64 2) ∧ g 72 = (i64 1) ∧ g 73 = (bl true) ∧ True) ⟨s0, s1, s4, s5, s7, s8, rfl, rfl, s14, s18, s25, s42, s43, s44, s45, s52, s70, s71, s72, s73, trivial⟩ ?_
 rintro fr18 ⟨s0, s1, s4, s5, s7, s8, s9, s11, s14, s18, s25, s42, s43, s44, s45, s52, s70, s71, s72, s73, _⟩
 refine cw_region <| rM rfl s9 <| rM rfl s8 <| rM rfl s9 <| rw_q rfl (ev_slice_rd (i := (((la.length : Int) + 0) + (lb.length : Int)) + 0) (j := (((la ++ lb) ++ (mz10.take (((0 + (la.length : Int)) + (lb.length : Int)) + (lc.length : Int) : Int).toNat).drop (la ++ lb).length).length : Int)) (g17.rd hm17) uT26 ti5 rfl (optI_some (k := .i64) (i := (((la.length : Int) + 0) + (lb.length : Int)) + 0) rfl) (optI_none _ _) oM sD sD) <| rM rfl s11 ?_
 refine rw_c rfl (or_copy_grow (f := u8) (d := la ++ lb) (base := mz10.take (((0 + (la.length : Int)) + (lb.length : Int)) + (lc.length : Int) : Int).toNat) (ms := lc) (i := (((la.length : Int) + 0) + (lb.length : Int)) + 0) (j := (((la ++ lb) ++ (mz10.take (((0 + (la.length : Int)) + (lb.length : Int)) + (lc.length : Int) : Int).toNat).drop (la ++ lb).length).length : Int)) (q := (lc.length : Int)) (Hs := Hs17) (H := []) hm17 g17 rfl (by first | rfl | omega | (simp; done) | (simp; omega) | (simp only [List.length_append, List.length_take, List.length_drop, List.length_nil] at *; omega)) (by first | rfl | omega | (simp; done) | (simp; omega) | (simp only [List.length_append, List.length_take, List.length_drop, List.length_nil] at *; omega)) rfl (Rd.ofRest hvc hm17) uT26 ti5 u8_one (by first | rfl | omega | (simp; done) | (simp; omega) | (simp only [List.length_append, List.length_take, List.length_drop, List.length_nil] at *; omega)) (by first | rfl | omega | (simp; done) | (simp; omega) | (simp only [List.length_append, List.length_take, List.length_drop, List.length_nil] at *; omega)) rfl) ?_
 rintro _ w19 ⟨rfl, Hs19, g19, hm19⟩
 replace g19 : Grow u8 5 (sub3v sv10 0 (((0 + (la.length : Int)) + (lb.length : Int)) + (lc.length : Int)) (((0 + (la.length : Int)) + (lb.length : Int)) + (lc.length : Int))) ((la ++ lb ++ lc) ++ (mz10.take (((0 + (la.length : Int)) + (lb.length : Int)) + (lc.length : Int) : Int).toNat).drop (la ++ lb ++ lc).length) Hs19 := Grow.cast g19 (by first | rfl | simp)
 refine rw_q rfl (ev_i64_add rfl rfl oM oM) <| rw_q rfl (ev_assign (v := (i64 (((((la.length : Int) + 0) + (lb.length : Int)) + 0) + (lc.length : Int)))) rfl) ?_
 refine rw_nil (kBlk_normal (cw_region ?_))
 refine rw_q (v := (i64 2)) rfl (ev_i64_add (a := 1) (b := 1) s72 rfl oM oM) <| rw_q rfl (ev_move (v := (i64 2)) rfl) ?_
 refine rw_nil (kThen_normal (cr_succ (cw_seq (cw_region ?_))))
 refine rw_q rfl (ev_i64_lss (a := 2) (b := 2) rfl s71) ?_
 refine rw_nil (kThen_normal ?_)
 refine CW.abs (fun g => g 0 = vp ∧ g 1 = (Value.slice none 0 0) ∧ g 4 = (Value.slice none 0 0) ∧ g 5 = (i64 (((0 + (la.length : Int)) + (lb.length : Int)) + (lc.length : Int))) ∧ g 7 = vc ∧ g 8 = (sub3v sv10 0 (((0 + (la.length : Int)) + (lb.length : Int)) + (lc.length : Int)) (((0 + (la.length : Int)) + (lb.length : Int)) + (lc.length : Int))) ∧ g 9 = (i64 (((((la.length : Int) + 0) + (lb.length : Int)) + 0) + (lc.length : Int))) ∧ g 11 = vc ∧ g 14 = (bl false) ∧ g 18 = (bl false) ∧ g 25 = (bl (decide (0 < ((0 : Nat) : Int)))) ∧ g 42 = vp ∧ g 43 = (i64 3) ∧ g 44 = (i64 3) ∧ g 45 = (bl false) ∧ g 52 = (bl (decide ((9223372036854775807 - ((0 + (la.length : Int)) + (lb.length : Int))) < (lc.length : Int)))) ∧ g 70 = (subv vp 1 (([(va, la), (vb, lb), (vc, lc)]).length : Int)) ∧ g 71 = (i64 2) ∧ g 72 = (i64 2) ∧ g 73 = (bl false) ∧ True) ⟨s0, s1, s4, s5, s7, s8, rfl, s11, s14, s18, s25, s42, s43, s44, s45, s52, s70, s71, rfl, rfl, trivial⟩ ?_
 rintro fr20 ⟨s0, s1, s4, s5, s7, s8, s9, s11, s14, s18, s25, s42, s43, s44, s45, s52, s70, s71, s72, s73, _⟩
 refine cw_seq <| cw_cond_f s73 (by decide) <| cw_exit ?_
 refine kThen_exit (kThen_exit (kBlk_hit ?_))
 refine cw_seq (cw_region ?_)
 refine rM rfl s8 <| rA rfl rfl ?_
 refine rw_nil (kThen_normal (cw_ret ?_))
 refine fnPost_ret [(sub3v sv10 0 (((0 + (la.length : Int)) + (lb.length : Int)) + (lc.length : Int)) (((0 + (la.length : Int)) + (lb.length : Int)) + (lc.length : Int)))] ⟨rfl, trivial⟩ ?_
 exact ⟨Hs19, Grow.cast g19 (by rw [List.drop_of_length_le (by simp; omega)]; simp [joinB]), by simpa using hm19⟩

set_option maxHeartbeats 1000000 in
theorem c_bencode (id pk : List (BitVec 8)) (w0 : World)  (hid : id.length = 32) (hpk : pk.length = 32) : CallsR Try.prog 10 #[(Value.agg (segs [id.map u8, pk.map u8]))] w0 (fun r w1 => ∃ Hs, Grow u8 5 r (encB id pk) Hs ∧ Mem w1 (restOf w0) Hs) := by
 refine callsR_of_cw (args := [(Value.agg (segs [id.map u8, pk.map u8]))]) Try.func10 rfl Try.ntmps10 Try.results10 rfl ?_
 have hm0 : Mem w0 (restOf w0) [] := Mem.of_world w0
 refine cw_seq (cw_region ?_)
 refine rw_c rfl (or_boxX (cs := (segs [id.map u8, pk.map u8])) hm0 rfl) ?_
 rintro _ w1 ⟨b1, rfl, _ew1, hm1⟩
 refine rw_q rfl (ev_assign (v := (Value.slice none 0 0)) rfl) ?_
 refine rw_nil (kThen_normal (cw_seq ?_))
 refine cw_draw [(1, false), (2, false), (3, false), (4, false), (0, true)] 5 (by kernel_rfl) <| dw_q rfl rfl (fun _ _hx => ev_fa (r := 0) uT25 rfl (by first | rfl | omega) ti23 rfl rfl) <| dw_q rfl rfl (fun _ _hx => ev_slice_sla (i := 0) (j := 32) uT23 ti5 rfl (optI_none _ _) (optI_none _ _) oM sD sD) <| dw_q rfl rfl (fun _ _hx => ev_fa (r := 32) uT25 rfl (by first | rfl | omega) ti23 rfl rfl) <| dw_q rfl rfl (fun _ _hx => ev_slice_sla (i := 0) (j := 32) uT23 ti5 rfl (optI_none _ _) (optI_none _ _) oM sD sD) ?_
 refine dw_c rfl rfl (fun w2 _ew2 => ?_)
 have hm2 := hm1.ext _ew2
 refine OpR.mono (or_buildSlice_cl u8 [1#8] u8_one hm2 uT26 ti5 rfl rfl rfl) ?_
 rintro _ w3 ⟨b3, rfl, _ew3, hm3⟩
 refine ⟨_ew3, ?_⟩
 refine dw_nil (fun w4 _ew4 => ?_)
 have hm4 := hm3.ext _ew4
 refine rw_c rfl (or_buildSlice_ones [(slc b3 0 1 1), (sla b1 0 1 0 32 32), (sla b1 32 1 0 32 32)] (List.all_eq_true.1 (one_cons rfl (one_cons (Rd.one (Rd.segA [] [pk.map u8] hm4.h1 fl_nil sD (by decide) (by decide))) (one_cons (Rd.one (Rd.segA [id.map u8] [] hm4.h1 (fl_cons (n := 32) (m := 0) (k := 32) (by first | rfl | (rw [List.length_map]; first | omega | (simp; done) | (simp; omega))) fl_nil rfl) sD (by decide) (by decide))) one_nil)))) hm4 uT43 ti26 rfl rfl rfl) ?_
 rintro _ w5 ⟨b8, rfl, _ew5, hm5⟩
 have hm5 : Mem w5 (restOf w0) [(b8, .cells #[(slc b3 0 1 1), (sla b1 0 1 0 32 32), (sla b1 32 1 0 32 32)] 26 (0, 0)), (b3, .cells (cl u8 ([1#8])) 5 (0, 0)), (b1, .cells (segs [id.map u8, pk.map u8]) 25 (0, 0))] := hm5
 refine rw_c rfl (opR_call Try.func20 bd20 nm20 (args2 rfl rfl) (c_join3 (slc b8 0 3 3) ([((slc b3 0 1 1), [1#8]), ((sla b1 0 1 0 32 32), id), ((sla b1 32 1 0 32 32), pk)]) _ (Rd.mkA (f := Prod.fst) (l := [((slc b3 0 1 1), [1#8]), ((sla b1 0 1 0 32 32), id), ((sla b1 32 1 0 32 32), pk)]) hm5.h0) (allp_cons (Rd.mkA hm5.h1) (allp_cons (Rd.segA [] [pk.map u8] hm5.h2 fl_nil sD (by decide) (by decide)) (allp_cons (Rd.segA [id.map u8] [] hm5.h2 (fl_cons (n := 32) (m := 0) (k := 32) (by first | rfl | (rw [List.length_map]; first | omega | (simp; done) | (simp; omega))) fl_nil rfl) sD (by decide) (by decide)) allp_nil))) ⟨_, _, _, _, _, _, rfl, rfl, hid, hpk⟩)) ?_
 rintro rq7 w6 ⟨Hsq7, grq7, k_w6⟩
 have hm6 : Mem w6 (restOf w0) (Hsq7 ++ ([(b8, .cells #[(slc b3 0 1 1), (sla b1 0 1 0 32 32), (sla b1 32 1 0 32 32)] 26 (0, 0)), (b3, .cells (cl u8 ([1#8])) 5 (0, 0)), (b1, .cells (segs [id.map u8, pk.map u8]) 25 (0, 0))])) := Mem.new (H := [(b8, .cells #[(slc b3 0 1 1), (sla b1 0 1 0 32 32), (sla b1 32 1 0 32 32)] 26 (0, 0)), (b3, .cells (cl u8 ([1#8])) 5 (0, 0)), (b1, .cells (segs [id.map u8, pk.map u8]) 25 (0, 0))]) (H' := Hsq7) hm5 k_w6
 refine rA rfl (v := rq7) rfl ?_
 refine rw_nil (kThen_normal (cw_ret ?_))
 refine fnPost_ret [rq7] ⟨rfl, trivial⟩ ?_
 have hm8 := Mem.drop ([(b8, .cells #[(slc b3 0 1 1), (sla b1 0 1 0 32 32), (sla b1 32 1 0 32 32)] 26 (0, 0))]) _ (Mem.pick Hsq7 [_] _ hm6)
 have hm9 := Mem.drop ([(b3, .cells (cl u8 ([1#8])) 5 (0, 0))]) _ (Mem.pick Hsq7 [_] _ hm8)
 have hm10 := Mem.drop ([(b1, .cells (segs [id.map u8, pk.map u8]) 25 (0, 0))]) _ (Mem.pick Hsq7 [_] _ hm9)
 exact ⟨Hsq7, Grow.cast grq7 (by simp [joinB, encB]), by simpa using hm10⟩

set_option maxHeartbeats 1000000 in
theorem c_rbencode (id pk : List (BitVec 8)) (w0 : World)  (hid : id.length = 32) (hpk : pk.length = 32) : CallsR Try.prog 11 #[(Value.agg (segs [id.map u8, pk.map u8]))] w0 (fun r w1 => ∃ Hs, Grow u8 5 r (encB id pk) Hs ∧ Mem w1 (restOf w0) Hs) := by
 refine callsR_of_cw (args := [(Value.agg (segs [id.map u8, pk.map u8]))]) Try.func11 rfl Try.ntmps11 Try.results11 rfl ?_
 have hm0 : Mem w0 (restOf w0) [] := Mem.of_world w0
 refine cw_seq (cw_region ?_)
 refine rw_c rfl (or_boxX (cs := (segs [id.map u8, pk.map u8])) hm0 rfl) ?_
 rintro _ w1 ⟨b1, rfl, _ew1, hm1⟩
 refine rw_q rfl (ev_assign (v := (Value.slice none 0 0)) rfl) ?_
 refine rw_nil (kThen_normal (cw_seq (cw_region ?_)))
 refine rw_c rfl (or_buildSlice_cl u8 [1#8] u8_one hm1 uT26 ti5 rfl rfl rfl) ?_
 rintro _ w2 ⟨b4, rfl, _ew2, hm2⟩
 refine rw_q rfl (ev_assign (v := (slc b4 0 1 1)) rfl) ?_
 refine rw_nil (kThen_normal (cw_seq (cw_region ?_)))
 refine rw_q rfl (ev_move (v := (slc b4 0 1 1)) rfl) <| rw_q rfl (ev_fa (r := 0) uT25 rfl (by first | rfl | omega) ti23 rfl rfl) <| rw_q rfl (ev_slice_sla (i := 0) (j := 32) uT23 ti5 rfl (optI_none _ _) (optI_none _ _) oM sD sD) <| rw_c rfl (or_append (f := u8) (Hs := [(b4, .cells (cl u8 ([1#8])) 5 (0, 0))]) (H := [(b1, .cells (segs [id.map u8, pk.map u8]) 25 (0, 0))]) hm2 (Grow.of u8 5 b4 ([1#8])) rfl rfl (Rd.segA [] [pk.map u8] hm2.h1 fl_nil sD (by decide) (by decide)) uT26 uT26 ti5 rfl u8_one sD sD) ?_
 rintro sv3 w3 ⟨Hs3, hm3, g3⟩
 replace g3 : Grow u8 5 sv3 (([1#8]) ++ id) Hs3 := g3
 refine rA rfl (v := sv3) rfl ?_
 refine rw_nil (kThen_normal (cw_seq (cw_region ?_)))
 refine rM rfl (v := sv3) rfl <| rw_q rfl (ev_fa (r := 32) uT25 rfl (by first | rfl | omega) ti23 rfl rfl) <| rw_q rfl (ev_slice_sla (i := 0) (j := 32) uT23 ti5 rfl (optI_none _ _) (optI_none _ _) oM sD sD) <| rw_c rfl (or_append (f := u8) (Hs := Hs3) (H := [(b1, .cells (segs [id.map u8, pk.map u8]) 25 (0, 0))]) hm3 g3 rfl rfl (Rd.segA [id.map u8] [] ((Mem.pick Hs3 [_] _ hm3)).h0 (fl_cons (n := 32) (m := 0) (k := 32) (by first | rfl | (rw [List.length_map]; first | omega | (simp; done) | (simp; omega))) fl_nil rfl) sD (by decide) (by decide)) uT26 uT26 ti5 rfl u8_one sD sD) ?_
 rintro sv4 w4 ⟨Hs4, hm4, g4⟩
 replace g4 : Grow u8 5 sv4 ((([1#8]) ++ id) ++ pk) Hs4 := g4
 refine rA rfl (v := sv4) rfl ?_
 refine rw_nil (kThen_normal ?_)
 refine CW.abs (fun g => g 0 = (Value.agg (segs [id.map u8, pk.map u8])) ∧ g 1 = (ptr b1 0) ∧ g 2 = sv4 ∧ g 3 = sv3 ∧ True) ⟨rfl, rfl, rfl, rfl, trivial⟩ ?_
 rintro fr5 ⟨s0, s1, s2, s3, _⟩
 refine cw_ret <| fnPost_ret [sv4] ⟨s2, trivial⟩ ?_
 have hm6 := Mem.drop ([(b1, .cells (segs [id.map u8, pk.map u8]) 25 (0, 0))]) _ (Mem.pick Hs4 [_] _ hm4)
 exact ⟨Hs4, Grow.cast g4 (by simp [joinB, encB]), by simpa using hm6⟩

set_option maxHeartbeats 1000000 in
theorem c_bdecode (vb : Value) (l : List (BitVec 8)) (w0 : World)  (hr : Rd (blks w0) u8 vb l) (hl : l.length ≤ 9223372036854775807) : CallsR Try.prog 12 #[vb] w0 (fun r w1 => r = (Value.tuple #[(Value.agg (segs [(decI l).map u8, (decP l).map u8])), (i64 (errB l))]) ∧ Ext w0 w1) := by
 refine callsR_of_cw (args := [vb]) Try.func12 rfl Try.ntmps12 Try.results12 rfl ?_
 have hm0 : Mem w0 (restOf w0) [] := Mem.of_world w0
 refine cw_seq (cw_region ?_)
 refine rw_c rfl (or_allocX hm0 ti25) ?_
 rintro _ w1 ⟨b2, rfl, _ew1, hm1⟩
 refine rw_q rfl (ev_assign (v := (i64 0)) rfl) ?_
 refine rw_nil (kThen_normal (cw_seq (cw_seq (cw_region ?_))))
 refine rM rfl (v := vb) rfl <| rw_q (v := (i64 (l.length : Int))) rfl (ev_len_rd (Rd.ofRest hr hm1) uT26 rfl) <| rw_q rfl (ev_i64_neq (b := 65) rfl rfl) <| rw_q rfl (ev_move (v := (bl ((l.length : Int) != 65))) rfl) ?_
 rcases Bool.eq_false_or_eq_true ((l.length : Int) != 65) with hb2 | hb2
 · -- true
   have hb2p := bne_iff_ne.1 hb2
   refine rw_gn (s := 7) rfl rfl hb2 rfl <| rw_gn (s := 7) rfl rfl hb2 rfl <| rw_gn (s := 7) rfl rfl hb2 rfl <| rw_gn (s := 7) rfl rfl hb2 rfl <| rw_q rfl (ev_pick_tk rfl hb2 rfl) ?_
   refine rw_nil (kThen_normal ?_)
   refine CW.abs (fun g => g 0 = vb ∧ g 2 = (ptr b2 0) ∧ g 3 = (i64 0) ∧ g 12 = (bl true) ∧ True) ⟨rfl, rfl, rfl, rfl, trivial⟩ ?_
   rintro fr3 ⟨s0, s2, s3, s12, _⟩
   refine cw_cond_t s12 (by decide) ?_
   refine cw_seq (cw_region ?_)
   refine rw_q rfl (ev_build_pt (c := #[(u8 0), (u8 0), (u8 0), (u8 0), (u8 0), (u8 0), (u8 0), (u8 0), (u8 0), (u8 0), (u8 0), (u8 0), (u8 0), (u8 0), (u8 0), (u8 0), (u8 0), (u8 0), (u8 0), (u8 0), (u8 0), (u8 0), (u8 0), (u8 0), (u8 0), (u8 0), (u8 0), (u8 0), (u8 0), (u8 0), (u8 0), (u8 0), (u8 0), (u8 0), (u8 0), (u8 0), (u8 0), (u8 0), (u8 0), (u8 0), (u8 0), (u8 0), (u8 0), (u8 0), (u8 0), (u8 0), (u8 0), (u8 0), (u8 0), (u8 0), (u8 0), (u8 0), (u8 0), (u8 0), (u8 0), (u8 0), (u8 0), (u8 0), (u8 0), (u8 0), (u8 0), (u8 0), (u8 0), (u8 0)]) (pl := [(0, 32), (32, 32)]) ti25 uT25 (by kernel_rfl) pm_nil (by kernel_rfl)) <| rw_n (or_storeW (cs := #[(u8 0), (u8 0), (u8 0), (u8 0), (u8 0), (u8 0), (u8 0), (u8 0), (u8 0), (u8 0), (u8 0), (u8 0), (u8 0), (u8 0), (u8 0), (u8 0), (u8 0), (u8 0), (u8 0), (u8 0), (u8 0), (u8 0), (u8 0), (u8 0), (u8 0), (u8 0), (u8 0), (u8 0), (u8 0), (u8 0), (u8 0), (u8 0), (u8 0), (u8 0), (u8 0), (u8 0), (u8 0), (u8 0), (u8 0), (u8 0), (u8 0), (u8 0), (u8 0), (u8 0), (u8 0), (u8 0), (u8 0), (u8 0), (u8 0), (u8 0), (u8 0), (u8 0), (u8 0), (u8 0), (u8 0), (u8 0), (u8 0), (u8 0), (u8 0), (u8 0), (u8 0), (u8 0), (u8 0), (u8 0)]) ti25 s2 rfl (by kernel_rfl) (one_arr (one_cons (u8_one _) (one_cons (u8_one _) (one_cons (u8_one _) (one_cons (u8_one _) (one_cons (u8_one _) (one_cons (u8_one _) (one_cons (u8_one _) (one_cons (u8_one _) (one_cons (u8_one _) (one_cons (u8_one _) (one_cons (u8_one _) (one_cons (u8_one _) (one_cons (u8_one _) (one_cons (u8_one _) (one_cons (u8_one _) (one_cons (u8_one _) (one_cons (u8_one _) (one_cons (u8_one _) (one_cons (u8_one _) (one_cons (u8_one _) (one_cons (u8_one _) (one_cons (u8_one _) (one_cons (u8_one _) (one_cons (u8_one _) (one_cons (u8_one _) (one_cons (u8_one _) (one_cons (u8_one _) (one_cons (u8_one _) (one_cons (u8_one _) (one_cons (u8_one _) (one_cons (u8_one _) (one_cons (u8_one _) (one_cons (u8_one _) (one_cons (u8_one _) (one_cons (u8_one _) (one_cons (u8_one _) (one_cons (u8_one _) (one_cons (u8_one _) (one_cons (u8_one _) (one_cons (u8_one _) (one_cons (u8_one _) (one_cons (u8_one _) (one_cons (u8_one _) (one_cons (u8_one _) (one_cons (u8_one _) (one_cons (u8_one _) (one_cons (u8_one _) (one_cons (u8_one _) (one_cons (u8_one _) (one_cons (u8_one _) (one_cons (u8_one _) (one_cons (u8_one _) (one_cons (u8_one _) (one_cons (u8_one _) (one_cons (u8_one _) (one_cons (u8_one _) (one_cons (u8_one _) (one_cons (u8_one _) (one_cons (u8_one _) (one_cons (u8_one _) (one_cons (u8_one _) (one_cons (u8_one _) (one_cons (u8_one _) (one_cons (u8_one _) one_nil))))))))))))))))))))))))))))))))))))))))))))))))))))))))))))))))) hm1.h0 (by kernel_rfl) rfl) ?_
   rintro _ w4 uq4
   have hm4 : Mem w4 (restOf w0) [(b2, .cells #[(u8 0), (u8 0), (u8 0), (u8 0), (u8 0), (u8 0), (u8 0), (u8 0), (u8 0), (u8 0), (u8 0), (u8 0), (u8 0), (u8 0), (u8 0), (u8 0), (u8 0), (u8 0), (u8 0), (u8 0), (u8 0), (u8 0), (u8 0), (u8 0), (u8 0), (u8 0), (u8 0), (u8 0), (u8 0), (u8 0), (u8 0), (u8 0), (u8 0), (u8 0), (u8 0), (u8 0), (u8 0), (u8 0), (u8 0), (u8 0), (u8 0), (u8 0), (u8 0), (u8 0), (u8 0), (u8 0), (u8 0), (u8 0), (u8 0), (u8 0), (u8 0), (u8 0), (u8 0), (u8 0), (u8 0), (u8 0), (u8 0), (u8 0), (u8 0), (u8 0), (u8 0), (u8 0), (u8 0), (u8 0)] 25 (0, 0))] := hm1.upd0 uq4
   refine rw_q rfl (ev_assign (v := (i64 3)) rfl) ?_
   refine rw_nil (kThen_normal (cw_ret (kThen_ret ?_)))
   refine fnPost_ret [(Value.agg (#[(u8 0), (u8 0), (u8 0), (u8 0), (u8 0), (u8 0), (u8 0), (u8 0), (u8 0), (u8 0), (u8 0), (u8 0), (u8 0), (u8 0), (u8 0), (u8 0), (u8 0), (u8 0), (u8 0), (u8 0), (u8 0), (u8 0), (u8 0), (u8 0), (u8 0), (u8 0), (u8 0), (u8 0), (u8 0), (u8 0), (u8 0), (u8 0), (u8 0), (u8 0), (u8 0), (u8 0), (u8 0), (u8 0), (u8 0), (u8 0), (u8 0), (u8 0), (u8 0), (u8 0), (u8 0), (u8 0), (u8 0), (u8 0), (u8 0), (u8 0), (u8 0), (u8 0), (u8 0), (u8 0), (u8 0), (u8 0), (u8 0), (u8 0), (u8 0), (u8 0), (u8 0), (u8 0), (u8 0), (u8 0)])), (i64 3)] ⟨⟨_, s2, loadVar_run uT25 rfl ti25 hm4.h0 (by simp)⟩, rfl, trivial⟩ ?_
   have hok : okB l = false := ok_not1 oM
   obtain ⟨e1, e2, e3⟩ := dec_none hok
   refine ⟨?_, hm4.toExt⟩
   rw [e1, e2, e3]
   rfl
 · -- false
   have hb2p := eq_of_bne_false hb2
   refine rw_gyq (s := 7) rfl rfl hb2 rfl (ev_move (v := vb) rfl) <| rw_gyq (s := 7) rfl rfl hb2 rfl (ev_indexAddr_rdv (i := 0) (Rd.ofRest hr hm1) uT26 ti5 rfl rfl oM sD) <| rw_gyq (s := 7) rfl rfl hb2 rfl (ev_load_rdD (l := l) (i := 0) (dflt := 0) (Rd.ofRest hr hm1) uT5 rfl oM sD rfl) <| rw_gyq (s := 7) rfl rfl hb2 rfl (ev_u8_neq (b := 1#8) rfl rfl) <| rw_q rfl (ev_pick_fk rfl hb2 rfl) ?_
   refine rw_nil (kThen_normal ?_)
   refine CW.abs (fun g => g 0 = vb ∧ g 2 = (ptr b2 0) ∧ g 3 = (i64 0) ∧ g 12 = (bl ((l.getD 0 0) != 1#8)) ∧ True) ⟨rfl, rfl, rfl, rfl, trivial⟩ ?_
   rintro fr5 ⟨s0, s2, s3, s12, _⟩
   refine cw_cond s12 (fun hc6 => ?_) (fun hc6 => ?_)
   · -- true
     have hc6p := bne_iff_ne.1 hc6
     refine cw_seq (cw_region ?_)
     refine rw_q rfl (ev_build_pt (c := #[(u8 0), (u8 0), (u8 0), (u8 0), (u8 0), (u8 0), (u8 0), (u8 0), (u8 0), (u8 0), (u8 0), (u8 0), (u8 0), (u8 0), (u8 0), (u8 0), (u8 0), (u8 0), (u8 0), (u8 0), (u8 0), (u8 0), (u8 0), (u8 0), (u8 0), (u8 0), (u8 0), (u8 0), (u8 0), (u8 0), (u8 0), (u8 0), (u8 0), (u8 0), (u8 0), (u8 0), (u8 0), (u8 0), (u8 0), (u8 0), (u8 0), (u8 0), (u8 0), (u8 0), (u8 0), (u8 0), (u8 0), (u8 0), (u8 0), (u8 0), (u8 0), (u8 0), (u8 0), (u8 0), (u8 0), (u8 0), (u8 0), (u8 0), (u8 0), (u8 0), (u8 0), (u8 0), (u8 0), (u8 0)]) (pl := [(0, 32), (32, 32)]) ti25 uT25 (by kernel_rfl) pm_nil (by kernel_rfl)) <| rw_n (or_storeW (cs := #[(u8 0), (u8 0), (u8 0), (u8 0), (u8 0), (u8 0), (u8 0), (u8 0), (u8 0), (u8 0), (u8 0), (u8 0), (u8 0), (u8 0), (u8 0), (u8 0), (u8 0), (u8 0), (u8 0), (u8 0), (u8 0), (u8 0), (u8 0), (u8 0), (u8 0), (u8 0), (u8 0), (u8 0), (u8 0), (u8 0), (u8 0), (u8 0), (u8 0), (u8 0), (u8 0), (u8 0), (u8 0), (u8 0), (u8 0), (u8 0), (u8 0), (u8 0), (u8 0), (u8 0), (u8 0), (u8 0), (u8 0), (u8 0), (u8 0), (u8 0), (u8 0), (u8 0), (u8 0), (u8 0), (u8 0), (u8 0), (u8 0), (u8 0), (u8 0), (u8 0), (u8 0), (u8 0), (u8 0), (u8 0)]) ti25 s2 rfl (by kernel_rfl) (one_arr (one_cons (u8_one _) (one_cons (u8_one _) (one_cons (u8_one _) (one_cons (u8_one _) (one_cons (u8_one _) (one_cons (u8_one _) (one_cons (u8_one _) (one_cons (u8_one _) (one_cons (u8_one _) (one_cons (u8_one _) (one_cons (u8_one _) (one_cons (u8_one _) (one_cons (u8_one _) (one_cons (u8_one _) (one_cons (u8_one _) (one_cons (u8_one _) (one_cons (u8_one _) (one_cons (u8_one _) (one_cons (u8_one _) (one_cons (u8_one _) (one_cons (u8_one _) (one_cons (u8_one _) (one_cons (u8_one _) (one_cons (u8_one _) (one_cons (u8_one _) (one_cons (u8_one _) (one_cons (u8_one _) (one_cons (u8_one _) (one_cons (u8_one _) (one_cons (u8_one _) (one_cons (u8_one _) (one_cons (u8_one _) (one_cons (u8_one _) (one_cons (u8_one _) (one_cons (u8_one _) (one_cons (u8_one _) (one_cons (u8_one _) (one_cons (u8_one _) (one_cons (u8_one _) (one_cons (u8_one _) (one_cons (u8_one _) (one_cons (u8_one _) (one_cons (u8_one _) (one_cons (u8_one _) (one_cons (u8_one _) (one_cons (u8_one _) (one_cons (u8_one _) (one_cons (u8_one _) (one_cons (u8_one _) (one_cons (u8_one _) (one_cons (u8_one _) (one_cons (u8_one _) (one_cons (u8_one _) (one_cons (u8_one _) (one_cons (u8_one _) (one_cons (u8_one _) (one_cons (u8_one _) (one_cons (u8_one _) (one_cons (u8_one _) (one_cons (u8_one _) (one_cons (u8_one _) (one_cons (u8_one _) (one_cons (u8_one _) (one_cons (u8_one _) one_nil))))))))))))))))))))))))))))))))))))))))))))))))))))))))))))))))) hm1.h0 (by kernel_rfl) rfl) ?_
     rintro _ w7 uq7
     have hm7 : Mem w7 (restOf w0) [(b2, .cells #[(u8 0), (u8 0), (u8 0), (u8 0), (u8 0), (u8 0), (u8 0), (u8 0), (u8 0), (u8 0), (u8 0), (u8 0), (u8 0), (u8 0), (u8 0), (u8 0), (u8 0), (u8 0), (u8 0), (u8 0), (u8 0), (u8 0), (u8 0), (u8 0), (u8 0), (u8 0), (u8 0), (u8 0), (u8 0), (u8 0), (u8 0), (u8 0), (u8 0), (u8 0), (u8 0), (u8 0), (u8 0), (u8 0), (u8 0), (u8 0), (u8 0), (u8 0), (u8 0), (u8 0), (u8 0), (u8 0), (u8 0), (u8 0), (u8 0), (u8 0), (u8 0), (u8 0), (u8 0), (u8 0), (u8 0), (u8 0), (u8 0), (u8 0), (u8 0), (u8 0), (u8 0), (u8 0), (u8 0), (u8 0)] 25 (0, 0))] := hm1.upd0 uq7
     refine rw_q rfl (ev_assign (v := (i64 3)) rfl) ?_
     refine rw_nil (kThen_normal (cw_ret (kThen_ret ?_)))
     refine fnPost_ret [(Value.agg (#[(u8 0), (u8 0), (u8 0), (u8 0), (u8 0), (u8 0), (u8 0), (u8 0), (u8 0), (u8 0), (u8 0), (u8 0), (u8 0), (u8 0), (u8 0), (u8 0), (u8 0), (u8 0), (u8 0), (u8 0), (u8 0), (u8 0), (u8 0), (u8 0), (u8 0), (u8 0), (u8 0), (u8 0), (u8 0), (u8 0), (u8 0), (u8 0), (u8 0), (u8 0), (u8 0), (u8 0), (u8 0), (u8 0), (u8 0), (u8 0), (u8 0), (u8 0), (u8 0), (u8 0), (u8 0), (u8 0), (u8 0), (u8 0), (u8 0), (u8 0), (u8 0), (u8 0), (u8 0), (u8 0), (u8 0), (u8 0), (u8 0), (u8 0), (u8 0), (u8 0), (u8 0), (u8 0), (u8 0), (u8 0)])), (i64 3)] ⟨⟨_, s2, loadVar_run uT25 rfl ti25 hm7.h0 (by simp)⟩, rfl, trivial⟩ ?_
     have hok : okB l = false := ok_not2 (by simpa using hc6)
     obtain ⟨e1, e2, e3⟩ := dec_none hok
     refine ⟨?_, hm7.toExt⟩
     rw [e1, e2, e3]
     rfl
   · -- false
     have hc6p := eq_of_bne_false hc6
     refine cw_skip (kThen_normal (cw_seq ?_))
     refine cw_draw [(0, false), (1, false), (2, false), (3, false), (4, false), (5, false), (6, false), (7, false)] 8 (by kernel_rfl) <| dM rfl rfl s0 <| dw_q rfl rfl (fun _ _hx => ev_slice_rd (i := 1) (j := 33) (Rd.ofRest hr (hm1.ext _hx)) uT26 ti5 rfl (optI_some (k := .i64) (i := 1) rfl) (optI_some (k := .i64) (i := 33) rfl) oM sD sD) <| dw_q rfl rfl (fun _ _hx => ev_sap (Rd.cast (l' := (l.drop 1).take 32) (Rd.sub (Rd.ofRest hr (hm1.ext _hx)) oM sD sD) rfl) uT23 rfl sD) <| dw_q (v := (agg u8 (((l.drop 1).take 32).take 32))) rfl rfl (fun _ _hx => ev_load_sap (l := (l.drop 1).take 32) (Rd.cast (l' := (l.drop 1).take 32) (Rd.sub (Rd.ofRest hr (hm1.ext _hx)) oM sD sD) rfl) uT23 ti23 rfl sD rfl) <| dM rfl rfl s0 ?_
     refine dw_q rfl rfl (fun _ _hx => ev_slice_rd (i := 33) (j := (l.length : Int)) (Rd.ofRest hr (hm1.ext _hx)) uT26 ti5 rfl (optI_some (k := .i64) (i := 33) rfl) (optI_none _ _) oM sD sD) <| dw_q rfl rfl (fun _ _hx => ev_sap (Rd.cast (l' := (l.drop (33 : Int).toNat).take (((l.length : Int) : Int).toNat - (33 : Int).toNat)) (Rd.sub (Rd.ofRest hr (hm1.ext _hx)) oM sD sD) rfl) uT23 rfl sD) <| dw_q (v := (agg u8 (((l.drop (33 : Int).toNat).take (((l.length : Int) : Int).toNat - (33 : Int).toNat)).take 32))) rfl rfl (fun _ _hx => ev_load_sap (l := (l.drop (33 : Int).toNat).take (((l.length : Int) : Int).toNat - (33 : Int).toNat)) (Rd.cast (l' := (l.drop (33 : Int).toNat).take (((l.length : Int) : Int).toNat - (33 : Int).toNat)) (Rd.sub (Rd.ofRest hr (hm1.ext _hx)) oM sD sD) rfl) uT23 ti23 rfl sD rfl) ?_
     refine dw_nil (fun w8 _ew8 => ?_)
     have hm8 := hm1.ext _ew8
     refine rw_q rfl (ev_build_pt (c := (segs [(((l.drop 1).take 32).take 32).map u8, (((l.drop (33 : Int).toNat).take (((l.length : Int) : Int).toNat - (33 : Int).toNat)).take 32).map u8])) (pl := [(0, 32), (32, 32)]) ti25 uT25 (by kernel_rfl) (pm_cons (i := 0) (v := (agg u8 (((l.drop 1).take 32).take 32))) (cs := (cl u8 (((l.drop 1).take 32).take 32))) rfl rfl (pm_cons (i := 1) (v := (agg u8 (((l.drop (33 : Int).toNat).take (((l.length : Int) : Int).toNat - (33 : Int).toNat)).take 32))) (cs := (cl u8 (((l.drop (33 : Int).toNat).take (((l.length : Int) : Int).toNat - (33 : Int).toNat)).take 32))) rfl rfl pm_nil)) (fillA_segs [] [(List.replicate 32 0).map u8] [(((l.drop 1).take 32).take 32).map u8] [(List.replicate 32 0).map u8] rfl (segs_one1 u8 _).symm fl_nil (fl_cons (n := 32) (m := 0) (k := 32) (by first | rfl | (rw [List.length_map]; first | omega | (simp; done) | (simp; omega))) fl_nil rfl) (fl_cons (n := 32) (m := 0) (k := 32) (by first | rfl | (rw [List.length_map]; first | omega | (simp; done) | (simp; omega))) fl_nil rfl) (fillA_segs [(((l.drop 1).take 32).take 32).map u8] [(List.replicate 32 0).map u8] [(((l.drop (33 : Int).toNat).take (((l.length : Int) : Int).toNat - (33 : Int).toNat)).take 32).map u8] [] rfl (segs_one1 u8 _).symm (fl_cons (n := 32) (m := 0) (k := 32) (by first | rfl | (rw [List.length_map]; first | omega | (simp; done) | (simp; omega))) fl_nil rfl) (fl_cons (n := 32) (m := 0) (k := 32) (by first | rfl | (rw [List.length_map]; first | omega | (simp; done) | (simp; omega))) fl_nil rfl) (fl_cons (n := 32) (m := 0) (k := 32) (by first | rfl | (rw [List.length_map]; first | omega | (simp; done) | (simp; omega))) fl_nil rfl) fillA_nil))) <| rw_n (or_storeW_segs [(((l.drop 1).take 32).take 32).map u8, (((l.drop (33 : Int).toNat).take (((l.length : Int) : Int).toNat - (33 : Int).toNat)).take 32).map u8] ti25 s2 rfl (fl_cons (n := 32) (m := 32) (k := 64) (by first | rfl | (rw [List.length_map]; first | omega | (simp; done) | (simp; omega))) (fl_cons (n := 32) (m := 0) (k := 32) (by first | rfl | (rw [List.length_map]; first | omega | (simp; done) | (simp; omega))) fl_nil rfl) rfl) (so_cons (encA_one u8_one _) (so_cons (encA_one u8_one _) so_nil)) hm8.h0 rfl rfl) ?_
     rintro _ w9 uq9
     have hm9 : Mem w9 (restOf w0) [(b2, .cells (segs [(((l.drop 1).take 32).take 32).map u8, (((l.drop (33 : Int).toNat).take (((l.length : Int) : Int).toNat - (33 : Int).toNat)).take 32).map u8]) 25 (0, 0))] := hm8.upd0 uq9
     refine rw_q rfl (ev_assign (v := (i64 0)) rfl) ?_
     refine rw_nil (kThen_normal (cw_ret ?_))
     refine fnPost_ret [(Value.agg (segs [(((l.drop 1).take 32).take 32).map u8, (((l.drop (33 : Int).toNat).take (((l.length : Int) : Int).toNat - (33 : Int).toNat)).take 32).map u8])), (i64 0)] ⟨⟨_, s2, loadVar_segs [(((l.drop 1).take 32).take 32).map u8, (((l.drop (33 : Int).toNat).take (((l.length : Int) : Int).toNat - (33 : Int).toNat)).take 32).map u8] uT25 rfl ti25 hm9.h0 (fl_cons (n := 32) (m := 32) (k := 64) (by first | rfl | (rw [List.length_map]; first | omega | (simp; done) | (simp; omega))) (fl_cons (n := 32) (m := 0) (k := 32) (by first | rfl | (rw [List.length_map]; first | omega | (simp; done) | (simp; omega))) fl_nil rfl) rfl)⟩, rfl, trivial⟩ ?_
     have hok : okB l = true := ok_mk oM (by simpa using hc6)
     obtain ⟨e1, e2, e3⟩ := dec_some hok
     refine ⟨?_, hm9.toExt⟩
     rw [e1, e2, e3]
     simp [List.take_take, show l.length = 65 by omega]; rfl


end Go.Proofs.Ytmiagmbgfhakgaa
