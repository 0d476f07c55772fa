/- Contracts: stream, fourth part. Conditions: none beyond those that each theorem states. -/
import Derived.Test.YtmiagmbgfhakgaaDoorSt2
namespace Go.Proofs.YtmiagmbgfhakgaaDoor
set_option linter.unusedVariables false
set_option linter.unusedSimpArgs false

theorem same_len {la lb : List (BitVec 8)} (h : (la.length : Int) ≠ (lb.length : Int)) : false = (la == lb) := by
  symm; rw [beq_eq_false_iff_ne]; rintro rfl; exact h rfl
theorem same_at {la lb : List (BitVec 8)} {k : Nat} (h : la.getD k 0 ≠ lb.getD k 0) : false = (la == lb) := by
  symm; rw [beq_eq_false_iff_ne]; rintro rfl; exact h rfl
theorem same_all {la lb : List (BitVec 8)} (h : (la.length : Int) = (lb.length : Int)) (hall : ∀ j, j < la.length → la.getD j 0 = lb.getD j 0) : true = (la == lb) := by
  symm; rw [beq_iff_eq]
  refine List.ext_getElem oM fun i h1 h2 => ?_
  have := hall i h1
  simpa [List.getD_eq_getElem?_getD, h1, h2] using this
theorem same_step {la lb : List (BitVec 8)} {k : Nat} (heq : ∀ j, j < k → la.getD j 0 = lb.getD j 0) (h : la.getD k 0 = lb.getD k 0) : ∀ j, j < k + 1 → la.getD j 0 = lb.getD j 0 := by
  intro j hj
  rcases Nat.lt_or_ge j k with h1 | h1
  · exact heq j h1
  · have : j = k := by omega
    subst this; exact h

def beginR (word : List (BitVec 8) → BitVec 32) (key : List (BitVec 8)) (counter : BitVec 32) (nonce : List (BitVec 8)) : List (BitVec 32) :=
  [1634760805#32, 857760878#32, 2036477234#32, 1797285236#32, word (kpart key 0 4), word (kpart key 4 4), word (kpart key 8 4), word (kpart key 12 4),
   word (kpart key 16 4), word (kpart key 20 4), word (kpart key 24 4), word (kpart key 28 4), counter, word (kpart nonce 0 4), word (kpart nonce 4 4), word (kpart nonce 8 4)]
@[simp] theorem beginR_length (word : List (BitVec 8) → BitVec 32) (key : List (BitVec 8)) (counter : BitVec 32) (nonce : List (BitVec 8)) : (beginR word key counter nonce).length = 16 := rfl
def dblR : List (BitVec 32) → List (BitVec 32)
  | [x0, x1, x2, x3, x4, x5, x6, x7, x8, x9, x10, x11, x12, x13, x14, x15] =>
    let q0 := quarterL left3 x0 x4 x8 x12
    let q1 := quarterL left3 x1 x5 x9 x13
    let q2 := quarterL left3 x2 x6 x10 x14
    let q3 := quarterL left3 x3 x7 x11 x15
    let q4 := quarterL left3 (q0.getD 0 0) (q1.getD 1 0) (q2.getD 2 0) (q3.getD 3 0)
    let q5 := quarterL left3 (q1.getD 0 0) (q2.getD 1 0) (q3.getD 2 0) (q0.getD 3 0)
    let q6 := quarterL left3 (q2.getD 0 0) (q3.getD 1 0) (q0.getD 2 0) (q1.getD 3 0)
    let q7 := quarterL left3 (q3.getD 0 0) (q0.getD 1 0) (q1.getD 2 0) (q2.getD 3 0)
    [q4.getD 0 0, q5.getD 0 0, q6.getD 0 0, q7.getD 0 0, q7.getD 1 0, q4.getD 1 0, q5.getD 1 0, q6.getD 1 0, q6.getD 2 0, q7.getD 2 0, q4.getD 2 0, q5.getD 2 0, q5.getD 3 0, q6.getD 3 0, q7.getD 3 0, q4.getD 3 0]
  | l => l
theorem dblR_length (s : List (BitVec 32)) (h : s.length = 16) : (dblR s).length = 16 := by
  obtain ⟨x0, x1, x2, x3, x4, x5, x6, x7, x8, x9, x10, x11, x12, x13, x14, x15, rfl⟩ := list16 s h
  rfl
theorem rounds_dblR_length (k : Nat) (s : List (BitVec 32)) (h : s.length = 16) : (rounds dblR k s).length = 16 := by
  induction k with
  | zero => exact h
  | succ k ih => exact dblR_length _ ih
def wordBytes (v s : List (BitVec 32)) (i : Nat) : List (BitVec 8) :=
  [(v.getD i 0 + s.getD i 0).setWidth 8, ((v.getD i 0 + s.getD i 0) >>> 8).setWidth 8, ((v.getD i 0 + s.getD i 0) >>> 16).setWidth 8, ((v.getD i 0 + s.getD i 0) >>> 24).setWidth 8]
theorem wordBytes_length (v s : List (BitVec 32)) (k : Nat) : ((List.range k).flatMap (wordBytes v s)).length = 4 * k := by
  induction k with
  | zero => rfl
  | succ k ih => rw [List.range_succ, List.flatMap_append, List.length_append, ih]; simp [wordBytes]; omega
theorem wordBytes_succ (v s : List (BitVec 32)) (k : Nat) : (List.range (k + 1)).flatMap (wordBytes v s) = (List.range k).flatMap (wordBytes v s) ++ wordBytes v s k := by
  rw [List.range_succ, List.flatMap_append]; simp
def blockR (key : List (BitVec 8)) (counter : BitVec 32) (nonce : List (BitVec 8)) : List (BitVec 8) :=
  (List.range 16).flatMap (wordBytes (rounds dblR 10 (beginR wordRL key counter nonce)) (beginR wordRL key counter nonce))
@[simp] theorem blockR_length (key : List (BitVec 8)) (counter : BitVec 32) (nonce : List (BitVec 8)) : (blockR key counter nonce).length = 64 := by
  unfold blockR; rw [wordBytes_length]

theorem c_same (va vb : Value) (la lb : List (BitVec 8)) (w0 : World)  (hra : Rd (blks w0) u8 va la) (hrb : Rd (blks w0) u8 vb lb) (hla : la.length ≤ 281474976710656) : CallsR Tryd.prog 14 #[va, vb] w0 (fun r w1 => r = (bl (la == lb)) ∧ Ext w0 w1) := by
 refine callsR_of_cw (args := [va, vb]) Tryd.func14 rfl Tryd.ntmps14 Tryd.results14 rfl ?_
 have hm0 : Mem w0 (restOf w0) [] := Mem.of_world w0
 refine cw_seq (cw_region ?_)
 refine rw_q rfl (ev_assign (v := (bl false)) rfl) ?_
 refine rw_nil (kThen_normal (cw_seq (cw_seq (cw_region ?_))))
 refine rM rfl (v := va) rfl <| rw_q (v := (i64 (la.length : Int))) rfl (ev_len_rd (Rd.ofRest hra hm0) uT26 rfl) <| rM rfl (v := vb) rfl <| rw_q (v := (i64 (lb.length : Int))) rfl (ev_len_rd (Rd.ofRest hrb hm0) uT26 rfl) <| rw_q rfl (ev_i64_neq rfl rfl) ?_
 refine rw_nil (kThen_normal ?_)
 refine cw_cond rfl (fun hc1 => ?_) (fun hc1 => ?_)
 · -- true
   have hc1p := bne_iff_ne.1 hc1
   refine cw_seq (cw_region ?_)
   refine rw_q rfl (ev_assign (v := (bl false)) rfl) ?_
   refine rw_nil (kThen_normal (cw_ret (kThen_ret ?_)))
   refine fnPost_ret [(bl false)] ⟨rfl, trivial⟩ ?_
   exact ⟨congrArg bl (same_len hc1p), hm0.toExt⟩
 · -- false
   have hc1p := eq_of_bne_false hc1
   refine cw_skip (kThen_normal (cw_seq (cw_seq (cw_region ?_))))
   refine rw_q rfl (ev_assign (v := (i64 0)) rfl) ?_
   refine rw_nil (kThen_normal (cw_block ?_))
   refine cw_loop (fun g wv => ∃ (k : Nat), (k ≤ la.length) ∧ (∀ j, j < k → la.getD j 0 = lb.getD j 0) ∧ g 0 = va ∧ g 1 = vb ∧ g 5 = (i64 (k : Int)) ∧ g 10 = (bl ((la.length : Int) != (lb.length : Int))) ∧ Mem wv (restOf w0) []) (fun g wv => ((la.length : Int) - RowKit.intOf (g 5)).toNat) ?_ ?_
   · exact ⟨0, oM, (by intro j hj; omega), rfl, rfl, rfl, rfl, hm0⟩
   · rintro fr2 w3 ⟨k, hk, heq, s0, s1, s5, s10, hm3⟩
     have z5 := s5
     refine cw_seq (cw_seq (cw_region ?_))
     refine rM rfl s5 <| rM rfl s0 <| rw_q (v := (i64 (la.length : Int))) rfl (ev_len_rd (Rd.ofRest hra hm3) uT26 rfl) <| rw_q rfl (ev_i64_lss rfl rfl) ?_
     refine rw_nil (kThen_normal ?_)
     refine cw_cond rfl (fun hc4 => ?_) (fun hc4 => ?_)
     · -- true
       have hc4p := of_decide_eq_true hc4
       refine cw_skip (kThen_normal (cw_seq (cw_block (cw_seq ?_))))
       refine cw_draw [(0, false), (1, false), (2, false), (3, false), (4, false), (5, false), (6, false), (7, false)] 8 (by kernel_rfl) <| dM rfl rfl s0 <| dM rfl rfl s5 <| dw_q rfl rfl (fun _ _hx => ev_indexAddr_rdv (Rd.ofRest hra (hm3.ext _hx)) uT26 ti5 rfl rfl oM sD) <| dw_q (v := (u8 (la.getD k 0))) rfl rfl (fun _ _hx => ev_load_rdD (l := la) (i := (k : Int)) (dflt := 0) (Rd.ofRest hra (hm3.ext _hx)) uT5 rfl oM sD rfl) <| dM rfl rfl s1 ?_
       refine dM rfl rfl s5 <| dw_q rfl rfl (fun _ _hx => ev_indexAddr_rdv (Rd.ofRest hrb (hm3.ext _hx)) uT26 ti5 rfl rfl oM sD) <| dw_q (v := (u8 (lb.getD k 0))) rfl rfl (fun _ _hx => ev_load_rdD (l := lb) (i := (k : Int)) (dflt := 0) (Rd.ofRest hrb (hm3.ext _hx)) uT5 rfl oM sD rfl) ?_
       refine dw_nil (fun w5 _ew5 => ?_)
       have hm5 := hm3.ext _ew5
       refine rw_q rfl (ev_u8_neq rfl rfl) ?_
       refine rw_nil (kThen_normal ?_)
       refine CW.abs (fun g => g 0 = va ∧ g 1 = vb ∧ g 5 = (i64 (k : Int)) ∧ g 10 = (bl ((la.length : Int) != (lb.length : Int))) ∧ g 14 = (bl (decide ((k : Int) < (la.length : Int)))) ∧ g 25 = (bl ((la.getD k 0) != (lb.getD k 0))) ∧ True) ⟨s0, s1, s5, s10, rfl, rfl, trivial⟩ ?_
       rintro fr6 ⟨s0, s1, s5, s10, s14, s25, _⟩
       refine cw_cond s25 (fun hc7 => ?_) (fun hc7 => ?_)
       · -- true
         have hc7p := bne_iff_ne.1 hc7
         refine cw_seq (cw_region ?_)
         refine rw_q rfl (ev_assign (v := (bl false)) rfl) ?_
         refine rw_nil (kThen_normal (cw_ret ?_))
         refine kBlk_ret (kThen_ret (kBlk_ret ?_))
         refine fnPost_ret [(bl false)] ⟨rfl, trivial⟩ ?_
         exact ⟨congrArg bl (same_at hc7p), hm5.toExt⟩
       · -- false
         have hc7p := eq_of_bne_false hc7
         refine cw_skip (kBlk_normal (cw_region ?_))
         refine rM rfl s5 <| rw_q rfl (ev_i64_add (b := 1) rfl rfl oM oM) <| rw_q rfl (ev_assign (v := (i64 ((k : Int) + 1))) rfl) ?_
         refine rw_nil (kThen_normal ?_)
         exact ⟨⟨k + 1, oM, (same_step heq hc7p), s0, s1, rfl, s10, hm5⟩, meas rfl z5 oM oM⟩
     · -- false
       have hc4p := of_decide_eq_false hc4
       refine cw_exit ?_
       refine kThen_exit (kThen_exit (kBlk_hit ?_))
       refine cw_seq (cw_region ?_)
       refine rw_q rfl (ev_assign (v := (bl true)) rfl) ?_
       refine rw_nil (kThen_normal (cw_ret ?_))
       refine fnPost_ret [(bl true)] ⟨rfl, trivial⟩ ?_
       exact ⟨congrArg bl (same_all hc1p (fun j hj => heq j oM)), hm3.toExt⟩

theorem c_order  (w0 : World)   : CallsR Tryd.prog 67 #[] w0 (fun r w1 => ∃ b1 b2 b3 b4 b5 b6 b7 b8 b9, r = slc b9 0 8 8 ∧ Mem w1 (restOf w0) [(b9, .cells #[(slc b1 0 4 4), (slc b2 0 4 4), (slc b3 0 4 4), (slc b4 0 4 4), (slc b5 0 4 4), (slc b6 0 4 4), (slc b7 0 4 4), (slc b8 0 4 4)] 107 (0, 0)), (b8, .cells (cl i64 ([3, 4, 9, 14])) 3 (0, 0)), (b7, .cells (cl i64 ([2, 7, 8, 13])) 3 (0, 0)), (b6, .cells (cl i64 ([1, 6, 11, 12])) 3 (0, 0)), (b5, .cells (cl i64 ([0, 5, 10, 15])) 3 (0, 0)), (b4, .cells (cl i64 ([3, 7, 11, 15])) 3 (0, 0)), (b3, .cells (cl i64 ([2, 6, 10, 14])) 3 (0, 0)), (b2, .cells (cl i64 ([1, 5, 9, 13])) 3 (0, 0)), (b1, .cells (cl i64 ([0, 4, 8, 12])) 3 (0, 0))]) := by
 refine callsR_of_cw (args := []) Tryd.func67 rfl Tryd.ntmps67 Tryd.results67 rfl ?_
 have hm0 : Mem w0 (restOf w0) [] := Mem.of_world w0
 refine cw_seq (cw_region ?_)
 refine rw_q rfl (ev_assign (v := (Value.slice none 0 0)) rfl) ?_
 refine rw_nil (kThen_normal (cw_seq (cw_region ?_)))
 refine rw_c rfl (or_buildSlice_cl i64 [0, 4, 8, 12] i64_one hm0 uT107 ti3 rfl rfl rfl) ?_
 rintro _ w1 ⟨b1, rfl, _ew1, hm1⟩
 refine rw_c rfl (or_buildSlice_cl i64 [1, 5, 9, 13] i64_one hm1 uT107 ti3 rfl rfl rfl) ?_
 rintro _ w2 ⟨b2, rfl, _ew2, hm2⟩
 refine rw_c rfl (or_buildSlice_cl i64 [2, 6, 10, 14] i64_one hm2 uT107 ti3 rfl rfl rfl) ?_
 rintro _ w3 ⟨b3, rfl, _ew3, hm3⟩
 refine rw_c rfl (or_buildSlice_cl i64 [3, 7, 11, 15] i64_one hm3 uT107 ti3 rfl rfl rfl) ?_
 rintro _ w4 ⟨b4, rfl, _ew4, hm4⟩
 refine rw_c rfl (or_buildSlice_cl i64 [0, 5, 10, 15] i64_one hm4 uT107 ti3 rfl rfl rfl) ?_
 rintro _ w5 ⟨b5, rfl, _ew5, hm5⟩
 refine rw_c rfl (or_buildSlice_cl i64 [1, 6, 11, 12] i64_one hm5 uT107 ti3 rfl rfl rfl) ?_
 rintro _ w6 ⟨b6, rfl, _ew6, hm6⟩
 refine rw_c rfl (or_buildSlice_cl i64 [2, 7, 8, 13] i64_one hm6 uT107 ti3 rfl rfl rfl) ?_
 rintro _ w7 ⟨b7, rfl, _ew7, hm7⟩
 refine rw_c rfl (or_buildSlice_cl i64 [3, 4, 9, 14] i64_one hm7 uT107 ti3 rfl rfl rfl) ?_
 rintro _ w8 ⟨b8, rfl, _ew8, hm8⟩
 refine rw_c rfl (or_buildSlice_ones [(slc b1 0 4 4), (slc b2 0 4 4), (slc b3 0 4 4), (slc b4 0 4 4), (slc b5 0 4 4), (slc b6 0 4 4), (slc b7 0 4 4), (slc b8 0 4 4)] (by simp [slc, ptr, Value.oneCell', i64, u8, u32, u64, bl]) hm8 uT103 ti107 rfl rfl rfl) ?_
 rintro _ w9 ⟨b9, rfl, _ew9, hm9⟩
 have hm9 : Mem w9 (restOf w0) [(b9, .cells #[(slc b1 0 4 4), (slc b2 0 4 4), (slc b3 0 4 4), (slc b4 0 4 4), (slc b5 0 4 4), (slc b6 0 4 4), (slc b7 0 4 4), (slc b8 0 4 4)] 107 (0, 0)), (b8, .cells (cl i64 ([3, 4, 9, 14])) 3 (0, 0)), (b7, .cells (cl i64 ([2, 7, 8, 13])) 3 (0, 0)), (b6, .cells (cl i64 ([1, 6, 11, 12])) 3 (0, 0)), (b5, .cells (cl i64 ([0, 5, 10, 15])) 3 (0, 0)), (b4, .cells (cl i64 ([3, 7, 11, 15])) 3 (0, 0)), (b3, .cells (cl i64 ([2, 6, 10, 14])) 3 (0, 0)), (b2, .cells (cl i64 ([1, 5, 9, 13])) 3 (0, 0)), (b1, .cells (cl i64 ([0, 4, 8, 12])) 3 (0, 0))] := hm9
 refine rw_q rfl (ev_assign (v := (slc b9 0 8 8)) rfl) ?_
 refine rw_nil (kThen_normal ?_)
 refine CW.abs (fun g => g 0 = (slc b9 0 8 8) ∧ True) ⟨rfl, trivial⟩ ?_
 rintro fr10 ⟨s0, _⟩
 refine cw_ret <| fnPost_ret [(slc b9 0 8 8)] ⟨s0, trivial⟩ ?_
 exact ⟨b1, b2, b3, b4, b5, b6, b7, b8, b9, rfl, hm9⟩


end Go.Proofs.YtmiagmbgfhakgaaDoor

