/- Numbers as bytes: plain law; their contracts. Conditions: none beyond those that each theorem states. -/
import Derived.Test.YtfbnhoolkajebaaDk4
namespace Go.Proofs.Ytfbnhoolkajebaa
section
set_option linter.unusedVariables false
set_option linter.unusedSimpArgs false
attribute [local irreducible] crashB crashK pushB readB inB errB cutN seenW
theorem c_dsync (bd : Nat) (vl : Value) (ls : List (List (BitVec 8))) (Hl : List (Nat × Obj)) (vp : Value) (ps : List WriteT) (Hp : List (Nat × Obj)) (w0 : World) (R : Rest) (hm0 : Mem w0 R ([(bd, .cells #[vl, vp] 94 (0, 0))] ++ (Hl ++ (Hp ++ ([]))))) (gl : GrowK (encA u8) 64 83 vl ls Hl) (gp : GrowK encW 65 104 vp ps Hp) (hat : ∀ i, i < ps.length → 0 ≤ (ps.getD i write0).at_ ∧ (ps.getD i write0).at_ < (ls.length : Int)) (hll : ls.length ≤ 65536) (hpl : ps.length ≤ 1048576) : CallsR Try.prog 46 #[(ptr bd 0)] w0 (fun r w1 => ∃ Hl2, r = .tuple #[] ∧ GrowK (encA u8) 64 83 vl (crashB ls ps [1#8]) Hl2 ∧ Mem w1 R ([(bd, .cells #[vl, (Value.slice none 0 0)] 94 (0, 0))] ++ (Hl2 ++ ([])))) := by
 refine callsR_of_cw (args := [(ptr bd 0)]) Try.func46 rfl Try.ntmps46 Try.results46 rfl <| cw_region <| rw_q rfl (ev_move (v := (ptr bd 0)) rfl) <| rw_c rfl (or_buildSlice_cl u8 [1#8] u8_one hm0 uT23 ti5 rfl rfl rfl) ?_
 rintro _ w1 ⟨b3, rfl, _ew1, hm1⟩
 have hF3 : Mem w1 R (([(bd, .cells #[vl, vp] 94 (0, 0))] ++ (Hl ++ (Hp ++ ([])))) ++ ([(b3, .cells (cl u8 ([1#8])) 5 (0, 0))])) := by
   have hT := (Mem.pick3 Hl Hp [_] [_] _ (Mem.pick2 Hp [_, _] Hl _ (Mem.pick2 [_, _] Hl Hp _ hm1)))
   try simp only [List.append_assoc, List.cons_append, List.nil_append, List.append_nil] at hT ⊢
   exact hT
 refine rw_c rfl (opR_call Try.func17 bd17 nm17 (args2 rfl rfl) (c_dcrash bd vl ls Hl vp ps Hp (slc b3 0 1 1) ([1#8]) _ _ (Mem.give hF3) gl gp (Rd.mkA (Mem.addOwn hF3 (List.Mem.head _))) hat sL sL sL)) ?_
 rintro _ w2 ⟨Hl2q4, rfl, gl2q4, k_w2⟩
 have hm2 : Mem w2 R ([(bd, .cells #[vl, (Value.slice none 0 0)] 94 (0, 0))] ++ (Hl2q4 ++ ([(b3, .cells (cl u8 ([1#8])) 5 (0, 0))]))) := (by
   have hT := Mem.back hF3 k_w2
   try simp only [List.append_assoc, List.cons_append, List.nil_append, List.append_nil] at hT ⊢
   exact hT)
 refine rw_nil <| fnPost_normal [] trivial ?_
 have hm5 := Mem.drop ([(b3, .cells (cl u8 ([1#8])) 5 (0, 0))]) _ (Mem.pick2 [_] Hl2q4 [_] _ hm2)
 exact ⟨Hl2q4, rfl, gl2q4, (by
   have hT := hm5
   try simp only [List.append_assoc, List.cons_append, List.nil_append, List.append_nil] at hT ⊢
   exact hT)⟩

set_option maxHeartbeats 2000000 in
theorem c_dsize (bd : Nat) (vl : Value) (ls : List (List (BitVec 8))) (vp : Value) (ps : List WriteT) (w0 : World)  (hd : blks w0 bd = some (.cells #[vl, vp] 94 (0, 0))) (hrl : RdK (blks w0) (encA u8) 64 vl ls) (hrp : RdK (blks w0) encW 65 vp ps) : CallsR Try.prog 49 #[(ptr bd 0)] w0 (fun r w1 => r = (i64 (ls.length : Int)) ∧ Ext w0 w1) := by
 refine callsR_of_cw (args := [(ptr bd 0)]) Try.func49 rfl Try.ntmps49 Try.results49 rfl ?_
 have hm0 : Mem w0 (restOf w0) [] := Mem.of_world w0
 refine sR <| rw_q rfl (ev_assign (v := (i64 0)) rfl) ?_
 refine rN (sR ?_)
 refine rw_q rfl (ev_move (v := (ptr bd 0)) rfl) <| rw_q rfl (ev_nilCheck rfl) <| rw_q rfl (ev_fa (r := 0) uT94 rfl (by first | rfl | omega) ti40 rfl rfl) <| rw_q (v := vl) rfl (ev_load1 uT40 rfl rfl (hm0.rest _ _ hd) rfl) <| rw_q (v := (i64 (ls.length : Int))) rfl (ev_len_rk (RdK.ofRest hrl hm0) uT40 rfl) <| rw_q rfl (ev_assign (v := (i64 (ls.length : Int))) rfl) ?_
 refine rN (cw_ret ?_)
 refine fnPost_ret [(i64 (ls.length : Int))] ⟨rfl, trivial⟩ ?_
 exact ⟨rfl, hm0.toExt⟩

end --m
section
set_option linter.unusedVariables false
set_option linter.unusedSimpArgs false
/-! ### Numbers as bytes -/
def putB (v : BitVec 64) : Nat → List (BitVec 8)
  | 0 => []
  | n + 1 => BitVec.setWidth 8 (v >>> (8 * n)) :: putB v n
theorem putB_len (v : BitVec 64) : ∀ n, (putB v n).length = n
  | 0 => rfl
  | n + 1 => by show (_ :: putB v n).length = _; rw [List.length_cons, putB_len v n]
def getB (b : List (BitVec 8)) : BitVec 64 := b.foldl (fun v c => (v <<< 8) ||| BitVec.setWidth 64 c) 0
def getK (b : List (BitVec 8)) (k : Nat) : BitVec 64 := getB (b.take k)
theorem getK_all (b : List (BitVec 8)) : getK b b.length = getB b := by unfold getK; rw [List.take_length]
theorem getK_succ {b : List (BitVec 8)} {k : Nat} (h : k < b.length) : (getK b k <<< 8) ||| BitVec.setWidth 64 (b.getD k 0) = getK b (k + 1) := by
  unfold getK getB
  have e : b.take (k + 1) = b.take k ++ [b.getD k 0] := by rw [List.take_add_one]; simp [List.getD_eq_getElem?_getD, h]
  rw [e, List.foldl_append]; rfl
def blocksN (n : Nat) : Nat := max ((n + 41) / 42) 1
theorem put_step {x : BitVec 64} {k k1 : Nat} {l L : List (BitVec 8)} (hk : (k : Int) - 1 = (k1 : Int)) (h : l ++ putB x k = L) : (l ++ [BitVec.setWidth 8 (x >>> (8 * k1))]) ++ putB x k1 = L := by
  have : k = k1 + 1 := by omega
  subst this
  rw [← h]; simp [putB]

set_option maxHeartbeats 2000000 in
theorem c_jput (vo : Value) (lo : List (BitVec 8)) (Ho : List (Nat × Obj)) (x : BitVec 64) (n : Nat) (w0 : World) (R : Rest) (hm0 : Mem w0 R (Ho ++ ([]))) (go : Grow u8 5 vo lo Ho) (hn : n ≤ 8) (hlo : lo.length ≤ 1048576) : CallsR Try.prog 86 #[vo, (u64 x), (i64 (n : Int))] w0 (fun r w1 => ∃ Hs, Grow u8 5 r (lo ++ putB x n) Hs ∧ Mem w1 R Hs) := by
 refine callsR_of_cw (args := [vo, (u64 x), (i64 (n : Int))]) Try.func86 rfl Try.ntmps86 Try.results86 rfl <| sR <| rw_q rfl (ev_assign (v := (Value.slice none 0 0)) rfl) ?_
 refine rN (cw_seq (sR ?_))
 refine rw_q rfl (ev_move (v := (i64 (n : Int))) rfl) <| rw_q rfl (ev_i64_sub (b := 1) rfl rfl oM oM) <| rw_q rfl (ev_assign (v := (i64 ((n : Int) - 1))) rfl) ?_
 refine rN (cw_block ?_)
 refine cw_loop (fun g wv => ∃ (k : Nat) (v1 : Value) (l1 : List (BitVec 8)) (H1 : List (Nat × Obj)), (k ≤ n) ∧ (l1 ++ putB x k = lo ++ putB x n) ∧ (l1.length + k = lo.length + n) ∧ (Grow u8 5 v1 l1 H1) ∧ g 0 = v1 ∧ g 1 = (u64 x) ∧ g 2 = (i64 (n : Int)) ∧ g 6 = (Value.slice none 0 0) ∧ g 7 = (i64 ((k : Int) - 1)) ∧ Mem wv R (H1 ++ ([]))) (fun g wv => (RowKit.intOf (g 7) - (-1)).toNat) ?_ ?_
 · exact ⟨n, vo, lo, Ho, (Nat.le_refl _), rfl, rfl, go, rfl, rfl, rfl, rfl, rfl, hm0⟩
 · rintro fr1 w2 ⟨k, v1, l1, H1, hk, hl1, hll, g1, s0, s1, s2, s6, s7, hm2⟩
   have z0 := s0
   have z7 := s7
   refine cw_seq (sR ?_)
   refine rM rfl s7 <| rw_q rfl (ev_i64_geq (b := 0) rfl rfl) <| rN ?_
   refine cw_cond rfl (fun hc3 => ?_) (fun hc3 => ?_)
   · -- true
     have hc3p := of_decide_eq_true hc3
     obtain ⟨k1, hk1⟩ : ∃ k1 : Nat, (k : Int) - 1 = (k1 : Int) := ⟨k - 1, by omega⟩
     refine CW.abs (fun g => g 0 = v1 ∧ g 1 = (u64 x) ∧ g 2 = (i64 (n : Int)) ∧ g 6 = (Value.slice none 0 0) ∧ g 7 = (i64 (k1 : Int)) ∧ g 11 = (bl (decide (0 ≤ ((k : Int) - 1)))) ∧ True) ⟨s0, s1, s2, s6, (Eq.trans s7 (congrArg i64 hk1)), rfl, trivial⟩ ?_
     rintro fr4 ⟨s0, s1, s2, s6, s7, s11, _⟩
     refine cw_skip (kThen_normal (cw_seq (cw_block (cw_region ?_))))
     refine rM rfl s0 <| rM rfl s1 <| rM rfl s7 <| rw_q rfl (ev_i64_mul (a := 8) rfl rfl oM oM) <| rw_q rfl (ev_u64_shr rfl rfl oM) <| rw_q rfl (ev_conv_u64_u8 ⟨_, uT95⟩ uT5 rfl) ?_
     refine rw_c rfl (or_buildSlice_cl u8 [(x >>> (8 * (k1 : Int)).toNat).setWidth 8] u8_one hm2 uT23 ti5 rfl rfl rfl) ?_
     rintro _ w5 ⟨b20, rfl, _ew5, hm5⟩
     refine rw_c rfl (or_append (f := u8) (Hs := H1) (H := [(b20, .cells (cl u8 ([(x >>> (8 * (k1 : Int)).toNat).setWidth 8])) 5 (0, 0))]) (Mem.pick [_] H1 _ hm5) g1 rfl rfl (Rd.mkA hm5.h0) uT23 uT23 ti5 rfl u8_one sL sL) ?_
     rintro sv6 w6 ⟨Hs6, hm6, g6⟩
     replace g6 : Grow u8 5 sv6 (l1 ++ ([(x >>> (8 * (k1 : Int)).toNat).setWidth 8])) Hs6 := g6
     refine rA rfl (v := sv6) rfl ?_
     refine rw_nil (kBlk_normal (cw_region ?_))
     refine rM rfl s7 <| rw_q rfl (ev_i64_sub (b := 1) rfl rfl oM oM) <| rw_q rfl (ev_assign (v := (i64 ((k1 : Int) - 1))) rfl) <| rN ?_
     have hm7 := Mem.drop ([(b20, .cells (cl u8 ([(x >>> (8 * (k1 : Int)).toNat).setWidth 8])) 5 (0, 0))]) _ (Mem.pick Hs6 [_] _ hm6)
     exact ⟨⟨k1, sv6, (l1 ++ ([(x >>> (8 * (k1 : Int)).toNat).setWidth 8])), Hs6, oM, (put_step hk1 hl1), (by simp; omega), g6, rfl, s1, s2, s6, rfl, hm7⟩, measD rfl z7 oM oM⟩
   · -- false
     have hc3p := of_decide_eq_false hc3
     refine cw_exit ?_
     refine kThen_exit (kThen_exit (kBlk_hit ?_))
     refine sR <| rM rfl s0 <| rA rfl (v := v1) rfl ?_
     refine rN (cw_ret ?_)
     refine fnPost_ret [v1] ⟨rfl, trivial⟩ ?_
     have hk0 : k = 0 := by omega
     exact ⟨H1, Grow.cast g1 (by rw [← hl1, hk0]; simp [putB]), by simpa using hm2⟩

set_option maxHeartbeats 2000000 in
theorem c_jget (v : Value) (b : List (BitVec 8)) (w0 : World)  (hb : Rd (blks w0) u8 v b) (hl : b.length ≤ 1048576) : CallsR Try.prog 84 #[v] w0 (fun r w1 => r = (u64 (getB b)) ∧ Ext w0 w1) := by
 refine callsR_of_cw (args := [v]) Try.func84 rfl Try.ntmps84 Try.results84 rfl ?_
 have hm0 : Mem w0 (restOf w0) [] := Mem.of_world w0
 refine sR <| rw_q rfl (ev_assign (v := (u64 0#64)) rfl) ?_
 refine rN (cw_seq (sR ?_))
 refine rM rfl (v := v) rfl <| rw_q (v := (i64 (b.length : Int))) rfl (ev_len_rd (Rd.ofRest hb hm0) uT23 rfl) <| rw_q rfl (ev_move (v := (i64 0)) rfl) ?_
 refine rN (cw_block ?_)
 refine cw_loop (fun g wv => ∃ (k : Nat), (k ≤ b.length) ∧ g 0 = v ∧ g 2 = (u64 (getK b k)) ∧ g 5 = v ∧ g 6 = (i64 (b.length : Int)) ∧ g 7 = (i64 (k : Int)) ∧ Mem wv (restOf w0) []) (fun g wv => ((b.length : Int) - RowKit.intOf (g 7)).toNat) ?_ ?_
 · exact ⟨0, (Nat.zero_le _), rfl, rfl, rfl, rfl, rfl, hm0⟩
 · rintro fr1 w2 ⟨k, hk, s0, s2, s5, s6, s7, hm2⟩
   have z2 := s2
   have z7 := s7
   refine sR <| rw_q rfl (ev_i64_lss s7 s6) ?_
   refine rN (cw_seq ?_)
   refine cw_cond rfl (fun hc3 => ?_) (fun hc3 => ?_)
   · -- true
     have hc3p := of_decide_eq_true hc3
     refine cw_skip (kThen_normal (cw_seq (cw_block (sR ?_))))
     refine rw_q rfl (ev_indexAddr_rdv (Rd.ofRest hb hm2) uT23 ti5 s5 s7 oM sL) <| rw_q (v := (u8 (b.getD k 0))) rfl (ev_load_rdD (l := b) (i := (k : Int)) (dflt := 0) (Rd.ofRest hb hm2) uT5 rfl oM sL rfl) <| rw_q rfl (ev_assign (v := (u8 (b.getD k 0))) rfl) ?_
     refine rN (cw_region ?_)
     refine rM rfl s2 <| rw_q rfl (ev_u64_shl (b := 8) rfl rfl oM) <| rw_q rfl (ev_move (v := (u8 (b.getD k 0))) rfl) <| rw_q rfl (ev_conv_u8_u64 ⟨_, uT5⟩ uT95 rfl) <| rw_q rfl (ev_u64_or rfl rfl) <| rw_q rfl (ev_assign (v := (u64 (((getK b k) <<< 8) ||| ((b.getD k 0).setWidth 64)))) rfl) ?_
     refine rw_nil (kBlk_normal (cw_region ?_))
     refine rw_q rfl (ev_i64_add (b := 1) s7 rfl oM oM) <| rw_q rfl (ev_move (v := (i64 ((k : Int) + 1))) rfl) <| rN ?_
     exact ⟨⟨(k + 1), oM, s0, (congrArg u64 (getK_succ oM)), s5, s6, rfl, hm2⟩, meas rfl z7 oM oM⟩
   · -- false
     have hc3p := of_decide_eq_false hc3
     refine cw_exit ?_
     refine kThen_exit (kThen_exit (kBlk_hit ?_))
     refine sR <| rM rfl s2 <| rw_q rfl (ev_assign (v := (u64 (getK b k))) rfl) ?_
     refine rN (cw_ret ?_)
     refine fnPost_ret [(u64 (getK b k))] ⟨rfl, trivial⟩ ?_
     exact ⟨congrArg u64 (by rw [show k = b.length by omega, getK_all]), hm2.toExt⟩

set_option maxHeartbeats 2000000 in
theorem c_jblocks (n : Nat) (w0 : World)  (hn : n ≤ 4194304) : CallsR Try.prog 53 #[(i64 (n : Int))] w0 (fun r w1 => r = (i64 (blocksN n : Int)) ∧ Ext w0 w1) := by
 refine callsR_of_cw (args := [(i64 (n : Int))]) Try.func53 rfl Try.ntmps53 Try.results53 rfl ?_
 have hm0 : Mem w0 (restOf w0) [] := Mem.of_world w0
 refine sR <| rw_q rfl (ev_assign (v := (i64 0)) rfl) ?_
 refine rN (sR ?_)
 refine rw_q rfl (ev_move (v := (i64 (n : Int))) rfl) <| rw_q rfl (ev_i64_add (b := 42) rfl rfl oM oM) <| rw_q rfl (ev_i64_sub (b := 1) rfl rfl oM oM) <| rw_q rfl (ev_i64_quo (b := 42) rfl rfl oM oM oM) <| rw_q (v := (i64 (if 1 > ((((n : Int) + 42) - 1) / 42) then 1 else (((n : Int) + 42) - 1) / 42))) rfl (ev_max_i64 (j := 1) rfl rfl) <| rA rfl rfl ?_
 refine rN (cw_ret ?_)
 refine fnPost_ret [(i64 (if 1 > ((((n : Int) + 42) - 1) / 42) then 1 else (((n : Int) + 42) - 1) / 42))] ⟨rfl, trivial⟩ ?_
 exact ⟨congrArg i64 (by unfold blocksN; omega), hm0.toExt⟩


end --m
end Go.Proofs.Ytfbnhoolkajebaa
