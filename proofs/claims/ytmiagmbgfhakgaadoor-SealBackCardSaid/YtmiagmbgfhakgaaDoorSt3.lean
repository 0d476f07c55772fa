/- Contracts: stream, third part. Conditions: none beyond those that each theorem states. -/
import Derived.Test.YtmiagmbgfhakgaaDoorSt2
namespace Go.Proofs.YtmiagmbgfhakgaaDoor
set_option linter.unusedVariables false
set_option linter.unusedSimpArgs false

def turnByte (block : List (BitVec 8) → BitVec 32 → List (BitVec 8) → List (BitVec 8)) (key : List (BitVec 8)) (counter : BitVec 32) (nonce l : List (BitVec 8)) (i : Nat) : BitVec 8 :=
  l.getD i 0 ^^^ (block key (counter + BitVec.ofNat 32 (i / 64)) nonce).getD (i % 64) 0
def turnP (block : List (BitVec 8) → BitVec 32 → List (BitVec 8) → List (BitVec 8)) (key : List (BitVec 8)) (counter : BitVec 32) (nonce l : List (BitVec 8)) : List (BitVec 8) :=
  filled (turnByte block key counter nonce l) 0 l.length l.length
@[simp] theorem turnP_length (block : List (BitVec 8) → BitVec 32 → List (BitVec 8) → List (BitVec 8)) (key : List (BitVec 8)) (counter : BitVec 32) (nonce l : List (BitVec 8)) : (turnP block key counter nonce l).length = l.length := by simp [turnP]
/-- The block that a turner holds ahead of byte k. -/
def heldBlock (key : List (BitVec 8)) (counter : BitVec 32) (nonce : List (BitVec 8)) (k : Nat) : List (BitVec 8) :=
  if k = 0 then List.replicate 64 0 else blockP key (counter + BitVec.ofNat 32 ((k - 1) / 64)) nonce
@[simp] theorem heldBlock_length (key : List (BitVec 8)) (counter : BitVec 32) (nonce : List (BitVec 8)) (k : Nat) : (heldBlock key counter nonce k).length = 64 := by unfold heldBlock; split <;> simp
theorem held_mid {key : List (BitVec 8)} {counter : BitVec 32} {nonce : List (BitVec 8)} {k : Nat} (h : ¬ ((k : Int) % 64 = 0)) : heldBlock key counter nonce k = blockP key (counter + BitVec.ofNat 32 (k / 64)) nonce := by
  have h1 : ¬ k = 0 := by rintro rfl; simp at h
  have h2 : (k - 1) / 64 = k / 64 := by omega
  rw [heldBlock, if_neg h1, h2]
theorem held_next (key : List (BitVec 8)) (counter : BitVec 32) (nonce : List (BitVec 8)) (k : Nat) : heldBlock key counter nonce (k + 1) = blockP key (counter + BitVec.ofNat 32 (k / 64)) nonce := by
  rw [heldBlock, if_neg oM, Nat.add_sub_cancel]
theorem count_zero {counter : BitVec 32} {k : Nat} (h : (k : Int) % 64 = 0) : counter + BitVec.ofNat 32 ((k + 63) / 64) = counter + BitVec.ofNat 32 (k / 64) := by
  have : (k + 63) / 64 = k / 64 := by omega
  rw [this]
theorem count_step {counter : BitVec 32} {k : Nat} : counter + BitVec.ofNat 32 (k / 64) + 1 = counter + BitVec.ofNat 32 ((k + 1 + 63) / 64) := by
  have : (k + 1 + 63) / 64 = k / 64 + 1 := by omega
  rw [this, BitVec.add_assoc]; congr 1; simp [BitVec.ofNat_add]
theorem count_zs {counter : BitVec 32} {k : Nat} (h : (k : Int) % 64 = 0) : counter + BitVec.ofNat 32 ((k + 63) / 64) + 1#32 = counter + BitVec.ofNat 32 ((k + 1 + 63) / 64) := by
  rw [count_zero h]; exact count_step
theorem count_mid {counter : BitVec 32} {k : Nat} (h : ¬ ((k : Int) % 64 = 0)) : counter + BitVec.ofNat 32 ((k + 63) / 64) = counter + BitVec.ofNat 32 ((k + 1 + 63) / 64) := by
  have : (k + 63) / 64 = (k + 1 + 63) / 64 := by omega
  rw [this]
theorem turnByte_at {block : List (BitVec 8) → BitVec 32 → List (BitVec 8) → List (BitVec 8)} {key : List (BitVec 8)} {counter : BitVec 32} {nonce l : List (BitVec 8)} {k : Nat} :
    l.getD k 0 ^^^ (block key (counter + BitVec.ofNat 32 (k / 64)) nonce).getD ((k : Int) % 64).toNat 0 = turnByte block key counter nonce l k := by
  have : ((k : Int) % 64).toNat = k % 64 := by omega
  rw [this]; rfl

theorem c_turn (key : List (BitVec 8)) (counter : BitVec 32) (nonce : List (BitVec 8)) (v : Value) (l : List (BitVec 8)) (w0 : World)  (hk : key.length = 32) (hn : nonce.length = 12) (hr : Rd (blks w0) u8 v l) (hl : l.length ≤ 281474976710656) : CallsR Tryd.prog 27 #[(agg u8 key), (u32 counter), (agg u8 nonce), v] w0 (fun r w1 => ∃ b, r = slc b 0 (turnP blockP key counter nonce l).length (turnP blockP key counter nonce l).length ∧ Mem w1 (restOf w0) [(b, .cells (cl u8 (turnP blockP key counter nonce l)) 5 (0, 0))]) := by
 refine callsR_of_cw (args := [(agg u8 key), (u32 counter), (agg u8 nonce), v]) Tryd.func27 rfl Tryd.ntmps27 Tryd.results27 rfl ?_
 have hm0 : Mem w0 (restOf w0) [] := Mem.of_world w0
 refine cw_seq (cw_region ?_)
 refine rw_c rfl (or_box_agg (f := u8) (l := key) hm0 rfl) ?_
 rintro _ w1 ⟨b4, rfl, _ew1, hm1⟩
 refine rw_c rfl (or_box_agg (f := u8) (l := nonce) hm1 rfl) ?_
 rintro _ w2 ⟨b6, rfl, _ew2, hm2⟩
 refine rw_q rfl (ev_assign (v := (Value.slice none 0 0)) rfl) ?_
 refine rw_nil (kThen_normal (cw_seq (cw_region ?_)))
 refine rM rfl (v := v) rfl <| rw_q (v := (i64 (l.length : Int))) rfl (ev_len_rd (Rd.ofRest hr hm2) uT26 rfl) <| rw_c rfl (or_makeSlice hm2 uT26 ti5 rfl rfl oM oM oM oM) ?_
 rintro _ w3 ⟨b15, rfl, _ew3, hm3⟩
 rw [rep_cells u8 0 rfl] at hm3
 have hm3 : Mem w3 (restOf w0) [(b15, .cells (cl u8 (List.replicate l.length (0 : BitVec 8))) 5 (0, 0)), (b6, .cells (cl u8 nonce) 25 (0, 0)), (b4, .cells (cl u8 key) 23 (0, 0))] := hm3
 refine rw_q rfl (ev_assign (v := (slc b15 0 l.length l.length)) rfl) ?_
 refine rw_nil (kThen_normal (cw_seq (cw_region ?_)))
 refine rw_c rfl (or_alloc_agg hm3 ti69) ?_
 rintro _ w4 ⟨b10, rfl, _ew4, hm4⟩
 refine rw_nil (kThen_normal (cw_seq (cw_seq (cw_region ?_))))
 refine rM rfl (v := v) rfl <| rw_q (v := (i64 (l.length : Int))) rfl (ev_len_rd (Rd.ofRest hr hm4) uT26 rfl) <| rw_q rfl (ev_move (v := (i64 0)) rfl) ?_
 refine rw_nil (kThen_normal ?_)
 refine CW.abs (fun g => g 0 = (agg u8 key) ∧ g 1 = (u32 counter) ∧ g 2 = (agg u8 nonce) ∧ g 3 = v ∧ g 4 = (ptr b4 0) ∧ g 6 = (ptr b6 0) ∧ g 8 = (Value.slice none 0 0) ∧ g 9 = (slc b15 0 l.length l.length) ∧ g 10 = (ptr b10 0) ∧ g 16 = v ∧ g 17 = (i64 (l.length : Int)) ∧ g 18 = (i64 0) ∧ True) ⟨rfl, rfl, rfl, rfl, rfl, rfl, rfl, rfl, rfl, rfl, rfl, rfl, trivial⟩ ?_
 rintro fr5 ⟨s0, s1, s2, s3, s4, s6, s8, s9, s10, s16, s17, s18, _⟩
 refine cw_block ?_
 refine cw_loop (fun g wv => ∃ (k : Nat), (k ≤ l.length) ∧ g 0 = (agg u8 key) ∧ g 1 = (u32 (counter + BitVec.ofNat 32 ((k + 63) / 64))) ∧ g 2 = (agg u8 nonce) ∧ g 3 = v ∧ g 4 = (ptr b4 0) ∧ g 6 = (ptr b6 0) ∧ g 8 = (Value.slice none 0 0) ∧ g 9 = (slc b15 0 l.length l.length) ∧ g 10 = (ptr b10 0) ∧ g 16 = v ∧ g 17 = (i64 (l.length : Int)) ∧ g 18 = (i64 (k : Int)) ∧ Mem wv (restOf w0) [(b10, .cells (cl u8 (heldBlock key counter nonce k)) 69 (0, 0)), (b15, .cells (cl u8 (filled (turnByte blockP key counter nonce l) 0 l.length k)) 5 (0, 0)), (b6, .cells (cl u8 nonce) 25 (0, 0)), (b4, .cells (cl u8 key) 23 (0, 0))]) (fun g wv => ((l.length : Int) - RowKit.intOf (g 18)).toNat) ?_ ?_
 · exact ⟨0, oM, s0, (s1.trans (by simp)), s2, s3, s4, s6, s8, s9, s10, s16, s17, s18, (by rw [filled_zero]; exact hm4)⟩
 · rintro fr6 w7 ⟨k, hk1, s0, s1, s2, s3, s4, s6, s8, s9, s10, s16, s17, s18, hm7⟩
   have z18 := s18
   have z1 := s1
   refine cw_seq (cw_region ?_)
   refine rw_q rfl (ev_i64_lss s18 s17) ?_
   refine rw_nil (kThen_normal (cw_seq ?_))
   refine cw_cond rfl (fun hc8 => ?_) (fun hc8 => ?_)
   · -- true
     have hc8p := of_decide_eq_true hc8
     refine cw_skip (kThen_normal (cw_seq (cw_block (cw_seq (cw_region ?_)))))
     refine rM rfl s18 <| rw_q rfl (ev_indexAddr_rdv (Rd.ofRest hr hm7) uT26 ti5 s16 s18 oM sD) <| rw_q (v := (u8 (l.getD k 0))) rfl (ev_load_rdD (l := l) (i := (k : Int)) (dflt := 0) (Rd.ofRest hr hm7) uT5 rfl oM sD rfl) <| rw_q rfl (ev_assign (v := (i64 (k : Int))) rfl) <| rw_q rfl (ev_assign (v := (u8 (l.getD k 0))) rfl) ?_
     refine rw_nil (kThen_normal (cw_seq (cw_seq (cw_region ?_))))
     refine rw_q rfl (ev_move (v := (i64 (k : Int))) rfl) <| rw_q rfl (ev_i64_rem (b := 64) rfl rfl oM oM oM) <| rw_q rfl (ev_i64_eql (b := 0) rfl rfl) ?_
     refine rw_nil (kThen_normal ?_)
     refine cw_meet (J := fun g wv => g 0 = (agg u8 key) ∧ g 1 = (u32 (counter + BitVec.ofNat 32 ((k + 1 + 63) / 64))) ∧ g 2 = (agg u8 nonce) ∧ g 3 = v ∧ g 4 = (ptr b4 0) ∧ g 6 = (ptr b6 0) ∧ g 8 = (Value.slice none 0 0) ∧ g 9 = (slc b15 0 l.length l.length) ∧ g 10 = (ptr b10 0) ∧ g 11 = (i64 (k : Int)) ∧ g 12 = (u8 (l.getD k 0)) ∧ g 16 = v ∧ g 17 = (i64 (l.length : Int)) ∧ g 18 = (i64 (k : Int)) ∧ g 19 = (bl (decide ((k : Int) < (l.length : Int)))) ∧ g 25 = (bl (((k : Int) % 64) == 0)) ∧ Mem wv (restOf w0) [(b10, .cells (cl u8 (blockP key (counter + BitVec.ofNat 32 (k / 64)) nonce)) 69 (0, 0)), (b15, .cells (cl u8 (filled (turnByte blockP key counter nonce l) 0 l.length k)) 5 (0, 0)), (b6, .cells (cl u8 nonce) 25 (0, 0)), (b4, .cells (cl u8 key) 23 (0, 0))]) ?_ ?_
     · skip
       refine cw_cond rfl (fun hc9 => ?_) (fun hc9 => ?_)
       · -- true
         have hc9p := eq_of_beq hc9
         refine cw_seq (cw_region ?_)
         refine rw_q (v := (agg u8 key)) rfl (ev_loadA uT23 rfl ti23 s4 hm7.h3 sZ) <| rM rfl s1 <| rw_q (v := (agg u8 nonce)) rfl (ev_loadA uT25 rfl ti25 s6 hm7.h2 sZ) <| rw_c rfl (opR_call Tryd.func40 bd40 nm40 (args3 rfl rfl rfl) (c_block key (counter + BitVec.ofNat 32 ((k + 63) / 64)) nonce _ sD sD)) ?_
         rintro _ w10 ⟨rfl, _ew10⟩
         have hm10 := hm7.ext _ew10
         refine rw_n (or_store_agg (f := u8) (l := blockP key (counter + BitVec.ofNat 32 ((k + 63) / 64)) nonce) u8_one ti69 s10 rfl sD hm10.h0 sZ rfl) ?_
         rintro _ w12 uq12
         have hm12 := hm10.upd0 uq12
         refine rw_nil (kThen_normal ?_)
         refine CW.abs (fun g => g 0 = (agg u8 key) ∧ g 1 = (u32 (counter + BitVec.ofNat 32 ((k + 63) / 64))) ∧ g 2 = (agg u8 nonce) ∧ g 3 = v ∧ g 4 = (ptr b4 0) ∧ g 6 = (ptr b6 0) ∧ g 8 = (Value.slice none 0 0) ∧ g 9 = (slc b15 0 l.length l.length) ∧ g 10 = (ptr b10 0) ∧ g 11 = (i64 (k : Int)) ∧ g 12 = (u8 (l.getD k 0)) ∧ g 16 = v ∧ g 17 = (i64 (l.length : Int)) ∧ g 18 = (i64 (k : Int)) ∧ g 19 = (bl (decide ((k : Int) < (l.length : Int)))) ∧ g 25 = (bl (((k : Int) % 64) == 0)) ∧ True) ⟨s0, s1, s2, s3, s4, s6, s8, s9, s10, rfl, rfl, s16, s17, s18, rfl, rfl, trivial⟩ ?_
         rintro fr13 ⟨s0, s1, s2, s3, s4, s6, s8, s9, s10, s11, s12, s16, s17, s18, s19, s25, _⟩
         refine cw_region <| rM rfl s1 <| rw_q rfl (ev_u32_add (b := 1#32) rfl rfl) <| rw_q rfl (ev_assign (v := (u32 ((counter + BitVec.ofNat 32 ((k + 63) / 64)) + 1#32))) rfl) ?_
         refine rw_nil (kThen_normal ?_)
         exact ⟨s0, Eq.trans rfl (congrArg u32 (count_zs hc9p)), s2, s3, s4, s6, s8, s9, s10, s11, s12, s16, s17, s18, s19, s25, (by rw [← count_zero hc9p]; exact hm12)⟩
       · -- false
         have hc9p := ne_of_beq_false hc9
         refine cw_skip (kThen_normal ?_)
         exact ⟨s0, Eq.trans s1 (congrArg u32 (count_mid hc9p)), s2, s3, s4, s6, s8, s9, s10, rfl, rfl, s16, s17, s18, rfl, rfl, (by rw [← held_mid hc9p]; exact hm7)⟩
     · rintro fr14 w15 ⟨s0, s1, s2, s3, s4, s6, s8, s9, s10, s11, s12, s16, s17, s18, s19, s25, hm15⟩
       refine cw_region <| rM rfl s9 <| rM rfl s11 <| rM rfl s12 <| rM rfl s11 <| rw_q rfl (ev_i64_rem (b := 64) rfl rfl oM oM oM) ?_
       refine rw_q rfl (ev_ia_arr (r := ((k : Int) % 64 : Int).toNat) oM uT69 ti5 s10 rfl oM sD) <| rw_q (v := (u8 ((blockP key (counter + BitVec.ofNat 32 (k / 64)) nonce).getD (((k : Int) % 64 : Int).toNat) 0))) rfl (ev_load1 uT5 rfl rfl hm15.h0 (get_clD _ _ 0 sD)) <| rw_q rfl (ev_u8_xor rfl rfl) <| rw_q rfl (ev_ia_slc (r := k) oM uT26 ti5 rfl rfl oM sD) <| rw_n (or_store_cl (f := u8) u8_one ti5 rfl rfl hm15.h1 sD (.inl (Nat.zero_le _))) ?_
       rintro _ w16 uq16
       have hm16 := hm15.upd1 uq16
       refine rw_nil (kBlk_normal (cw_region ?_))
       refine rw_q rfl (ev_i64_add (b := 1) s18 rfl oM oM) <| rw_q rfl (ev_move (v := (i64 ((k : Int) + 1))) rfl) ?_
       refine rw_nil (kThen_normal ?_)
       exact ⟨⟨k + 1, oM, s0, s1, s2, s3, s4, s6, s8, s9, s10, s16, s17, rfl, (by rw [held_next, ← filled_set (turnByte blockP key counter nonce l) 0 (n := l.length) (k := k) oM _ turnByte_at]; exact hm16)⟩, meas rfl z18 oM oM⟩
   · -- false
     have hc8p := of_decide_eq_false hc8
     obtain rfl : k = l.length := by omega
     refine cw_exit ?_
     refine kThen_exit (kThen_exit (kBlk_hit ?_))
     refine cw_seq (cw_region ?_)
     refine rM rfl s9 <| rw_q rfl (ev_assign (v := (slc b15 0 l.length l.length)) rfl) ?_
     refine rw_nil (kThen_normal (cw_ret ?_))
     refine fnPost_ret [(slc b15 0 l.length l.length)] ⟨rfl, trivial⟩ ?_
     exact ⟨b15, by rw [turnP_length]; rfl, Mem.weak (H' := [_, _, _]) (Mem.pick [_] [_] _ hm7)⟩


end Go.Proofs.YtmiagmbgfhakgaaDoor

