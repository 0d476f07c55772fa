/- Contracts: bundles' keys. Conditions: none beyond those that each theorem states. -/
import Derived.Test.YtmiagmbgfhakgaaDoorBu1
import Derived.Test.YtmiagmbgfhakgaaDoorCuP
import Derived.Test.YtmiagmbgfhakgaaDoorKd3
import Derived.Test.YtmiagmbgfhakgaaDoorCu4
import Derived.Test.YtmiagmbgfhakgaaDoorFwU
namespace Go.Proofs.YtmiagmbgfhakgaaDoor
set_option linter.unusedVariables false
set_option linter.unusedSimpArgs false
theorem manyK_ok {n : Int} (h0 : 0 ≤ n) (h1 : n ≤ 255) : manyK n = n.toNat := by unfold manyK badK; rw [if_neg (by simp; omega)]
theorem keysQ_ok {a b p : List (BitVec 8)} {n : Int} (h0 : 0 ≤ n) (h1 : n ≤ 255) : keysQ a b p n = chunksP n.toNat (expandP (extractP a b) p (32 * n.toNat)) := by unfold keysQ; rw [manyK_ok h0 h1]
theorem chunk_len {m k : Nat} {L : List (BitVec 8)} (h : k < m) (hL : L.length = 32 * m) : ((chunksP m L).getD k []).length = 32 := by
  unfold chunksP
  simp [List.getD_eq_getElem?_getD, h]; omega

def ff32 : List (BitVec 8) := [255#8, 255#8, 255#8, 255#8, 255#8, 255#8, 255#8, 255#8, 255#8, 255#8, 255#8, 255#8, 255#8, 255#8, 255#8, 255#8, 255#8, 255#8, 255#8, 255#8, 255#8, 255#8, 255#8, 255#8, 255#8, 255#8, 255#8, 255#8, 255#8, 255#8, 255#8, 255#8]
@[simp] theorem ff32_length : ff32.length = 32 := rfl
def secB (a b c : List (BitVec 8)) : List (BitVec 8) := ff32 ++ (a ++ (b ++ c))
theorem secB_length {a b c : List (BitVec 8)} (ha : a.length = 32) (hb : b.length = 32) (hc : c.length = 32) : (secB a b c).length = 128 := by simp [secB, ha, hb, hc]
def comB (a b c : List (BitVec 8)) : List (BitVec 8) := (keysQ [] (secB a b c) (bytesL ⟨#[115, 116, 97, 114, 116]⟩) 1).getD 0 []
theorem comB_keys (s : List (BitVec 8)) : (keysQ [] s (bytesL ⟨#[115, 116, 97, 114, 116]⟩) 1) = chunksP 1 (expandP (extractP [] s) (bytesL ⟨#[115, 116, 97, 114, 116]⟩) 32) := keysQ_ok (by decide) (by decide)
theorem keysB_len (s : List (BitVec 8)) : (keysQ [] s (bytesL ⟨#[115, 116, 97, 114, 116]⟩) 1).length = 1 := by rw [comB_keys]; exact chunksP_length _ _
theorem keysB_0 (s : List (BitVec 8)) : ((keysQ [] s (bytesL ⟨#[115, 116, 97, 114, 116]⟩) 1).getD 0 []).length = 32 := by rw [comB_keys]; exact chunk_len (by decide) (by rw [expandP_length])
@[simp] theorem comB_length (a b c : List (BitVec 8)) : (comB a b c).length = 32 := keysB_0 _

theorem c_mul6432 (x y : BitVec 64) (w0 : World)  (hx : x = 1#64) (hy : y = 32#64) : CallsR Tryd.prog 84 #[(u64 x), (u64 y)] w0 (fun r w1 => r = (Value.tuple #[(u64 0#64), (u64 32#64)]) ∧ Ext w0 w1) := by
 refine callsR_of_cw (args := [(u64 x), (u64 y)]) Tryd.func84 rfl Tryd.ntmps84 Tryd.results84 rfl ?_
 have hm0 : Mem w0 (restOf w0) [] := Mem.of_world w0
 refine sR <| rw_q rfl (ev_assign (v := (u64 0#64)) rfl) <| rw_q rfl (ev_assign (v := (u64 0#64)) rfl) ?_
 refine rN (sR ?_)
 refine rw_q rfl (ev_move (v := (u64 x)) rfl) <| rw_q rfl (ev_u64_and (b := 4294967295#64) rfl rfl) <| rw_q rfl (ev_assign (v := (u64 (x &&& 4294967295#64))) rfl) ?_
 refine rN (sR ?_)
 refine rw_q rfl (ev_move (v := (u64 x)) rfl) <| rw_q rfl (ev_u64_shr (b := 32) rfl rfl oM) <| rw_q rfl (ev_assign (v := (u64 (x >>> 32))) rfl) ?_
 refine rN (sR ?_)
 refine rw_q rfl (ev_move (v := (u64 y)) rfl) <| rw_q rfl (ev_u64_and (b := 4294967295#64) rfl rfl) <| rw_q rfl (ev_assign (v := (u64 (y &&& 4294967295#64))) rfl) <| rN ?_
 refine CW.abs (fun g => g 0 = (u64 x) ∧ g 1 = (u64 y) ∧ g 4 = (u64 0#64) ∧ g 5 = (u64 0#64) ∧ g 6 = (u64 (x &&& 4294967295#64)) ∧ g 7 = (u64 (x >>> 32)) ∧ g 8 = (u64 (y &&& 4294967295#64)) ∧ True) ⟨rfl, rfl, rfl, rfl, rfl, rfl, rfl, trivial⟩ ?_
 rintro fr1 ⟨s0, s1, s4, s5, s6, s7, s8, _⟩
 refine sR <| rM rfl s1 <| rw_q rfl (ev_u64_shr (b := 32) rfl rfl oM) <| rw_q rfl (ev_assign (v := (u64 (y >>> 32))) rfl) ?_
 refine rN (sR ?_)
 refine rM rfl s6 <| rM rfl s8 <| rw_q rfl (ev_u64_mul rfl rfl) <| rw_q rfl (ev_assign (v := (u64 ((x &&& 4294967295#64) * (y &&& 4294967295#64)))) rfl) ?_
 refine rN (sR ?_)
 refine rM rfl s7 <| rM rfl s8 <| rw_q rfl (ev_u64_mul rfl rfl) <| rw_q rfl (ev_move (v := (u64 ((x &&& 4294967295#64) * (y &&& 4294967295#64)))) rfl) <| rw_q rfl (ev_u64_shr (b := 32) rfl rfl oM) <| rw_q rfl (ev_u64_add rfl rfl) ?_
 refine rA rfl rfl <| rN ?_
 refine CW.abs (fun g => g 0 = (u64 x) ∧ g 1 = (u64 y) ∧ g 4 = (u64 0#64) ∧ g 5 = (u64 0#64) ∧ g 6 = (u64 (x &&& 4294967295#64)) ∧ g 7 = (u64 (x >>> 32)) ∧ g 8 = (u64 (y &&& 4294967295#64)) ∧ g 9 = (u64 (y >>> 32)) ∧ g 10 = (u64 ((x &&& 4294967295#64) * (y &&& 4294967295#64))) ∧ g 11 = (u64 (((x >>> 32) * (y &&& 4294967295#64)) + (((x &&& 4294967295#64) * (y &&& 4294967295#64)) >>> 32))) ∧ True) ⟨s0, s1, s4, s5, s6, s7, s8, rfl, rfl, rfl, trivial⟩ ?_
 rintro fr2 ⟨s0, s1, s4, s5, s6, s7, s8, s9, s10, s11, _⟩
 refine sR <| rM rfl s11 <| rw_q rfl (ev_u64_and (b := 4294967295#64) rfl rfl) <| rA rfl rfl ?_
 refine rN (sR ?_)
 refine rM rfl s11 <| rw_q rfl (ev_u64_shr (b := 32) rfl rfl oM) <| rA rfl rfl ?_
 refine rN (sR ?_)
 refine rM rfl rfl <| rM rfl s6 <| rM rfl s9 <| rw_q rfl (ev_u64_mul rfl rfl) <| rw_q rfl (ev_u64_add rfl rfl) <| rA rfl rfl ?_
 refine rN ?_
 refine CW.abs (fun g => g 0 = (u64 x) ∧ g 1 = (u64 y) ∧ g 4 = (u64 0#64) ∧ g 5 = (u64 0#64) ∧ g 6 = (u64 (x &&& 4294967295#64)) ∧ g 7 = (u64 (x >>> 32)) ∧ g 8 = (u64 (y &&& 4294967295#64)) ∧ g 9 = (u64 (y >>> 32)) ∧ g 10 = (u64 ((x &&& 4294967295#64) * (y &&& 4294967295#64))) ∧ g 11 = (u64 (((x >>> 32) * (y &&& 4294967295#64)) + (((x &&& 4294967295#64) * (y &&& 4294967295#64)) >>> 32))) ∧ g 12 = (u64 (((((x >>> 32) * (y &&& 4294967295#64)) + (((x &&& 4294967295#64) * (y &&& 4294967295#64)) >>> 32)) &&& 4294967295#64) + ((x &&& 4294967295#64) * (y >>> 32)))) ∧ g 13 = (u64 ((((x >>> 32) * (y &&& 4294967295#64)) + (((x &&& 4294967295#64) * (y &&& 4294967295#64)) >>> 32)) >>> 32)) ∧ True) ⟨s0, s1, s4, s5, s6, s7, s8, s9, s10, s11, rfl, rfl, trivial⟩ ?_
 rintro fr3 ⟨s0, s1, s4, s5, s6, s7, s8, s9, s10, s11, s12, s13, _⟩
 refine sR <| rM rfl s7 <| rM rfl s9 <| rw_q rfl (ev_u64_mul rfl rfl) <| rM rfl s13 <| rw_q rfl (ev_u64_add rfl rfl) ?_
 refine rM rfl s12 <| rw_q rfl (ev_u64_shr (b := 32) rfl rfl oM) <| rw_q rfl (ev_u64_add rfl rfl) <| rA rfl rfl ?_
 refine rN (sR ?_)
 refine rM rfl s0 <| rM rfl s1 <| rw_q rfl (ev_u64_mul rfl rfl) <| rw_q rfl (ev_assign (v := (u64 (x * y))) rfl) <| rN ?_
 refine CW.abs (fun g => g 0 = (u64 x) ∧ g 1 = (u64 y) ∧ g 4 = (u64 ((((x >>> 32) * (y >>> 32)) + ((((x >>> 32) * (y &&& 4294967295#64)) + (((x &&& 4294967295#64) * (y &&& 4294967295#64)) >>> 32)) >>> 32)) + ((((((x >>> 32) * (y &&& 4294967295#64)) + (((x &&& 4294967295#64) * (y &&& 4294967295#64)) >>> 32)) &&& 4294967295#64) + ((x &&& 4294967295#64) * (y >>> 32))) >>> 32))) ∧ g 5 = (u64 (x * y)) ∧ g 6 = (u64 (x &&& 4294967295#64)) ∧ g 7 = (u64 (x >>> 32)) ∧ g 8 = (u64 (y &&& 4294967295#64)) ∧ g 9 = (u64 (y >>> 32)) ∧ g 10 = (u64 ((x &&& 4294967295#64) * (y &&& 4294967295#64))) ∧ g 11 = (u64 (((x >>> 32) * (y &&& 4294967295#64)) + (((x &&& 4294967295#64) * (y &&& 4294967295#64)) >>> 32))) ∧ g 12 = (u64 (((((x >>> 32) * (y &&& 4294967295#64)) + (((x &&& 4294967295#64) * (y &&& 4294967295#64)) >>> 32)) &&& 4294967295#64) + ((x &&& 4294967295#64) * (y >>> 32)))) ∧ g 13 = (u64 ((((x >>> 32) * (y &&& 4294967295#64)) + (((x &&& 4294967295#64) * (y &&& 4294967295#64)) >>> 32)) >>> 32)) ∧ True) ⟨s0, s1, rfl, rfl, s6, s7, s8, s9, s10, s11, s12, s13, trivial⟩ ?_
 rintro fr4 ⟨s0, s1, s4, s5, s6, s7, s8, s9, s10, s11, s12, s13, _⟩
 refine cw_ret <| fnPost_ret [(u64 ((((x >>> 32) * (y >>> 32)) + ((((x >>> 32) * (y &&& 4294967295#64)) + (((x &&& 4294967295#64) * (y &&& 4294967295#64)) >>> 32)) >>> 32)) + ((((((x >>> 32) * (y &&& 4294967295#64)) + (((x &&& 4294967295#64) * (y &&& 4294967295#64)) >>> 32)) &&& 4294967295#64) + ((x &&& 4294967295#64) * (y >>> 32))) >>> 32))), (u64 (x * y))] ⟨s4, s5, trivial⟩ ?_
 exact ⟨by subst hx; subst hy; rfl, hm0.toExt⟩

theorem c_mul132 (x y : BitVec 64) (w0 : World)  (hx : x = 1#64) (hy : y = 32#64) : CallsR Tryd.prog 70 #[(u64 x), (u64 y)] w0 (fun r w1 => r = (Value.tuple #[(u64 0#64), (u64 32#64)]) ∧ Ext w0 w1) := by
 refine callsR_of_cw (args := [(u64 x), (u64 y)]) Tryd.func70 rfl Tryd.ntmps70 Tryd.results70 rfl ?_
 have hm0 : Mem w0 (restOf w0) [] := Mem.of_world w0
 refine sR <| rw_q rfl (ev_assign (v := (u64 0#64)) rfl) <| rw_q rfl (ev_assign (v := (u64 0#64)) rfl) ?_
 refine rN (cw_seq ?_)
 refine cw_cond_f rfl (by decide) ?_
 refine cw_skip (kThen_normal (sR ?_))
 refine rw_q rfl (ev_move (v := (u64 x)) rfl) <| rw_q rfl (ev_move (v := (u64 y)) rfl) <| rw_c rfl (opR_call Tryd.func84 bd84 nm84 (args2 rfl rfl) (c_mul6432 x y _ (by first | assumption | rfl) (by first | assumption | rfl))) ?_
 rintro _ w1 ⟨rfl, _ew1⟩
 have hm1 := hm0.ext _ew1
 refine rw_q rfl (ev_move (v := (Value.tuple #[(u64 0#64), (u64 32#64)])) rfl) <| rw_q (v := (u64 0#64)) rfl (ev_extract rfl rfl) <| rw_q (v := (u64 32#64)) rfl (ev_extract rfl rfl) <| rw_q rfl (ev_assign (v := (u64 0#64)) rfl) <| rw_q rfl (ev_assign (v := (u64 32#64)) rfl) ?_
 refine rN (sR ?_)
 refine rw_q rfl (ev_move (v := (u64 0#64)) rfl) <| rw_q rfl (ev_move (v := (u64 32#64)) rfl) <| rw_q rfl (ev_assign (v := (u64 0#64)) rfl) <| rw_q rfl (ev_assign (v := (u64 32#64)) rfl) <| rN ?_
 refine CW.abs (fun g => g 0 = (u64 x) ∧ g 1 = (u64 y) ∧ g 4 = (u64 0#64) ∧ g 5 = (u64 32#64) ∧ g 8 = (u64 0#64) ∧ g 9 = (u64 32#64) ∧ True) ⟨rfl, rfl, rfl, rfl, rfl, rfl, trivial⟩ ?_
 rintro fr3 ⟨s0, s1, s4, s5, s8, s9, _⟩
 refine cw_ret <| fnPost_ret [(u64 0#64), (u64 32#64)] ⟨s4, s5, trivial⟩ ?_
 exact ⟨rfl, hm1.toExt⟩

set_option maxHeartbeats 2000000 in
theorem c_repeat (vb : Value) (l : List (BitVec 8)) (k : Int) (w0 : World)  (hr : Rd (blks w0) u8 vb l) (hl : l = [255#8]) (hk : k = 32) : CallsR Tryd.prog 51 #[vb, (i64 k)] w0 (fun r w1 => ∃ Hs, Grow u8 5 r ff32 Hs ∧ Mem w1 (restOf w0) Hs) := by
 refine callsR_of_cw (args := [vb, (i64 k)]) Tryd.func51 rfl Tryd.ntmps51 Tryd.results51 rfl ?_
 have hm0 : Mem w0 (restOf w0) [] := Mem.of_world w0
 subst hl; subst hk
 refine sR <| rw_q rfl (ev_assign (v := (Value.slice none 0 0)) rfl) ?_
 refine rN (cw_seq (sR ?_))
 refine rw_q rfl (ev_move (v := (i64 32)) rfl) <| rw_q rfl (ev_i64_eql (a := 32) (b := 0) rfl rfl) <| rN <| cw_cond_f rfl (by decide) ?_
 refine cw_skip (kThen_normal (cw_seq (sR ?_)))
 refine rw_q rfl (ev_move (v := (i64 32)) rfl) <| rw_q rfl (ev_i64_lss (a := 32) (b := 0) rfl rfl) <| rN <| cw_cond_f rfl (by decide) ?_
 refine cw_skip (kThen_normal (sR ?_))
 refine rM rfl (v := vb) rfl <| rw_q (v := (i64 1)) rfl (ev_len_rd (l := [255#8]) (Rd.ofRest hr hm0) uT26 rfl) <| rw_q rfl (ev_conv_i64_u64 ⟨_, uT3⟩ uT97 rfl) <| rw_q rfl (ev_move (v := (i64 32)) rfl) <| rw_q rfl (ev_conv_i64_u64 ⟨_, uT3⟩ uT97 rfl) <| rw_c rfl (opR_call Tryd.func70 bd70 nm70 (args2 rfl rfl) (c_mul132 (BitVec.ofInt 64 1) (BitVec.ofInt 64 32) _ (by first | assumption | rfl) (by first | assumption | rfl))) ?_
 rintro _ w1 ⟨rfl, _ew1⟩
 have hm1 := hm0.ext _ew1
 refine rw_q rfl (ev_move (v := (Value.tuple #[(u64 0#64), (u64 32#64)])) rfl) <| rw_q (v := (u64 0#64)) rfl (ev_extract rfl rfl) <| rw_q (v := (u64 32#64)) rfl (ev_extract rfl rfl) <| rw_q rfl (ev_assign (v := (u64 0#64)) rfl) <| rw_q rfl (ev_assign (v := (u64 32#64)) rfl) <| rN ?_
 refine CW.abs (fun g => g 0 = vb ∧ g 1 = (i64 32) ∧ g 4 = (Value.slice none 0 0) ∧ g 5 = (u64 0#64) ∧ g 6 = (u64 32#64) ∧ g 13 = (bl false) ∧ g 16 = (bl false) ∧ True) ⟨rfl, rfl, rfl, rfl, rfl, rfl, rfl, trivial⟩ ?_
 rintro fr3 ⟨s0, s1, s4, s5, s6, s13, s16, _⟩
 refine cw_seq (sR ?_)
 refine rM rfl s5 <| rw_q rfl (ev_u64_gtr (b := 0#64) rfl rfl) <| rw_q rfl (ev_move (v := (bl (decide ((0#64).toNat < (0#64).toNat)))) rfl) ?_
 have hd4 : (decide ((0#64).toNat < (0#64).toNat)) = false := rfl
 refine rw_gyq (s := 29) rfl rfl hd4 rfl (ev_move s6) <| rw_gyq (s := 29) rfl rfl hd4 rfl (ev_u64_gtr (b := 9223372036854775807#64) rfl rfl) <| rw_q rfl (ev_pick_fk rfl hd4 rfl) <| rN ?_
 have hd5 : (decide ((9223372036854775807#64).toNat < (32#64).toNat)) = false := rfl
 refine cw_cond_f rfl hd5 ?_
 refine cw_skip (kThen_normal (sR ?_))
 refine rM rfl s6 <| rw_q rfl (EvQ.cast (v' := i64 32) rfl (ev_conv_u64_i64 (a := 32#64) ⟨_, uT97⟩ uT3 rfl (by decide))) <| rw_q rfl (ev_assign (v := (i64 32)) rfl) ?_
 refine rN (cw_seq (sR ?_))
 refine rM rfl s0 <| rw_q (v := (i64 1)) rfl (ev_len_rd (l := [255#8]) (Rd.ofRest hr hm1) uT26 rfl) <| rw_q rfl (ev_i64_eql (a := 1) (b := 0) rfl rfl) <| rN ?_
 refine CW.abs (fun g => g 0 = vb ∧ g 1 = (i64 32) ∧ g 4 = (Value.slice none 0 0) ∧ g 5 = (u64 0#64) ∧ g 6 = (u64 32#64) ∧ g 7 = (i64 32) ∧ g 13 = (bl false) ∧ g 16 = (bl false) ∧ g 32 = (bl (decide ((9223372036854775807#64).toNat < (32#64).toNat))) ∧ g 38 = (bl false) ∧ True) ⟨s0, s1, s4, s5, s6, rfl, s13, s16, rfl, rfl, trivial⟩ ?_
 rintro fr6 ⟨s0, s1, s4, s5, s6, s7, s13, s16, s32, s38, _⟩
 refine cw_cond_f s38 (by decide) ?_
 refine cw_skip (kThen_normal (sR ?_))
 refine rM rfl s7 <| rw_q rfl (ev_assign (v := (i64 32)) rfl) ?_
 refine rN (cw_seq (sR ?_))
 refine rw_q rfl (ev_move (v := (i64 32)) rfl) <| rw_q rfl (ev_i64_gtr (a := 32) (b := 8192) rfl rfl) <| rN <| cw_cond_f rfl (by decide) ?_
 refine cw_skip (kThen_normal (sR ?_))
 refine rM rfl s7 <| rw_c rfl (or_noZero (ps := #[3]) (n := 32) hm1 Tryd.func69 (by kernel_rfl) (by kernel_rfl) (by kernel_rfl) (by kernel_rfl) uT26 rfl oM oM) ?_
 rintro sv7 w7 ⟨mz7, Hs7, hlmz7, g7, hm7⟩
 refine rM rfl s7 <| rM rfl s7 <| rw_q rfl (ev_slice3_rd (j := 32) (g7.rd hm7) uT26 ti5 rfl rfl rfl oM sD) <| rw_q rfl (ev_assign (v := (sub3v sv7 0 32 32)) rfl) ?_
 refine rN (sR ?_)
 refine rw_q rfl (ev_move (v := (sub3v sv7 0 32 32)) rfl) <| rM rfl s0 <| rw_c rfl (or_copy_grow (f := u8) (d := ([] : List (BitVec 8))) (base := mz7.take (32 : Int).toNat) (ms := [255#8]) (i := 0) (j := ((mz7.take (32 : Int).toNat).length : Int)) (q := 1) (Hs := Hs7) (H := []) hm7 (Grow.cast (l' := ([] : List (BitVec 8)) ++ (mz7.take (32 : Int).toNat).drop ([] : List (BitVec 8)).length) (Grow.cut (j := 32) g7 oM sD) (by simp)) (Eq.trans rfl (subv0 (Grow.cut (j := 32) g7 oM sD) (by first | rfl | omega | (simp; done) | (simp; omega) | (simp only [List.length_append, List.length_take, List.length_drop, List.length_nil] at *; omega)))) (by first | rfl | omega | (simp; done) | (simp; omega) | (simp only [List.length_append, List.length_take, List.length_drop, List.length_nil] at *; omega)) (by first | rfl | omega | (simp; done) | (simp; omega) | (simp only [List.length_append, List.length_take, List.length_drop, List.length_nil] at *; omega)) rfl (Rd.ofRest hr hm7) uT26 ti5 u8_one (by first | rfl | omega | (simp; done) | (simp; omega) | (simp only [List.length_append, List.length_take, List.length_drop, List.length_nil] at *; omega)) (by first | rfl | omega | (simp; done) | (simp; omega) | (simp only [List.length_append, List.length_take, List.length_drop, List.length_nil] at *; omega)) rfl) ?_
 rintro _ w8 ⟨rfl, Hs8, g8, hm8⟩
 replace g8 : Grow u8 5 (sub3v sv7 0 32 32) (([255#8]) ++ (mz7.take (32 : Int).toNat).drop ([255#8]).length) Hs8 := Grow.cast g8 (by first | rfl | simp)
 refine rw_q rfl (ev_assign (v := (i64 1)) rfl) <| rN ?_
 refine CW.abs (fun g => g 0 = vb ∧ g 1 = (i64 32) ∧ g 4 = (Value.slice none 0 0) ∧ g 5 = (u64 0#64) ∧ g 6 = (u64 32#64) ∧ g 7 = (i64 32) ∧ g 8 = (i64 32) ∧ g 9 = (sub3v sv7 0 32 32) ∧ g 10 = (i64 1) ∧ g 13 = (bl false) ∧ g 16 = (bl false) ∧ g 32 = (bl (decide ((9223372036854775807#64).toNat < (32#64).toNat))) ∧ g 38 = (bl false) ∧ g 42 = (bl false) ∧ True) ⟨s0, s1, s4, s5, s6, s7, rfl, rfl, rfl, s13, s16, s32, s38, rfl, trivial⟩ ?_
 rintro fr9 ⟨s0, s1, s4, s5, s6, s7, s8, s9, s10, s13, s16, s32, s38, s42, _⟩
 refine cw_seq (cw_block ?_)
 refine cw_rounds 6 ?_
 refine cr_succ (cw_seq (sR ?_))
 refine rM rfl s10 <| rM rfl s7 <| rw_q rfl (ev_i64_lss (a := 1) (b := 32) rfl rfl) <| rN <| cw_cond_t rfl (by decide) ?_
 refine cw_skip (kThen_normal (cw_block' (sR ?_)))
 refine rM rfl s10 <| rM rfl s8 <| rw_q (v := (i64 1)) rfl (EvQ.cast (show i64 (if (32 : Int) < 1 then (32 : Int) else 1) = i64 1 from congrArg i64 (by decide)) (ev_min_i64 (i := 1) (j := 32) rfl rfl)) <| rw_q rfl (ev_assign (v := (i64 1)) rfl) <| rN <| cw_drawE (by kernel_rfl) ?_
 have hFM10 : Mem w8 (restOf w0) ((Hs8 ++ ([])) ++ []) := (by
   have hT := hm8
   try simp only [List.append_assoc, List.cons_append, List.nil_append, List.append_nil] at hT ⊢
   exact hT)
 obtain ⟨RM10, hRM10⟩ : ∃ R2, R2 = Rest.add (restOf w0) [] := ⟨_, rfl⟩
 have M100 : Mem w8 RM10 (Hs8 ++ ([])) := by rw [hRM10]; exact Mem.give hFM10
 have hr11 : Rd RM10.blk u8 vb ([255#8]) := by rw [hRM10]; exact Rd.mono hr fun b o e => Mem.addRest hFM10 e
 refine re_planM M100 [(0, false), (1, false), (2, false), (3, false), (4, false), (5, false), (6, false), (7, true)] 8 rfl (by kernel_rfl) <| dk_q rfl rfl (fun w _H _hx => ev_move s10) <| dk_q rfl rfl (fun w _H _hx => ev_move s9) <| dk_q rfl rfl (fun w _H _hx => ev_move s10) <| dk_q rfl rfl (fun w _H _hx => ev_slice_rd (i := 1) (j := ((([255#8]) ++ (mz7.take (32 : Int).toNat).drop ([255#8]).length).length : Int)) (Grow.rdS g8) uT26 ti5 rfl (optI_some (k := .i64) (i := 1) rfl) (optI_none _ _) oM sD sD) <| dk_q rfl rfl (fun w _H _hx => ev_move s9) ?_
 refine dk_q rfl rfl (fun w _H _hx => ev_move (v := (i64 1)) rfl) <| dk_q rfl rfl (fun w _H _hx => ev_slice_rd (i := 0) (j := 1) (Grow.rdS g8) uT26 ti5 rfl (optI_none _ _) (optI_some (k := .i64) (i := 1) rfl) oM sD sD) ?_
 refine dk_c rfl rfl (fun w12 _ew12 => ?_)
 have hm12 := M100.ext _ew12
 refine OpR.mono (or_copy_grow (f := u8) (d := ([255#8])) (base := mz7.take (32 : Int).toNat) (ms := [255#8]) (i := 1) (j := ((([255#8]) ++ (mz7.take (32 : Int).toNat).drop ([255#8]).length).length : Int)) (q := 1) (Hs := Hs8) (H := []) hm12 g8 rfl (by first | rfl | omega | (simp; done) | (simp; omega) | (simp only [List.length_append, List.length_take, List.length_drop, List.length_nil] at *; omega)) (by first | rfl | omega | (simp; done) | (simp; omega) | (simp only [List.length_append, List.length_take, List.length_drop, List.length_nil] at *; omega)) rfl (Rd.cast (l' := [255#8]) ((Grow.cast (l' := ((([255#8]) ++ (mz7.take (32 : Int).toNat).drop ([255#8]).length).drop 0).take 1) (Grow.sub (i := 0) (j := 1) g8 oM sD sD) rfl).rd hm12) (by first | rfl | simp)) uT26 ti5 u8_one (by first | rfl | omega | (simp; done) | (simp; omega) | (simp only [List.length_append, List.length_take, List.length_drop, List.length_nil] at *; omega)) (by first | rfl | omega | (simp; done) | (simp; omega) | (simp only [List.length_append, List.length_take, List.length_drop, List.length_nil] at *; omega)) rfl) ?_
 rintro _ w13 ⟨rfl, Hs13, g13, hm13⟩
 replace g13 : Grow u8 5 (sub3v sv7 0 32 32) (([255#8, 255#8]) ++ (mz7.take (32 : Int).toNat).drop ([255#8, 255#8]).length) Hs13 := Grow.cast g13 (by first | rfl | simp)
 refine ⟨⟨_, hm13⟩, ?_⟩
 refine dw_nil (fun w14 _ew14 => ?_)
 have hm14 := hm13.ext _ew14
 have hX15 := hm14
 rw [hRM10] at hX15
 have hm16 : Mem w14 (restOf w0) (Hs13 ++ ([])) := (by
   have hT := Mem.back hFM10 hX15
   try simp only [List.append_assoc, List.cons_append, List.nil_append, List.append_nil] at hT ⊢
   exact hT)
 refine rw_q (v := (i64 2)) rfl (ev_i64_add (a := 1) (b := 1) rfl rfl oM oM) <| rw_q rfl (ev_assign (v := (i64 2)) rfl) ?_
 refine rw_nil (kBlk_normal (kThen_normal ?_))
 refine CR.abs (fun g => g 0 = vb ∧ g 1 = (i64 32) ∧ g 4 = (Value.slice none 0 0) ∧ g 5 = (u64 0#64) ∧ g 6 = (u64 32#64) ∧ g 7 = (i64 32) ∧ g 8 = (i64 32) ∧ g 9 = (sub3v sv7 0 32 32) ∧ g 10 = (i64 2) ∧ g 11 = (i64 1) ∧ g 13 = (bl false) ∧ g 16 = (bl false) ∧ g 32 = (bl (decide ((9223372036854775807#64).toNat < (32#64).toNat))) ∧ g 38 = (bl false) ∧ g 42 = (bl false) ∧ g 63 = (bl true) ∧ True) ⟨s0, s1, s4, s5, s6, s7, s8, s9, rfl, rfl, s13, s16, s32, s38, s42, rfl, trivial⟩ ?_
 rintro fr17 ⟨s0, s1, s4, s5, s6, s7, s8, s9, s10, s11, s13, s16, s32, s38, s42, s63, _⟩
 refine cr_succ (cw_seq (sR ?_))
 refine rM rfl s10 <| rM rfl s7 <| rw_q rfl (ev_i64_lss (a := 2) (b := 32) rfl rfl) <| rN <| cw_cond_t rfl (by decide) ?_
 refine cw_skip (kThen_normal (cw_block' (sR ?_)))
 refine rM rfl s10 <| rM rfl s8 <| rw_q (v := (i64 2)) rfl (EvQ.cast (show i64 (if (32 : Int) < 2 then (32 : Int) else 2) = i64 2 from congrArg i64 (by decide)) (ev_min_i64 (i := 2) (j := 32) rfl rfl)) <| rw_q rfl (ev_assign (v := (i64 2)) rfl) <| rN <| cw_drawE (by kernel_rfl) ?_
 have hFM18 : Mem w14 (restOf w0) ((Hs13 ++ ([])) ++ []) := (by
   have hT := hm16
   try simp only [List.append_assoc, List.cons_append, List.nil_append, List.append_nil] at hT ⊢
   exact hT)
 obtain ⟨RM18, hRM18⟩ : ∃ R2, R2 = Rest.add (restOf w0) [] := ⟨_, rfl⟩
 have M180 : Mem w14 RM18 (Hs13 ++ ([])) := by rw [hRM18]; exact Mem.give hFM18
 have hr19 : Rd RM18.blk u8 vb ([255#8]) := by rw [hRM18]; exact Rd.mono hr fun b o e => Mem.addRest hFM18 e
 refine re_planM M180 [(0, false), (1, false), (2, false), (3, false), (4, false), (5, false), (6, false), (7, true)] 8 rfl (by kernel_rfl) <| dk_q rfl rfl (fun w _H _hx => ev_move s10) <| dk_q rfl rfl (fun w _H _hx => ev_move s9) <| dk_q rfl rfl (fun w _H _hx => ev_move s10) <| dk_q rfl rfl (fun w _H _hx => ev_slice_rd (i := 2) (j := ((([255#8, 255#8]) ++ (mz7.take (32 : Int).toNat).drop ([255#8, 255#8]).length).length : Int)) (Grow.rdS g13) uT26 ti5 rfl (optI_some (k := .i64) (i := 2) rfl) (optI_none _ _) oM sD sD) <| dk_q rfl rfl (fun w _H _hx => ev_move s9) ?_
 refine dk_q rfl rfl (fun w _H _hx => ev_move (v := (i64 2)) rfl) <| dk_q rfl rfl (fun w _H _hx => ev_slice_rd (i := 0) (j := 2) (Grow.rdS g13) uT26 ti5 rfl (optI_none _ _) (optI_some (k := .i64) (i := 2) rfl) oM sD sD) ?_
 refine dk_c rfl rfl (fun w20 _ew20 => ?_)
 have hm20 := M180.ext _ew20
 refine OpR.mono (or_copy_grow (f := u8) (d := ([255#8, 255#8])) (base := mz7.take (32 : Int).toNat) (ms := [255#8, 255#8]) (i := 2) (j := ((([255#8, 255#8]) ++ (mz7.take (32 : Int).toNat).drop ([255#8, 255#8]).length).length : Int)) (q := 2) (Hs := Hs13) (H := []) hm20 g13 rfl (by first | rfl | omega | (simp; done) | (simp; omega) | (simp only [List.length_append, List.length_take, List.length_drop, List.length_nil] at *; omega)) (by first | rfl | omega | (simp; done) | (simp; omega) | (simp only [List.length_append, List.length_take, List.length_drop, List.length_nil] at *; omega)) rfl (Rd.cast (l' := [255#8, 255#8]) ((Grow.cast (l' := ((([255#8, 255#8]) ++ (mz7.take (32 : Int).toNat).drop ([255#8, 255#8]).length).drop 0).take 2) (Grow.sub (i := 0) (j := 2) g13 oM sD sD) rfl).rd hm20) (by first | rfl | simp)) uT26 ti5 u8_one (by first | rfl | omega | (simp; done) | (simp; omega) | (simp only [List.length_append, List.length_take, List.length_drop, List.length_nil] at *; omega)) (by first | rfl | omega | (simp; done) | (simp; omega) | (simp only [List.length_append, List.length_take, List.length_drop, List.length_nil] at *; omega)) rfl) ?_
 rintro _ w21 ⟨rfl, Hs21, g21, hm21⟩
 replace g21 : Grow u8 5 (sub3v sv7 0 32 32) (([255#8, 255#8, 255#8, 255#8]) ++ (mz7.take (32 : Int).toNat).drop ([255#8, 255#8, 255#8, 255#8]).length) Hs21 := Grow.cast g21 (by first | rfl | simp)
 refine ⟨⟨_, hm21⟩, ?_⟩
 refine dw_nil (fun w22 _ew22 => ?_)
 have hm22 := hm21.ext _ew22
 have hX23 := hm22
 rw [hRM18] at hX23
 have hm24 : Mem w22 (restOf w0) (Hs21 ++ ([])) := (by
   have hT := Mem.back hFM18 hX23
   try simp only [List.append_assoc, List.cons_append, List.nil_append, List.append_nil] at hT ⊢
   exact hT)
 refine rw_q (v := (i64 4)) rfl (ev_i64_add (a := 2) (b := 2) rfl rfl oM oM) <| rw_q rfl (ev_assign (v := (i64 4)) rfl) ?_
 refine rw_nil (kBlk_normal (kThen_normal ?_))
 refine CR.abs (fun g => g 0 = vb ∧ g 1 = (i64 32) ∧ g 4 = (Value.slice none 0 0) ∧ g 5 = (u64 0#64) ∧ g 6 = (u64 32#64) ∧ g 7 = (i64 32) ∧ g 8 = (i64 32) ∧ g 9 = (sub3v sv7 0 32 32) ∧ g 10 = (i64 4) ∧ g 11 = (i64 2) ∧ g 13 = (bl false) ∧ g 16 = (bl false) ∧ g 32 = (bl (decide ((9223372036854775807#64).toNat < (32#64).toNat))) ∧ g 38 = (bl false) ∧ g 42 = (bl false) ∧ g 63 = (bl true) ∧ True) ⟨s0, s1, s4, s5, s6, s7, s8, s9, rfl, rfl, s13, s16, s32, s38, s42, rfl, trivial⟩ ?_
 rintro fr25 ⟨s0, s1, s4, s5, s6, s7, s8, s9, s10, s11, s13, s16, s32, s38, s42, s63, _⟩
 refine cr_succ (cw_seq (sR ?_))
 refine rM rfl s10 <| rM rfl s7 <| rw_q rfl (ev_i64_lss (a := 4) (b := 32) rfl rfl) <| rN <| cw_cond_t rfl (by decide) ?_
 refine cw_skip (kThen_normal (cw_block' (sR ?_)))
 refine rM rfl s10 <| rM rfl s8 <| rw_q (v := (i64 4)) rfl (EvQ.cast (show i64 (if (32 : Int) < 4 then (32 : Int) else 4) = i64 4 from congrArg i64 (by decide)) (ev_min_i64 (i := 4) (j := 32) rfl rfl)) <| rw_q rfl (ev_assign (v := (i64 4)) rfl) <| rN <| cw_drawE (by kernel_rfl) ?_
 have hFM26 : Mem w22 (restOf w0) ((Hs21 ++ ([])) ++ []) := (by
   have hT := hm24
   try simp only [List.append_assoc, List.cons_append, List.nil_append, List.append_nil] at hT ⊢
   exact hT)
 obtain ⟨RM26, hRM26⟩ : ∃ R2, R2 = Rest.add (restOf w0) [] := ⟨_, rfl⟩
 have M260 : Mem w22 RM26 (Hs21 ++ ([])) := by rw [hRM26]; exact Mem.give hFM26
 have hr27 : Rd RM26.blk u8 vb ([255#8]) := by rw [hRM26]; exact Rd.mono hr fun b o e => Mem.addRest hFM26 e
 refine re_planM M260 [(0, false), (1, false), (2, false), (3, false), (4, false), (5, false), (6, false), (7, true)] 8 rfl (by kernel_rfl) <| dk_q rfl rfl (fun w _H _hx => ev_move s10) <| dk_q rfl rfl (fun w _H _hx => ev_move s9) <| dk_q rfl rfl (fun w _H _hx => ev_move s10) <| dk_q rfl rfl (fun w _H _hx => ev_slice_rd (i := 4) (j := ((([255#8, 255#8, 255#8, 255#8]) ++ (mz7.take (32 : Int).toNat).drop ([255#8, 255#8, 255#8, 255#8]).length).length : Int)) (Grow.rdS g21) uT26 ti5 rfl (optI_some (k := .i64) (i := 4) rfl) (optI_none _ _) oM sD sD) <| dk_q rfl rfl (fun w _H _hx => ev_move s9) ?_
 refine dk_q rfl rfl (fun w _H _hx => ev_move (v := (i64 4)) rfl) <| dk_q rfl rfl (fun w _H _hx => ev_slice_rd (i := 0) (j := 4) (Grow.rdS g21) uT26 ti5 rfl (optI_none _ _) (optI_some (k := .i64) (i := 4) rfl) oM sD sD) ?_
 refine dk_c rfl rfl (fun w28 _ew28 => ?_)
 have hm28 := M260.ext _ew28
 refine OpR.mono (or_copy_grow (f := u8) (d := ([255#8, 255#8, 255#8, 255#8])) (base := mz7.take (32 : Int).toNat) (ms := [255#8, 255#8, 255#8, 255#8]) (i := 4) (j := ((([255#8, 255#8, 255#8, 255#8]) ++ (mz7.take (32 : Int).toNat).drop ([255#8, 255#8, 255#8, 255#8]).length).length : Int)) (q := 4) (Hs := Hs21) (H := []) hm28 g21 rfl (by first | rfl | omega | (simp; done) | (simp; omega) | (simp only [List.length_append, List.length_take, List.length_drop, List.length_nil] at *; omega)) (by first | rfl | omega | (simp; done) | (simp; omega) | (simp only [List.length_append, List.length_take, List.length_drop, List.length_nil] at *; omega)) rfl (Rd.cast (l' := [255#8, 255#8, 255#8, 255#8]) ((Grow.cast (l' := ((([255#8, 255#8, 255#8, 255#8]) ++ (mz7.take (32 : Int).toNat).drop ([255#8, 255#8, 255#8, 255#8]).length).drop 0).take 4) (Grow.sub (i := 0) (j := 4) g21 oM sD sD) rfl).rd hm28) (by first | rfl | simp)) uT26 ti5 u8_one (by first | rfl | omega | (simp; done) | (simp; omega) | (simp only [List.length_append, List.length_take, List.length_drop, List.length_nil] at *; omega)) (by first | rfl | omega | (simp; done) | (simp; omega) | (simp only [List.length_append, List.length_take, List.length_drop, List.length_nil] at *; omega)) rfl) ?_
 rintro _ w29 ⟨rfl, Hs29, g29, hm29⟩
 replace g29 : Grow u8 5 (sub3v sv7 0 32 32) (([255#8, 255#8, 255#8, 255#8, 255#8, 255#8, 255#8, 255#8]) ++ (mz7.take (32 : Int).toNat).drop ([255#8, 255#8, 255#8, 255#8, 255#8, 255#8, 255#8, 255#8]).length) Hs29 := Grow.cast g29 (by first | rfl | simp)
 refine ⟨⟨_, hm29⟩, ?_⟩
 refine dw_nil (fun w30 _ew30 => ?_)
 have hm30 := hm29.ext _ew30
 have hX31 := hm30
 rw [hRM26] at hX31
 have hm32 : Mem w30 (restOf w0) (Hs29 ++ ([])) := (by
   have hT := Mem.back hFM26 hX31
   try simp only [List.append_assoc, List.cons_append, List.nil_append, List.append_nil] at hT ⊢
   exact hT)
 refine rw_q (v := (i64 8)) rfl (ev_i64_add (a := 4) (b := 4) rfl rfl oM oM) <| rw_q rfl (ev_assign (v := (i64 8)) rfl) ?_
 refine rw_nil (kBlk_normal (kThen_normal ?_))
 refine CR.abs (fun g => g 0 = vb ∧ g 1 = (i64 32) ∧ g 4 = (Value.slice none 0 0) ∧ g 5 = (u64 0#64) ∧ g 6 = (u64 32#64) ∧ g 7 = (i64 32) ∧ g 8 = (i64 32) ∧ g 9 = (sub3v sv7 0 32 32) ∧ g 10 = (i64 8) ∧ g 11 = (i64 4) ∧ g 13 = (bl false) ∧ g 16 = (bl false) ∧ g 32 = (bl (decide ((9223372036854775807#64).toNat < (32#64).toNat))) ∧ g 38 = (bl false) ∧ g 42 = (bl false) ∧ g 63 = (bl true) ∧ True) ⟨s0, s1, s4, s5, s6, s7, s8, s9, rfl, rfl, s13, s16, s32, s38, s42, rfl, trivial⟩ ?_
 rintro fr33 ⟨s0, s1, s4, s5, s6, s7, s8, s9, s10, s11, s13, s16, s32, s38, s42, s63, _⟩
 refine cr_succ (cw_seq (sR ?_))
 refine rM rfl s10 <| rM rfl s7 <| rw_q rfl (ev_i64_lss (a := 8) (b := 32) rfl rfl) <| rN <| cw_cond_t rfl (by decide) ?_
 refine cw_skip (kThen_normal (cw_block' (sR ?_)))
 refine rM rfl s10 <| rM rfl s8 <| rw_q (v := (i64 8)) rfl (EvQ.cast (show i64 (if (32 : Int) < 8 then (32 : Int) else 8) = i64 8 from congrArg i64 (by decide)) (ev_min_i64 (i := 8) (j := 32) rfl rfl)) <| rw_q rfl (ev_assign (v := (i64 8)) rfl) <| rN <| cw_drawE (by kernel_rfl) ?_
 have hFM34 : Mem w30 (restOf w0) ((Hs29 ++ ([])) ++ []) := (by
   have hT := hm32
   try simp only [List.append_assoc, List.cons_append, List.nil_append, List.append_nil] at hT ⊢
   exact hT)
 obtain ⟨RM34, hRM34⟩ : ∃ R2, R2 = Rest.add (restOf w0) [] := ⟨_, rfl⟩
 have M340 : Mem w30 RM34 (Hs29 ++ ([])) := by rw [hRM34]; exact Mem.give hFM34
 have hr35 : Rd RM34.blk u8 vb ([255#8]) := by rw [hRM34]; exact Rd.mono hr fun b o e => Mem.addRest hFM34 e
 refine re_planM M340 [(0, false), (1, false), (2, false), (3, false), (4, false), (5, false), (6, false), (7, true)] 8 rfl (by kernel_rfl) <| dk_q rfl rfl (fun w _H _hx => ev_move s10) <| dk_q rfl rfl (fun w _H _hx => ev_move s9) <| dk_q rfl rfl (fun w _H _hx => ev_move s10) <| dk_q rfl rfl (fun w _H _hx => ev_slice_rd (i := 8) (j := ((([255#8, 255#8, 255#8, 255#8, 255#8, 255#8, 255#8, 255#8]) ++ (mz7.take (32 : Int).toNat).drop ([255#8, 255#8, 255#8, 255#8, 255#8, 255#8, 255#8, 255#8]).length).length : Int)) (Grow.rdS g29) uT26 ti5 rfl (optI_some (k := .i64) (i := 8) rfl) (optI_none _ _) oM sD sD) <| dk_q rfl rfl (fun w _H _hx => ev_move s9) ?_
 refine dk_q rfl rfl (fun w _H _hx => ev_move (v := (i64 8)) rfl) <| dk_q rfl rfl (fun w _H _hx => ev_slice_rd (i := 0) (j := 8) (Grow.rdS g29) uT26 ti5 rfl (optI_none _ _) (optI_some (k := .i64) (i := 8) rfl) oM sD sD) ?_
 refine dk_c rfl rfl (fun w36 _ew36 => ?_)
 have hm36 := M340.ext _ew36
 refine OpR.mono (or_copy_grow (f := u8) (d := ([255#8, 255#8, 255#8, 255#8, 255#8, 255#8, 255#8, 255#8])) (base := mz7.take (32 : Int).toNat) (ms := [255#8, 255#8, 255#8, 255#8, 255#8, 255#8, 255#8, 255#8]) (i := 8) (j := ((([255#8, 255#8, 255#8, 255#8, 255#8, 255#8, 255#8, 255#8]) ++ (mz7.take (32 : Int).toNat).drop ([255#8, 255#8, 255#8, 255#8, 255#8, 255#8, 255#8, 255#8]).length).length : Int)) (q := 8) (Hs := Hs29) (H := []) hm36 g29 rfl (by first | rfl | omega | (simp; done) | (simp; omega) | (simp only [List.length_append, List.length_take, List.length_drop, List.length_nil] at *; omega)) (by first | rfl | omega | (simp; done) | (simp; omega) | (simp only [List.length_append, List.length_take, List.length_drop, List.length_nil] at *; omega)) rfl (Rd.cast (l' := [255#8, 255#8, 255#8, 255#8, 255#8, 255#8, 255#8, 255#8]) ((Grow.cast (l' := ((([255#8, 255#8, 255#8, 255#8, 255#8, 255#8, 255#8, 255#8]) ++ (mz7.take (32 : Int).toNat).drop ([255#8, 255#8, 255#8, 255#8, 255#8, 255#8, 255#8, 255#8]).length).drop 0).take 8) (Grow.sub (i := 0) (j := 8) g29 oM sD sD) rfl).rd hm36) (by first | rfl | simp)) uT26 ti5 u8_one (by first | rfl | omega | (simp; done) | (simp; omega) | (simp only [List.length_append, List.length_take, List.length_drop, List.length_nil] at *; omega)) (by first | rfl | omega | (simp; done) | (simp; omega) | (simp only [List.length_append, List.length_take, List.length_drop, List.length_nil] at *; omega)) rfl) ?_
 rintro _ w37 ⟨rfl, Hs37, g37, hm37⟩
 replace g37 : Grow u8 5 (sub3v sv7 0 32 32) (([255#8, 255#8, 255#8, 255#8, 255#8, 255#8, 255#8, 255#8, 255#8, 255#8, 255#8, 255#8, 255#8, 255#8, 255#8, 255#8]) ++ (mz7.take (32 : Int).toNat).drop ([255#8, 255#8, 255#8, 255#8, 255#8, 255#8, 255#8, 255#8, 255#8, 255#8, 255#8, 255#8, 255#8, 255#8, 255#8, 255#8]).length) Hs37 := Grow.cast g37 (by first | rfl | simp)
 refine ⟨⟨_, hm37⟩, ?_⟩
 refine dw_nil (fun w38 _ew38 => ?_)
 have hm38 := hm37.ext _ew38
 have hX39 := hm38
 rw [hRM34] at hX39
 have hm40 : Mem w38 (restOf w0) (Hs37 ++ ([])) := (by
   have hT := Mem.back hFM34 hX39
   try simp only [List.append_assoc, List.cons_append, List.nil_append, List.append_nil] at hT ⊢
   exact hT)
 refine rw_q (v := (i64 16)) rfl (ev_i64_add (a := 8) (b := 8) rfl rfl oM oM) <| rw_q rfl (ev_assign (v := (i64 16)) rfl) ?_
 refine rw_nil (kBlk_normal (kThen_normal ?_))
 refine CR.abs (fun g => g 0 = vb ∧ g 1 = (i64 32) ∧ g 4 = (Value.slice none 0 0) ∧ g 5 = (u64 0#64) ∧ g 6 = (u64 32#64) ∧ g 7 = (i64 32) ∧ g 8 = (i64 32) ∧ g 9 = (sub3v sv7 0 32 32) ∧ g 10 = (i64 16) ∧ g 11 = (i64 8) ∧ g 13 = (bl false) ∧ g 16 = (bl false) ∧ g 32 = (bl (decide ((9223372036854775807#64).toNat < (32#64).toNat))) ∧ g 38 = (bl false) ∧ g 42 = (bl false) ∧ g 63 = (bl true) ∧ True) ⟨s0, s1, s4, s5, s6, s7, s8, s9, rfl, rfl, s13, s16, s32, s38, s42, rfl, trivial⟩ ?_
 rintro fr41 ⟨s0, s1, s4, s5, s6, s7, s8, s9, s10, s11, s13, s16, s32, s38, s42, s63, _⟩
 refine cr_succ (cw_seq (sR ?_))
 refine rM rfl s10 <| rM rfl s7 <| rw_q rfl (ev_i64_lss (a := 16) (b := 32) rfl rfl) <| rN <| cw_cond_t rfl (by decide) ?_
 refine cw_skip (kThen_normal (cw_block' (sR ?_)))
 refine rM rfl s10 <| rM rfl s8 <| rw_q (v := (i64 16)) rfl (EvQ.cast (show i64 (if (32 : Int) < 16 then (32 : Int) else 16) = i64 16 from congrArg i64 (by decide)) (ev_min_i64 (i := 16) (j := 32) rfl rfl)) <| rw_q rfl (ev_assign (v := (i64 16)) rfl) <| rN <| cw_drawE (by kernel_rfl) ?_
 have hFM42 : Mem w38 (restOf w0) ((Hs37 ++ ([])) ++ []) := (by
   have hT := hm40
   try simp only [List.append_assoc, List.cons_append, List.nil_append, List.append_nil] at hT ⊢
   exact hT)
 obtain ⟨RM42, hRM42⟩ : ∃ R2, R2 = Rest.add (restOf w0) [] := ⟨_, rfl⟩
 have M420 : Mem w38 RM42 (Hs37 ++ ([])) := by rw [hRM42]; exact Mem.give hFM42
 have hr43 : Rd RM42.blk u8 vb ([255#8]) := by rw [hRM42]; exact Rd.mono hr fun b o e => Mem.addRest hFM42 e
 refine re_planM M420 [(0, false), (1, false), (2, false), (3, false), (4, false), (5, false), (6, false), (7, true)] 8 rfl (by kernel_rfl) <| dk_q rfl rfl (fun w _H _hx => ev_move s10) <| dk_q rfl rfl (fun w _H _hx => ev_move s9) <| dk_q rfl rfl (fun w _H _hx => ev_move s10) <| dk_q rfl rfl (fun w _H _hx => ev_slice_rd (i := 16) (j := ((([255#8, 255#8, 255#8, 255#8, 255#8, 255#8, 255#8, 255#8, 255#8, 255#8, 255#8, 255#8, 255#8, 255#8, 255#8, 255#8]) ++ (mz7.take (32 : Int).toNat).drop ([255#8, 255#8, 255#8, 255#8, 255#8, 255#8, 255#8, 255#8, 255#8, 255#8, 255#8, 255#8, 255#8, 255#8, 255#8, 255#8]).length).length : Int)) (Grow.rdS g37) uT26 ti5 rfl (optI_some (k := .i64) (i := 16) rfl) (optI_none _ _) oM sD sD) <| dk_q rfl rfl (fun w _H _hx => ev_move s9) ?_
 refine dk_q rfl rfl (fun w _H _hx => ev_move (v := (i64 16)) rfl) <| dk_q rfl rfl (fun w _H _hx => ev_slice_rd (i := 0) (j := 16) (Grow.rdS g37) uT26 ti5 rfl (optI_none _ _) (optI_some (k := .i64) (i := 16) rfl) oM sD sD) ?_
 refine dk_c rfl rfl (fun w44 _ew44 => ?_)
 have hm44 := M420.ext _ew44
 refine OpR.mono (or_copy_grow (f := u8) (d := ([255#8, 255#8, 255#8, 255#8, 255#8, 255#8, 255#8, 255#8, 255#8, 255#8, 255#8, 255#8, 255#8, 255#8, 255#8, 255#8])) (base := mz7.take (32 : Int).toNat) (ms := [255#8, 255#8, 255#8, 255#8, 255#8, 255#8, 255#8, 255#8, 255#8, 255#8, 255#8, 255#8, 255#8, 255#8, 255#8, 255#8]) (i := 16) (j := ((([255#8, 255#8, 255#8, 255#8, 255#8, 255#8, 255#8, 255#8, 255#8, 255#8, 255#8, 255#8, 255#8, 255#8, 255#8, 255#8]) ++ (mz7.take (32 : Int).toNat).drop ([255#8, 255#8, 255#8, 255#8, 255#8, 255#8, 255#8, 255#8, 255#8, 255#8, 255#8, 255#8, 255#8, 255#8, 255#8, 255#8]).length).length : Int)) (q := 16) (Hs := Hs37) (H := []) hm44 g37 rfl (by first | rfl | omega | (simp; done) | (simp; omega) | (simp only [List.length_append, List.length_take, List.length_drop, List.length_nil] at *; omega)) (by first | rfl | omega | (simp; done) | (simp; omega) | (simp only [List.length_append, List.length_take, List.length_drop, List.length_nil] at *; omega)) rfl (Rd.cast (l' := [255#8, 255#8, 255#8, 255#8, 255#8, 255#8, 255#8, 255#8, 255#8, 255#8, 255#8, 255#8, 255#8, 255#8, 255#8, 255#8]) ((Grow.cast (l' := ((([255#8, 255#8, 255#8, 255#8, 255#8, 255#8, 255#8, 255#8, 255#8, 255#8, 255#8, 255#8, 255#8, 255#8, 255#8, 255#8]) ++ (mz7.take (32 : Int).toNat).drop ([255#8, 255#8, 255#8, 255#8, 255#8, 255#8, 255#8, 255#8, 255#8, 255#8, 255#8, 255#8, 255#8, 255#8, 255#8, 255#8]).length).drop 0).take 16) (Grow.sub (i := 0) (j := 16) g37 oM sD sD) rfl).rd hm44) (by first | rfl | simp)) uT26 ti5 u8_one (by first | rfl | omega | (simp; done) | (simp; omega) | (simp only [List.length_append, List.length_take, List.length_drop, List.length_nil] at *; omega)) (by first | rfl | omega | (simp; done) | (simp; omega) | (simp only [List.length_append, List.length_take, List.length_drop, List.length_nil] at *; omega)) rfl) ?_
 rintro _ w45 ⟨rfl, Hs45, g45, hm45⟩
 replace g45 : Grow u8 5 (sub3v sv7 0 32 32) (([255#8, 255#8, 255#8, 255#8, 255#8, 255#8, 255#8, 255#8, 255#8, 255#8, 255#8, 255#8, 255#8, 255#8, 255#8, 255#8, 255#8, 255#8, 255#8, 255#8, 255#8, 255#8, 255#8, 255#8, 255#8, 255#8, 255#8, 255#8, 255#8, 255#8, 255#8, 255#8]) ++ (mz7.take (32 : Int).toNat).drop ([255#8, 255#8, 255#8, 255#8, 255#8, 255#8, 255#8, 255#8, 255#8, 255#8, 255#8, 255#8, 255#8, 255#8, 255#8, 255#8, 255#8, 255#8, 255#8, 255#8, 255#8, 255#8, 255#8, 255#8, 255#8, 255#8, 255#8, 255#8, 255#8, 255#8, 255#8, 255#8]).length) Hs45 := Grow.cast g45 (by first | rfl | simp)
 refine ⟨⟨_, hm45⟩, ?_⟩
 refine dw_nil (fun w46 _ew46 => ?_)
 have hm46 := hm45.ext _ew46
 have hX47 := hm46
 rw [hRM42] at hX47
 have hm48 : Mem w46 (restOf w0) (Hs45 ++ ([])) := (by
   have hT := Mem.back hFM42 hX47
   try simp only [List.append_assoc, List.cons_append, List.nil_append, List.append_nil] at hT ⊢
   exact hT)
 refine rw_q (v := (i64 32)) rfl (ev_i64_add (a := 16) (b := 16) rfl rfl oM oM) <| rw_q rfl (ev_assign (v := (i64 32)) rfl) ?_
 refine rw_nil (kBlk_normal (kThen_normal ?_))
 refine CR.abs (fun g => g 0 = vb ∧ g 1 = (i64 32) ∧ g 4 = (Value.slice none 0 0) ∧ g 5 = (u64 0#64) ∧ g 6 = (u64 32#64) ∧ g 7 = (i64 32) ∧ g 8 = (i64 32) ∧ g 9 = (sub3v sv7 0 32 32) ∧ g 10 = (i64 32) ∧ g 11 = (i64 16) ∧ g 13 = (bl false) ∧ g 16 = (bl false) ∧ g 32 = (bl (decide ((9223372036854775807#64).toNat < (32#64).toNat))) ∧ g 38 = (bl false) ∧ g 42 = (bl false) ∧ g 63 = (bl true) ∧ True) ⟨s0, s1, s4, s5, s6, s7, s8, s9, rfl, rfl, s13, s16, s32, s38, s42, rfl, trivial⟩ ?_
 rintro fr49 ⟨s0, s1, s4, s5, s6, s7, s8, s9, s10, s11, s13, s16, s32, s38, s42, s63, _⟩
 refine cr_succ (cw_seq (sR ?_))
 refine rM rfl s10 <| rM rfl s7 <| rw_q rfl (ev_i64_lss (a := 32) (b := 32) rfl rfl) <| rN <| cw_cond_f rfl (by decide) <| cw_exit ?_
 refine kThen_exit (kThen_exit (kBlk_hit ?_))
 refine sR <| rM rfl s9 <| rw_q rfl (ev_assign (v := (sub3v sv7 0 32 32)) rfl) ?_
 refine rN (cw_ret ?_)
 refine fnPost_ret [(sub3v sv7 0 32 32)] ⟨rfl, trivial⟩ ?_
 exact ⟨Hs45, Grow.cast g45 (by rw [List.drop_of_length_le (by simp; omega)]; rfl), by simpa using hm48⟩

set_option maxHeartbeats 2000000 in
theorem c_common (vs : Value) (ks : List (List (BitVec 8))) (a b c : List (BitVec 8)) (w0 : World)  (hT : Tabs (blks w0)) (hks : ks = [a, b, c]) (hrk : RdK (blks w0) (encA u8) 32 vs ks) (ha : a.length = 32) (hb : b.length = 32) (hc : c.length = 32) : CallsR Tryd.prog 34 #[vs] w0 (fun r w1 => r = (agg u8 (comB a b c)) ∧ Ext w0 w1) := by
 refine callsR_of_cw (args := [vs]) Tryd.func34 rfl Tryd.ntmps34 Tryd.results34 rfl ?_
 have hm0 : Mem w0 (restOf w0) [] := Mem.of_world w0
 subst hks
 have hsl := secB_length ha hb hc
 have hkl := keysB_len (secB a b c)
 have hk0 := keysB_0 (secB a b c)
 refine sR <| rw_c rfl (or_alloc_agg hm0 ti23) ?_
 rintro _ w1 ⟨b2, rfl, _ew1, hm1⟩
 refine rN (sR ?_)
 refine rw_c rfl (or_buildSlice_cl u8 [255#8] u8_one hm1 uT26 ti5 rfl rfl rfl) ?_
 rintro _ w2 ⟨b8, rfl, _ew2, hm2⟩
 refine rw_c rfl (opR_call Tryd.func51 bd51 nm51 (args2 rfl rfl) (c_repeat (slc b8 0 1 1) ([255#8]) (32 : Int) _ (Rd.mkA hm2.h0) rfl rfl)) ?_
 rintro rq4 w3 ⟨Hsq4, grq4, k_w3⟩
 have hm3 : Mem w3 (restOf w0) (Hsq4 ++ ([(b8, .cells (cl u8 ([255#8])) 5 (0, 0)), (b2, .cells (cl u8 (List.replicate 32 0)) 23 (0, 0))])) := Mem.new (H := [(b8, .cells (cl u8 ([255#8])) 5 (0, 0)), (b2, .cells (cl u8 (List.replicate 32 0)) 23 (0, 0))]) (H' := Hsq4) hm2 k_w3
 refine rA rfl (v := rq4) rfl ?_
 refine rN (cw_seq (sR ?_))
 refine rM rfl (v := vs) rfl <| rw_q (v := (i64 3)) rfl (ev_len_rk (l := [a, b, c]) (RdK.ofRest hrk hm3) uT57 rfl) <| rw_q rfl (ev_move (v := (i64 0)) rfl) ?_
 refine rN (cw_block ?_)
 refine cw_rounds 4 ?_
 refine cr_succ (sR ?_)
 refine rw_q rfl (ev_i64_lss (a := 0) (b := 3) rfl rfl) ?_
 refine rN (cw_seq ?_)
 refine cw_cond_t rfl (by decide) ?_
 refine cw_skip (kThen_normal (cw_seq (cw_block (sR ?_))))
 refine rw_q rfl (ev_indexAddr_rk (i := 0) (RdK.ofRest hrk hm3) uT57 ti23 rfl rfl oM sD) <| rw_q (v := (agg u8 a)) rfl (ev_load_rka (i := (0 : Int)) (RdK.ofRest hrk hm3) sD uT23 ti23 rfl rfl) <| rw_c rfl (or_alloc_agg hm3 ti23) ?_
 rintro _ w5 ⟨b5, rfl, _ew5, hm5⟩
 refine rw_n (or_store_agg (f := u8) (l := a) u8_one ti23 rfl rfl sD hm5.h0 sZ rfl) ?_
 rintro _ w6 uq6
 have hm6 := hm5.upd0 uq6
 refine rN ?_
 have hm7 := Mem.drop ([(b8, .cells (cl u8 ([255#8])) 5 (0, 0))]) _ (Mem.pick2 [_] Hsq4 [_] _ hm6)
 refine CW.abs (fun g => g 0 = vs ∧ g 2 = (ptr b2 0) ∧ g 3 = rq4 ∧ g 5 = (ptr b5 0) ∧ g 10 = vs ∧ g 11 = (i64 3) ∧ g 12 = (i64 0) ∧ g 13 = (bl true) ∧ True) ⟨rfl, rfl, rfl, rfl, rfl, rfl, rfl, rfl, trivial⟩ ?_
 rintro fr8 ⟨s0, s2, s3, s5, s10, s11, s12, s13, _⟩
 refine cw_region <| rM rfl s3 <| rw_q rfl (ev_slice_sla (i := 0) (j := 32) uT23 ti5 s5 (optI_none _ _) (optI_none _ _) oM sD sD) <| rw_c rfl (or_append (f := u8) (Hs := Hsq4) (H := [(b5, .cells (cl u8 a) 23 (0, 0)), (b2, .cells (cl u8 (List.replicate 32 0)) 23 (0, 0))]) (Mem.pick [_] Hsq4 _ hm7) grq4 rfl rfl (Rd.slaAll hm7.h0 sD) uT26 uT26 ti5 rfl u8_one sD sD) ?_
 rintro sv9 w9 ⟨Hs9, hm9, g9⟩
 replace g9 : Grow u8 5 sv9 (ff32 ++ a) Hs9 := g9
 refine rA rfl (v := sv9) rfl ?_
 refine rw_nil (kBlk_normal (cw_region ?_))
 refine rw_q (v := (i64 1)) rfl (ev_i64_add (a := 0) (b := 1) s12 rfl oM oM) <| rw_q rfl (ev_move (v := (i64 1)) rfl) ?_
 refine rN (cr_succ (sR ?_))
 refine rw_q rfl (ev_i64_lss (a := 1) (b := 3) rfl s11) ?_
 refine rN (cw_seq ?_)
 refine cw_cond_t rfl (by decide) ?_
 refine cw_skip (kThen_normal (cw_seq (cw_block (sR ?_))))
 refine rw_q rfl (ev_indexAddr_rk (i := 1) (RdK.ofRest hrk hm9) uT57 ti23 s10 rfl oM sD) <| rw_q (v := (agg u8 b)) rfl (ev_load_rka (i := (1 : Int)) (RdK.ofRest hrk hm9) sD uT23 ti23 rfl rfl) <| rw_c rfl (or_alloc_agg hm9 ti23) ?_
 rintro _ w10 ⟨b5_1, rfl, _ew10, hm10⟩
 refine rw_n (or_store_agg (f := u8) (l := b) u8_one ti23 rfl rfl sD hm10.h0 sZ rfl) ?_
 rintro _ w11 uq11
 have hm11 := hm10.upd0 uq11
 refine rN (cw_region ?_)
 refine rM rfl (v := sv9) rfl <| rw_q rfl (ev_slice_sla (i := 0) (j := 32) uT23 ti5 rfl (optI_none _ _) (optI_none _ _) oM sD sD) <| rw_c rfl (or_append (f := u8) (Hs := Hs9) (H := [(b5_1, .cells (cl u8 b) 23 (0, 0)), (b5, .cells (cl u8 a) 23 (0, 0)), (b2, .cells (cl u8 (List.replicate 32 0)) 23 (0, 0))]) (Mem.pick [_] Hs9 _ hm11) g9 rfl rfl (Rd.slaAll hm11.h0 sD) uT26 uT26 ti5 rfl u8_one sD sD) ?_
 rintro sv12 w12 ⟨Hs12, hm12, g12⟩
 replace g12 : Grow u8 5 sv12 ((ff32 ++ a) ++ b) Hs12 := g12
 refine rA rfl (v := sv12) rfl ?_
 refine rw_nil (kBlk_normal ?_)
 have hm13 := Mem.drop ([(b5, .cells (cl u8 a) 23 (0, 0))]) _ (Mem.pick2 Hs12 [_] [_] _ hm12)
 refine CW.abs (fun g => g 0 = vs ∧ g 2 = (ptr b2 0) ∧ g 3 = sv12 ∧ g 5 = (ptr b5_1 0) ∧ g 10 = vs ∧ g 11 = (i64 3) ∧ g 12 = (i64 1) ∧ g 13 = (bl true) ∧ True) ⟨s0, s2, rfl, rfl, s10, s11, rfl, rfl, trivial⟩ ?_
 rintro fr14 ⟨s0, s2, s3, s5, s10, s11, s12, s13, _⟩
 refine cw_region <| rw_q (v := (i64 2)) rfl (ev_i64_add (a := 1) (b := 1) s12 rfl oM oM) <| rw_q rfl (ev_move (v := (i64 2)) rfl) ?_
 refine rN (cr_succ (sR ?_))
 refine rw_q rfl (ev_i64_lss (a := 2) (b := 3) rfl s11) ?_
 refine rN (cw_seq ?_)
 refine cw_cond_t rfl (by decide) ?_
 refine cw_skip (kThen_normal (cw_seq (cw_block (sR ?_))))
 refine rw_q rfl (ev_indexAddr_rk (i := 2) (RdK.ofRest hrk hm13) uT57 ti23 s10 rfl oM sD) <| rw_q (v := (agg u8 c)) rfl (ev_load_rka (i := (2 : Int)) (RdK.ofRest hrk hm13) sD uT23 ti23 rfl rfl) <| rw_c rfl (or_alloc_agg hm13 ti23) ?_
 rintro _ w15 ⟨b5_2, rfl, _ew15, hm15⟩
 refine rw_n (or_store_agg (f := u8) (l := c) u8_one ti23 rfl rfl sD hm15.h0 sZ rfl) ?_
 rintro _ w16 uq16
 have hm16 := hm15.upd0 uq16
 refine rN (cw_region ?_)
 refine rM rfl s3 <| rw_q rfl (ev_slice_sla (i := 0) (j := 32) uT23 ti5 rfl (optI_none _ _) (optI_none _ _) oM sD sD) <| rw_c rfl (or_append (f := u8) (Hs := Hs12) (H := [(b5_2, .cells (cl u8 c) 23 (0, 0)), (b5_1, .cells (cl u8 b) 23 (0, 0)), (b2, .cells (cl u8 (List.replicate 32 0)) 23 (0, 0))]) (Mem.pick [_] Hs12 _ hm16) g12 rfl rfl (Rd.slaAll hm16.h0 sD) uT26 uT26 ti5 rfl u8_one sD sD) ?_
 rintro sv17 w17 ⟨Hs17, hm17, g17⟩
 replace g17 : Grow u8 5 sv17 (((ff32 ++ a) ++ b) ++ c) Hs17 := g17
 refine rA rfl (v := sv17) rfl ?_
 refine rw_nil (kBlk_normal (cw_region ?_))
 refine rw_q (v := (i64 3)) rfl (ev_i64_add (a := 2) (b := 1) rfl rfl oM oM) <| rw_q rfl (ev_move (v := (i64 3)) rfl) <| rN ?_
 refine CR.abs (fun g => g 0 = vs ∧ g 2 = (ptr b2 0) ∧ g 3 = sv17 ∧ g 5 = (ptr b5_2 0) ∧ g 10 = vs ∧ g 11 = (i64 3) ∧ g 12 = (i64 3) ∧ g 13 = (bl true) ∧ True) ⟨s0, s2, rfl, rfl, s10, s11, rfl, rfl, trivial⟩ ?_
 rintro fr18 ⟨s0, s2, s3, s5, s10, s11, s12, s13, _⟩
 refine cr_succ (sR ?_)
 refine rw_q rfl (ev_i64_lss (a := 3) (b := 3) s12 s11) ?_
 refine rN (cw_seq ?_)
 refine cw_cond_f rfl (by decide) <| cw_exit ?_
 refine kThen_exit (kThen_exit (kBlk_hit ?_))
 refine cw_seq ?_
 have gs19 : Grow u8 5 sv17 (secB a b c) Hs17 := Grow.cast g17 (by unfold secB; simp only [List.append_assoc])
 refine cw_region <| rM rfl s3 <| rw_c rfl (opR_call Tryd.func39 bd39 nm39 (args4 rfl rfl rfl rfl) (c_keys (Value.slice none 0 0) ([]) sv17 (secB a b c) (⟨#[115, 116, 97, 114, 116]⟩) (1 : Int) _ (hT.mono fun b o e => (hm17).rest b o e) (Rd.nil _ _) sD (gs19.rd hm17) sD sD sD)) ?_
 rintro _ w20 ⟨vxq21, Hsq21, rfl, gvxq21, k_w20⟩
 have hm20 : Mem w20 (restOf w0) (Hsq21 ++ (Hs17 ++ ([(b5_2, .cells (cl u8 c) 23 (0, 0)), (b5_1, .cells (cl u8 b) 23 (0, 0)), (b2, .cells (cl u8 (List.replicate 32 0)) 23 (0, 0))]))) := Mem.new (H := Hs17 ++ ([(b5_2, .cells (cl u8 c) 23 (0, 0)), (b5_1, .cells (cl u8 b) 23 (0, 0)), (b2, .cells (cl u8 (List.replicate 32 0)) 23 (0, 0))])) (H' := Hsq21) hm17 k_w20
 refine rw_q rfl (ev_move (v := (Value.tuple #[vxq21, (i64 (errK (1 : Int)))])) rfl) <| rw_q (v := vxq21) rfl (ev_extract rfl rfl) <| rw_q (v := (i64 (errK (1 : Int)))) rfl (ev_extract rfl rfl) <| rA rfl (v := vxq21) rfl <| rw_q rfl (ev_assign (v := (i64 (errK (1 : Int)))) rfl) ?_
 refine rN (sR ?_)
 refine rM rfl (v := vxq21) rfl <| rw_q rfl (ev_indexAddr_rk (i := 0) (gvxq21.rd hm20) uT57 ti23 rfl rfl oM sD) <| rw_q (v := (agg u8 ((keysQ ([]) (secB a b c) (bytesL (⟨#[115, 116, 97, 114, 116]⟩)) (1 : Int)).getD 0 []))) rfl (ev_load_rka (i := (0 : Int)) (gvxq21.rd hm20) sD uT23 ti23 rfl rfl) <| rw_n (or_store_agg (f := u8) (l := (keysQ ([]) (secB a b c) (bytesL (⟨#[115, 116, 97, 114, 116]⟩)) (1 : Int)).getD 0 []) u8_one ti23 s2 rfl sD ((Mem.pick3 Hsq21 Hs17 [_, _] [_] _ hm20)).h0 sZ rfl) ?_
 rintro _ w22 uq22
 have hm22 : Mem w22 (restOf w0) ([(b2, .cells (cl u8 ((keysQ ([]) (secB a b c) (bytesL (⟨#[115, 116, 97, 114, 116]⟩)) (1 : Int)).getD 0 [])) 23 (0, 0))] ++ (Hsq21 ++ (Hs17 ++ ([(b5_2, .cells (cl u8 c) 23 (0, 0)), (b5_1, .cells (cl u8 b) 23 (0, 0))])))) := Mem.upd0 (Mem.pick3 Hsq21 Hs17 [_, _] [_] _ hm20) uq22
 refine rN ?_
 have hm23 := Mem.drop ([(b5_1, .cells (cl u8 b) 23 (0, 0))]) _ (Mem.pick4 [_] Hsq21 Hs17 [_] [_] _ hm22)
 refine CW.abs (fun g => g 0 = vs ∧ g 2 = (ptr b2 0) ∧ g 3 = sv17 ∧ g 5 = (ptr b5_2 0) ∧ g 6 = vxq21 ∧ g 10 = vs ∧ g 11 = (i64 3) ∧ g 12 = (i64 3) ∧ g 13 = (bl false) ∧ True) ⟨s0, s2, s3, s5, rfl, s10, s11, s12, rfl, trivial⟩ ?_
 rintro fr24 ⟨s0, s2, s3, s5, s6, s10, s11, s12, s13, _⟩
 refine cw_ret <| fnPost_ret [(agg u8 ((keysQ ([]) (secB a b c) (bytesL (⟨#[115, 116, 97, 114, 116]⟩)) (1 : Int)).getD 0 []))] ⟨⟨_, s2, loadVar_run uT23 rfl ti23 hm23.h0 sZ⟩, trivial⟩ ?_
 exact ⟨congrArg (agg u8) (by unfold comB secB; simp only [List.append_assoc]), hm23.toExt⟩


end Go.Proofs.YtmiagmbgfhakgaaDoor

