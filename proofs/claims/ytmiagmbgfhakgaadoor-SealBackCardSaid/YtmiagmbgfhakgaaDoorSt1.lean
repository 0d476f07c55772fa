/- Contracts: stream, first part. Conditions: none beyond those that each theorem states. -/
import Derived.Test.YtmiagmbgfhakgaaDoorTab
namespace Go.Proofs.YtmiagmbgfhakgaaDoor
set_option linter.unusedVariables false
set_option linter.unusedSimpArgs false

def rotl32 (x : BitVec 32) (k : Int) : BitVec 32 := (x <<< (BitVec.ofInt 64 k &&& 31#64).toNat) ||| (x >>> (32#64 - (BitVec.ofInt 64 k &&& 31#64)).toNat)
def left3 (x : BitVec 32) (n : Int) : BitVec 32 := (x <<< n.toNat) ||| (x >>> (32 - n).toNat)
def quarterL (rot : BitVec 32 → Int → BitVec 32) (a b c d : BitVec 32) : List (BitVec 32) :=
  let a1 := a + b
  let d1 := rot (d ^^^ a1) 16
  let c1 := c + d1
  let b1 := rot (b ^^^ c1) 12
  let a2 := a1 + b1
  let d2 := rot (d1 ^^^ a2) 8
  let c2 := c1 + d2
  let b2 := rot (b1 ^^^ c2) 7
  [a2, b2, c2, d2]
@[simp] theorem quarterL_length (rot : BitVec 32 → Int → BitVec 32) (a b c d : BitVec 32) : (quarterL rot a b c d).length = 4 := rfl
/-- A word out of four bytes, as the program has it, and as the document. -/
def wordP (a b c d : BitVec 8) : BitVec 32 := (((0#32 ||| a.setWidth 32 <<< 0) ||| b.setWidth 32 <<< 8) ||| c.setWidth 32 <<< 16) ||| d.setWidth 32 <<< 24
def wordR (a b c d : BitVec 8) : BitVec 32 := ((a.setWidth 32 + b.setWidth 32 * 256) + c.setWidth 32 * 65536) + d.setWidth 32 * 16777216
def wordPL (l : List (BitVec 8)) : BitVec 32 := wordP (l.getD 0 0) (l.getD 1 0) (l.getD 2 0) (l.getD 3 0)
def wordRL (l : List (BitVec 8)) : BitVec 32 := wordR (l.getD 0 0) (l.getD 1 0) (l.getD 2 0) (l.getD 3 0)
def qAt (s : List (BitVec 32)) (i0 i1 i2 i3 : Nat) : List (BitVec 32) :=
  let q := quarterL rotl32 (s.getD i0 0) (s.getD i1 0) (s.getD i2 0) (s.getD i3 0)
  (((s.set i0 (q.getD 0 0)).set i1 (q.getD 1 0)).set i2 (q.getD 2 0)).set i3 (q.getD 3 0)
theorem qAt_length (s : List (BitVec 32)) (i0 i1 i2 i3 : Nat) : (qAt s i0 i1 i2 i3).length = s.length := by simp [qAt]

theorem c_rotl32 (x : BitVec 32) (k : Int) (w0 : World)   : CallsR Tryd.prog 81 #[(u32 x), (i64 k)] w0 (fun r w1 => r = (u32 (rotl32 x k)) ∧ w1 = w0) := by
 refine callsR_of_cw (args := [(u32 x), (i64 k)]) Tryd.func81 rfl Tryd.ntmps81 Tryd.results81 rfl ?_
 have hm0 : Mem w0 (restOf w0) [] := Mem.of_world w0
 refine cw_seq (cw_region ?_)
 refine rw_q rfl (ev_assign (v := (u32 0#32)) rfl) ?_
 refine rw_nil (kThen_normal (cw_seq (cw_region ?_)))
 refine rw_q rfl (ev_move (v := (i64 k)) rfl) <| rw_q rfl (ev_conv_i64_u64 ⟨_, uT3⟩ uT97 rfl) <| rw_q rfl (ev_u64_and (b := 31#64) rfl rfl) <| rw_q rfl (ev_assign (v := (u64 ((BitVec.ofInt 64 k) &&& 31#64))) rfl) ?_
 refine rw_nil (kThen_normal (cw_seq (cw_region ?_)))
 refine rw_q rfl (ev_move (v := (u32 x)) rfl) <| rw_q rfl (ev_move (v := (u64 ((BitVec.ofInt 64 k) &&& 31#64))) rfl) <| rw_q rfl (ev_u32_shl rfl rfl oM) <| rw_q rfl (ev_move (v := (u32 x)) rfl) <| rw_q rfl (ev_move (v := (u64 ((BitVec.ofInt 64 k) &&& 31#64))) rfl) <| rw_q rfl (ev_u64_sub (a := 32#64) rfl rfl) ?_
 refine rw_q rfl (ev_u32_shr rfl rfl oM) <| rw_q rfl (ev_u32_or rfl rfl) <| rA rfl rfl ?_
 refine rw_nil (kThen_normal (cw_ret ?_))
 refine fnPost_ret [(u32 ((x <<< ((BitVec.ofInt 64 k) &&& 31#64).toNat) ||| (x >>> (32#64 - ((BitVec.ofInt 64 k) &&& 31#64)).toNat)))] ⟨rfl, trivial⟩ ?_
 exact ⟨rfl, rfl⟩

theorem c_left3 (x : BitVec 32) (k : Int) (w0 : World)  (h0 : 0 ≤ k) (h1 : k ≤ 32) : CallsR Tryd.prog 82 #[(u32 x), (i64 k)] w0 (fun r w1 => r = (u32 (left3 x k)) ∧ Ext w0 w1) := by
 refine callsR_of_cw (args := [(u32 x), (i64 k)]) Tryd.func82 rfl Tryd.ntmps82 Tryd.results82 rfl ?_
 have hm0 : Mem w0 (restOf w0) [] := Mem.of_world w0
 refine cw_seq (cw_region ?_)
 refine rw_q rfl (ev_assign (v := (u32 0#32)) rfl) ?_
 refine rw_nil (kThen_normal (cw_seq ?_))
 refine cw_draw [(0, false), (1, false), (2, false), (3, false), (4, false), (5, false), (6, false)] 7 (by kernel_rfl) <| dw_q rfl rfl (fun _ _hx => ev_move (v := (u32 x)) rfl) <| dw_q rfl rfl (fun _ _hx => ev_move (v := (i64 k)) rfl) <| dw_q rfl rfl (fun _ _hx => ev_u32_shl rfl rfl oM) <| dw_q rfl rfl (fun _ _hx => ev_move (v := (u32 x)) rfl) <| dw_q rfl rfl (fun _ _hx => ev_move (v := (i64 k)) rfl) ?_
 refine dw_q rfl rfl (fun _ _hx => ev_i64_sub (a := 32) rfl rfl oM oM) <| dw_q rfl rfl (fun _ _hx => ev_u32_shr rfl rfl oM) ?_
 refine dw_nil (fun w1 _ew1 => ?_)
 have hm1 := hm0.ext _ew1
 refine rw_q rfl (ev_u32_or rfl rfl) <| rw_q rfl (ev_assign (v := (u32 ((x <<< k.toNat) ||| (x >>> (32 - k).toNat)))) rfl) ?_
 refine rw_nil (kThen_normal (cw_ret ?_))
 refine fnPost_ret [(u32 ((x <<< k.toNat) ||| (x >>> (32 - k).toNat)))] ⟨rfl, trivial⟩ ?_
 exact ⟨rfl, hm1.toExt⟩

theorem c_quarter (a b c d : BitVec 32) (w0 : World)   : CallsR Tryd.prog 79 #[(agg u32 ([a, b, c, d]))] w0 (fun r w1 => r = (agg u32 (quarterL rotl32 a b c d)) ∧ Ext w0 w1) := by
 refine callsR_of_cw (args := [(agg u32 ([a, b, c, d]))]) Tryd.func79 rfl Tryd.ntmps79 Tryd.results79 rfl ?_
 have hm0 : Mem w0 (restOf w0) [] := Mem.of_world w0
 refine cw_seq (cw_region ?_)
 refine rw_c rfl (or_box_agg (f := u32) (l := [a, b, c, d]) hm0 rfl) ?_
 rintro _ w1 ⟨b1, rfl, _ew1, hm1⟩
 refine rw_c rfl (or_alloc_agg hm1 ti105) ?_
 rintro _ w2 ⟨b2, rfl, _ew2, hm2⟩
 refine rw_nil (kThen_normal (cw_seq (cw_seq (cw_region ?_))))
 refine rw_q rfl (ev_build_cl i64 [16, 12, 8, 7] i64_one ti93 uT93 ti3 rfl rfl) <| rw_q rfl (ev_move (v := (i64 0)) rfl) ?_
 refine rw_nil (kThen_normal (cw_block ?_))
 refine cw_rounds 5 ?_
 refine cr_succ (cw_seq (cw_region ?_))
 refine rw_q rfl (ev_i64_lss (a := 0) (b := 4) rfl rfl) ?_
 refine rw_nil (kThen_normal (cw_seq ?_))
 refine cw_cond_t rfl (by decide) ?_
 refine cw_skip (kThen_normal (cw_seq (cw_block (cw_seq (cw_region ?_)))))
 refine rw_q rfl (ev_move (v := (i64 0)) rfl) <| rw_q (v := (i64 16)) rfl (ev_index_agg (i := 0) uT93 uT3 rfl ti3 rfl rfl oM sD (get_clD _ _ 0 (by simp))) <| rw_q rfl (ev_assign (v := (i64 0)) rfl) <| rw_q rfl (ev_assign (v := (i64 16)) rfl) ?_
 refine rw_nil (kThen_normal (cw_seq (cw_region ?_)))
 refine rw_q rfl (ev_assign (v := (i64 0)) rfl) <| rw_q rfl (ev_assign (v := (i64 1)) rfl) <| rw_q rfl (ev_assign (v := (i64 3)) rfl) ?_
 refine rw_nil (kThen_normal ?_)
 refine CW.abs (fun g => g 0 = (agg u32 ([a, b, c, d])) ∧ g 1 = (ptr b1 0) ∧ g 2 = (ptr b2 0) ∧ g 3 = (i64 0) ∧ g 4 = (i64 16) ∧ g 5 = (i64 0) ∧ g 6 = (i64 1) ∧ g 7 = (i64 3) ∧ g 8 = (agg i64 ([16, 12, 8, 7])) ∧ g 9 = (i64 0) ∧ g 10 = (bl true) ∧ True) ⟨rfl, rfl, rfl, rfl, rfl, rfl, rfl, rfl, rfl, rfl, rfl, trivial⟩ ?_
 rintro fr3 ⟨s0, s1, s2, s3, s4, s5, s6, s7, s8, s9, s10, _⟩
 refine cw_seq (cw_seq (cw_region ?_))
 refine rM rfl s3 <| rw_q (v := (i64 0)) rfl (ev_i64_rem (a := 0) (b := 2) rfl rfl oM oM oM) <| rw_q rfl (ev_i64_eql (a := 0) (b := 1) rfl rfl) ?_
 refine rw_nil (kThen_normal ?_)
 refine cw_cond_f rfl (by decide) ?_
 refine cw_skip (kThen_normal (cw_seq ?_))
 refine cw_draw [(0, false), (1, false), (2, false), (3, false), (4, false), (5, false)] 6 (by kernel_rfl) <| dM rfl rfl s5 <| dw_q rfl rfl (fun _ _hx => ev_ia_arr (r := 0) (i := 0) oM uT105 ti55 s1 rfl oM oM) <| dw_q (v := (u32 a)) rfl rfl (fun _ _hx => ev_load1 uT55 rfl rfl (hm2.ext _hx).h1 (get_clD _ _ 0 (by simp))) <| dM rfl rfl s6 <| dw_q rfl rfl (fun _ _hx => ev_ia_arr (r := 1) (i := 1) oM uT105 ti55 s1 rfl oM oM) ?_
 refine dw_q (v := (u32 b)) rfl rfl (fun _ _hx => ev_load1 uT55 rfl rfl (hm2.ext _hx).h1 (get_clD _ _ 0 (by simp))) ?_
 refine dw_nil (fun w4 _ew4 => ?_)
 have hm4 := hm2.ext _ew4
 refine rw_q rfl (ev_u32_add rfl rfl) <| rw_q rfl (ev_ia_arr (r := 0) (i := 0) oM uT105 ti55 s1 rfl oM oM) <| rw_n (or_store_cl' (f := u32) (l' := [a + b, b, c, d]) rfl u32_one ti55 rfl rfl hm4.h1 (by simp) (.inl (Nat.zero_le _))) ?_
 rintro _ w5 uq5
 have hm5 := hm4.upd1 uq5
 refine rw_nil (kThen_normal ?_)
 refine CW.abs (fun g => g 0 = (agg u32 ([a, b, c, d])) ∧ g 1 = (ptr b1 0) ∧ g 2 = (ptr b2 0) ∧ g 3 = (i64 0) ∧ g 4 = (i64 16) ∧ g 5 = (i64 0) ∧ g 6 = (i64 1) ∧ g 7 = (i64 3) ∧ g 8 = (agg i64 ([16, 12, 8, 7])) ∧ g 9 = (i64 0) ∧ g 10 = (bl true) ∧ g 15 = (bl false) ∧ True) ⟨s0, s1, s2, s3, s4, s5, s6, s7, s8, s9, s10, rfl, trivial⟩ ?_
 rintro fr6 ⟨s0, s1, s2, s3, s4, s5, s6, s7, s8, s9, s10, s15, _⟩
 refine cw_draw [(0, false), (1, false), (2, false), (3, false), (4, false), (5, false), (6, false), (7, false), (8, false), (9, false)] 10 (by kernel_rfl) <| dM rfl rfl s7 <| dM rfl rfl s7 <| dw_q rfl rfl (fun _ _hx => ev_ia_arr (r := 3) (i := 3) oM uT105 ti55 s1 rfl oM oM) <| dw_q (v := (u32 d)) rfl rfl (fun _ _hx => ev_load1 uT55 rfl rfl (hm5.ext _hx).h1 (get_clD _ _ 0 (by simp))) <| dM rfl rfl s5 ?_
 refine dw_q rfl rfl (fun _ _hx => ev_ia_arr (r := 0) (i := 0) oM uT105 ti55 s1 rfl oM oM) <| dw_q (v := (u32 (a + b))) rfl rfl (fun _ _hx => ev_load1 uT55 rfl rfl (hm5.ext _hx).h1 (get_clD _ _ 0 (by simp))) <| dw_q rfl rfl (fun _ _hx => ev_u32_xor rfl rfl) <| dM rfl rfl s4 <| dw_x (v := (u32 (rotl32 (d ^^^ (a + b)) (16 : Int)))) rfl rfl (fun w7 _ew7 => OpR.mono (opR_call Tryd.func81 bd81 nm81 (args2 rfl rfl) (c_rotl32 (d ^^^ (a + b)) (16 : Int) _)) (by rintro _ w8 ⟨rfl, rfl⟩; exact ⟨rfl, Ext.refl _⟩)) ?_
 refine dw_nil (fun w10 _ew10 => ?_)
 have hm10 := hm5.ext _ew10
 refine rw_q rfl (ev_ia_arr (r := 3) (i := 3) oM uT105 ti55 s1 rfl oM oM) <| rw_n (or_store_cl' (f := u32) (l' := [a + b, b, c, rotl32 (d ^^^ (a + b)) (16 : Int)]) rfl u32_one ti55 rfl rfl hm10.h1 (by simp) (.inl (Nat.zero_le _))) ?_
 rintro _ w11 uq11
 have hm11 := hm10.upd1 uq11
 refine rw_nil (kBlk_normal ?_)
 refine CW.abs (fun g => g 0 = (agg u32 ([a, b, c, d])) ∧ g 1 = (ptr b1 0) ∧ g 2 = (ptr b2 0) ∧ g 3 = (i64 0) ∧ g 4 = (i64 16) ∧ g 5 = (i64 0) ∧ g 6 = (i64 1) ∧ g 7 = (i64 3) ∧ g 8 = (agg i64 ([16, 12, 8, 7])) ∧ g 9 = (i64 0) ∧ g 10 = (bl true) ∧ g 15 = (bl false) ∧ True) ⟨s0, s1, s2, s3, s4, s5, s6, s7, s8, s9, s10, s15, trivial⟩ ?_
 rintro fr12 ⟨s0, s1, s2, s3, s4, s5, s6, s7, s8, s9, s10, s15, _⟩
 refine cw_region <| rw_q (v := (i64 1)) rfl (ev_i64_add (a := 0) (b := 1) s9 rfl oM oM) <| rw_q rfl (ev_move (v := (i64 1)) rfl) ?_
 refine rw_nil (kThen_normal (cr_succ (cw_seq (cw_region ?_))))
 refine rw_q rfl (ev_i64_lss (a := 1) (b := 4) rfl rfl) ?_
 refine rw_nil (kThen_normal (cw_seq ?_))
 refine cw_cond_t rfl (by decide) ?_
 refine cw_skip (kThen_normal (cw_seq (cw_block (cw_seq (cw_region ?_)))))
 refine rw_q rfl (ev_move (v := (i64 1)) rfl) <| rw_q (v := (i64 12)) rfl (ev_index_agg (i := 1) uT93 uT3 rfl ti3 s8 rfl oM sD (get_clD _ _ 0 (by simp))) <| rw_q rfl (ev_assign (v := (i64 1)) rfl) <| rw_q rfl (ev_assign (v := (i64 12)) rfl) ?_
 refine rw_nil (kThen_normal (cw_seq (cw_region ?_)))
 refine rw_q rfl (ev_assign (v := (i64 0)) rfl) <| rw_q rfl (ev_assign (v := (i64 1)) rfl) <| rw_q rfl (ev_assign (v := (i64 3)) rfl) ?_
 refine rw_nil (kThen_normal (cw_seq (cw_seq (cw_region ?_))))
 refine rw_q rfl (ev_move (v := (i64 1)) rfl) <| rw_q (v := (i64 1)) rfl (ev_i64_rem (a := 1) (b := 2) rfl rfl oM oM oM) <| rw_q rfl (ev_i64_eql (a := 1) (b := 1) rfl rfl) ?_
 refine rw_nil (kThen_normal ?_)
 refine CW.abs (fun g => g 0 = (agg u32 ([a, b, c, d])) ∧ g 1 = (ptr b1 0) ∧ g 2 = (ptr b2 0) ∧ g 3 = (i64 1) ∧ g 4 = (i64 12) ∧ g 5 = (i64 0) ∧ g 6 = (i64 1) ∧ g 7 = (i64 3) ∧ g 8 = (agg i64 ([16, 12, 8, 7])) ∧ g 9 = (i64 1) ∧ g 10 = (bl true) ∧ g 15 = (bl true) ∧ True) ⟨s0, s1, s2, rfl, rfl, rfl, rfl, rfl, s8, rfl, rfl, rfl, trivial⟩ ?_
 rintro fr13 ⟨s0, s1, s2, s3, s4, s5, s6, s7, s8, s9, s10, s15, _⟩
 refine cw_cond_t s15 (by decide) <| cw_region <| rw_q rfl (ev_assign (v := (i64 2)) rfl) <| rw_q rfl (ev_assign (v := (i64 3)) rfl) <| rw_q rfl (ev_assign (v := (i64 1)) rfl) ?_
 refine rw_nil (kThen_normal (cw_seq ?_))
 refine cw_draw [(0, false), (1, false), (2, false), (3, false), (4, false), (5, false)] 6 (by kernel_rfl) <| dw_q rfl rfl (fun _ _hx => ev_move (v := (i64 2)) rfl) <| dw_q rfl rfl (fun _ _hx => ev_ia_arr (r := 2) (i := 2) oM uT105 ti55 s1 rfl oM oM) <| dw_q (v := (u32 c)) rfl rfl (fun _ _hx => ev_load1 uT55 rfl rfl (hm11.ext _hx).h1 (get_clD _ _ 0 (by simp))) <| dw_q rfl rfl (fun _ _hx => ev_move (v := (i64 3)) rfl) <| dw_q rfl rfl (fun _ _hx => ev_ia_arr (r := 3) (i := 3) oM uT105 ti55 s1 rfl oM oM) ?_
 refine dw_q (v := (u32 (rotl32 (d ^^^ (a + b)) (16 : Int)))) rfl rfl (fun _ _hx => ev_load1 uT55 rfl rfl (hm11.ext _hx).h1 (get_clD _ _ 0 (by simp))) ?_
 refine dw_nil (fun w14 _ew14 => ?_)
 have hm14 := hm11.ext _ew14
 refine rw_q rfl (ev_u32_add rfl rfl) <| rw_q rfl (ev_ia_arr (r := 2) (i := 2) oM uT105 ti55 s1 rfl oM oM) <| rw_n (or_store_cl' (f := u32) (l' := [a + b, b, c + (rotl32 (d ^^^ (a + b)) (16 : Int)), rotl32 (d ^^^ (a + b)) (16 : Int)]) rfl u32_one ti55 rfl rfl hm14.h1 (by simp) (.inl (Nat.zero_le _))) ?_
 rintro _ w15 uq15
 have hm15 := hm14.upd1 uq15
 refine rw_nil (kThen_normal ?_)
 refine CW.abs (fun g => g 0 = (agg u32 ([a, b, c, d])) ∧ g 1 = (ptr b1 0) ∧ g 2 = (ptr b2 0) ∧ g 3 = (i64 1) ∧ g 4 = (i64 12) ∧ g 5 = (i64 2) ∧ g 6 = (i64 3) ∧ g 7 = (i64 1) ∧ g 8 = (agg i64 ([16, 12, 8, 7])) ∧ g 9 = (i64 1) ∧ g 10 = (bl true) ∧ g 15 = (bl true) ∧ True) ⟨s0, s1, s2, s3, s4, rfl, rfl, rfl, s8, s9, s10, s15, trivial⟩ ?_
 rintro fr16 ⟨s0, s1, s2, s3, s4, s5, s6, s7, s8, s9, s10, s15, _⟩
 refine cw_draw [(0, false), (1, false), (2, false), (3, false), (4, false), (5, false), (6, false), (7, false), (8, false), (9, false)] 10 (by kernel_rfl) <| dM rfl rfl s7 <| dM rfl rfl s7 <| dw_q rfl rfl (fun _ _hx => ev_ia_arr (r := 1) (i := 1) oM uT105 ti55 s1 rfl oM oM) <| dw_q (v := (u32 b)) rfl rfl (fun _ _hx => ev_load1 uT55 rfl rfl (hm15.ext _hx).h1 (get_clD _ _ 0 (by simp))) <| dM rfl rfl s5 ?_
 refine dw_q rfl rfl (fun _ _hx => ev_ia_arr (r := 2) (i := 2) oM uT105 ti55 s1 rfl oM oM) <| dw_q (v := (u32 (c + (rotl32 (d ^^^ (a + b)) (16 : Int))))) rfl rfl (fun _ _hx => ev_load1 uT55 rfl rfl (hm15.ext _hx).h1 (get_clD _ _ 0 (by simp))) <| dw_q rfl rfl (fun _ _hx => ev_u32_xor rfl rfl) <| dM rfl rfl s4 <| dw_x (v := (u32 (rotl32 (b ^^^ (c + (rotl32 (d ^^^ (a + b)) (16 : Int)))) (12 : Int)))) rfl rfl (fun w17 _ew17 => OpR.mono (opR_call Tryd.func81 bd81 nm81 (args2 rfl rfl) (c_rotl32 (b ^^^ (c + (rotl32 (d ^^^ (a + b)) (16 : Int)))) (12 : Int) _)) (by rintro _ w18 ⟨rfl, rfl⟩; exact ⟨rfl, Ext.refl _⟩)) ?_
 refine dw_nil (fun w20 _ew20 => ?_)
 have hm20 := hm15.ext _ew20
 refine rw_q rfl (ev_ia_arr (r := 1) (i := 1) oM uT105 ti55 s1 rfl oM oM) <| rw_n (or_store_cl' (f := u32) (l' := [a + b, rotl32 (b ^^^ (c + (rotl32 (d ^^^ (a + b)) (16 : Int)))) (12 : Int), c + (rotl32 (d ^^^ (a + b)) (16 : Int)), rotl32 (d ^^^ (a + b)) (16 : Int)]) rfl u32_one ti55 rfl rfl hm20.h1 (by simp) (.inl (Nat.zero_le _))) ?_
 rintro _ w21 uq21
 have hm21 := hm20.upd1 uq21
 refine rw_nil (kBlk_normal ?_)
 refine CW.abs (fun g => g 0 = (agg u32 ([a, b, c, d])) ∧ g 1 = (ptr b1 0) ∧ g 2 = (ptr b2 0) ∧ g 3 = (i64 1) ∧ g 4 = (i64 12) ∧ g 5 = (i64 2) ∧ g 6 = (i64 3) ∧ g 7 = (i64 1) ∧ g 8 = (agg i64 ([16, 12, 8, 7])) ∧ g 9 = (i64 1) ∧ g 10 = (bl true) ∧ g 15 = (bl true) ∧ True) ⟨s0, s1, s2, s3, s4, s5, s6, s7, s8, s9, s10, s15, trivial⟩ ?_
 rintro fr22 ⟨s0, s1, s2, s3, s4, s5, s6, s7, s8, s9, s10, s15, _⟩
 refine cw_region <| rw_q (v := (i64 2)) rfl (ev_i64_add (a := 1) (b := 1) s9 rfl oM oM) <| rw_q rfl (ev_move (v := (i64 2)) rfl) ?_
 refine rw_nil (kThen_normal (cr_succ (cw_seq (cw_region ?_))))
 refine rw_q rfl (ev_i64_lss (a := 2) (b := 4) rfl rfl) ?_
 refine rw_nil (kThen_normal (cw_seq ?_))
 refine cw_cond_t rfl (by decide) ?_
 refine cw_skip (kThen_normal (cw_seq (cw_block (cw_seq (cw_region ?_)))))
 refine rw_q rfl (ev_move (v := (i64 2)) rfl) <| rw_q (v := (i64 8)) rfl (ev_index_agg (i := 2) uT93 uT3 rfl ti3 s8 rfl oM sD (get_clD _ _ 0 (by simp))) <| rw_q rfl (ev_assign (v := (i64 2)) rfl) <| rw_q rfl (ev_assign (v := (i64 8)) rfl) ?_
 refine rw_nil (kThen_normal (cw_seq (cw_region ?_)))
 refine rw_q rfl (ev_assign (v := (i64 0)) rfl) <| rw_q rfl (ev_assign (v := (i64 1)) rfl) <| rw_q rfl (ev_assign (v := (i64 3)) rfl) ?_
 refine rw_nil (kThen_normal (cw_seq (cw_seq (cw_region ?_))))
 refine rw_q rfl (ev_move (v := (i64 2)) rfl) <| rw_q (v := (i64 0)) rfl (ev_i64_rem (a := 2) (b := 2) rfl rfl oM oM oM) <| rw_q rfl (ev_i64_eql (a := 0) (b := 1) rfl rfl) ?_
 refine rw_nil (kThen_normal ?_)
 refine CW.abs (fun g => g 0 = (agg u32 ([a, b, c, d])) ∧ g 1 = (ptr b1 0) ∧ g 2 = (ptr b2 0) ∧ g 3 = (i64 2) ∧ g 4 = (i64 8) ∧ g 5 = (i64 0) ∧ g 6 = (i64 1) ∧ g 7 = (i64 3) ∧ g 8 = (agg i64 ([16, 12, 8, 7])) ∧ g 9 = (i64 2) ∧ g 10 = (bl true) ∧ g 15 = (bl false) ∧ True) ⟨s0, s1, s2, rfl, rfl, rfl, rfl, rfl, s8, rfl, rfl, rfl, trivial⟩ ?_
 rintro fr23 ⟨s0, s1, s2, s3, s4, s5, s6, s7, s8, s9, s10, s15, _⟩
 refine cw_cond_f s15 (by decide) ?_
 refine cw_skip (kThen_normal (cw_seq ?_))
 refine cw_draw [(0, false), (1, false), (2, false), (3, false), (4, false), (5, false)] 6 (by kernel_rfl) <| dM rfl rfl s5 <| dw_q rfl rfl (fun _ _hx => ev_ia_arr (r := 0) (i := 0) oM uT105 ti55 s1 rfl oM oM) <| dw_q (v := (u32 (a + b))) rfl rfl (fun _ _hx => ev_load1 uT55 rfl rfl (hm21.ext _hx).h1 (get_clD _ _ 0 (by simp))) <| dM rfl rfl s6 <| dw_q rfl rfl (fun _ _hx => ev_ia_arr (r := 1) (i := 1) oM uT105 ti55 s1 rfl oM oM) ?_
 refine dw_q (v := (u32 (rotl32 (b ^^^ (c + (rotl32 (d ^^^ (a + b)) (16 : Int)))) (12 : Int)))) rfl rfl (fun _ _hx => ev_load1 uT55 rfl rfl (hm21.ext _hx).h1 (get_clD _ _ 0 (by simp))) ?_
 refine dw_nil (fun w24 _ew24 => ?_)
 have hm24 := hm21.ext _ew24
 refine rw_q rfl (ev_u32_add rfl rfl) <| rw_q rfl (ev_ia_arr (r := 0) (i := 0) oM uT105 ti55 s1 rfl oM oM) <| rw_n (or_store_cl' (f := u32) (l' := [(a + b) + (rotl32 (b ^^^ (c + (rotl32 (d ^^^ (a + b)) (16 : Int)))) (12 : Int)), rotl32 (b ^^^ (c + (rotl32 (d ^^^ (a + b)) (16 : Int)))) (12 : Int), c + (rotl32 (d ^^^ (a + b)) (16 : Int)), rotl32 (d ^^^ (a + b)) (16 : Int)]) rfl u32_one ti55 rfl rfl hm24.h1 (by simp) (.inl (Nat.zero_le _))) ?_
 rintro _ w25 uq25
 have hm25 := hm24.upd1 uq25
 refine rw_nil (kThen_normal ?_)
 refine cw_draw [(0, false), (1, false), (2, false), (3, false), (4, false), (5, false), (6, false), (7, false), (8, false), (9, false)] 10 (by kernel_rfl) <| dM rfl rfl s7 <| dM rfl rfl s7 <| dw_q rfl rfl (fun _ _hx => ev_ia_arr (r := 3) (i := 3) oM uT105 ti55 s1 rfl oM oM) <| dw_q (v := (u32 (rotl32 (d ^^^ (a + b)) (16 : Int)))) rfl rfl (fun _ _hx => ev_load1 uT55 rfl rfl (hm25.ext _hx).h1 (get_clD _ _ 0 (by simp))) <| dM rfl rfl s5 ?_
 refine dw_q rfl rfl (fun _ _hx => ev_ia_arr (r := 0) (i := 0) oM uT105 ti55 s1 rfl oM oM) <| dw_q (v := (u32 ((a + b) + (rotl32 (b ^^^ (c + (rotl32 (d ^^^ (a + b)) (16 : Int)))) (12 : Int))))) rfl rfl (fun _ _hx => ev_load1 uT55 rfl rfl (hm25.ext _hx).h1 (get_clD _ _ 0 (by simp))) <| dw_q rfl rfl (fun _ _hx => ev_u32_xor rfl rfl) <| dM rfl rfl s4 <| dw_x (v := (u32 (rotl32 ((rotl32 (d ^^^ (a + b)) (16 : Int)) ^^^ ((a + b) + (rotl32 (b ^^^ (c + (rotl32 (d ^^^ (a + b)) (16 : Int)))) (12 : Int)))) (8 : Int)))) rfl rfl (fun w26 _ew26 => OpR.mono (opR_call Tryd.func81 bd81 nm81 (args2 rfl rfl) (c_rotl32 ((rotl32 (d ^^^ (a + b)) (16 : Int)) ^^^ ((a + b) + (rotl32 (b ^^^ (c + (rotl32 (d ^^^ (a + b)) (16 : Int)))) (12 : Int)))) (8 : Int) _)) (by rintro _ w27 ⟨rfl, rfl⟩; exact ⟨rfl, Ext.refl _⟩)) ?_
 refine dw_nil (fun w29 _ew29 => ?_)
 have hm29 := hm25.ext _ew29
 refine rw_q rfl (ev_ia_arr (r := 3) (i := 3) oM uT105 ti55 s1 rfl oM oM) <| rw_n (or_store_cl' (f := u32) (l' := [(a + b) + (rotl32 (b ^^^ (c + (rotl32 (d ^^^ (a + b)) (16 : Int)))) (12 : Int)), rotl32 (b ^^^ (c + (rotl32 (d ^^^ (a + b)) (16 : Int)))) (12 : Int), c + (rotl32 (d ^^^ (a + b)) (16 : Int)), rotl32 ((rotl32 (d ^^^ (a + b)) (16 : Int)) ^^^ ((a + b) + (rotl32 (b ^^^ (c + (rotl32 (d ^^^ (a + b)) (16 : Int)))) (12 : Int)))) (8 : Int)]) rfl u32_one ti55 rfl rfl hm29.h1 (by simp) (.inl (Nat.zero_le _))) ?_
 rintro _ w30 uq30
 have hm30 := hm29.upd1 uq30
 refine rw_nil (kBlk_normal ?_)
 refine CW.abs (fun g => g 0 = (agg u32 ([a, b, c, d])) ∧ g 1 = (ptr b1 0) ∧ g 2 = (ptr b2 0) ∧ g 3 = (i64 2) ∧ g 4 = (i64 8) ∧ g 5 = (i64 0) ∧ g 6 = (i64 1) ∧ g 7 = (i64 3) ∧ g 8 = (agg i64 ([16, 12, 8, 7])) ∧ g 9 = (i64 2) ∧ g 10 = (bl true) ∧ g 15 = (bl false) ∧ True) ⟨s0, s1, s2, s3, s4, s5, s6, s7, s8, s9, s10, s15, trivial⟩ ?_
 rintro fr31 ⟨s0, s1, s2, s3, s4, s5, s6, s7, s8, s9, s10, s15, _⟩
 refine cw_region <| rw_q (v := (i64 3)) rfl (ev_i64_add (a := 2) (b := 1) s9 rfl oM oM) <| rw_q rfl (ev_move (v := (i64 3)) rfl) ?_
 refine rw_nil (kThen_normal (cr_succ (cw_seq (cw_region ?_))))
 refine rw_q rfl (ev_i64_lss (a := 3) (b := 4) rfl rfl) ?_
 refine rw_nil (kThen_normal (cw_seq ?_))
 refine cw_cond_t rfl (by decide) ?_
 refine cw_skip (kThen_normal (cw_seq (cw_block (cw_seq (cw_region ?_)))))
 refine rw_q rfl (ev_move (v := (i64 3)) rfl) <| rw_q (v := (i64 7)) rfl (ev_index_agg (i := 3) uT93 uT3 rfl ti3 s8 rfl oM sD (get_clD _ _ 0 (by simp))) <| rw_q rfl (ev_assign (v := (i64 3)) rfl) <| rw_q rfl (ev_assign (v := (i64 7)) rfl) ?_
 refine rw_nil (kThen_normal (cw_seq (cw_region ?_)))
 refine rw_q rfl (ev_assign (v := (i64 0)) rfl) <| rw_q rfl (ev_assign (v := (i64 1)) rfl) <| rw_q rfl (ev_assign (v := (i64 3)) rfl) ?_
 refine rw_nil (kThen_normal (cw_seq (cw_seq (cw_region ?_))))
 refine rw_q rfl (ev_move (v := (i64 3)) rfl) <| rw_q (v := (i64 1)) rfl (ev_i64_rem (a := 3) (b := 2) rfl rfl oM oM oM) <| rw_q rfl (ev_i64_eql (a := 1) (b := 1) rfl rfl) ?_
 refine rw_nil (kThen_normal ?_)
 refine CW.abs (fun g => g 0 = (agg u32 ([a, b, c, d])) ∧ g 1 = (ptr b1 0) ∧ g 2 = (ptr b2 0) ∧ g 3 = (i64 3) ∧ g 4 = (i64 7) ∧ g 5 = (i64 0) ∧ g 6 = (i64 1) ∧ g 7 = (i64 3) ∧ g 8 = (agg i64 ([16, 12, 8, 7])) ∧ g 9 = (i64 3) ∧ g 10 = (bl true) ∧ g 15 = (bl true) ∧ True) ⟨s0, s1, s2, rfl, rfl, rfl, rfl, rfl, s8, rfl, rfl, rfl, trivial⟩ ?_
 rintro fr32 ⟨s0, s1, s2, s3, s4, s5, s6, s7, s8, s9, s10, s15, _⟩
 refine cw_cond_t s15 (by decide) <| cw_region <| rw_q rfl (ev_assign (v := (i64 2)) rfl) <| rw_q rfl (ev_assign (v := (i64 3)) rfl) <| rw_q rfl (ev_assign (v := (i64 1)) rfl) ?_
 refine rw_nil (kThen_normal (cw_seq ?_))
 refine cw_draw [(0, false), (1, false), (2, false), (3, false), (4, false), (5, false)] 6 (by kernel_rfl) <| dw_q rfl rfl (fun _ _hx => ev_move (v := (i64 2)) rfl) <| dw_q rfl rfl (fun _ _hx => ev_ia_arr (r := 2) (i := 2) oM uT105 ti55 s1 rfl oM oM) <| dw_q (v := (u32 (c + (rotl32 (d ^^^ (a + b)) (16 : Int))))) rfl rfl (fun _ _hx => ev_load1 uT55 rfl rfl (hm30.ext _hx).h1 (get_clD _ _ 0 (by simp))) <| dw_q rfl rfl (fun _ _hx => ev_move (v := (i64 3)) rfl) <| dw_q rfl rfl (fun _ _hx => ev_ia_arr (r := 3) (i := 3) oM uT105 ti55 s1 rfl oM oM) ?_
 refine dw_q (v := (u32 (rotl32 ((rotl32 (d ^^^ (a + b)) (16 : Int)) ^^^ ((a + b) + (rotl32 (b ^^^ (c + (rotl32 (d ^^^ (a + b)) (16 : Int)))) (12 : Int)))) (8 : Int)))) rfl rfl (fun _ _hx => ev_load1 uT55 rfl rfl (hm30.ext _hx).h1 (get_clD _ _ 0 (by simp))) ?_
 refine dw_nil (fun w33 _ew33 => ?_)
 have hm33 := hm30.ext _ew33
 refine rw_q rfl (ev_u32_add rfl rfl) <| rw_q rfl (ev_ia_arr (r := 2) (i := 2) oM uT105 ti55 s1 rfl oM oM) <| rw_n (or_store_cl' (f := u32) (l' := [(a + b) + (rotl32 (b ^^^ (c + (rotl32 (d ^^^ (a + b)) (16 : Int)))) (12 : Int)), rotl32 (b ^^^ (c + (rotl32 (d ^^^ (a + b)) (16 : Int)))) (12 : Int), (c + (rotl32 (d ^^^ (a + b)) (16 : Int))) + (rotl32 ((rotl32 (d ^^^ (a + b)) (16 : Int)) ^^^ ((a + b) + (rotl32 (b ^^^ (c + (rotl32 (d ^^^ (a + b)) (16 : Int)))) (12 : Int)))) (8 : Int)), rotl32 ((rotl32 (d ^^^ (a + b)) (16 : Int)) ^^^ ((a + b) + (rotl32 (b ^^^ (c + (rotl32 (d ^^^ (a + b)) (16 : Int)))) (12 : Int)))) (8 : Int)]) rfl u32_one ti55 rfl rfl hm33.h1 (by simp) (.inl (Nat.zero_le _))) ?_
 rintro _ w34 uq34
 have hm34 := hm33.upd1 uq34
 refine rw_nil (kThen_normal ?_)
 refine CW.abs (fun g => g 0 = (agg u32 ([a, b, c, d])) ∧ g 1 = (ptr b1 0) ∧ g 2 = (ptr b2 0) ∧ g 3 = (i64 3) ∧ g 4 = (i64 7) ∧ g 5 = (i64 2) ∧ g 6 = (i64 3) ∧ g 7 = (i64 1) ∧ g 8 = (agg i64 ([16, 12, 8, 7])) ∧ g 9 = (i64 3) ∧ g 10 = (bl true) ∧ g 15 = (bl true) ∧ True) ⟨s0, s1, s2, s3, s4, rfl, rfl, rfl, s8, s9, s10, s15, trivial⟩ ?_
 rintro fr35 ⟨s0, s1, s2, s3, s4, s5, s6, s7, s8, s9, s10, s15, _⟩
 refine cw_draw [(0, false), (1, false), (2, false), (3, false), (4, false), (5, false), (6, false), (7, false), (8, false), (9, false)] 10 (by kernel_rfl) <| dM rfl rfl s7 <| dM rfl rfl s7 <| dw_q rfl rfl (fun _ _hx => ev_ia_arr (r := 1) (i := 1) oM uT105 ti55 s1 rfl oM oM) <| dw_q (v := (u32 (rotl32 (b ^^^ (c + (rotl32 (d ^^^ (a + b)) (16 : Int)))) (12 : Int)))) rfl rfl (fun _ _hx => ev_load1 uT55 rfl rfl (hm34.ext _hx).h1 (get_clD _ _ 0 (by simp))) <| dM rfl rfl s5 ?_
 refine dw_q rfl rfl (fun _ _hx => ev_ia_arr (r := 2) (i := 2) oM uT105 ti55 s1 rfl oM oM) <| dw_q (v := (u32 ((c + (rotl32 (d ^^^ (a + b)) (16 : Int))) + (rotl32 ((rotl32 (d ^^^ (a + b)) (16 : Int)) ^^^ ((a + b) + (rotl32 (b ^^^ (c + (rotl32 (d ^^^ (a + b)) (16 : Int)))) (12 : Int)))) (8 : Int))))) rfl rfl (fun _ _hx => ev_load1 uT55 rfl rfl (hm34.ext _hx).h1 (get_clD _ _ 0 (by simp))) <| dw_q rfl rfl (fun _ _hx => ev_u32_xor rfl rfl) <| dM rfl rfl s4 <| dw_x (v := (u32 (rotl32 ((rotl32 (b ^^^ (c + (rotl32 (d ^^^ (a + b)) (16 : Int)))) (12 : Int)) ^^^ ((c + (rotl32 (d ^^^ (a + b)) (16 : Int))) + (rotl32 ((rotl32 (d ^^^ (a + b)) (16 : Int)) ^^^ ((a + b) + (rotl32 (b ^^^ (c + (rotl32 (d ^^^ (a + b)) (16 : Int)))) (12 : Int)))) (8 : Int)))) (7 : Int)))) rfl rfl (fun w36 _ew36 => OpR.mono (opR_call Tryd.func81 bd81 nm81 (args2 rfl rfl) (c_rotl32 ((rotl32 (b ^^^ (c + (rotl32 (d ^^^ (a + b)) (16 : Int)))) (12 : Int)) ^^^ ((c + (rotl32 (d ^^^ (a + b)) (16 : Int))) + (rotl32 ((rotl32 (d ^^^ (a + b)) (16 : Int)) ^^^ ((a + b) + (rotl32 (b ^^^ (c + (rotl32 (d ^^^ (a + b)) (16 : Int)))) (12 : Int)))) (8 : Int)))) (7 : Int) _)) (by rintro _ w37 ⟨rfl, rfl⟩; exact ⟨rfl, Ext.refl _⟩)) ?_
 refine dw_nil (fun w39 _ew39 => ?_)
 have hm39 := hm34.ext _ew39
 refine rw_q rfl (ev_ia_arr (r := 1) (i := 1) oM uT105 ti55 s1 rfl oM oM) <| rw_n (or_store_cl' (f := u32) (l' := [(a + b) + (rotl32 (b ^^^ (c + (rotl32 (d ^^^ (a + b)) (16 : Int)))) (12 : Int)), rotl32 ((rotl32 (b ^^^ (c + (rotl32 (d ^^^ (a + b)) (16 : Int)))) (12 : Int)) ^^^ ((c + (rotl32 (d ^^^ (a + b)) (16 : Int))) + (rotl32 ((rotl32 (d ^^^ (a + b)) (16 : Int)) ^^^ ((a + b) + (rotl32 (b ^^^ (c + (rotl32 (d ^^^ (a + b)) (16 : Int)))) (12 : Int)))) (8 : Int)))) (7 : Int), (c + (rotl32 (d ^^^ (a + b)) (16 : Int))) + (rotl32 ((rotl32 (d ^^^ (a + b)) (16 : Int)) ^^^ ((a + b) + (rotl32 (b ^^^ (c + (rotl32 (d ^^^ (a + b)) (16 : Int)))) (12 : Int)))) (8 : Int)), rotl32 ((rotl32 (d ^^^ (a + b)) (16 : Int)) ^^^ ((a + b) + (rotl32 (b ^^^ (c + (rotl32 (d ^^^ (a + b)) (16 : Int)))) (12 : Int)))) (8 : Int)]) rfl u32_one ti55 rfl rfl hm39.h1 (by simp) (.inl (Nat.zero_le _))) ?_
 rintro _ w40 uq40
 have hm40 := hm39.upd1 uq40
 refine rw_nil (kBlk_normal ?_)
 refine CW.abs (fun g => g 0 = (agg u32 ([a, b, c, d])) ∧ g 1 = (ptr b1 0) ∧ g 2 = (ptr b2 0) ∧ g 3 = (i64 3) ∧ g 4 = (i64 7) ∧ g 5 = (i64 2) ∧ g 6 = (i64 3) ∧ g 7 = (i64 1) ∧ g 8 = (agg i64 ([16, 12, 8, 7])) ∧ g 9 = (i64 3) ∧ g 10 = (bl true) ∧ g 15 = (bl true) ∧ True) ⟨s0, s1, s2, s3, s4, s5, s6, s7, s8, s9, s10, s15, trivial⟩ ?_
 rintro fr41 ⟨s0, s1, s2, s3, s4, s5, s6, s7, s8, s9, s10, s15, _⟩
 refine cw_region <| rw_q (v := (i64 4)) rfl (ev_i64_add (a := 3) (b := 1) s9 rfl oM oM) <| rw_q rfl (ev_move (v := (i64 4)) rfl) ?_
 refine rw_nil (kThen_normal (cr_succ (cw_seq (cw_region ?_))))
 refine rw_q rfl (ev_i64_lss (a := 4) (b := 4) rfl rfl) ?_
 refine rw_nil (kThen_normal (cw_seq ?_))
 refine cw_cond_f rfl (by decide) <| cw_exit ?_
 refine kThen_exit (kThen_exit (kBlk_hit ?_))
 refine cw_seq (cw_region ?_)
 refine rw_q rfl (ev_loadA uT105 rfl ti105 s1 hm40.h1 sZ) <| rw_n (or_store_agg (f := u32) (l := [(a + b) + (rotl32 (b ^^^ (c + (rotl32 (d ^^^ (a + b)) (16 : Int)))) (12 : Int)), rotl32 ((rotl32 (b ^^^ (c + (rotl32 (d ^^^ (a + b)) (16 : Int)))) (12 : Int)) ^^^ ((c + (rotl32 (d ^^^ (a + b)) (16 : Int))) + (rotl32 ((rotl32 (d ^^^ (a + b)) (16 : Int)) ^^^ ((a + b) + (rotl32 (b ^^^ (c + (rotl32 (d ^^^ (a + b)) (16 : Int)))) (12 : Int)))) (8 : Int)))) (7 : Int), (c + (rotl32 (d ^^^ (a + b)) (16 : Int))) + (rotl32 ((rotl32 (d ^^^ (a + b)) (16 : Int)) ^^^ ((a + b) + (rotl32 (b ^^^ (c + (rotl32 (d ^^^ (a + b)) (16 : Int)))) (12 : Int)))) (8 : Int)), rotl32 ((rotl32 (d ^^^ (a + b)) (16 : Int)) ^^^ ((a + b) + (rotl32 (b ^^^ (c + (rotl32 (d ^^^ (a + b)) (16 : Int)))) (12 : Int)))) (8 : Int)]) u32_one ti105 s2 rfl sD hm40.h0 sZ rfl) ?_
 rintro _ w42 uq42
 have hm42 := hm40.upd0 uq42
 refine rw_nil (kThen_normal (cw_ret ?_))
 refine fnPost_ret [(agg u32 ([(a + b) + (rotl32 (b ^^^ (c + (rotl32 (d ^^^ (a + b)) (16 : Int)))) (12 : Int)), rotl32 ((rotl32 (b ^^^ (c + (rotl32 (d ^^^ (a + b)) (16 : Int)))) (12 : Int)) ^^^ ((c + (rotl32 (d ^^^ (a + b)) (16 : Int))) + (rotl32 ((rotl32 (d ^^^ (a + b)) (16 : Int)) ^^^ ((a + b) + (rotl32 (b ^^^ (c + (rotl32 (d ^^^ (a + b)) (16 : Int)))) (12 : Int)))) (8 : Int)))) (7 : Int), (c + (rotl32 (d ^^^ (a + b)) (16 : Int))) + (rotl32 ((rotl32 (d ^^^ (a + b)) (16 : Int)) ^^^ ((a + b) + (rotl32 (b ^^^ (c + (rotl32 (d ^^^ (a + b)) (16 : Int)))) (12 : Int)))) (8 : Int)), rotl32 ((rotl32 (d ^^^ (a + b)) (16 : Int)) ^^^ ((a + b) + (rotl32 (b ^^^ (c + (rotl32 (d ^^^ (a + b)) (16 : Int)))) (12 : Int)))) (8 : Int)]))] ⟨⟨_, s2, loadVar_run uT105 rfl ti105 hm42.h0 sZ⟩, trivial⟩ ?_
 exact ⟨rfl, hm42.toExt⟩

theorem c_quarter3 (a b c d : BitVec 32) (w0 : World)   : CallsR Tryd.prog 68 #[(agg u32 ([a, b, c, d]))] w0 (fun r w1 => r = (agg u32 (quarterL left3 a b c d)) ∧ Ext w0 w1) := by
 refine callsR_of_cw (args := [(agg u32 ([a, b, c, d]))]) Tryd.func68 rfl Tryd.ntmps68 Tryd.results68 rfl ?_
 have hm0 : Mem w0 (restOf w0) [] := Mem.of_world w0
 refine cw_seq (cw_region ?_)
 refine rw_c rfl (or_box_agg (f := u32) (l := [a, b, c, d]) hm0 rfl) ?_
 rintro _ w1 ⟨b1, rfl, _ew1, hm1⟩
 refine rw_c rfl (or_alloc_agg hm1 ti105) ?_
 rintro _ w2 ⟨b2, rfl, _ew2, hm2⟩
 refine rw_nil (kThen_normal (cw_seq ?_))
 refine cw_draw [(0, false), (1, false), (2, false), (3, false), (4, false), (5, false), (6, false), (7, false), (8, false), (9, false), (10, false)] 11 (by kernel_rfl) <| dw_q rfl rfl (fun _ _hx => ev_ia_arr (r := 0) (i := 0) oM uT105 ti55 rfl rfl oM oM) <| dw_q (v := (u32 a)) rfl rfl (fun _ _hx => ev_load1 uT55 rfl rfl (hm2.ext _hx).h1 (get_clD _ _ 0 (by simp))) <| dw_q rfl rfl (fun _ _hx => ev_ia_arr (r := 1) (i := 1) oM uT105 ti55 rfl rfl oM oM) <| dw_q (v := (u32 b)) rfl rfl (fun _ _hx => ev_load1 uT55 rfl rfl (hm2.ext _hx).h1 (get_clD _ _ 0 (by simp))) <| dw_q rfl rfl (fun _ _hx => ev_ia_arr (r := 2) (i := 2) oM uT105 ti55 rfl rfl oM oM) ?_
 refine dw_q (v := (u32 c)) rfl rfl (fun _ _hx => ev_load1 uT55 rfl rfl (hm2.ext _hx).h1 (get_clD _ _ 0 (by simp))) <| dw_q rfl rfl (fun _ _hx => ev_ia_arr (r := 3) (i := 3) oM uT105 ti55 rfl rfl oM oM) <| dw_q (v := (u32 d)) rfl rfl (fun _ _hx => ev_load1 uT55 rfl rfl (hm2.ext _hx).h1 (get_clD _ _ 0 (by simp))) <| dw_q rfl rfl (fun _ _hx => ev_assign (v := (u32 a)) rfl) <| dw_q rfl rfl (fun _ _hx => ev_assign (v := (u32 b)) rfl) <| dw_q rfl rfl (fun _ _hx => ev_assign (v := (u32 c)) rfl) ?_
 refine dw_nil (fun w3 _ew3 => ?_)
 have hm3 := hm2.ext _ew3
 refine rw_q rfl (ev_assign (v := (u32 d)) rfl) ?_
 refine rw_nil (kThen_normal ?_)
 refine CW.abs (fun g => g 0 = (agg u32 ([a, b, c, d])) ∧ g 1 = (ptr b1 0) ∧ g 2 = (ptr b2 0) ∧ g 3 = (u32 a) ∧ g 4 = (u32 b) ∧ g 5 = (u32 c) ∧ g 6 = (u32 d) ∧ True) ⟨rfl, rfl, rfl, rfl, rfl, rfl, rfl, trivial⟩ ?_
 rintro fr4 ⟨s0, s1, s2, s3, s4, s5, s6, _⟩
 refine cw_seq (cw_region ?_)
 refine rM rfl s3 <| rM rfl s4 <| rw_q rfl (ev_u32_add rfl rfl) <| rw_q rfl (ev_assign (v := (u32 (a + b))) rfl) ?_
 refine rw_nil (kThen_normal (cw_seq (cw_region ?_)))
 refine rM rfl s6 <| rw_q rfl (ev_move (v := (u32 (a + b))) rfl) <| rw_q rfl (ev_u32_xor rfl rfl) <| rw_c rfl (opR_call Tryd.func82 bd82 nm82 (args2 rfl rfl) (c_left3 (d ^^^ (a + b)) (16 : Int) _ sD sD)) ?_
 rintro _ w5 ⟨rfl, _ew5⟩
 have hm5 := hm3.ext _ew5
 refine rw_q rfl (ev_assign (v := (u32 (left3 (d ^^^ (a + b)) (16 : Int)))) rfl) ?_
 refine rw_nil (kThen_normal (cw_seq (cw_region ?_)))
 refine rM rfl s5 <| rw_q rfl (ev_move (v := (u32 (left3 (d ^^^ (a + b)) (16 : Int)))) rfl) <| rw_q rfl (ev_u32_add rfl rfl) <| rw_q rfl (ev_assign (v := (u32 (c + (left3 (d ^^^ (a + b)) (16 : Int))))) rfl) ?_
 refine rw_nil (kThen_normal ?_)
 refine CW.abs (fun g => g 0 = (agg u32 ([a, b, c, d])) ∧ g 1 = (ptr b1 0) ∧ g 2 = (ptr b2 0) ∧ g 3 = (u32 (a + b)) ∧ g 4 = (u32 b) ∧ g 5 = (u32 (c + (left3 (d ^^^ (a + b)) (16 : Int)))) ∧ g 6 = (u32 (left3 (d ^^^ (a + b)) (16 : Int))) ∧ True) ⟨s0, s1, s2, rfl, s4, rfl, rfl, trivial⟩ ?_
 rintro fr7 ⟨s0, s1, s2, s3, s4, s5, s6, _⟩
 refine cw_seq (cw_region ?_)
 refine rM rfl s4 <| rM rfl s5 <| rw_q rfl (ev_u32_xor rfl rfl) <| rw_c rfl (opR_call Tryd.func82 bd82 nm82 (args2 rfl rfl) (c_left3 (b ^^^ (c + (left3 (d ^^^ (a + b)) (16 : Int)))) (12 : Int) _ sD sD)) ?_
 rintro _ w8 ⟨rfl, _ew8⟩
 have hm8 := hm5.ext _ew8
 refine rw_q rfl (ev_assign (v := (u32 (left3 (b ^^^ (c + (left3 (d ^^^ (a + b)) (16 : Int)))) (12 : Int)))) rfl) ?_
 refine rw_nil (kThen_normal (cw_seq (cw_region ?_)))
 refine rM rfl s3 <| rw_q rfl (ev_move (v := (u32 (left3 (b ^^^ (c + (left3 (d ^^^ (a + b)) (16 : Int)))) (12 : Int)))) rfl) <| rw_q rfl (ev_u32_add rfl rfl) <| rA rfl rfl ?_
 refine rw_nil (kThen_normal (cw_seq (cw_region ?_)))
 refine rM rfl s6 <| rM rfl rfl <| rw_q rfl (ev_u32_xor rfl rfl) <| rw_c rfl (opR_call Tryd.func82 bd82 nm82 (args2 rfl rfl) (c_left3 ((left3 (d ^^^ (a + b)) (16 : Int)) ^^^ ((a + b) + (left3 (b ^^^ (c + (left3 (d ^^^ (a + b)) (16 : Int)))) (12 : Int)))) (8 : Int) _ sD sD)) ?_
 rintro _ w10 ⟨rfl, _ew10⟩
 have hm10 := hm8.ext _ew10
 refine rA rfl rfl ?_
 refine rw_nil (kThen_normal ?_)
 refine CW.abs (fun g => g 0 = (agg u32 ([a, b, c, d])) ∧ g 1 = (ptr b1 0) ∧ g 2 = (ptr b2 0) ∧ g 3 = (u32 ((a + b) + (left3 (b ^^^ (c + (left3 (d ^^^ (a + b)) (16 : Int)))) (12 : Int)))) ∧ g 4 = (u32 (left3 (b ^^^ (c + (left3 (d ^^^ (a + b)) (16 : Int)))) (12 : Int))) ∧ g 5 = (u32 (c + (left3 (d ^^^ (a + b)) (16 : Int)))) ∧ g 6 = (u32 (left3 ((left3 (d ^^^ (a + b)) (16 : Int)) ^^^ ((a + b) + (left3 (b ^^^ (c + (left3 (d ^^^ (a + b)) (16 : Int)))) (12 : Int)))) (8 : Int))) ∧ True) ⟨s0, s1, s2, rfl, rfl, s5, rfl, trivial⟩ ?_
 rintro fr12 ⟨s0, s1, s2, s3, s4, s5, s6, _⟩
 refine cw_seq (cw_region ?_)
 refine rM rfl s5 <| rM rfl s6 <| rw_q rfl (ev_u32_add rfl rfl) <| rA rfl rfl ?_
 refine rw_nil (kThen_normal (cw_seq (cw_region ?_)))
 refine rM rfl s4 <| rM rfl rfl <| rw_q rfl (ev_u32_xor rfl rfl) <| rw_c rfl (opR_call Tryd.func82 bd82 nm82 (args2 rfl rfl) (c_left3 ((left3 (b ^^^ (c + (left3 (d ^^^ (a + b)) (16 : Int)))) (12 : Int)) ^^^ ((c + (left3 (d ^^^ (a + b)) (16 : Int))) + (left3 ((left3 (d ^^^ (a + b)) (16 : Int)) ^^^ ((a + b) + (left3 (b ^^^ (c + (left3 (d ^^^ (a + b)) (16 : Int)))) (12 : Int)))) (8 : Int)))) (7 : Int) _ sD sD)) ?_
 rintro _ w13 ⟨rfl, _ew13⟩
 have hm13 := hm10.ext _ew13
 refine rA rfl rfl ?_
 refine rw_nil (kThen_normal (cw_seq (cw_region ?_)))
 refine rM rfl s3 <| rM rfl rfl <| rM rfl rfl <| rM rfl s6 <| rw_q rfl (ev_build_cl u32 [(a + b) + (left3 (b ^^^ (c + (left3 (d ^^^ (a + b)) (16 : Int)))) (12 : Int)), left3 ((left3 (b ^^^ (c + (left3 (d ^^^ (a + b)) (16 : Int)))) (12 : Int)) ^^^ ((c + (left3 (d ^^^ (a + b)) (16 : Int))) + (left3 ((left3 (d ^^^ (a + b)) (16 : Int)) ^^^ ((a + b) + (left3 (b ^^^ (c + (left3 (d ^^^ (a + b)) (16 : Int)))) (12 : Int)))) (8 : Int)))) (7 : Int), (c + (left3 (d ^^^ (a + b)) (16 : Int))) + (left3 ((left3 (d ^^^ (a + b)) (16 : Int)) ^^^ ((a + b) + (left3 (b ^^^ (c + (left3 (d ^^^ (a + b)) (16 : Int)))) (12 : Int)))) (8 : Int)), left3 ((left3 (d ^^^ (a + b)) (16 : Int)) ^^^ ((a + b) + (left3 (b ^^^ (c + (left3 (d ^^^ (a + b)) (16 : Int)))) (12 : Int)))) (8 : Int)] u32_one ti105 uT105 ti55 rfl rfl) <| rw_n (or_store_agg (f := u32) (l := [(a + b) + (left3 (b ^^^ (c + (left3 (d ^^^ (a + b)) (16 : Int)))) (12 : Int)), left3 ((left3 (b ^^^ (c + (left3 (d ^^^ (a + b)) (16 : Int)))) (12 : Int)) ^^^ ((c + (left3 (d ^^^ (a + b)) (16 : Int))) + (left3 ((left3 (d ^^^ (a + b)) (16 : Int)) ^^^ ((a + b) + (left3 (b ^^^ (c + (left3 (d ^^^ (a + b)) (16 : Int)))) (12 : Int)))) (8 : Int)))) (7 : Int), (c + (left3 (d ^^^ (a + b)) (16 : Int))) + (left3 ((left3 (d ^^^ (a + b)) (16 : Int)) ^^^ ((a + b) + (left3 (b ^^^ (c + (left3 (d ^^^ (a + b)) (16 : Int)))) (12 : Int)))) (8 : Int)), left3 ((left3 (d ^^^ (a + b)) (16 : Int)) ^^^ ((a + b) + (left3 (b ^^^ (c + (left3 (d ^^^ (a + b)) (16 : Int)))) (12 : Int)))) (8 : Int)]) u32_one ti105 s2 rfl sD hm13.h0 sZ rfl) ?_
 rintro _ w15 uq15
 have hm15 := hm13.upd0 uq15
 refine rw_nil (kThen_normal ?_)
 refine CW.abs (fun g => g 0 = (agg u32 ([a, b, c, d])) ∧ g 1 = (ptr b1 0) ∧ g 2 = (ptr b2 0) ∧ g 3 = (u32 ((a + b) + (left3 (b ^^^ (c + (left3 (d ^^^ (a + b)) (16 : Int)))) (12 : Int)))) ∧ g 4 = (u32 (left3 ((left3 (b ^^^ (c + (left3 (d ^^^ (a + b)) (16 : Int)))) (12 : Int)) ^^^ ((c + (left3 (d ^^^ (a + b)) (16 : Int))) + (left3 ((left3 (d ^^^ (a + b)) (16 : Int)) ^^^ ((a + b) + (left3 (b ^^^ (c + (left3 (d ^^^ (a + b)) (16 : Int)))) (12 : Int)))) (8 : Int)))) (7 : Int))) ∧ g 5 = (u32 ((c + (left3 (d ^^^ (a + b)) (16 : Int))) + (left3 ((left3 (d ^^^ (a + b)) (16 : Int)) ^^^ ((a + b) + (left3 (b ^^^ (c + (left3 (d ^^^ (a + b)) (16 : Int)))) (12 : Int)))) (8 : Int)))) ∧ g 6 = (u32 (left3 ((left3 (d ^^^ (a + b)) (16 : Int)) ^^^ ((a + b) + (left3 (b ^^^ (c + (left3 (d ^^^ (a + b)) (16 : Int)))) (12 : Int)))) (8 : Int))) ∧ True) ⟨s0, s1, s2, s3, rfl, rfl, s6, trivial⟩ ?_
 rintro fr16 ⟨s0, s1, s2, s3, s4, s5, s6, _⟩
 refine cw_ret <| fnPost_ret [(agg u32 ([(a + b) + (left3 (b ^^^ (c + (left3 (d ^^^ (a + b)) (16 : Int)))) (12 : Int)), left3 ((left3 (b ^^^ (c + (left3 (d ^^^ (a + b)) (16 : Int)))) (12 : Int)) ^^^ ((c + (left3 (d ^^^ (a + b)) (16 : Int))) + (left3 ((left3 (d ^^^ (a + b)) (16 : Int)) ^^^ ((a + b) + (left3 (b ^^^ (c + (left3 (d ^^^ (a + b)) (16 : Int)))) (12 : Int)))) (8 : Int)))) (7 : Int), (c + (left3 (d ^^^ (a + b)) (16 : Int))) + (left3 ((left3 (d ^^^ (a + b)) (16 : Int)) ^^^ ((a + b) + (left3 (b ^^^ (c + (left3 (d ^^^ (a + b)) (16 : Int)))) (12 : Int)))) (8 : Int)), left3 ((left3 (d ^^^ (a + b)) (16 : Int)) ^^^ ((a + b) + (left3 (b ^^^ (c + (left3 (d ^^^ (a + b)) (16 : Int)))) (12 : Int)))) (8 : Int)]))] ⟨⟨_, s2, loadVar_run uT105 rfl ti105 hm15.h0 sZ⟩, trivial⟩ ?_
 exact ⟨rfl, hm15.toExt⟩

theorem c_word (v : Value) (l : List (BitVec 8)) (w0 : World)  (hr : Rd (blks w0) u8 v l) (hl : 4 ≤ l.length) : CallsR Tryd.prog 78 #[v] w0 (fun r w1 => r = (u32 (wordPL l)) ∧ Ext w0 w1) := by
 refine callsR_of_cw (args := [v]) Tryd.func78 rfl Tryd.ntmps78 Tryd.results78 rfl ?_
 have hm0 : Mem w0 (restOf w0) [] := Mem.of_world w0
 obtain ⟨a, b, c, d, r, rfl⟩ := list4r l hl
 refine cw_seq (cw_region ?_)
 refine rw_q rfl (ev_assign (v := (u32 0#32)) rfl) ?_
 refine rw_nil (kThen_normal (cw_seq (cw_seq (cw_region ?_))))
 refine rM rfl (v := v) rfl <| rw_q rfl (ev_slice_rd (i := 0) (j := 4) (hr.ext hm0.toExt) uT26 ti5 rfl (optI_none _ _) (optI_some (k := .i64) (i := 4) rfl) oM oM (by simp only [List.length_cons]; omega)) <| rw_q (v := (i64 4)) rfl (ev_len_rd (Rd.cast (l' := [a, b, c, d]) (Rd.sub (hr.ext hm0.toExt) oM oM (by simp only [List.length_cons]; omega)) rfl) uT26 rfl) <| rw_q rfl (ev_move (v := (i64 0)) rfl) ?_
 refine rw_nil (kThen_normal (cw_block ?_))
 refine cw_rounds 5 ?_
 refine cr_succ (cw_seq (cw_region ?_))
 refine rw_q rfl (ev_i64_lss (a := 0) (b := 4) rfl rfl) ?_
 refine rw_nil (kThen_normal (cw_seq ?_))
 refine cw_cond_t rfl (by decide) ?_
 refine cw_skip (kThen_normal (cw_seq (cw_block (cw_seq (cw_region ?_)))))
 refine rw_q rfl (ev_move (v := (i64 0)) rfl) <| rw_q rfl (ev_indexAddr_rdv (i := 0) (Rd.cast (l' := [a, b, c, d]) (Rd.sub (hr.ext hm0.toExt) oM oM (by simp only [List.length_cons]; omega)) rfl) uT26 ti5 rfl rfl oM (by simp)) <| rw_q (v := (u8 a)) rfl (ev_load_rdD (l := [a, b, c, d]) (i := 0) (dflt := 0) (Rd.cast (l' := [a, b, c, d]) (Rd.sub (hr.ext hm0.toExt) oM oM (by simp only [List.length_cons]; omega)) rfl) uT5 rfl oM (by simp) rfl) <| rw_q rfl (ev_assign (v := (i64 0)) rfl) <| rw_q rfl (ev_assign (v := (u8 a)) rfl) ?_
 refine rw_nil (kThen_normal ?_)
 refine CW.abs (fun g => g 0 = v ∧ g 2 = (u32 0#32) ∧ g 3 = (i64 0) ∧ g 4 = (u8 a) ∧ g 6 = (subv v 0 4) ∧ g 7 = (i64 4) ∧ g 8 = (i64 0) ∧ g 9 = (bl true) ∧ True) ⟨rfl, rfl, rfl, rfl, rfl, rfl, rfl, rfl, trivial⟩ ?_
 rintro fr1 ⟨s0, s2, s3, s4, s6, s7, s8, s9, _⟩
 refine cw_region <| rM rfl s2 <| rM rfl s4 <| rw_q rfl (ev_conv_u8_u32 ⟨_, uT5⟩ uT55 rfl) <| rM rfl s3 <| rw_q (v := (i64 0)) rfl (ev_i64_mul (a := 8) (b := 0) rfl rfl oM oM) ?_
 refine rw_q rfl (ev_u32_shl (b := 0) rfl rfl oM) <| rw_q rfl (ev_u32_or (a := 0#32) rfl rfl) <| rw_q rfl (ev_assign (v := (u32 (0#32 ||| ((a.setWidth 32) <<< 0)))) rfl) ?_
 refine rw_nil (kBlk_normal (cw_region ?_))
 refine rw_q (v := (i64 1)) rfl (ev_i64_add (a := 0) (b := 1) s8 rfl oM oM) <| rw_q rfl (ev_move (v := (i64 1)) rfl) ?_
 refine rw_nil (kThen_normal (cr_succ (cw_seq (cw_region ?_))))
 refine rw_q rfl (ev_i64_lss (a := 1) (b := 4) rfl s7) ?_
 refine rw_nil (kThen_normal ?_)
 refine CW.abs (fun g => g 0 = v ∧ g 2 = (u32 (0#32 ||| ((a.setWidth 32) <<< 0))) ∧ g 3 = (i64 0) ∧ g 4 = (u8 a) ∧ g 6 = (subv v 0 4) ∧ g 7 = (i64 4) ∧ g 8 = (i64 1) ∧ g 9 = (bl true) ∧ True) ⟨s0, rfl, s3, s4, s6, s7, rfl, rfl, trivial⟩ ?_
 rintro fr2 ⟨s0, s2, s3, s4, s6, s7, s8, s9, _⟩
 refine cw_seq <| cw_cond_t s9 (by decide) ?_
 refine cw_skip (kThen_normal (cw_seq (cw_block (cw_seq (cw_region ?_)))))
 refine rM rfl s8 <| rw_q rfl (ev_indexAddr_rdv (i := 1) (Rd.cast (l' := [a, b, c, d]) (Rd.sub (hr.ext hm0.toExt) oM oM (by simp only [List.length_cons]; omega)) rfl) uT26 ti5 s6 s8 oM (by simp)) <| rw_q (v := (u8 b)) rfl (ev_load_rdD (l := [a, b, c, d]) (i := 1) (dflt := 0) (Rd.cast (l' := [a, b, c, d]) (Rd.sub (hr.ext hm0.toExt) oM oM (by simp only [List.length_cons]; omega)) rfl) uT5 rfl oM (by simp) rfl) <| rw_q rfl (ev_assign (v := (i64 1)) rfl) <| rw_q rfl (ev_assign (v := (u8 b)) rfl) ?_
 refine rw_nil (kThen_normal (cw_region ?_))
 refine rM rfl s2 <| rw_q rfl (ev_move (v := (u8 b)) rfl) <| rw_q rfl (ev_conv_u8_u32 ⟨_, uT5⟩ uT55 rfl) <| rw_q rfl (ev_move (v := (i64 1)) rfl) <| rw_q (v := (i64 8)) rfl (ev_i64_mul (a := 8) (b := 1) rfl rfl oM oM) <| rw_q rfl (ev_u32_shl (b := 8) rfl rfl oM) ?_
 refine rw_q rfl (ev_u32_or rfl rfl) <| rw_q rfl (ev_assign (v := (u32 ((0#32 ||| ((a.setWidth 32) <<< 0)) ||| ((b.setWidth 32) <<< 8)))) rfl) ?_
 refine rw_nil (kBlk_normal ?_)
 refine CW.abs (fun g => g 0 = v ∧ g 2 = (u32 ((0#32 ||| ((a.setWidth 32) <<< 0)) ||| ((b.setWidth 32) <<< 8))) ∧ g 3 = (i64 1) ∧ g 4 = (u8 b) ∧ g 6 = (subv v 0 4) ∧ g 7 = (i64 4) ∧ g 8 = (i64 1) ∧ g 9 = (bl true) ∧ True) ⟨s0, rfl, rfl, rfl, s6, s7, s8, s9, trivial⟩ ?_
 rintro fr3 ⟨s0, s2, s3, s4, s6, s7, s8, s9, _⟩
 refine cw_region <| rw_q (v := (i64 2)) rfl (ev_i64_add (a := 1) (b := 1) s8 rfl oM oM) <| rw_q rfl (ev_move (v := (i64 2)) rfl) ?_
 refine rw_nil (kThen_normal (cr_succ (cw_seq (cw_region ?_))))
 refine rw_q rfl (ev_i64_lss (a := 2) (b := 4) rfl s7) ?_
 refine rw_nil (kThen_normal (cw_seq ?_))
 refine cw_cond_t rfl (by decide) ?_
 refine cw_skip (kThen_normal (cw_seq (cw_block (cw_seq (cw_region ?_)))))
 refine rw_q rfl (ev_move (v := (i64 2)) rfl) <| rw_q rfl (ev_indexAddr_rdv (i := 2) (Rd.cast (l' := [a, b, c, d]) (Rd.sub (hr.ext hm0.toExt) oM oM (by simp only [List.length_cons]; omega)) rfl) uT26 ti5 s6 rfl oM (by simp)) <| rw_q (v := (u8 c)) rfl (ev_load_rdD (l := [a, b, c, d]) (i := 2) (dflt := 0) (Rd.cast (l' := [a, b, c, d]) (Rd.sub (hr.ext hm0.toExt) oM oM (by simp only [List.length_cons]; omega)) rfl) uT5 rfl oM (by simp) rfl) <| rw_q rfl (ev_assign (v := (i64 2)) rfl) <| rw_q rfl (ev_assign (v := (u8 c)) rfl) ?_
 refine rw_nil (kThen_normal (cw_region ?_))
 refine rM rfl s2 <| rw_q rfl (ev_move (v := (u8 c)) rfl) <| rw_q rfl (ev_conv_u8_u32 ⟨_, uT5⟩ uT55 rfl) <| rw_q rfl (ev_move (v := (i64 2)) rfl) <| rw_q (v := (i64 16)) rfl (ev_i64_mul (a := 8) (b := 2) rfl rfl oM oM) <| rw_q rfl (ev_u32_shl (b := 16) rfl rfl oM) ?_
 refine rw_q rfl (ev_u32_or rfl rfl) <| rA rfl rfl ?_
 refine rw_nil (kBlk_normal ?_)
 refine CW.abs (fun g => g 0 = v ∧ g 2 = (u32 (((0#32 ||| ((a.setWidth 32) <<< 0)) ||| ((b.setWidth 32) <<< 8)) ||| ((c.setWidth 32) <<< 16))) ∧ g 3 = (i64 2) ∧ g 4 = (u8 c) ∧ g 6 = (subv v 0 4) ∧ g 7 = (i64 4) ∧ g 8 = (i64 2) ∧ g 9 = (bl true) ∧ True) ⟨s0, rfl, rfl, rfl, s6, s7, rfl, rfl, trivial⟩ ?_
 rintro fr4 ⟨s0, s2, s3, s4, s6, s7, s8, s9, _⟩
 refine cw_region <| rw_q (v := (i64 3)) rfl (ev_i64_add (a := 2) (b := 1) s8 rfl oM oM) <| rw_q rfl (ev_move (v := (i64 3)) rfl) ?_
 refine rw_nil (kThen_normal (cr_succ (cw_seq (cw_region ?_))))
 refine rw_q rfl (ev_i64_lss (a := 3) (b := 4) rfl s7) ?_
 refine rw_nil (kThen_normal (cw_seq ?_))
 refine cw_cond_t rfl (by decide) ?_
 refine cw_skip (kThen_normal (cw_seq (cw_block (cw_seq (cw_region ?_)))))
 refine rw_q rfl (ev_move (v := (i64 3)) rfl) <| rw_q rfl (ev_indexAddr_rdv (i := 3) (Rd.cast (l' := [a, b, c, d]) (Rd.sub (hr.ext hm0.toExt) oM oM (by simp only [List.length_cons]; omega)) rfl) uT26 ti5 s6 rfl oM (by simp)) <| rw_q (v := (u8 d)) rfl (ev_load_rdD (l := [a, b, c, d]) (i := 3) (dflt := 0) (Rd.cast (l' := [a, b, c, d]) (Rd.sub (hr.ext hm0.toExt) oM oM (by simp only [List.length_cons]; omega)) rfl) uT5 rfl oM (by simp) rfl) <| rw_q rfl (ev_assign (v := (i64 3)) rfl) <| rw_q rfl (ev_assign (v := (u8 d)) rfl) ?_
 refine rw_nil (kThen_normal (cw_region ?_))
 refine rM rfl s2 <| rw_q rfl (ev_move (v := (u8 d)) rfl) <| rw_q rfl (ev_conv_u8_u32 ⟨_, uT5⟩ uT55 rfl) <| rw_q rfl (ev_move (v := (i64 3)) rfl) <| rw_q (v := (i64 24)) rfl (ev_i64_mul (a := 8) (b := 3) rfl rfl oM oM) <| rw_q rfl (ev_u32_shl (b := 24) rfl rfl oM) ?_
 refine rw_q rfl (ev_u32_or rfl rfl) <| rA rfl rfl ?_
 refine rw_nil (kBlk_normal ?_)
 refine CW.abs (fun g => g 0 = v ∧ g 2 = (u32 ((((0#32 ||| ((a.setWidth 32) <<< 0)) ||| ((b.setWidth 32) <<< 8)) ||| ((c.setWidth 32) <<< 16)) ||| ((d.setWidth 32) <<< 24))) ∧ g 3 = (i64 3) ∧ g 4 = (u8 d) ∧ g 6 = (subv v 0 4) ∧ g 7 = (i64 4) ∧ g 8 = (i64 3) ∧ g 9 = (bl true) ∧ True) ⟨s0, rfl, rfl, rfl, s6, s7, rfl, rfl, trivial⟩ ?_
 rintro fr5 ⟨s0, s2, s3, s4, s6, s7, s8, s9, _⟩
 refine cw_region <| rw_q (v := (i64 4)) rfl (ev_i64_add (a := 3) (b := 1) s8 rfl oM oM) <| rw_q rfl (ev_move (v := (i64 4)) rfl) ?_
 refine rw_nil (kThen_normal (cr_succ (cw_seq (cw_region ?_))))
 refine rw_q rfl (ev_i64_lss (a := 4) (b := 4) rfl s7) ?_
 refine rw_nil (kThen_normal (cw_seq ?_))
 refine cw_cond_f rfl (by decide) <| cw_exit ?_
 refine kThen_exit (kThen_exit (kBlk_hit ?_))
 refine cw_seq (cw_region ?_)
 refine rM rfl s2 <| rA rfl rfl ?_
 refine rw_nil (kThen_normal (cw_ret ?_))
 refine fnPost_ret [(u32 ((((0#32 ||| ((a.setWidth 32) <<< 0)) ||| ((b.setWidth 32) <<< 8)) ||| ((c.setWidth 32) <<< 16)) ||| ((d.setWidth 32) <<< 24)))] ⟨rfl, trivial⟩ ?_
 exact ⟨rfl, hm0.toExt⟩

theorem c_word3 (v : Value) (l : List (BitVec 8)) (w0 : World)  (hr : Rd (blks w0) u8 v l) (hl : 4 ≤ l.length) : CallsR Tryd.prog 66 #[v] w0 (fun r w1 => r = (u32 (wordRL l)) ∧ Ext w0 w1) := by
 refine callsR_of_cw (args := [v]) Tryd.func66 rfl Tryd.ntmps66 Tryd.results66 rfl ?_
 have hm0 : Mem w0 (restOf w0) [] := Mem.of_world w0
 refine cw_seq (cw_region ?_)
 refine rw_q rfl (ev_assign (v := (u32 0#32)) rfl) ?_
 refine rw_nil (kThen_normal (cw_seq ?_))
 refine cw_draw [(0, false), (1, false), (2, false), (3, false), (4, false), (5, false), (6, false), (7, false), (8, false), (9, false), (10, false), (11, false), (12, false), (13, false), (14, false), (15, false), (16, false), (17, false), (18, false), (19, false), (20, false)] 21 (by kernel_rfl) <| dM rfl rfl (v := v) rfl <| dw_q rfl rfl (fun _ _hx => ev_indexAddr_rdv (i := 0) (Rd.ofRest hr (hm0.ext _hx)) uT26 ti5 rfl rfl oM sD) <| dw_q (v := (u8 (l.getD 0 0))) rfl rfl (fun _ _hx => ev_load_rdD (l := l) (i := 0) (dflt := 0) (Rd.ofRest hr (hm0.ext _hx)) uT5 rfl oM sD rfl) <| dw_q rfl rfl (fun _ _hx => ev_conv_u8_u32 ⟨_, uT5⟩ uT55 rfl) <| dM rfl rfl (v := v) rfl ?_
 refine dw_q rfl rfl (fun _ _hx => ev_indexAddr_rdv (i := 1) (Rd.ofRest hr (hm0.ext _hx)) uT26 ti5 rfl rfl oM sD) <| dw_q (v := (u8 (l.getD 1 0))) rfl rfl (fun _ _hx => ev_load_rdD (l := l) (i := 1) (dflt := 0) (Rd.ofRest hr (hm0.ext _hx)) uT5 rfl oM sD rfl) <| dw_q rfl rfl (fun _ _hx => ev_conv_u8_u32 ⟨_, uT5⟩ uT55 rfl) <| dw_q rfl rfl (fun _ _hx => ev_u32_mul (b := 256#32) rfl rfl) <| dw_q rfl rfl (fun _ _hx => ev_u32_add rfl rfl) <| dM rfl rfl (v := v) rfl ?_
 refine dw_q rfl rfl (fun _ _hx => ev_indexAddr_rdv (i := 2) (Rd.ofRest hr (hm0.ext _hx)) uT26 ti5 rfl rfl oM sD) <| dw_q (v := (u8 (l.getD 2 0))) rfl rfl (fun _ _hx => ev_load_rdD (l := l) (i := 2) (dflt := 0) (Rd.ofRest hr (hm0.ext _hx)) uT5 rfl oM sD rfl) <| dw_q rfl rfl (fun _ _hx => ev_conv_u8_u32 ⟨_, uT5⟩ uT55 rfl) <| dw_q rfl rfl (fun _ _hx => ev_u32_mul (b := 65536#32) rfl rfl) <| dw_q rfl rfl (fun _ _hx => ev_u32_add rfl rfl) <| dM rfl rfl (v := v) rfl ?_
 refine dw_q rfl rfl (fun _ _hx => ev_indexAddr_rdv (i := 3) (Rd.ofRest hr (hm0.ext _hx)) uT26 ti5 rfl rfl oM sD) <| dw_q (v := (u8 (l.getD 3 0))) rfl rfl (fun _ _hx => ev_load_rdD (l := l) (i := 3) (dflt := 0) (Rd.ofRest hr (hm0.ext _hx)) uT5 rfl oM sD rfl) <| dw_q rfl rfl (fun _ _hx => ev_conv_u8_u32 ⟨_, uT5⟩ uT55 rfl) <| dw_q rfl rfl (fun _ _hx => ev_u32_mul (b := 16777216#32) rfl rfl) ?_
 refine dw_nil (fun w1 _ew1 => ?_)
 have hm1 := hm0.ext _ew1
 refine rw_q rfl (ev_u32_add rfl rfl) <| rA rfl rfl ?_
 refine rw_nil (kThen_normal ?_)
 refine CW.abs (fun g => g 0 = v ∧ g 2 = (u32 (((((l.getD 0 0).setWidth 32) + (((l.getD 1 0).setWidth 32) * 256#32)) + (((l.getD 2 0).setWidth 32) * 65536#32)) + (((l.getD 3 0).setWidth 32) * 16777216#32))) ∧ True) ⟨rfl, rfl, trivial⟩ ?_
 rintro fr2 ⟨s0, s2, _⟩
 refine cw_ret <| fnPost_ret [(u32 (((((l.getD 0 0).setWidth 32) + (((l.getD 1 0).setWidth 32) * 256#32)) + (((l.getD 2 0).setWidth 32) * 65536#32)) + (((l.getD 3 0).setWidth 32) * 16777216#32)))] ⟨s2, trivial⟩ ?_
 exact ⟨rfl, hm1.toExt⟩

theorem c_squarter (bs : Nat) (s : List (BitVec 32)) (i0 i1 i2 i3 : Int) (w0 : World) (R : Rest) (hm0 : Mem w0 R [(bs, .cells (cl u32 s) 90 (0, 0))]) (hl : s.length = 16) (h0 : 0 ≤ i0 ∧ i0 < 16) (h1 : 0 ≤ i1 ∧ i1 < 16) (h2 : 0 ≤ i2 ∧ i2 < 16) (h3 : 0 ≤ i3 ∧ i3 < 16) : CallsR Tryd.prog 62 #[(ptr bs 0), (agg i64 ([i0, i1, i2, i3]))] w0 (fun r w1 => r = .tuple #[] ∧ Mem w1 R [(bs, .cells (cl u32 (qAt s i0.toNat i1.toNat i2.toNat i3.toNat)) 90 (0, 0))]) := by
 refine callsR_of_cw (args := [(ptr bs 0), (agg i64 ([i0, i1, i2, i3]))]) Tryd.func62 rfl Tryd.ntmps62 Tryd.results62 rfl ?_
 refine cw_seq (cw_region ?_)
 refine rw_c rfl (or_box_agg (f := i64) (l := [i0, i1, i2, i3]) hm0 rfl) ?_
 rintro _ w1 ⟨b3, rfl, _ew1, hm1⟩
 refine rw_nil (kThen_normal (cw_seq (cw_region ?_)))
 refine rw_c rfl (or_alloc_agg hm1 ti105) ?_
 rintro _ w2 ⟨b4, rfl, _ew2, hm2⟩
 refine rw_nil (kThen_normal (cw_seq (cw_seq (cw_region ?_))))
 refine rw_q (v := (agg i64 ([i0, i1, i2, i3]))) rfl (ev_loadA uT93 rfl ti93 rfl hm2.h1 sZ) <| rw_q rfl (ev_move (v := (i64 0)) rfl) ?_
 refine rw_nil (kThen_normal (cw_block ?_))
 refine cw_rounds 5 ?_
 refine cr_succ (cw_seq (cw_region ?_))
 refine rw_q rfl (ev_i64_lss (a := 0) (b := 4) rfl rfl) ?_
 refine rw_nil (kThen_normal (cw_seq ?_))
 refine cw_cond_t rfl (by decide) ?_
 refine cw_skip (kThen_normal (cw_seq (cw_block (cw_seq (cw_region ?_)))))
 refine rw_q rfl (ev_move (v := (i64 0)) rfl) <| rw_q (v := (i64 i0)) rfl (ev_index_agg (i := 0) uT93 uT3 rfl ti3 rfl rfl oM sD (get_clD _ _ 0 (by simp))) <| rw_q rfl (ev_assign (v := (i64 0)) rfl) <| rw_q rfl (ev_assign (v := (i64 i0)) rfl) ?_
 refine rw_nil (kThen_normal (cw_region ?_))
 refine rw_q rfl (ev_move (v := (i64 0)) rfl) <| rw_q rfl (ev_move (v := (ptr bs 0)) rfl) <| rw_q rfl (ev_move (v := (i64 i0)) rfl) <| rw_q rfl (ev_nilCheck rfl) <| rw_q rfl (ev_ia_arr (r := (i0 : Int).toNat) oM uT90 ti55 rfl rfl oM sD) <| rw_q (v := (u32 (s.getD ((i0 : Int).toNat) 0))) rfl (ev_load1 uT55 rfl rfl hm2.h2 (get_clD _ _ 0 sD)) ?_
 refine rw_q rfl (ev_ia_arr (r := 0) (i := 0) oM uT105 ti55 rfl rfl oM oM) <| rw_n (or_store_cl' (f := u32) (l' := [s.getD ((i0 : Int).toNat) 0, 0, 0, 0]) rfl u32_one ti55 rfl rfl hm2.h0 (by simp) (.inl (Nat.zero_le _))) ?_
 rintro _ w3 uq3
 have hm3 := hm2.upd0 uq3
 refine rw_nil (kBlk_normal ?_)
 refine CW.abs (fun g => g 0 = (ptr bs 0) ∧ g 1 = (agg i64 ([i0, i1, i2, i3])) ∧ g 3 = (ptr b3 0) ∧ g 4 = (ptr b4 0) ∧ g 5 = (i64 0) ∧ g 6 = (i64 i0) ∧ g 9 = (agg i64 ([i0, i1, i2, i3])) ∧ g 10 = (i64 0) ∧ g 11 = (bl true) ∧ True) ⟨rfl, rfl, rfl, rfl, rfl, rfl, rfl, rfl, rfl, trivial⟩ ?_
 rintro fr4 ⟨s0, s1, s3, s4, s5, s6, s9, s10, s11, _⟩
 refine cw_region <| rw_q (v := (i64 1)) rfl (ev_i64_add (a := 0) (b := 1) s10 rfl oM oM) <| rw_q rfl (ev_move (v := (i64 1)) rfl) ?_
 refine rw_nil (kThen_normal (cr_succ (cw_seq (cw_region ?_))))
 refine rw_q rfl (ev_i64_lss (a := 1) (b := 4) rfl rfl) ?_
 refine rw_nil (kThen_normal (cw_seq ?_))
 refine cw_cond_t rfl (by decide) ?_
 refine cw_skip (kThen_normal (cw_seq (cw_block (cw_seq (cw_region ?_)))))
 refine rw_q rfl (ev_move (v := (i64 1)) rfl) <| rw_q (v := (i64 i1)) rfl (ev_index_agg (i := 1) uT93 uT3 rfl ti3 s9 rfl oM sD (get_clD _ _ 0 (by simp))) <| rw_q rfl (ev_assign (v := (i64 1)) rfl) <| rw_q rfl (ev_assign (v := (i64 i1)) rfl) ?_
 refine rw_nil (kThen_normal (cw_region ?_))
 refine rw_q rfl (ev_move (v := (i64 1)) rfl) <| rM rfl s0 <| rw_q rfl (ev_move (v := (i64 i1)) rfl) <| rw_q rfl (ev_nilCheck rfl) <| rw_q rfl (ev_ia_arr (r := (i1 : Int).toNat) oM uT90 ti55 rfl rfl oM sD) <| rw_q (v := (u32 (s.getD ((i1 : Int).toNat) 0))) rfl (ev_load1 uT55 rfl rfl hm3.h2 (get_clD _ _ 0 sD)) ?_
 refine rw_q rfl (ev_ia_arr (r := 1) (i := 1) oM uT105 ti55 s4 rfl oM oM) <| rw_n (or_store_cl' (f := u32) (l' := [s.getD ((i0 : Int).toNat) 0, s.getD ((i1 : Int).toNat) 0, 0, 0]) rfl u32_one ti55 rfl rfl hm3.h0 (by simp) (.inl (Nat.zero_le _))) ?_
 rintro _ w5 uq5
 have hm5 := hm3.upd0 uq5
 refine rw_nil (kBlk_normal ?_)
 refine CW.abs (fun g => g 0 = (ptr bs 0) ∧ g 1 = (agg i64 ([i0, i1, i2, i3])) ∧ g 3 = (ptr b3 0) ∧ g 4 = (ptr b4 0) ∧ g 5 = (i64 1) ∧ g 6 = (i64 i1) ∧ g 9 = (agg i64 ([i0, i1, i2, i3])) ∧ g 10 = (i64 1) ∧ g 11 = (bl true) ∧ True) ⟨s0, s1, s3, s4, rfl, rfl, s9, rfl, rfl, trivial⟩ ?_
 rintro fr6 ⟨s0, s1, s3, s4, s5, s6, s9, s10, s11, _⟩
 refine cw_region <| rw_q (v := (i64 2)) rfl (ev_i64_add (a := 1) (b := 1) s10 rfl oM oM) <| rw_q rfl (ev_move (v := (i64 2)) rfl) ?_
 refine rw_nil (kThen_normal (cr_succ (cw_seq (cw_region ?_))))
 refine rw_q rfl (ev_i64_lss (a := 2) (b := 4) rfl rfl) ?_
 refine rw_nil (kThen_normal (cw_seq ?_))
 refine cw_cond_t rfl (by decide) ?_
 refine cw_skip (kThen_normal (cw_seq (cw_block (cw_seq (cw_region ?_)))))
 refine rw_q rfl (ev_move (v := (i64 2)) rfl) <| rw_q (v := (i64 i2)) rfl (ev_index_agg (i := 2) uT93 uT3 rfl ti3 s9 rfl oM sD (get_clD _ _ 0 (by simp))) <| rw_q rfl (ev_assign (v := (i64 2)) rfl) <| rw_q rfl (ev_assign (v := (i64 i2)) rfl) ?_
 refine rw_nil (kThen_normal (cw_region ?_))
 refine rw_q rfl (ev_move (v := (i64 2)) rfl) <| rM rfl s0 <| rw_q rfl (ev_move (v := (i64 i2)) rfl) <| rw_q rfl (ev_nilCheck rfl) <| rw_q rfl (ev_ia_arr (r := (i2 : Int).toNat) oM uT90 ti55 rfl rfl oM sD) <| rw_q (v := (u32 (s.getD ((i2 : Int).toNat) 0))) rfl (ev_load1 uT55 rfl rfl hm5.h2 (get_clD _ _ 0 sD)) ?_
 refine rw_q rfl (ev_ia_arr (r := 2) (i := 2) oM uT105 ti55 s4 rfl oM oM) <| rw_n (or_store_cl' (f := u32) (l' := [s.getD ((i0 : Int).toNat) 0, s.getD ((i1 : Int).toNat) 0, s.getD ((i2 : Int).toNat) 0, 0]) rfl u32_one ti55 rfl rfl hm5.h0 (by simp) (.inl (Nat.zero_le _))) ?_
 rintro _ w7 uq7
 have hm7 := hm5.upd0 uq7
 refine rw_nil (kBlk_normal ?_)
 refine CW.abs (fun g => g 0 = (ptr bs 0) ∧ g 1 = (agg i64 ([i0, i1, i2, i3])) ∧ g 3 = (ptr b3 0) ∧ g 4 = (ptr b4 0) ∧ g 5 = (i64 2) ∧ g 6 = (i64 i2) ∧ g 9 = (agg i64 ([i0, i1, i2, i3])) ∧ g 10 = (i64 2) ∧ g 11 = (bl true) ∧ True) ⟨s0, s1, s3, s4, rfl, rfl, s9, rfl, rfl, trivial⟩ ?_
 rintro fr8 ⟨s0, s1, s3, s4, s5, s6, s9, s10, s11, _⟩
 refine cw_region <| rw_q (v := (i64 3)) rfl (ev_i64_add (a := 2) (b := 1) s10 rfl oM oM) <| rw_q rfl (ev_move (v := (i64 3)) rfl) ?_
 refine rw_nil (kThen_normal (cr_succ (cw_seq (cw_region ?_))))
 refine rw_q rfl (ev_i64_lss (a := 3) (b := 4) rfl rfl) ?_
 refine rw_nil (kThen_normal (cw_seq ?_))
 refine cw_cond_t rfl (by decide) ?_
 refine cw_skip (kThen_normal (cw_seq (cw_block (cw_seq (cw_region ?_)))))
 refine rw_q rfl (ev_move (v := (i64 3)) rfl) <| rw_q (v := (i64 i3)) rfl (ev_index_agg (i := 3) uT93 uT3 rfl ti3 s9 rfl oM sD (get_clD _ _ 0 (by simp))) <| rw_q rfl (ev_assign (v := (i64 3)) rfl) <| rw_q rfl (ev_assign (v := (i64 i3)) rfl) ?_
 refine rw_nil (kThen_normal (cw_region ?_))
 refine rw_q rfl (ev_move (v := (i64 3)) rfl) <| rM rfl s0 <| rw_q rfl (ev_move (v := (i64 i3)) rfl) <| rw_q rfl (ev_nilCheck rfl) <| rw_q rfl (ev_ia_arr (r := (i3 : Int).toNat) oM uT90 ti55 rfl rfl oM sD) <| rw_q (v := (u32 (s.getD ((i3 : Int).toNat) 0))) rfl (ev_load1 uT55 rfl rfl hm7.h2 (get_clD _ _ 0 sD)) ?_
 refine rw_q rfl (ev_ia_arr (r := 3) (i := 3) oM uT105 ti55 s4 rfl oM oM) <| rw_n (or_store_cl' (f := u32) (l' := [s.getD ((i0 : Int).toNat) 0, s.getD ((i1 : Int).toNat) 0, s.getD ((i2 : Int).toNat) 0, s.getD ((i3 : Int).toNat) 0]) rfl u32_one ti55 rfl rfl hm7.h0 (by simp) (.inl (Nat.zero_le _))) ?_
 rintro _ w9 uq9
 have hm9 := hm7.upd0 uq9
 refine rw_nil (kBlk_normal ?_)
 refine CW.abs (fun g => g 0 = (ptr bs 0) ∧ g 1 = (agg i64 ([i0, i1, i2, i3])) ∧ g 3 = (ptr b3 0) ∧ g 4 = (ptr b4 0) ∧ g 5 = (i64 3) ∧ g 6 = (i64 i3) ∧ g 9 = (agg i64 ([i0, i1, i2, i3])) ∧ g 10 = (i64 3) ∧ g 11 = (bl true) ∧ True) ⟨s0, s1, s3, s4, rfl, rfl, s9, rfl, rfl, trivial⟩ ?_
 rintro fr10 ⟨s0, s1, s3, s4, s5, s6, s9, s10, s11, _⟩
 refine cw_region <| rw_q (v := (i64 4)) rfl (ev_i64_add (a := 3) (b := 1) s10 rfl oM oM) <| rw_q rfl (ev_move (v := (i64 4)) rfl) ?_
 refine rw_nil (kThen_normal (cr_succ (cw_seq (cw_region ?_))))
 refine rw_q rfl (ev_i64_lss (a := 4) (b := 4) rfl rfl) ?_
 refine rw_nil (kThen_normal (cw_seq ?_))
 refine cw_cond_f rfl (by decide) <| cw_exit ?_
 refine kThen_exit (kThen_exit (kBlk_hit ?_))
 refine cw_seq (cw_region ?_)
 refine rw_q (v := (agg u32 ([s.getD ((i0 : Int).toNat) 0, s.getD ((i1 : Int).toNat) 0, s.getD ((i2 : Int).toNat) 0, s.getD ((i3 : Int).toNat) 0]))) rfl (ev_loadA uT105 rfl ti105 s4 hm9.h0 sZ) <| rw_c rfl (opR_call Tryd.func79 bd79 nm79 (args1 rfl) (c_quarter (s.getD ((i0 : Int).toNat) 0) (s.getD ((i1 : Int).toNat) 0) (s.getD ((i2 : Int).toNat) 0) (s.getD ((i3 : Int).toNat) 0) _)) ?_
 rintro _ w11 ⟨rfl, _ew11⟩
 have hm11 := hm9.ext _ew11
 refine rw_q rfl (ev_move (v := (i64 0)) rfl) ?_
 refine rw_nil (kThen_normal (cw_block' ?_))
 refine cw_rounds 5 ?_
 refine cr_succ (cw_seq (cw_region ?_))
 refine rw_q rfl (ev_i64_lss (a := 0) (b := 4) rfl rfl) ?_
 refine rw_nil (kThen_normal (cw_seq ?_))
 refine cw_cond_t rfl (by decide) ?_
 refine cw_skip (kThen_normal (cw_seq (cw_block (cw_seq (cw_region ?_)))))
 refine rw_q rfl (ev_move (v := (i64 0)) rfl) <| rw_q (v := (u32 ((quarterL rotl32 (s.getD ((i0 : Int).toNat) 0) (s.getD ((i1 : Int).toNat) 0) (s.getD ((i2 : Int).toNat) 0) (s.getD ((i3 : Int).toNat) 0)).getD 0 0))) rfl (ev_index_agg (i := 0) uT105 uT55 rfl ti55 rfl rfl oM sD (get_clD _ _ 0 sD)) <| rw_q rfl (ev_assign (v := (i64 0)) rfl) <| rA rfl rfl ?_
 refine rw_nil (kThen_normal ?_)
 refine CW.abs (fun g => g 0 = (ptr bs 0) ∧ g 1 = (agg i64 ([i0, i1, i2, i3])) ∧ g 3 = (ptr b3 0) ∧ g 4 = (ptr b4 0) ∧ g 5 = (i64 3) ∧ g 6 = (i64 i3) ∧ g 7 = (i64 0) ∧ g 8 = (u32 ((quarterL rotl32 (s.getD ((i0 : Int).toNat) 0) (s.getD ((i1 : Int).toNat) 0) (s.getD ((i2 : Int).toNat) 0) (s.getD ((i3 : Int).toNat) 0)).getD 0 0)) ∧ g 9 = (agg i64 ([i0, i1, i2, i3])) ∧ g 10 = (i64 4) ∧ g 11 = (bl false) ∧ g 23 = (agg u32 (quarterL rotl32 (s.getD ((i0 : Int).toNat) 0) (s.getD ((i1 : Int).toNat) 0) (s.getD ((i2 : Int).toNat) 0) (s.getD ((i3 : Int).toNat) 0))) ∧ g 24 = (i64 0) ∧ g 25 = (bl true) ∧ True) ⟨s0, s1, s3, s4, s5, s6, rfl, rfl, s9, rfl, rfl, rfl, rfl, rfl, trivial⟩ ?_
 rintro fr12 ⟨s0, s1, s3, s4, s5, s6, s7, s8, s9, s10, s11, s23, s24, s25, _⟩
 refine cw_draw [(0, false), (1, false), (2, false), (3, false), (4, false), (5, false)] 6 (by kernel_rfl) <| dM rfl rfl s0 <| dM rfl rfl s7 <| dw_q rfl rfl (fun _ _hx => ev_ia_arr (r := 0) (i := 0) oM uT93 ti3 s3 rfl oM oM) <| dw_q (v := (i64 i0)) rfl rfl (fun _ _hx => ev_load1 uT3 rfl rfl (hm11.ext _hx).h1 (get_clD _ _ 0 (by simp))) <| dM rfl rfl s8 ?_
 refine dw_q rfl rfl (fun _ _hx => ev_nilCheck rfl) ?_
 refine dw_nil (fun w13 _ew13 => ?_)
 have hm13 := hm11.ext _ew13
 refine rw_q rfl (ev_ia_arr (r := (i0 : Int).toNat) oM uT90 ti55 rfl rfl oM sD) <| rw_n (or_store_cl (f := u32) u32_one ti55 rfl rfl hm13.h2 sD (.inl (Nat.zero_le _))) ?_
 rintro _ w14 uq14
 have hm14 := hm13.upd2 uq14
 refine rw_nil (kBlk_normal (cw_region ?_))
 refine rw_q (v := (i64 1)) rfl (ev_i64_add (a := 0) (b := 1) s24 rfl oM oM) <| rw_q rfl (ev_move (v := (i64 1)) rfl) ?_
 refine rw_nil (kThen_normal (cr_succ (cw_seq (cw_region ?_))))
 refine rw_q rfl (ev_i64_lss (a := 1) (b := 4) rfl rfl) ?_
 refine rw_nil (kThen_normal (cw_seq ?_))
 refine cw_cond_t rfl (by decide) ?_
 refine cw_skip (kThen_normal (cw_seq (cw_block (cw_seq (cw_region ?_)))))
 refine rw_q rfl (ev_move (v := (i64 1)) rfl) <| rw_q (v := (u32 ((quarterL rotl32 (s.getD ((i0 : Int).toNat) 0) (s.getD ((i1 : Int).toNat) 0) (s.getD ((i2 : Int).toNat) 0) (s.getD ((i3 : Int).toNat) 0)).getD 1 0))) rfl (ev_index_agg (i := 1) uT105 uT55 rfl ti55 s23 rfl oM sD (get_clD _ _ 0 sD)) <| rw_q rfl (ev_assign (v := (i64 1)) rfl) <| rA rfl rfl ?_
 refine rw_nil (kThen_normal ?_)
 refine CW.abs (fun g => g 0 = (ptr bs 0) ∧ g 1 = (agg i64 ([i0, i1, i2, i3])) ∧ g 3 = (ptr b3 0) ∧ g 4 = (ptr b4 0) ∧ g 5 = (i64 3) ∧ g 6 = (i64 i3) ∧ g 7 = (i64 1) ∧ g 8 = (u32 ((quarterL rotl32 (s.getD ((i0 : Int).toNat) 0) (s.getD ((i1 : Int).toNat) 0) (s.getD ((i2 : Int).toNat) 0) (s.getD ((i3 : Int).toNat) 0)).getD 1 0)) ∧ g 9 = (agg i64 ([i0, i1, i2, i3])) ∧ g 10 = (i64 4) ∧ g 11 = (bl false) ∧ g 23 = (agg u32 (quarterL rotl32 (s.getD ((i0 : Int).toNat) 0) (s.getD ((i1 : Int).toNat) 0) (s.getD ((i2 : Int).toNat) 0) (s.getD ((i3 : Int).toNat) 0))) ∧ g 24 = (i64 1) ∧ g 25 = (bl true) ∧ True) ⟨s0, s1, s3, s4, s5, s6, rfl, rfl, s9, s10, s11, s23, rfl, rfl, trivial⟩ ?_
 rintro fr15 ⟨s0, s1, s3, s4, s5, s6, s7, s8, s9, s10, s11, s23, s24, s25, _⟩
 refine cw_draw [(0, false), (1, false), (2, false), (3, false), (4, false), (5, false)] 6 (by kernel_rfl) <| dM rfl rfl s0 <| dM rfl rfl s7 <| dw_q rfl rfl (fun _ _hx => ev_ia_arr (r := 1) (i := 1) oM uT93 ti3 s3 rfl oM oM) <| dw_q (v := (i64 i1)) rfl rfl (fun _ _hx => ev_load1 uT3 rfl rfl (hm14.ext _hx).h1 (get_clD _ _ 0 (by simp))) <| dM rfl rfl s8 ?_
 refine dw_q rfl rfl (fun _ _hx => ev_nilCheck rfl) ?_
 refine dw_nil (fun w16 _ew16 => ?_)
 have hm16 := hm14.ext _ew16
 refine rw_q rfl (ev_ia_arr (r := (i1 : Int).toNat) oM uT90 ti55 rfl rfl oM sD) <| rw_n (or_store_cl (f := u32) u32_one ti55 rfl rfl hm16.h2 sD (.inl (Nat.zero_le _))) ?_
 rintro _ w17 uq17
 have hm17 := hm16.upd2 uq17
 refine rw_nil (kBlk_normal (cw_region ?_))
 refine rw_q (v := (i64 2)) rfl (ev_i64_add (a := 1) (b := 1) s24 rfl oM oM) <| rw_q rfl (ev_move (v := (i64 2)) rfl) ?_
 refine rw_nil (kThen_normal (cr_succ (cw_seq (cw_region ?_))))
 refine rw_q rfl (ev_i64_lss (a := 2) (b := 4) rfl rfl) ?_
 refine rw_nil (kThen_normal (cw_seq ?_))
 refine cw_cond_t rfl (by decide) ?_
 refine cw_skip (kThen_normal (cw_seq (cw_block (cw_seq (cw_region ?_)))))
 refine rw_q rfl (ev_move (v := (i64 2)) rfl) <| rw_q (v := (u32 ((quarterL rotl32 (s.getD ((i0 : Int).toNat) 0) (s.getD ((i1 : Int).toNat) 0) (s.getD ((i2 : Int).toNat) 0) (s.getD ((i3 : Int).toNat) 0)).getD 2 0))) rfl (ev_index_agg (i := 2) uT105 uT55 rfl ti55 s23 rfl oM sD (get_clD _ _ 0 sD)) <| rw_q rfl (ev_assign (v := (i64 2)) rfl) <| rA rfl rfl ?_
 refine rw_nil (kThen_normal ?_)
 refine CW.abs (fun g => g 0 = (ptr bs 0) ∧ g 1 = (agg i64 ([i0, i1, i2, i3])) ∧ g 3 = (ptr b3 0) ∧ g 4 = (ptr b4 0) ∧ g 5 = (i64 3) ∧ g 6 = (i64 i3) ∧ g 7 = (i64 2) ∧ g 8 = (u32 ((quarterL rotl32 (s.getD ((i0 : Int).toNat) 0) (s.getD ((i1 : Int).toNat) 0) (s.getD ((i2 : Int).toNat) 0) (s.getD ((i3 : Int).toNat) 0)).getD 2 0)) ∧ g 9 = (agg i64 ([i0, i1, i2, i3])) ∧ g 10 = (i64 4) ∧ g 11 = (bl false) ∧ g 23 = (agg u32 (quarterL rotl32 (s.getD ((i0 : Int).toNat) 0) (s.getD ((i1 : Int).toNat) 0) (s.getD ((i2 : Int).toNat) 0) (s.getD ((i3 : Int).toNat) 0))) ∧ g 24 = (i64 2) ∧ g 25 = (bl true) ∧ True) ⟨s0, s1, s3, s4, s5, s6, rfl, rfl, s9, s10, s11, s23, rfl, rfl, trivial⟩ ?_
 rintro fr18 ⟨s0, s1, s3, s4, s5, s6, s7, s8, s9, s10, s11, s23, s24, s25, _⟩
 refine cw_draw [(0, false), (1, false), (2, false), (3, false), (4, false), (5, false)] 6 (by kernel_rfl) <| dM rfl rfl s0 <| dM rfl rfl s7 <| dw_q rfl rfl (fun _ _hx => ev_ia_arr (r := 2) (i := 2) oM uT93 ti3 s3 rfl oM oM) <| dw_q (v := (i64 i2)) rfl rfl (fun _ _hx => ev_load1 uT3 rfl rfl (hm17.ext _hx).h1 (get_clD _ _ 0 (by simp))) <| dM rfl rfl s8 ?_
 refine dw_q rfl rfl (fun _ _hx => ev_nilCheck rfl) ?_
 refine dw_nil (fun w19 _ew19 => ?_)
 have hm19 := hm17.ext _ew19
 refine rw_q rfl (ev_ia_arr (r := (i2 : Int).toNat) oM uT90 ti55 rfl rfl oM sD) <| rw_n (or_store_cl (f := u32) u32_one ti55 rfl rfl hm19.h2 sD (.inl (Nat.zero_le _))) ?_
 rintro _ w20 uq20
 have hm20 := hm19.upd2 uq20
 refine rw_nil (kBlk_normal (cw_region ?_))
 refine rw_q (v := (i64 3)) rfl (ev_i64_add (a := 2) (b := 1) s24 rfl oM oM) <| rw_q rfl (ev_move (v := (i64 3)) rfl) ?_
 refine rw_nil (kThen_normal (cr_succ (cw_seq (cw_region ?_))))
 refine rw_q rfl (ev_i64_lss (a := 3) (b := 4) rfl rfl) ?_
 refine rw_nil (kThen_normal (cw_seq ?_))
 refine cw_cond_t rfl (by decide) ?_
 refine cw_skip (kThen_normal (cw_seq (cw_block (cw_seq (cw_region ?_)))))
 refine rw_q rfl (ev_move (v := (i64 3)) rfl) <| rw_q (v := (u32 ((quarterL rotl32 (s.getD ((i0 : Int).toNat) 0) (s.getD ((i1 : Int).toNat) 0) (s.getD ((i2 : Int).toNat) 0) (s.getD ((i3 : Int).toNat) 0)).getD 3 0))) rfl (ev_index_agg (i := 3) uT105 uT55 rfl ti55 s23 rfl oM sD (get_clD _ _ 0 sD)) <| rw_q rfl (ev_assign (v := (i64 3)) rfl) <| rA rfl rfl ?_
 refine rw_nil (kThen_normal ?_)
 refine CW.abs (fun g => g 0 = (ptr bs 0) ∧ g 1 = (agg i64 ([i0, i1, i2, i3])) ∧ g 3 = (ptr b3 0) ∧ g 4 = (ptr b4 0) ∧ g 5 = (i64 3) ∧ g 6 = (i64 i3) ∧ g 7 = (i64 3) ∧ g 8 = (u32 ((quarterL rotl32 (s.getD ((i0 : Int).toNat) 0) (s.getD ((i1 : Int).toNat) 0) (s.getD ((i2 : Int).toNat) 0) (s.getD ((i3 : Int).toNat) 0)).getD 3 0)) ∧ g 9 = (agg i64 ([i0, i1, i2, i3])) ∧ g 10 = (i64 4) ∧ g 11 = (bl false) ∧ g 23 = (agg u32 (quarterL rotl32 (s.getD ((i0 : Int).toNat) 0) (s.getD ((i1 : Int).toNat) 0) (s.getD ((i2 : Int).toNat) 0) (s.getD ((i3 : Int).toNat) 0))) ∧ g 24 = (i64 3) ∧ g 25 = (bl true) ∧ True) ⟨s0, s1, s3, s4, s5, s6, rfl, rfl, s9, s10, s11, s23, rfl, rfl, trivial⟩ ?_
 rintro fr21 ⟨s0, s1, s3, s4, s5, s6, s7, s8, s9, s10, s11, s23, s24, s25, _⟩
 refine cw_draw [(0, false), (1, false), (2, false), (3, false), (4, false), (5, false)] 6 (by kernel_rfl) <| dM rfl rfl s0 <| dM rfl rfl s7 <| dw_q rfl rfl (fun _ _hx => ev_ia_arr (r := 3) (i := 3) oM uT93 ti3 s3 rfl oM oM) <| dw_q (v := (i64 i3)) rfl rfl (fun _ _hx => ev_load1 uT3 rfl rfl (hm20.ext _hx).h1 (get_clD _ _ 0 (by simp))) <| dM rfl rfl s8 ?_
 refine dw_q rfl rfl (fun _ _hx => ev_nilCheck rfl) ?_
 refine dw_nil (fun w22 _ew22 => ?_)
 have hm22 := hm20.ext _ew22
 refine rw_q rfl (ev_ia_arr (r := (i3 : Int).toNat) oM uT90 ti55 rfl rfl oM sD) <| rw_n (or_store_cl (f := u32) u32_one ti55 rfl rfl hm22.h2 sD (.inl (Nat.zero_le _))) ?_
 rintro _ w23 uq23
 have hm23 := hm22.upd2 uq23
 refine rw_nil (kBlk_normal (cw_region ?_))
 refine rw_q (v := (i64 4)) rfl (ev_i64_add (a := 3) (b := 1) s24 rfl oM oM) <| rw_q rfl (ev_move (v := (i64 4)) rfl) ?_
 refine rw_nil (kThen_normal (cr_succ (cw_seq (cw_region ?_))))
 refine rw_q rfl (ev_i64_lss (a := 4) (b := 4) rfl rfl) ?_
 refine rw_nil (kThen_normal (cw_seq ?_))
 refine cw_cond_f rfl (by decide) <| cw_exit ?_
 refine kThen_exit (kThen_exit (kBlk_hit ?_))
 refine fnPost_normal [] trivial ?_
 exact ⟨rfl, Mem.drop [_, _] _ hm23⟩


end Go.Proofs.YtmiagmbgfhakgaaDoor

