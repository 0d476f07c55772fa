/- Contracts: the curve, first part. Conditions: none beyond those that each theorem states. -/
import Derived.Test.YtmiagmbgfhakgaaDoorTab
import Derived.Test.YtmiagmbgfhakgaaDoorCuM
namespace Go.Proofs.YtmiagmbgfhakgaaDoor
set_option linter.unusedVariables false
set_option linter.unusedSimpArgs false

theorem c_mul64 (x y : BitVec 64) (w0 : World)   : CallsR Tryd.prog 84 #[(u64 x), (u64 y)] w0 (fun r w1 => r = (Value.tuple #[(u64 (mulH x y)), (u64 (x * y))]) ∧ Ext w0 w1) := by
 refine callsR_of_cw (args := [(u64 x), (u64 y)]) Tryd.func84 rfl Tryd.ntmps84 Tryd.results84 rfl ?_
 have hm0 : Mem w0 (restOf w0) [] := Mem.of_world w0
 refine sR <| rw_q rfl (ev_assign (v := (u64 0#64)) rfl) <| rw_q rfl (ev_assign (v := (u64 0#64)) rfl) ?_
 refine rN (sR ?_)
 refine rw_q rfl (ev_move (v := (u64 x)) rfl) <| rw_q rfl (ev_u64_and (b := 4294967295#64) rfl rfl) <| rw_q rfl (ev_assign (v := (u64 (x &&& 4294967295#64))) rfl) ?_
 refine rN (sR ?_)
 refine rw_q rfl (ev_move (v := (u64 x)) rfl) <| rw_q rfl (ev_u64_shr (b := 32) rfl rfl oM) <| rw_q rfl (ev_assign (v := (u64 (x >>> 32))) rfl) ?_
 refine rN (sR ?_)
 refine rw_q rfl (ev_move (v := (u64 y)) rfl) <| rw_q rfl (ev_u64_and (b := 4294967295#64) rfl rfl) <| rw_q rfl (ev_assign (v := (u64 (y &&& 4294967295#64))) rfl) <| rN ?_
 refine CW.abs (fun g => g 0 = (u64 x) ∧ g 1 = (u64 y) ∧ g 4 = (u64 0#64) ∧ g 5 = (u64 0#64) ∧ g 6 = (u64 (x &&& 4294967295#64)) ∧ g 7 = (u64 (x >>> 32)) ∧ g 8 = (u64 (y &&& 4294967295#64)) ∧ True) ⟨rfl, rfl, rfl, rfl, rfl, rfl, rfl, trivial⟩ ?_
 rintro fr1 ⟨s0, s1, s4, s5, s6, s7, s8, _⟩
 refine sR <| rM rfl s1 <| rw_q rfl (ev_u64_shr (b := 32) rfl rfl oM) <| rw_q rfl (ev_assign (v := (u64 (y >>> 32))) rfl) ?_
 refine rN (sR ?_)
 refine rM rfl s6 <| rM rfl s8 <| rw_q rfl (ev_u64_mul rfl rfl) <| rw_q rfl (ev_assign (v := (u64 ((x &&& 4294967295#64) * (y &&& 4294967295#64)))) rfl) ?_
 refine rN (sR ?_)
 refine rM rfl s7 <| rM rfl s8 <| rw_q rfl (ev_u64_mul rfl rfl) <| rw_q rfl (ev_move (v := (u64 ((x &&& 4294967295#64) * (y &&& 4294967295#64)))) rfl) <| rw_q rfl (ev_u64_shr (b := 32) rfl rfl oM) <| rw_q rfl (ev_u64_add rfl rfl) ?_
 refine rA rfl rfl <| rN ?_
 refine CW.abs (fun g => g 0 = (u64 x) ∧ g 1 = (u64 y) ∧ g 4 = (u64 0#64) ∧ g 5 = (u64 0#64) ∧ g 6 = (u64 (x &&& 4294967295#64)) ∧ g 7 = (u64 (x >>> 32)) ∧ g 8 = (u64 (y &&& 4294967295#64)) ∧ g 9 = (u64 (y >>> 32)) ∧ g 10 = (u64 ((x &&& 4294967295#64) * (y &&& 4294967295#64))) ∧ g 11 = (u64 (((x >>> 32) * (y &&& 4294967295#64)) + (((x &&& 4294967295#64) * (y &&& 4294967295#64)) >>> 32))) ∧ True) ⟨s0, s1, s4, s5, s6, s7, s8, rfl, rfl, rfl, trivial⟩ ?_
 rintro fr2 ⟨s0, s1, s4, s5, s6, s7, s8, s9, s10, s11, _⟩
 refine sR <| rM rfl s11 <| rw_q rfl (ev_u64_and (b := 4294967295#64) rfl rfl) <| rA rfl rfl ?_
 refine rN (sR ?_)
 refine rM rfl s11 <| rw_q rfl (ev_u64_shr (b := 32) rfl rfl oM) <| rA rfl rfl ?_
 refine rN (sR ?_)
 refine rM rfl rfl <| rM rfl s6 <| rM rfl s9 <| rw_q rfl (ev_u64_mul rfl rfl) <| rw_q rfl (ev_u64_add rfl rfl) <| rA rfl rfl ?_
 refine rN ?_
 refine CW.abs (fun g => g 0 = (u64 x) ∧ g 1 = (u64 y) ∧ g 4 = (u64 0#64) ∧ g 5 = (u64 0#64) ∧ g 6 = (u64 (x &&& 4294967295#64)) ∧ g 7 = (u64 (x >>> 32)) ∧ g 8 = (u64 (y &&& 4294967295#64)) ∧ g 9 = (u64 (y >>> 32)) ∧ g 10 = (u64 ((x &&& 4294967295#64) * (y &&& 4294967295#64))) ∧ g 11 = (u64 (((x >>> 32) * (y &&& 4294967295#64)) + (((x &&& 4294967295#64) * (y &&& 4294967295#64)) >>> 32))) ∧ g 12 = (u64 (((((x >>> 32) * (y &&& 4294967295#64)) + (((x &&& 4294967295#64) * (y &&& 4294967295#64)) >>> 32)) &&& 4294967295#64) + ((x &&& 4294967295#64) * (y >>> 32)))) ∧ g 13 = (u64 ((((x >>> 32) * (y &&& 4294967295#64)) + (((x &&& 4294967295#64) * (y &&& 4294967295#64)) >>> 32)) >>> 32)) ∧ True) ⟨s0, s1, s4, s5, s6, s7, s8, s9, s10, s11, rfl, rfl, trivial⟩ ?_
 rintro fr3 ⟨s0, s1, s4, s5, s6, s7, s8, s9, s10, s11, s12, s13, _⟩
 refine sR <| rM rfl s7 <| rM rfl s9 <| rw_q rfl (ev_u64_mul rfl rfl) <| rM rfl s13 <| rw_q rfl (ev_u64_add rfl rfl) ?_
 refine rM rfl s12 <| rw_q rfl (ev_u64_shr (b := 32) rfl rfl oM) <| rw_q rfl (ev_u64_add rfl rfl) <| rA rfl rfl ?_
 refine rN (sR ?_)
 refine rM rfl s0 <| rM rfl s1 <| rw_q rfl (ev_u64_mul rfl rfl) <| rw_q rfl (ev_assign (v := (u64 (x * y))) rfl) <| rN ?_
 refine CW.abs (fun g => g 0 = (u64 x) ∧ g 1 = (u64 y) ∧ g 4 = (u64 ((((x >>> 32) * (y >>> 32)) + ((((x >>> 32) * (y &&& 4294967295#64)) + (((x &&& 4294967295#64) * (y &&& 4294967295#64)) >>> 32)) >>> 32)) + ((((((x >>> 32) * (y &&& 4294967295#64)) + (((x &&& 4294967295#64) * (y &&& 4294967295#64)) >>> 32)) &&& 4294967295#64) + ((x &&& 4294967295#64) * (y >>> 32))) >>> 32))) ∧ g 5 = (u64 (x * y)) ∧ g 6 = (u64 (x &&& 4294967295#64)) ∧ g 7 = (u64 (x >>> 32)) ∧ g 8 = (u64 (y &&& 4294967295#64)) ∧ g 9 = (u64 (y >>> 32)) ∧ g 10 = (u64 ((x &&& 4294967295#64) * (y &&& 4294967295#64))) ∧ g 11 = (u64 (((x >>> 32) * (y &&& 4294967295#64)) + (((x &&& 4294967295#64) * (y &&& 4294967295#64)) >>> 32))) ∧ g 12 = (u64 (((((x >>> 32) * (y &&& 4294967295#64)) + (((x &&& 4294967295#64) * (y &&& 4294967295#64)) >>> 32)) &&& 4294967295#64) + ((x &&& 4294967295#64) * (y >>> 32)))) ∧ g 13 = (u64 ((((x >>> 32) * (y &&& 4294967295#64)) + (((x &&& 4294967295#64) * (y &&& 4294967295#64)) >>> 32)) >>> 32)) ∧ True) ⟨s0, s1, rfl, rfl, s6, s7, s8, s9, s10, s11, s12, s13, trivial⟩ ?_
 rintro fr4 ⟨s0, s1, s4, s5, s6, s7, s8, s9, s10, s11, s12, s13, _⟩
 refine cw_ret <| fnPost_ret [(u64 ((((x >>> 32) * (y >>> 32)) + ((((x >>> 32) * (y &&& 4294967295#64)) + (((x &&& 4294967295#64) * (y &&& 4294967295#64)) >>> 32)) >>> 32)) + ((((((x >>> 32) * (y &&& 4294967295#64)) + (((x &&& 4294967295#64) * (y &&& 4294967295#64)) >>> 32)) &&& 4294967295#64) + ((x &&& 4294967295#64) * (y >>> 32))) >>> 32))), (u64 (x * y))] ⟨s4, s5, trivial⟩ ?_
 exact ⟨congrArg (fun q => Value.tuple #[u64 q, u64 (x * y)]) (mulHG_eq x y), hm0.toExt⟩

theorem c_wadd (bw off : Nat) (l : List (BitVec 64)) (x y : BitVec 64) (w0 : World) (R : Rest) (hm0 : Mem w0 R [(bw, .cells (cl u64 l) 129 (0, 0))]) (hl : off + 2 ≤ l.length) : CallsR Tryd.prog 87 #[(ptr bw off), (u64 x), (u64 y)] w0 (fun r w1 => r = .tuple #[] ∧ Mem w1 R [(bw, .cells (cl u64 (waddAt l off x y)) 129 (0, 0))]) := by
 refine callsR_of_cw (args := [(ptr bw off), (u64 x), (u64 y)]) Tryd.func87 rfl Tryd.ntmps87 Tryd.results87 rfl <| sR <| rw_q rfl (ev_move (v := (u64 x)) rfl) <| rw_q rfl (ev_move (v := (u64 y)) rfl) <| rw_c rfl (opR_call Tryd.func84 bd84 nm84 (args2 rfl rfl) (c_mul64 x y _)) ?_
 rintro _ w1 ⟨rfl, _ew1⟩
 have hm1 := hm0.ext _ew1
 refine rw_q rfl (ev_move (v := (Value.tuple #[(u64 (mulH x y)), (u64 (x * y))])) rfl) <| rw_q (v := (u64 (mulH x y))) rfl (ev_extract rfl rfl) <| rw_q (v := (u64 (x * y))) rfl (ev_extract rfl rfl) <| rw_q rfl (ev_assign (v := (u64 (mulH x y))) rfl) <| rw_q rfl (ev_assign (v := (u64 (x * y))) rfl) ?_
 refine rN (sR ?_)
 refine rw_q rfl (ev_assign (v := (u64 0#64)) rfl) ?_
 refine rN (sR ?_)
 refine rw_q rfl (ev_move (v := (ptr bw off)) rfl) <| rw_q rfl (ev_move (v := (ptr bw off)) rfl) <| rw_q rfl (ev_nilCheck rfl) <| rw_q rfl (ev_fa (r := off + 1) uT128 rfl (by first | rfl | omega) ti61 rfl rfl) <| rw_q (v := (u64 (l.getD (off + 1) 0))) rfl (ev_load1 uT61 rfl rfl hm1.h0 (get_clD _ _ 0 sD)) <| rw_q rfl (ev_move (v := (u64 (x * y))) rfl) ?_
 refine rw_q (v := (Value.tuple #[(u64 ((l.getD (off + 1) 0) + (x * y) + 0#64)), (u64 (add64C (l.getD (off + 1) 0) (x * y) 0#64))])) rfl (ev_add64 (a := (l.getD (off + 1) 0)) (b := (x * y)) (c := 0#64) Tryd.func88 (by kernel_rfl) (by kernel_rfl) (by kernel_rfl) (by kernel_rfl) rfl rfl rfl (by first | decide | exact add64C_le _ _ (by decide))) <| rM rfl rfl <| rw_q (v := (u64 ((l.getD (off + 1) 0) + (x * y) + 0#64))) rfl (ev_extract rfl rfl) <| rw_q (v := (u64 (add64C (l.getD (off + 1) 0) (x * y) 0#64))) rfl (ev_extract rfl rfl) <| rw_q rfl (ev_nilCheck rfl) <| rw_q rfl (ev_fa (r := off + 1) uT128 rfl (by first | rfl | omega) ti61 rfl rfl) ?_
 refine rw_n (or_store_cl (f := u64) (a := (l.getD (off + 1) 0) + (x * y) + 0#64) u64_one ti61 rfl rfl hm1.h0 sD (.inl (Nat.zero_le _))) ?_
 rintro _ w3 uq3
 have hm3 := hm1.upd0 uq3
 refine rw_q rfl (ev_assign (v := (u64 (add64C (l.getD (off + 1) 0) (x * y) 0#64))) rfl) <| rN ?_
 refine CW.abs (fun g => g 0 = (ptr bw off) ∧ g 1 = (u64 x) ∧ g 2 = (u64 y) ∧ g 6 = (u64 (mulH x y)) ∧ g 7 = (u64 (x * y)) ∧ g 8 = (u64 (add64C (l.getD (off + 1) 0) (x * y) 0#64)) ∧ True) ⟨rfl, rfl, rfl, rfl, rfl, rfl, trivial⟩ ?_
 rintro fr4 ⟨s0, s1, s2, s6, s7, s8, _⟩
 refine cw_region <| rM rfl s0 <| rM rfl s0 <| rw_q rfl (ev_nilCheck rfl) <| rw_q rfl (ev_fa (r := off + 0) uT128 rfl (by first | rfl | omega) ti61 rfl rfl) <| rw_q (v := (u64 ((l.set (off + 1) ((l.getD (off + 1) 0) + (x * y) + 0#64)).getD (off + 0) 0))) rfl (ev_load1 uT61 rfl rfl hm3.h0 (get_clD _ _ 0 sD)) ?_
 refine rM rfl s6 <| rM rfl s8 <| rw_q (v := (Value.tuple #[(u64 (((l.set (off + 1) ((l.getD (off + 1) 0) + (x * y) + 0#64)).getD (off + 0) 0) + (mulH x y) + (add64C (l.getD (off + 1) 0) (x * y) 0#64))), (u64 (add64C ((l.set (off + 1) ((l.getD (off + 1) 0) + (x * y) + 0#64)).getD (off + 0) 0) (mulH x y) (add64C (l.getD (off + 1) 0) (x * y) 0#64)))])) rfl (ev_add64 (a := ((l.set (off + 1) ((l.getD (off + 1) 0) + (x * y) + 0#64)).getD (off + 0) 0)) (b := (mulH x y)) (c := (add64C (l.getD (off + 1) 0) (x * y) 0#64)) Tryd.func88 (by kernel_rfl) (by kernel_rfl) (by kernel_rfl) (by kernel_rfl) rfl rfl rfl (by first | decide | exact add64C_le _ _ (by decide))) <| rM rfl rfl <| rw_q (v := (u64 (((l.set (off + 1) ((l.getD (off + 1) 0) + (x * y) + 0#64)).getD (off + 0) 0) + (mulH x y) + (add64C (l.getD (off + 1) 0) (x * y) 0#64)))) rfl (ev_extract rfl rfl) <| rw_q (v := (u64 (add64C ((l.set (off + 1) ((l.getD (off + 1) 0) + (x * y) + 0#64)).getD (off + 0) 0) (mulH x y) (add64C (l.getD (off + 1) 0) (x * y) 0#64)))) rfl (ev_extract rfl rfl) ?_
 refine rw_q rfl (ev_nilCheck rfl) <| rw_q rfl (ev_fa (r := off + 0) uT128 rfl (by first | rfl | omega) ti61 rfl rfl) <| rw_n (or_store_cl (f := u64) (a := ((l.set (off + 1) ((l.getD (off + 1) 0) + (x * y) + 0#64)).getD (off + 0) 0) + (mulH x y) + (add64C (l.getD (off + 1) 0) (x * y) 0#64)) u64_one ti61 rfl rfl hm3.h0 sD (.inl (Nat.zero_le _))) ?_
 rintro _ w5 uq5
 have hm5 := hm3.upd0 uq5
 refine rw_nil <| fnPost_normal [] trivial ?_
 exact ⟨rfl, hm5⟩

theorem c_carry (l : List (BitVec 64)) (w0 : World)  (hl : l.length = 5) : CallsR Tryd.prog 89 #[(agg u64 l)] w0 (fun r w1 => r = (agg u64 (carryL l)) ∧ Ext w0 w1) := by
 refine callsR_of_cw (args := [(agg u64 l)]) Tryd.func89 rfl Tryd.ntmps89 Tryd.results89 rfl ?_
 have hm0 : Mem w0 (restOf w0) [] := Mem.of_world w0
 refine sR <| rw_c rfl (or_box_agg (f := u64) (l := l) hm0 rfl) ?_
 rintro _ w1 ⟨b1, rfl, _ew1, hm1⟩
 refine rw_c rfl (or_alloc_agg hm1 ti112) ?_
 rintro _ w2 ⟨b2, rfl, _ew2, hm2⟩
 refine rN (cw_seq (sR ?_))
 refine rw_q rfl (ev_move (v := (i64 0)) rfl) ?_
 refine rN (cw_block ?_)
 refine cw_loop (fun g wv => ∃ (k : Nat) (wl : List (BitVec 64)), (k ≤ 2) ∧ (wl = carN l k) ∧ g 0 = (agg u64 l) ∧ g 1 = (ptr b1 0) ∧ g 2 = (ptr b2 0) ∧ g 5 = (i64 (k : Int)) ∧ Mem wv (restOf w0) [(b2, .cells (cl u64 (List.replicate 5 0)) 112 (0, 0)), (b1, .cells (cl u64 wl) 112 (0, 0))]) (fun g wv => (2 - RowKit.intOf (g 5)).toNat) ?_ ?_
 · exact ⟨0, l, oM, rfl, rfl, rfl, rfl, rfl, hm2⟩
 · rintro fr3 w4 ⟨k, wl, hk, hw, s0, s1, s2, s5, hm4⟩
   have z5 := s5
   have hwl : wl.length = 5 := by rw [hw, carN_length, hl]
   obtain ⟨e0, e1, e2, e3, e4, rfl⟩ := list5 wl hwl
   refine sR <| rw_q rfl (ev_i64_lss (b := 2) s5 rfl) ?_
   refine rN (cw_seq ?_)
   refine cw_cond rfl (fun hc5 => ?_) (fun hc5 => ?_)
   · -- true
     have hc5p := of_decide_eq_true hc5
     refine cw_skip (kThen_normal (cw_seq (cw_block (sR ?_))))
     refine rw_q rfl (ev_assign (v := (u64 0#64)) rfl) ?_
     refine rN (cw_seq (sR ?_))
     refine rw_q rfl (ev_move (v := (i64 0)) rfl) ?_
     refine rN (cw_block ?_)
     refine cw_rounds 6 ?_
     refine cr_succ (sR ?_)
     refine rw_q rfl (ev_i64_lss (a := 0) (b := 5) rfl rfl) ?_
     refine rN (cw_seq ?_)
     refine cw_cond_t rfl (by decide) ?_
     refine cw_skip (kThen_normal (cw_seq (cw_block (sR ?_))))
     refine rw_q rfl (ev_move (v := (i64 0)) rfl) <| rw_q rfl (ev_assign (v := (i64 0)) rfl) ?_
     refine rN (sR ?_)
     refine rw_q rfl (ev_move (v := (i64 0)) rfl) <| rw_q rfl (ev_ia_arr (r := 0) (i := 0) oM uT112 ti61 s1 rfl oM oM) <| rw_q (v := (u64 e0)) rfl (ev_load1 uT61 rfl rfl hm4.h1 (get_clD _ _ 0 (by simp))) <| rw_q rfl (ev_move (v := (u64 0#64)) rfl) <| rw_q rfl (ev_u64_add (b := 0#64) rfl rfl) <| rw_q rfl (ev_ia_arr (r := 0) (i := 0) oM uT112 ti61 s1 rfl oM oM) ?_
     refine rw_n (or_store_cl' (f := u64) (l' := [e0 + 0#64, e1, e2, e3, e4]) rfl u64_one ti61 rfl rfl hm4.h1 (by simp) (.inl (Nat.zero_le _))) ?_
     rintro _ w6 uq6
     have hm6 := hm4.upd1 uq6
     refine rN ?_
     refine CW.abs (fun g => g 0 = (agg u64 l) ∧ g 1 = (ptr b1 0) ∧ g 2 = (ptr b2 0) ∧ g 3 = (u64 0#64) ∧ g 4 = (i64 0) ∧ g 5 = (i64 (k : Int)) ∧ g 6 = (bl (decide ((k : Int) < 2))) ∧ g 7 = (i64 0) ∧ g 8 = (bl true) ∧ True) ⟨s0, s1, s2, rfl, rfl, s5, rfl, rfl, rfl, trivial⟩ ?_
     rintro fr7 ⟨s0, s1, s2, s3, s4, s5, s6, s7, s8, _⟩
     refine sR <| rM rfl s4 <| rw_q rfl (ev_ia_arr (r := 0) (i := 0) oM uT112 ti61 s1 rfl oM oM) <| rw_q (v := (u64 (e0 + 0#64))) rfl (ev_load1 uT61 rfl rfl hm6.h1 (get_clD _ _ 0 (by simp))) <| rw_q rfl (ev_u64_shr (b := 51) rfl rfl oM) <| rw_q rfl (ev_assign (v := (u64 ((e0 + 0#64) >>> 51))) rfl) ?_
     refine rN (cw_region ?_)
     refine rM rfl s4 <| rw_q rfl (ev_ia_arr (r := 0) (i := 0) oM uT112 ti61 s1 rfl oM oM) <| rw_q (v := (u64 (e0 + 0#64))) rfl (ev_load1 uT61 rfl rfl hm6.h1 (get_clD _ _ 0 (by simp))) <| rw_q rfl (ev_u64_and (b := 2251799813685247#64) rfl rfl) <| rw_q rfl (ev_ia_arr (r := 0) (i := 0) oM uT112 ti61 s1 rfl oM oM) <| rw_n (or_store_cl' (f := u64) (l' := [(e0 + 0#64) &&& 2251799813685247#64, e1, e2, e3, e4]) rfl u64_one ti61 rfl rfl hm6.h1 (by simp) (.inl (Nat.zero_le _))) ?_
     rintro _ w8 uq8
     have hm8 := hm6.upd1 uq8
     refine rw_nil (kBlk_normal (cw_region ?_))
     refine rw_q (v := (i64 1)) rfl (ev_i64_add (a := 0) (b := 1) s7 rfl oM oM) <| rw_q rfl (ev_move (v := (i64 1)) rfl) <| rN ?_
     refine CR.abs (fun g => g 0 = (agg u64 l) ∧ g 1 = (ptr b1 0) ∧ g 2 = (ptr b2 0) ∧ g 3 = (u64 ((e0 + 0#64) >>> 51)) ∧ g 4 = (i64 0) ∧ g 5 = (i64 (k : Int)) ∧ g 6 = (bl (decide ((k : Int) < 2))) ∧ g 7 = (i64 1) ∧ g 8 = (bl true) ∧ True) ⟨s0, s1, s2, rfl, s4, s5, s6, rfl, s8, trivial⟩ ?_
     rintro fr9 ⟨s0, s1, s2, s3, s4, s5, s6, s7, s8, _⟩
     refine cr_succ (sR ?_)
     refine rw_q rfl (ev_i64_lss (a := 1) (b := 5) s7 rfl) ?_
     refine rN (cw_seq ?_)
     refine cw_cond_t rfl (by decide) ?_
     refine cw_skip (kThen_normal (cw_seq (cw_block (sR ?_))))
     refine rM rfl s7 <| rw_q rfl (ev_assign (v := (i64 1)) rfl) ?_
     refine rN (sR ?_)
     refine rw_q rfl (ev_move (v := (i64 1)) rfl) <| rw_q rfl (ev_ia_arr (r := 1) (i := 1) oM uT112 ti61 s1 rfl oM oM) <| rw_q (v := (u64 e1)) rfl (ev_load1 uT61 rfl rfl hm8.h1 (get_clD _ _ 0 (by simp))) <| rM rfl s3 <| rw_q rfl (ev_u64_add rfl rfl) <| rw_q rfl (ev_ia_arr (r := 1) (i := 1) oM uT112 ti61 s1 rfl oM oM) ?_
     refine rw_n (or_store_cl' (f := u64) (l' := [(e0 + 0#64) &&& 2251799813685247#64, e1 + ((e0 + 0#64) >>> 51), e2, e3, e4]) rfl u64_one ti61 rfl rfl hm8.h1 (by simp) (.inl (Nat.zero_le _))) ?_
     rintro _ w10 uq10
     have hm10 := hm8.upd1 uq10
     refine rN (sR ?_)
     refine rw_q rfl (ev_move (v := (i64 1)) rfl) <| rw_q rfl (ev_ia_arr (r := 1) (i := 1) oM uT112 ti61 s1 rfl oM oM) <| rw_q (v := (u64 (e1 + ((e0 + 0#64) >>> 51)))) rfl (ev_load1 uT61 rfl rfl hm10.h1 (get_clD _ _ 0 (by simp))) <| rw_q rfl (ev_u64_shr (b := 51) rfl rfl oM) <| rw_q rfl (ev_assign (v := (u64 ((e1 + ((e0 + 0#64) >>> 51)) >>> 51))) rfl) <| rN ?_
     refine CW.abs (fun g => g 0 = (agg u64 l) ∧ g 1 = (ptr b1 0) ∧ g 2 = (ptr b2 0) ∧ g 3 = (u64 ((e1 + ((e0 + 0#64) >>> 51)) >>> 51)) ∧ g 4 = (i64 1) ∧ g 5 = (i64 (k : Int)) ∧ g 6 = (bl (decide ((k : Int) < 2))) ∧ g 7 = (i64 1) ∧ g 8 = (bl true) ∧ True) ⟨s0, s1, s2, rfl, rfl, s5, s6, s7, rfl, trivial⟩ ?_
     rintro fr11 ⟨s0, s1, s2, s3, s4, s5, s6, s7, s8, _⟩
     refine cw_region <| rM rfl s4 <| rw_q rfl (ev_ia_arr (r := 1) (i := 1) oM uT112 ti61 s1 rfl oM oM) <| rw_q (v := (u64 (e1 + ((e0 + 0#64) >>> 51)))) rfl (ev_load1 uT61 rfl rfl hm10.h1 (get_clD _ _ 0 (by simp))) <| rw_q rfl (ev_u64_and (b := 2251799813685247#64) rfl rfl) <| rw_q rfl (ev_ia_arr (r := 1) (i := 1) oM uT112 ti61 s1 rfl oM oM) ?_
     refine rw_n (or_store_cl' (f := u64) (l' := [(e0 + 0#64) &&& 2251799813685247#64, (e1 + ((e0 + 0#64) >>> 51)) &&& 2251799813685247#64, e2, e3, e4]) rfl u64_one ti61 rfl rfl hm10.h1 (by simp) (.inl (Nat.zero_le _))) ?_
     rintro _ w12 uq12
     have hm12 := hm10.upd1 uq12
     refine rw_nil (kBlk_normal (cw_region ?_))
     refine rw_q (v := (i64 2)) rfl (ev_i64_add (a := 1) (b := 1) s7 rfl oM oM) <| rw_q rfl (ev_move (v := (i64 2)) rfl) ?_
     refine rN (cr_succ (sR ?_))
     refine rw_q rfl (ev_i64_lss (a := 2) (b := 5) rfl rfl) ?_
     refine rN (cw_seq ?_)
     refine cw_cond_t rfl (by decide) ?_
     refine cw_skip (kThen_normal (cw_seq (cw_block (sR ?_))))
     refine rw_q rfl (ev_move (v := (i64 2)) rfl) <| rw_q rfl (ev_assign (v := (i64 2)) rfl) ?_
     refine rN (sR ?_)
     refine rw_q rfl (ev_move (v := (i64 2)) rfl) <| rw_q rfl (ev_ia_arr (r := 2) (i := 2) oM uT112 ti61 s1 rfl oM oM) <| rw_q (v := (u64 e2)) rfl (ev_load1 uT61 rfl rfl hm12.h1 (get_clD _ _ 0 (by simp))) <| rM rfl s3 <| rw_q rfl (ev_u64_add rfl rfl) <| rw_q rfl (ev_ia_arr (r := 2) (i := 2) oM uT112 ti61 s1 rfl oM oM) ?_
     refine rw_n (or_store_cl' (f := u64) (l' := [(e0 + 0#64) &&& 2251799813685247#64, (e1 + ((e0 + 0#64) >>> 51)) &&& 2251799813685247#64, e2 + ((e1 + ((e0 + 0#64) >>> 51)) >>> 51), e3, e4]) rfl u64_one ti61 rfl rfl hm12.h1 (by simp) (.inl (Nat.zero_le _))) ?_
     rintro _ w13 uq13
     have hm13 := hm12.upd1 uq13
     refine rN ?_
     refine CW.abs (fun g => g 0 = (agg u64 l) ∧ g 1 = (ptr b1 0) ∧ g 2 = (ptr b2 0) ∧ g 3 = (u64 ((e1 + ((e0 + 0#64) >>> 51)) >>> 51)) ∧ g 4 = (i64 2) ∧ g 5 = (i64 (k : Int)) ∧ g 6 = (bl (decide ((k : Int) < 2))) ∧ g 7 = (i64 2) ∧ g 8 = (bl true) ∧ True) ⟨s0, s1, s2, s3, rfl, s5, s6, rfl, rfl, trivial⟩ ?_
     rintro fr14 ⟨s0, s1, s2, s3, s4, s5, s6, s7, s8, _⟩
     refine sR <| rM rfl s4 <| rw_q rfl (ev_ia_arr (r := 2) (i := 2) oM uT112 ti61 s1 rfl oM oM) <| rw_q (v := (u64 (e2 + ((e1 + ((e0 + 0#64) >>> 51)) >>> 51)))) rfl (ev_load1 uT61 rfl rfl hm13.h1 (get_clD _ _ 0 (by simp))) <| rw_q rfl (ev_u64_shr (b := 51) rfl rfl oM) <| rw_q rfl (ev_assign (v := (u64 ((e2 + ((e1 + ((e0 + 0#64) >>> 51)) >>> 51)) >>> 51))) rfl) ?_
     refine rN (cw_region ?_)
     refine rM rfl s4 <| rw_q rfl (ev_ia_arr (r := 2) (i := 2) oM uT112 ti61 s1 rfl oM oM) <| rw_q (v := (u64 (e2 + ((e1 + ((e0 + 0#64) >>> 51)) >>> 51)))) rfl (ev_load1 uT61 rfl rfl hm13.h1 (get_clD _ _ 0 (by simp))) <| rw_q rfl (ev_u64_and (b := 2251799813685247#64) rfl rfl) <| rw_q rfl (ev_ia_arr (r := 2) (i := 2) oM uT112 ti61 s1 rfl oM oM) <| rw_n (or_store_cl' (f := u64) (l' := [(e0 + 0#64) &&& 2251799813685247#64, (e1 + ((e0 + 0#64) >>> 51)) &&& 2251799813685247#64, (e2 + ((e1 + ((e0 + 0#64) >>> 51)) >>> 51)) &&& 2251799813685247#64, e3, e4]) rfl u64_one ti61 rfl rfl hm13.h1 (by simp) (.inl (Nat.zero_le _))) ?_
     rintro _ w15 uq15
     have hm15 := hm13.upd1 uq15
     refine rw_nil (kBlk_normal (cw_region ?_))
     refine rw_q (v := (i64 3)) rfl (ev_i64_add (a := 2) (b := 1) s7 rfl oM oM) <| rw_q rfl (ev_move (v := (i64 3)) rfl) <| rN ?_
     refine CR.abs (fun g => g 0 = (agg u64 l) ∧ g 1 = (ptr b1 0) ∧ g 2 = (ptr b2 0) ∧ g 3 = (u64 ((e2 + ((e1 + ((e0 + 0#64) >>> 51)) >>> 51)) >>> 51)) ∧ g 4 = (i64 2) ∧ g 5 = (i64 (k : Int)) ∧ g 6 = (bl (decide ((k : Int) < 2))) ∧ g 7 = (i64 3) ∧ g 8 = (bl true) ∧ True) ⟨s0, s1, s2, rfl, s4, s5, s6, rfl, s8, trivial⟩ ?_
     rintro fr16 ⟨s0, s1, s2, s3, s4, s5, s6, s7, s8, _⟩
     refine cr_succ (sR ?_)
     refine rw_q rfl (ev_i64_lss (a := 3) (b := 5) s7 rfl) ?_
     refine rN (cw_seq ?_)
     refine cw_cond_t rfl (by decide) ?_
     refine cw_skip (kThen_normal (cw_seq (cw_block (sR ?_))))
     refine rM rfl s7 <| rw_q rfl (ev_assign (v := (i64 3)) rfl) ?_
     refine rN (sR ?_)
     refine rw_q rfl (ev_move (v := (i64 3)) rfl) <| rw_q rfl (ev_ia_arr (r := 3) (i := 3) oM uT112 ti61 s1 rfl oM oM) <| rw_q (v := (u64 e3)) rfl (ev_load1 uT61 rfl rfl hm15.h1 (get_clD _ _ 0 (by simp))) <| rM rfl s3 <| rw_q rfl (ev_u64_add rfl rfl) <| rw_q rfl (ev_ia_arr (r := 3) (i := 3) oM uT112 ti61 s1 rfl oM oM) ?_
     refine rw_n (or_store_cl' (f := u64) (l' := [(e0 + 0#64) &&& 2251799813685247#64, (e1 + ((e0 + 0#64) >>> 51)) &&& 2251799813685247#64, (e2 + ((e1 + ((e0 + 0#64) >>> 51)) >>> 51)) &&& 2251799813685247#64, e3 + ((e2 + ((e1 + ((e0 + 0#64) >>> 51)) >>> 51)) >>> 51), e4]) rfl u64_one ti61 rfl rfl hm15.h1 (by simp) (.inl (Nat.zero_le _))) ?_
     rintro _ w17 uq17
     have hm17 := hm15.upd1 uq17
     refine rN (sR ?_)
     refine rw_q rfl (ev_move (v := (i64 3)) rfl) <| rw_q rfl (ev_ia_arr (r := 3) (i := 3) oM uT112 ti61 s1 rfl oM oM) <| rw_q (v := (u64 (e3 + ((e2 + ((e1 + ((e0 + 0#64) >>> 51)) >>> 51)) >>> 51)))) rfl (ev_load1 uT61 rfl rfl hm17.h1 (get_clD _ _ 0 (by simp))) <| rw_q rfl (ev_u64_shr (b := 51) rfl rfl oM) <| rw_q rfl (ev_assign (v := (u64 ((e3 + ((e2 + ((e1 + ((e0 + 0#64) >>> 51)) >>> 51)) >>> 51)) >>> 51))) rfl) <| rN ?_
     refine CW.abs (fun g => g 0 = (agg u64 l) ∧ g 1 = (ptr b1 0) ∧ g 2 = (ptr b2 0) ∧ g 3 = (u64 ((e3 + ((e2 + ((e1 + ((e0 + 0#64) >>> 51)) >>> 51)) >>> 51)) >>> 51)) ∧ g 4 = (i64 3) ∧ g 5 = (i64 (k : Int)) ∧ g 6 = (bl (decide ((k : Int) < 2))) ∧ g 7 = (i64 3) ∧ g 8 = (bl true) ∧ True) ⟨s0, s1, s2, rfl, rfl, s5, s6, s7, rfl, trivial⟩ ?_
     rintro fr18 ⟨s0, s1, s2, s3, s4, s5, s6, s7, s8, _⟩
     refine cw_region <| rM rfl s4 <| rw_q rfl (ev_ia_arr (r := 3) (i := 3) oM uT112 ti61 s1 rfl oM oM) <| rw_q (v := (u64 (e3 + ((e2 + ((e1 + ((e0 + 0#64) >>> 51)) >>> 51)) >>> 51)))) rfl (ev_load1 uT61 rfl rfl hm17.h1 (get_clD _ _ 0 (by simp))) <| rw_q rfl (ev_u64_and (b := 2251799813685247#64) rfl rfl) <| rw_q rfl (ev_ia_arr (r := 3) (i := 3) oM uT112 ti61 s1 rfl oM oM) ?_
     refine rw_n (or_store_cl' (f := u64) (l' := [(e0 + 0#64) &&& 2251799813685247#64, (e1 + ((e0 + 0#64) >>> 51)) &&& 2251799813685247#64, (e2 + ((e1 + ((e0 + 0#64) >>> 51)) >>> 51)) &&& 2251799813685247#64, (e3 + ((e2 + ((e1 + ((e0 + 0#64) >>> 51)) >>> 51)) >>> 51)) &&& 2251799813685247#64, e4]) rfl u64_one ti61 rfl rfl hm17.h1 (by simp) (.inl (Nat.zero_le _))) ?_
     rintro _ w19 uq19
     have hm19 := hm17.upd1 uq19
     refine rw_nil (kBlk_normal (cw_region ?_))
     refine rw_q (v := (i64 4)) rfl (ev_i64_add (a := 3) (b := 1) s7 rfl oM oM) <| rw_q rfl (ev_move (v := (i64 4)) rfl) ?_
     refine rN (cr_succ (sR ?_))
     refine rw_q rfl (ev_i64_lss (a := 4) (b := 5) rfl rfl) ?_
     refine rN (cw_seq ?_)
     refine cw_cond_t rfl (by decide) ?_
     refine cw_skip (kThen_normal (cw_seq (cw_block (sR ?_))))
     refine rw_q rfl (ev_move (v := (i64 4)) rfl) <| rw_q rfl (ev_assign (v := (i64 4)) rfl) ?_
     refine rN (sR ?_)
     refine rw_q rfl (ev_move (v := (i64 4)) rfl) <| rw_q rfl (ev_ia_arr (r := 4) (i := 4) oM uT112 ti61 s1 rfl oM oM) <| rw_q (v := (u64 e4)) rfl (ev_load1 uT61 rfl rfl hm19.h1 (get_clD _ _ 0 (by simp))) <| rM rfl s3 <| rw_q rfl (ev_u64_add rfl rfl) <| rw_q rfl (ev_ia_arr (r := 4) (i := 4) oM uT112 ti61 s1 rfl oM oM) ?_
     refine rw_n (or_store_cl' (f := u64) (l' := [(e0 + 0#64) &&& 2251799813685247#64, (e1 + ((e0 + 0#64) >>> 51)) &&& 2251799813685247#64, (e2 + ((e1 + ((e0 + 0#64) >>> 51)) >>> 51)) &&& 2251799813685247#64, (e3 + ((e2 + ((e1 + ((e0 + 0#64) >>> 51)) >>> 51)) >>> 51)) &&& 2251799813685247#64, e4 + ((e3 + ((e2 + ((e1 + ((e0 + 0#64) >>> 51)) >>> 51)) >>> 51)) >>> 51)]) rfl u64_one ti61 rfl rfl hm19.h1 (by simp) (.inl (Nat.zero_le _))) ?_
     rintro _ w20 uq20
     have hm20 := hm19.upd1 uq20
     refine rN ?_
     refine CW.abs (fun g => g 0 = (agg u64 l) ∧ g 1 = (ptr b1 0) ∧ g 2 = (ptr b2 0) ∧ g 3 = (u64 ((e3 + ((e2 + ((e1 + ((e0 + 0#64) >>> 51)) >>> 51)) >>> 51)) >>> 51)) ∧ g 4 = (i64 4) ∧ g 5 = (i64 (k : Int)) ∧ g 6 = (bl (decide ((k : Int) < 2))) ∧ g 7 = (i64 4) ∧ g 8 = (bl true) ∧ True) ⟨s0, s1, s2, s3, rfl, s5, s6, rfl, rfl, trivial⟩ ?_
     rintro fr21 ⟨s0, s1, s2, s3, s4, s5, s6, s7, s8, _⟩
     refine sR <| rM rfl s4 <| rw_q rfl (ev_ia_arr (r := 4) (i := 4) oM uT112 ti61 s1 rfl oM oM) <| rw_q (v := (u64 (e4 + ((e3 + ((e2 + ((e1 + ((e0 + 0#64) >>> 51)) >>> 51)) >>> 51)) >>> 51)))) rfl (ev_load1 uT61 rfl rfl hm20.h1 (get_clD _ _ 0 (by simp))) <| rw_q rfl (ev_u64_shr (b := 51) rfl rfl oM) <| rA rfl rfl ?_
     refine rN (cw_region ?_)
     refine rM rfl s4 <| rw_q rfl (ev_ia_arr (r := 4) (i := 4) oM uT112 ti61 s1 rfl oM oM) <| rw_q (v := (u64 (e4 + ((e3 + ((e2 + ((e1 + ((e0 + 0#64) >>> 51)) >>> 51)) >>> 51)) >>> 51)))) rfl (ev_load1 uT61 rfl rfl hm20.h1 (get_clD _ _ 0 (by simp))) <| rw_q rfl (ev_u64_and (b := 2251799813685247#64) rfl rfl) <| rw_q rfl (ev_ia_arr (r := 4) (i := 4) oM uT112 ti61 s1 rfl oM oM) <| rw_n (or_store_cl' (f := u64) (l' := [(e0 + 0#64) &&& 2251799813685247#64, (e1 + ((e0 + 0#64) >>> 51)) &&& 2251799813685247#64, (e2 + ((e1 + ((e0 + 0#64) >>> 51)) >>> 51)) &&& 2251799813685247#64, (e3 + ((e2 + ((e1 + ((e0 + 0#64) >>> 51)) >>> 51)) >>> 51)) &&& 2251799813685247#64, (e4 + ((e3 + ((e2 + ((e1 + ((e0 + 0#64) >>> 51)) >>> 51)) >>> 51)) >>> 51)) &&& 2251799813685247#64]) rfl u64_one ti61 rfl rfl hm20.h1 (by simp) (.inl (Nat.zero_le _))) ?_
     rintro _ w22 uq22
     have hm22 := hm20.upd1 uq22
     refine rw_nil (kBlk_normal (cw_region ?_))
     refine rw_q (v := (i64 5)) rfl (ev_i64_add (a := 4) (b := 1) s7 rfl oM oM) <| rw_q rfl (ev_move (v := (i64 5)) rfl) <| rN ?_
     refine CR.abs (fun g => g 0 = (agg u64 l) ∧ g 1 = (ptr b1 0) ∧ g 2 = (ptr b2 0) ∧ g 3 = (u64 ((e4 + ((e3 + ((e2 + ((e1 + ((e0 + 0#64) >>> 51)) >>> 51)) >>> 51)) >>> 51)) >>> 51)) ∧ g 4 = (i64 4) ∧ g 5 = (i64 (k : Int)) ∧ g 6 = (bl (decide ((k : Int) < 2))) ∧ g 7 = (i64 5) ∧ g 8 = (bl true) ∧ True) ⟨s0, s1, s2, rfl, s4, s5, s6, rfl, s8, trivial⟩ ?_
     rintro fr23 ⟨s0, s1, s2, s3, s4, s5, s6, s7, s8, _⟩
     refine cr_succ (sR ?_)
     refine rw_q rfl (ev_i64_lss (a := 5) (b := 5) s7 rfl) ?_
     refine rN (cw_seq ?_)
     refine cw_cond_f rfl (by decide) <| cw_exit ?_
     refine kThen_exit (kThen_exit (kBlk_hit ?_))
     refine cw_region <| rw_q rfl (ev_ia_arr (r := 0) (i := 0) oM uT112 ti61 s1 rfl oM oM) <| rw_q (v := (u64 ((e0 + 0#64) &&& 2251799813685247#64))) rfl (ev_load1 uT61 rfl rfl hm22.h1 (get_clD _ _ 0 (by simp))) <| rM rfl s3 <| rw_q rfl (ev_u64_mul (a := 19#64) rfl rfl) <| rw_q rfl (ev_u64_add rfl rfl) ?_
     refine rw_q rfl (ev_ia_arr (r := 0) (i := 0) oM uT112 ti61 s1 rfl oM oM) <| rw_n (or_store_cl' (f := u64) (l' := [((e0 + 0#64) &&& 2251799813685247#64) + (19#64 * ((e4 + ((e3 + ((e2 + ((e1 + ((e0 + 0#64) >>> 51)) >>> 51)) >>> 51)) >>> 51)) >>> 51)), (e1 + ((e0 + 0#64) >>> 51)) &&& 2251799813685247#64, (e2 + ((e1 + ((e0 + 0#64) >>> 51)) >>> 51)) &&& 2251799813685247#64, (e3 + ((e2 + ((e1 + ((e0 + 0#64) >>> 51)) >>> 51)) >>> 51)) &&& 2251799813685247#64, (e4 + ((e3 + ((e2 + ((e1 + ((e0 + 0#64) >>> 51)) >>> 51)) >>> 51)) >>> 51)) &&& 2251799813685247#64]) rfl u64_one ti61 rfl rfl hm22.h1 (by simp) (.inl (Nat.zero_le _))) ?_
     rintro _ w24 uq24
     have hm24 := hm22.upd1 uq24
     refine rw_nil (kBlk_normal (cw_region ?_))
     refine rw_q rfl (ev_i64_add (b := 1) s5 rfl oM oM) <| rw_q rfl (ev_move (v := (i64 ((k : Int) + 1))) rfl) <| rN ?_
     have hwn : [((e0 + 0#64) &&& 2251799813685247#64) + (19#64 * ((e4 + ((e3 + ((e2 + ((e1 + ((e0 + 0#64) >>> 51)) >>> 51)) >>> 51)) >>> 51)) >>> 51)), (e1 + ((e0 + 0#64) >>> 51)) &&& 2251799813685247#64, (e2 + ((e1 + ((e0 + 0#64) >>> 51)) >>> 51)) &&& 2251799813685247#64, (e3 + ((e2 + ((e1 + ((e0 + 0#64) >>> 51)) >>> 51)) >>> 51)) &&& 2251799813685247#64, (e4 + ((e3 + ((e2 + ((e1 + ((e0 + 0#64) >>> 51)) >>> 51)) >>> 51)) >>> 51)) &&& 2251799813685247#64] = carN l (k + 1) := by show _ = carry1 (carN l k); rw [← hw]; rfl
     exact ⟨⟨k + 1, ([((e0 + 0#64) &&& 2251799813685247#64) + (19#64 * ((e4 + ((e3 + ((e2 + ((e1 + ((e0 + 0#64) >>> 51)) >>> 51)) >>> 51)) >>> 51)) >>> 51)), (e1 + ((e0 + 0#64) >>> 51)) &&& 2251799813685247#64, (e2 + ((e1 + ((e0 + 0#64) >>> 51)) >>> 51)) &&& 2251799813685247#64, (e3 + ((e2 + ((e1 + ((e0 + 0#64) >>> 51)) >>> 51)) >>> 51)) &&& 2251799813685247#64, (e4 + ((e3 + ((e2 + ((e1 + ((e0 + 0#64) >>> 51)) >>> 51)) >>> 51)) >>> 51)) &&& 2251799813685247#64]), oM, hwn, s0, s1, s2, rfl, hm24⟩, meas rfl z5 oM oM⟩
   · -- false
     have hc5p := of_decide_eq_false hc5
     obtain rfl : k = 2 := by omega
     refine cw_exit ?_
     refine kThen_exit (kThen_exit (kBlk_hit ?_))
     refine sR <| rw_q (v := (agg u64 ([e0, e1, e2, e3, e4]))) rfl (ev_loadA uT112 rfl ti112 s1 hm4.h1 sZ) <| rw_n (or_store_agg (f := u64) (l := [e0, e1, e2, e3, e4]) u64_one ti112 s2 rfl sD hm4.h0 sZ rfl) ?_
     rintro _ w25 uq25
     have hm25 := hm4.upd0 uq25
     refine rN (cw_ret ?_)
     refine fnPost_ret [(agg u64 ([e0, e1, e2, e3, e4]))] ⟨⟨_, s2, loadVar_run uT112 rfl ti112 hm25.h0 sZ⟩, trivial⟩ ?_
     exact ⟨congrArg (agg u64) hw, hm25.toExt⟩

theorem c_sum5 (a b : List (BitVec 64)) (w0 : World)  (ha : a.length = 5) (hb : b.length = 5) : CallsR Tryd.prog 85 #[(agg u64 a), (agg u64 b)] w0 (fun r w1 => r = (agg u64 (sumL a b)) ∧ Ext w0 w1) := by
 refine callsR_of_cw (args := [(agg u64 a), (agg u64 b)]) Tryd.func85 rfl Tryd.ntmps85 Tryd.results85 rfl ?_
 have hm0 : Mem w0 (restOf w0) [] := Mem.of_world w0
 obtain ⟨x0, x1, x2, x3, x4, rfl⟩ := list5 a ha
 obtain ⟨y0, y1, y2, y3, y4, rfl⟩ := list5 b hb
 refine sR <| rw_c rfl (or_box_agg (f := u64) (l := [x0, x1, x2, x3, x4]) hm0 rfl) ?_
 rintro _ w1 ⟨b2, rfl, _ew1, hm1⟩
 refine rw_c rfl (or_box_agg (f := u64) (l := [y0, y1, y2, y3, y4]) hm1 rfl) ?_
 rintro _ w2 ⟨b3, rfl, _ew2, hm2⟩
 refine rw_c rfl (or_alloc_agg hm2 ti112) ?_
 rintro _ w3 ⟨b4, rfl, _ew3, hm3⟩
 refine rN (cw_seq (sR ?_))
 refine rw_q rfl (ev_move (v := (i64 0)) rfl) ?_
 refine rN (cw_block ?_)
 refine cw_rounds 6 ?_
 refine cr_succ (sR ?_)
 refine rw_q rfl (ev_i64_lss (a := 0) (b := 5) rfl rfl) ?_
 refine rN (cw_seq ?_)
 refine cw_cond_t rfl (by decide) ?_
 refine cw_skip (kThen_normal (cw_seq (cw_block (sR ?_))))
 refine rw_q rfl (ev_move (v := (i64 0)) rfl) <| rw_q rfl (ev_assign (v := (i64 0)) rfl) <| rN <| cw_draw [(0, false), (1, false), (2, false), (3, false), (4, false), (5, false), (6, false), (7, false)] 8 (by kernel_rfl) <| dw_q rfl rfl (fun _ _hx => ev_move (v := (i64 0)) rfl) <| dw_q rfl rfl (fun _ _hx => ev_move (v := (i64 0)) rfl) ?_
 refine dw_q rfl rfl (fun _ _hx => ev_ia_arr (r := 0) (i := 0) oM uT112 ti61 rfl rfl oM oM) <| dw_q (v := (u64 x0)) rfl rfl (fun _ _hx => ev_load1 uT61 rfl rfl (hm3.ext _hx).h2 (get_clD _ _ 0 (by simp))) <| dw_q rfl rfl (fun _ _hx => ev_move (v := (i64 0)) rfl) <| dw_q rfl rfl (fun _ _hx => ev_ia_arr (r := 0) (i := 0) oM uT112 ti61 rfl rfl oM oM) <| dw_q (v := (u64 y0)) rfl rfl (fun _ _hx => ev_load1 uT61 rfl rfl (hm3.ext _hx).h1 (get_clD _ _ 0 (by simp))) <| dw_q rfl rfl (fun _ _hx => ev_u64_add rfl rfl) ?_
 refine dw_nil (fun w4 _ew4 => ?_)
 have hm4 := hm3.ext _ew4
 refine rw_q rfl (ev_ia_arr (r := 0) (i := 0) oM uT112 ti61 rfl rfl oM oM) <| rw_n (or_store_cl' (f := u64) (l' := [x0 + y0, 0, 0, 0, 0]) rfl u64_one ti61 rfl rfl hm4.h0 (by simp) (.inl (Nat.zero_le _))) ?_
 rintro _ w5 uq5
 have hm5 := hm4.upd0 uq5
 refine rw_nil (kBlk_normal ?_)
 refine CW.abs (fun g => g 0 = (agg u64 ([x0, x1, x2, x3, x4])) ∧ g 1 = (agg u64 ([y0, y1, y2, y3, y4])) ∧ g 2 = (ptr b2 0) ∧ g 3 = (ptr b3 0) ∧ g 4 = (ptr b4 0) ∧ g 5 = (i64 0) ∧ g 6 = (i64 0) ∧ g 7 = (bl true) ∧ True) ⟨rfl, rfl, rfl, rfl, rfl, rfl, rfl, rfl, trivial⟩ ?_
 rintro fr6 ⟨s0, s1, s2, s3, s4, s5, s6, s7, _⟩
 refine cw_region <| rw_q (v := (i64 1)) rfl (ev_i64_add (a := 0) (b := 1) s6 rfl oM oM) <| rw_q rfl (ev_move (v := (i64 1)) rfl) ?_
 refine rN (cr_succ (sR ?_))
 refine rw_q rfl (ev_i64_lss (a := 1) (b := 5) rfl rfl) ?_
 refine rN (cw_seq ?_)
 refine cw_cond_t rfl (by decide) ?_
 refine cw_skip (kThen_normal (cw_seq (cw_block (sR ?_))))
 refine rw_q rfl (ev_move (v := (i64 1)) rfl) <| rw_q rfl (ev_assign (v := (i64 1)) rfl) <| rN <| cw_draw [(0, false), (1, false), (2, false), (3, false), (4, false), (5, false), (6, false), (7, false)] 8 (by kernel_rfl) <| dw_q rfl rfl (fun _ _hx => ev_move (v := (i64 1)) rfl) <| dw_q rfl rfl (fun _ _hx => ev_move (v := (i64 1)) rfl) ?_
 refine dw_q rfl rfl (fun _ _hx => ev_ia_arr (r := 1) (i := 1) oM uT112 ti61 s2 rfl oM oM) <| dw_q (v := (u64 x1)) rfl rfl (fun _ _hx => ev_load1 uT61 rfl rfl (hm5.ext _hx).h2 (get_clD _ _ 0 (by simp))) <| dw_q rfl rfl (fun _ _hx => ev_move (v := (i64 1)) rfl) <| dw_q rfl rfl (fun _ _hx => ev_ia_arr (r := 1) (i := 1) oM uT112 ti61 s3 rfl oM oM) <| dw_q (v := (u64 y1)) rfl rfl (fun _ _hx => ev_load1 uT61 rfl rfl (hm5.ext _hx).h1 (get_clD _ _ 0 (by simp))) <| dw_q rfl rfl (fun _ _hx => ev_u64_add rfl rfl) ?_
 refine dw_nil (fun w7 _ew7 => ?_)
 have hm7 := hm5.ext _ew7
 refine rw_q rfl (ev_ia_arr (r := 1) (i := 1) oM uT112 ti61 s4 rfl oM oM) <| rw_n (or_store_cl' (f := u64) (l' := [x0 + y0, x1 + y1, 0, 0, 0]) rfl u64_one ti61 rfl rfl hm7.h0 (by simp) (.inl (Nat.zero_le _))) ?_
 rintro _ w8 uq8
 have hm8 := hm7.upd0 uq8
 refine rw_nil (kBlk_normal ?_)
 refine CW.abs (fun g => g 0 = (agg u64 ([x0, x1, x2, x3, x4])) ∧ g 1 = (agg u64 ([y0, y1, y2, y3, y4])) ∧ g 2 = (ptr b2 0) ∧ g 3 = (ptr b3 0) ∧ g 4 = (ptr b4 0) ∧ g 5 = (i64 1) ∧ g 6 = (i64 1) ∧ g 7 = (bl true) ∧ True) ⟨s0, s1, s2, s3, s4, rfl, rfl, rfl, trivial⟩ ?_
 rintro fr9 ⟨s0, s1, s2, s3, s4, s5, s6, s7, _⟩
 refine cw_region <| rw_q (v := (i64 2)) rfl (ev_i64_add (a := 1) (b := 1) s6 rfl oM oM) <| rw_q rfl (ev_move (v := (i64 2)) rfl) ?_
 refine rN (cr_succ (sR ?_))
 refine rw_q rfl (ev_i64_lss (a := 2) (b := 5) rfl rfl) ?_
 refine rN (cw_seq ?_)
 refine cw_cond_t rfl (by decide) ?_
 refine cw_skip (kThen_normal (cw_seq (cw_block (sR ?_))))
 refine rw_q rfl (ev_move (v := (i64 2)) rfl) <| rw_q rfl (ev_assign (v := (i64 2)) rfl) <| rN <| cw_draw [(0, false), (1, false), (2, false), (3, false), (4, false), (5, false), (6, false), (7, false)] 8 (by kernel_rfl) <| dw_q rfl rfl (fun _ _hx => ev_move (v := (i64 2)) rfl) <| dw_q rfl rfl (fun _ _hx => ev_move (v := (i64 2)) rfl) ?_
 refine dw_q rfl rfl (fun _ _hx => ev_ia_arr (r := 2) (i := 2) oM uT112 ti61 s2 rfl oM oM) <| dw_q (v := (u64 x2)) rfl rfl (fun _ _hx => ev_load1 uT61 rfl rfl (hm8.ext _hx).h2 (get_clD _ _ 0 (by simp))) <| dw_q rfl rfl (fun _ _hx => ev_move (v := (i64 2)) rfl) <| dw_q rfl rfl (fun _ _hx => ev_ia_arr (r := 2) (i := 2) oM uT112 ti61 s3 rfl oM oM) <| dw_q (v := (u64 y2)) rfl rfl (fun _ _hx => ev_load1 uT61 rfl rfl (hm8.ext _hx).h1 (get_clD _ _ 0 (by simp))) <| dw_q rfl rfl (fun _ _hx => ev_u64_add rfl rfl) ?_
 refine dw_nil (fun w10 _ew10 => ?_)
 have hm10 := hm8.ext _ew10
 refine rw_q rfl (ev_ia_arr (r := 2) (i := 2) oM uT112 ti61 s4 rfl oM oM) <| rw_n (or_store_cl' (f := u64) (l' := [x0 + y0, x1 + y1, x2 + y2, 0, 0]) rfl u64_one ti61 rfl rfl hm10.h0 (by simp) (.inl (Nat.zero_le _))) ?_
 rintro _ w11 uq11
 have hm11 := hm10.upd0 uq11
 refine rw_nil (kBlk_normal ?_)
 refine CW.abs (fun g => g 0 = (agg u64 ([x0, x1, x2, x3, x4])) ∧ g 1 = (agg u64 ([y0, y1, y2, y3, y4])) ∧ g 2 = (ptr b2 0) ∧ g 3 = (ptr b3 0) ∧ g 4 = (ptr b4 0) ∧ g 5 = (i64 2) ∧ g 6 = (i64 2) ∧ g 7 = (bl true) ∧ True) ⟨s0, s1, s2, s3, s4, rfl, rfl, rfl, trivial⟩ ?_
 rintro fr12 ⟨s0, s1, s2, s3, s4, s5, s6, s7, _⟩
 refine cw_region <| rw_q (v := (i64 3)) rfl (ev_i64_add (a := 2) (b := 1) s6 rfl oM oM) <| rw_q rfl (ev_move (v := (i64 3)) rfl) ?_
 refine rN (cr_succ (sR ?_))
 refine rw_q rfl (ev_i64_lss (a := 3) (b := 5) rfl rfl) ?_
 refine rN (cw_seq ?_)
 refine cw_cond_t rfl (by decide) ?_
 refine cw_skip (kThen_normal (cw_seq (cw_block (sR ?_))))
 refine rw_q rfl (ev_move (v := (i64 3)) rfl) <| rw_q rfl (ev_assign (v := (i64 3)) rfl) <| rN <| cw_draw [(0, false), (1, false), (2, false), (3, false), (4, false), (5, false), (6, false), (7, false)] 8 (by kernel_rfl) <| dw_q rfl rfl (fun _ _hx => ev_move (v := (i64 3)) rfl) <| dw_q rfl rfl (fun _ _hx => ev_move (v := (i64 3)) rfl) ?_
 refine dw_q rfl rfl (fun _ _hx => ev_ia_arr (r := 3) (i := 3) oM uT112 ti61 s2 rfl oM oM) <| dw_q (v := (u64 x3)) rfl rfl (fun _ _hx => ev_load1 uT61 rfl rfl (hm11.ext _hx).h2 (get_clD _ _ 0 (by simp))) <| dw_q rfl rfl (fun _ _hx => ev_move (v := (i64 3)) rfl) <| dw_q rfl rfl (fun _ _hx => ev_ia_arr (r := 3) (i := 3) oM uT112 ti61 s3 rfl oM oM) <| dw_q (v := (u64 y3)) rfl rfl (fun _ _hx => ev_load1 uT61 rfl rfl (hm11.ext _hx).h1 (get_clD _ _ 0 (by simp))) <| dw_q rfl rfl (fun _ _hx => ev_u64_add rfl rfl) ?_
 refine dw_nil (fun w13 _ew13 => ?_)
 have hm13 := hm11.ext _ew13
 refine rw_q rfl (ev_ia_arr (r := 3) (i := 3) oM uT112 ti61 s4 rfl oM oM) <| rw_n (or_store_cl' (f := u64) (l' := [x0 + y0, x1 + y1, x2 + y2, x3 + y3, 0]) rfl u64_one ti61 rfl rfl hm13.h0 (by simp) (.inl (Nat.zero_le _))) ?_
 rintro _ w14 uq14
 have hm14 := hm13.upd0 uq14
 refine rw_nil (kBlk_normal ?_)
 refine CW.abs (fun g => g 0 = (agg u64 ([x0, x1, x2, x3, x4])) ∧ g 1 = (agg u64 ([y0, y1, y2, y3, y4])) ∧ g 2 = (ptr b2 0) ∧ g 3 = (ptr b3 0) ∧ g 4 = (ptr b4 0) ∧ g 5 = (i64 3) ∧ g 6 = (i64 3) ∧ g 7 = (bl true) ∧ True) ⟨s0, s1, s2, s3, s4, rfl, rfl, rfl, trivial⟩ ?_
 rintro fr15 ⟨s0, s1, s2, s3, s4, s5, s6, s7, _⟩
 refine cw_region <| rw_q (v := (i64 4)) rfl (ev_i64_add (a := 3) (b := 1) s6 rfl oM oM) <| rw_q rfl (ev_move (v := (i64 4)) rfl) ?_
 refine rN (cr_succ (sR ?_))
 refine rw_q rfl (ev_i64_lss (a := 4) (b := 5) rfl rfl) ?_
 refine rN (cw_seq ?_)
 refine cw_cond_t rfl (by decide) ?_
 refine cw_skip (kThen_normal (cw_seq (cw_block (sR ?_))))
 refine rw_q rfl (ev_move (v := (i64 4)) rfl) <| rw_q rfl (ev_assign (v := (i64 4)) rfl) <| rN <| cw_draw [(0, false), (1, false), (2, false), (3, false), (4, false), (5, false), (6, false), (7, false)] 8 (by kernel_rfl) <| dw_q rfl rfl (fun _ _hx => ev_move (v := (i64 4)) rfl) <| dw_q rfl rfl (fun _ _hx => ev_move (v := (i64 4)) rfl) ?_
 refine dw_q rfl rfl (fun _ _hx => ev_ia_arr (r := 4) (i := 4) oM uT112 ti61 s2 rfl oM oM) <| dw_q (v := (u64 x4)) rfl rfl (fun _ _hx => ev_load1 uT61 rfl rfl (hm14.ext _hx).h2 (get_clD _ _ 0 (by simp))) <| dw_q rfl rfl (fun _ _hx => ev_move (v := (i64 4)) rfl) <| dw_q rfl rfl (fun _ _hx => ev_ia_arr (r := 4) (i := 4) oM uT112 ti61 s3 rfl oM oM) <| dw_q (v := (u64 y4)) rfl rfl (fun _ _hx => ev_load1 uT61 rfl rfl (hm14.ext _hx).h1 (get_clD _ _ 0 (by simp))) <| dw_q rfl rfl (fun _ _hx => ev_u64_add rfl rfl) ?_
 refine dw_nil (fun w16 _ew16 => ?_)
 have hm16 := hm14.ext _ew16
 refine rw_q rfl (ev_ia_arr (r := 4) (i := 4) oM uT112 ti61 s4 rfl oM oM) <| rw_n (or_store_cl' (f := u64) (l' := [x0 + y0, x1 + y1, x2 + y2, x3 + y3, x4 + y4]) rfl u64_one ti61 rfl rfl hm16.h0 (by simp) (.inl (Nat.zero_le _))) ?_
 rintro _ w17 uq17
 have hm17 := hm16.upd0 uq17
 refine rw_nil (kBlk_normal ?_)
 refine CW.abs (fun g => g 0 = (agg u64 ([x0, x1, x2, x3, x4])) ∧ g 1 = (agg u64 ([y0, y1, y2, y3, y4])) ∧ g 2 = (ptr b2 0) ∧ g 3 = (ptr b3 0) ∧ g 4 = (ptr b4 0) ∧ g 5 = (i64 4) ∧ g 6 = (i64 4) ∧ g 7 = (bl true) ∧ True) ⟨s0, s1, s2, s3, s4, rfl, rfl, rfl, trivial⟩ ?_
 rintro fr18 ⟨s0, s1, s2, s3, s4, s5, s6, s7, _⟩
 refine cw_region <| rw_q (v := (i64 5)) rfl (ev_i64_add (a := 4) (b := 1) s6 rfl oM oM) <| rw_q rfl (ev_move (v := (i64 5)) rfl) ?_
 refine rN (cr_succ (sR ?_))
 refine rw_q rfl (ev_i64_lss (a := 5) (b := 5) rfl rfl) ?_
 refine rN (cw_seq ?_)
 refine cw_cond_f rfl (by decide) <| cw_exit ?_
 refine kThen_exit (kThen_exit (kBlk_hit ?_))
 refine sR <| rw_q (v := (agg u64 ([x0 + y0, x1 + y1, x2 + y2, x3 + y3, x4 + y4]))) rfl (ev_loadA uT112 rfl ti112 s4 hm17.h0 sZ) <| rw_c rfl (opR_call Tryd.func89 bd89 nm89 (args1 rfl) (c_carry ([x0 + y0, x1 + y1, x2 + y2, x3 + y3, x4 + y4]) _ sD)) ?_
 rintro _ w19 ⟨rfl, _ew19⟩
 have hm19 := hm17.ext _ew19
 refine rw_n (or_store_agg (f := u64) (l := carryL ([x0 + y0, x1 + y1, x2 + y2, x3 + y3, x4 + y4])) u64_one ti112 s4 rfl sD hm19.h0 sZ rfl) ?_
 rintro _ w21 uq21
 have hm21 := hm19.upd0 uq21
 refine rN (cw_ret ?_)
 refine fnPost_ret [(agg u64 (carryL ([x0 + y0, x1 + y1, x2 + y2, x3 + y3, x4 + y4])))] ⟨⟨_, s4, loadVar_run uT112 rfl ti112 hm21.h0 sZ⟩, trivial⟩ ?_
 exact ⟨rfl, hm21.toExt⟩

theorem c_less5 (a b : List (BitVec 64)) (w0 : World)  (ha : a.length = 5) (hb : b.length = 5) : CallsR Tryd.prog 86 #[(agg u64 a), (agg u64 b)] w0 (fun r w1 => r = (agg u64 (lessL a b)) ∧ Ext w0 w1) := by
 refine callsR_of_cw (args := [(agg u64 a), (agg u64 b)]) Tryd.func86 rfl Tryd.ntmps86 Tryd.results86 rfl ?_
 have hm0 : Mem w0 (restOf w0) [] := Mem.of_world w0
 obtain ⟨x0, x1, x2, x3, x4, rfl⟩ := list5 a ha
 obtain ⟨y0, y1, y2, y3, y4, rfl⟩ := list5 b hb
 refine sR <| rw_c rfl (or_box_agg (f := u64) (l := [x0, x1, x2, x3, x4]) hm0 rfl) ?_
 rintro _ w1 ⟨b2, rfl, _ew1, hm1⟩
 refine rw_c rfl (or_box_agg (f := u64) (l := [y0, y1, y2, y3, y4]) hm1 rfl) ?_
 rintro _ w2 ⟨b3, rfl, _ew2, hm2⟩
 refine rw_c rfl (or_alloc_agg hm2 ti112) ?_
 rintro _ w3 ⟨b4, rfl, _ew3, hm3⟩
 refine rN (cw_seq (sR ?_))
 refine rw_q rfl (ev_move (v := (i64 0)) rfl) ?_
 refine rN (cw_block ?_)
 refine cw_rounds 6 ?_
 refine cr_succ (sR ?_)
 refine rw_q rfl (ev_i64_lss (a := 0) (b := 5) rfl rfl) ?_
 refine rN (cw_seq ?_)
 refine cw_cond_t rfl (by decide) ?_
 refine cw_skip (kThen_normal (cw_seq (cw_block (sR ?_))))
 refine rw_q rfl (ev_move (v := (i64 0)) rfl) <| rw_q rfl (ev_assign (v := (i64 0)) rfl) <| rN <| cw_draw [(0, false), (1, false), (2, false), (3, false), (4, false), (5, false), (6, false), (7, false), (8, false)] 9 (by kernel_rfl) <| dw_q rfl rfl (fun _ _hx => ev_move (v := (i64 0)) rfl) <| dw_q rfl rfl (fun _ _hx => ev_move (v := (i64 0)) rfl) ?_
 refine dw_q rfl rfl (fun _ _hx => ev_ia_arr (r := 0) (i := 0) oM uT112 ti61 rfl rfl oM oM) <| dw_q (v := (u64 x0)) rfl rfl (fun _ _hx => ev_load1 uT61 rfl rfl (hm3.ext _hx).h2 (get_clD _ _ 0 (by simp))) <| dw_q rfl rfl (fun _ _hx => ev_u64_add (b := 4503599627370494#64) rfl rfl) <| dw_q rfl rfl (fun _ _hx => ev_move (v := (i64 0)) rfl) <| dw_q rfl rfl (fun _ _hx => ev_ia_arr (r := 0) (i := 0) oM uT112 ti61 rfl rfl oM oM) <| dw_q (v := (u64 y0)) rfl rfl (fun _ _hx => ev_load1 uT61 rfl rfl (hm3.ext _hx).h1 (get_clD _ _ 0 (by simp))) ?_
 refine dw_q rfl rfl (fun _ _hx => ev_u64_sub rfl rfl) ?_
 refine dw_nil (fun w4 _ew4 => ?_)
 have hm4 := hm3.ext _ew4
 refine rw_q rfl (ev_ia_arr (r := 0) (i := 0) oM uT112 ti61 rfl rfl oM oM) <| rw_n (or_store_cl' (f := u64) (l' := [(x0 + 4503599627370494#64) - y0, 0, 0, 0, 0]) rfl u64_one ti61 rfl rfl hm4.h0 (by simp) (.inl (Nat.zero_le _))) ?_
 rintro _ w5 uq5
 have hm5 := hm4.upd0 uq5
 refine rw_nil (kBlk_normal ?_)
 refine CW.abs (fun g => g 0 = (agg u64 ([x0, x1, x2, x3, x4])) ∧ g 1 = (agg u64 ([y0, y1, y2, y3, y4])) ∧ g 2 = (ptr b2 0) ∧ g 3 = (ptr b3 0) ∧ g 4 = (ptr b4 0) ∧ g 5 = (i64 0) ∧ g 6 = (i64 0) ∧ g 7 = (bl true) ∧ True) ⟨rfl, rfl, rfl, rfl, rfl, rfl, rfl, rfl, trivial⟩ ?_
 rintro fr6 ⟨s0, s1, s2, s3, s4, s5, s6, s7, _⟩
 refine cw_region <| rw_q (v := (i64 1)) rfl (ev_i64_add (a := 0) (b := 1) s6 rfl oM oM) <| rw_q rfl (ev_move (v := (i64 1)) rfl) ?_
 refine rN (cr_succ (sR ?_))
 refine rw_q rfl (ev_i64_lss (a := 1) (b := 5) rfl rfl) ?_
 refine rN (cw_seq ?_)
 refine cw_cond_t rfl (by decide) ?_
 refine cw_skip (kThen_normal (cw_seq (cw_block (sR ?_))))
 refine rw_q rfl (ev_move (v := (i64 1)) rfl) <| rw_q rfl (ev_assign (v := (i64 1)) rfl) <| rN <| cw_draw [(0, false), (1, false), (2, false), (3, false), (4, false), (5, false), (6, false), (7, false), (8, false)] 9 (by kernel_rfl) <| dw_q rfl rfl (fun _ _hx => ev_move (v := (i64 1)) rfl) <| dw_q rfl rfl (fun _ _hx => ev_move (v := (i64 1)) rfl) ?_
 refine dw_q rfl rfl (fun _ _hx => ev_ia_arr (r := 1) (i := 1) oM uT112 ti61 s2 rfl oM oM) <| dw_q (v := (u64 x1)) rfl rfl (fun _ _hx => ev_load1 uT61 rfl rfl (hm5.ext _hx).h2 (get_clD _ _ 0 (by simp))) <| dw_q rfl rfl (fun _ _hx => ev_u64_add (b := 4503599627370494#64) rfl rfl) <| dw_q rfl rfl (fun _ _hx => ev_move (v := (i64 1)) rfl) <| dw_q rfl rfl (fun _ _hx => ev_ia_arr (r := 1) (i := 1) oM uT112 ti61 s3 rfl oM oM) <| dw_q (v := (u64 y1)) rfl rfl (fun _ _hx => ev_load1 uT61 rfl rfl (hm5.ext _hx).h1 (get_clD _ _ 0 (by simp))) ?_
 refine dw_q rfl rfl (fun _ _hx => ev_u64_sub rfl rfl) ?_
 refine dw_nil (fun w7 _ew7 => ?_)
 have hm7 := hm5.ext _ew7
 refine rw_q rfl (ev_ia_arr (r := 1) (i := 1) oM uT112 ti61 s4 rfl oM oM) <| rw_n (or_store_cl' (f := u64) (l' := [(x0 + 4503599627370494#64) - y0, (x1 + 4503599627370494#64) - y1, 0, 0, 0]) rfl u64_one ti61 rfl rfl hm7.h0 (by simp) (.inl (Nat.zero_le _))) ?_
 rintro _ w8 uq8
 have hm8 := hm7.upd0 uq8
 refine rw_nil (kBlk_normal ?_)
 refine CW.abs (fun g => g 0 = (agg u64 ([x0, x1, x2, x3, x4])) ∧ g 1 = (agg u64 ([y0, y1, y2, y3, y4])) ∧ g 2 = (ptr b2 0) ∧ g 3 = (ptr b3 0) ∧ g 4 = (ptr b4 0) ∧ g 5 = (i64 1) ∧ g 6 = (i64 1) ∧ g 7 = (bl true) ∧ True) ⟨s0, s1, s2, s3, s4, rfl, rfl, rfl, trivial⟩ ?_
 rintro fr9 ⟨s0, s1, s2, s3, s4, s5, s6, s7, _⟩
 refine cw_region <| rw_q (v := (i64 2)) rfl (ev_i64_add (a := 1) (b := 1) s6 rfl oM oM) <| rw_q rfl (ev_move (v := (i64 2)) rfl) ?_
 refine rN (cr_succ (sR ?_))
 refine rw_q rfl (ev_i64_lss (a := 2) (b := 5) rfl rfl) ?_
 refine rN (cw_seq ?_)
 refine cw_cond_t rfl (by decide) ?_
 refine cw_skip (kThen_normal (cw_seq (cw_block (sR ?_))))
 refine rw_q rfl (ev_move (v := (i64 2)) rfl) <| rw_q rfl (ev_assign (v := (i64 2)) rfl) <| rN <| cw_draw [(0, false), (1, false), (2, false), (3, false), (4, false), (5, false), (6, false), (7, false), (8, false)] 9 (by kernel_rfl) <| dw_q rfl rfl (fun _ _hx => ev_move (v := (i64 2)) rfl) <| dw_q rfl rfl (fun _ _hx => ev_move (v := (i64 2)) rfl) ?_
 refine dw_q rfl rfl (fun _ _hx => ev_ia_arr (r := 2) (i := 2) oM uT112 ti61 s2 rfl oM oM) <| dw_q (v := (u64 x2)) rfl rfl (fun _ _hx => ev_load1 uT61 rfl rfl (hm8.ext _hx).h2 (get_clD _ _ 0 (by simp))) <| dw_q rfl rfl (fun _ _hx => ev_u64_add (b := 4503599627370494#64) rfl rfl) <| dw_q rfl rfl (fun _ _hx => ev_move (v := (i64 2)) rfl) <| dw_q rfl rfl (fun _ _hx => ev_ia_arr (r := 2) (i := 2) oM uT112 ti61 s3 rfl oM oM) <| dw_q (v := (u64 y2)) rfl rfl (fun _ _hx => ev_load1 uT61 rfl rfl (hm8.ext _hx).h1 (get_clD _ _ 0 (by simp))) ?_
 refine dw_q rfl rfl (fun _ _hx => ev_u64_sub rfl rfl) ?_
 refine dw_nil (fun w10 _ew10 => ?_)
 have hm10 := hm8.ext _ew10
 refine rw_q rfl (ev_ia_arr (r := 2) (i := 2) oM uT112 ti61 s4 rfl oM oM) <| rw_n (or_store_cl' (f := u64) (l' := [(x0 + 4503599627370494#64) - y0, (x1 + 4503599627370494#64) - y1, (x2 + 4503599627370494#64) - y2, 0, 0]) rfl u64_one ti61 rfl rfl hm10.h0 (by simp) (.inl (Nat.zero_le _))) ?_
 rintro _ w11 uq11
 have hm11 := hm10.upd0 uq11
 refine rw_nil (kBlk_normal ?_)
 refine CW.abs (fun g => g 0 = (agg u64 ([x0, x1, x2, x3, x4])) ∧ g 1 = (agg u64 ([y0, y1, y2, y3, y4])) ∧ g 2 = (ptr b2 0) ∧ g 3 = (ptr b3 0) ∧ g 4 = (ptr b4 0) ∧ g 5 = (i64 2) ∧ g 6 = (i64 2) ∧ g 7 = (bl true) ∧ True) ⟨s0, s1, s2, s3, s4, rfl, rfl, rfl, trivial⟩ ?_
 rintro fr12 ⟨s0, s1, s2, s3, s4, s5, s6, s7, _⟩
 refine cw_region <| rw_q (v := (i64 3)) rfl (ev_i64_add (a := 2) (b := 1) s6 rfl oM oM) <| rw_q rfl (ev_move (v := (i64 3)) rfl) ?_
 refine rN (cr_succ (sR ?_))
 refine rw_q rfl (ev_i64_lss (a := 3) (b := 5) rfl rfl) ?_
 refine rN (cw_seq ?_)
 refine cw_cond_t rfl (by decide) ?_
 refine cw_skip (kThen_normal (cw_seq (cw_block (sR ?_))))
 refine rw_q rfl (ev_move (v := (i64 3)) rfl) <| rw_q rfl (ev_assign (v := (i64 3)) rfl) <| rN <| cw_draw [(0, false), (1, false), (2, false), (3, false), (4, false), (5, false), (6, false), (7, false), (8, false)] 9 (by kernel_rfl) <| dw_q rfl rfl (fun _ _hx => ev_move (v := (i64 3)) rfl) <| dw_q rfl rfl (fun _ _hx => ev_move (v := (i64 3)) rfl) ?_
 refine dw_q rfl rfl (fun _ _hx => ev_ia_arr (r := 3) (i := 3) oM uT112 ti61 s2 rfl oM oM) <| dw_q (v := (u64 x3)) rfl rfl (fun _ _hx => ev_load1 uT61 rfl rfl (hm11.ext _hx).h2 (get_clD _ _ 0 (by simp))) <| dw_q rfl rfl (fun _ _hx => ev_u64_add (b := 4503599627370494#64) rfl rfl) <| dw_q rfl rfl (fun _ _hx => ev_move (v := (i64 3)) rfl) <| dw_q rfl rfl (fun _ _hx => ev_ia_arr (r := 3) (i := 3) oM uT112 ti61 s3 rfl oM oM) <| dw_q (v := (u64 y3)) rfl rfl (fun _ _hx => ev_load1 uT61 rfl rfl (hm11.ext _hx).h1 (get_clD _ _ 0 (by simp))) ?_
 refine dw_q rfl rfl (fun _ _hx => ev_u64_sub rfl rfl) ?_
 refine dw_nil (fun w13 _ew13 => ?_)
 have hm13 := hm11.ext _ew13
 refine rw_q rfl (ev_ia_arr (r := 3) (i := 3) oM uT112 ti61 s4 rfl oM oM) <| rw_n (or_store_cl' (f := u64) (l' := [(x0 + 4503599627370494#64) - y0, (x1 + 4503599627370494#64) - y1, (x2 + 4503599627370494#64) - y2, (x3 + 4503599627370494#64) - y3, 0]) rfl u64_one ti61 rfl rfl hm13.h0 (by simp) (.inl (Nat.zero_le _))) ?_
 rintro _ w14 uq14
 have hm14 := hm13.upd0 uq14
 refine rw_nil (kBlk_normal ?_)
 refine CW.abs (fun g => g 0 = (agg u64 ([x0, x1, x2, x3, x4])) ∧ g 1 = (agg u64 ([y0, y1, y2, y3, y4])) ∧ g 2 = (ptr b2 0) ∧ g 3 = (ptr b3 0) ∧ g 4 = (ptr b4 0) ∧ g 5 = (i64 3) ∧ g 6 = (i64 3) ∧ g 7 = (bl true) ∧ True) ⟨s0, s1, s2, s3, s4, rfl, rfl, rfl, trivial⟩ ?_
 rintro fr15 ⟨s0, s1, s2, s3, s4, s5, s6, s7, _⟩
 refine cw_region <| rw_q (v := (i64 4)) rfl (ev_i64_add (a := 3) (b := 1) s6 rfl oM oM) <| rw_q rfl (ev_move (v := (i64 4)) rfl) ?_
 refine rN (cr_succ (sR ?_))
 refine rw_q rfl (ev_i64_lss (a := 4) (b := 5) rfl rfl) ?_
 refine rN (cw_seq ?_)
 refine cw_cond_t rfl (by decide) ?_
 refine cw_skip (kThen_normal (cw_seq (cw_block (sR ?_))))
 refine rw_q rfl (ev_move (v := (i64 4)) rfl) <| rw_q rfl (ev_assign (v := (i64 4)) rfl) <| rN <| cw_draw [(0, false), (1, false), (2, false), (3, false), (4, false), (5, false), (6, false), (7, false), (8, false)] 9 (by kernel_rfl) <| dw_q rfl rfl (fun _ _hx => ev_move (v := (i64 4)) rfl) <| dw_q rfl rfl (fun _ _hx => ev_move (v := (i64 4)) rfl) ?_
 refine dw_q rfl rfl (fun _ _hx => ev_ia_arr (r := 4) (i := 4) oM uT112 ti61 s2 rfl oM oM) <| dw_q (v := (u64 x4)) rfl rfl (fun _ _hx => ev_load1 uT61 rfl rfl (hm14.ext _hx).h2 (get_clD _ _ 0 (by simp))) <| dw_q rfl rfl (fun _ _hx => ev_u64_add (b := 4503599627370494#64) rfl rfl) <| dw_q rfl rfl (fun _ _hx => ev_move (v := (i64 4)) rfl) <| dw_q rfl rfl (fun _ _hx => ev_ia_arr (r := 4) (i := 4) oM uT112 ti61 s3 rfl oM oM) <| dw_q (v := (u64 y4)) rfl rfl (fun _ _hx => ev_load1 uT61 rfl rfl (hm14.ext _hx).h1 (get_clD _ _ 0 (by simp))) ?_
 refine dw_q rfl rfl (fun _ _hx => ev_u64_sub rfl rfl) ?_
 refine dw_nil (fun w16 _ew16 => ?_)
 have hm16 := hm14.ext _ew16
 refine rw_q rfl (ev_ia_arr (r := 4) (i := 4) oM uT112 ti61 s4 rfl oM oM) <| rw_n (or_store_cl' (f := u64) (l' := [(x0 + 4503599627370494#64) - y0, (x1 + 4503599627370494#64) - y1, (x2 + 4503599627370494#64) - y2, (x3 + 4503599627370494#64) - y3, (x4 + 4503599627370494#64) - y4]) rfl u64_one ti61 rfl rfl hm16.h0 (by simp) (.inl (Nat.zero_le _))) ?_
 rintro _ w17 uq17
 have hm17 := hm16.upd0 uq17
 refine rw_nil (kBlk_normal ?_)
 refine CW.abs (fun g => g 0 = (agg u64 ([x0, x1, x2, x3, x4])) ∧ g 1 = (agg u64 ([y0, y1, y2, y3, y4])) ∧ g 2 = (ptr b2 0) ∧ g 3 = (ptr b3 0) ∧ g 4 = (ptr b4 0) ∧ g 5 = (i64 4) ∧ g 6 = (i64 4) ∧ g 7 = (bl true) ∧ True) ⟨s0, s1, s2, s3, s4, rfl, rfl, rfl, trivial⟩ ?_
 rintro fr18 ⟨s0, s1, s2, s3, s4, s5, s6, s7, _⟩
 refine cw_region <| rw_q (v := (i64 5)) rfl (ev_i64_add (a := 4) (b := 1) s6 rfl oM oM) <| rw_q rfl (ev_move (v := (i64 5)) rfl) ?_
 refine rN (cr_succ (sR ?_))
 refine rw_q rfl (ev_i64_lss (a := 5) (b := 5) rfl rfl) ?_
 refine rN (cw_seq ?_)
 refine cw_cond_f rfl (by decide) <| cw_exit ?_
 refine kThen_exit (kThen_exit (kBlk_hit ?_))
 refine sR <| rw_q rfl (ev_ia_arr (r := 0) (i := 0) oM uT112 ti61 s4 rfl oM oM) <| rw_q (v := (u64 ((x0 + 4503599627370494#64) - y0))) rfl (ev_load1 uT61 rfl rfl hm17.h0 (get_clD _ _ 0 (by simp))) <| rw_q rfl (ev_u64_sub (b := 36#64) rfl rfl) <| rw_q rfl (ev_ia_arr (r := 0) (i := 0) oM uT112 ti61 s4 rfl oM oM) <| rw_n (or_store_cl' (f := u64) (l' := [((x0 + 4503599627370494#64) - y0) - 36#64, (x1 + 4503599627370494#64) - y1, (x2 + 4503599627370494#64) - y2, (x3 + 4503599627370494#64) - y3, (x4 + 4503599627370494#64) - y4]) rfl u64_one ti61 rfl rfl hm17.h0 (by simp) (.inl (Nat.zero_le _))) ?_
 rintro _ w19 uq19
 have hm19 := hm17.upd0 uq19
 refine rN (sR ?_)
 refine rw_q (v := (agg u64 ([((x0 + 4503599627370494#64) - y0) - 36#64, (x1 + 4503599627370494#64) - y1, (x2 + 4503599627370494#64) - y2, (x3 + 4503599627370494#64) - y3, (x4 + 4503599627370494#64) - y4]))) rfl (ev_loadA uT112 rfl ti112 s4 hm19.h0 sZ) <| rw_c rfl (opR_call Tryd.func89 bd89 nm89 (args1 rfl) (c_carry ([((x0 + 4503599627370494#64) - y0) - 36#64, (x1 + 4503599627370494#64) - y1, (x2 + 4503599627370494#64) - y2, (x3 + 4503599627370494#64) - y3, (x4 + 4503599627370494#64) - y4]) _ sD)) ?_
 rintro _ w20 ⟨rfl, _ew20⟩
 have hm20 := hm19.ext _ew20
 refine rw_n (or_store_agg (f := u64) (l := carryL ([((x0 + 4503599627370494#64) - y0) - 36#64, (x1 + 4503599627370494#64) - y1, (x2 + 4503599627370494#64) - y2, (x3 + 4503599627370494#64) - y3, (x4 + 4503599627370494#64) - y4])) u64_one ti112 s4 rfl sD hm20.h0 sZ rfl) ?_
 rintro _ w22 uq22
 have hm22 := hm20.upd0 uq22
 refine rN (cw_ret ?_)
 refine fnPost_ret [(agg u64 (carryL ([((x0 + 4503599627370494#64) - y0) - 36#64, (x1 + 4503599627370494#64) - y1, (x2 + 4503599627370494#64) - y2, (x3 + 4503599627370494#64) - y3, (x4 + 4503599627370494#64) - y4])))] ⟨⟨_, s4, loadVar_run uT112 rfl ti112 hm22.h0 sZ⟩, trivial⟩ ?_
 exact ⟨rfl, hm22.toExt⟩

set_option maxHeartbeats 1000000 in
theorem c_times5 (a b : List (BitVec 64)) (w0 : World)  (ha : a.length = 5) (hb : b.length = 5) : CallsR Tryd.prog 74 #[(agg u64 a), (agg u64 b)] w0 (fun r w1 => r = (agg u64 (timesL a b)) ∧ Ext w0 w1) := by
 refine callsR_of_cw (args := [(agg u64 a), (agg u64 b)]) Tryd.func74 rfl Tryd.ntmps74 Tryd.results74 rfl ?_
 have hm0 : Mem w0 (restOf w0) [] := Mem.of_world w0
 refine sR <| rw_c rfl (or_box_agg (f := u64) (l := a) hm0 rfl) ?_
 rintro _ w1 ⟨b2, rfl, _ew1, hm1⟩
 refine rw_c rfl (or_box_agg (f := u64) (l := b) hm1 rfl) ?_
 rintro _ w2 ⟨b3, rfl, _ew2, hm2⟩
 refine rw_c rfl (or_alloc_agg hm2 ti112) ?_
 rintro _ w3 ⟨b4, rfl, _ew3, hm3⟩
 refine rN (sR ?_)
 refine rw_c rfl (or_alloc_agg hm3 ti129) ?_
 rintro _ w4 ⟨b5, rfl, _ew4, hm4⟩
 refine rN (cw_seq (sR ?_))
 refine rw_q (v := (agg u64 a)) rfl (ev_loadA uT112 rfl ti112 rfl hm4.h3 sZ) <| rw_q rfl (ev_move (v := (i64 0)) rfl) ?_
 refine rN (cw_block ?_)
 refine cw_loop (fun g wv => ∃ (i : Nat) (wl : List (BitVec 64)), (i ≤ 5) ∧ (wl = allGo a b i) ∧ g 0 = (agg u64 a) ∧ g 1 = (agg u64 b) ∧ g 2 = (ptr b2 0) ∧ g 3 = (ptr b3 0) ∧ g 4 = (ptr b4 0) ∧ g 5 = (ptr b5 0) ∧ g 17 = (agg u64 a) ∧ g 18 = (i64 (i : Int)) ∧ Mem wv (restOf w0) [(b5, .cells (cl u64 wl) 129 (0, 0)), (b4, .cells (cl u64 (List.replicate 5 0)) 112 (0, 0)), (b3, .cells (cl u64 b) 112 (0, 0)), (b2, .cells (cl u64 a) 112 (0, 0))]) (fun g wv => (5 - RowKit.intOf (g 18)).toNat) ?_ ?_
 · exact ⟨0, (List.replicate 10 0), oM, rfl, rfl, rfl, rfl, rfl, rfl, rfl, rfl, rfl, hm4⟩
 · rintro fr5 w6 ⟨i, wl, hi, hw, s0, s1, s2, s3, s4, s5, s17, s18, hm6⟩
   have z18 := s18
   have hwl : wl.length = 10 := by rw [hw, allGo_length]
   refine sR <| rw_q rfl (ev_i64_lss (b := 5) s18 rfl) ?_
   refine rN (cw_seq ?_)
   refine cw_cond rfl (fun hc7 => ?_) (fun hc7 => ?_)
   · -- true
     have hc7p := of_decide_eq_true hc7
     refine cw_skip (kThen_normal (cw_seq (cw_block (sR ?_))))
     refine rM rfl s18 <| rw_q (v := (u64 (a.getD i 0))) rfl (ev_index_agg uT112 uT61 rfl ti61 s17 s18 oM sD (get_clD _ _ 0 sD)) <| rw_q rfl (ev_assign (v := (i64 (i : Int))) rfl) <| rw_q rfl (ev_assign (v := (u64 (a.getD i 0))) rfl) ?_
     refine rN (sR ?_)
     refine rw_q (v := (agg u64 b)) rfl (ev_loadA uT112 rfl ti112 s3 hm6.h2 sZ) <| rw_q rfl (ev_move (v := (i64 0)) rfl) ?_
     refine rN (cw_block' ?_)
     refine cw_loop (fun g wv => ∃ (k : Nat) (wk : List (BitVec 64)), (k ≤ 5) ∧ (wk = rowGo a b i wl k) ∧ g 0 = (agg u64 a) ∧ g 1 = (agg u64 b) ∧ g 2 = (ptr b2 0) ∧ g 3 = (ptr b3 0) ∧ g 4 = (ptr b4 0) ∧ g 5 = (ptr b5 0) ∧ g 6 = (i64 (i : Int)) ∧ g 7 = (u64 (a.getD i 0)) ∧ g 17 = (agg u64 a) ∧ g 18 = (i64 (i : Int)) ∧ g 19 = (bl (decide ((i : Int) < 5))) ∧ g 22 = (agg u64 b) ∧ g 23 = (i64 (k : Int)) ∧ Mem wv (restOf w0) [(b5, .cells (cl u64 wk) 129 (0, 0)), (b4, .cells (cl u64 (List.replicate 5 0)) 112 (0, 0)), (b3, .cells (cl u64 b) 112 (0, 0)), (b2, .cells (cl u64 a) 112 (0, 0))]) (fun g wv => (5 - RowKit.intOf (g 23)).toNat) ?_ ?_
     · exact ⟨0, wl, oM, rfl, s0, s1, s2, s3, s4, s5, rfl, rfl, s17, s18, rfl, rfl, rfl, hm6⟩
     · rintro fr8 w9 ⟨k, wk, hk, hwk, s0, s1, s2, s3, s4, s5, s6, s7, s17, s18, s19, s22, s23, hm9⟩
       have z23 := s23
       have hwkl : wk.length = 10 := by rw [hwk, rowGo_length, hwl]
       refine sR <| rw_q rfl (ev_i64_lss (b := 5) s23 rfl) ?_
       refine rN (cw_seq ?_)
       refine cw_cond rfl (fun hc10 => ?_) (fun hc10 => ?_)
       · -- true
         have hc10p := of_decide_eq_true hc10
         refine cw_skip (kThen_normal (cw_seq (cw_block (sR ?_))))
         refine rM rfl s23 <| rw_q (v := (u64 (b.getD k 0))) rfl (ev_index_agg uT112 uT61 rfl ti61 s22 s23 oM sD (get_clD _ _ 0 sD)) <| rw_q rfl (ev_assign (v := (i64 (k : Int))) rfl) <| rw_q rfl (ev_assign (v := (u64 (b.getD k 0))) rfl) ?_
         refine rN (sR ?_)
         refine rM rfl s6 <| rw_q rfl (ev_move (v := (i64 (k : Int))) rfl) <| rw_q rfl (EvQ.cast (congrArg i64 (show (i : Int) + (k : Int) = ((i + k : Nat) : Int) by omega)) (ev_i64_add rfl rfl oM oM)) <| rw_q rfl (ev_assign (v := (i64 ((i + k : Nat) : Int))) rfl) ?_
         refine rN (sR ?_)
         refine rw_q rfl (ev_move (v := (i64 ((i + k : Nat) : Int))) rfl) <| rw_q rfl (ev_i64_lss (b := 5) rfl rfl) <| rN ?_
         refine CW.abs (fun g => g 0 = (agg u64 a) ∧ g 1 = (agg u64 b) ∧ g 2 = (ptr b2 0) ∧ g 3 = (ptr b3 0) ∧ g 4 = (ptr b4 0) ∧ g 5 = (ptr b5 0) ∧ g 6 = (i64 (i : Int)) ∧ g 7 = (u64 (a.getD i 0)) ∧ g 8 = (i64 (k : Int)) ∧ g 9 = (u64 (b.getD k 0)) ∧ g 10 = (i64 ((i + k : Nat) : Int)) ∧ g 17 = (agg u64 a) ∧ g 18 = (i64 (i : Int)) ∧ g 19 = (bl (decide ((i : Int) < 5))) ∧ g 22 = (agg u64 b) ∧ g 23 = (i64 (k : Int)) ∧ g 24 = (bl (decide ((k : Int) < 5))) ∧ g 31 = (bl (decide (((i + k : Nat) : Int) < 5))) ∧ True) ⟨s0, s1, s2, s3, s4, s5, s6, s7, rfl, rfl, rfl, s17, s18, s19, s22, s23, rfl, rfl, trivial⟩ ?_
         rintro fr11 ⟨s0, s1, s2, s3, s4, s5, s6, s7, s8, s9, s10, s17, s18, s19, s22, s23, s24, s31, _⟩
         refine cw_cond s31 (fun hc12 => ?_) (fun hc12 => ?_)
         · -- true
           have hc12p := of_decide_eq_true hc12
           refine cw_region <| rM rfl s10 <| rw_q rfl (ev_ia_arr (r := (i + k) * 2) oM uT129 ti128 s5 rfl oM sD) <| rM rfl s7 <| rM rfl s9 ?_
           have hF14 : Mem w9 (restOf w0) ([(b5, .cells (cl u64 wk) 129 (0, 0))] ++ ([(b4, .cells (cl u64 (List.replicate 5 0)) 112 (0, 0)), (b3, .cells (cl u64 b) 112 (0, 0)), (b2, .cells (cl u64 a) 112 (0, 0))])) := hm9
           refine rw_c rfl (opR_call Tryd.func87 bd87 nm87 (args3 rfl rfl rfl) (c_wadd b5 ((i + k) * 2) wk (a.getD i 0) (b.getD k 0) _ _ (Mem.give hF14) sD)) ?_
           rintro _ w13 ⟨rfl, k_w13⟩
           have hm13 : Mem w13 (restOf w0) [(b5, .cells (cl u64 (waddAt wk ((i + k) * 2) (a.getD i 0) (b.getD k 0))) 129 (0, 0)), (b4, .cells (cl u64 (List.replicate 5 0)) 112 (0, 0)), (b3, .cells (cl u64 b) 112 (0, 0)), (b2, .cells (cl u64 a) 112 (0, 0))] := Mem.back hF14 k_w13
           refine rw_nil (kBlk_normal (cw_region ?_))
           refine rw_q rfl (ev_i64_add (b := 1) s23 rfl oM oM) <| rw_q rfl (ev_move (v := (i64 ((k : Int) + 1))) rfl) <| rN ?_
           have hwn : waddAt wk ((i + k) * 2) (a.getD i 0) (b.getD k 0) = rowGo a b i wl (k + 1) := by rw [hwk]; exact rowGo_pos oM
           exact ⟨⟨k + 1, (waddAt wk ((i + k) * 2) (a.getD i 0) (b.getD k 0)), oM, hwn, s0, s1, s2, s3, s4, s5, s6, s7, s17, s18, s19, s22, rfl, hm13⟩, meas rfl z23 oM oM⟩
         · -- false
           have hc12p := of_decide_eq_false hc12
           refine cw_region <| rM rfl s10 <| rw_q rfl (EvQ.cast (congrArg i64 (show ((i + k : Nat) : Int) - 5 = ((i + k - 5 : Nat) : Int) by omega)) (ev_i64_sub (b := 5) rfl rfl oM oM)) <| rw_q rfl (ev_ia_arr (r := (i + k - 5) * 2) oM uT129 ti128 s5 rfl oM sD) <| rM rfl s7 <| rw_q rfl (ev_u64_mul (a := 19#64) rfl rfl) ?_
           refine rM rfl s9 ?_
           have hF17 : Mem w9 (restOf w0) ([(b5, .cells (cl u64 wk) 129 (0, 0))] ++ ([(b4, .cells (cl u64 (List.replicate 5 0)) 112 (0, 0)), (b3, .cells (cl u64 b) 112 (0, 0)), (b2, .cells (cl u64 a) 112 (0, 0))])) := hm9
           refine rw_c rfl (opR_call Tryd.func87 bd87 nm87 (args3 rfl rfl rfl) (c_wadd b5 ((i + k - 5) * 2) wk (19#64 * (a.getD i 0)) (b.getD k 0) _ _ (Mem.give hF17) sD)) ?_
           rintro _ w16 ⟨rfl, k_w16⟩
           have hm16 : Mem w16 (restOf w0) [(b5, .cells (cl u64 (waddAt wk ((i + k - 5) * 2) (19#64 * (a.getD i 0)) (b.getD k 0))) 129 (0, 0)), (b4, .cells (cl u64 (List.replicate 5 0)) 112 (0, 0)), (b3, .cells (cl u64 b) 112 (0, 0)), (b2, .cells (cl u64 a) 112 (0, 0))] := Mem.back hF17 k_w16
           refine rw_nil (kBlk_normal (cw_region ?_))
           refine rw_q rfl (ev_i64_add (b := 1) s23 rfl oM oM) <| rw_q rfl (ev_move (v := (i64 ((k : Int) + 1))) rfl) <| rN ?_
           have hwn : waddAt wk ((i + k - 5) * 2) (19#64 * (a.getD i 0)) (b.getD k 0) = rowGo a b i wl (k + 1) := by rw [hwk]; exact rowGo_neg oM
           exact ⟨⟨k + 1, (waddAt wk ((i + k - 5) * 2) (19#64 * (a.getD i 0)) (b.getD k 0)), oM, hwn, s0, s1, s2, s3, s4, s5, s6, s7, s17, s18, s19, s22, rfl, hm16⟩, meas rfl z23 oM oM⟩
       · -- false
         have hc10p := of_decide_eq_false hc10
         obtain rfl : k = 5 := by omega
         refine cw_exit ?_
         refine kThen_exit (kThen_exit (kBlk_hit ?_))
         refine kBlk_normal (cw_region ?_)
         refine rw_q rfl (ev_i64_add (b := 1) s18 rfl oM oM) <| rw_q rfl (ev_move (v := (i64 ((i : Int) + 1))) rfl) <| rN ?_
         have hwo : wk = allGo a b (i + 1) := by rw [hwk, hw]; rfl
         exact ⟨⟨i + 1, wk, oM, hwo, s0, s1, s2, s3, s4, s5, s17, rfl, hm9⟩, meas rfl z18 oM oM⟩
   · -- false
     have hc7p := of_decide_eq_false hc7
     obtain rfl : i = 5 := by omega
     refine cw_exit ?_
     refine kThen_exit (kThen_exit (kBlk_hit ?_))
     refine sR <| rw_q rfl (ev_assign (v := (u64 0#64)) rfl) ?_
     refine rN (cw_seq (sR ?_))
     refine rw_q (v := (agg u64 wl)) rfl (ev_loadA uT129 rfl ti129 s5 hm6.h0 sZ) <| rw_q rfl (ev_move (v := (i64 0)) rfl) ?_
     refine rN (cw_block ?_)
     refine cw_loop (fun g wv => ∃ (i : Nat), (i ≤ 5) ∧ g 0 = (agg u64 a) ∧ g 1 = (agg u64 b) ∧ g 2 = (ptr b2 0) ∧ g 3 = (ptr b3 0) ∧ g 4 = (ptr b4 0) ∧ g 5 = (ptr b5 0) ∧ g 11 = (u64 (finC wl i)) ∧ g 17 = (agg u64 a) ∧ g 18 = (i64 (5 : Int)) ∧ g 19 = (bl (decide ((5 : Int) < 5))) ∧ g 46 = (agg u64 wl) ∧ g 47 = (i64 (i : Int)) ∧ Mem wv (restOf w0) [(b5, .cells (cl u64 wl) 129 (0, 0)), (b4, .cells (cl u64 (filled (finO wl) 0 5 i)) 112 (0, 0)), (b3, .cells (cl u64 b) 112 (0, 0)), (b2, .cells (cl u64 a) 112 (0, 0))]) (fun g wv => (5 - RowKit.intOf (g 47)).toNat) ?_ ?_
     · exact ⟨0, oM, s0, s1, s2, s3, s4, s5, rfl, s17, s18, rfl, rfl, rfl, (by rw [filled_zero]; exact hm6)⟩
     · rintro fr19 w20 ⟨i, hi, s0, s1, s2, s3, s4, s5, s11, s17, s18, s19, s46, s47, hm20⟩
       have z47 := s47
       have z11 := s11
       have hfl : (filled (finO wl) (0 : BitVec 64) 5 i).length = 5 := filled_length _ _ _ _ hi
       refine sR <| rw_q rfl (ev_i64_lss (b := 5) s47 rfl) ?_
       refine rN (cw_seq ?_)
       refine cw_cond rfl (fun hc21 => ?_) (fun hc21 => ?_)
       · -- true
         have hc21p := of_decide_eq_true hc21
         refine cw_skip (kThen_normal (cw_seq (cw_block (sR ?_))))
         refine rM rfl s47 <| rw_q (v := (agg u64 ([wl.getD (i * 2) 0, wl.getD ((i * 2) + 1) 0]))) rfl (ev_index_cl2 (l := wl) (i := ((i : Int) : Int)) 0 uT129 uT128 rfl ti128 s46 s47 oM sD oM) <| rw_c rfl (or_allocX hm20 ti128) ?_
         rintro _ w22 ⟨b13, rfl, _ew22, hm22⟩
         refine rw_q rfl (ev_assign (v := (i64 (i : Int))) rfl) <| rw_n (or_store_agg (f := u64) (l := [wl.getD (i * 2) 0, wl.getD ((i * 2) + 1) 0]) u64_one ti128 rfl rfl sD hm22.h0 rfl rfl) ?_
         rintro _ w23 uq23
         have hm23 := hm22.upd0 uq23
         refine rN (sR ?_)
         refine rw_q rfl (ev_fa (r := 1) uT128 rfl (by first | rfl | omega) ti61 rfl rfl) <| rw_q (v := (u64 (wl.getD ((i * 2) + 1) 0))) rfl (ev_load1 uT61 rfl rfl hm23.h0 (get_clD _ _ 0 (by simp))) <| rM rfl s11 <| rw_q (v := (Value.tuple #[(u64 ((wl.getD ((i * 2) + 1) 0) + (finC wl i) + 0#64)), (u64 (add64C (wl.getD ((i * 2) + 1) 0) (finC wl i) 0#64))])) rfl (ev_add64 (a := (wl.getD ((i * 2) + 1) 0)) (b := (finC wl i)) (c := 0#64) Tryd.func88 (by kernel_rfl) (by kernel_rfl) (by kernel_rfl) (by kernel_rfl) rfl rfl rfl (by first | decide | exact add64C_le _ _ (by decide))) <| rM rfl rfl <| rw_q (v := (u64 ((wl.getD ((i * 2) + 1) 0) + (finC wl i) + 0#64))) rfl (ev_extract rfl rfl) ?_
         refine rw_q (v := (u64 (add64C (wl.getD ((i * 2) + 1) 0) (finC wl i) 0#64))) rfl (ev_extract rfl rfl) <| rw_q rfl (ev_assign (v := (u64 ((wl.getD ((i * 2) + 1) 0) + (finC wl i) + 0#64))) rfl) <| rw_q rfl (ev_assign (v := (u64 (add64C (wl.getD ((i * 2) + 1) 0) (finC wl i) 0#64))) rfl) <| rN ?_
         refine CW.abs (fun g => g 0 = (agg u64 a) ∧ g 1 = (agg u64 b) ∧ g 2 = (ptr b2 0) ∧ g 3 = (ptr b3 0) ∧ g 4 = (ptr b4 0) ∧ g 5 = (ptr b5 0) ∧ g 11 = (u64 (finC wl i)) ∧ g 12 = (i64 (i : Int)) ∧ g 13 = (ptr b13 0) ∧ g 14 = (u64 ((wl.getD ((i * 2) + 1) 0) + (finC wl i) + 0#64)) ∧ g 15 = (u64 (add64C (wl.getD ((i * 2) + 1) 0) (finC wl i) 0#64)) ∧ g 17 = (agg u64 a) ∧ g 18 = (i64 (5 : Int)) ∧ g 19 = (bl (decide ((5 : Int) < 5))) ∧ g 46 = (agg u64 wl) ∧ g 47 = (i64 (i : Int)) ∧ g 48 = (bl (decide ((i : Int) < 5))) ∧ True) ⟨s0, s1, s2, s3, s4, s5, s11, rfl, rfl, rfl, rfl, s17, s18, s19, s46, s47, rfl, trivial⟩ ?_
         rintro fr24 ⟨s0, s1, s2, s3, s4, s5, s11, s12, s13, s14, s15, s17, s18, s19, s46, s47, s48, _⟩
         refine sR <| rw_q rfl (ev_fa (r := 0) uT128 rfl (by first | rfl | omega) ti61 rfl s13) <| rw_q (v := (u64 (wl.getD (i * 2) 0))) rfl (ev_load1 uT61 rfl rfl hm23.h0 (get_clD _ _ 0 (by simp))) <| rM rfl s15 <| rw_q rfl (ev_u64_add rfl rfl) <| rA rfl rfl ?_
         refine rN (sR ?_)
         refine rM rfl s12 <| rM rfl s14 <| rw_q rfl (ev_u64_and (b := 2251799813685247#64) rfl rfl) <| rw_q rfl (ev_ia_arr (r := i) oM uT112 ti61 s4 rfl oM sD) <| rw_n (or_store_cl (f := u64) (a := ((wl.getD ((i * 2) + 1) 0) + (finC wl i) + 0#64) &&& 2251799813685247#64) u64_one ti61 rfl rfl hm23.h2 sD (.inl (Nat.zero_le _))) ?_
         rintro _ w25 uq25
         have hm25 := hm23.upd2 uq25
         refine rN (cw_region ?_)
         refine rM rfl rfl <| rw_q rfl (ev_u64_shl (b := 13) rfl rfl oM) <| rM rfl s14 <| rw_q rfl (ev_u64_shr (b := 51) rfl rfl oM) <| rw_q rfl (ev_u64_or rfl rfl) <| rA rfl rfl ?_
         refine rw_nil (kBlk_normal ?_)
         refine CW.abs (fun g => g 0 = (agg u64 a) ∧ g 1 = (agg u64 b) ∧ g 2 = (ptr b2 0) ∧ g 3 = (ptr b3 0) ∧ g 4 = (ptr b4 0) ∧ g 5 = (ptr b5 0) ∧ g 11 = (u64 ((((wl.getD (i * 2) 0) + (add64C (wl.getD ((i * 2) + 1) 0) (finC wl i) 0#64)) <<< 13) ||| (((wl.getD ((i * 2) + 1) 0) + (finC wl i) + 0#64) >>> 51))) ∧ g 12 = (i64 (i : Int)) ∧ g 13 = (ptr b13 0) ∧ g 14 = (u64 ((wl.getD ((i * 2) + 1) 0) + (finC wl i) + 0#64)) ∧ g 15 = (u64 (add64C (wl.getD ((i * 2) + 1) 0) (finC wl i) 0#64)) ∧ g 16 = (u64 ((wl.getD (i * 2) 0) + (add64C (wl.getD ((i * 2) + 1) 0) (finC wl i) 0#64))) ∧ g 17 = (agg u64 a) ∧ g 18 = (i64 (5 : Int)) ∧ g 19 = (bl (decide ((5 : Int) < 5))) ∧ g 46 = (agg u64 wl) ∧ g 47 = (i64 (i : Int)) ∧ g 48 = (bl (decide ((i : Int) < 5))) ∧ True) ⟨s0, s1, s2, s3, s4, s5, rfl, s12, s13, s14, s15, rfl, s17, s18, s19, s46, s47, s48, trivial⟩ ?_
         rintro fr26 ⟨s0, s1, s2, s3, s4, s5, s11, s12, s13, s14, s15, s16, s17, s18, s19, s46, s47, s48, _⟩
         refine cw_region <| rw_q rfl (ev_i64_add (b := 1) s47 rfl oM oM) <| rw_q rfl (ev_move (v := (i64 ((i : Int) + 1))) rfl) <| rN ?_
         have hm27 := Mem.drop ([(b13, .cells (cl u64 ([wl.getD (i * 2) 0, wl.getD ((i * 2) + 1) 0])) 128 (0, 0))]) _ hm25
         exact ⟨⟨i + 1, oM, s0, s1, s2, s3, s4, s5, s11, s17, s18, s19, s46, rfl, (by rw [← filled_set (finO wl) (0 : BitVec 64) (n := 5) (k := i) oM _ rfl]; exact hm27)⟩, meas rfl z47 oM oM⟩
       · -- false
         have hc21p := of_decide_eq_false hc21
         obtain rfl : i = 5 := by omega
         have hmF28 := hm20
         rw [filled5] at hmF28
         refine cw_exit ?_
         refine kThen_exit (kThen_exit (kBlk_hit ?_))
         refine sR <| rw_q rfl (ev_ia_arr (r := 0) (i := 0) oM uT112 ti61 s4 rfl oM oM) <| rw_q (v := (u64 (finO wl 0))) rfl (ev_load1 uT61 rfl rfl hmF28.h1 (get_clD _ _ 0 (by simp))) <| rM rfl s11 <| rw_q rfl (ev_u64_and (b := 2251799813685247#64) rfl rfl) <| rw_q rfl (ev_u64_mul (a := 19#64) rfl rfl) ?_
         refine rw_q rfl (ev_u64_add rfl rfl) <| rw_q rfl (ev_ia_arr (r := 0) (i := 0) oM uT112 ti61 s4 rfl oM oM) <| rw_n (or_store_cl' (f := u64) (l' := [(finO wl 0) + (19#64 * ((finC wl 5) &&& 2251799813685247#64)), finO wl 1, finO wl 2, finO wl 3, finO wl 4]) rfl u64_one ti61 rfl rfl hmF28.h1 (by simp) (.inl (Nat.zero_le _))) ?_
         rintro _ w29 uq29
         have hm29 := hmF28.upd1 uq29
         refine rN (sR ?_)
         refine rw_q rfl (ev_ia_arr (r := 1) (i := 1) oM uT112 ti61 s4 rfl oM oM) <| rw_q (v := (u64 (finO wl 1))) rfl (ev_load1 uT61 rfl rfl hm29.h1 (get_clD _ _ 0 (by simp))) <| rM rfl s11 <| rw_q rfl (ev_u64_shr (b := 51) rfl rfl oM) <| rw_q rfl (ev_u64_mul (a := 19#64) rfl rfl) <| rw_q rfl (ev_u64_add rfl rfl) ?_
         refine rw_q rfl (ev_ia_arr (r := 1) (i := 1) oM uT112 ti61 s4 rfl oM oM) <| rw_n (or_store_cl' (f := u64) (l' := [(finO wl 0) + (19#64 * ((finC wl 5) &&& 2251799813685247#64)), (finO wl 1) + (19#64 * ((finC wl 5) >>> 51)), finO wl 2, finO wl 3, finO wl 4]) rfl u64_one ti61 rfl rfl hm29.h1 (by simp) (.inl (Nat.zero_le _))) ?_
         rintro _ w30 uq30
         have hm30 := hm29.upd1 uq30
         refine rN ?_
         refine CW.abs (fun g => g 0 = (agg u64 a) ∧ g 1 = (agg u64 b) ∧ g 2 = (ptr b2 0) ∧ g 3 = (ptr b3 0) ∧ g 4 = (ptr b4 0) ∧ g 5 = (ptr b5 0) ∧ g 11 = (u64 (finC wl 5)) ∧ g 17 = (agg u64 a) ∧ g 18 = (i64 (5 : Int)) ∧ g 19 = (bl (decide ((5 : Int) < 5))) ∧ g 46 = (agg u64 wl) ∧ g 47 = (i64 (5 : Int)) ∧ g 48 = (bl (decide ((5 : Int) < 5))) ∧ True) ⟨s0, s1, s2, s3, s4, s5, s11, s17, s18, s19, s46, s47, rfl, trivial⟩ ?_
         rintro fr31 ⟨s0, s1, s2, s3, s4, s5, s11, s17, s18, s19, s46, s47, s48, _⟩
         refine sR <| rw_q (v := (agg u64 ([(finO wl 0) + (19#64 * ((finC wl 5) &&& 2251799813685247#64)), (finO wl 1) + (19#64 * ((finC wl 5) >>> 51)), finO wl 2, finO wl 3, finO wl 4]))) rfl (ev_loadA uT112 rfl ti112 s4 hm30.h1 sZ) <| rw_c rfl (opR_call Tryd.func89 bd89 nm89 (args1 rfl) (c_carry ([(finO wl 0) + (19#64 * ((finC wl 5) &&& 2251799813685247#64)), (finO wl 1) + (19#64 * ((finC wl 5) >>> 51)), finO wl 2, finO wl 3, finO wl 4]) _ sD)) ?_
         rintro _ w32 ⟨rfl, _ew32⟩
         have hm32 := hm30.ext _ew32
         refine rw_n (or_store_agg (f := u64) (l := carryL ([(finO wl 0) + (19#64 * ((finC wl 5) &&& 2251799813685247#64)), (finO wl 1) + (19#64 * ((finC wl 5) >>> 51)), finO wl 2, finO wl 3, finO wl 4])) u64_one ti112 s4 rfl sD hm32.h1 sZ rfl) ?_
         rintro _ w34 uq34
         have hm34 := hm32.upd1 uq34
         refine rN (cw_ret ?_)
         refine fnPost_ret [(agg u64 (carryL ([(finO wl 0) + (19#64 * ((finC wl 5) &&& 2251799813685247#64)), (finO wl 1) + (19#64 * ((finC wl 5) >>> 51)), finO wl 2, finO wl 3, finO wl 4])))] ⟨⟨_, s4, loadVar_run uT112 rfl ti112 hm34.h1 sZ⟩, trivial⟩ ?_
         exact ⟨congrArg (agg u64) (by rw [hw]; rfl), hm34.toExt⟩

theorem c_cread (u : List (BitVec 8)) (w0 : World)  (hu : u.length = 32) : CallsR Tryd.prog 72 #[(agg u8 u)] w0 (fun r w1 => r = (agg u64 (readL u)) ∧ Ext w0 w1) := by
 refine callsR_of_cw (args := [(agg u8 u)]) Tryd.func72 rfl Tryd.ntmps72 Tryd.results72 rfl ?_
 have hm0 : Mem w0 (restOf w0) [] := Mem.of_world w0
 refine sR <| rw_c rfl (or_box_agg (f := u8) (l := u) hm0 rfl) ?_
 rintro _ w1 ⟨b1, rfl, _ew1, hm1⟩
 refine rw_c rfl (or_alloc_agg hm1 ti112) ?_
 rintro _ w2 ⟨b2, rfl, _ew2, hm2⟩
 refine rN (cw_seq (sR ?_))
 refine rw_q rfl (ev_move (v := (i64 0)) rfl) ?_
 refine rN (cw_block ?_)
 refine cw_loop (fun g wv => ∃ (i : Nat), (i ≤ 255) ∧ g 0 = (agg u8 u) ∧ g 1 = (ptr b1 0) ∧ g 2 = (ptr b2 0) ∧ g 4 = (i64 (i : Int)) ∧ Mem wv (restOf w0) [(b2, .cells (cl u64 (readGo u i)) 112 (0, 0)), (b1, .cells (cl u8 u) 23 (0, 0))]) (fun g wv => (255 - RowKit.intOf (g 4)).toNat) ?_ ?_
 · exact ⟨0, oM, rfl, rfl, rfl, rfl, hm2⟩
 · rintro fr3 w4 ⟨i, hi, s0, s1, s2, s4, hm4⟩
   have z4 := s4
   have hrl := readGo_length u i
   refine sR <| rw_q rfl (ev_i64_lss (b := 255) s4 rfl) ?_
   refine rN (cw_seq ?_)
   refine cw_cond rfl (fun hc5 => ?_) (fun hc5 => ?_)
   · -- true
     have hc5p := of_decide_eq_true hc5
     refine cw_skip (kThen_normal (cw_seq (cw_block (sR ?_))))
     refine rM rfl s4 <| rw_q rfl (ev_assign (v := (i64 (i : Int))) rfl) <| rN <| cw_draw [(0, false), (1, false), (2, false), (3, false), (4, false), (5, false), (6, false), (7, false), (8, false), (9, false), (10, false), (11, false), (12, false), (13, false), (14, false), (15, false)] 16 (by kernel_rfl) <| dw_q rfl rfl (fun _ _hx => ev_move (v := (i64 (i : Int))) rfl) <| dw_q rfl rfl (fun _ _hx => EvQ.cast (congrArg i64 (show (i : Int) / 51 = ((i / 51 : Nat) : Int) by omega)) (ev_i64_quo (b := 51) rfl rfl oM oM oM)) ?_
     refine dw_q rfl rfl (fun _ _hx => ev_ia_arr (r := (i / 51)) oM uT112 ti61 s2 rfl oM sD) <| dw_q (v := (u64 ((readGo u i).getD (i / 51) 0))) rfl rfl (fun _ _hx => ev_load1 uT61 rfl rfl (hm4.ext _hx).h0 (get_clD _ _ 0 sD)) <| dw_q rfl rfl (fun _ _hx => ev_move (v := (i64 (i : Int))) rfl) <| dw_q rfl rfl (fun _ _hx => EvQ.cast (congrArg i64 (show (i : Int) / 8 = ((i / 8 : Nat) : Int) by omega)) (ev_i64_quo (b := 8) rfl rfl oM oM oM)) <| dw_q rfl rfl (fun _ _hx => ev_ia_arr (r := (i / 8)) oM uT23 ti5 s1 rfl oM sD) <| dw_q (v := (u8 (u.getD (i / 8) 0))) rfl rfl (fun _ _hx => ev_load1 uT5 rfl rfl (hm4.ext _hx).h1 (get_clD _ _ 0 sD)) ?_
     refine dw_q rfl rfl (fun _ _hx => ev_move (v := (i64 (i : Int))) rfl) <| dw_q rfl rfl (fun _ _hx => EvQ.cast (congrArg i64 (show (i : Int) % 8 = ((i % 8 : Nat) : Int) by omega)) (ev_i64_rem (b := 8) rfl rfl oM oM oM)) <| dw_q rfl rfl (fun _ _hx => ev_u8_shr rfl rfl oM) <| dw_q rfl rfl (fun _ _hx => ev_u8_and (b := 1#8) rfl rfl) <| dw_q rfl rfl (fun _ _hx => ev_conv_u8_u64 ⟨_, uT5⟩ uT61 rfl) <| dw_q rfl rfl (fun _ _hx => ev_move (v := (i64 (i : Int))) rfl) ?_
     refine dw_q rfl rfl (fun _ _hx => EvQ.cast (congrArg i64 (show (i : Int) % 51 = ((i % 51 : Nat) : Int) by omega)) (ev_i64_rem (b := 51) rfl rfl oM oM oM)) <| dw_q rfl rfl (fun _ _hx => ev_u64_shl rfl rfl oM) ?_
     refine dw_nil (fun w6 _ew6 => ?_)
     have hm6 := hm4.ext _ew6
     refine rw_q rfl (ev_u64_or rfl rfl) <| rw_q rfl (ev_ia_arr (r := (i / 51)) oM uT112 ti61 s2 rfl oM sD) <| rw_n (or_store_cl (f := u64) (a := ((readGo u i).getD (i / 51) 0) ||| (((((u.getD (i / 8) 0) >>> ((i % 8 : Nat) : Int).toNat) &&& 1#8).setWidth 64) <<< ((i % 51 : Nat) : Int).toNat)) u64_one ti61 rfl rfl hm6.h0 sD (.inl (Nat.zero_le _))) ?_
     rintro _ w7 uq7
     have hm7 := hm6.upd0 uq7
     refine rw_nil (kBlk_normal ?_)
     refine CW.abs (fun g => g 0 = (agg u8 u) ∧ g 1 = (ptr b1 0) ∧ g 2 = (ptr b2 0) ∧ g 3 = (i64 (i : Int)) ∧ g 4 = (i64 (i : Int)) ∧ g 5 = (bl (decide ((i : Int) < 255))) ∧ True) ⟨s0, s1, s2, rfl, s4, rfl, trivial⟩ ?_
     rintro fr8 ⟨s0, s1, s2, s3, s4, s5, _⟩
     refine cw_region <| rw_q rfl (ev_i64_add (b := 1) s4 rfl oM oM) <| rw_q rfl (ev_move (v := (i64 ((i : Int) + 1))) rfl) <| rN ?_
     exact ⟨⟨i + 1, oM, s0, s1, s2, rfl, hm7⟩, meas rfl z4 oM oM⟩
   · -- false
     have hc5p := of_decide_eq_false hc5
     obtain rfl : i = 255 := by omega
     have hrl := readGo_length u 255
     refine cw_exit ?_
     refine kThen_exit (kThen_exit (kBlk_hit ?_))
     refine sR <| rw_q (v := (agg u64 (readGo u 255))) rfl (ev_loadA uT112 rfl ti112 s2 hm4.h0 sZ) <| rw_n (or_store_agg (f := u64) (l := readGo u 255) u64_one ti112 s2 rfl sD hm4.h0 sZ rfl) ?_
     rintro _ w9 uq9
     have hm9 := hm4.upd0 uq9
     refine rN (cw_ret ?_)
     refine fnPost_ret [(agg u64 (readGo u 255))] ⟨⟨_, s2, loadVar_run uT112 rfl ti112 hm9.h0 sZ⟩, trivial⟩ ?_
     exact ⟨rfl, hm9.toExt⟩


end Go.Proofs.YtmiagmbgfhakgaaDoor

