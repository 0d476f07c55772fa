/- Contracts: the document's code. Conditions: none beyond those that each theorem states. -/
import Derived.Test.YtmiagmbgfhakgaaDoorHa6
namespace Go.Proofs.YtmiagmbgfhakgaaDoor
set_option linter.unusedVariables false
set_option linter.unusedSimpArgs false

theorem told_true {α : Type} [BEq α] [LawfulBEq α] {a b : α} (h : a = b) : (a == b) = true := by rw [h]; exact beq_self_eq_true b
theorem mask_map {key K : List (BitVec 8)} {bb : BitVec 8} (hK : K = keyP key ++ List.replicate (64 - (keyP key).length) 0) : (List.range 64).map (fun j => K.getD j 0 ^^^ bb) = maskedP key bb := by
  have hle := keyP_le key
  have e : K.length = 64 := by rw [hK]; simp; omega
  have h := map_getD (fun x => x ^^^ bb) K 0
  rw [e] at h
  rw [h, hK]; rfl
theorem range_snoc {α : Type} (g : Nat → α) (k : Nat) (x : α) (h : x = g k) : (List.range k).map g ++ [x] = (List.range (k + 1)).map g := by
  rw [List.range_succ, List.map_append, h]; rfl
theorem joinL_one (v : Value) (l : List (BitVec 8)) : joinL [(v, l)] = l := by simp [joinL]
attribute [local irreducible] sumP digestP maskedP hmacP
set_option maxHeartbeats 1000000 in
theorem c_rhmac (vb : Value) (l : List (BitVec 8)) (vc : Value) (m : List (BitVec 8)) (w0 : World)  (hr : Rd (blks w0) u8 vb l) (hl : l.length ≤ 1099511627776) (hrm : Rd (blks w0) u8 vc m) (hm : m.length ≤ 1099511627776) : CallsR Tryd.prog 30 #[vb, vc] w0 (fun r w1 => r = (agg u8 (hmacP l m)) ∧ Ext w0 w1) := by
 refine callsR_of_cw (args := [vb, vc]) Tryd.func30 rfl Tryd.ntmps30 Tryd.results30 rfl ?_
 have hm0 : Mem w0 (restOf w0) [] := Mem.of_world w0
 refine sR ?_
 refine rw_c rfl (or_alloc_agg hm0 ti23) ?_
 rintro _ w1 ⟨b4, rfl, _ew1, hm1⟩
 refine rN (sR ?_)
 refine rw_c rfl (or_buildSlice_cl u8 [] u8_one hm1 uT26 ti5 rfl (by simp [pairs]) rfl) ?_
 rintro _ w2 ⟨b11, rfl, _ew2, hm2⟩
 refine rM rfl (v := vb) rfl <| rw_c rfl (or_append (f := u8) (Hs := [(b11, .cells (cl u8 ([])) 5 (0, 0))]) (H := [(b4, .cells (cl u8 (List.replicate 32 0)) 23 (0, 0))]) hm2 (Grow.of u8 5 b11 ([])) rfl rfl (Rd.ofRest hr hm2) uT26 uT26 ti5 rfl u8_one sD sD) ?_
 rintro sv3 w3 ⟨Hs3, hm3, g3⟩
 replace g3 : Grow u8 5 sv3 l Hs3 := g3
 refine rA rfl (v := sv3) rfl ?_
 refine rN (cw_seq (sR ?_))
 refine rM rfl (v := vb) rfl <| rw_q (v := (i64 (l.length : Int))) rfl (ev_len_rd (Rd.ofRest hr hm3) uT26 rfl) <| rw_q rfl (ev_i64_gtr (b := 64) rfl rfl) ?_
 refine rN ?_
 refine cw_meet (J := fun g wv => ∃ (sk : Value) (Hk : List (Nat × Obj)), (Grow u8 5 sk (keyP l) Hk) ∧ g 0 = vb ∧ g 1 = vc ∧ g 4 = (ptr b4 0) ∧ g 5 = sk ∧ g 16 = (bl (decide (64 < (l.length : Int)))) ∧ Mem wv (restOf w0) (Hk ++ ([(b4, .cells (cl u8 (List.replicate 32 0)) 23 (0, 0))]))) ?_ ?_
 · skip
   refine cw_cond rfl (fun hc4 => ?_) (fun hc4 => ?_)
   · -- true
     have hc4p := of_decide_eq_true hc4
     refine sR ?_
     refine rM rfl (v := vb) rfl <| rw_c rfl (opR_call Tryd.func48 bd48 nm48 (args1 rfl) (c_rsum vb l _ (Rd.ofRest hr hm3) sD)) ?_
     rintro _ w5 ⟨rfl, _ew5⟩
     have hm5 := hm3.ext _ew5
     refine rw_c rfl (or_alloc_agg hm5 ti23) ?_
     rintro _ w7 ⟨b6, rfl, _ew7, hm7⟩
     refine rw_n (or_store_agg (f := u8) (l := sumP l) u8_one ti23 rfl rfl sD hm7.h0 sZ rfl) ?_
     rintro _ w8 uq8
     have hm8 := hm7.upd0 uq8
     refine rN ?_
     refine CW.abs (fun g => g 0 = vb ∧ g 1 = vc ∧ g 4 = (ptr b4 0) ∧ g 5 = sv3 ∧ g 6 = (ptr b6 0) ∧ g 16 = (bl (decide (64 < (l.length : Int)))) ∧ True) ⟨rfl, rfl, rfl, rfl, rfl, rfl, trivial⟩ ?_
     rintro fr9 ⟨s0, s1, s4, s5, s6, s16, _⟩
     refine cw_region <| rw_c rfl (or_buildSlice_cl u8 [] u8_one hm8 uT26 ti5 rfl (by simp [pairs]) rfl) ?_
     rintro _ w10 ⟨b19, rfl, _ew10, hm10⟩
     refine rw_q rfl (ev_slice_sla (i := 0) (j := 32) uT23 ti5 s6 (optI_none _ _) (optI_none _ _) oM sD sD) <| rw_c rfl (or_append (f := u8) (Hs := [(b19, .cells (cl u8 ([])) 5 (0, 0))]) (H := [(b6, .cells (cl u8 (sumP l)) 23 (0, 0))] ++ (Hs3 ++ ([(b4, .cells (cl u8 (List.replicate 32 0)) 23 (0, 0))]))) hm10 (Grow.of u8 5 b19 ([])) rfl rfl (Rd.slaAll hm10.h1 sD) uT26 uT26 ti5 rfl u8_one sD sD) ?_
     rintro sv11 w11 ⟨Hs11, hm11, g11⟩
     replace g11 : Grow u8 5 sv11 (sumP l) Hs11 := g11
     refine rA rfl (v := sv11) rfl ?_
     refine rN ?_
     have hK : keyP l = sumP l := by unfold keyP; rw [if_pos oM]
     have hm12 := Mem.drop ([(b6, .cells (cl u8 (sumP l)) 23 (0, 0))]) _ (Mem.pick Hs11 [_] _ hm11)
     have hm13 := Mem.drop Hs3 _ (Mem.pick Hs11 Hs3 _ hm12)
     exact ⟨sv11, Hs11, (Grow.cast g11 hK.symm), s0, s1, s4, rfl, s16, hm13⟩
   · -- false
     have hc4p := of_decide_eq_false hc4
     refine cw_skip (kThen_normal ?_)
     have hK : keyP l = l := by unfold keyP; rw [if_neg oM]
     exact ⟨sv3, Hs3, (Grow.cast g3 hK.symm), rfl, rfl, rfl, rfl, rfl, hm3⟩
 · rintro fr14 w15 ⟨sk, Hk, gk, s0, s1, s4, s5, s16, hm15⟩
   have hle := keyP_le l
   refine cw_seq (cw_block ?_)
   refine cw_loop (fun g wv => ∃ (k : Nat) (kl : List (BitVec 8)) (sk2 : Value) (Hk2 : List (Nat × Obj)), (k ≤ 64 - (keyP l).length) ∧ (kl = keyP l ++ List.replicate k 0) ∧ (Grow u8 5 sk2 kl Hk2) ∧ g 0 = vb ∧ g 1 = vc ∧ g 4 = (ptr b4 0) ∧ g 5 = sk2 ∧ g 16 = (bl (decide (64 < (l.length : Int)))) ∧ Mem wv (restOf w0) (Hk2 ++ ([(b4, .cells (cl u8 (List.replicate 32 0)) 23 (0, 0))]))) (fun g wv => 66 - sllen (g 5)) ?_ ?_
   · exact ⟨0, (keyP l), sk, Hk, oM, (by simp), gk, s0, s1, s4, s5, s16, hm15⟩
   · rintro fr16 w17 ⟨k, kl, sk2, Hk2, hk, hkl, gk2, s0, s1, s4, s5, s16, hm17⟩
     have z5 := s5
     have hkn : kl.length = (keyP l).length + k := by rw [hkl]; simp
     refine cw_seq (sR ?_)
     refine rM rfl s5 <| rw_q (v := (i64 (kl.length : Int))) rfl (ev_len_rd (gk2.rd hm17) uT26 rfl) <| rw_q rfl (ev_i64_lss (b := 64) rfl rfl) ?_
     refine rN ?_
     refine cw_cond rfl (fun hc18 => ?_) (fun hc18 => ?_)
     · -- true
       have hc18p := of_decide_eq_true hc18
       refine cw_skip (kThen_normal (cw_block' (cw_region ?_)))
       refine rM rfl s5 <| rw_c rfl (or_buildSlice_cl u8 [0#8] u8_one hm17 uT26 ti5 rfl rfl rfl) ?_
       rintro _ w19 ⟨b26, rfl, _ew19, hm19⟩
       refine rw_c rfl (or_append (f := u8) (Hs := Hk2) (H := [(b26, .cells (cl u8 ([0#8])) 5 (0, 0)), (b4, .cells (cl u8 (List.replicate 32 0)) 23 (0, 0))]) (Mem.pick [_] Hk2 _ hm19) gk2 rfl rfl (Rd.mkA hm19.h0) uT26 uT26 ti5 rfl u8_one sD sD) ?_
       rintro sv20 w20 ⟨Hs20, hm20, g20⟩
       replace g20 : Grow u8 5 sv20 (kl ++ ([0#8])) Hs20 := g20
       refine rA rfl (v := sv20) rfl ?_
       refine rw_nil (kBlk_normal (kThen_normal ?_))
       have hm21 := Mem.drop ([(b26, .cells (cl u8 ([0#8])) 5 (0, 0))]) _ (Mem.pick Hs20 [_] _ hm20)
       exact ⟨⟨k + 1, kl ++ ([0#8]), sv20, Hs20, oM, (by rw [hkl, List.replicate_succ']; simp), g20, s0, s1, s4, rfl, s16, hm21⟩, (by show 66 - sllen sv20 < 66 - sllen _; rw [z5, gk2.sllen, Grow.sllen g20]; simp [hkn]; omega)⟩
     · -- false
       have hc18p := of_decide_eq_false hc18
       have hkn : kl.length = (keyP l).length + k := by rw [hkl]; simp
       obtain rfl : k = 64 - (keyP l).length := by omega
       have hkl64 : kl.length = 64 := by omega
       have hn0 : True := trivial
       refine cw_exit ?_
       refine kThen_exit (kThen_exit (kBlk_hit ?_))
       refine sR ?_
       refine rw_c rfl (or_buildSlice_cl u8 [] u8_one hm17 uT26 ti5 rfl (by simp [pairs]) rfl) ?_
       rintro _ w22 ⟨b28, rfl, _ew22, hm22⟩
       refine rw_c rfl (or_buildSlice_cl u8 [] u8_one hm22 uT26 ti5 rfl (by simp [pairs]) rfl) ?_
       rintro _ w23 ⟨b29, rfl, _ew23, hm23⟩
       refine rw_q rfl (ev_assign (v := (slc b28 0 0 0)) rfl) <| rw_q rfl (ev_assign (v := (slc b29 0 0 0)) rfl) ?_
       refine rN (cw_seq (sR ?_))
       refine rw_q rfl (ev_assign (v := (i64 0)) rfl) ?_
       refine rN (cw_block ?_)
       refine cw_loop (fun g wv => ∃ (i : Nat) (l7 l8 : List (BitVec 8)) (sv7 sv8 : Value) (H7 H8 : List (Nat × Obj)), (i ≤ 64) ∧ (l7 = (List.range i).map (fun j => kl.getD j 0 ^^^ 54#8)) ∧ (l8 = (List.range i).map (fun j => kl.getD j 0 ^^^ 92#8)) ∧ (Grow u8 5 sv7 l7 H7) ∧ (Grow u8 5 sv8 l8 H8) ∧ g 0 = vb ∧ g 1 = vc ∧ g 4 = (ptr b4 0) ∧ g 5 = sk2 ∧ g 7 = sv7 ∧ g 8 = sv8 ∧ g 9 = (i64 (i : Int)) ∧ g 16 = (bl (decide (64 < (l.length : Int)))) ∧ g 24 = (bl (decide ((kl.length : Int) < 64))) ∧ Mem wv (restOf w0) (H7 ++ (H8 ++ (Hk2 ++ ([(b4, .cells (cl u8 (List.replicate 32 0)) 23 (0, 0))]))))) (fun g wv => (64 - RowKit.intOf (g 9)).toNat) ?_ ?_
       have hm24 := (Mem.pick2 [_, _] Hk2 [_] _ hm23)
       have hm25 := (Mem.pick [_, _, _] Hk2 _ hm24)
       have hm26 := (Mem.pick2 Hk2 [_] [_] _ hm25)
       have hm27 := (Mem.pick3 [_] Hk2 [_] [_] _ hm26)
       · exact ⟨0, [], [], (slc b28 0 0 0), (slc b29 0 0 0), [(b28, .cells (cl u8 ([])) 5 (0, 0))], [(b29, .cells (cl u8 ([])) 5 (0, 0))], oM, rfl, rfl, (Grow.of u8 5 b28 []), (Grow.of u8 5 b29 []), s0, s1, s4, s5, rfl, rfl, rfl, s16, rfl, hm27⟩
       · rintro fr28 w29 ⟨i, l7, l8, sv7, sv8, H7, H8, hi, h7, h8, gg7, gg8, s0, s1, s4, s5, s7, s8, s9, s16, s24, hm29⟩
         have z9 := s9
         have z7 := s7
         have z8 := s8
         have h7n : l7.length = i ∧ l8.length = i := by rw [h7, h8]; simp
         refine cw_seq (sR ?_)
         refine rM rfl s9 <| rw_q rfl (ev_i64_lss (b := 64) rfl rfl) ?_
         refine rN ?_
         refine cw_cond rfl (fun hc30 => ?_) (fun hc30 => ?_)
         · -- true
           have hc30p := of_decide_eq_true hc30
           refine cw_skip (kThen_normal (cw_seq (cw_block (sR ?_))))
           refine rM rfl s7 <| rM rfl s5 <| rM rfl s9 <| rw_q rfl (ev_indexAddr_rdv (gk2.rd (Mem.pick2 H7 H8 Hk2 _ hm29)) uT26 ti5 rfl rfl oM sD) <| rw_q (v := (u8 (kl.getD i 0))) rfl (ev_load_rdD (l := kl) (i := (i : Int)) (dflt := 0) (gk2.rd (Mem.pick2 H7 H8 Hk2 _ hm29)) uT5 rfl oM sD rfl) <| rw_q rfl (ev_u8_xor (b := 54#8) rfl rfl) ?_
           refine rw_c rfl (or_buildSlice_cl u8 [(kl.getD i 0) ^^^ 54#8] u8_one hm29 uT26 ti5 rfl rfl rfl) ?_
           rintro _ w31 ⟨b40, rfl, _ew31, hm31⟩
           refine rw_c rfl (or_append (f := u8) (Hs := H7) (H := [(b40, .cells (cl u8 ([(kl.getD i 0) ^^^ 54#8])) 5 (0, 0))] ++ (H8 ++ (Hk2 ++ ([(b4, .cells (cl u8 (List.replicate 32 0)) 23 (0, 0))])))) (Mem.pick [_] H7 _ hm31) gg7 rfl rfl (Rd.mkA hm31.h0) uT26 uT26 ti5 rfl u8_one sD sD) ?_
           rintro sv32 w32 ⟨Hs32, hm32, g32⟩
           replace g32 : Grow u8 5 sv32 (l7 ++ ([(kl.getD i 0) ^^^ 54#8])) Hs32 := g32
           refine rA rfl (v := sv32) rfl ?_
           refine rN ?_
           have hm33 := Mem.drop ([(b40, .cells (cl u8 ([(kl.getD i 0) ^^^ 54#8])) 5 (0, 0))]) _ (Mem.pick Hs32 [_] _ hm32)
           refine CW.abs (fun g => g 0 = vb ∧ g 1 = vc ∧ g 4 = (ptr b4 0) ∧ g 5 = sk2 ∧ g 7 = sv32 ∧ g 8 = sv8 ∧ g 9 = (i64 (i : Int)) ∧ g 16 = (bl (decide (64 < (l.length : Int)))) ∧ g 24 = (bl (decide ((kl.length : Int) < 64))) ∧ g 31 = (bl (decide ((i : Int) < 64))) ∧ True) ⟨s0, s1, s4, s5, rfl, s8, s9, s16, s24, rfl, trivial⟩ ?_
           rintro fr34 ⟨s0, s1, s4, s5, s7, s8, s9, s16, s24, s31, _⟩
           refine cw_region <| rM rfl s8 <| rM rfl s5 <| rM rfl s9 <| rw_q rfl (ev_indexAddr_rdv (gk2.rd (Mem.pick2 Hs32 H8 Hk2 _ hm33)) uT26 ti5 rfl rfl oM sD) <| rw_q (v := (u8 (kl.getD i 0))) rfl (ev_load_rdD (l := kl) (i := (i : Int)) (dflt := 0) (gk2.rd (Mem.pick2 Hs32 H8 Hk2 _ hm33)) uT5 rfl oM sD rfl) ?_
           refine rw_q rfl (ev_u8_xor (b := 92#8) rfl rfl) <| rw_c rfl (or_buildSlice_cl u8 [(kl.getD i 0) ^^^ 92#8] u8_one hm33 uT26 ti5 rfl rfl rfl) ?_
           rintro _ w35 ⟨b48, rfl, _ew35, hm35⟩
           refine rw_c rfl (or_append (f := u8) (Hs := H8) (H := [(b48, .cells (cl u8 ([(kl.getD i 0) ^^^ 92#8])) 5 (0, 0))] ++ (Hs32 ++ (Hk2 ++ ([(b4, .cells (cl u8 (List.replicate 32 0)) 23 (0, 0))])))) (Mem.pick2 [_] Hs32 H8 _ hm35) gg8 rfl rfl (Rd.mkA hm35.h0) uT26 uT26 ti5 rfl u8_one sD sD) ?_
           rintro sv36 w36 ⟨Hs36, hm36, g36⟩
           replace g36 : Grow u8 5 sv36 (l8 ++ ([(kl.getD i 0) ^^^ 92#8])) Hs36 := g36
           refine rA rfl (v := sv36) rfl ?_
           refine rw_nil (kBlk_normal (cw_region ?_))
           refine rM rfl s9 <| rw_q rfl (ev_i64_add (b := 1) rfl rfl oM oM) <| rw_q rfl (ev_assign (v := (i64 ((i : Int) + 1))) rfl) ?_
           refine rN ?_
           have hm37 := Mem.drop ([(b48, .cells (cl u8 ([(kl.getD i 0) ^^^ 92#8])) 5 (0, 0))]) _ (Mem.pick Hs36 [_] _ hm36)
           have hm38 := (Mem.pick3 Hs36 Hs32 Hk2 [_] _ hm37)
           have hm39 := (Mem.pick3 [_] Hs36 Hs32 Hk2 _ hm38)
           have hm40 := (Mem.pick2 Hk2 [_] Hs36 _ hm39)
           have hm41 := (Mem.pick3 Hs36 Hk2 [_] Hs32 _ hm40)
           exact ⟨⟨i + 1, l7 ++ ([(kl.getD i 0) ^^^ 54#8]), l8 ++ ([(kl.getD i 0) ^^^ 92#8]), sv32, sv36, Hs32, Hs36, oM, (by rw [h7]; exact range_snoc _ _ _ rfl), (by rw [h8]; exact range_snoc _ _ _ rfl), g32, g36, s0, s1, s4, s5, s7, rfl, rfl, s16, s24, hm41⟩, meas rfl z9 oM oM⟩
         · -- false
           have hc30p := of_decide_eq_false hc30
           obtain rfl : i = 64 := by omega
           rw [mask_map hkl] at h7 h8
           have h7n : l7.length = 64 ∧ l8.length = 64 := by rw [h7, h8]; simp
           refine cw_exit ?_
           refine kThen_exit (kThen_exit (kBlk_hit ?_))
           refine sR ?_
           refine rM rfl s7 <| rM rfl s1 <| rw_c rfl (or_append (f := u8) (Hs := H7) (H := H8 ++ (Hk2 ++ ([(b4, .cells (cl u8 (List.replicate 32 0)) 23 (0, 0))]))) hm29 gg7 rfl rfl (Rd.ofRest hrm hm29) uT26 uT26 ti5 rfl u8_one sD sD) ?_
           rintro sv42 w42 ⟨Hs42, hm42, g42⟩
           replace g42 : Grow u8 5 sv42 (l7 ++ m) Hs42 := g42
           refine rA rfl (v := sv42) rfl ?_
           refine rN (sR ?_)
           refine rM rfl (v := sv42) rfl <| rw_c rfl (opR_call Tryd.func48 bd48 nm48 (args1 rfl) (c_rsum sv42 (l7 ++ m) _ (g42.rd hm42) sD)) ?_
           rintro _ w43 ⟨rfl, _ew43⟩
           have hm43 := hm42.ext _ew43
           refine rw_c rfl (or_alloc_agg hm43 ti23) ?_
           rintro _ w45 ⟨b10, rfl, _ew45, hm45⟩
           refine rw_n (or_store_agg (f := u8) (l := sumP (l7 ++ m)) u8_one ti23 rfl rfl sD hm45.h0 sZ rfl) ?_
           rintro _ w46 uq46
           have hm46 := hm45.upd0 uq46
           refine rN (sR ?_)
           refine rM rfl s8 <| rw_q rfl (ev_slice_sla (i := 0) (j := 32) uT23 ti5 rfl (optI_none _ _) (optI_none _ _) oM sD sD) <| rw_c rfl (or_append (f := u8) (Hs := H8) (H := [(b10, .cells (cl u8 (sumP (l7 ++ m))) 23 (0, 0))] ++ (Hs42 ++ (Hk2 ++ ([(b4, .cells (cl u8 (List.replicate 32 0)) 23 (0, 0))])))) (Mem.pick2 [_] Hs42 H8 _ hm46) gg8 rfl rfl (Rd.slaAll hm46.h0 sD) uT26 uT26 ti5 rfl u8_one sD sD) ?_
           rintro sv47 w47 ⟨Hs47, hm47, g47⟩
           replace g47 : Grow u8 5 sv47 (l8 ++ (sumP (l7 ++ m))) Hs47 := g47
           refine rA rfl (v := sv47) rfl ?_
           refine rN ?_
           refine CW.abs (fun g => g 0 = vb ∧ g 1 = vc ∧ g 4 = (ptr b4 0) ∧ g 5 = sk2 ∧ g 7 = sv42 ∧ g 8 = sv47 ∧ g 9 = (i64 (64 : Int)) ∧ g 10 = (ptr b10 0) ∧ g 16 = (bl (decide (64 < (l.length : Int)))) ∧ g 24 = (bl (decide ((kl.length : Int) < 64))) ∧ g 31 = (bl (decide ((64 : Int) < 64))) ∧ True) ⟨s0, s1, s4, s5, rfl, rfl, s9, rfl, s16, s24, rfl, trivial⟩ ?_
           rintro fr48 ⟨s0, s1, s4, s5, s7, s8, s9, s10, s16, s24, s31, _⟩
           refine sR ?_
           refine rM rfl s8 <| rw_c rfl (opR_call Tryd.func48 bd48 nm48 (args1 rfl) (c_rsum sv47 (l8 ++ (sumP (l7 ++ m))) _ (g47.rd hm47) sD)) ?_
           rintro _ w49 ⟨rfl, _ew49⟩
           have hm49 := hm47.ext _ew49
           refine rw_n (or_store_agg (f := u8) (l := sumP (l8 ++ (sumP (l7 ++ m)))) u8_one ti23 s4 rfl sD ((Mem.pick4 Hs47 [_] Hs42 Hk2 [_] _ hm49)).h0 sZ rfl) ?_
           rintro _ w51 uq51
           have hm51 : Mem w51 (restOf w0) ([(b4, .cells (cl u8 (sumP (l8 ++ (sumP (l7 ++ m))))) 23 (0, 0))] ++ (Hs47 ++ ([(b10, .cells (cl u8 (sumP (l7 ++ m))) 23 (0, 0))] ++ (Hs42 ++ (Hk2 ++ ([])))))) := Mem.upd0 (Mem.pick4 Hs47 [_] Hs42 Hk2 [_] _ hm49) uq51
           refine rN (cw_ret ?_)
           refine fnPost_ret [(agg u8 (sumP (l8 ++ (sumP (l7 ++ m)))))] ⟨⟨_, s4, loadVar_run uT23 rfl ti23 hm51.h0 sZ⟩, trivial⟩ ?_
           exact ⟨congrArg (agg u8) (by unfold hmacP; rw [h7, h8]), hm51.toExt⟩


end Go.Proofs.YtmiagmbgfhakgaaDoor

