/- Contracts: the seal, second part. Conditions: none beyond those that each theorem states. -/
import Derived.Test.YtmiagmbgfhakgaaDoorSe1
import Derived.Test.YtmiagmbgfhakgaaDoorFwP
namespace Go.Proofs.YtmiagmbgfhakgaaDoor
set_option linter.unusedVariables false
set_option linter.unusedSimpArgs false

theorem chunks_keys (key : List (BitVec 8)) : chunksP (2 : Int).toNat (expandP (extractP [] key) (bytesL ⟨#[115, 101, 97, 108]⟩) (32 * (2 : Int).toNat)) = keysQ [] key (bytesL ⟨#[115, 101, 97, 108]⟩) 2 := (keysQ_ok (by decide) (by decide)).symm
theorem joinL_one1 (a : Value) (x : List (BitVec 8)) : joinL [(a, x)] = x := by simp [joinL]

theorem errO_short {key nonce beside b : List (BitVec 8)} (h : b.length < 32) : errO key nonce beside b = 3 := by unfold errO; rw [if_pos h]
theorem openQ_short {key nonce beside b : List (BitVec 8)} (h : b.length < 32) : openQ key nonce beside b = [] := by unfold openQ; rw [if_pos h]
theorem errO_told {key nonce beside b : List (BitVec 8)} {r : Bool} (h : ¬ b.length < 32) (hr : rightP key nonce beside b = r) : errO key nonce beside b = if r then 0 else 10 := by unfold errO; rw [if_neg h, hr]
theorem openQ_told {key nonce beside b : List (BitVec 8)} {r : Bool} (h : ¬ b.length < 32) (hr : rightP key nonce beside b = r) : openQ key nonce beside b = if r then cipherP key nonce (frontP b) else [] := by unfold openQ; rw [if_neg h, hr]
attribute [local irreducible] hmacP tK outK expandP extractP keysQ expandQ errK errP turnP blockP blockR msgP
set_option maxHeartbeats 1000000 in
theorem c_seal (key : List (BitVec 8)) (nonce : List (BitVec 8)) (va : Value) (la : List (BitVec 8)) (vc : Value) (lc : List (BitVec 8)) (w0 : World)  (hT : Tabs (blks w0)) (hk : key.length = 32) (hn : nonce.length = 12) (hra : Rd (blks w0) u8 va la) (hla : la.length ≤ 100000) (hrc : Rd (blks w0) u8 vc lc) (hlc : lc.length ≤ 100000) : CallsR Tryd.prog 11 #[(agg u8 key), (agg u8 nonce), va, vc] w0 (fun r w1 => ∃ Hs, Grow u8 5 r (closeP key nonce la lc) Hs ∧ Mem w1 (restOf w0) Hs) := by
 refine callsR_of_cw (args := [(agg u8 key), (agg u8 nonce), va, vc]) Tryd.func11 rfl Tryd.ntmps11 Tryd.results11 rfl ?_
 have hm0 : Mem w0 (restOf w0) [] := Mem.of_world w0
 have hkt := keyT_len key
 have hkm := keyM_len key
 have hcl := cipherP_length key nonce lc
 refine cw_seq (cw_region ?_)
 refine rw_c rfl (or_box_agg (f := u8) (l := key) hm0 rfl) ?_
 rintro _ w1 ⟨b4, rfl, _ew1, hm1⟩
 refine rw_c rfl (or_box_agg (f := u8) (l := nonce) hm1 rfl) ?_
 rintro _ w2 ⟨b5, rfl, _ew2, hm2⟩
 refine rw_q rfl (ev_assign (v := (Value.slice none 0 0)) rfl) ?_
 refine rw_nil (kThen_normal (cw_seq (cw_region ?_)))
 refine rw_q (v := (agg u8 key)) rfl (ev_loadA uT23 rfl ti23 rfl hm2.h1 sZ) <| rw_c rfl (opR_call Tryd.func26 bd26 nm26 (args1 rfl) (c_skeys key _ (hT.mono fun b o e => (hm2).rest b o e) sD)) ?_
 rintro _ w3 ⟨rfl, _ew3⟩
 have hm3 := hm2.ext _ew3
 refine rw_q rfl (ev_move (v := (Value.tuple #[(agg u8 (keyT key)), (agg u8 (keyM key))])) rfl) <| rw_q (v := (agg u8 (keyT key))) rfl (ev_extract rfl rfl) <| rw_q (v := (agg u8 (keyM key))) rfl (ev_extract rfl rfl) <| rw_c rfl (or_alloc_agg hm3 ti23) ?_
 rintro _ w5 ⟨b9, rfl, _ew5, hm5⟩
 refine rw_c rfl (or_alloc_agg hm5 ti23) ?_
 rintro _ w6 ⟨b10, rfl, _ew6, hm6⟩
 refine rw_n (or_store_agg (f := u8) (l := keyT key) u8_one ti23 rfl rfl sD hm6.h1 sZ rfl) ?_
 rintro _ w7 uq7
 have hm7 := hm6.upd1 uq7
 refine rw_n (or_store_agg (f := u8) (l := keyM key) u8_one ti23 rfl rfl sD hm7.h0 sZ rfl) ?_
 rintro _ w8 uq8
 have hm8 := hm7.upd0 uq8
 refine rw_nil (kThen_normal (cw_seq (cw_region ?_)))
 refine rw_q (v := (agg u8 (keyT key))) rfl (ev_loadA uT23 rfl ti23 rfl hm8.h1 sZ) <| rw_q (v := (agg u8 nonce)) rfl (ev_loadA uT25 rfl ti25 rfl hm8.h2 sZ) <| rM rfl (v := vc) rfl <| rw_c rfl (opR_call Tryd.func27 bd27 nm27 (args4 rfl rfl rfl rfl) (c_turn (keyT key) 1#32 nonce vc lc _ sD sD (Rd.ofRest hrc hm8) sD)) ?_
 rintro _ w9 ⟨bq10, rfl, k_w9⟩
 have hm9 : Mem w9 (restOf w0) [(bq10, .cells (cl u8 (turnP blockP (keyT key) 1#32 nonce lc)) 5 (0, 0)), (b10, .cells (cl u8 (keyM key)) 23 (0, 0)), (b9, .cells (cl u8 (keyT key)) 23 (0, 0)), (b5, .cells (cl u8 nonce) 25 (0, 0)), (b4, .cells (cl u8 key) 23 (0, 0))] := Mem.new (H := [(b10, .cells (cl u8 (keyM key)) 23 (0, 0)), (b9, .cells (cl u8 (keyT key)) 23 (0, 0)), (b5, .cells (cl u8 nonce) 25 (0, 0)), (b4, .cells (cl u8 key) 23 (0, 0))]) (H' := [(bq10, .cells (cl u8 (turnP blockP (keyT key) 1#32 nonce lc)) 5 (0, 0))]) hm8 k_w9
 refine rA rfl rfl ?_
 refine rw_nil (kThen_normal ?_)
 refine CW.abs (fun g => g 0 = (agg u8 key) ∧ g 1 = (agg u8 nonce) ∧ g 2 = va ∧ g 3 = vc ∧ g 4 = (ptr b4 0) ∧ g 5 = (ptr b5 0) ∧ g 8 = (Value.slice none 0 0) ∧ g 9 = (ptr b9 0) ∧ g 10 = (ptr b10 0) ∧ g 11 = (slc bq10 0 ((turnP blockP (keyT key) 1#32 nonce lc).length) ((turnP blockP (keyT key) 1#32 nonce lc).length)) ∧ True) ⟨rfl, rfl, rfl, rfl, rfl, rfl, rfl, rfl, rfl, rfl, trivial⟩ ?_
 rintro fr11 ⟨s0, s1, s2, s3, s4, s5, s8, s9, s10, s11, _⟩
 refine cw_seq <| cw_drawE (by kernel_rfl) ?_
 refine re_or 4 7 rfl rfl ?_ ?_
 · -- 4 ahead of 7
   refine re_or 5 7 rfl rfl ?_ ?_
   · -- 5 ahead of 7
     refine re_plan [(0, false), (1, false), (2, false), (3, false), (4, true), (5, true), (6, false), (7, true)] 8 rfl (by kernel_rfl) <| dw_q rfl rfl (fun _ _hx => ev_slice_sla (i := 0) (j := 32) uT23 ti5 s10 (optI_none _ _) (optI_none _ _) oM sD sD) <| dw_q (v := (agg u8 nonce)) rfl rfl (fun _ _hx => ev_loadA uT25 rfl ti25 s5 (hm9.ext _hx).h3 sZ) <| dM rfl rfl s2 <| dM rfl rfl s11 ?_
     refine dw_c rfl rfl (fun w12 _ew12 => ?_)
     have hm12 := hm9.ext _ew12
     refine OpR.mono (opR_call Tryd.func16 bd16 nm16 (args3 rfl rfl rfl) (c_message nonce va la (slc bq10 0 ((turnP blockP (keyT key) 1#32 nonce lc).length) ((turnP blockP (keyT key) 1#32 nonce lc).length)) (turnP blockP (keyT key) 1#32 nonce lc) _ sD (Rd.ofRest hra hm12) sD (Rd.mkA hm12.h0) sD)) ?_
     rintro rxq14 w13 ⟨Hsq14, grxq14, k_w13⟩
     refine ⟨k_w13.toExt, ?_⟩
     have hm13 : Mem w13 (restOf w0) (Hsq14 ++ ([(bq10, .cells (cl u8 (turnP blockP (keyT key) 1#32 nonce lc)) 5 (0, 0)), (b10, .cells (cl u8 (keyM key)) 23 (0, 0)), (b9, .cells (cl u8 (keyT key)) 23 (0, 0)), (b5, .cells (cl u8 nonce) 25 (0, 0)), (b4, .cells (cl u8 key) 23 (0, 0))])) := Mem.new (H := [(bq10, .cells (cl u8 (turnP blockP (keyT key) 1#32 nonce lc)) 5 (0, 0)), (b10, .cells (cl u8 (keyM key)) 23 (0, 0)), (b9, .cells (cl u8 (keyT key)) 23 (0, 0)), (b5, .cells (cl u8 nonce) 25 (0, 0)), (b4, .cells (cl u8 key) 23 (0, 0))]) (H' := Hsq14) hm12 k_w13
     refine dw_c rfl rfl (fun w15 _ew15 => ?_)
     have hm15 := hm13.ext _ew15
     refine OpR.mono (or_buildSlice_ones [rxq14] (List.all_eq_true.1 (one_cons grxq14.one one_nil)) hm15 uT71 ti26 rfl rfl rfl) ?_
     rintro _ w16 ⟨b27, rfl, _ew16, hm16⟩
     refine ⟨_ew16, ?_⟩
     have hm16 : Mem w16 (restOf w0) ([(b27, .cells #[rxq14] 26 (0, 0))] ++ (Hsq14 ++ ([(bq10, .cells (cl u8 (turnP blockP (keyT key) 1#32 nonce lc)) 5 (0, 0)), (b10, .cells (cl u8 (keyM key)) 23 (0, 0)), (b9, .cells (cl u8 (keyT key)) 23 (0, 0)), (b5, .cells (cl u8 nonce) 25 (0, 0)), (b4, .cells (cl u8 key) 23 (0, 0))]))) := hm16
     refine dw_x (v := (agg u8 (hmacP (keyM key) (joinL ([(rxq14, msgP nonce la (turnP blockP (keyT key) 1#32 nonce lc))]))))) rfl rfl (fun w17 _ew17 => OpR.mono (opR_call Tryd.func28 bd28 nm28 (args2 rfl rfl) (c_hmac (sla b10 0 1 0 32 32) (keyM key) (slc b27 0 1 1) ([(rxq14, msgP nonce la (turnP blockP (keyT key) 1#32 nonce lc))]) _ (hT.mono fun b o e => ((hm16.ext _ew17)).rest b o e) (Rd.slaAll ((Mem.pick3 [_] Hsq14 [_] [_] _ (hm16.ext _ew17))).h0 sD) sD (Rd.mkA (f := Prod.fst) (l := [(rxq14, msgP nonce la (turnP blockP (keyT key) 1#32 nonce lc))]) (hm16.ext _ew17).h0) (allp_cons (grxq14.rd (Mem.pick [_] Hsq14 _ (hm16.ext _ew17))) allp_nil) (by rw [joinL_one1]; simp only [msgP_length, turnP_length]; omega) sD)) (by rintro _ w18 ⟨rfl, _ew18⟩; exact ⟨rfl, _ew18⟩)) ?_
     refine dw_c rfl rfl (fun w20 _ew20 => ?_)
     have hm20 := hm16.ext _ew20
     refine OpR.mono (or_alloc_agg hm20 ti23) ?_
     rintro _ w21 ⟨b12, rfl, _ew21, hm21⟩
     refine ⟨_ew21, ?_⟩
     refine dw_nil (fun w22 _ew22 => ?_)
     have hm22 := hm21.ext _ew22
     refine rw_n (or_store_agg (f := u8) (l := hmacP (keyM key) (joinL ([(rxq14, msgP nonce la (turnP blockP (keyT key) 1#32 nonce lc))]))) u8_one ti23 rfl rfl sD hm22.h0 sZ rfl) ?_
     rintro _ w23 uq23
     have hm23 := hm22.upd0 uq23
     refine rw_nil (kThen_normal (cw_seq (cw_region ?_)))
     refine rM rfl s11 <| rw_q rfl (ev_slice_sla (i := 0) (j := 32) uT23 ti5 rfl (optI_none _ _) (optI_none _ _) oM sD sD) <| rw_c rfl (or_append (f := u8) (Hs := [(bq10, .cells (cl u8 (turnP blockP (keyT key) 1#32 nonce lc)) 5 (0, 0))]) (H := [(b12, .cells (cl u8 (hmacP (keyM key) (joinL ([(rxq14, msgP nonce la (turnP blockP (keyT key) 1#32 nonce lc))])))) 23 (0, 0)), (b27, .cells #[rxq14] 26 (0, 0))] ++ (Hsq14 ++ ([(b10, .cells (cl u8 (keyM key)) 23 (0, 0)), (b9, .cells (cl u8 (keyT key)) 23 (0, 0)), (b5, .cells (cl u8 nonce) 25 (0, 0)), (b4, .cells (cl u8 key) 23 (0, 0))]))) (Mem.pick2 [_, _] Hsq14 [_] _ hm23) (Grow.of u8 5 bq10 (turnP blockP (keyT key) 1#32 nonce lc)) rfl rfl (Rd.slaAll hm23.h0 sD) uT26 uT26 ti5 rfl u8_one sD sD) ?_
     rintro sv24 w24 ⟨Hs24, hm24, g24⟩
     replace g24 : Grow u8 5 sv24 ((turnP blockP (keyT key) 1#32 nonce lc) ++ (hmacP (keyM key) (joinL ([(rxq14, msgP nonce la (turnP blockP (keyT key) 1#32 nonce lc))])))) Hs24 := g24
     refine rA rfl (v := sv24) rfl ?_
     refine rw_nil (kThen_normal ?_)
     have hm25 := Mem.drop ([(b27, .cells #[rxq14] 26 (0, 0))]) _ (Mem.pick2 Hs24 [_] [_] _ hm24)
     have hm26 := Mem.drop Hsq14 _ (Mem.pick2 Hs24 [_] Hsq14 _ hm25)
     refine CW.abs (fun g => g 0 = (agg u8 key) ∧ g 1 = (agg u8 nonce) ∧ g 2 = va ∧ g 3 = vc ∧ g 4 = (ptr b4 0) ∧ g 5 = (ptr b5 0) ∧ g 8 = sv24 ∧ g 9 = (ptr b9 0) ∧ g 10 = (ptr b10 0) ∧ g 11 = (slc bq10 0 ((turnP blockP (keyT key) 1#32 nonce lc).length) ((turnP blockP (keyT key) 1#32 nonce lc).length)) ∧ g 12 = (ptr b12 0) ∧ True) ⟨s0, s1, s2, s3, s4, s5, rfl, s9, s10, s11, rfl, trivial⟩ ?_
     rintro fr27 ⟨s0, s1, s2, s3, s4, s5, s8, s9, s10, s11, s12, _⟩
     refine cw_ret <| fnPost_ret [sv24] ⟨s8, trivial⟩ ?_
     have hm28 := Mem.drop ([(b12, .cells (cl u8 (hmacP (keyM key) (joinL ([(rxq14, msgP nonce la (turnP blockP (keyT key) 1#32 nonce lc))])))) 23 (0, 0))]) _ (Mem.pick Hs24 [_] _ hm26)
     have hm29 := Mem.drop ([(b10, .cells (cl u8 (keyM key)) 23 (0, 0))]) _ (Mem.pick Hs24 [_] _ hm28)
     have hm30 := Mem.drop ([(b9, .cells (cl u8 (keyT key)) 23 (0, 0))]) _ (Mem.pick Hs24 [_] _ hm29)
     have hm31 := Mem.drop ([(b5, .cells (cl u8 nonce) 25 (0, 0))]) _ (Mem.pick Hs24 [_] _ hm30)
     have hm32 := Mem.drop ([(b4, .cells (cl u8 key) 23 (0, 0))]) _ (Mem.pick Hs24 [_] _ hm31)
     have hfin : (turnP blockP (keyT key) 1#32 nonce lc) ++ (hmacP (keyM key) (joinL ([(rxq14, msgP nonce la (turnP blockP (keyT key) 1#32 nonce lc))]))) = closeP key nonce la lc := by simp only [closeP, tagP, cipherP, joinL_one1, keyT, keyM]
     exact ⟨Hs24, hfin ▸ g24, by simpa using hm32⟩
   · -- 7 ahead of 5
     refine re_plan [(0, false), (1, false), (2, false), (3, false), (4, true), (7, true), (5, true), (6, false)] 8 rfl (by kernel_rfl) <| dw_q rfl rfl (fun _ _hx => ev_slice_sla (i := 0) (j := 32) uT23 ti5 s10 (optI_none _ _) (optI_none _ _) oM sD sD) <| dw_q (v := (agg u8 nonce)) rfl rfl (fun _ _hx => ev_loadA uT25 rfl ti25 s5 (hm9.ext _hx).h3 sZ) <| dM rfl rfl s2 <| dM rfl rfl s11 ?_
     refine dw_c rfl rfl (fun w33 _ew33 => ?_)
     have hm33 := hm9.ext _ew33
     refine OpR.mono (opR_call Tryd.func16 bd16 nm16 (args3 rfl rfl rfl) (c_message nonce va la (slc bq10 0 ((turnP blockP (keyT key) 1#32 nonce lc).length) ((turnP blockP (keyT key) 1#32 nonce lc).length)) (turnP blockP (keyT key) 1#32 nonce lc) _ sD (Rd.ofRest hra hm33) sD (Rd.mkA hm33.h0) sD)) ?_
     rintro rxq35 w34 ⟨Hsq35, grxq35, k_w34⟩
     refine ⟨k_w34.toExt, ?_⟩
     have hm34 : Mem w34 (restOf w0) (Hsq35 ++ ([(bq10, .cells (cl u8 (turnP blockP (keyT key) 1#32 nonce lc)) 5 (0, 0)), (b10, .cells (cl u8 (keyM key)) 23 (0, 0)), (b9, .cells (cl u8 (keyT key)) 23 (0, 0)), (b5, .cells (cl u8 nonce) 25 (0, 0)), (b4, .cells (cl u8 key) 23 (0, 0))])) := Mem.new (H := [(bq10, .cells (cl u8 (turnP blockP (keyT key) 1#32 nonce lc)) 5 (0, 0)), (b10, .cells (cl u8 (keyM key)) 23 (0, 0)), (b9, .cells (cl u8 (keyT key)) 23 (0, 0)), (b5, .cells (cl u8 nonce) 25 (0, 0)), (b4, .cells (cl u8 key) 23 (0, 0))]) (H' := Hsq35) hm33 k_w34
     refine dw_c rfl rfl (fun w36 _ew36 => ?_)
     have hm36 := hm34.ext _ew36
     refine OpR.mono (or_alloc_agg hm36 ti23) ?_
     rintro _ w37 ⟨b12_1, rfl, _ew37, hm37⟩
     refine ⟨_ew37, ?_⟩
     refine dw_c rfl rfl (fun w38 _ew38 => ?_)
     have hm38 := hm37.ext _ew38
     refine OpR.mono (or_buildSlice_ones [rxq35] (List.all_eq_true.1 (one_cons grxq35.one one_nil)) hm38 uT71 ti26 rfl rfl rfl) ?_
     rintro _ w39 ⟨b27_1, rfl, _ew39, hm39⟩
     refine ⟨_ew39, ?_⟩
     have hm39 : Mem w39 (restOf w0) ([(b27_1, .cells #[rxq35] 26 (0, 0)), (b12_1, .cells (cl u8 (List.replicate 32 0)) 23 (0, 0))] ++ (Hsq35 ++ ([(bq10, .cells (cl u8 (turnP blockP (keyT key) 1#32 nonce lc)) 5 (0, 0)), (b10, .cells (cl u8 (keyM key)) 23 (0, 0)), (b9, .cells (cl u8 (keyT key)) 23 (0, 0)), (b5, .cells (cl u8 nonce) 25 (0, 0)), (b4, .cells (cl u8 key) 23 (0, 0))]))) := hm39
     refine dw_x (v := (agg u8 (hmacP (keyM key) (joinL ([(rxq35, msgP nonce la (turnP blockP (keyT key) 1#32 nonce lc))]))))) rfl rfl (fun w40 _ew40 => OpR.mono (opR_call Tryd.func28 bd28 nm28 (args2 rfl rfl) (c_hmac (sla b10 0 1 0 32 32) (keyM key) (slc b27_1 0 1 1) ([(rxq35, msgP nonce la (turnP blockP (keyT key) 1#32 nonce lc))]) _ (hT.mono fun b o e => ((hm39.ext _ew40)).rest b o e) (Rd.slaAll ((Mem.pick3 [_, _] Hsq35 [_] [_] _ (hm39.ext _ew40))).h0 sD) sD (Rd.mkA (f := Prod.fst) (l := [(rxq35, msgP nonce la (turnP blockP (keyT key) 1#32 nonce lc))]) (hm39.ext _ew40).h0) (allp_cons (grxq35.rd (Mem.pick [_, _] Hsq35 _ (hm39.ext _ew40))) allp_nil) (by rw [joinL_one1]; simp only [msgP_length, turnP_length]; omega) sD)) (by rintro _ w41 ⟨rfl, _ew41⟩; exact ⟨rfl, _ew41⟩)) ?_
     refine dw_nil (fun w43 _ew43 => ?_)
     have hm43 := hm39.ext _ew43
     refine rw_n (or_store_agg (f := u8) (l := hmacP (keyM key) (joinL ([(rxq35, msgP nonce la (turnP blockP (keyT key) 1#32 nonce lc))]))) u8_one ti23 rfl rfl sD hm43.h1 sZ rfl) ?_
     rintro _ w44 uq44
     have hm44 := hm43.upd1 uq44
     refine rw_nil (kThen_normal (cw_seq (cw_region ?_)))
     refine rM rfl s11 <| rw_q rfl (ev_slice_sla (i := 0) (j := 32) uT23 ti5 rfl (optI_none _ _) (optI_none _ _) oM sD sD) <| rw_c rfl (or_append (f := u8) (Hs := [(bq10, .cells (cl u8 (turnP blockP (keyT key) 1#32 nonce lc)) 5 (0, 0))]) (H := [(b27_1, .cells #[rxq35] 26 (0, 0)), (b12_1, .cells (cl u8 (hmacP (keyM key) (joinL ([(rxq35, msgP nonce la (turnP blockP (keyT key) 1#32 nonce lc))])))) 23 (0, 0))] ++ (Hsq35 ++ ([(b10, .cells (cl u8 (keyM key)) 23 (0, 0)), (b9, .cells (cl u8 (keyT key)) 23 (0, 0)), (b5, .cells (cl u8 nonce) 25 (0, 0)), (b4, .cells (cl u8 key) 23 (0, 0))]))) (Mem.pick2 [_, _] Hsq35 [_] _ hm44) (Grow.of u8 5 bq10 (turnP blockP (keyT key) 1#32 nonce lc)) rfl rfl (Rd.slaAll hm44.h1 sD) uT26 uT26 ti5 rfl u8_one sD sD) ?_
     rintro sv45 w45 ⟨Hs45, hm45, g45⟩
     replace g45 : Grow u8 5 sv45 ((turnP blockP (keyT key) 1#32 nonce lc) ++ (hmacP (keyM key) (joinL ([(rxq35, msgP nonce la (turnP blockP (keyT key) 1#32 nonce lc))])))) Hs45 := g45
     refine rA rfl (v := sv45) rfl ?_
     refine rw_nil (kThen_normal ?_)
     have hm46 := Mem.drop ([(b27_1, .cells #[rxq35] 26 (0, 0))]) _ (Mem.pick Hs45 [_] _ hm45)
     have hm47 := Mem.drop Hsq35 _ (Mem.pick2 Hs45 [_] Hsq35 _ hm46)
     refine CW.abs (fun g => g 0 = (agg u8 key) ∧ g 1 = (agg u8 nonce) ∧ g 2 = va ∧ g 3 = vc ∧ g 4 = (ptr b4 0) ∧ g 5 = (ptr b5 0) ∧ g 8 = sv45 ∧ g 9 = (ptr b9 0) ∧ g 10 = (ptr b10 0) ∧ g 11 = (slc bq10 0 ((turnP blockP (keyT key) 1#32 nonce lc).length) ((turnP blockP (keyT key) 1#32 nonce lc).length)) ∧ g 12 = (ptr b12_1 0) ∧ True) ⟨s0, s1, s2, s3, s4, s5, rfl, s9, s10, s11, rfl, trivial⟩ ?_
     rintro fr48 ⟨s0, s1, s2, s3, s4, s5, s8, s9, s10, s11, s12, _⟩
     refine cw_ret <| fnPost_ret [sv45] ⟨s8, trivial⟩ ?_
     have hm49 := Mem.drop ([(b12_1, .cells (cl u8 (hmacP (keyM key) (joinL ([(rxq35, msgP nonce la (turnP blockP (keyT key) 1#32 nonce lc))])))) 23 (0, 0))]) _ (Mem.pick Hs45 [_] _ hm47)
     have hm50 := Mem.drop ([(b10, .cells (cl u8 (keyM key)) 23 (0, 0))]) _ (Mem.pick Hs45 [_] _ hm49)
     have hm51 := Mem.drop ([(b9, .cells (cl u8 (keyT key)) 23 (0, 0))]) _ (Mem.pick Hs45 [_] _ hm50)
     have hm52 := Mem.drop ([(b5, .cells (cl u8 nonce) 25 (0, 0))]) _ (Mem.pick Hs45 [_] _ hm51)
     have hm53 := Mem.drop ([(b4, .cells (cl u8 key) 23 (0, 0))]) _ (Mem.pick Hs45 [_] _ hm52)
     have hfin : (turnP blockP (keyT key) 1#32 nonce lc) ++ (hmacP (keyM key) (joinL ([(rxq35, msgP nonce la (turnP blockP (keyT key) 1#32 nonce lc))]))) = closeP key nonce la lc := by simp only [closeP, tagP, cipherP, joinL_one1, keyT, keyM]
     exact ⟨Hs45, hfin ▸ g45, by simpa using hm53⟩
 · -- 7 ahead of 4
   refine re_plan [(0, false), (1, false), (2, false), (3, false), (7, true), (4, true), (5, true), (6, false)] 8 rfl (by kernel_rfl) <| dw_q rfl rfl (fun _ _hx => ev_slice_sla (i := 0) (j := 32) uT23 ti5 s10 (optI_none _ _) (optI_none _ _) oM sD sD) <| dw_q (v := (agg u8 nonce)) rfl rfl (fun _ _hx => ev_loadA uT25 rfl ti25 s5 (hm9.ext _hx).h3 sZ) <| dM rfl rfl s2 <| dM rfl rfl s11 ?_
   refine dw_c rfl rfl (fun w54 _ew54 => ?_)
   have hm54 := hm9.ext _ew54
   refine OpR.mono (or_alloc_agg hm54 ti23) ?_
   rintro _ w55 ⟨b12_2, rfl, _ew55, hm55⟩
   refine ⟨_ew55, ?_⟩
   refine dw_c rfl rfl (fun w56 _ew56 => ?_)
   have hm56 := hm55.ext _ew56
   refine OpR.mono (opR_call Tryd.func16 bd16 nm16 (args3 rfl rfl rfl) (c_message nonce va la (slc bq10 0 ((turnP blockP (keyT key) 1#32 nonce lc).length) ((turnP blockP (keyT key) 1#32 nonce lc).length)) (turnP blockP (keyT key) 1#32 nonce lc) _ sD (Rd.ofRest hra hm56) sD (Rd.mkA hm56.h1) sD)) ?_
   rintro rxq58 w57 ⟨Hsq58, grxq58, k_w57⟩
   refine ⟨k_w57.toExt, ?_⟩
   have hm57 : Mem w57 (restOf w0) (Hsq58 ++ ([(b12_2, .cells (cl u8 (List.replicate 32 0)) 23 (0, 0)), (bq10, .cells (cl u8 (turnP blockP (keyT key) 1#32 nonce lc)) 5 (0, 0)), (b10, .cells (cl u8 (keyM key)) 23 (0, 0)), (b9, .cells (cl u8 (keyT key)) 23 (0, 0)), (b5, .cells (cl u8 nonce) 25 (0, 0)), (b4, .cells (cl u8 key) 23 (0, 0))])) := Mem.new (H := [(b12_2, .cells (cl u8 (List.replicate 32 0)) 23 (0, 0)), (bq10, .cells (cl u8 (turnP blockP (keyT key) 1#32 nonce lc)) 5 (0, 0)), (b10, .cells (cl u8 (keyM key)) 23 (0, 0)), (b9, .cells (cl u8 (keyT key)) 23 (0, 0)), (b5, .cells (cl u8 nonce) 25 (0, 0)), (b4, .cells (cl u8 key) 23 (0, 0))]) (H' := Hsq58) hm56 k_w57
   refine dw_c rfl rfl (fun w59 _ew59 => ?_)
   have hm59 := hm57.ext _ew59
   refine OpR.mono (or_buildSlice_ones [rxq58] (List.all_eq_true.1 (one_cons grxq58.one one_nil)) hm59 uT71 ti26 rfl rfl rfl) ?_
   rintro _ w60 ⟨b27_2, rfl, _ew60, hm60⟩
   refine ⟨_ew60, ?_⟩
   have hm60 : Mem w60 (restOf w0) ([(b27_2, .cells #[rxq58] 26 (0, 0))] ++ (Hsq58 ++ ([(b12_2, .cells (cl u8 (List.replicate 32 0)) 23 (0, 0)), (bq10, .cells (cl u8 (turnP blockP (keyT key) 1#32 nonce lc)) 5 (0, 0)), (b10, .cells (cl u8 (keyM key)) 23 (0, 0)), (b9, .cells (cl u8 (keyT key)) 23 (0, 0)), (b5, .cells (cl u8 nonce) 25 (0, 0)), (b4, .cells (cl u8 key) 23 (0, 0))]))) := hm60
   refine dw_x (v := (agg u8 (hmacP (keyM key) (joinL ([(rxq58, msgP nonce la (turnP blockP (keyT key) 1#32 nonce lc))]))))) rfl rfl (fun w61 _ew61 => OpR.mono (opR_call Tryd.func28 bd28 nm28 (args2 rfl rfl) (c_hmac (sla b10 0 1 0 32 32) (keyM key) (slc b27_2 0 1 1) ([(rxq58, msgP nonce la (turnP blockP (keyT key) 1#32 nonce lc))]) _ (hT.mono fun b o e => ((hm60.ext _ew61)).rest b o e) (Rd.slaAll ((Mem.pick3 [_] Hsq58 [_, _] [_] _ (hm60.ext _ew61))).h0 sD) sD (Rd.mkA (f := Prod.fst) (l := [(rxq58, msgP nonce la (turnP blockP (keyT key) 1#32 nonce lc))]) (hm60.ext _ew61).h0) (allp_cons (grxq58.rd (Mem.pick [_] Hsq58 _ (hm60.ext _ew61))) allp_nil) (by rw [joinL_one1]; simp only [msgP_length, turnP_length]; omega) sD)) (by rintro _ w62 ⟨rfl, _ew62⟩; exact ⟨rfl, _ew62⟩)) ?_
   refine dw_nil (fun w64 _ew64 => ?_)
   have hm64 := hm60.ext _ew64
   refine rw_n (or_store_agg (f := u8) (l := hmacP (keyM key) (joinL ([(rxq58, msgP nonce la (turnP blockP (keyT key) 1#32 nonce lc))]))) u8_one ti23 rfl rfl sD ((Mem.pick2 [_] Hsq58 [_] _ hm64)).h0 sZ rfl) ?_
   rintro _ w65 uq65
   have hm65 : Mem w65 (restOf w0) ([(b12_2, .cells (cl u8 (hmacP (keyM key) (joinL ([(rxq58, msgP nonce la (turnP blockP (keyT key) 1#32 nonce lc))])))) 23 (0, 0)), (b27_2, .cells #[rxq58] 26 (0, 0))] ++ (Hsq58 ++ ([(bq10, .cells (cl u8 (turnP blockP (keyT key) 1#32 nonce lc)) 5 (0, 0)), (b10, .cells (cl u8 (keyM key)) 23 (0, 0)), (b9, .cells (cl u8 (keyT key)) 23 (0, 0)), (b5, .cells (cl u8 nonce) 25 (0, 0)), (b4, .cells (cl u8 key) 23 (0, 0))]))) := Mem.upd0 (Mem.pick2 [_] Hsq58 [_] _ hm64) uq65
   refine rw_nil (kThen_normal (cw_seq (cw_region ?_)))
   refine rM rfl s11 <| rw_q rfl (ev_slice_sla (i := 0) (j := 32) uT23 ti5 rfl (optI_none _ _) (optI_none _ _) oM sD sD) <| rw_c rfl (or_append (f := u8) (Hs := [(bq10, .cells (cl u8 (turnP blockP (keyT key) 1#32 nonce lc)) 5 (0, 0))]) (H := [(b12_2, .cells (cl u8 (hmacP (keyM key) (joinL ([(rxq58, msgP nonce la (turnP blockP (keyT key) 1#32 nonce lc))])))) 23 (0, 0)), (b27_2, .cells #[rxq58] 26 (0, 0))] ++ (Hsq58 ++ ([(b10, .cells (cl u8 (keyM key)) 23 (0, 0)), (b9, .cells (cl u8 (keyT key)) 23 (0, 0)), (b5, .cells (cl u8 nonce) 25 (0, 0)), (b4, .cells (cl u8 key) 23 (0, 0))]))) (Mem.pick2 [_, _] Hsq58 [_] _ hm65) (Grow.of u8 5 bq10 (turnP blockP (keyT key) 1#32 nonce lc)) rfl rfl (Rd.slaAll hm65.h0 sD) uT26 uT26 ti5 rfl u8_one sD sD) ?_
   rintro sv66 w66 ⟨Hs66, hm66, g66⟩
   replace g66 : Grow u8 5 sv66 ((turnP blockP (keyT key) 1#32 nonce lc) ++ (hmacP (keyM key) (joinL ([(rxq58, msgP nonce la (turnP blockP (keyT key) 1#32 nonce lc))])))) Hs66 := g66
   refine rA rfl (v := sv66) rfl ?_
   refine rw_nil (kThen_normal ?_)
   have hm67 := Mem.drop ([(b27_2, .cells #[rxq58] 26 (0, 0))]) _ (Mem.pick2 Hs66 [_] [_] _ hm66)
   have hm68 := Mem.drop Hsq58 _ (Mem.pick2 Hs66 [_] Hsq58 _ hm67)
   refine CW.abs (fun g => g 0 = (agg u8 key) ∧ g 1 = (agg u8 nonce) ∧ g 2 = va ∧ g 3 = vc ∧ g 4 = (ptr b4 0) ∧ g 5 = (ptr b5 0) ∧ g 8 = sv66 ∧ g 9 = (ptr b9 0) ∧ g 10 = (ptr b10 0) ∧ g 11 = (slc bq10 0 ((turnP blockP (keyT key) 1#32 nonce lc).length) ((turnP blockP (keyT key) 1#32 nonce lc).length)) ∧ g 12 = (ptr b12_2 0) ∧ True) ⟨s0, s1, s2, s3, s4, s5, rfl, s9, s10, s11, rfl, trivial⟩ ?_
   rintro fr69 ⟨s0, s1, s2, s3, s4, s5, s8, s9, s10, s11, s12, _⟩
   refine cw_ret <| fnPost_ret [sv66] ⟨s8, trivial⟩ ?_
   have hm70 := Mem.drop ([(b12_2, .cells (cl u8 (hmacP (keyM key) (joinL ([(rxq58, msgP nonce la (turnP blockP (keyT key) 1#32 nonce lc))])))) 23 (0, 0))]) _ (Mem.pick Hs66 [_] _ hm68)
   have hm71 := Mem.drop ([(b10, .cells (cl u8 (keyM key)) 23 (0, 0))]) _ (Mem.pick Hs66 [_] _ hm70)
   have hm72 := Mem.drop ([(b9, .cells (cl u8 (keyT key)) 23 (0, 0))]) _ (Mem.pick Hs66 [_] _ hm71)
   have hm73 := Mem.drop ([(b5, .cells (cl u8 nonce) 25 (0, 0))]) _ (Mem.pick Hs66 [_] _ hm72)
   have hm74 := Mem.drop ([(b4, .cells (cl u8 key) 23 (0, 0))]) _ (Mem.pick Hs66 [_] _ hm73)
   have hfin : (turnP blockP (keyT key) 1#32 nonce lc) ++ (hmacP (keyM key) (joinL ([(rxq58, msgP nonce la (turnP blockP (keyT key) 1#32 nonce lc))]))) = closeP key nonce la lc := by simp only [closeP, tagP, cipherP, joinL_one1, keyT, keyM]
   exact ⟨Hs66, hfin ▸ g66, by simpa using hm74⟩

theorem c_ssame (va vb : Value) (la lb : List (BitVec 8)) (w0 : World)  (hra : Rd (blks w0) u8 va la) (hrb : Rd (blks w0) u8 vb lb) (hla : la.length ≤ 281474976710656) : CallsR Tryd.prog 18 #[va, vb] w0 (fun r w1 => r = (bl (la == lb)) ∧ Ext w0 w1) := by
 refine callsR_of_cw (args := [va, vb]) Tryd.func18 rfl Tryd.ntmps18 Tryd.results18 rfl ?_
 have hm0 : Mem w0 (restOf w0) [] := Mem.of_world w0
 refine cw_seq (cw_region ?_)
 refine rw_q rfl (ev_assign (v := (bl false)) rfl) ?_
 refine rw_nil (kThen_normal (cw_seq (cw_seq (cw_region ?_))))
 refine rM rfl (v := va) rfl <| rw_q (v := (i64 (la.length : Int))) rfl (ev_len_rd (Rd.ofRest hra hm0) uT26 rfl) <| rM rfl (v := vb) rfl <| rw_q (v := (i64 (lb.length : Int))) rfl (ev_len_rd (Rd.ofRest hrb hm0) uT26 rfl) <| rw_q rfl (ev_i64_neq rfl rfl) ?_
 refine rw_nil (kThen_normal ?_)
 refine cw_cond rfl (fun hc1 => ?_) (fun hc1 => ?_)
 · -- true
   have hc1p := bne_iff_ne.1 hc1
   refine cw_seq (cw_region ?_)
   refine rw_q rfl (ev_assign (v := (bl false)) rfl) ?_
   refine rw_nil (kThen_normal (cw_ret (kThen_ret ?_)))
   refine fnPost_ret [(bl false)] ⟨rfl, trivial⟩ ?_
   exact ⟨congrArg bl (same_len hc1p), hm0.toExt⟩
 · -- false
   have hc1p := eq_of_bne_false hc1
   refine cw_skip (kThen_normal (cw_seq (cw_region ?_)))
   refine rw_q rfl (ev_assign (v := (u8 0#8)) rfl) ?_
   refine rw_nil (kThen_normal (cw_seq (cw_seq (cw_region ?_))))
   refine rM rfl (v := va) rfl <| rw_q (v := (i64 (la.length : Int))) rfl (ev_len_rd (Rd.ofRest hra hm0) uT26 rfl) <| rw_q rfl (ev_move (v := (i64 0)) rfl) ?_
   refine rw_nil (kThen_normal (cw_block ?_))
   refine cw_loop (fun g wv => ∃ (k : Nat), (k ≤ la.length) ∧ g 0 = va ∧ g 1 = vb ∧ g 4 = (bl false) ∧ g 5 = (u8 (unlikeP la lb k)) ∧ g 11 = (bl ((la.length : Int) != (lb.length : Int))) ∧ g 13 = (i64 (la.length : Int)) ∧ g 14 = (i64 (k : Int)) ∧ Mem wv (restOf w0) []) (fun g wv => ((la.length : Int) - RowKit.intOf (g 14)).toNat) ?_ ?_
   · exact ⟨0, oM, rfl, rfl, rfl, rfl, rfl, rfl, rfl, hm0⟩
   · rintro fr2 w3 ⟨k, hk, s0, s1, s4, s5, s11, s13, s14, hm3⟩
     have z14 := s14
     have z5 := s5
     refine cw_seq (cw_region ?_)
     refine rw_q rfl (ev_i64_lss s14 s13) ?_
     refine rw_nil (kThen_normal (cw_seq ?_))
     refine cw_cond rfl (fun hc4 => ?_) (fun hc4 => ?_)
     · -- true
       have hc4p := of_decide_eq_true hc4
       refine cw_skip (kThen_normal (cw_seq (cw_block (cw_seq (cw_region ?_)))))
       refine rM rfl s14 <| rw_q rfl (ev_assign (v := (i64 (k : Int))) rfl) ?_
       refine rw_nil (kThen_normal ?_)
       refine cw_draw [(0, false), (1, false), (2, false), (3, false), (4, false), (5, false), (6, false), (7, false), (8, false), (9, false)] 10 (by kernel_rfl) <| dM rfl rfl s5 <| dM rfl rfl s0 <| dw_q rfl rfl (fun _ _hx => ev_move (v := (i64 (k : Int))) rfl) <| dw_q rfl rfl (fun _ _hx => ev_indexAddr_rdv (Rd.ofRest hra (hm3.ext _hx)) uT26 ti5 rfl rfl oM sD) <| dw_q (v := (u8 (la.getD k 0))) rfl rfl (fun _ _hx => ev_load_rdD (l := la) (i := (k : Int)) (dflt := 0) (Rd.ofRest hra (hm3.ext _hx)) uT5 rfl oM sD rfl) ?_
       refine dM rfl rfl s1 <| dw_q rfl rfl (fun _ _hx => ev_move (v := (i64 (k : Int))) rfl) <| dw_q rfl rfl (fun _ _hx => ev_indexAddr_rdv (Rd.ofRest hrb (hm3.ext _hx)) uT26 ti5 rfl rfl oM sD) <| dw_q (v := (u8 (lb.getD k 0))) rfl rfl (fun _ _hx => ev_load_rdD (l := lb) (i := (k : Int)) (dflt := 0) (Rd.ofRest hrb (hm3.ext _hx)) uT5 rfl oM sD rfl) <| dw_q rfl rfl (fun _ _hx => ev_u8_xor rfl rfl) ?_
       refine dw_nil (fun w5 _ew5 => ?_)
       have hm5 := hm3.ext _ew5
       refine rw_q rfl (ev_u8_or rfl rfl) <| rw_q rfl (ev_assign (v := (u8 ((unlikeP la lb k) ||| ((la.getD k 0) ^^^ (lb.getD k 0))))) rfl) ?_
       refine rw_nil (kBlk_normal ?_)
       refine CW.abs (fun g => g 0 = va ∧ g 1 = vb ∧ g 4 = (bl false) ∧ g 5 = (u8 ((unlikeP la lb k) ||| ((la.getD k 0) ^^^ (lb.getD k 0)))) ∧ g 6 = (i64 (k : Int)) ∧ g 11 = (bl ((la.length : Int) != (lb.length : Int))) ∧ g 13 = (i64 (la.length : Int)) ∧ g 14 = (i64 (k : Int)) ∧ g 15 = (bl (decide ((k : Int) < (la.length : Int)))) ∧ True) ⟨s0, s1, s4, rfl, rfl, s11, s13, s14, rfl, trivial⟩ ?_
       rintro fr6 ⟨s0, s1, s4, s5, s6, s11, s13, s14, s15, _⟩
       refine cw_region <| rw_q rfl (ev_i64_add (b := 1) s14 rfl oM oM) <| rw_q rfl (ev_move (v := (i64 ((k : Int) + 1))) rfl) ?_
       refine rw_nil (kThen_normal ?_)
       exact ⟨⟨k + 1, oM, s0, s1, s4, s5, s11, s13, rfl, hm5⟩, meas rfl z14 oM oM⟩
     · -- false
       have hc4p := of_decide_eq_false hc4
       obtain rfl : k = la.length := by omega
       refine cw_exit ?_
       refine kThen_exit (kThen_exit (kBlk_hit ?_))
       refine cw_seq (cw_region ?_)
       refine rM rfl s5 <| rw_q rfl (ev_u8_eql (b := 0#8) rfl rfl) <| rw_q rfl (ev_assign (v := (bl ((unlikeP la lb la.length) == 0#8))) rfl) ?_
       refine rw_nil (kThen_normal (cw_ret ?_))
       refine fnPost_ret [(bl ((unlikeP la lb la.length) == 0#8))] ⟨rfl, trivial⟩ ?_
       exact ⟨congrArg bl (unlike_told hc1p), hm3.toExt⟩

set_option maxHeartbeats 1000000 in
theorem c_open (key : List (BitVec 8)) (nonce : List (BitVec 8)) (va : Value) (la : List (BitVec 8)) (vc : Value) (lc : List (BitVec 8)) (w0 : World)  (hT : Tabs (blks w0)) (hk : key.length = 32) (hn : nonce.length = 12) (hra : Rd (blks w0) u8 va la) (hla : la.length ≤ 100000) (hrc : Rd (blks w0) u8 vc lc) (hlc : lc.length ≤ 100000) : CallsR Tryd.prog 12 #[(agg u8 key), (agg u8 nonce), va, vc] w0 (fun r w1 => ∃ v Hs, r = Value.tuple #[v, i64 (errO key nonce la lc)] ∧ Grow u8 5 v (openQ key nonce la lc) Hs ∧ Mem w1 (restOf w0) Hs) := by
 refine callsR_of_cw (args := [(agg u8 key), (agg u8 nonce), va, vc]) Tryd.func12 rfl Tryd.ntmps12 Tryd.results12 rfl ?_
 have hm0 : Mem w0 (restOf w0) [] := Mem.of_world w0
 have hkt := keyT_len key
 have hkm := keyM_len key
 have hcl := cipherP_length key nonce lc
 refine cw_seq (cw_region ?_)
 refine rw_c rfl (or_box_agg (f := u8) (l := key) hm0 rfl) ?_
 rintro _ w1 ⟨b4, rfl, _ew1, hm1⟩
 refine rw_c rfl (or_box_agg (f := u8) (l := nonce) hm1 rfl) ?_
 rintro _ w2 ⟨b5, rfl, _ew2, hm2⟩
 refine rw_q rfl (ev_assign (v := (Value.slice none 0 0)) rfl) <| rw_q rfl (ev_assign (v := (i64 0)) rfl) ?_
 refine rw_nil (kThen_normal (cw_seq (cw_region ?_)))
 refine rM rfl (v := vc) rfl <| rw_q (v := (i64 (lc.length : Int))) rfl (ev_len_rd (Rd.ofRest hrc hm2) uT26 rfl) <| rw_q rfl (ev_i64_sub (b := 32) rfl rfl oM oM) <| rw_q rfl (ev_assign (v := (i64 ((lc.length : Int) - 32))) rfl) ?_
 refine rw_nil (kThen_normal (cw_seq (cw_seq (cw_region ?_))))
 refine rw_q rfl (ev_move (v := (i64 ((lc.length : Int) - 32))) rfl) <| rw_q rfl (ev_i64_lss (b := 0) rfl rfl) ?_
 refine rw_nil (kThen_normal ?_)
 refine cw_cond rfl (fun hc3 => ?_) (fun hc3 => ?_)
 · -- true
   have hc3p := of_decide_eq_true hc3
   refine cw_seq (cw_region ?_)
   refine rw_q rfl (ev_assign (v := (Value.slice none 0 0)) rfl) <| rw_q rfl (ev_assign (v := (i64 3)) rfl) ?_
   refine rw_nil (kThen_normal ?_)
   refine CW.abs (fun g => g 0 = (agg u8 key) ∧ g 1 = (agg u8 nonce) ∧ g 2 = va ∧ g 3 = vc ∧ g 4 = (ptr b4 0) ∧ g 5 = (ptr b5 0) ∧ g 8 = (Value.slice none 0 0) ∧ g 9 = (i64 3) ∧ g 10 = (i64 ((lc.length : Int) - 32)) ∧ g 18 = (bl (decide (((lc.length : Int) - 32) < 0))) ∧ True) ⟨rfl, rfl, rfl, rfl, rfl, rfl, rfl, rfl, rfl, rfl, trivial⟩ ?_
   rintro fr4 ⟨s0, s1, s2, s3, s4, s5, s8, s9, s10, s18, _⟩
   refine cw_ret (kThen_ret ?_)
   refine fnPost_ret [(Value.slice none 0 0), (i64 3)] ⟨s8, s9, trivial⟩ ?_
   have hm5 := Mem.drop ([(b5, .cells (cl u8 nonce) 25 (0, 0))]) _ hm2
   have hm6 := Mem.drop ([(b4, .cells (cl u8 key) 23 (0, 0))]) _ hm5
   exact ⟨(Value.slice none 0 0), [], by rw [errO_short oM]; rfl, by rw [openQ_short oM]; exact (Grow.none _ _), by simpa using hm6⟩
 · -- false
   have hc3p := of_decide_eq_false hc3
   refine cw_skip (kThen_normal (cw_seq (cw_region ?_)))
   refine rw_q (v := (agg u8 key)) rfl (ev_loadA uT23 rfl ti23 rfl hm2.h1 sZ) <| rw_c rfl (opR_call Tryd.func26 bd26 nm26 (args1 rfl) (c_skeys key _ (hT.mono fun b o e => (hm2).rest b o e) sD)) ?_
   rintro _ w7 ⟨rfl, _ew7⟩
   have hm7 := hm2.ext _ew7
   refine rw_q rfl (ev_move (v := (Value.tuple #[(agg u8 (keyT key)), (agg u8 (keyM key))])) rfl) <| rw_q (v := (agg u8 (keyT key))) rfl (ev_extract rfl rfl) <| rw_q (v := (agg u8 (keyM key))) rfl (ev_extract rfl rfl) <| rw_c rfl (or_alloc_agg hm7 ti23) ?_
   rintro _ w9 ⟨b11, rfl, _ew9, hm9⟩
   refine rw_c rfl (or_alloc_agg hm9 ti23) ?_
   rintro _ w10 ⟨b12, rfl, _ew10, hm10⟩
   refine rw_n (or_store_agg (f := u8) (l := keyT key) u8_one ti23 rfl rfl sD hm10.h1 sZ rfl) ?_
   rintro _ w11 uq11
   have hm11 := hm10.upd1 uq11
   refine rw_n (or_store_agg (f := u8) (l := keyM key) u8_one ti23 rfl rfl sD hm11.h0 sZ rfl) ?_
   rintro _ w12 uq12
   have hm12 := hm11.upd0 uq12
   refine rw_nil (kThen_normal ?_)
   refine CW.abs (fun g => g 0 = (agg u8 key) ∧ g 1 = (agg u8 nonce) ∧ g 2 = va ∧ g 3 = vc ∧ g 4 = (ptr b4 0) ∧ g 5 = (ptr b5 0) ∧ g 8 = (Value.slice none 0 0) ∧ g 9 = (i64 0) ∧ g 10 = (i64 ((lc.length : Int) - 32)) ∧ g 11 = (ptr b11 0) ∧ g 12 = (ptr b12 0) ∧ g 18 = (bl (decide (((lc.length : Int) - 32) < 0))) ∧ True) ⟨rfl, rfl, rfl, rfl, rfl, rfl, rfl, rfl, rfl, rfl, rfl, rfl, trivial⟩ ?_
   rintro fr13 ⟨s0, s1, s2, s3, s4, s5, s8, s9, s10, s11, s12, s18, _⟩
   refine cw_seq <| cw_drawE (by kernel_rfl) ?_
   refine re_or 6 9 rfl rfl ?_ ?_
   · -- 6 ahead of 9
     refine re_or 7 9 rfl rfl ?_ ?_
     · -- 7 ahead of 9
       refine re_plan [(0, false), (1, false), (2, false), (3, false), (4, false), (5, false), (6, true), (7, true), (8, false), (9, true)] 10 rfl (by kernel_rfl) <| dw_q rfl rfl (fun _ _hx => ev_slice_sla (i := 0) (j := 32) uT23 ti5 s12 (optI_none _ _) (optI_none _ _) oM sD sD) <| dw_q (v := (agg u8 nonce)) rfl rfl (fun _ _hx => ev_loadA uT25 rfl ti25 s5 (hm12.ext _hx).h2 sZ) <| dM rfl rfl s2 <| dM rfl rfl s3 <| dM rfl rfl s10 ?_
       refine dw_q rfl rfl (fun _ _hx => ev_slice_rd (i := 0) (j := (lc.length : Int) - 32) (Rd.ofRest hrc (hm12.ext _hx)) uT26 ti5 rfl (optI_none _ _) (optI_some (k := .i64) (i := (lc.length : Int) - 32) rfl) oM sD sD) ?_
       refine dw_c rfl rfl (fun w14 _ew14 => ?_)
       have hm14 := hm12.ext _ew14
       refine OpR.mono (opR_call Tryd.func16 bd16 nm16 (args3 rfl rfl rfl) (c_message nonce va la (subv vc 0 ((lc.length : Int) - 32)) ((lc.drop (0 : Int).toNat).take (((lc.length : Int) - 32 : Int).toNat - (0 : Int).toNat)) _ sD (Rd.ofRest hra hm14) sD (Rd.cast (l' := (lc.drop (0 : Int).toNat).take (((lc.length : Int) - 32 : Int).toNat - (0 : Int).toNat)) (Rd.sub (Rd.ofRest hrc hm14) oM sD sD) rfl) sD)) ?_
       rintro rxq16 w15 ⟨Hsq16, grxq16, k_w15⟩
       refine ⟨k_w15.toExt, ?_⟩
       have hm15 : Mem w15 (restOf w0) (Hsq16 ++ ([(b12, .cells (cl u8 (keyM key)) 23 (0, 0)), (b11, .cells (cl u8 (keyT key)) 23 (0, 0)), (b5, .cells (cl u8 nonce) 25 (0, 0)), (b4, .cells (cl u8 key) 23 (0, 0))])) := Mem.new (H := [(b12, .cells (cl u8 (keyM key)) 23 (0, 0)), (b11, .cells (cl u8 (keyT key)) 23 (0, 0)), (b5, .cells (cl u8 nonce) 25 (0, 0)), (b4, .cells (cl u8 key) 23 (0, 0))]) (H' := Hsq16) hm14 k_w15
       refine dw_c rfl rfl (fun w17 _ew17 => ?_)
       have hm17 := hm15.ext _ew17
       refine OpR.mono (or_buildSlice_ones [rxq16] (List.all_eq_true.1 (one_cons grxq16.one one_nil)) hm17 uT71 ti26 rfl rfl rfl) ?_
       rintro _ w18 ⟨b31, rfl, _ew18, hm18⟩
       refine ⟨_ew18, ?_⟩
       have hm18 : Mem w18 (restOf w0) ([(b31, .cells #[rxq16] 26 (0, 0))] ++ (Hsq16 ++ ([(b12, .cells (cl u8 (keyM key)) 23 (0, 0)), (b11, .cells (cl u8 (keyT key)) 23 (0, 0)), (b5, .cells (cl u8 nonce) 25 (0, 0)), (b4, .cells (cl u8 key) 23 (0, 0))]))) := hm18
       refine dw_x (v := (agg u8 (hmacP (keyM key) (joinL ([(rxq16, msgP nonce la ((lc.drop (0 : Int).toNat).take (((lc.length : Int) - 32 : Int).toNat - (0 : Int).toNat)))]))))) rfl rfl (fun w19 _ew19 => OpR.mono (opR_call Tryd.func28 bd28 nm28 (args2 rfl rfl) (c_hmac (sla b12 0 1 0 32 32) (keyM key) (slc b31 0 1 1) ([(rxq16, msgP nonce la ((lc.drop (0 : Int).toNat).take (((lc.length : Int) - 32 : Int).toNat - (0 : Int).toNat)))]) _ (hT.mono fun b o e => ((hm18.ext _ew19)).rest b o e) (Rd.slaAll ((Mem.pick2 [_] Hsq16 [_] _ (hm18.ext _ew19))).h0 sD) sD (Rd.mkA (f := Prod.fst) (l := [(rxq16, msgP nonce la ((lc.drop (0 : Int).toNat).take (((lc.length : Int) - 32 : Int).toNat - (0 : Int).toNat)))]) (hm18.ext _ew19).h0) (allp_cons (grxq16.rd (Mem.pick [_] Hsq16 _ (hm18.ext _ew19))) allp_nil) (by rw [joinL_one1]; simp only [msgP_length]; simp; omega) sD)) (by rintro _ w20 ⟨rfl, _ew20⟩; exact ⟨rfl, _ew20⟩)) ?_
       refine dw_c rfl rfl (fun w22 _ew22 => ?_)
       have hm22 := hm18.ext _ew22
       refine OpR.mono (or_alloc_agg hm22 ti23) ?_
       rintro _ w23 ⟨b13, rfl, _ew23, hm23⟩
       refine ⟨_ew23, ?_⟩
       refine dw_nil (fun w24 _ew24 => ?_)
       have hm24 := hm23.ext _ew24
       refine rw_n (or_store_agg (f := u8) (l := hmacP (keyM key) (joinL ([(rxq16, msgP nonce la ((lc.drop (0 : Int).toNat).take (((lc.length : Int) - 32 : Int).toNat - (0 : Int).toNat)))]))) u8_one ti23 rfl rfl sD hm24.h0 sZ rfl) ?_
       rintro _ w25 uq25
       have hm25 := hm24.upd0 uq25
       refine rw_nil (kThen_normal (cw_seq (cw_seq ?_)))
       refine cw_draw [(0, false), (1, false), (2, false), (3, false)] 4 (by kernel_rfl) <| dw_q rfl rfl (fun _ _hx => ev_slice_sla (i := 0) (j := 32) uT23 ti5 rfl (optI_none _ _) (optI_none _ _) oM sD sD) <| dM rfl rfl s3 <| dM rfl rfl s10 <| dw_q rfl rfl (fun _ _hx => ev_slice_rd (i := (lc.length : Int) - 32) (j := (lc.length : Int)) (Rd.ofRest hrc (hm25.ext _hx)) uT26 ti5 rfl (optI_some (k := .i64) (i := (lc.length : Int) - 32) rfl) (optI_none _ _) oM sD sD) ?_
       refine dw_nil (fun w26 _ew26 => ?_)
       have hm26 := hm25.ext _ew26
       refine rw_c rfl (opR_call Tryd.func18 bd18 nm18 (args2 rfl rfl) (c_ssame (sla b13 0 1 0 32 32) (subv vc ((lc.length : Int) - 32) (lc.length : Int)) (hmacP (keyM key) (joinL ([(rxq16, msgP nonce la ((lc.drop (0 : Int).toNat).take (((lc.length : Int) - 32 : Int).toNat - (0 : Int).toNat)))]))) ((lc.drop ((lc.length : Int) - 32 : Int).toNat).take (((lc.length : Int) : Int).toNat - ((lc.length : Int) - 32 : Int).toNat)) _ (Rd.slaAll hm26.h0 sD) (Rd.cast (l' := (lc.drop ((lc.length : Int) - 32 : Int).toNat).take (((lc.length : Int) : Int).toNat - ((lc.length : Int) - 32 : Int).toNat)) (Rd.sub (Rd.ofRest hrc hm26) oM sD sD) rfl) sD)) ?_
       rintro _ w27 ⟨rfl, _ew27⟩
       have hm27 := hm26.ext _ew27
       refine rw_q rfl (ev_not rfl) ?_
       refine rw_nil (kThen_normal ?_)
       have hm29 := Mem.drop ([(b31, .cells #[rxq16] 26 (0, 0))]) _ (Mem.pick [_] [_] _ hm27)
       have hm30 := Mem.drop Hsq16 _ (Mem.pick [_] Hsq16 _ hm29)
       refine CW.abs (fun g => g 0 = (agg u8 key) ∧ g 1 = (agg u8 nonce) ∧ g 2 = va ∧ g 3 = vc ∧ g 4 = (ptr b4 0) ∧ g 5 = (ptr b5 0) ∧ g 8 = (Value.slice none 0 0) ∧ g 9 = (i64 0) ∧ g 10 = (i64 ((lc.length : Int) - 32)) ∧ g 11 = (ptr b11 0) ∧ g 12 = (ptr b12 0) ∧ g 13 = (ptr b13 0) ∧ g 18 = (bl (decide (((lc.length : Int) - 32) < 0))) ∧ g 38 = (bl (!((hmacP (keyM key) (joinL ([(rxq16, msgP nonce la ((lc.drop (0 : Int).toNat).take (((lc.length : Int) - 32 : Int).toNat - (0 : Int).toNat)))]))) == ((lc.drop ((lc.length : Int) - 32 : Int).toNat).take (((lc.length : Int) : Int).toNat - ((lc.length : Int) - 32 : Int).toNat))))) ∧ True) ⟨s0, s1, s2, s3, s4, s5, s8, s9, s10, s11, s12, rfl, s18, rfl, trivial⟩ ?_
       rintro fr31 ⟨s0, s1, s2, s3, s4, s5, s8, s9, s10, s11, s12, s13, s18, s38, _⟩
       refine cw_cond s38 (fun hc32 => ?_) (fun hc32 => ?_)
       · -- true
         have hc32n : ((hmacP (keyM key) (joinL ([(rxq16, msgP nonce la ((lc.drop (0 : Int).toNat).take (((lc.length : Int) - 32 : Int).toNat - (0 : Int).toNat)))]))) == ((lc.drop ((lc.length : Int) - 32 : Int).toNat).take (((lc.length : Int) : Int).toNat - ((lc.length : Int) - 32 : Int).toNat))) = false := by simpa using hc32
         have hc32p := ne_of_beq_false hc32n
         refine cw_seq (cw_region ?_)
         refine rw_q rfl (ev_assign (v := (Value.slice none 0 0)) rfl) <| rw_q rfl (ev_assign (v := (i64 10)) rfl) ?_
         refine rw_nil (kThen_normal (cw_ret (kThen_ret ?_)))
         refine fnPost_ret [(Value.slice none 0 0), (i64 10)] ⟨rfl, rfl, trivial⟩ ?_
         have hm33 := Mem.drop ([(b13, .cells (cl u8 (hmacP (keyM key) (joinL ([(rxq16, msgP nonce la ((lc.drop (0 : Int).toNat).take (((lc.length : Int) - 32 : Int).toNat - (0 : Int).toNat)))])))) 23 (0, 0))]) _ hm30
         have hm34 := Mem.drop ([(b12, .cells (cl u8 (keyM key)) 23 (0, 0))]) _ hm33
         have hm35 := Mem.drop ([(b11, .cells (cl u8 (keyT key)) 23 (0, 0))]) _ hm34
         have hm36 := Mem.drop ([(b5, .cells (cl u8 nonce) 25 (0, 0))]) _ hm35
         have hm37 := Mem.drop ([(b4, .cells (cl u8 key) 23 (0, 0))]) _ hm36
         have hrt : rightP key nonce la lc = false := by
           unfold rightP tagP; rw [← front_sub oM, ← back_sub oM]
           first | simpa [joinL_one1] using hc32 | (simp only [keyM]; simpa [joinL_one1] using hc32)
         exact ⟨(Value.slice none 0 0), [], by rw [errO_told oM hrt]; rfl, by rw [openQ_told oM hrt]; exact (Grow.none _ _), by simpa using hm37⟩
       · -- false
         have hc32n : ((hmacP (keyM key) (joinL ([(rxq16, msgP nonce la ((lc.drop (0 : Int).toNat).take (((lc.length : Int) - 32 : Int).toNat - (0 : Int).toNat)))]))) == ((lc.drop ((lc.length : Int) - 32 : Int).toNat).take (((lc.length : Int) : Int).toNat - ((lc.length : Int) - 32 : Int).toNat))) = true := by simpa using hc32
         have hc32p := eq_of_beq hc32n
         refine cw_skip (kThen_normal (cw_seq ?_))
         refine cw_draw [(0, false), (1, false), (2, false), (3, false), (4, false)] 5 (by kernel_rfl) <| dw_q (v := (agg u8 (keyT key))) rfl rfl (fun _ _hx => ev_loadA uT23 rfl ti23 s11 (hm30.ext _hx).h2 sZ) <| dw_q (v := (agg u8 nonce)) rfl rfl (fun _ _hx => ev_loadA uT25 rfl ti25 s5 (hm30.ext _hx).h3 sZ) <| dM rfl rfl s3 <| dM rfl rfl s10 <| dw_q rfl rfl (fun _ _hx => ev_slice_rd (i := 0) (j := (lc.length : Int) - 32) (Rd.ofRest hrc (hm30.ext _hx)) uT26 ti5 rfl (optI_none _ _) (optI_some (k := .i64) (i := (lc.length : Int) - 32) rfl) oM sD sD) ?_
         refine dw_nil (fun w38 _ew38 => ?_)
         have hm38 := hm30.ext _ew38
         refine rw_c rfl (opR_call Tryd.func27 bd27 nm27 (args4 rfl rfl rfl rfl) (c_turn (keyT key) 1#32 nonce (subv vc 0 ((lc.length : Int) - 32)) ((lc.drop (0 : Int).toNat).take (((lc.length : Int) - 32 : Int).toNat - (0 : Int).toNat)) _ sD sD (Rd.cast (l' := (lc.drop (0 : Int).toNat).take (((lc.length : Int) - 32 : Int).toNat - (0 : Int).toNat)) (Rd.sub (Rd.ofRest hrc hm38) oM sD sD) rfl) sD)) ?_
         rintro _ w39 ⟨bq40, rfl, k_w39⟩
         have hm39 : Mem w39 (restOf w0) [(bq40, .cells (cl u8 (turnP blockP (keyT key) 1#32 nonce ((lc.drop (0 : Int).toNat).take (((lc.length : Int) - 32 : Int).toNat - (0 : Int).toNat)))) 5 (0, 0)), (b13, .cells (cl u8 (hmacP (keyM key) (joinL ([(rxq16, msgP nonce la ((lc.drop (0 : Int).toNat).take (((lc.length : Int) - 32 : Int).toNat - (0 : Int).toNat)))])))) 23 (0, 0)), (b12, .cells (cl u8 (keyM key)) 23 (0, 0)), (b11, .cells (cl u8 (keyT key)) 23 (0, 0)), (b5, .cells (cl u8 nonce) 25 (0, 0)), (b4, .cells (cl u8 key) 23 (0, 0))] := Mem.new (H := [(b13, .cells (cl u8 (hmacP (keyM key) (joinL ([(rxq16, msgP nonce la ((lc.drop (0 : Int).toNat).take (((lc.length : Int) - 32 : Int).toNat - (0 : Int).toNat)))])))) 23 (0, 0)), (b12, .cells (cl u8 (keyM key)) 23 (0, 0)), (b11, .cells (cl u8 (keyT key)) 23 (0, 0)), (b5, .cells (cl u8 nonce) 25 (0, 0)), (b4, .cells (cl u8 key) 23 (0, 0))]) (H' := [(bq40, .cells (cl u8 (turnP blockP (keyT key) 1#32 nonce ((lc.drop (0 : Int).toNat).take (((lc.length : Int) - 32 : Int).toNat - (0 : Int).toNat)))) 5 (0, 0))]) hm38 k_w39
         refine rA rfl rfl <| rw_q rfl (ev_assign (v := (i64 0)) rfl) ?_
         refine rw_nil (kThen_normal (cw_ret ?_))
         refine fnPost_ret [(slc bq40 0 ((turnP blockP (keyT key) 1#32 nonce ((lc.drop (0 : Int).toNat).take (((lc.length : Int) - 32 : Int).toNat - (0 : Int).toNat))).length) ((turnP blockP (keyT key) 1#32 nonce ((lc.drop (0 : Int).toNat).take (((lc.length : Int) - 32 : Int).toNat - (0 : Int).toNat))).length)), (i64 0)] ⟨rfl, rfl, trivial⟩ ?_
         have hm41 := Mem.drop ([(b13, .cells (cl u8 (hmacP (keyM key) (joinL ([(rxq16, msgP nonce la ((lc.drop (0 : Int).toNat).take (((lc.length : Int) - 32 : Int).toNat - (0 : Int).toNat)))])))) 23 (0, 0))]) _ (Mem.pick [_] [_] _ hm39)
         have hm42 := Mem.drop ([(b12, .cells (cl u8 (keyM key)) 23 (0, 0))]) _ (Mem.pick [_] [_] _ hm41)
         have hm43 := Mem.drop ([(b11, .cells (cl u8 (keyT key)) 23 (0, 0))]) _ (Mem.pick [_] [_] _ hm42)
         have hm44 := Mem.drop ([(b5, .cells (cl u8 nonce) 25 (0, 0))]) _ (Mem.pick [_] [_] _ hm43)
         have hm45 := Mem.drop ([(b4, .cells (cl u8 key) 23 (0, 0))]) _ (Mem.pick [_] [_] _ hm44)
         have hrt : rightP key nonce la lc = true := by
           unfold rightP tagP; rw [← front_sub oM, ← back_sub oM]
           first | simpa [joinL_one1] using hc32 | (simp only [keyM]; simpa [joinL_one1] using hc32)
         have hfin : turnP blockP (keyT key) 1#32 nonce ((lc.drop (0 : Int).toNat).take (((lc.length : Int) - 32 : Int).toNat - (0 : Int).toNat)) = cipherP key nonce (frontP lc) := by rw [← front_sub oM]; first | rfl | (rw [← cipherR]; simp only [chunks_keys, keyT])
         exact ⟨(slc bq40 0 ((turnP blockP (keyT key) 1#32 nonce ((lc.drop (0 : Int).toNat).take (((lc.length : Int) - 32 : Int).toNat - (0 : Int).toNat))).length) ((turnP blockP (keyT key) 1#32 nonce ((lc.drop (0 : Int).toNat).take (((lc.length : Int) - 32 : Int).toNat - (0 : Int).toNat))).length)), [(bq40, .cells (cl u8 (turnP blockP (keyT key) 1#32 nonce ((lc.drop (0 : Int).toNat).take (((lc.length : Int) - 32 : Int).toNat - (0 : Int).toNat)))) 5 (0, 0))], by rw [errO_told oM hrt]; rfl, by rw [openQ_told oM hrt]; show Grow _ _ _ (cipherP key nonce (frontP lc)) _; exact hfin ▸ (Grow.of u8 5 bq40 (turnP blockP (keyT key) 1#32 nonce ((lc.drop (0 : Int).toNat).take (((lc.length : Int) - 32 : Int).toNat - (0 : Int).toNat)))), by simpa using hm45⟩
     · -- 9 ahead of 7
       refine re_plan [(0, false), (1, false), (2, false), (3, false), (4, false), (5, false), (6, true), (9, true), (7, true), (8, false)] 10 rfl (by kernel_rfl) <| dw_q rfl rfl (fun _ _hx => ev_slice_sla (i := 0) (j := 32) uT23 ti5 s12 (optI_none _ _) (optI_none _ _) oM sD sD) <| dw_q (v := (agg u8 nonce)) rfl rfl (fun _ _hx => ev_loadA uT25 rfl ti25 s5 (hm12.ext _hx).h2 sZ) <| dM rfl rfl s2 <| dM rfl rfl s3 <| dM rfl rfl s10 ?_
       refine dw_q rfl rfl (fun _ _hx => ev_slice_rd (i := 0) (j := (lc.length : Int) - 32) (Rd.ofRest hrc (hm12.ext _hx)) uT26 ti5 rfl (optI_none _ _) (optI_some (k := .i64) (i := (lc.length : Int) - 32) rfl) oM sD sD) ?_
       refine dw_c rfl rfl (fun w46 _ew46 => ?_)
       have hm46 := hm12.ext _ew46
       refine OpR.mono (opR_call Tryd.func16 bd16 nm16 (args3 rfl rfl rfl) (c_message nonce va la (subv vc 0 ((lc.length : Int) - 32)) ((lc.drop (0 : Int).toNat).take (((lc.length : Int) - 32 : Int).toNat - (0 : Int).toNat)) _ sD (Rd.ofRest hra hm46) sD (Rd.cast (l' := (lc.drop (0 : Int).toNat).take (((lc.length : Int) - 32 : Int).toNat - (0 : Int).toNat)) (Rd.sub (Rd.ofRest hrc hm46) oM sD sD) rfl) sD)) ?_
       rintro rxq48 w47 ⟨Hsq48, grxq48, k_w47⟩
       refine ⟨k_w47.toExt, ?_⟩
       have hm47 : Mem w47 (restOf w0) (Hsq48 ++ ([(b12, .cells (cl u8 (keyM key)) 23 (0, 0)), (b11, .cells (cl u8 (keyT key)) 23 (0, 0)), (b5, .cells (cl u8 nonce) 25 (0, 0)), (b4, .cells (cl u8 key) 23 (0, 0))])) := Mem.new (H := [(b12, .cells (cl u8 (keyM key)) 23 (0, 0)), (b11, .cells (cl u8 (keyT key)) 23 (0, 0)), (b5, .cells (cl u8 nonce) 25 (0, 0)), (b4, .cells (cl u8 key) 23 (0, 0))]) (H' := Hsq48) hm46 k_w47
       refine dw_c rfl rfl (fun w49 _ew49 => ?_)
       have hm49 := hm47.ext _ew49
       refine OpR.mono (or_alloc_agg hm49 ti23) ?_
       rintro _ w50 ⟨b13_1, rfl, _ew50, hm50⟩
       refine ⟨_ew50, ?_⟩
       refine dw_c rfl rfl (fun w51 _ew51 => ?_)
       have hm51 := hm50.ext _ew51
       refine OpR.mono (or_buildSlice_ones [rxq48] (List.all_eq_true.1 (one_cons grxq48.one one_nil)) hm51 uT71 ti26 rfl rfl rfl) ?_
       rintro _ w52 ⟨b31_1, rfl, _ew52, hm52⟩
       refine ⟨_ew52, ?_⟩
       have hm52 : Mem w52 (restOf w0) ([(b31_1, .cells #[rxq48] 26 (0, 0)), (b13_1, .cells (cl u8 (List.replicate 32 0)) 23 (0, 0))] ++ (Hsq48 ++ ([(b12, .cells (cl u8 (keyM key)) 23 (0, 0)), (b11, .cells (cl u8 (keyT key)) 23 (0, 0)), (b5, .cells (cl u8 nonce) 25 (0, 0)), (b4, .cells (cl u8 key) 23 (0, 0))]))) := hm52
       refine dw_x (v := (agg u8 (hmacP (keyM key) (joinL ([(rxq48, msgP nonce la ((lc.drop (0 : Int).toNat).take (((lc.length : Int) - 32 : Int).toNat - (0 : Int).toNat)))]))))) rfl rfl (fun w53 _ew53 => OpR.mono (opR_call Tryd.func28 bd28 nm28 (args2 rfl rfl) (c_hmac (sla b12 0 1 0 32 32) (keyM key) (slc b31_1 0 1 1) ([(rxq48, msgP nonce la ((lc.drop (0 : Int).toNat).take (((lc.length : Int) - 32 : Int).toNat - (0 : Int).toNat)))]) _ (hT.mono fun b o e => ((hm52.ext _ew53)).rest b o e) (Rd.slaAll ((Mem.pick2 [_, _] Hsq48 [_] _ (hm52.ext _ew53))).h0 sD) sD (Rd.mkA (f := Prod.fst) (l := [(rxq48, msgP nonce la ((lc.drop (0 : Int).toNat).take (((lc.length : Int) - 32 : Int).toNat - (0 : Int).toNat)))]) (hm52.ext _ew53).h0) (allp_cons (grxq48.rd (Mem.pick [_, _] Hsq48 _ (hm52.ext _ew53))) allp_nil) (by rw [joinL_one1]; simp only [msgP_length]; simp; omega) sD)) (by rintro _ w54 ⟨rfl, _ew54⟩; exact ⟨rfl, _ew54⟩)) ?_
       refine dw_nil (fun w56 _ew56 => ?_)
       have hm56 := hm52.ext _ew56
       refine rw_n (or_store_agg (f := u8) (l := hmacP (keyM key) (joinL ([(rxq48, msgP nonce la ((lc.drop (0 : Int).toNat).take (((lc.length : Int) - 32 : Int).toNat - (0 : Int).toNat)))]))) u8_one ti23 rfl rfl sD hm56.h1 sZ rfl) ?_
       rintro _ w57 uq57
       have hm57 := hm56.upd1 uq57
       refine rw_nil (kThen_normal (cw_seq (cw_seq ?_)))
       refine cw_draw [(0, false), (1, false), (2, false), (3, false)] 4 (by kernel_rfl) <| dw_q rfl rfl (fun _ _hx => ev_slice_sla (i := 0) (j := 32) uT23 ti5 rfl (optI_none _ _) (optI_none _ _) oM sD sD) <| dM rfl rfl s3 <| dM rfl rfl s10 <| dw_q rfl rfl (fun _ _hx => ev_slice_rd (i := (lc.length : Int) - 32) (j := (lc.length : Int)) (Rd.ofRest hrc (hm57.ext _hx)) uT26 ti5 rfl (optI_some (k := .i64) (i := (lc.length : Int) - 32) rfl) (optI_none _ _) oM sD sD) ?_
       refine dw_nil (fun w58 _ew58 => ?_)
       have hm58 := hm57.ext _ew58
       refine rw_c rfl (opR_call Tryd.func18 bd18 nm18 (args2 rfl rfl) (c_ssame (sla b13_1 0 1 0 32 32) (subv vc ((lc.length : Int) - 32) (lc.length : Int)) (hmacP (keyM key) (joinL ([(rxq48, msgP nonce la ((lc.drop (0 : Int).toNat).take (((lc.length : Int) - 32 : Int).toNat - (0 : Int).toNat)))]))) ((lc.drop ((lc.length : Int) - 32 : Int).toNat).take (((lc.length : Int) : Int).toNat - ((lc.length : Int) - 32 : Int).toNat)) _ (Rd.slaAll hm58.h1 sD) (Rd.cast (l' := (lc.drop ((lc.length : Int) - 32 : Int).toNat).take (((lc.length : Int) : Int).toNat - ((lc.length : Int) - 32 : Int).toNat)) (Rd.sub (Rd.ofRest hrc hm58) oM sD sD) rfl) sD)) ?_
       rintro _ w59 ⟨rfl, _ew59⟩
       have hm59 := hm58.ext _ew59
       refine rw_q rfl (ev_not rfl) ?_
       refine rw_nil (kThen_normal ?_)
       have hm61 := Mem.drop ([(b31_1, .cells #[rxq48] 26 (0, 0))]) _ hm59
       have hm62 := Mem.drop Hsq48 _ (Mem.pick [_] Hsq48 _ hm61)
       refine CW.abs (fun g => g 0 = (agg u8 key) ∧ g 1 = (agg u8 nonce) ∧ g 2 = va ∧ g 3 = vc ∧ g 4 = (ptr b4 0) ∧ g 5 = (ptr b5 0) ∧ g 8 = (Value.slice none 0 0) ∧ g 9 = (i64 0) ∧ g 10 = (i64 ((lc.length : Int) - 32)) ∧ g 11 = (ptr b11 0) ∧ g 12 = (ptr b12 0) ∧ g 13 = (ptr b13_1 0) ∧ g 18 = (bl (decide (((lc.length : Int) - 32) < 0))) ∧ g 38 = (bl (!((hmacP (keyM key) (joinL ([(rxq48, msgP nonce la ((lc.drop (0 : Int).toNat).take (((lc.length : Int) - 32 : Int).toNat - (0 : Int).toNat)))]))) == ((lc.drop ((lc.length : Int) - 32 : Int).toNat).take (((lc.length : Int) : Int).toNat - ((lc.length : Int) - 32 : Int).toNat))))) ∧ True) ⟨s0, s1, s2, s3, s4, s5, s8, s9, s10, s11, s12, rfl, s18, rfl, trivial⟩ ?_
       rintro fr63 ⟨s0, s1, s2, s3, s4, s5, s8, s9, s10, s11, s12, s13, s18, s38, _⟩
       refine cw_cond s38 (fun hc64 => ?_) (fun hc64 => ?_)
       · -- true
         have hc64n : ((hmacP (keyM key) (joinL ([(rxq48, msgP nonce la ((lc.drop (0 : Int).toNat).take (((lc.length : Int) - 32 : Int).toNat - (0 : Int).toNat)))]))) == ((lc.drop ((lc.length : Int) - 32 : Int).toNat).take (((lc.length : Int) : Int).toNat - ((lc.length : Int) - 32 : Int).toNat))) = false := by simpa using hc64
         have hc64p := ne_of_beq_false hc64n
         refine cw_seq (cw_region ?_)
         refine rw_q rfl (ev_assign (v := (Value.slice none 0 0)) rfl) <| rw_q rfl (ev_assign (v := (i64 10)) rfl) ?_
         refine rw_nil (kThen_normal (cw_ret (kThen_ret ?_)))
         refine fnPost_ret [(Value.slice none 0 0), (i64 10)] ⟨rfl, rfl, trivial⟩ ?_
         have hm65 := Mem.drop ([(b13_1, .cells (cl u8 (hmacP (keyM key) (joinL ([(rxq48, msgP nonce la ((lc.drop (0 : Int).toNat).take (((lc.length : Int) - 32 : Int).toNat - (0 : Int).toNat)))])))) 23 (0, 0))]) _ hm62
         have hm66 := Mem.drop ([(b12, .cells (cl u8 (keyM key)) 23 (0, 0))]) _ hm65
         have hm67 := Mem.drop ([(b11, .cells (cl u8 (keyT key)) 23 (0, 0))]) _ hm66
         have hm68 := Mem.drop ([(b5, .cells (cl u8 nonce) 25 (0, 0))]) _ hm67
         have hm69 := Mem.drop ([(b4, .cells (cl u8 key) 23 (0, 0))]) _ hm68
         have hrt : rightP key nonce la lc = false := by
           unfold rightP tagP; rw [← front_sub oM, ← back_sub oM]
           first | simpa [joinL_one1] using hc64 | (simp only [keyM]; simpa [joinL_one1] using hc64)
         exact ⟨(Value.slice none 0 0), [], by rw [errO_told oM hrt]; rfl, by rw [openQ_told oM hrt]; exact (Grow.none _ _), by simpa using hm69⟩
       · -- false
         have hc64n : ((hmacP (keyM key) (joinL ([(rxq48, msgP nonce la ((lc.drop (0 : Int).toNat).take (((lc.length : Int) - 32 : Int).toNat - (0 : Int).toNat)))]))) == ((lc.drop ((lc.length : Int) - 32 : Int).toNat).take (((lc.length : Int) : Int).toNat - ((lc.length : Int) - 32 : Int).toNat))) = true := by simpa using hc64
         have hc64p := eq_of_beq hc64n
         refine cw_skip (kThen_normal (cw_seq ?_))
         refine cw_draw [(0, false), (1, false), (2, false), (3, false), (4, false)] 5 (by kernel_rfl) <| dw_q (v := (agg u8 (keyT key))) rfl rfl (fun _ _hx => ev_loadA uT23 rfl ti23 s11 (hm62.ext _hx).h2 sZ) <| dw_q (v := (agg u8 nonce)) rfl rfl (fun _ _hx => ev_loadA uT25 rfl ti25 s5 (hm62.ext _hx).h3 sZ) <| dM rfl rfl s3 <| dM rfl rfl s10 <| dw_q rfl rfl (fun _ _hx => ev_slice_rd (i := 0) (j := (lc.length : Int) - 32) (Rd.ofRest hrc (hm62.ext _hx)) uT26 ti5 rfl (optI_none _ _) (optI_some (k := .i64) (i := (lc.length : Int) - 32) rfl) oM sD sD) ?_
         refine dw_nil (fun w70 _ew70 => ?_)
         have hm70 := hm62.ext _ew70
         refine rw_c rfl (opR_call Tryd.func27 bd27 nm27 (args4 rfl rfl rfl rfl) (c_turn (keyT key) 1#32 nonce (subv vc 0 ((lc.length : Int) - 32)) ((lc.drop (0 : Int).toNat).take (((lc.length : Int) - 32 : Int).toNat - (0 : Int).toNat)) _ sD sD (Rd.cast (l' := (lc.drop (0 : Int).toNat).take (((lc.length : Int) - 32 : Int).toNat - (0 : Int).toNat)) (Rd.sub (Rd.ofRest hrc hm70) oM sD sD) rfl) sD)) ?_
         rintro _ w71 ⟨bq72, rfl, k_w71⟩
         have hm71 : Mem w71 (restOf w0) [(bq72, .cells (cl u8 (turnP blockP (keyT key) 1#32 nonce ((lc.drop (0 : Int).toNat).take (((lc.length : Int) - 32 : Int).toNat - (0 : Int).toNat)))) 5 (0, 0)), (b13_1, .cells (cl u8 (hmacP (keyM key) (joinL ([(rxq48, msgP nonce la ((lc.drop (0 : Int).toNat).take (((lc.length : Int) - 32 : Int).toNat - (0 : Int).toNat)))])))) 23 (0, 0)), (b12, .cells (cl u8 (keyM key)) 23 (0, 0)), (b11, .cells (cl u8 (keyT key)) 23 (0, 0)), (b5, .cells (cl u8 nonce) 25 (0, 0)), (b4, .cells (cl u8 key) 23 (0, 0))] := Mem.new (H := [(b13_1, .cells (cl u8 (hmacP (keyM key) (joinL ([(rxq48, msgP nonce la ((lc.drop (0 : Int).toNat).take (((lc.length : Int) - 32 : Int).toNat - (0 : Int).toNat)))])))) 23 (0, 0)), (b12, .cells (cl u8 (keyM key)) 23 (0, 0)), (b11, .cells (cl u8 (keyT key)) 23 (0, 0)), (b5, .cells (cl u8 nonce) 25 (0, 0)), (b4, .cells (cl u8 key) 23 (0, 0))]) (H' := [(bq72, .cells (cl u8 (turnP blockP (keyT key) 1#32 nonce ((lc.drop (0 : Int).toNat).take (((lc.length : Int) - 32 : Int).toNat - (0 : Int).toNat)))) 5 (0, 0))]) hm70 k_w71
         refine rA rfl rfl <| rw_q rfl (ev_assign (v := (i64 0)) rfl) ?_
         refine rw_nil (kThen_normal (cw_ret ?_))
         refine fnPost_ret [(slc bq72 0 ((turnP blockP (keyT key) 1#32 nonce ((lc.drop (0 : Int).toNat).take (((lc.length : Int) - 32 : Int).toNat - (0 : Int).toNat))).length) ((turnP blockP (keyT key) 1#32 nonce ((lc.drop (0 : Int).toNat).take (((lc.length : Int) - 32 : Int).toNat - (0 : Int).toNat))).length)), (i64 0)] ⟨rfl, rfl, trivial⟩ ?_
         have hm73 := Mem.drop ([(b13_1, .cells (cl u8 (hmacP (keyM key) (joinL ([(rxq48, msgP nonce la ((lc.drop (0 : Int).toNat).take (((lc.length : Int) - 32 : Int).toNat - (0 : Int).toNat)))])))) 23 (0, 0))]) _ (Mem.pick [_] [_] _ hm71)
         have hm74 := Mem.drop ([(b12, .cells (cl u8 (keyM key)) 23 (0, 0))]) _ (Mem.pick [_] [_] _ hm73)
         have hm75 := Mem.drop ([(b11, .cells (cl u8 (keyT key)) 23 (0, 0))]) _ (Mem.pick [_] [_] _ hm74)
         have hm76 := Mem.drop ([(b5, .cells (cl u8 nonce) 25 (0, 0))]) _ (Mem.pick [_] [_] _ hm75)
         have hm77 := Mem.drop ([(b4, .cells (cl u8 key) 23 (0, 0))]) _ (Mem.pick [_] [_] _ hm76)
         have hrt : rightP key nonce la lc = true := by
           unfold rightP tagP; rw [← front_sub oM, ← back_sub oM]
           first | simpa [joinL_one1] using hc64 | (simp only [keyM]; simpa [joinL_one1] using hc64)
         have hfin : turnP blockP (keyT key) 1#32 nonce ((lc.drop (0 : Int).toNat).take (((lc.length : Int) - 32 : Int).toNat - (0 : Int).toNat)) = cipherP key nonce (frontP lc) := by rw [← front_sub oM]; first | rfl | (rw [← cipherR]; simp only [chunks_keys, keyT])
         exact ⟨(slc bq72 0 ((turnP blockP (keyT key) 1#32 nonce ((lc.drop (0 : Int).toNat).take (((lc.length : Int) - 32 : Int).toNat - (0 : Int).toNat))).length) ((turnP blockP (keyT key) 1#32 nonce ((lc.drop (0 : Int).toNat).take (((lc.length : Int) - 32 : Int).toNat - (0 : Int).toNat))).length)), [(bq72, .cells (cl u8 (turnP blockP (keyT key) 1#32 nonce ((lc.drop (0 : Int).toNat).take (((lc.length : Int) - 32 : Int).toNat - (0 : Int).toNat)))) 5 (0, 0))], by rw [errO_told oM hrt]; rfl, by rw [openQ_told oM hrt]; show Grow _ _ _ (cipherP key nonce (frontP lc)) _; exact hfin ▸ (Grow.of u8 5 bq72 (turnP blockP (keyT key) 1#32 nonce ((lc.drop (0 : Int).toNat).take (((lc.length : Int) - 32 : Int).toNat - (0 : Int).toNat)))), by simpa using hm77⟩
   · -- 9 ahead of 6
     refine re_plan [(0, false), (1, false), (2, false), (3, false), (4, false), (5, false), (9, true), (6, true), (7, true), (8, false)] 10 rfl (by kernel_rfl) <| dw_q rfl rfl (fun _ _hx => ev_slice_sla (i := 0) (j := 32) uT23 ti5 s12 (optI_none _ _) (optI_none _ _) oM sD sD) <| dw_q (v := (agg u8 nonce)) rfl rfl (fun _ _hx => ev_loadA uT25 rfl ti25 s5 (hm12.ext _hx).h2 sZ) <| dM rfl rfl s2 <| dM rfl rfl s3 <| dM rfl rfl s10 ?_
     refine dw_q rfl rfl (fun _ _hx => ev_slice_rd (i := 0) (j := (lc.length : Int) - 32) (Rd.ofRest hrc (hm12.ext _hx)) uT26 ti5 rfl (optI_none _ _) (optI_some (k := .i64) (i := (lc.length : Int) - 32) rfl) oM sD sD) ?_
     refine dw_c rfl rfl (fun w78 _ew78 => ?_)
     have hm78 := hm12.ext _ew78
     refine OpR.mono (or_alloc_agg hm78 ti23) ?_
     rintro _ w79 ⟨b13_2, rfl, _ew79, hm79⟩
     refine ⟨_ew79, ?_⟩
     refine dw_c rfl rfl (fun w80 _ew80 => ?_)
     have hm80 := hm79.ext _ew80
     refine OpR.mono (opR_call Tryd.func16 bd16 nm16 (args3 rfl rfl rfl) (c_message nonce va la (subv vc 0 ((lc.length : Int) - 32)) ((lc.drop (0 : Int).toNat).take (((lc.length : Int) - 32 : Int).toNat - (0 : Int).toNat)) _ sD (Rd.ofRest hra hm80) sD (Rd.cast (l' := (lc.drop (0 : Int).toNat).take (((lc.length : Int) - 32 : Int).toNat - (0 : Int).toNat)) (Rd.sub (Rd.ofRest hrc hm80) oM sD sD) rfl) sD)) ?_
     rintro rxq82 w81 ⟨Hsq82, grxq82, k_w81⟩
     refine ⟨k_w81.toExt, ?_⟩
     have hm81 : Mem w81 (restOf w0) (Hsq82 ++ ([(b13_2, .cells (cl u8 (List.replicate 32 0)) 23 (0, 0)), (b12, .cells (cl u8 (keyM key)) 23 (0, 0)), (b11, .cells (cl u8 (keyT key)) 23 (0, 0)), (b5, .cells (cl u8 nonce) 25 (0, 0)), (b4, .cells (cl u8 key) 23 (0, 0))])) := Mem.new (H := [(b13_2, .cells (cl u8 (List.replicate 32 0)) 23 (0, 0)), (b12, .cells (cl u8 (keyM key)) 23 (0, 0)), (b11, .cells (cl u8 (keyT key)) 23 (0, 0)), (b5, .cells (cl u8 nonce) 25 (0, 0)), (b4, .cells (cl u8 key) 23 (0, 0))]) (H' := Hsq82) hm80 k_w81
     refine dw_c rfl rfl (fun w83 _ew83 => ?_)
     have hm83 := hm81.ext _ew83
     refine OpR.mono (or_buildSlice_ones [rxq82] (List.all_eq_true.1 (one_cons grxq82.one one_nil)) hm83 uT71 ti26 rfl rfl rfl) ?_
     rintro _ w84 ⟨b31_2, rfl, _ew84, hm84⟩
     refine ⟨_ew84, ?_⟩
     have hm84 : Mem w84 (restOf w0) ([(b31_2, .cells #[rxq82] 26 (0, 0))] ++ (Hsq82 ++ ([(b13_2, .cells (cl u8 (List.replicate 32 0)) 23 (0, 0)), (b12, .cells (cl u8 (keyM key)) 23 (0, 0)), (b11, .cells (cl u8 (keyT key)) 23 (0, 0)), (b5, .cells (cl u8 nonce) 25 (0, 0)), (b4, .cells (cl u8 key) 23 (0, 0))]))) := hm84
     refine dw_x (v := (agg u8 (hmacP (keyM key) (joinL ([(rxq82, msgP nonce la ((lc.drop (0 : Int).toNat).take (((lc.length : Int) - 32 : Int).toNat - (0 : Int).toNat)))]))))) rfl rfl (fun w85 _ew85 => OpR.mono (opR_call Tryd.func28 bd28 nm28 (args2 rfl rfl) (c_hmac (sla b12 0 1 0 32 32) (keyM key) (slc b31_2 0 1 1) ([(rxq82, msgP nonce la ((lc.drop (0 : Int).toNat).take (((lc.length : Int) - 32 : Int).toNat - (0 : Int).toNat)))]) _ (hT.mono fun b o e => ((hm84.ext _ew85)).rest b o e) (Rd.slaAll ((Mem.pick3 [_] Hsq82 [_] [_] _ (hm84.ext _ew85))).h0 sD) sD (Rd.mkA (f := Prod.fst) (l := [(rxq82, msgP nonce la ((lc.drop (0 : Int).toNat).take (((lc.length : Int) - 32 : Int).toNat - (0 : Int).toNat)))]) (hm84.ext _ew85).h0) (allp_cons (grxq82.rd (Mem.pick [_] Hsq82 _ (hm84.ext _ew85))) allp_nil) (by rw [joinL_one1]; simp only [msgP_length]; simp; omega) sD)) (by rintro _ w86 ⟨rfl, _ew86⟩; exact ⟨rfl, _ew86⟩)) ?_
     refine dw_nil (fun w88 _ew88 => ?_)
     have hm88 := hm84.ext _ew88
     refine rw_n (or_store_agg (f := u8) (l := hmacP (keyM key) (joinL ([(rxq82, msgP nonce la ((lc.drop (0 : Int).toNat).take (((lc.length : Int) - 32 : Int).toNat - (0 : Int).toNat)))]))) u8_one ti23 rfl rfl sD ((Mem.pick2 [_] Hsq82 [_] _ hm88)).h0 sZ rfl) ?_
     rintro _ w89 uq89
     have hm89 : Mem w89 (restOf w0) ([(b13_2, .cells (cl u8 (hmacP (keyM key) (joinL ([(rxq82, msgP nonce la ((lc.drop (0 : Int).toNat).take (((lc.length : Int) - 32 : Int).toNat - (0 : Int).toNat)))])))) 23 (0, 0)), (b31_2, .cells #[rxq82] 26 (0, 0))] ++ (Hsq82 ++ ([(b12, .cells (cl u8 (keyM key)) 23 (0, 0)), (b11, .cells (cl u8 (keyT key)) 23 (0, 0)), (b5, .cells (cl u8 nonce) 25 (0, 0)), (b4, .cells (cl u8 key) 23 (0, 0))]))) := Mem.upd0 (Mem.pick2 [_] Hsq82 [_] _ hm88) uq89
     refine rw_nil (kThen_normal (cw_seq (cw_seq ?_)))
     refine cw_draw [(0, false), (1, false), (2, false), (3, false)] 4 (by kernel_rfl) <| dw_q rfl rfl (fun _ _hx => ev_slice_sla (i := 0) (j := 32) uT23 ti5 rfl (optI_none _ _) (optI_none _ _) oM sD sD) <| dM rfl rfl s3 <| dM rfl rfl s10 <| dw_q rfl rfl (fun _ _hx => ev_slice_rd (i := (lc.length : Int) - 32) (j := (lc.length : Int)) (Rd.ofRest hrc (hm89.ext _hx)) uT26 ti5 rfl (optI_some (k := .i64) (i := (lc.length : Int) - 32) rfl) (optI_none _ _) oM sD sD) ?_
     refine dw_nil (fun w90 _ew90 => ?_)
     have hm90 := hm89.ext _ew90
     refine rw_c rfl (opR_call Tryd.func18 bd18 nm18 (args2 rfl rfl) (c_ssame (sla b13_2 0 1 0 32 32) (subv vc ((lc.length : Int) - 32) (lc.length : Int)) (hmacP (keyM key) (joinL ([(rxq82, msgP nonce la ((lc.drop (0 : Int).toNat).take (((lc.length : Int) - 32 : Int).toNat - (0 : Int).toNat)))]))) ((lc.drop ((lc.length : Int) - 32 : Int).toNat).take (((lc.length : Int) : Int).toNat - ((lc.length : Int) - 32 : Int).toNat)) _ (Rd.slaAll hm90.h0 sD) (Rd.cast (l' := (lc.drop ((lc.length : Int) - 32 : Int).toNat).take (((lc.length : Int) : Int).toNat - ((lc.length : Int) - 32 : Int).toNat)) (Rd.sub (Rd.ofRest hrc hm90) oM sD sD) rfl) sD)) ?_
     rintro _ w91 ⟨rfl, _ew91⟩
     have hm91 := hm90.ext _ew91
     refine rw_q rfl (ev_not rfl) ?_
     refine rw_nil (kThen_normal ?_)
     have hm93 := Mem.drop ([(b31_2, .cells #[rxq82] 26 (0, 0))]) _ (Mem.pick [_] [_] _ hm91)
     have hm94 := Mem.drop Hsq82 _ (Mem.pick [_] Hsq82 _ hm93)
     refine CW.abs (fun g => g 0 = (agg u8 key) ∧ g 1 = (agg u8 nonce) ∧ g 2 = va ∧ g 3 = vc ∧ g 4 = (ptr b4 0) ∧ g 5 = (ptr b5 0) ∧ g 8 = (Value.slice none 0 0) ∧ g 9 = (i64 0) ∧ g 10 = (i64 ((lc.length : Int) - 32)) ∧ g 11 = (ptr b11 0) ∧ g 12 = (ptr b12 0) ∧ g 13 = (ptr b13_2 0) ∧ g 18 = (bl (decide (((lc.length : Int) - 32) < 0))) ∧ g 38 = (bl (!((hmacP (keyM key) (joinL ([(rxq82, msgP nonce la ((lc.drop (0 : Int).toNat).take (((lc.length : Int) - 32 : Int).toNat - (0 : Int).toNat)))]))) == ((lc.drop ((lc.length : Int) - 32 : Int).toNat).take (((lc.length : Int) : Int).toNat - ((lc.length : Int) - 32 : Int).toNat))))) ∧ True) ⟨s0, s1, s2, s3, s4, s5, s8, s9, s10, s11, s12, rfl, s18, rfl, trivial⟩ ?_
     rintro fr95 ⟨s0, s1, s2, s3, s4, s5, s8, s9, s10, s11, s12, s13, s18, s38, _⟩
     refine cw_cond s38 (fun hc96 => ?_) (fun hc96 => ?_)
     · -- true
       have hc96n : ((hmacP (keyM key) (joinL ([(rxq82, msgP nonce la ((lc.drop (0 : Int).toNat).take (((lc.length : Int) - 32 : Int).toNat - (0 : Int).toNat)))]))) == ((lc.drop ((lc.length : Int) - 32 : Int).toNat).take (((lc.length : Int) : Int).toNat - ((lc.length : Int) - 32 : Int).toNat))) = false := by simpa using hc96
       have hc96p := ne_of_beq_false hc96n
       refine cw_seq (cw_region ?_)
       refine rw_q rfl (ev_assign (v := (Value.slice none 0 0)) rfl) <| rw_q rfl (ev_assign (v := (i64 10)) rfl) ?_
       refine rw_nil (kThen_normal (cw_ret (kThen_ret ?_)))
       refine fnPost_ret [(Value.slice none 0 0), (i64 10)] ⟨rfl, rfl, trivial⟩ ?_
       have hm97 := Mem.drop ([(b13_2, .cells (cl u8 (hmacP (keyM key) (joinL ([(rxq82, msgP nonce la ((lc.drop (0 : Int).toNat).take (((lc.length : Int) - 32 : Int).toNat - (0 : Int).toNat)))])))) 23 (0, 0))]) _ hm94
       have hm98 := Mem.drop ([(b12, .cells (cl u8 (keyM key)) 23 (0, 0))]) _ hm97
       have hm99 := Mem.drop ([(b11, .cells (cl u8 (keyT key)) 23 (0, 0))]) _ hm98
       have hm100 := Mem.drop ([(b5, .cells (cl u8 nonce) 25 (0, 0))]) _ hm99
       have hm101 := Mem.drop ([(b4, .cells (cl u8 key) 23 (0, 0))]) _ hm100
       have hrt : rightP key nonce la lc = false := by
         unfold rightP tagP; rw [← front_sub oM, ← back_sub oM]
         first | simpa [joinL_one1] using hc96 | (simp only [keyM]; simpa [joinL_one1] using hc96)
       exact ⟨(Value.slice none 0 0), [], by rw [errO_told oM hrt]; rfl, by rw [openQ_told oM hrt]; exact (Grow.none _ _), by simpa using hm101⟩
     · -- false
       have hc96n : ((hmacP (keyM key) (joinL ([(rxq82, msgP nonce la ((lc.drop (0 : Int).toNat).take (((lc.length : Int) - 32 : Int).toNat - (0 : Int).toNat)))]))) == ((lc.drop ((lc.length : Int) - 32 : Int).toNat).take (((lc.length : Int) : Int).toNat - ((lc.length : Int) - 32 : Int).toNat))) = true := by simpa using hc96
       have hc96p := eq_of_beq hc96n
       refine cw_skip (kThen_normal (cw_seq ?_))
       refine cw_draw [(0, false), (1, false), (2, false), (3, false), (4, false)] 5 (by kernel_rfl) <| dw_q (v := (agg u8 (keyT key))) rfl rfl (fun _ _hx => ev_loadA uT23 rfl ti23 s11 (hm94.ext _hx).h2 sZ) <| dw_q (v := (agg u8 nonce)) rfl rfl (fun _ _hx => ev_loadA uT25 rfl ti25 s5 (hm94.ext _hx).h3 sZ) <| dM rfl rfl s3 <| dM rfl rfl s10 <| dw_q rfl rfl (fun _ _hx => ev_slice_rd (i := 0) (j := (lc.length : Int) - 32) (Rd.ofRest hrc (hm94.ext _hx)) uT26 ti5 rfl (optI_none _ _) (optI_some (k := .i64) (i := (lc.length : Int) - 32) rfl) oM sD sD) ?_
       refine dw_nil (fun w102 _ew102 => ?_)
       have hm102 := hm94.ext _ew102
       refine rw_c rfl (opR_call Tryd.func27 bd27 nm27 (args4 rfl rfl rfl rfl) (c_turn (keyT key) 1#32 nonce (subv vc 0 ((lc.length : Int) - 32)) ((lc.drop (0 : Int).toNat).take (((lc.length : Int) - 32 : Int).toNat - (0 : Int).toNat)) _ sD sD (Rd.cast (l' := (lc.drop (0 : Int).toNat).take (((lc.length : Int) - 32 : Int).toNat - (0 : Int).toNat)) (Rd.sub (Rd.ofRest hrc hm102) oM sD sD) rfl) sD)) ?_
       rintro _ w103 ⟨bq104, rfl, k_w103⟩
       have hm103 : Mem w103 (restOf w0) [(bq104, .cells (cl u8 (turnP blockP (keyT key) 1#32 nonce ((lc.drop (0 : Int).toNat).take (((lc.length : Int) - 32 : Int).toNat - (0 : Int).toNat)))) 5 (0, 0)), (b13_2, .cells (cl u8 (hmacP (keyM key) (joinL ([(rxq82, msgP nonce la ((lc.drop (0 : Int).toNat).take (((lc.length : Int) - 32 : Int).toNat - (0 : Int).toNat)))])))) 23 (0, 0)), (b12, .cells (cl u8 (keyM key)) 23 (0, 0)), (b11, .cells (cl u8 (keyT key)) 23 (0, 0)), (b5, .cells (cl u8 nonce) 25 (0, 0)), (b4, .cells (cl u8 key) 23 (0, 0))] := Mem.new (H := [(b13_2, .cells (cl u8 (hmacP (keyM key) (joinL ([(rxq82, msgP nonce la ((lc.drop (0 : Int).toNat).take (((lc.length : Int) - 32 : Int).toNat - (0 : Int).toNat)))])))) 23 (0, 0)), (b12, .cells (cl u8 (keyM key)) 23 (0, 0)), (b11, .cells (cl u8 (keyT key)) 23 (0, 0)), (b5, .cells (cl u8 nonce) 25 (0, 0)), (b4, .cells (cl u8 key) 23 (0, 0))]) (H' := [(bq104, .cells (cl u8 (turnP blockP (keyT key) 1#32 nonce ((lc.drop (0 : Int).toNat).take (((lc.length : Int) - 32 : Int).toNat - (0 : Int).toNat)))) 5 (0, 0))]) hm102 k_w103
       refine rA rfl rfl <| rw_q rfl (ev_assign (v := (i64 0)) rfl) ?_
       refine rw_nil (kThen_normal (cw_ret ?_))
       refine fnPost_ret [(slc bq104 0 ((turnP blockP (keyT key) 1#32 nonce ((lc.drop (0 : Int).toNat).take (((lc.length : Int) - 32 : Int).toNat - (0 : Int).toNat))).length) ((turnP blockP (keyT key) 1#32 nonce ((lc.drop (0 : Int).toNat).take (((lc.length : Int) - 32 : Int).toNat - (0 : Int).toNat))).length)), (i64 0)] ⟨rfl, rfl, trivial⟩ ?_
       have hm105 := Mem.drop ([(b13_2, .cells (cl u8 (hmacP (keyM key) (joinL ([(rxq82, msgP nonce la ((lc.drop (0 : Int).toNat).take (((lc.length : Int) - 32 : Int).toNat - (0 : Int).toNat)))])))) 23 (0, 0))]) _ (Mem.pick [_] [_] _ hm103)
       have hm106 := Mem.drop ([(b12, .cells (cl u8 (keyM key)) 23 (0, 0))]) _ (Mem.pick [_] [_] _ hm105)
       have hm107 := Mem.drop ([(b11, .cells (cl u8 (keyT key)) 23 (0, 0))]) _ (Mem.pick [_] [_] _ hm106)
       have hm108 := Mem.drop ([(b5, .cells (cl u8 nonce) 25 (0, 0))]) _ (Mem.pick [_] [_] _ hm107)
       have hm109 := Mem.drop ([(b4, .cells (cl u8 key) 23 (0, 0))]) _ (Mem.pick [_] [_] _ hm108)
       have hrt : rightP key nonce la lc = true := by
         unfold rightP tagP; rw [← front_sub oM, ← back_sub oM]
         first | simpa [joinL_one1] using hc96 | (simp only [keyM]; simpa [joinL_one1] using hc96)
       have hfin : turnP blockP (keyT key) 1#32 nonce ((lc.drop (0 : Int).toNat).take (((lc.length : Int) - 32 : Int).toNat - (0 : Int).toNat)) = cipherP key nonce (frontP lc) := by rw [← front_sub oM]; first | rfl | (rw [← cipherR]; simp only [chunks_keys, keyT])
       exact ⟨(slc bq104 0 ((turnP blockP (keyT key) 1#32 nonce ((lc.drop (0 : Int).toNat).take (((lc.length : Int) - 32 : Int).toNat - (0 : Int).toNat))).length) ((turnP blockP (keyT key) 1#32 nonce ((lc.drop (0 : Int).toNat).take (((lc.length : Int) - 32 : Int).toNat - (0 : Int).toNat))).length)), [(bq104, .cells (cl u8 (turnP blockP (keyT key) 1#32 nonce ((lc.drop (0 : Int).toNat).take (((lc.length : Int) - 32 : Int).toNat - (0 : Int).toNat)))) 5 (0, 0))], by rw [errO_told oM hrt]; rfl, by rw [openQ_told oM hrt]; show Grow _ _ _ (cipherP key nonce (frontP lc)) _; exact hfin ▸ (Grow.of u8 5 bq104 (turnP blockP (keyT key) 1#32 nonce ((lc.drop (0 : Int).toNat).take (((lc.length : Int) - 32 : Int).toNat - (0 : Int).toNat)))), by simpa using hm109⟩

set_option maxHeartbeats 1000000 in
theorem c_ropen (key : List (BitVec 8)) (nonce : List (BitVec 8)) (va : Value) (la : List (BitVec 8)) (vc : Value) (lc : List (BitVec 8)) (w0 : World)  (hk : key.length = 32) (hn : nonce.length = 12) (hra : Rd (blks w0) u8 va la) (hla : la.length ≤ 100000) (hrc : Rd (blks w0) u8 vc lc) (hlc : lc.length ≤ 100000) : CallsR Tryd.prog 13 #[(agg u8 key), (agg u8 nonce), va, vc] w0 (fun r w1 => ∃ v Hs, r = Value.tuple #[v, i64 (errO key nonce la lc)] ∧ Grow u8 5 v (openQ key nonce la lc) Hs ∧ Mem w1 (restOf w0) Hs) := by
 refine callsR_of_cw (args := [(agg u8 key), (agg u8 nonce), va, vc]) Tryd.func13 rfl Tryd.ntmps13 Tryd.results13 rfl ?_
 have hm0 : Mem w0 (restOf w0) [] := Mem.of_world w0
 have hkt := keyT_len key
 have hkm := keyM_len key
 have hcl := cipherP_length key nonce lc
 refine cw_seq (cw_region ?_)
 refine rw_c rfl (or_box_agg (f := u8) (l := key) hm0 rfl) ?_
 rintro _ w1 ⟨b4, rfl, _ew1, hm1⟩
 refine rw_c rfl (or_box_agg (f := u8) (l := nonce) hm1 rfl) ?_
 rintro _ w2 ⟨b5, rfl, _ew2, hm2⟩
 refine rw_q rfl (ev_assign (v := (Value.slice none 0 0)) rfl) <| rw_q rfl (ev_assign (v := (i64 0)) rfl) ?_
 refine rw_nil (kThen_normal (cw_seq (cw_seq (cw_region ?_))))
 refine rM rfl (v := vc) rfl <| rw_q (v := (i64 (lc.length : Int))) rfl (ev_len_rd (Rd.ofRest hrc hm2) uT26 rfl) <| rw_q rfl (ev_i64_lss (b := 32) rfl rfl) ?_
 refine rw_nil (kThen_normal ?_)
 refine cw_cond rfl (fun hc3 => ?_) (fun hc3 => ?_)
 · -- true
   have hc3p := of_decide_eq_true hc3
   refine cw_seq (cw_region ?_)
   refine rw_q rfl (ev_assign (v := (Value.slice none 0 0)) rfl) <| rw_q rfl (ev_assign (v := (i64 3)) rfl) ?_
   refine rw_nil (kThen_normal (cw_ret (kThen_ret ?_)))
   refine fnPost_ret [(Value.slice none 0 0), (i64 3)] ⟨rfl, rfl, trivial⟩ ?_
   have hm4 := Mem.drop ([(b5, .cells (cl u8 nonce) 25 (0, 0))]) _ hm2
   have hm5 := Mem.drop ([(b4, .cells (cl u8 key) 23 (0, 0))]) _ hm4
   exact ⟨(Value.slice none 0 0), [], by rw [errO_short oM]; rfl, by rw [openQ_short oM]; exact (Grow.none _ _), by simpa using hm5⟩
 · -- false
   have hc3p := of_decide_eq_false hc3
   refine cw_skip (kThen_normal (cw_seq (cw_region ?_)))
   refine rM rfl (v := vc) rfl <| rw_q (v := (i64 (lc.length : Int))) rfl (ev_len_rd (Rd.ofRest hrc hm2) uT26 rfl) <| rw_q rfl (ev_i64_sub (b := 32) rfl rfl oM oM) <| rw_q rfl (ev_assign (v := (i64 ((lc.length : Int) - 32))) rfl) ?_
   refine rw_nil (kThen_normal ?_)
   refine CW.abs (fun g => g 0 = (agg u8 key) ∧ g 1 = (agg u8 nonce) ∧ g 2 = va ∧ g 3 = vc ∧ g 4 = (ptr b4 0) ∧ g 5 = (ptr b5 0) ∧ g 8 = (Value.slice none 0 0) ∧ g 9 = (i64 0) ∧ g 10 = (i64 ((lc.length : Int) - 32)) ∧ g 15 = (bl (decide ((lc.length : Int) < 32))) ∧ True) ⟨rfl, rfl, rfl, rfl, rfl, rfl, rfl, rfl, rfl, rfl, trivial⟩ ?_
   rintro fr6 ⟨s0, s1, s2, s3, s4, s5, s8, s9, s10, s15, _⟩
   refine cw_seq (cw_region ?_)
   refine rw_c rfl (or_buildSlice_cl u8 [] u8_one hm2 uT26 ti5 rfl (by simp [pairs]) rfl) ?_
   rintro _ w7 ⟨b19, rfl, _ew7, hm7⟩
   refine rw_q rfl (ev_slice_sla (i := 0) (j := 32) uT23 ti5 s4 (optI_none _ _) (optI_none _ _) oM sD sD) <| rw_c rfl (opR_call Tryd.func29 bd29 nm29 (args4 rfl rfl rfl rfl) (c_rkeys (slc b19 0 0 0) ([]) (sla b4 0 1 0 32 32) key (⟨#[115, 101, 97, 108]⟩) (2 : Int) _ (Rd.mkA hm7.h0) sD (Rd.slaAll hm7.h2 sD) sD sD sD)) ?_
   rintro rxq9 w8 ⟨Hsq9, grxq9, k_w8⟩
   have hm8 : Mem w8 (restOf w0) (Hsq9 ++ ([(b19, .cells (cl u8 ([])) 5 (0, 0)), (b5, .cells (cl u8 nonce) 25 (0, 0)), (b4, .cells (cl u8 key) 23 (0, 0))])) := Mem.new (H := [(b19, .cells (cl u8 ([])) 5 (0, 0)), (b5, .cells (cl u8 nonce) 25 (0, 0)), (b4, .cells (cl u8 key) 23 (0, 0))]) (H' := Hsq9) hm7 k_w8
   have gX10 := grxq9
   rw [chunks_keys] at gX10
   have hkl := keysQ_len (a := []) (b := key) (p := bytesL ⟨#[115, 101, 97, 108]⟩) (n := 2) (by decide) (by decide)
   have hk0 : ((keysQ [] key (bytesL ⟨#[115, 101, 97, 108]⟩) 2).getD 0 []).length = 32 := keyT_len key
   have hk1 : ((keysQ [] key (bytesL ⟨#[115, 101, 97, 108]⟩) 2).getD 1 []).length = 32 := keyM_len key
   refine rA rfl (v := rxq9) rfl ?_
   refine rw_nil (kThen_normal (cw_seq ?_))
   refine cw_drawE (by kernel_rfl) ?_
   refine re_or 8 10 rfl rfl ?_ ?_
   · -- 8 ahead of 10
     refine re_plan [(0, false), (1, false), (2, false), (3, false), (4, false), (5, false), (6, false), (7, false), (8, true), (9, false), (10, true)] 11 rfl (by kernel_rfl) <| dM rfl rfl (v := rxq9) rfl <| dw_q rfl rfl (fun _ _hx => ev_indexAddr_rk (i := 1) (gX10.rd (hm8.ext _hx)) uT57 ti23 rfl rfl oM sD) <| dw_q rfl rfl (fun _ _hx => ev_slice_elk (i := (1 : Int)) (gX10.rd (hm8.ext _hx)) sD rfl uT23 ti5 rfl) <| dw_q (v := (agg u8 nonce)) rfl rfl (fun _ _hx => ev_loadA uT25 rfl ti25 s5 ((Mem.pick2 Hsq9 [_] [_] _ (hm8.ext _hx))).h0 sZ) <| dM rfl rfl s2 ?_
     refine dM rfl rfl s3 <| dM rfl rfl s10 <| dw_q rfl rfl (fun _ _hx => ev_slice_rd (i := 0) (j := (lc.length : Int) - 32) (Rd.ofRest hrc (hm8.ext _hx)) uT26 ti5 rfl (optI_none _ _) (optI_some (k := .i64) (i := (lc.length : Int) - 32) rfl) oM sD sD) ?_
     refine dw_c rfl rfl (fun w11 _ew11 => ?_)
     have hm11 := hm8.ext _ew11
     refine OpR.mono (opR_call Tryd.func17 bd17 nm17 (args3 rfl rfl rfl) (c_rmessage nonce va la (subv vc 0 ((lc.length : Int) - 32)) ((lc.drop (0 : Int).toNat).take (((lc.length : Int) - 32 : Int).toNat - (0 : Int).toNat)) _ sD (Rd.ofRest hra hm11) sD (Rd.cast (l' := (lc.drop (0 : Int).toNat).take (((lc.length : Int) - 32 : Int).toNat - (0 : Int).toNat)) (Rd.sub (Rd.ofRest hrc hm11) oM sD sD) rfl) sD)) ?_
     rintro rxq13 w12 ⟨Hsq13, grxq13, k_w12⟩
     refine ⟨k_w12.toExt, ?_⟩
     have hm12 : Mem w12 (restOf w0) (Hsq13 ++ (Hsq9 ++ ([(b19, .cells (cl u8 ([])) 5 (0, 0)), (b5, .cells (cl u8 nonce) 25 (0, 0)), (b4, .cells (cl u8 key) 23 (0, 0))]))) := Mem.new (H := Hsq9 ++ ([(b19, .cells (cl u8 ([])) 5 (0, 0)), (b5, .cells (cl u8 nonce) 25 (0, 0)), (b4, .cells (cl u8 key) 23 (0, 0))])) (H' := Hsq13) hm11 k_w12
     refine dw_x (v := (agg u8 (hmacP ((keysQ [] key (bytesL ⟨#[115, 101, 97, 108]⟩) 2).getD 1 []) (msgP nonce la ((lc.drop (0 : Int).toNat).take (((lc.length : Int) - 32 : Int).toNat - (0 : Int).toNat)))))) rfl rfl (fun w14 _ew14 => OpR.mono (opR_call Tryd.func30 bd30 nm30 (args2 rfl rfl) (c_rhmac (elsl rxq9 (1 : Int) 32) ((keysQ [] key (bytesL ⟨#[115, 101, 97, 108]⟩) 2).getD 1 []) rxq13 (msgP nonce la ((lc.drop (0 : Int).toNat).take (((lc.length : Int) - 32 : Int).toNat - (0 : Int).toNat))) _ (Rd.cast (l' := (keysQ [] key (bytesL ⟨#[115, 101, 97, 108]⟩) 2).getD 1 []) (Rd.elsl (i := (1 : Int)) (gX10.rd (Mem.pick Hsq13 Hsq9 _ (hm12.ext _ew14))) sD) rfl) sD (grxq13.rd (hm12.ext _ew14)) sD)) (by rintro _ w15 ⟨rfl, _ew15⟩; exact ⟨rfl, _ew15⟩)) ?_
     refine dw_c rfl rfl (fun w17 _ew17 => ?_)
     have hm17 := hm12.ext _ew17
     refine OpR.mono (or_alloc_agg hm17 ti23) ?_
     rintro _ w18 ⟨b12, rfl, _ew18, hm18⟩
     refine ⟨_ew18, ?_⟩
     refine dw_nil (fun w19 _ew19 => ?_)
     have hm19 := hm18.ext _ew19
     refine rw_n (or_store_agg (f := u8) (l := hmacP ((keysQ [] key (bytesL ⟨#[115, 101, 97, 108]⟩) 2).getD 1 []) (msgP nonce la ((lc.drop (0 : Int).toNat).take (((lc.length : Int) - 32 : Int).toNat - (0 : Int).toNat)))) u8_one ti23 rfl rfl sD hm19.h0 sZ rfl) ?_
     rintro _ w20 uq20
     have hm20 := hm19.upd0 uq20
     refine rw_nil (kThen_normal ?_)
     have hm21 := Mem.drop Hsq13 _ (Mem.pick [_] Hsq13 _ hm20)
     have hm22 := Mem.drop ([(b19, .cells (cl u8 ([])) 5 (0, 0))]) _ (Mem.pick2 [_] Hsq9 [_] _ hm21)
     refine CW.abs (fun g => g 0 = (agg u8 key) ∧ g 1 = (agg u8 nonce) ∧ g 2 = va ∧ g 3 = vc ∧ g 4 = (ptr b4 0) ∧ g 5 = (ptr b5 0) ∧ g 8 = (Value.slice none 0 0) ∧ g 9 = (i64 0) ∧ g 10 = (i64 ((lc.length : Int) - 32)) ∧ g 11 = rxq9 ∧ g 12 = (ptr b12 0) ∧ g 15 = (bl (decide ((lc.length : Int) < 32))) ∧ True) ⟨s0, s1, s2, s3, s4, s5, s8, s9, s10, rfl, rfl, s15, trivial⟩ ?_
     rintro fr23 ⟨s0, s1, s2, s3, s4, s5, s8, s9, s10, s11, s12, s15, _⟩
     refine cw_seq (cw_seq ?_)
     refine cw_draw [(0, false), (1, false), (2, false), (3, false)] 4 (by kernel_rfl) <| dw_q rfl rfl (fun _ _hx => ev_slice_sla (i := 0) (j := 32) uT23 ti5 s12 (optI_none _ _) (optI_none _ _) oM sD sD) <| dM rfl rfl s3 <| dM rfl rfl s10 <| dw_q rfl rfl (fun _ _hx => ev_slice_rd (i := (lc.length : Int) - 32) (j := (lc.length : Int)) (Rd.ofRest hrc (hm22.ext _hx)) uT26 ti5 rfl (optI_some (k := .i64) (i := (lc.length : Int) - 32) rfl) (optI_none _ _) oM sD sD) ?_
     refine dw_nil (fun w24 _ew24 => ?_)
     have hm24 := hm22.ext _ew24
     refine rw_c rfl (opR_call Tryd.func14 bd14 nm14 (args2 rfl rfl) (c_same (sla b12 0 1 0 32 32) (subv vc ((lc.length : Int) - 32) (lc.length : Int)) (hmacP ((keysQ [] key (bytesL ⟨#[115, 101, 97, 108]⟩) 2).getD 1 []) (msgP nonce la ((lc.drop (0 : Int).toNat).take (((lc.length : Int) - 32 : Int).toNat - (0 : Int).toNat)))) ((lc.drop ((lc.length : Int) - 32 : Int).toNat).take (((lc.length : Int) : Int).toNat - ((lc.length : Int) - 32 : Int).toNat)) _ (Rd.slaAll hm24.h0 sD) (Rd.cast (l' := (lc.drop ((lc.length : Int) - 32 : Int).toNat).take (((lc.length : Int) : Int).toNat - ((lc.length : Int) - 32 : Int).toNat)) (Rd.sub (Rd.ofRest hrc hm24) oM sD sD) rfl) sD)) ?_
     rintro _ w25 ⟨rfl, _ew25⟩
     have hm25 := hm24.ext _ew25
     refine rw_q rfl (ev_not rfl) ?_
     refine rw_nil (kThen_normal ?_)
     refine cw_cond rfl (fun hc27 => ?_) (fun hc27 => ?_)
     · -- true
       have hc27n : ((hmacP ((keysQ [] key (bytesL ⟨#[115, 101, 97, 108]⟩) 2).getD 1 []) (msgP nonce la ((lc.drop (0 : Int).toNat).take (((lc.length : Int) - 32 : Int).toNat - (0 : Int).toNat)))) == ((lc.drop ((lc.length : Int) - 32 : Int).toNat).take (((lc.length : Int) : Int).toNat - ((lc.length : Int) - 32 : Int).toNat))) = false := by simpa using hc27
       have hc27p := ne_of_beq_false hc27n
       refine cw_seq (cw_region ?_)
       refine rw_q rfl (ev_assign (v := (Value.slice none 0 0)) rfl) <| rw_q rfl (ev_assign (v := (i64 10)) rfl) ?_
       refine rw_nil (kThen_normal (cw_ret (kThen_ret ?_)))
       refine fnPost_ret [(Value.slice none 0 0), (i64 10)] ⟨rfl, rfl, trivial⟩ ?_
       have hm28 := Mem.drop ([(b12, .cells (cl u8 (hmacP ((keysQ [] key (bytesL ⟨#[115, 101, 97, 108]⟩) 2).getD 1 []) (msgP nonce la ((lc.drop (0 : Int).toNat).take (((lc.length : Int) - 32 : Int).toNat - (0 : Int).toNat))))) 23 (0, 0))]) _ hm25
       have hm29 := Mem.drop Hsq9 _ hm28
       have hm30 := Mem.drop ([(b5, .cells (cl u8 nonce) 25 (0, 0))]) _ hm29
       have hm31 := Mem.drop ([(b4, .cells (cl u8 key) 23 (0, 0))]) _ hm30
       have hrt : rightP key nonce la lc = false := by
         unfold rightP tagP; rw [← front_sub oM, ← back_sub oM]
         first | simpa [joinL_one1] using hc27 | (simp only [keyM]; simpa [joinL_one1] using hc27)
       exact ⟨(Value.slice none 0 0), [], by rw [errO_told oM hrt]; rfl, by rw [openQ_told oM hrt]; exact (Grow.none _ _), by simpa using hm31⟩
     · -- false
       have hc27n : ((hmacP ((keysQ [] key (bytesL ⟨#[115, 101, 97, 108]⟩) 2).getD 1 []) (msgP nonce la ((lc.drop (0 : Int).toNat).take (((lc.length : Int) - 32 : Int).toNat - (0 : Int).toNat)))) == ((lc.drop ((lc.length : Int) - 32 : Int).toNat).take (((lc.length : Int) : Int).toNat - ((lc.length : Int) - 32 : Int).toNat))) = true := by simpa using hc27
       have hc27p := eq_of_beq hc27n
       refine cw_skip (kThen_normal (cw_seq ?_))
       refine cw_draw [(0, false), (1, false), (2, false), (3, false), (4, false), (5, false), (6, false)] 7 (by kernel_rfl) <| dM rfl rfl s11 <| dw_q rfl rfl (fun _ _hx => ev_indexAddr_rk (i := 0) (gX10.rd (Mem.pick [_] Hsq9 _ (hm25.ext _hx))) uT57 ti23 rfl rfl oM sD) <| dw_q (v := (agg u8 ((keysQ [] key (bytesL ⟨#[115, 101, 97, 108]⟩) 2).getD 0 []))) rfl rfl (fun _ _hx => ev_load_rka (i := (0 : Int)) (gX10.rd (Mem.pick [_] Hsq9 _ (hm25.ext _hx))) sD uT23 ti23 rfl rfl) <| dw_q (v := (agg u8 nonce)) rfl rfl (fun _ _hx => ev_loadA uT25 rfl ti25 s5 ((Mem.pick2 [_] Hsq9 [_] _ (hm25.ext _hx))).h0 sZ) <| dM rfl rfl s3 ?_
       refine dM rfl rfl s10 <| dw_q rfl rfl (fun _ _hx => ev_slice_rd (i := 0) (j := (lc.length : Int) - 32) (Rd.ofRest hrc (hm25.ext _hx)) uT26 ti5 rfl (optI_none _ _) (optI_some (k := .i64) (i := (lc.length : Int) - 32) rfl) oM sD sD) ?_
       refine dw_nil (fun w32 _ew32 => ?_)
       have hm32 := hm25.ext _ew32
       refine rw_c rfl (opR_call Tryd.func31 bd31 nm31 (args4 rfl rfl rfl rfl) (c_turn3 ((keysQ [] key (bytesL ⟨#[115, 101, 97, 108]⟩) 2).getD 0 []) 1#32 nonce (subv vc 0 ((lc.length : Int) - 32)) ((lc.drop (0 : Int).toNat).take (((lc.length : Int) - 32 : Int).toNat - (0 : Int).toNat)) _ sD sD (Rd.cast (l' := (lc.drop (0 : Int).toNat).take (((lc.length : Int) - 32 : Int).toNat - (0 : Int).toNat)) (Rd.sub (Rd.ofRest hrc hm32) oM sD sD) rfl) sD)) ?_
       rintro rq34 w33 ⟨Hsq34, grq34, k_w33⟩
       have hm33 : Mem w33 (restOf w0) (Hsq34 ++ ([(b12, .cells (cl u8 (hmacP ((keysQ [] key (bytesL ⟨#[115, 101, 97, 108]⟩) 2).getD 1 []) (msgP nonce la ((lc.drop (0 : Int).toNat).take (((lc.length : Int) - 32 : Int).toNat - (0 : Int).toNat))))) 23 (0, 0))] ++ (Hsq9 ++ ([(b5, .cells (cl u8 nonce) 25 (0, 0)), (b4, .cells (cl u8 key) 23 (0, 0))])))) := Mem.new (H := [(b12, .cells (cl u8 (hmacP ((keysQ [] key (bytesL ⟨#[115, 101, 97, 108]⟩) 2).getD 1 []) (msgP nonce la ((lc.drop (0 : Int).toNat).take (((lc.length : Int) - 32 : Int).toNat - (0 : Int).toNat))))) 23 (0, 0))] ++ (Hsq9 ++ ([(b5, .cells (cl u8 nonce) 25 (0, 0)), (b4, .cells (cl u8 key) 23 (0, 0))]))) (H' := Hsq34) hm32 k_w33
       refine rA rfl (v := rq34) rfl <| rw_q rfl (ev_assign (v := (i64 0)) rfl) ?_
       refine rw_nil (kThen_normal ?_)
       refine CW.abs (fun g => g 0 = (agg u8 key) ∧ g 1 = (agg u8 nonce) ∧ g 2 = va ∧ g 3 = vc ∧ g 4 = (ptr b4 0) ∧ g 5 = (ptr b5 0) ∧ g 8 = rq34 ∧ g 9 = (i64 0) ∧ g 10 = (i64 ((lc.length : Int) - 32)) ∧ g 11 = rxq9 ∧ g 12 = (ptr b12 0) ∧ g 15 = (bl (decide ((lc.length : Int) < 32))) ∧ g 37 = (bl (!((hmacP ((keysQ [] key (bytesL ⟨#[115, 101, 97, 108]⟩) 2).getD 1 []) (msgP nonce la ((lc.drop (0 : Int).toNat).take (((lc.length : Int) - 32 : Int).toNat - (0 : Int).toNat)))) == ((lc.drop ((lc.length : Int) - 32 : Int).toNat).take (((lc.length : Int) : Int).toNat - ((lc.length : Int) - 32 : Int).toNat))))) ∧ True) ⟨s0, s1, s2, s3, s4, s5, rfl, rfl, s10, s11, s12, s15, rfl, trivial⟩ ?_
       rintro fr35 ⟨s0, s1, s2, s3, s4, s5, s8, s9, s10, s11, s12, s15, s37, _⟩
       refine cw_ret <| fnPost_ret [rq34, (i64 0)] ⟨s8, s9, trivial⟩ ?_
       have hm36 := Mem.drop ([(b12, .cells (cl u8 (hmacP ((keysQ [] key (bytesL ⟨#[115, 101, 97, 108]⟩) 2).getD 1 []) (msgP nonce la ((lc.drop (0 : Int).toNat).take (((lc.length : Int) - 32 : Int).toNat - (0 : Int).toNat))))) 23 (0, 0))]) _ (Mem.pick Hsq34 [_] _ hm33)
       have hm37 := Mem.drop Hsq9 _ (Mem.pick Hsq34 Hsq9 _ hm36)
       have hm38 := Mem.drop ([(b5, .cells (cl u8 nonce) 25 (0, 0))]) _ (Mem.pick Hsq34 [_] _ hm37)
       have hm39 := Mem.drop ([(b4, .cells (cl u8 key) 23 (0, 0))]) _ (Mem.pick Hsq34 [_] _ hm38)
       have hrt : rightP key nonce la lc = true := by
         unfold rightP tagP; rw [← front_sub oM, ← back_sub oM]
         first | simpa [joinL_one1] using hc27 | (simp only [keyM]; simpa [joinL_one1] using hc27)
       have hfin : turnP blockR ((keysQ [] key (bytesL ⟨#[115, 101, 97, 108]⟩) 2).getD 0 []) 1#32 nonce ((lc.drop (0 : Int).toNat).take (((lc.length : Int) - 32 : Int).toNat - (0 : Int).toNat)) = cipherP key nonce (frontP lc) := by rw [← front_sub oM]; first | rfl | (rw [← cipherR]; simp only [chunks_keys, keyT])
       exact ⟨rq34, Hsq34, by rw [errO_told oM hrt]; rfl, by rw [openQ_told oM hrt]; show Grow _ _ _ (cipherP key nonce (frontP lc)) _; exact hfin ▸ grq34, by simpa using hm39⟩
   · -- 10 ahead of 8
     refine re_plan [(0, false), (1, false), (2, false), (3, false), (4, false), (5, false), (6, false), (7, false), (10, true), (8, true), (9, false)] 11 rfl (by kernel_rfl) <| dM rfl rfl (v := rxq9) rfl <| dw_q rfl rfl (fun _ _hx => ev_indexAddr_rk (i := 1) (gX10.rd (hm8.ext _hx)) uT57 ti23 rfl rfl oM sD) <| dw_q rfl rfl (fun _ _hx => ev_slice_elk (i := (1 : Int)) (gX10.rd (hm8.ext _hx)) sD rfl uT23 ti5 rfl) <| dw_q (v := (agg u8 nonce)) rfl rfl (fun _ _hx => ev_loadA uT25 rfl ti25 s5 ((Mem.pick2 Hsq9 [_] [_] _ (hm8.ext _hx))).h0 sZ) <| dM rfl rfl s2 ?_
     refine dM rfl rfl s3 <| dM rfl rfl s10 <| dw_q rfl rfl (fun _ _hx => ev_slice_rd (i := 0) (j := (lc.length : Int) - 32) (Rd.ofRest hrc (hm8.ext _hx)) uT26 ti5 rfl (optI_none _ _) (optI_some (k := .i64) (i := (lc.length : Int) - 32) rfl) oM sD sD) ?_
     refine dw_c rfl rfl (fun w40 _ew40 => ?_)
     have hm40 := hm8.ext _ew40
     refine OpR.mono (or_alloc_agg hm40 ti23) ?_
     rintro _ w41 ⟨b12_1, rfl, _ew41, hm41⟩
     refine ⟨_ew41, ?_⟩
     refine dw_c rfl rfl (fun w42 _ew42 => ?_)
     have hm42 := hm41.ext _ew42
     refine OpR.mono (opR_call Tryd.func17 bd17 nm17 (args3 rfl rfl rfl) (c_rmessage nonce va la (subv vc 0 ((lc.length : Int) - 32)) ((lc.drop (0 : Int).toNat).take (((lc.length : Int) - 32 : Int).toNat - (0 : Int).toNat)) _ sD (Rd.ofRest hra hm42) sD (Rd.cast (l' := (lc.drop (0 : Int).toNat).take (((lc.length : Int) - 32 : Int).toNat - (0 : Int).toNat)) (Rd.sub (Rd.ofRest hrc hm42) oM sD sD) rfl) sD)) ?_
     rintro rxq44 w43 ⟨Hsq44, grxq44, k_w43⟩
     refine ⟨k_w43.toExt, ?_⟩
     have hm43 : Mem w43 (restOf w0) (Hsq44 ++ ([(b12_1, .cells (cl u8 (List.replicate 32 0)) 23 (0, 0))] ++ (Hsq9 ++ ([(b19, .cells (cl u8 ([])) 5 (0, 0)), (b5, .cells (cl u8 nonce) 25 (0, 0)), (b4, .cells (cl u8 key) 23 (0, 0))])))) := Mem.new (H := [(b12_1, .cells (cl u8 (List.replicate 32 0)) 23 (0, 0))] ++ (Hsq9 ++ ([(b19, .cells (cl u8 ([])) 5 (0, 0)), (b5, .cells (cl u8 nonce) 25 (0, 0)), (b4, .cells (cl u8 key) 23 (0, 0))]))) (H' := Hsq44) hm42 k_w43
     refine dw_x (v := (agg u8 (hmacP ((keysQ [] key (bytesL ⟨#[115, 101, 97, 108]⟩) 2).getD 1 []) (msgP nonce la ((lc.drop (0 : Int).toNat).take (((lc.length : Int) - 32 : Int).toNat - (0 : Int).toNat)))))) rfl rfl (fun w45 _ew45 => OpR.mono (opR_call Tryd.func30 bd30 nm30 (args2 rfl rfl) (c_rhmac (elsl rxq9 (1 : Int) 32) ((keysQ [] key (bytesL ⟨#[115, 101, 97, 108]⟩) 2).getD 1 []) rxq44 (msgP nonce la ((lc.drop (0 : Int).toNat).take (((lc.length : Int) - 32 : Int).toNat - (0 : Int).toNat))) _ (Rd.cast (l' := (keysQ [] key (bytesL ⟨#[115, 101, 97, 108]⟩) 2).getD 1 []) (Rd.elsl (i := (1 : Int)) (gX10.rd (Mem.pick2 Hsq44 [_] Hsq9 _ (hm43.ext _ew45))) sD) rfl) sD (grxq44.rd (hm43.ext _ew45)) sD)) (by rintro _ w46 ⟨rfl, _ew46⟩; exact ⟨rfl, _ew46⟩)) ?_
     refine dw_nil (fun w48 _ew48 => ?_)
     have hm48 := hm43.ext _ew48
     refine rw_n (or_store_agg (f := u8) (l := hmacP ((keysQ [] key (bytesL ⟨#[115, 101, 97, 108]⟩) 2).getD 1 []) (msgP nonce la ((lc.drop (0 : Int).toNat).take (((lc.length : Int) - 32 : Int).toNat - (0 : Int).toNat)))) u8_one ti23 rfl rfl sD ((Mem.pick Hsq44 [_] _ hm48)).h0 sZ rfl) ?_
     rintro _ w49 uq49
     have hm49 : Mem w49 (restOf w0) ([(b12_1, .cells (cl u8 (hmacP ((keysQ [] key (bytesL ⟨#[115, 101, 97, 108]⟩) 2).getD 1 []) (msgP nonce la ((lc.drop (0 : Int).toNat).take (((lc.length : Int) - 32 : Int).toNat - (0 : Int).toNat))))) 23 (0, 0))] ++ (Hsq44 ++ (Hsq9 ++ ([(b19, .cells (cl u8 ([])) 5 (0, 0)), (b5, .cells (cl u8 nonce) 25 (0, 0)), (b4, .cells (cl u8 key) 23 (0, 0))])))) := Mem.upd0 (Mem.pick Hsq44 [_] _ hm48) uq49
     refine rw_nil (kThen_normal ?_)
     have hm50 := Mem.drop Hsq44 _ (Mem.pick [_] Hsq44 _ hm49)
     have hm51 := Mem.drop ([(b19, .cells (cl u8 ([])) 5 (0, 0))]) _ (Mem.pick2 [_] Hsq9 [_] _ hm50)
     refine CW.abs (fun g => g 0 = (agg u8 key) ∧ g 1 = (agg u8 nonce) ∧ g 2 = va ∧ g 3 = vc ∧ g 4 = (ptr b4 0) ∧ g 5 = (ptr b5 0) ∧ g 8 = (Value.slice none 0 0) ∧ g 9 = (i64 0) ∧ g 10 = (i64 ((lc.length : Int) - 32)) ∧ g 11 = rxq9 ∧ g 12 = (ptr b12_1 0) ∧ g 15 = (bl (decide ((lc.length : Int) < 32))) ∧ True) ⟨s0, s1, s2, s3, s4, s5, s8, s9, s10, rfl, rfl, s15, trivial⟩ ?_
     rintro fr52 ⟨s0, s1, s2, s3, s4, s5, s8, s9, s10, s11, s12, s15, _⟩
     refine cw_seq (cw_seq ?_)
     refine cw_draw [(0, false), (1, false), (2, false), (3, false)] 4 (by kernel_rfl) <| dw_q rfl rfl (fun _ _hx => ev_slice_sla (i := 0) (j := 32) uT23 ti5 s12 (optI_none _ _) (optI_none _ _) oM sD sD) <| dM rfl rfl s3 <| dM rfl rfl s10 <| dw_q rfl rfl (fun _ _hx => ev_slice_rd (i := (lc.length : Int) - 32) (j := (lc.length : Int)) (Rd.ofRest hrc (hm51.ext _hx)) uT26 ti5 rfl (optI_some (k := .i64) (i := (lc.length : Int) - 32) rfl) (optI_none _ _) oM sD sD) ?_
     refine dw_nil (fun w53 _ew53 => ?_)
     have hm53 := hm51.ext _ew53
     refine rw_c rfl (opR_call Tryd.func14 bd14 nm14 (args2 rfl rfl) (c_same (sla b12_1 0 1 0 32 32) (subv vc ((lc.length : Int) - 32) (lc.length : Int)) (hmacP ((keysQ [] key (bytesL ⟨#[115, 101, 97, 108]⟩) 2).getD 1 []) (msgP nonce la ((lc.drop (0 : Int).toNat).take (((lc.length : Int) - 32 : Int).toNat - (0 : Int).toNat)))) ((lc.drop ((lc.length : Int) - 32 : Int).toNat).take (((lc.length : Int) : Int).toNat - ((lc.length : Int) - 32 : Int).toNat)) _ (Rd.slaAll hm53.h0 sD) (Rd.cast (l' := (lc.drop ((lc.length : Int) - 32 : Int).toNat).take (((lc.length : Int) : Int).toNat - ((lc.length : Int) - 32 : Int).toNat)) (Rd.sub (Rd.ofRest hrc hm53) oM sD sD) rfl) sD)) ?_
     rintro _ w54 ⟨rfl, _ew54⟩
     have hm54 := hm53.ext _ew54
     refine rw_q rfl (ev_not rfl) ?_
     refine rw_nil (kThen_normal ?_)
     refine cw_cond rfl (fun hc56 => ?_) (fun hc56 => ?_)
     · -- true
       have hc56n : ((hmacP ((keysQ [] key (bytesL ⟨#[115, 101, 97, 108]⟩) 2).getD 1 []) (msgP nonce la ((lc.drop (0 : Int).toNat).take (((lc.length : Int) - 32 : Int).toNat - (0 : Int).toNat)))) == ((lc.drop ((lc.length : Int) - 32 : Int).toNat).take (((lc.length : Int) : Int).toNat - ((lc.length : Int) - 32 : Int).toNat))) = false := by simpa using hc56
       have hc56p := ne_of_beq_false hc56n
       refine cw_seq (cw_region ?_)
       refine rw_q rfl (ev_assign (v := (Value.slice none 0 0)) rfl) <| rw_q rfl (ev_assign (v := (i64 10)) rfl) ?_
       refine rw_nil (kThen_normal (cw_ret (kThen_ret ?_)))
       refine fnPost_ret [(Value.slice none 0 0), (i64 10)] ⟨rfl, rfl, trivial⟩ ?_
       have hm57 := Mem.drop ([(b12_1, .cells (cl u8 (hmacP ((keysQ [] key (bytesL ⟨#[115, 101, 97, 108]⟩) 2).getD 1 []) (msgP nonce la ((lc.drop (0 : Int).toNat).take (((lc.length : Int) - 32 : Int).toNat - (0 : Int).toNat))))) 23 (0, 0))]) _ hm54
       have hm58 := Mem.drop Hsq9 _ hm57
       have hm59 := Mem.drop ([(b5, .cells (cl u8 nonce) 25 (0, 0))]) _ hm58
       have hm60 := Mem.drop ([(b4, .cells (cl u8 key) 23 (0, 0))]) _ hm59
       have hrt : rightP key nonce la lc = false := by
         unfold rightP tagP; rw [← front_sub oM, ← back_sub oM]
         first | simpa [joinL_one1] using hc56 | (simp only [keyM]; simpa [joinL_one1] using hc56)
       exact ⟨(Value.slice none 0 0), [], by rw [errO_told oM hrt]; rfl, by rw [openQ_told oM hrt]; exact (Grow.none _ _), by simpa using hm60⟩
     · -- false
       have hc56n : ((hmacP ((keysQ [] key (bytesL ⟨#[115, 101, 97, 108]⟩) 2).getD 1 []) (msgP nonce la ((lc.drop (0 : Int).toNat).take (((lc.length : Int) - 32 : Int).toNat - (0 : Int).toNat)))) == ((lc.drop ((lc.length : Int) - 32 : Int).toNat).take (((lc.length : Int) : Int).toNat - ((lc.length : Int) - 32 : Int).toNat))) = true := by simpa using hc56
       have hc56p := eq_of_beq hc56n
       refine cw_skip (kThen_normal (cw_seq ?_))
       refine cw_draw [(0, false), (1, false), (2, false), (3, false), (4, false), (5, false), (6, false)] 7 (by kernel_rfl) <| dM rfl rfl s11 <| dw_q rfl rfl (fun _ _hx => ev_indexAddr_rk (i := 0) (gX10.rd (Mem.pick [_] Hsq9 _ (hm54.ext _hx))) uT57 ti23 rfl rfl oM sD) <| dw_q (v := (agg u8 ((keysQ [] key (bytesL ⟨#[115, 101, 97, 108]⟩) 2).getD 0 []))) rfl rfl (fun _ _hx => ev_load_rka (i := (0 : Int)) (gX10.rd (Mem.pick [_] Hsq9 _ (hm54.ext _hx))) sD uT23 ti23 rfl rfl) <| dw_q (v := (agg u8 nonce)) rfl rfl (fun _ _hx => ev_loadA uT25 rfl ti25 s5 ((Mem.pick2 [_] Hsq9 [_] _ (hm54.ext _hx))).h0 sZ) <| dM rfl rfl s3 ?_
       refine dM rfl rfl s10 <| dw_q rfl rfl (fun _ _hx => ev_slice_rd (i := 0) (j := (lc.length : Int) - 32) (Rd.ofRest hrc (hm54.ext _hx)) uT26 ti5 rfl (optI_none _ _) (optI_some (k := .i64) (i := (lc.length : Int) - 32) rfl) oM sD sD) ?_
       refine dw_nil (fun w61 _ew61 => ?_)
       have hm61 := hm54.ext _ew61
       refine rw_c rfl (opR_call Tryd.func31 bd31 nm31 (args4 rfl rfl rfl rfl) (c_turn3 ((keysQ [] key (bytesL ⟨#[115, 101, 97, 108]⟩) 2).getD 0 []) 1#32 nonce (subv vc 0 ((lc.length : Int) - 32)) ((lc.drop (0 : Int).toNat).take (((lc.length : Int) - 32 : Int).toNat - (0 : Int).toNat)) _ sD sD (Rd.cast (l' := (lc.drop (0 : Int).toNat).take (((lc.length : Int) - 32 : Int).toNat - (0 : Int).toNat)) (Rd.sub (Rd.ofRest hrc hm61) oM sD sD) rfl) sD)) ?_
       rintro rq63 w62 ⟨Hsq63, grq63, k_w62⟩
       have hm62 : Mem w62 (restOf w0) (Hsq63 ++ ([(b12_1, .cells (cl u8 (hmacP ((keysQ [] key (bytesL ⟨#[115, 101, 97, 108]⟩) 2).getD 1 []) (msgP nonce la ((lc.drop (0 : Int).toNat).take (((lc.length : Int) - 32 : Int).toNat - (0 : Int).toNat))))) 23 (0, 0))] ++ (Hsq9 ++ ([(b5, .cells (cl u8 nonce) 25 (0, 0)), (b4, .cells (cl u8 key) 23 (0, 0))])))) := Mem.new (H := [(b12_1, .cells (cl u8 (hmacP ((keysQ [] key (bytesL ⟨#[115, 101, 97, 108]⟩) 2).getD 1 []) (msgP nonce la ((lc.drop (0 : Int).toNat).take (((lc.length : Int) - 32 : Int).toNat - (0 : Int).toNat))))) 23 (0, 0))] ++ (Hsq9 ++ ([(b5, .cells (cl u8 nonce) 25 (0, 0)), (b4, .cells (cl u8 key) 23 (0, 0))]))) (H' := Hsq63) hm61 k_w62
       refine rA rfl (v := rq63) rfl <| rw_q rfl (ev_assign (v := (i64 0)) rfl) ?_
       refine rw_nil (kThen_normal ?_)
       refine CW.abs (fun g => g 0 = (agg u8 key) ∧ g 1 = (agg u8 nonce) ∧ g 2 = va ∧ g 3 = vc ∧ g 4 = (ptr b4 0) ∧ g 5 = (ptr b5 0) ∧ g 8 = rq63 ∧ g 9 = (i64 0) ∧ g 10 = (i64 ((lc.length : Int) - 32)) ∧ g 11 = rxq9 ∧ g 12 = (ptr b12_1 0) ∧ g 15 = (bl (decide ((lc.length : Int) < 32))) ∧ g 37 = (bl (!((hmacP ((keysQ [] key (bytesL ⟨#[115, 101, 97, 108]⟩) 2).getD 1 []) (msgP nonce la ((lc.drop (0 : Int).toNat).take (((lc.length : Int) - 32 : Int).toNat - (0 : Int).toNat)))) == ((lc.drop ((lc.length : Int) - 32 : Int).toNat).take (((lc.length : Int) : Int).toNat - ((lc.length : Int) - 32 : Int).toNat))))) ∧ True) ⟨s0, s1, s2, s3, s4, s5, rfl, rfl, s10, s11, s12, s15, rfl, trivial⟩ ?_
       rintro fr64 ⟨s0, s1, s2, s3, s4, s5, s8, s9, s10, s11, s12, s15, s37, _⟩
       refine cw_ret <| fnPost_ret [rq63, (i64 0)] ⟨s8, s9, trivial⟩ ?_
       have hm65 := Mem.drop ([(b12_1, .cells (cl u8 (hmacP ((keysQ [] key (bytesL ⟨#[115, 101, 97, 108]⟩) 2).getD 1 []) (msgP nonce la ((lc.drop (0 : Int).toNat).take (((lc.length : Int) - 32 : Int).toNat - (0 : Int).toNat))))) 23 (0, 0))]) _ (Mem.pick Hsq63 [_] _ hm62)
       have hm66 := Mem.drop Hsq9 _ (Mem.pick Hsq63 Hsq9 _ hm65)
       have hm67 := Mem.drop ([(b5, .cells (cl u8 nonce) 25 (0, 0))]) _ (Mem.pick Hsq63 [_] _ hm66)
       have hm68 := Mem.drop ([(b4, .cells (cl u8 key) 23 (0, 0))]) _ (Mem.pick Hsq63 [_] _ hm67)
       have hrt : rightP key nonce la lc = true := by
         unfold rightP tagP; rw [← front_sub oM, ← back_sub oM]
         first | simpa [joinL_one1] using hc56 | (simp only [keyM]; simpa [joinL_one1] using hc56)
       have hfin : turnP blockR ((keysQ [] key (bytesL ⟨#[115, 101, 97, 108]⟩) 2).getD 0 []) 1#32 nonce ((lc.drop (0 : Int).toNat).take (((lc.length : Int) - 32 : Int).toNat - (0 : Int).toNat)) = cipherP key nonce (frontP lc) := by rw [← front_sub oM]; first | rfl | (rw [← cipherR]; simp only [chunks_keys, keyT])
       exact ⟨rq63, Hsq63, by rw [errO_told oM hrt]; rfl, by rw [openQ_told oM hrt]; show Grow _ _ _ (cipherP key nonce (frontP lc)) _; exact hfin ▸ grq63, by simpa using hm68⟩


end Go.Proofs.YtmiagmbgfhakgaaDoor

