/- Contract: a store opened. Conditions: none beyond those that each theorem states. -/
import Derived.Test.YtfbnhoolkajebaaSoC
namespace Go.Proofs.Ytfbnhoolkajebaa
set_option linter.unusedVariables false
set_option linter.unusedSimpArgs false
theorem MapG.castS {m0 : Nat → Option Obj} {b : Nat} {S S' : List KV} {Hs : List (Nat × Obj)} (h : MapG m0 b S Hs) (e : S = S') : MapG m0 b S' Hs := e ▸ h
theorem openK_0 {L : List (List (BitVec 8))} : [] = openK L 0 := rfl
theorem openK_S {L : List (List (BitVec 8))} {k : Nat} : doO (openK L k) (decV (L.getD k [])) = openK L (k + 1) := rfl
theorem openS_K {L : List (List (BitVec 8))} : openK L L.length = openS L := rfl
attribute [local irreducible] crashB crashK pushB readB inB errB cutN seenW
attribute [local irreducible] markB putB getB getK partB placeF blkOf rawB writeK blocksN
attribute [local irreducible] mostK newB roomB
attribute [local irreducible] recB recF recN genF badB lastP dataB gOf rOf pOf nOf loopH readH
attribute [local irreducible] okP layK turnL turnP oldB
attribute [local irreducible] openD
attribute [local irreducible] natB tkN tkOk kN vN_ oneOk oneR decF decP decV decE rightB encK recP num2 num4 allR goneB encV encE encL encS doO openK openS okS
set_option maxHeartbeats 2000000 in
theorem c_sopen (bd : Nat) (vl : Value) (Ls : List (List (BitVec 8))) (Hl : List (Nat × Obj)) (fr2 hh : Nat) (LW : List (List (BitVec 8))) (w0 : World) (R : Rest) (hm0 : Mem w0 R ([(bd, .cells #[vl, (Value.slice none 0 0)] 94 (0, 0))] ++ (Hl ++ ([])))) (gl : GrowK (encA u8) 64 83 vl Ls Hl) (hob : (oldB Ls []).2 = LW) (hfr : (Ls.length : Int) / 2 - (oldB Ls []).1 = (fr2 : Int)) (hJ2 : JI (openD Ls []) fr2 hh (newB Ls []) LW) (hnew : (newB Ls [] == 0#64) = false) (hok : okS LW = true) (h4 : 4 ≤ Ls.length ∧ Ls.length ≤ 4000) : CallsR Try.prog 39 #[(ptr bd 0)] w0 (fun r w1 => ∃ bs bj b Hm vr rs Hr Hl2, r = .tuple #[ptr bs 0, i64 0] ∧ MapG mN b (openS LW) Hm ∧ rs.map (·.2) = LW ∧ GrowL mN 23 vr rs Hr ∧ GrowK (encA u8) 64 83 vl (openD Ls []) Hl2 ∧ Mem w1 R ([(bs, .cells #[(ptr bj 0), (Value.map (some b))] 118 (0, 0))] ++ (Hm ++ ([(bj, .cells #[(ptr bd 0), (i64 (fr2 : Int)), (i64 (hh : Int)), (u64 (newB Ls [])), vr, (i64 (roomB LW : Int))] 100 (0, 0))] ++ (Hr ++ ([(bd, .cells #[vl, (Value.slice none 0 0)] 94 (0, 0))] ++ (Hl2 ++ ([])))))))) := by
 refine callsR_of_cw (args := [(ptr bd 0)]) Try.func39 rfl Try.ntmps39 Try.results39 rfl ?_
 have hel := hJ2.el
 have hodl : (openD Ls []).length = Ls.length := openD_len
 have hJl := hJ2.len; have hJr := hJ2.room; have hJh := hJ2.half; have hJs := hJ2.small; have hrml := room_len (L := LW)
 refine sR <| rw_q rfl (ev_assign (v := (Value.pointer none)) rfl) <| rw_q rfl (ev_assign (v := (i64 0)) rfl) ?_
 refine rN (sR ?_)
 refine rw_q rfl (ev_move (v := (ptr bd 0)) rfl) ?_
 have hF2 : Mem w0 R (([(bd, .cells #[vl, (Value.slice none 0 0)] 94 (0, 0))] ++ (Hl ++ ([] ++ ([])))) ++ ([])) := by
   have hT := (Mem.pick Hl [_] _ (Mem.pick [_] Hl _ hm0))
   try simp only [List.append_assoc, List.cons_append, List.nil_append, List.append_nil] at hT ⊢
   exact hT
 refine rw_c rfl (opR_call Try.func14 bd14 nm14 (args1 rfl) (c_jopen bd vl Ls Hl (Value.slice none 0 0) ([]) ([]) _ _ (Mem.give hF2) gl (GrowK.none encW 65 104) sL sL okP_nil hnew)) ?_
 rintro _ w1 ⟨bnq3, vrq3, rsq3, Hrq3, Hl2q3, rfl, hMq3, hLq3, grq3, gl2q3, k_w1⟩
 have hm1 : Mem w1 R ([(bnq3, .cells #[(ptr bd 0), (i64 (((Ls.length : Int) / 2) - (oldB Ls ([])).1)), (i64 ((Ls.length : Int) / 2)), (u64 (newB Ls ([]))), vrq3, (i64 (roomB (oldB Ls ([])).2 : Int))] 100 (0, 0))] ++ (Hrq3 ++ ([(bd, .cells #[vl, (Value.slice none 0 0)] 94 (0, 0))] ++ (Hl2q3 ++ ([]))))) := (by
   have hT := Mem.back hF2 k_w1
   try simp only [List.append_assoc, List.cons_append, List.nil_append, List.append_nil] at hT ⊢
   exact hT)
 refine rw_q rfl (ev_move (v := (Value.tuple #[(ptr bnq3 0), (i64 0)])) rfl) ?_
 have hMr : rsq3.map (·.2) = LW := by rw [hMq3, hob]
 have hlr := congrArg List.length hMr; rw [List.length_map] at hlr
 have hm4 : Mem w1 R ([(bnq3, .cells #[(ptr bd 0), (i64 (fr2 : Int)), (i64 ((Ls.length : Int) / 2)), (u64 (newB Ls ([]))), vrq3, (i64 (roomB (oldB Ls ([])).2 : Int))] 100 (0, 0))] ++ (Hrq3 ++ ([(bd, .cells #[vl, (Value.slice none 0 0)] 94 (0, 0))] ++ (Hl2q3 ++ ([]))))) := by rw [← hfr]; exact hm1
 have hm5 : Mem w1 R ([(bnq3, .cells #[(ptr bd 0), (i64 (fr2 : Int)), (i64 (hh : Int)), (u64 (newB Ls ([]))), vrq3, (i64 (roomB (oldB Ls ([])).2 : Int))] 100 (0, 0))] ++ (Hrq3 ++ ([(bd, .cells #[vl, (Value.slice none 0 0)] 94 (0, 0))] ++ (Hl2q3 ++ ([]))))) := by rw [show (hh : Int) = (Ls.length : Int) / 2 by omega]; exact hm4
 have hm6 : Mem w1 R ([(bnq3, .cells #[(ptr bd 0), (i64 (fr2 : Int)), (i64 (hh : Int)), (u64 (newB Ls ([]))), vrq3, (i64 (roomB LW : Int))] 100 (0, 0))] ++ (Hrq3 ++ ([(bd, .cells #[vl, (Value.slice none 0 0)] 94 (0, 0))] ++ (Hl2q3 ++ ([]))))) := by rw [show (roomB LW : Int) = (roomB (oldB Ls []).2 : Int) by rw [hob]]; exact hm5
 refine rw_q (v := (ptr bnq3 0)) rfl (ev_extract rfl rfl) <| rw_q (v := (i64 0)) rfl (ev_extract rfl rfl) <| rw_q rfl (ev_assign (v := (ptr bnq3 0)) rfl) <| rw_q rfl (ev_assign (v := (i64 0)) rfl) ?_
 refine rN (cw_seq (sR ?_))
 refine rw_q rfl (ev_move (v := (i64 0)) rfl) <| rw_q rfl (ev_i64_neq (b := 0) rfl rfl) <| rN ?_
 have hd7 : (0 != 0) = false := told_ne rfl
 refine cw_cond_f rfl hd7 ?_
 refine cw_skip (kThen_normal (sR ?_))
 refine rw_q rfl (ev_move (v := (ptr bnq3 0)) rfl) <| rw_c rfl (or_makeMapG hm6) ?_
 rintro _ w8 ⟨b20, Hs8, rfl, _ew8, hm8, hG8⟩
 refine rw_q rfl (ev_build_pt (c := #[(ptr bnq3 0), (Value.map (some b20))]) (pl := [(0, 1), (1, 1)]) ti118 uT118 (by kernel_rfl) (pm_cons (i := 0) (v := (ptr bnq3 0)) (cs := #[(ptr bnq3 0)]) rfl rfl (pm_cons (i := 1) (v := (Value.map (some b20))) (cs := #[(Value.map (some b20))]) rfl rfl pm_nil)) (by kernel_rfl)) <| rw_c rfl (or_boxX (cs := #[(ptr bnq3 0), (Value.map (some b20))]) hm8 rfl) ?_
 rintro _ w9 ⟨b22, rfl, _ew9, hm9⟩
 refine rw_q rfl (ev_assign (v := (ptr b22 0)) rfl) ?_
 refine rN (cw_seq (sR ?_))
 refine rw_q rfl (ev_move (v := (ptr bnq3 0)) rfl) <| rw_c rfl (opR_call Try.func19 bd19 nm19 (args1 rfl) (c_jrecords bnq3 bd (fr2 : Int) (hh : Int) (newB Ls ([])) vrq3 rsq3 (roomB LW : Int) _ ((Mem.pick2 [_] Hs8 [_] _ hm9)).h0 (GrowL.rd grq3 (Mem.pick3 [_] Hs8 [_] Hrq3 _ hm9) nN) sL (map_el hMr (P := fun b => b.length ≤ 35184372088832) (fun b hb => by have := hel b hb; omega)))) ?_
 rintro rq11 w10 ⟨ls2q11, Hsq11, hMq11, hLq11, grq11, k_w10⟩
 have hm10 : Mem w10 R (Hsq11 ++ ([(b22, .cells #[(ptr bnq3 0), (Value.map (some b20))] 118 (0, 0))] ++ (Hs8 ++ ([(bnq3, .cells #[(ptr bd 0), (i64 (fr2 : Int)), (i64 (hh : Int)), (u64 (newB Ls ([]))), vrq3, (i64 (roomB LW : Int))] 100 (0, 0))] ++ (Hrq3 ++ ([(bd, .cells #[vl, (Value.slice none 0 0)] 94 (0, 0))] ++ (Hl2q3 ++ ([])))))))) := Mem.new (H := [(b22, .cells #[(ptr bnq3 0), (Value.map (some b20))] 118 (0, 0))] ++ (Hs8 ++ ([(bnq3, .cells #[(ptr bd 0), (i64 (fr2 : Int)), (i64 (hh : Int)), (u64 (newB Ls ([]))), vrq3, (i64 (roomB LW : Int))] 100 (0, 0))] ++ (Hrq3 ++ ([(bd, .cells #[vl, (Value.slice none 0 0)] 94 (0, 0))] ++ (Hl2q3 ++ ([]))))))) (H' := Hsq11) hm9 k_w10
 have hMl : ls2q11.map (·.2) = LW := by rw [hMq11, hMr]
 have hll := congrArg List.length hMl; rw [List.length_map] at hll
 refine rw_q (v := (i64 (ls2q11.length : Int))) rfl (ev_len_rd (RdL.row (GrowL.rd grq11 hm10 nN)) uT22 rfl) <| rw_q rfl (ev_move (v := (i64 0)) rfl) <| rN ?_
 refine CW.abs (fun g => g 0 = (ptr bd 0) ∧ g 2 = (Value.pointer none) ∧ g 3 = (i64 0) ∧ g 4 = (ptr bnq3 0) ∧ g 5 = (i64 0) ∧ g 6 = (ptr b22 0) ∧ g 17 = (bl (0 != 0)) ∧ g 24 = rq11 ∧ g 25 = (i64 (ls2q11.length : Int)) ∧ g 26 = (i64 0) ∧ True) ⟨rfl, rfl, rfl, rfl, rfl, rfl, rfl, rfl, rfl, rfl, trivial⟩ ?_
 rintro fr12 ⟨s0, s2, s3, s4, s5, s6, s17, s24, s25, s26, _⟩
 refine cw_block ?_
 refine cw_loop (fun g wv => ∃ (k : Nat) (Hm1 : List (Nat × Obj)), (k ≤ LW.length) ∧ (MapG mN b20 (openK LW k) Hm1) ∧ g 0 = (ptr bd 0) ∧ g 4 = (ptr bnq3 0) ∧ g 5 = (i64 0) ∧ g 6 = (ptr b22 0) ∧ g 17 = (bl (0 != 0)) ∧ g 24 = rq11 ∧ g 25 = (i64 (ls2q11.length : Int)) ∧ g 26 = (i64 (k : Int)) ∧ Mem wv R ([(b22, .cells #[(ptr bnq3 0), (Value.map (some b20))] 118 (0, 0))] ++ (Hm1 ++ ([(bnq3, .cells #[(ptr bd 0), (i64 (fr2 : Int)), (i64 (hh : Int)), (u64 (newB Ls ([]))), vrq3, (i64 (roomB LW : Int))] 100 (0, 0))] ++ (Hrq3 ++ ([(bd, .cells #[vl, (Value.slice none 0 0)] 94 (0, 0))] ++ (Hl2q3 ++ (Hsq11 ++ ([]))))))))) (fun g wv => ((ls2q11.length : Int) - RowKit.intOf (g 26)).toNat) ?_ ?_
 have hm13 := (Mem.pick6 Hsq11 [_] Hs8 [_] Hrq3 [_] Hl2q3 _ hm10)
 have hm14 := (Mem.pick6 Hl2q3 Hsq11 [_] Hs8 [_] Hrq3 [_] _ hm13)
 have hm15 := (Mem.pick6 [_] Hl2q3 Hsq11 [_] Hs8 [_] Hrq3 _ hm14)
 have hm16 := (Mem.pick6 Hrq3 [_] Hl2q3 Hsq11 [_] Hs8 [_] _ hm15)
 have hm17 := (Mem.pick6 [_] Hrq3 [_] Hl2q3 Hsq11 [_] Hs8 _ hm16)
 have hm18 := (Mem.pick6 Hs8 [_] Hrq3 [_] Hl2q3 Hsq11 [_] _ hm17)
 · exact ⟨0, Hs8, (Nat.zero_le _), (MapG.castS hG8 openK_0), s0, s4, s5, s6, s17, s24, s25, s26, (by
   have hT := hm18
   try simp only [List.append_assoc, List.cons_append, List.nil_append, List.append_nil] at hT ⊢
   exact hT)⟩
 · rintro fr19 w20 ⟨k, Hm1, hk, g1, s0, s4, s5, s6, s17, s24, s25, s26, hm20⟩
   have z26 := s26
   refine sR <| rw_q rfl (ev_i64_lss s26 s25) ?_
   refine rN (cw_seq ?_)
   refine cw_cond rfl (fun hc21 => ?_) (fun hc21 => ?_)
   · -- true
     have hc21p := of_decide_eq_true hc21
     have hkW : k < LW.length := by omega
     have hbk : (ls2q11.getD k sl0).2 = LW.getD k [] := snd_getD hMl oM
     have hbl : (ls2q11.getD k sl0).2.length ≤ 84000 := by rw [hbk]; exact hel _ (getD_mem hkW)
     have hdE : decE (ls2q11.getD k sl0).2 = 0 := by rw [hbk]; exact okS_at hok hkW
     refine cw_skip (kThen_normal (cw_seq (cw_block (sR ?_))))
     refine rw_q rfl (ev_indexAddr_rdv (RdL.row (GrowL.rd grq11 (Mem.pick6 [_] Hm1 [_] Hrq3 [_] Hl2q3 Hsq11 _ hm20) nN)) uT22 ti23 s24 s26 oM sL) <| rw_q (v := (slv (ls2q11.getD k sl0))) rfl (ev_load_rdD (l := ls2q11) (i := (k : Int)) (dflt := sl0) (RdL.row (GrowL.rd grq11 (Mem.pick6 [_] Hm1 [_] Hrq3 [_] Hl2q3 Hsq11 _ hm20) nN)) uT23 rfl oM sL rfl) <| rw_q rfl (ev_assign (v := (slv (ls2q11.getD k sl0))) rfl) ?_
     refine rN (sR ?_)
     refine rw_q rfl (ev_move (v := (slv (ls2q11.getD k sl0))) rfl) <| rw_c rfl (opR_call Try.func34 bd34 nm34 (args1 rfl) (c_sdecode (slv (ls2q11.getD k sl0)) ((ls2q11.getD k sl0).2) _ (RdL.get (k := k) (GrowL.rd grq11 (Mem.pick6 [_] Hm1 [_] Hrq3 [_] Hl2q3 Hsq11 _ hm20) nN) sL) sL)) ?_
     rintro _ w22 ⟨vq23, psq23, Hoq23, Heq23, rfl, hMq23, grq23, heq23, k_w22⟩
     have hm22 : Mem w22 R (Hoq23 ++ (Heq23 ++ ([(b22, .cells #[(ptr bnq3 0), (Value.map (some b20))] 118 (0, 0))] ++ (Hm1 ++ ([(bnq3, .cells #[(ptr bd 0), (i64 (fr2 : Int)), (i64 (hh : Int)), (u64 (newB Ls ([]))), vrq3, (i64 (roomB LW : Int))] 100 (0, 0))] ++ (Hrq3 ++ ([(bd, .cells #[vl, (Value.slice none 0 0)] 94 (0, 0))] ++ (Hl2q3 ++ (Hsq11 ++ ([])))))))))) := (by
       have hT := Mem.new (H := [(b22, .cells #[(ptr bnq3 0), (Value.map (some b20))] 118 (0, 0))] ++ (Hm1 ++ ([(bnq3, .cells #[(ptr bd 0), (i64 (fr2 : Int)), (i64 (hh : Int)), (u64 (newB Ls ([]))), vrq3, (i64 (roomB LW : Int))] 100 (0, 0))] ++ (Hrq3 ++ ([(bd, .cells #[vl, (Value.slice none 0 0)] 94 (0, 0))] ++ (Hl2q3 ++ (Hsq11 ++ ([])))))))) (H' := _) hm20 k_w22
       try simp only [List.append_assoc, List.cons_append, List.nil_append, List.append_nil] at hT ⊢
       exact hT)
     refine rw_q rfl (ev_move (v := (Value.tuple #[vq23, (i64 (decE ((ls2q11.getD k sl0).2)))])) rfl) <| rw_q (v := vq23) rfl (ev_extract rfl rfl) <| rw_q (v := (i64 (decE ((ls2q11.getD k sl0).2)))) rfl (ev_extract rfl rfl) <| rA rfl (v := vq23) rfl <| rw_q rfl (ev_assign (v := (i64 (decE ((ls2q11.getD k sl0).2)))) rfl) ?_
     refine rN (cw_seq (sR ?_))
     refine rw_q rfl (ev_move (v := (i64 (decE ((ls2q11.getD k sl0).2)))) rfl) <| rw_q rfl (ev_i64_neq (b := 0) rfl rfl) <| rN ?_
     have hd24 : ((decE ((ls2q11.getD k sl0).2)) != 0) = false := bne_eq_false_iff_eq.2 hdE
     refine cw_cond_f rfl hd24 ?_
     refine cw_skip (kThen_normal ?_)
     have hos := ones_small (b := (ls2q11.getD k sl0).2) hMq23 oM
     refine cw_region <| rM rfl s6 <| rw_q rfl (ev_nilCheck rfl) <| rw_q rfl (ev_fa (r := 1) uT118 rfl (by first | rfl | omega) ti116 rfl rfl) <| rw_q (v := (Value.map (some b20))) rfl (ev_load1 uT116 rfl rfl ((Mem.pick2 Hoq23 Heq23 [_] _ hm22)).h0 rfl) <| rM rfl (v := vq23) rfl ?_
     have hF26 : Mem w22 R ((Hm1 ++ ([])) ++ (Hoq23 ++ (Heq23 ++ ([(b22, .cells #[(ptr bnq3 0), (Value.map (some b20))] 118 (0, 0)), (bnq3, .cells #[(ptr bd 0), (i64 (fr2 : Int)), (i64 (hh : Int)), (u64 (newB Ls ([]))), vrq3, (i64 (roomB LW : Int))] 100 (0, 0))] ++ (Hrq3 ++ ([(bd, .cells #[vl, (Value.slice none 0 0)] 94 (0, 0))] ++ (Hl2q3 ++ (Hsq11 ++ ([]))))))))) := by
       have hT := (Mem.pick3 Hoq23 Heq23 [_] Hm1 _ hm22)
       try simp only [List.append_assoc, List.cons_append, List.nil_append, List.append_nil] at hT ⊢
       exact hT
     refine rw_c rfl (opR_call Try.func62 bd62 nm62 (args2 rfl rfl) (c_sdo mN b20 (openK LW k) Hm1 vq23 psq23 _ _ (Mem.give hF26) g1 (grq23.rdAdd hF26 (fun p hp => (List.mem_append_left _ hp))) (fun a ha => heq23 a ha _ (fun q hq => Mem.addOwn hF26 (List.mem_append_right _ (List.mem_append_left _ hq)))) sL hos.1)) ?_
     rintro _ w25 ⟨H2q27, rfl, g2q27, k_w25⟩
     have hm25 : Mem w25 R (H2q27 ++ (Hoq23 ++ (Heq23 ++ ([(b22, .cells #[(ptr bnq3 0), (Value.map (some b20))] 118 (0, 0)), (bnq3, .cells #[(ptr bd 0), (i64 (fr2 : Int)), (i64 (hh : Int)), (u64 (newB Ls ([]))), vrq3, (i64 (roomB LW : Int))] 100 (0, 0))] ++ (Hrq3 ++ ([(bd, .cells #[vl, (Value.slice none 0 0)] 94 (0, 0))] ++ (Hl2q3 ++ (Hsq11 ++ ([]))))))))) := (by
       have hT := Mem.back hF26 k_w25
       try simp only [List.append_assoc, List.cons_append, List.nil_append, List.append_nil] at hT ⊢
       exact hT)
     refine rw_nil (kBlk_normal ?_)
     refine CW.abs (fun g => g 0 = (ptr bd 0) ∧ g 4 = (ptr bnq3 0) ∧ g 5 = (i64 0) ∧ g 6 = (ptr b22 0) ∧ g 8 = (slv (ls2q11.getD k sl0)) ∧ g 9 = vq23 ∧ g 10 = (i64 (decE ((ls2q11.getD k sl0).2))) ∧ g 17 = (bl (0 != 0)) ∧ g 24 = rq11 ∧ g 25 = (i64 (ls2q11.length : Int)) ∧ g 26 = (i64 (k : Int)) ∧ g 27 = (bl (decide ((k : Int) < (ls2q11.length : Int)))) ∧ g 36 = (bl ((decE ((ls2q11.getD k sl0).2)) != 0)) ∧ True) ⟨s0, s4, s5, s6, rfl, rfl, rfl, s17, s24, s25, s26, rfl, rfl, trivial⟩ ?_
     rintro fr28 ⟨s0, s4, s5, s6, s8, s9, s10, s17, s24, s25, s26, s27, s36, _⟩
     refine cw_region <| rw_q rfl (ev_i64_add (b := 1) s26 rfl oM oM) <| rw_q rfl (ev_move (v := (i64 ((k : Int) + 1))) rfl) <| rN ?_
     have hm29 := Mem.drop Hoq23 _ (Mem.pick H2q27 Hoq23 _ hm25)
     have hm30 := Mem.drop Heq23 _ (Mem.pick H2q27 Heq23 _ hm29)
     have hm31 := (Mem.pick5 H2q27 [_, _] Hrq3 [_] Hl2q3 Hsq11 _ hm30)
     have hm32 := (Mem.pick5 Hsq11 H2q27 [_, _] Hrq3 [_] Hl2q3 _ hm31)
     have hm33 := (Mem.pick5 Hl2q3 Hsq11 H2q27 [_, _] Hrq3 [_] _ hm32)
     have hm34 := (Mem.pick5 [_] Hl2q3 Hsq11 H2q27 [_, _] Hrq3 _ hm33)
     have hm35 := (Mem.pick6 Hrq3 [_] Hl2q3 Hsq11 H2q27 [_] [_] _ hm34)
     have hm36 := (Mem.pick5 [_] Hrq3 [_] Hl2q3 Hsq11 H2q27 _ hm35)
     have hm37 := (Mem.pick6 H2q27 [_] Hrq3 [_] Hl2q3 Hsq11 [_] _ hm36)
     exact ⟨⟨(k + 1), H2q27, oM, (MapG.castS g2q27 (by rw [doK_all, hMq23, hbk]; exact openK_S)), s0, s4, s5, s6, s17, s24, s25, rfl, (by
       have hT := hm37
       try simp only [List.append_assoc, List.cons_append, List.nil_append, List.append_nil] at hT ⊢
       exact hT)⟩, meas (rfl) z26 oM oM⟩
   · -- false
     have hc21p := of_decide_eq_false hc21
     refine cw_exit ?_
     refine kThen_exit (kThen_exit (kBlk_hit ?_))
     refine sR <| rM rfl s6 <| rw_q rfl (ev_assign (v := (ptr b22 0)) rfl) <| rw_q rfl (ev_assign (v := (i64 0)) rfl) ?_
     refine rN (cw_ret ?_)
     refine fnPost_ret [(ptr b22 0), (i64 0)] ⟨rfl, rfl, trivial⟩ ?_
     have hm38 := Mem.drop Hsq11 _ (Mem.pick6 [_] Hm1 [_] Hrq3 [_] Hl2q3 Hsq11 _ hm20)
     have hkl : k = LW.length := by omega
     subst hkl
     exact ⟨b22, bnq3, b20, Hm1, vrq3, rsq3, Hrq3, Hl2q3, rfl, (MapG.castS g1 openS_K), hMr, grq3, gl2q3, (by
       have hT := hm38
       try simp only [List.append_assoc, List.cons_append, List.nil_append, List.append_nil] at hT ⊢
       exact hT)⟩

end Go.Proofs.Ytfbnhoolkajebaa
