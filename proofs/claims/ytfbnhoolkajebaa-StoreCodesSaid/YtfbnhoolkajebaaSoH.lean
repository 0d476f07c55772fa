/- The law of the store's codes: its walk. Conditions: none beyond those that each theorem states. -/
import Derived.Test.YtfbnhoolkajebaaSoG
namespace Go.Proofs.Ytfbnhoolkajebaa
set_option linter.unusedVariables false
set_option linter.unusedSimpArgs false
theorem encK_le {L : List PairT} (h : ∀ i, i < L.length → (L.getD i pair0).key.size ≤ 1100 ∧ (L.getD i pair0).val.2.length ≤ 2000) : ∀ k, k ≤ L.length → (encK L k).length ≤ 3107 * k
  | 0, _ => Nat.le_refl _
  | k + 1, hk => by
    have h1 := encK_le h k oM
    have h2 := h k oM
    have h3 := recP_len (g := (L.getD k pair0).gone) (k := (L.getD k pair0).key) (v := (L.getD k pair0).val.2)
    rw [← encK_S, List.length_append, h3]
    omega
theorem great_len {L : List PairT} (h : L.length ≤ 20 ∧ ∀ i, i < L.length → (L.getD i pair0).key.size ≤ 1100 ∧ (L.getD i pair0).val.2.length ≤ 2000) : (encK L L.length).length ≤ 62140 ∧ (encV L).length ≤ 62140 := by
  have h1 := encK_le h.2 L.length (Nat.le_refl _)
  have h2 := h.1
  refine ⟨by omega, ?_⟩
  unfold encV
  split
  · omega
  · show (0 : Nat) ≤ _; omega
theorem opens_apair : Opens Try.prog 79 (fun w cs => ∃ a : PairT, cs = encP a ∧ (encP a).length = 3 ∧ (Rd (blks w) u8 (slv a.val) a.val.2 ∧ (a.key.size ≤ 9223372036854775807 ∧ a.val.2.length ≤ 9223372036854775807))) :=
  (opens_sx3 (k0 := 1) (k1 := 1) (k2 := 1) uT79 (by kernel_rfl) rfl ⟨rfl, rfl, rfl⟩ ⟨by kernel_rfl, by kernel_rfl, by kernel_rfl⟩ (opens_str uT9) (opens_bytes1 uT23 (by kernel_rfl) (opens_u8 uT5)) (opens_bool uT4)).mono
    (by rintro w cs ⟨c0, c1, c2, rfl, ⟨s0, rfl, hs⟩, ⟨v, rfl, s, rfl, h1, h2⟩, ⟨g, rfl⟩⟩; exact ⟨⟨s0, s, g⟩, by simp [encP], by simp [encP], h1, hs, h2⟩)
attribute [local irreducible] crashB crashK pushB readB inB errB cutN seenW
attribute [local irreducible] markB putB getB getK partB placeF blkOf rawB writeK blocksN
attribute [local irreducible] mostK newB roomB
attribute [local irreducible] recB recF recN genF badB lastP dataB gOf rOf pOf nOf loopH readH
attribute [local irreducible] okP layK turnL turnP oldB
attribute [local irreducible] openD
attribute [local irreducible] natB tkN tkOk kN vN_ oneOk oneR decF decP decV decE rightB encK recP num2 num4 allR goneB encV encE encL encS doO openK openS okS doK commitF lkA keysB
set_option maxHeartbeats 2000000 in
theorem law_scodes (vp : Value) (lp : List PairT) (vb : Value) (b : List (BitVec 8)) (w0 : World)  (hrp : RdK (blks w0) encP 3 vp lp) (hqp : ∀ a ∈ lp, Rd (blks w0) u8 (slv a.val) a.val.2) (hqe : ∀ a ∈ lp, a.key.size ≤ 9223372036854775807 ∧ a.val.2.length ≤ 9223372036854775807) (hlp : lp.length ≤ 9223372036854775807) (hb : Rd (blks w0) u8 vb b) (hbl : b.length ≤ 9223372036854775807) : CallsR Try.prog 6 #[vp, vb] w0 (fun r w1 => r = bl true ∧ RowKit.Below w0.heap.size w0 w1) := by
 refine callsR_of_cw (args := [vp, vb]) Try.func6 rfl Try.ntmps6 Try.results6 rfl ?_
 have hm0 : Mem w0 (restOf w0) [] := Mem.of_world w0
 refine sR <| rw_q rfl (ev_assign (v := (bl false)) rfl) ?_
 refine rN (cw_seq (sR ?_))
 refine rw_c rfl (opR_call Try.func30 bd30 nm30 (args0) (c_speaks16 _)) ?_
 rintro _ w1 ⟨rfl, _ew1⟩
 have hm1 := hm0.ext _ew1
 refine rw_q (v := (bl false)) rfl (ev_not (b := true) rfl) <| rN <| cw_cond_f rfl (by decide) ?_
 refine cw_skip (kThen_normal (cw_seq (sR ?_)))
 refine rM rfl (v := vp) rfl <| rw_c rfl (opR_call Try.func31 bd31 nm31 (args1 rfl) (c_great16 vp lp _ (RdK.ofRest hrp hm1) (fun a h => Rd.ofRest (hqp a h) hm1) sL hqe)) ?_
 rintro _ w3 ⟨gxq4, rfl, hgq4, k_w3⟩
 have hm3 : Mem w3 (restOf w0) [] := Mem.new (H := []) (H' := []) hm1 k_w3
 refine rw_q rfl (ev_move (v := (bl gxq4)) rfl) ?_
 rcases Bool.eq_false_or_eq_true gxq4 with hb5 | hb5
 · -- true
   refine rw_gn (s := 17) rfl rfl hb5 rfl <| rw_gn (s := 17) rfl rfl hb5 rfl <| rw_gn (s := 17) rfl rfl hb5 rfl <| rw_q rfl (ev_pick_tk rfl hb5 rfl) <| rN <| cw_cond_t rfl (by decide) ?_
   refine sR <| rw_q rfl (ev_assign (v := (bl true)) rfl) ?_
   refine rN (cw_ret (kThen_ret ?_))
   refine fnPost_ret [(bl true)] ⟨rfl, trivial⟩ ?_
   exact ⟨rfl, Mem.below w0 hm3⟩
 · -- false
   refine rw_gyq (s := 17) rfl rfl hb5 rfl (ev_move (v := vb) rfl) <| rw_gyq (s := 17) rfl rfl hb5 rfl (ev_len_rd (Rd.ofRest hb hm3) uT23 rfl) <| rw_gyq (s := 17) rfl rfl hb5 rfl (ev_i64_gtr (b := 5000) rfl rfl) <| rw_q rfl (ev_pick_fk rfl hb5 rfl) <| rN ?_
   refine cw_cond rfl (fun hc6 => ?_) (fun hc6 => ?_)
   · -- true
     have hc6p := of_decide_eq_true hc6
     refine sR <| rw_q rfl (ev_assign (v := (bl true)) rfl) ?_
     refine rN (cw_ret (kThen_ret ?_))
     refine fnPost_ret [(bl true)] ⟨rfl, trivial⟩ ?_
     exact ⟨rfl, Mem.below w0 hm3⟩
   · -- false
     have hc6p := of_decide_eq_false hc6
     have hgc := hgq4 hb5
     have hep := smallP_all hgc.2
     have hgl := great_len hgc
     refine cw_skip (kThen_normal (sR ?_))
     refine rM rfl (v := vp) rfl <| rw_c rfl (opR_call Try.func32 bd32 nm32 (args1 rfl) (c_sencode vp lp _ (RdK.ofRest hrp hm3) (fun a h => Rd.ofRest (hqp a h) hm3) sL hep)) ?_
     rintro _ w7 ⟨vq8, Hsq8, rfl, grq8, k_w7⟩
     have hm7 : Mem w7 (restOf w0) (Hsq8 ++ ([])) := Mem.new (H := []) (H' := Hsq8) hm3 k_w7
     refine rw_q rfl (ev_move (v := (Value.tuple #[vq8, (i64 (encE lp))])) rfl) <| rw_q (v := vq8) rfl (ev_extract rfl rfl) <| rw_q (v := (i64 (encE lp))) rfl (ev_extract rfl rfl) <| rA rfl (v := vq8) rfl <| rw_q rfl (ev_assign (v := (i64 (encE lp))) rfl) <| rN ?_
     refine CW.abs (fun g => g 0 = vp ∧ g 1 = vb ∧ g 4 = (bl false) ∧ g 5 = vq8 ∧ g 6 = (i64 (encE lp)) ∧ g 14 = (bl false) ∧ g 21 = (bl (decide (5000 < (b.length : Int)))) ∧ True) ⟨rfl, rfl, rfl, rfl, rfl, rfl, rfl, trivial⟩ ?_
     rintro fr9 ⟨s0, s1, s4, s5, s6, s14, s21, _⟩
     refine sR <| rM rfl s0 <| rw_c rfl (opR_call Try.func33 bd33 nm33 (args1 rfl) (c_rencode16 vp lp _ (RdK.ofRest hrp hm7) (fun a h => Rd.ofRest (hqp a h) hm7) sL hep)) ?_
     rintro _ w10 ⟨vq11, Hsq11, rfl, grq11, k_w10⟩
     have hm10 : Mem w10 (restOf w0) (Hsq11 ++ (Hsq8 ++ ([]))) := Mem.new (H := Hsq8 ++ ([])) (H' := Hsq11) hm7 k_w10
     refine rw_q rfl (ev_move (v := (Value.tuple #[vq11, (i64 (encE lp))])) rfl) <| rw_q (v := vq11) rfl (ev_extract rfl rfl) <| rw_q (v := (i64 (encE lp))) rfl (ev_extract rfl rfl) <| rA rfl (v := vq11) rfl <| rw_q rfl (ev_assign (v := (i64 (encE lp))) rfl) ?_
     refine rN (sR ?_)
     refine rw_c rfl (or_buildSlice_cl u8 [] u8_one hm10 uT23 ti5 rfl (by simp [pairs]) rfl) ?_
     rintro _ w12 ⟨b33, rfl, _ew12, hm12⟩
     refine rM rfl s1 <| rw_c rfl (or_append (f := u8) (Hs := [(b33, .cells (cl u8 ([])) 5 (0, 0))]) (H := Hsq11 ++ (Hsq8 ++ ([]))) hm12 (Grow.of u8 5 b33 ([])) rfl rfl (Rd.ofRest hb hm12) uT23 uT23 ti5 rfl u8_one sL sL) ?_
     rintro sv13 w13 ⟨Hs13, hm13, g13⟩
     replace g13 : Grow u8 5 sv13 b Hs13 := g13
     refine rw_c rfl (opR_call Try.func34 bd34 nm34 (args1 rfl) (c_sdecode sv13 b _ (g13.rd hm13) sL)) ?_
     rintro _ w14 ⟨vq15, psq15, Hoq15, Heq15, rfl, hMq15, grq15, heq15, k_w14⟩
     have hm14 : Mem w14 (restOf w0) (Hoq15 ++ (Heq15 ++ (Hs13 ++ (Hsq11 ++ (Hsq8 ++ ([])))))) := (by
       have hT := Mem.new (H := Hs13 ++ (Hsq11 ++ (Hsq8 ++ ([])))) (H' := _) hm13 k_w14
       try simp only [List.append_assoc, List.cons_append, List.nil_append, List.append_nil] at hT ⊢
       exact hT)
     refine rw_q rfl (ev_move (v := (Value.tuple #[vq15, (i64 (decE b))])) rfl) <| rw_q (v := vq15) rfl (ev_extract rfl rfl) <| rw_q (v := (i64 (decE b))) rfl (ev_extract rfl rfl) <| rA rfl (v := vq15) rfl <| rw_q rfl (ev_assign (v := (i64 (decE b))) rfl) ?_
     refine rN (sR ?_)
     refine rM rfl s1 <| rw_c rfl (opR_call Try.func35 bd35 nm35 (args1 rfl) (c_rdecode16 vb b _ (Rd.ofRest hb hm14) sL)) ?_
     rintro _ w16 ⟨vq17, psq17, Hoq17, Heq17, rfl, hMq17, grq17, heq17, k_w16⟩
     have hm16 : Mem w16 (restOf w0) (Hoq17 ++ (Heq17 ++ (Hoq15 ++ (Heq15 ++ (Hs13 ++ (Hsq11 ++ (Hsq8 ++ ([])))))))) := (by
       have hT := Mem.new (H := Hoq15 ++ (Heq15 ++ (Hs13 ++ (Hsq11 ++ (Hsq8 ++ ([])))))) (H' := _) hm14 k_w16
       try simp only [List.append_assoc, List.cons_append, List.nil_append, List.append_nil] at hT ⊢
       exact hT)
     refine rw_q rfl (ev_move (v := (Value.tuple #[vq17, (i64 (decE b))])) rfl) <| rw_q (v := vq17) rfl (ev_extract rfl rfl) <| rw_q (v := (i64 (decE b))) rfl (ev_extract rfl rfl) <| rA rfl (v := vq17) rfl <| rw_q rfl (ev_assign (v := (i64 (decE b))) rfl) <| rN ?_
     have hm18 := Mem.drop Hs13 _ (Mem.pick4 Hoq17 Heq17 Hoq15 Heq15 Hs13 _ hm16)
     refine CW.abs (fun g => g 0 = vp ∧ g 1 = vb ∧ g 4 = (bl false) ∧ g 5 = vq8 ∧ g 6 = (i64 (encE lp)) ∧ g 7 = vq11 ∧ g 8 = (i64 (encE lp)) ∧ g 9 = vq15 ∧ g 10 = (i64 (decE b)) ∧ g 11 = vq17 ∧ g 12 = (i64 (decE b)) ∧ g 14 = (bl false) ∧ g 21 = (bl (decide (5000 < (b.length : Int)))) ∧ True) ⟨s0, s1, s4, s5, s6, rfl, rfl, rfl, rfl, rfl, rfl, s14, s21, trivial⟩ ?_
     rintro fr19 ⟨s0, s1, s4, s5, s6, s7, s8, s9, s10, s11, s12, s14, s21, _⟩
     refine cw_seq ?_
     have hos := ones_small (b := b) hMq15 oM
     refine cw_region <| rM rfl s6 <| rM rfl s8 <| rw_q rfl (ev_i64_eql rfl rfl) <| rw_q rfl (ev_move (v := (bl ((encE lp) == (encE lp)))) rfl) ?_
     have hd20 : ((encE lp) == (encE lp)) = true := told_true rfl
     refine rw_gyq (s := 47) rfl rfl hd20 rfl (ev_move s5) <| rw_gyq (s := 47) rfl rfl hd20 rfl (ev_move s7) <| rw_gy (s := 47) rfl rfl hd20 rfl (opR_call Try.func36 bd36 nm36 (args2 rfl rfl) (c_same vq8 vq11 (encV lp) (encV lp) _ (grq8.rd (Mem.pick5 Hoq17 Heq17 Hoq15 Heq15 Hsq11 Hsq8 _ hm18)) (grq11.rd (Mem.pick4 Hoq17 Heq17 Hoq15 Heq15 Hsq11 _ hm18)) sL)) ?_
     rintro _ w21 ⟨rfl, _ew21⟩
     have hm21 := hm18.ext _ew21
     refine rw_q rfl (ev_pick_tk rfl hd20 rfl) <| rw_q rfl (ev_move (v := (bl ((encV lp) == (encV lp)))) rfl) ?_
     have hd23 : ((encV lp) == (encV lp)) = true := told_true rfl
     refine rw_gyq (s := 52) rfl rfl hd23 rfl (ev_move s10) <| rw_gyq (s := 52) rfl rfl hd23 rfl (ev_move s12) <| rw_gyq (s := 52) rfl rfl hd23 rfl (ev_i64_eql rfl rfl) <| rw_q rfl (ev_pick_tk rfl hd23 rfl) <| rw_q rfl (ev_move (v := (bl ((decE b) == (decE b)))) rfl) ?_
     have hd24 : ((decE b) == (decE b)) = true := told_true rfl
     refine rw_gyq (s := 57) rfl rfl hd24 rfl (ev_move s9) <| rw_gyq (s := 57) rfl rfl hd24 rfl (ev_move s11) <| rw_gy (s := 57) rfl rfl hd24 rfl (opR_call Try.func37 bd37 nm37 (args2 rfl rfl) (c_samepairs vq15 psq15 vq17 psq17 _ (grq15.rd (Mem.pick2 Hoq17 Heq17 Hoq15 _ hm21)) (fun a ha => heq15 a ha _ (fun q hq => (hm21).own _ (List.mem_append_right _ (List.mem_append_right _ (List.mem_append_right _ (List.mem_append_left _ hq)))))) (grq17.rd hm21) (fun a ha => heq17 a ha _ (fun q hq => (hm21).own _ (List.mem_append_right _ (List.mem_append_left _ hq)))) (hMq15.trans hMq17.symm) sL (fun a ha => (hos.1 a ha).2))) ?_
     rintro _ w25 ⟨rfl, _ew25⟩
     have hm25 := hm21.ext _ew25
     refine rw_q rfl (ev_pick_tk rfl hd24 rfl) <| rw_q rfl (ev_assign (v := (bl true)) rfl) <| rN ?_
     refine CW.abs (fun g => g 0 = vp ∧ g 1 = vb ∧ g 4 = (bl true) ∧ g 5 = vq8 ∧ g 6 = (i64 (encE lp)) ∧ g 7 = vq11 ∧ g 8 = (i64 (encE lp)) ∧ g 9 = vq15 ∧ g 10 = (i64 (decE b)) ∧ g 11 = vq17 ∧ g 12 = (i64 (decE b)) ∧ g 14 = (bl false) ∧ g 21 = (bl (decide (5000 < (b.length : Int)))) ∧ True) ⟨s0, s1, rfl, s5, s6, s7, s8, s9, s10, s11, s12, s14, s21, trivial⟩ ?_
     rintro fr27 ⟨s0, s1, s4, s5, s6, s7, s8, s9, s10, s11, s12, s14, s21, _⟩
     refine cw_ret <| fnPost_ret [(bl true)] ⟨s4, trivial⟩ ?_
     exact ⟨rfl, Mem.below w0 hm25⟩


end Go.Proofs.Ytfbnhoolkajebaa
