/- The law of a crash in the midst of a commit: its walk. Conditions: none beyond those that each theorem states. -/
import Derived.Test.YtfbnhoolkajebaaSoP
namespace Go.Proofs.Ytfbnhoolkajebaa
set_option linter.unusedVariables false
set_option linter.unusedSimpArgs false
attribute [local irreducible] crashB crashK pushB readB inB errB cutN seenW
attribute [local irreducible] markB putB getB getK partB placeF blkOf rawB writeK blocksN
attribute [local irreducible] mostK newB roomB
attribute [local irreducible] recB recF recN genF badB lastP dataB gOf rOf pOf nOf loopH readH
attribute [local irreducible] okP layK turnL turnP oldB
attribute [local irreducible] openD
attribute [local irreducible] natB tkN tkOk kN vN_ oneOk oneR decF decP decV decE rightB encK recP num2 num4 allR goneB encV encE encL encS doO openK openS okS doK commitF lkA keysB
attribute [local irreducible] diffK Torn StepC
set_option maxHeartbeats 2000000 in
theorem law_swhole (size : Int) (vL : Value) (lL : List PLT) (vp : Value) (lp : List PairT) (vq : Value) (qs : List (BitVec 8)) (w0 : World)  (hsz : -9223372036854775808 ≤ size ∧ size ≤ 9223372036854775807) (hrL : RdK (blks w0) encPL 1 vL lL) (hqL : ∀ a ∈ lL, PlR (blks w0) a) (hqB : ∀ a ∈ lL, PlB a) (hlL : lL.length ≤ 9223372036854775807) (hrp : RdK (blks w0) encP 3 vp lp) (hqp : ∀ a ∈ lp, Rd (blks w0) u8 (slv a.val) a.val.2) (hqe : ∀ a ∈ lp, a.key.size ≤ 9223372036854775807 ∧ a.val.2.length ≤ 9223372036854775807) (hlp : lp.length ≤ 9223372036854775807) (hq : Rd (blks w0) u8 vq qs) (hql : qs.length ≤ 9223372036854775807) : CallsR Try.prog 11 #[(i64 size), vL, vp, vq] w0 (fun r w1 => r = bl true ∧ RowKit.Below w0.heap.size w0 w1) := by
 refine callsR_of_cw (args := [(i64 size), vL, vp, vq]) Try.func11 rfl Try.ntmps11 Try.results11 rfl ?_
 have hm0 : Mem w0 (restOf w0) [] := Mem.of_world w0
 refine sR <| rw_q rfl (ev_assign (v := (bl false)) rfl) ?_
 refine rN (cw_seq (sR ?_))
 refine rw_c rfl (opR_call Try.func30 bd30 nm30 (args0) (c_speaks16 _)) ?_
 rintro _ w1 ⟨rfl, _ew1⟩
 have hm1 := hm0.ext _ew1
 refine rw_q (v := (bl false)) rfl (ev_not (b := true) rfl) <| rN <| cw_cond_f rfl (by decide) ?_
 refine cw_skip (kThen_normal (cw_seq (sR ?_)))
 refine rw_q rfl (ev_move (v := (i64 size)) rfl) <| rw_q rfl (ev_i64_lss (b := 4) rfl rfl) <| rw_q rfl (ev_move (v := (bl (decide (size < 4)))) rfl) ?_
 rcases Bool.eq_false_or_eq_true (decide (size < 4)) with hb3 | hb3
 · -- true
   have hb3p := of_decide_eq_true hb3
   refine rw_gn (s := 27) rfl rfl hb3 rfl <| rw_gn (s := 27) rfl rfl hb3 rfl <| rw_q rfl (ev_pick_tk rfl hb3 rfl) <| rw_q rfl (ev_move (v := (bl true)) rfl) <| rw_gn (s := 31) rfl rfl rfl rfl <| rw_gn (s := 31) rfl rfl rfl rfl ?_
   refine rw_q rfl (ev_pick_t rfl rfl) <| rw_q rfl (ev_move (v := (bl true)) rfl) <| rw_gn (s := 35) rfl rfl rfl rfl <| rw_gn (s := 35) rfl rfl rfl rfl <| rw_q rfl (ev_pick_t rfl rfl) <| rw_q rfl (ev_move (v := (bl true)) rfl) ?_
   refine rw_gn (s := 39) rfl rfl rfl rfl <| rw_gn (s := 39) rfl rfl rfl rfl <| rw_gn (s := 39) rfl rfl rfl rfl <| rw_q rfl (ev_pick_t rfl rfl) <| rN ?_
   refine CW.abs (fun g => g 0 = (i64 size) ∧ g 1 = vL ∧ g 2 = vp ∧ g 3 = vq ∧ g 8 = (bl false) ∧ g 24 = (bl false) ∧ g 43 = (bl true) ∧ True) ⟨rfl, rfl, rfl, rfl, rfl, rfl, rfl, trivial⟩ ?_
   rintro fr4 ⟨s0, s1, s2, s3, s8, s24, s43, _⟩
   refine cw_cond_t s43 (by decide) <| sR <| rw_q rfl (ev_assign (v := (bl true)) rfl) ?_
   refine rN (cw_ret (kThen_ret ?_))
   refine fnPost_ret [(bl true)] ⟨rfl, trivial⟩ ?_
   exact ⟨rfl, Mem.below w0 hm1⟩
 · -- false
   have hb3p := of_decide_eq_false hb3
   refine rw_gyq (s := 27) rfl rfl hb3 rfl (ev_move (v := (i64 size)) rfl) <| rw_gyq (s := 27) rfl rfl hb3 rfl (ev_i64_gtr (b := 300) rfl rfl) <| rw_q rfl (ev_pick_fk rfl hb3 rfl) <| rw_q rfl (ev_move (v := (bl (decide (300 < size)))) rfl) ?_
   rcases Bool.eq_false_or_eq_true (decide (300 < size)) with hb5 | hb5
   · -- true
     have hb5p := of_decide_eq_true hb5
     refine rw_gn (s := 31) rfl rfl hb5 rfl <| rw_gn (s := 31) rfl rfl hb5 rfl <| rw_q rfl (ev_pick_tk rfl hb5 rfl) <| rw_q rfl (ev_move (v := (bl true)) rfl) <| rw_gn (s := 35) rfl rfl rfl rfl <| rw_gn (s := 35) rfl rfl rfl rfl ?_
     refine rw_q rfl (ev_pick_t rfl rfl) <| rw_q rfl (ev_move (v := (bl true)) rfl) <| rw_gn (s := 39) rfl rfl rfl rfl <| rw_gn (s := 39) rfl rfl rfl rfl <| rw_gn (s := 39) rfl rfl rfl rfl <| rw_q rfl (ev_pick_t rfl rfl) ?_
     refine rN ?_
     refine CW.abs (fun g => g 0 = (i64 size) ∧ g 1 = vL ∧ g 2 = vp ∧ g 3 = vq ∧ g 8 = (bl false) ∧ g 24 = (bl false) ∧ g 43 = (bl true) ∧ True) ⟨rfl, rfl, rfl, rfl, rfl, rfl, rfl, trivial⟩ ?_
     rintro fr6 ⟨s0, s1, s2, s3, s8, s24, s43, _⟩
     refine cw_cond_t s43 (by decide) <| sR <| rw_q rfl (ev_assign (v := (bl true)) rfl) ?_
     refine rN (cw_ret (kThen_ret ?_))
     refine fnPost_ret [(bl true)] ⟨rfl, trivial⟩ ?_
     exact ⟨rfl, Mem.below w0 hm1⟩
   · -- false
     have hb5p := of_decide_eq_false hb5
     refine rw_gyq (s := 31) rfl rfl hb5 rfl (ev_move (v := vL) rfl) <| rw_gy (s := 31) rfl rfl hb5 rfl (opR_call Try.func38 bd38 nm38 (args1 rfl) (c_greatL vL lL _ (RdK.ofRest hrL hm1) (fun a h => PlR.ofRest (hqL a h) hm1) hqB sL)) ?_
     rintro _ w7 ⟨gLq8, rfl, hgq8, k_w7⟩
     have hm7 : Mem w7 (restOf w0) [] := Mem.new (H := []) (H' := []) hm1 k_w7
     refine rw_q rfl (ev_pick_fk rfl hb5 rfl) <| rw_q rfl (ev_move (v := (bl gLq8)) rfl) ?_
     rcases Bool.eq_false_or_eq_true gLq8 with hb9 | hb9
     · -- true
       refine rw_gn (s := 35) rfl rfl hb9 rfl <| rw_gn (s := 35) rfl rfl hb9 rfl <| rw_q rfl (ev_pick_tk rfl hb9 rfl) <| rw_q rfl (ev_move (v := (bl true)) rfl) <| rw_gn (s := 39) rfl rfl rfl rfl <| rw_gn (s := 39) rfl rfl rfl rfl ?_
       refine rw_gn (s := 39) rfl rfl rfl rfl <| rw_q rfl (ev_pick_t rfl rfl) <| rN ?_
       refine CW.abs (fun g => g 0 = (i64 size) ∧ g 1 = vL ∧ g 2 = vp ∧ g 3 = vq ∧ g 8 = (bl false) ∧ g 24 = (bl false) ∧ g 43 = (bl true) ∧ True) ⟨rfl, rfl, rfl, rfl, rfl, rfl, rfl, trivial⟩ ?_
       rintro fr10 ⟨s0, s1, s2, s3, s8, s24, s43, _⟩
       refine cw_cond_t s43 (by decide) <| sR <| rw_q rfl (ev_assign (v := (bl true)) rfl) ?_
       refine rN (cw_ret (kThen_ret ?_))
       refine fnPost_ret [(bl true)] ⟨rfl, trivial⟩ ?_
       exact ⟨rfl, Mem.below w0 hm7⟩
     · -- false
       refine rw_gyq (s := 35) rfl rfl hb9 rfl (ev_move (v := vp) rfl) <| rw_gy (s := 35) rfl rfl hb9 rfl (opR_call Try.func31 bd31 nm31 (args1 rfl) (c_great16 vp lp _ (RdK.ofRest hrp hm7) (fun a h => Rd.ofRest (hqp a h) hm7) sL sL)) ?_
       rintro _ w11 ⟨gxq12, rfl, hgq12, k_w11⟩
       have hm11 : Mem w11 (restOf w0) [] := Mem.new (H := []) (H' := []) hm7 k_w11
       refine rw_q rfl (ev_pick_fk rfl hb9 rfl) <| rw_q rfl (ev_move (v := (bl gxq12)) rfl) ?_
       rcases Bool.eq_false_or_eq_true gxq12 with hb13 | hb13
       · -- true
         refine rw_gn (s := 39) rfl rfl hb13 rfl <| rw_gn (s := 39) rfl rfl hb13 rfl <| rw_gn (s := 39) rfl rfl hb13 rfl <| rw_q rfl (ev_pick_tk rfl hb13 rfl) <| rN ?_
         refine CW.abs (fun g => g 0 = (i64 size) ∧ g 1 = vL ∧ g 2 = vp ∧ g 3 = vq ∧ g 8 = (bl false) ∧ g 24 = (bl false) ∧ g 43 = (bl true) ∧ True) ⟨rfl, rfl, rfl, rfl, rfl, rfl, rfl, trivial⟩ ?_
         rintro fr14 ⟨s0, s1, s2, s3, s8, s24, s43, _⟩
         refine cw_cond_t s43 (by decide) <| sR <| rw_q rfl (ev_assign (v := (bl true)) rfl) ?_
         refine rN (cw_ret (kThen_ret ?_))
         refine fnPost_ret [(bl true)] ⟨rfl, trivial⟩ ?_
         exact ⟨rfl, Mem.below w0 hm11⟩
       · -- false
         refine rw_gyq (s := 39) rfl rfl hb13 rfl (ev_move (v := vq) rfl) <| rw_gyq (s := 39) rfl rfl hb13 rfl (ev_len_rd (Rd.ofRest hq hm11) uT23 rfl) <| rw_gyq (s := 39) rfl rfl hb13 rfl (ev_i64_gtr (b := 200) rfl rfl) <| rw_q rfl (ev_pick_fk rfl hb13 rfl) <| rN ?_
         refine CW.abs (fun g => g 0 = (i64 size) ∧ g 1 = vL ∧ g 2 = vp ∧ g 3 = vq ∧ g 8 = (bl false) ∧ g 24 = (bl false) ∧ g 43 = (bl (decide (200 < (qs.length : Int)))) ∧ True) ⟨rfl, rfl, rfl, rfl, rfl, rfl, rfl, trivial⟩ ?_
         rintro fr15 ⟨s0, s1, s2, s3, s8, s24, s43, _⟩
         refine cw_cond s43 (fun hc16 => ?_) (fun hc16 => ?_)
         · -- true
           have hc16p := of_decide_eq_true hc16
           refine sR <| rw_q rfl (ev_assign (v := (bl true)) rfl) ?_
           refine rN (cw_ret (kThen_ret ?_))
           refine fnPost_ret [(bl true)] ⟨rfl, trivial⟩ ?_
           exact ⟨rfl, Mem.below w0 hm11⟩
         · -- false
           have hc16p := of_decide_eq_false hc16
           have hgl := hgq8 hb9
           have hgs : SmallL lp := hgq12 hb13
           have hgs1 := hgs.1
           refine cw_skip (kThen_normal (cw_seq ?_))
           obtain ⟨n, rfl⟩ : ∃ n : Nat, size = (n : Int) := ⟨size.toNat, by omega⟩
           obtain ⟨hh, hhh⟩ : ∃ q : Nat, q = n / 2 := ⟨_, rfl⟩
           refine cw_region <| rM rfl s0 <| rw_c rfl (opR_call Try.func13 bd13 nm13 (args1 rfl) (c_dnew (n : Int) _ sL)) ?_
           rintro _ w17 ⟨bdq18, vlq18, Hlq18, rfl, glq18, k_w17⟩
           have hm17 : Mem w17 (restOf w0) ([(bdq18, .cells #[vlq18, (Value.slice none 0 0)] 94 (0, 0))] ++ (Hlq18 ++ ([]))) := (by
             have hT := Mem.new (H := []) (H' := _) hm11 k_w17
             try simp only [List.append_assoc, List.cons_append, List.nil_append, List.append_nil] at hT ⊢
             exact hT)
           have hbl0 : List.replicate (n : Int).toNat (List.replicate 64 0) = blank n := rfl
           obtain ⟨L0, hL0⟩ : ∃ q : List (List (BitVec 8)), q = (List.replicate (n : Int).toNat (List.replicate 64 0)) := ⟨_, rfl⟩
           have hL0l : L0.length = n := by rw [hL0]; simp
           have gg19 : GrowK (encA u8) 64 83 vlq18 L0 Hlq18 := GrowK.cast glq18 (hL0.symm)
           rw [hbl0] at hL0
           obtain ⟨hbJ, hbn⟩ := blank_JI (n := n) oM oM
           rw [← hL0, ← hhh] at hbJ
           rw [← hL0] at hbn
           have hn0 := new_le (ls := L0) (by rw [hL0]; exact blank_G _) (by decide)
           have hob0 : oldB L0 [] = ((L0.length : Int) / 2, [[]]) := by rw [hL0]; exact blank_old
           have hodl0 : (openD L0 []).length = L0.length := openD_len
           refine rw_q rfl (ev_move (v := (Value.tuple #[(ptr bdq18 0), (i64 0)])) rfl) <| rw_q (v := (ptr bdq18 0)) rfl (ev_extract rfl rfl) <| rw_q (v := (i64 0)) rfl (ev_extract rfl rfl) <| rw_q rfl (ev_assign (v := (ptr bdq18 0)) rfl) <| rw_q rfl (ev_assign (v := (i64 0)) rfl) ?_
           refine rN (cw_seq (sR ?_))
           refine rw_q rfl (ev_move (v := (i64 0)) rfl) <| rw_q rfl (ev_i64_neq (b := 0) rfl rfl) <| rw_q rfl (ev_move (v := (bl (0 != 0))) rfl) ?_
           have hd20 : (0 != 0) = false := told_ne rfl
           refine rw_gyq (s := 51) rfl rfl hd20 rfl (ev_move (v := (ptr bdq18 0)) rfl) <| rw_gyq (s := 51) rfl rfl hd20 rfl (ev_ptr_nil_eql uT25 rfl rfl) <| rw_q rfl (ev_pick_fk rfl hd20 rfl) <| rN <| cw_cond_f rfl (by decide) ?_
           refine cw_skip (kThen_normal (sR ?_))
           refine rw_q rfl (ev_move (v := (ptr bdq18 0)) rfl) ?_
           have hF22 : Mem w17 (restOf w0) (([(bdq18, .cells #[vlq18, (Value.slice none 0 0)] 94 (0, 0))] ++ (Hlq18 ++ ([]))) ++ ([])) := by
             have hT := (Mem.pick Hlq18 [_] _ (Mem.pick [_] Hlq18 _ hm17))
             try simp only [List.append_assoc, List.cons_append, List.nil_append, List.append_nil] at hT ⊢
             exact hT
           refine rw_c rfl (opR_call Try.func39 bd39 nm39 (args1 rfl) (c_sopen bdq18 vlq18 L0 Hlq18 0 hh [[]] _ _ (Mem.give hF22) gg19 (congrArg Prod.snd hob0) (by rw [hob0]; show _ - (L0.length : Int) / 2 = ((0 : Nat) : Int); omega) hbJ hn0.1 okS_blank oM)) ?_
           rintro _ w21 ⟨bsq23, bjq23, bq23, Hmq23, vrq23, rsq23, Hrq23, Hl2q23, rfl, gmq23, hMq23, grq23, gl2q23, k_w21⟩
           have hm21 : Mem w21 (restOf w0) ([(bsq23, .cells #[(ptr bjq23 0), (Value.map (some bq23))] 118 (0, 0))] ++ (Hmq23 ++ ([(bjq23, .cells #[(ptr bdq18 0), (i64 (0 : Int)), (i64 (hh : Int)), (u64 (newB L0 [])), vrq23, (i64 (roomB [[]] : Int))] 100 (0, 0))] ++ (Hrq23 ++ ([(bdq18, .cells #[vlq18, (Value.slice none 0 0)] 94 (0, 0))] ++ (Hl2q23 ++ ([]))))))) := (by
             have hT := Mem.back hF22 k_w21
             try simp only [List.append_assoc, List.cons_append, List.nil_append, List.append_nil] at hT ⊢
             exact hT)
           refine rw_q rfl (ev_move (v := (Value.tuple #[(ptr bsq23 0), (i64 0)])) rfl) <| rw_q (v := (ptr bsq23 0)) rfl (ev_extract rfl rfl) <| rw_q (v := (i64 0)) rfl (ev_extract rfl rfl) <| rw_q rfl (ev_assign (v := (ptr bsq23 0)) rfl) <| rw_q rfl (ev_assign (v := (i64 0)) rfl) <| rN ?_
           refine CW.abs (fun g => g 0 = (i64 (n : Int)) ∧ g 1 = vL ∧ g 2 = vp ∧ g 3 = vq ∧ g 8 = (bl false) ∧ g 9 = (ptr bdq18 0) ∧ g 10 = (i64 0) ∧ g 11 = (ptr bsq23 0) ∧ g 12 = (i64 0) ∧ g 24 = (bl false) ∧ g 43 = (bl (decide (200 < (qs.length : Int)))) ∧ g 54 = (bl false) ∧ True) ⟨s0, s1, s2, s3, s8, rfl, rfl, rfl, rfl, s24, s43, rfl, trivial⟩ ?_
           rintro fr24 ⟨s0, s1, s2, s3, s8, s9, s10, s11, s12, s24, s43, s54, _⟩
           refine cw_seq (sR ?_)
           refine rM rfl s12 <| rw_q rfl (ev_i64_neq (b := 0) rfl rfl) <| rw_q rfl (ev_move (v := (bl (0 != 0))) rfl) <| rw_gyq (s := 62) rfl rfl hd20 rfl (ev_move s11) <| rw_gyq (s := 62) rfl rfl hd20 rfl (ev_ptr_nil_eql uT70 rfl rfl) <| rw_q rfl (ev_pick_fk rfl hd20 rfl) ?_
           refine rN <| cw_cond_f rfl (by decide) ?_
           refine cw_skip (kThen_normal (sR ?_))
           refine rw_c rfl (or_buildSlice_p (c := #[]) hm21 uT55 ti79 rfl pm_nil (by kernel_rfl)) ?_
           rintro _ w25 ⟨b66, rfl, _ew25, hm25⟩
           have hm25 : Mem w25 (restOf w0) ([(b66, .cells #[] 79 (0, 0)), (bsq23, .cells #[(ptr bjq23 0), (Value.map (some bq23))] 118 (0, 0))] ++ (Hmq23 ++ ([(bjq23, .cells #[(ptr bdq18 0), (i64 (0 : Int)), (i64 (hh : Int)), (u64 (newB L0 [])), vrq23, (i64 (roomB [[]] : Int))] 100 (0, 0))] ++ (Hrq23 ++ ([(bdq18, .cells #[vlq18, (Value.slice none 0 0)] 94 (0, 0))] ++ (Hl2q23 ++ ([]))))))) := hm25
           refine rw_q rfl (ev_assign (v := (slc b66 0 0 0)) rfl) ?_
           refine rN (cw_seq (sR ?_))
           refine rM rfl s1 <| rw_q (v := (i64 (lL.length : Int))) rfl (ev_len_rk (RdK.ofRest hrL hm25) uT68 rfl) <| rw_q rfl (ev_move (v := (i64 0)) rfl) ?_
           refine rN (cw_block ?_)
           refine cw_loop (fun g wv => ∃ (k b1 : Nat) (Hm1 : List (Nat × Obj)) (fr : Nat) (ge : BitVec 64) (vr1 : Value) (rs1 : List SlT) (Hr1 : List (Nat × Obj)) (L1 : List (List (BitVec 8))) (Hl1 : List (Nat × Obj)) (LW : List (List (BitVec 8))) (vv : Value) (ps : List PairT) (Hv : List (Nat × Obj)), (k ≤ lL.length) ∧ (JI L1 fr hh ge LW) ∧ (ge.toNat ≤ k + 1) ∧ (okS LW = true) ∧ (rs1.map (·.2) = LW) ∧ (BndK (20 * k) (openS LW)) ∧ (L1.length = n) ∧ (MapG mN b1 (openS LW) Hm1) ∧ (GrowL mN 23 vr1 rs1 Hr1) ∧ (GrowK (encA u8) 64 83 vlq18 L1 Hl1) ∧ (RdH (restOf w0).blk Hv vv ps) ∧ (ps.map kvOf = openS LW) ∧ (ValQ (restOf w0).blk ps) ∧ g 0 = (i64 (n : Int)) ∧ g 1 = vL ∧ g 2 = vp ∧ g 3 = vq ∧ g 8 = (bl false) ∧ g 9 = (ptr bdq18 0) ∧ g 10 = (i64 0) ∧ g 11 = (ptr bsq23 0) ∧ g 12 = (i64 0) ∧ g 13 = vv ∧ g 24 = (bl false) ∧ g 43 = (bl (decide (200 < (qs.length : Int)))) ∧ g 54 = (bl false) ∧ g 65 = (bl false) ∧ g 67 = vL ∧ g 68 = (i64 (lL.length : Int)) ∧ g 69 = (i64 (k : Int)) ∧ Mem wv (restOf w0) ([(bsq23, .cells #[(ptr bjq23 0), (Value.map (some b1))] 118 (0, 0))] ++ (Hm1 ++ ([(bjq23, .cells #[(ptr bdq18 0), (i64 (fr : Int)), (i64 (hh : Int)), (u64 ge), vr1, (i64 (roomB LW : Int))] 100 (0, 0))] ++ (Hr1 ++ ([(bdq18, .cells #[vlq18, (Value.slice none 0 0)] 94 (0, 0))] ++ (Hl1 ++ (Hv ++ ([]))))))))) (fun g wv => ((lL.length : Int) - RowKit.intOf (g 69)).toNat) ?_ ?_
           have hm26 := (Mem.pick5 [_, _] Hmq23 [_] Hrq23 [_] Hl2q23 _ hm25)
           have hm27 := (Mem.pick5 Hl2q23 [_, _] Hmq23 [_] Hrq23 [_] _ hm26)
           have hm28 := (Mem.pick5 [_] Hl2q23 [_, _] Hmq23 [_] Hrq23 _ hm27)
           have hm29 := (Mem.pick5 Hrq23 [_] Hl2q23 [_, _] Hmq23 [_] _ hm28)
           have hm30 := (Mem.pick5 [_] Hrq23 [_] Hl2q23 [_, _] Hmq23 _ hm29)
           have hm31 := (Mem.pick6 Hmq23 [_] Hrq23 [_] Hl2q23 [_] [_] _ hm30)
           · exact ⟨0, bq23, Hmq23, 0, (newB L0 []), vrq23, rsq23, Hrq23, (openD L0 []), Hl2q23, [[]], (slc b66 0 0 0), [], [(b66, .cells #[] 79 (0, 0))], (Nat.zero_le _), hbJ, oM, okS_blank, hMq23, (by rw [openS_blank]; exact BndK.nil), oM, gmq23, grq23, gl2q23, RdH.empty, (by rw [openS_blank]; rfl), ValQ.nil, s0, s1, s2, s3, s8, s9, s10, s11, s12, rfl, s24, s43, s54, rfl, rfl, rfl, rfl, (by
             have hT := hm31
             try simp only [List.append_assoc, List.cons_append, List.nil_append, List.append_nil] at hT ⊢
             exact hT)⟩
           · rintro fr32 w33 ⟨k, b1, Hm1, fr, ge, vr1, rs1, Hr1, L1, Hl1, LW, vv, ps, Hv, hk, hJ, hg, hok, hMr, hBn, hL1, gm1, gr1, gl1, hrv, hkv, hV, s0, s1, s2, s3, s8, s9, s10, s11, s12, s13, s24, s43, s54, s65, s67, s68, s69, hm33⟩
             have z13 := s13
             have z69 := s69
             have hlwr := congrArg List.length hMr; rw [List.length_map] at hlwr
             have hlpv := congrArg List.length hkv; rw [List.length_map] at hlpv
             have hBl := hBn.1
             have hJl := hJ.len; have hJr := hJ.room; have hJh := hJ.half; have hJs := hJ.small; have hJp := hJ.pos
             have hrml := room_len (L := LW)
             have hR0 : RightK (openS LW) := openS_right fun b hb => by have := hJ.el b hb; omega
             refine sR <| rw_q rfl (ev_i64_lss s69 s68) ?_
             refine rN (cw_seq ?_)
             refine cw_cond rfl (fun hc34 => ?_) (fun hc34 => ?_)
             · -- true
               have hc34p := of_decide_eq_true hc34
               have hkL : k < lL.length := by omega
               have hSL := hgl.2 k hkL
               have hSL1 := hSL.1
               refine cw_skip (kThen_normal (cw_seq (cw_block (sR ?_))))
               refine rw_q rfl (ev_indexAddr_rk (i := (k : Int)) (RdK.ofRest hrL hm33) uT68 ti55 s67 s69 oM sL) <| rw_q (v := (plv (lL.getD k pl0))) rfl (ev_load_rk1 (i := (k : Int)) (dflt := pl0) (u := (plv (lL.getD k pl0))) (RdK.ofRest hrL hm33) sL uT55 rfl rfl (by decide) rfl) <| rw_q rfl (ev_assign (v := (plv (lL.getD k pl0))) rfl) ?_
               refine rN (sR ?_)
               refine rM rfl s11 <| rw_q rfl (ev_move (v := (plv (lL.getD k pl0))) rfl) ?_
               have hF36 : Mem w33 (restOf w0) (([(bsq23, .cells #[(ptr bjq23 0), (Value.map (some b1))] 118 (0, 0))] ++ (Hm1 ++ ([(bjq23, .cells #[(ptr bdq18 0), (i64 (fr : Int)), (i64 (hh : Int)), (u64 ge), vr1, (i64 (roomB LW : Int))] 100 (0, 0))] ++ (Hr1 ++ ([(bdq18, .cells #[vlq18, (Value.slice none 0 0)] 94 (0, 0))] ++ (Hl1 ++ ([]))))))) ++ (Hv ++ ([]))) := by
                 have hT := (Mem.pick5 Hm1 [_] Hr1 [_] Hl1 [_] _ (Mem.pick5 [_] Hr1 [_] Hl1 [_] Hm1 _ (Mem.pick5 Hr1 [_] Hl1 [_] Hm1 [_] _ (Mem.pick5 [_] Hl1 [_] Hm1 [_] Hr1 _ (Mem.pick5 Hl1 [_] Hm1 [_] Hr1 [_] _ (Mem.pick5 [_] Hm1 [_] Hr1 [_] Hl1 _ hm33))))))
                 try simp only [List.append_assoc, List.cons_append, List.nil_append, List.append_nil] at hT ⊢
                 exact hT
               refine rw_c rfl (opR_call Try.func41 bd41 nm41 (args2 rfl rfl) (c_scommit bsq23 bjq23 b1 Hm1 fr hh ge LW vr1 rs1 Hr1 bdq18 vlq18 L1 Hl1 (plv (lL.getD k pl0)) ((lL.getD k pl0).2) _ _ (Mem.give hF36) gm1 gr1 gl1 hMr hJ oM hok oM (RdK.addRest hF36 (plQ1 hqL (k := k) sD)) (fun a h => Rd.addRest hF36 ((plQ2 hqL (k := k) sD) a h)) sL hSL.el (by have := hSL.len.1; omega) (by have h1 := (hBn.do hSL).enc; omega))) ?_
               rintro _ w35 ⟨b2q37, Hm2q37, fr2q37, ge2q37, vr2q37, rs2q37, Hr2q37, Ls2q37, Hl2q37, rfl, gm2q37, hM2q37, gr2q37, gl2q37, hJ2q37, hg2q37, hl2q37, ho2q37, hst2q37, k_w35⟩
               have hm35 : Mem w35 (restOf w0) ([(bsq23, .cells #[(ptr bjq23 0), (Value.map (some b2q37))] 118 (0, 0))] ++ (Hm2q37 ++ ([(bjq23, .cells #[(ptr bdq18 0), (i64 (fr2q37 : Int)), (i64 (hh : Int)), (u64 ge2q37), vr2q37, (i64 (roomB (commitF hh LW ((lL.getD k pl0).2)).2 : Int))] 100 (0, 0))] ++ (Hr2q37 ++ ([(bdq18, .cells #[vlq18, (Value.slice none 0 0)] 94 (0, 0))] ++ (Hl2q37 ++ (Hv ++ ([])))))))) := (by
                 have hT := Mem.back hF36 k_w35
                 try simp only [List.append_assoc, List.cons_append, List.nil_append, List.append_nil] at hT ⊢
                 exact hT)
               obtain ⟨LW3, hLW3⟩ : ∃ q, q = (commitF hh LW (lL.getD k pl0).2).2 := ⟨_, rfl⟩
               have hG38 : MapG mN b2q37 (openS LW3) Hm2q37 := by rw [hLW3]; exact gm2q37
               have hM3 : rs2q37.map (·.2) = LW3 := by rw [hLW3]; exact hM2q37
               have hJ3 : JI Ls2q37 fr2q37 hh ge2q37 LW3 := by rw [hLW3]; exact hJ2q37
               have hok3 : okS LW3 = true := by rw [hLW3]; exact ho2q37
               have hm39 : Mem w35 (restOf w0) ([(bsq23, .cells #[(ptr bjq23 0), (Value.map (some b2q37))] 118 (0, 0))] ++ (Hm2q37 ++ ([(bjq23, .cells #[(ptr bdq18 0), (i64 (fr2q37 : Int)), (i64 (hh : Int)), (u64 ge2q37), vr2q37, (i64 (roomB LW3 : Int))] 100 (0, 0))] ++ (Hr2q37 ++ ([(bdq18, .cells #[vlq18, (Value.slice none 0 0)] 94 (0, 0))] ++ (Hl2q37 ++ (Hv ++ ([])))))))) := by rw [hLW3]; exact hm35
               have hge3 := hg2q37
               have hLl3 := hl2q37
               have hBn3 : BndK (20 * (k + 1)) (openS LW3) := by rw [hLW3, Nat.mul_succ]; exact hBn.commit hok hR0 hSL
               refine rw_q rfl (ev_i64_eql (b := 0) rfl rfl) <| rN ?_
               refine cw_meetB (J := fun g wv => ∃ (vv2 : Value) (ps2 : List PairT) (Hv2 : List (Nat × Obj)), (RdH (restOf w0).blk Hv2 vv2 ps2) ∧ (ps2.map kvOf = openS LW3) ∧ (ValQ (restOf w0).blk ps2) ∧ g 0 = (i64 (n : Int)) ∧ g 1 = vL ∧ g 2 = vp ∧ g 3 = vq ∧ g 8 = (bl false) ∧ g 9 = (ptr bdq18 0) ∧ g 10 = (i64 0) ∧ g 11 = (ptr bsq23 0) ∧ g 12 = (i64 0) ∧ g 13 = vv2 ∧ g 15 = (plv (lL.getD k pl0)) ∧ g 24 = (bl false) ∧ g 43 = (bl (decide (200 < (qs.length : Int)))) ∧ g 54 = (bl false) ∧ g 65 = (bl false) ∧ g 67 = vL ∧ g 68 = (i64 (lL.length : Int)) ∧ g 69 = (i64 (k : Int)) ∧ g 70 = (bl (decide ((k : Int) < (lL.length : Int)))) ∧ g 76 = (bl (((commitF hh LW ((lL.getD k pl0).2)).1) == 0)) ∧ Mem wv (restOf w0) ([(bsq23, .cells #[(ptr bjq23 0), (Value.map (some b2q37))] 118 (0, 0))] ++ (Hm2q37 ++ ([(bjq23, .cells #[(ptr bdq18 0), (i64 (fr2q37 : Int)), (i64 (hh : Int)), (u64 ge2q37), vr2q37, (i64 (roomB LW3 : Int))] 100 (0, 0))] ++ (Hr2q37 ++ ([(bdq18, .cells #[vlq18, (Value.slice none 0 0)] 94 (0, 0))] ++ (Hl2q37 ++ (Hv2 ++ ([]))))))))) ?_ ?_
               · skip
                 refine cw_cond rfl (fun hc40 => ?_) (fun hc40 => ?_)
                 · -- true
                   have hc40p := eq_of_beq hc40
                   refine cw_region <| rM rfl s13 <| rw_q rfl (ev_move (v := (plv (lL.getD k pl0))) rfl) <| rw_c rfl (opR_call Try.func40 bd40 nm40 (args2 rfl rfl) (c_rdo (restOf w0).blk Hv vv ps (plv (lL.getD k pl0)) ((lL.getD k pl0).2) _ (fun b o e => (hm39).rest b o e) (fun q hq => (hm39).own _ (List.mem_append_right _ (List.mem_append_right _ (List.mem_append_right _ (List.mem_append_right _ (List.mem_append_right _ (List.mem_append_right _ (List.mem_append_left _ hq)))))))) hrv (fun a h => Rd.ofRest ((fun a h => (hV a h).1) a h) hm39) (RdK.ofRest (plQ1 hqL (k := k) sD) hm39) (fun a h => Rd.ofRest ((plQ2 hqL (k := k) sD) a h) hm39) (fun a h => (hV a h).2) sL)) ?_
                   rintro rq42 w41 ⟨psq42, Hsq42, hkvq42, hfrq42, hplq42, hrrq42, k_w41⟩
                   have hm41 : Mem w41 (restOf w0) (Hsq42 ++ ([(bsq23, .cells #[(ptr bjq23 0), (Value.map (some b2q37))] 118 (0, 0))] ++ (Hm2q37 ++ ([(bjq23, .cells #[(ptr bdq18 0), (i64 (fr2q37 : Int)), (i64 (hh : Int)), (u64 ge2q37), vr2q37, (i64 (roomB LW3 : Int))] 100 (0, 0))] ++ (Hr2q37 ++ ([(bdq18, .cells #[vlq18, (Value.slice none 0 0)] 94 (0, 0))] ++ (Hl2q37 ++ (Hv ++ ([]))))))))) := Mem.new (H := [(bsq23, .cells #[(ptr bjq23 0), (Value.map (some b2q37))] 118 (0, 0))] ++ (Hm2q37 ++ ([(bjq23, .cells #[(ptr bdq18 0), (i64 (fr2q37 : Int)), (i64 (hh : Int)), (u64 ge2q37), vr2q37, (i64 (roomB LW3 : Int))] 100 (0, 0))] ++ (Hr2q37 ++ ([(bdq18, .cells #[vlq18, (Value.slice none 0 0)] 94 (0, 0))] ++ (Hl2q37 ++ (Hv ++ ([])))))))) (H' := Hsq42) hm39 k_w41
                   have hV1 : ValQ (restOf w0).blk psq42 := hV.step (plQ2 hqL (k := k) oM) hfrq42
                   have hkv1 := hkvq42
                   rw [hkv] at hkv1
                   have hpl1 := hplq42
                   refine rA rfl (v := rq42) rfl <| rN ?_
                   have hm43 := (Mem.pick7 Hsq42 [_] Hm2q37 [_] Hr2q37 [_] Hl2q37 Hv _ hm41)
                   have hm44 := (Mem.pick Hv Hsq42 _ hm43)
                   have hm45 := (Mem.pick7 Hsq42 Hv [_] Hm2q37 [_] Hr2q37 [_] Hl2q37 _ hm44)
                   have hm46 := (Mem.pick7 Hl2q37 Hsq42 Hv [_] Hm2q37 [_] Hr2q37 [_] _ hm45)
                   have hm47 := (Mem.pick7 [_] Hl2q37 Hsq42 Hv [_] Hm2q37 [_] Hr2q37 _ hm46)
                   have hm48 := (Mem.pick7 Hr2q37 [_] Hl2q37 Hsq42 Hv [_] Hm2q37 [_] _ hm47)
                   have hm49 := (Mem.pick7 [_] Hr2q37 [_] Hl2q37 Hsq42 Hv [_] Hm2q37 _ hm48)
                   have hm50 := (Mem.pick7 Hm2q37 [_] Hr2q37 [_] Hl2q37 Hsq42 Hv [_] _ hm49)
                   exact ⟨rq42, psq42, (Hsq42 ++ Hv), hrrq42, (by rw [hLW3, (commit_ok (hh := hh) hok hR0 (fun p hp => (hSL.el p hp).2)).2, if_pos (eq_of_beq hc40)]; exact hkv1), hV1, s0, s1, s2, s3, s8, s9, s10, s11, s12, rfl, rfl, s24, s43, s54, s65, s67, s68, s69, rfl, rfl, (by
                     have hT := hm50
                     try simp only [List.append_assoc, List.cons_append, List.nil_append, List.append_nil] at hT ⊢
                     exact hT)⟩
                 · -- false
                   have hc40p := ne_of_beq_false hc40
                   refine cw_skip (kThen_normal ?_)
                   exact ⟨vv, ps, Hv, hrv, (by rw [hLW3, (commit_ok (hh := hh) hok hR0 (fun p hp => (hSL.el p hp).2)).2, if_neg (ne_of_beq_false hc40)]; exact hkv), hV, s0, s1, s2, s3, s8, s9, s10, s11, s12, s13, rfl, s24, s43, s54, s65, s67, s68, s69, rfl, rfl, (by
                     have hT := hm39
                     try simp only [List.append_assoc, List.cons_append, List.nil_append, List.append_nil] at hT ⊢
                     exact hT)⟩
               · rintro fr51 w52 ⟨vv2, ps2, Hv2, hrv2, hkv2, hV2, s0, s1, s2, s3, s8, s9, s10, s11, s12, s13, s15, s24, s43, s54, s65, s67, s68, s69, s70, s76, hm52⟩
                 refine cw_region <| rw_q rfl (ev_i64_add (b := 1) s69 rfl oM oM) <| rw_q rfl (ev_move (v := (i64 ((k : Int) + 1))) rfl) <| rN ?_
                 exact ⟨⟨(k + 1), b2q37, Hm2q37, fr2q37, ge2q37, vr2q37, rs2q37, Hr2q37, Ls2q37, Hl2q37, LW3, vv2, ps2, Hv2, oM, hJ3, oM, hok3, hM3, hBn3, oM, hG38, gr2q37, gl2q37, hrv2, hkv2, hV2, s0, s1, s2, s3, s8, s9, s10, s11, s12, s13, s24, s43, s54, s65, s67, s68, rfl, (by
                   have hT := hm52
                   try simp only [List.append_assoc, List.cons_append, List.nil_append, List.append_nil] at hT ⊢
                   exact hT)⟩, meas (rfl) z69 oM oM⟩
             · -- false
               have hc34p := of_decide_eq_false hc34
               refine cw_exit ?_
               refine kThen_exit (kThen_exit (kBlk_hit ?_))
               refine cw_seq ?_
               have hkl : k = lL.length := by omega
               have hlwr := congrArg List.length hMr; rw [List.length_map] at hlwr
               have hlpv := congrArg List.length hkv; rw [List.length_map] at hlpv
               have hBl := hBn.1
               have hJl := hJ.len; have hJr := hJ.room; have hJh := hJ.half; have hJs := hJ.small; have hJp := hJ.pos
               have hrml := room_len (L := LW)
               have hR0 : RightK (openS LW) := openS_right fun b hb => by have := hJ.el b hb; omega
               refine cw_region <| rM rfl s9 <| rw_c rfl (opR_call Try.func48 bd48 nm48 (args1 rfl) (c_twin bdq18 vlq18 L1 (Value.slice none 0 0) ([]) _ ((Mem.pick4 [_] Hm1 [_] Hr1 [_] _ hm33)).h0 (gl1.rd (Mem.pick5 [_] Hm1 [_] Hr1 [_] Hl1 _ hm33)) (RdK.nil _ _) (okP_hat okP_nil) sL sL)) ?_
               rintro _ w53 ⟨btq54, vtq54, Htq54, rfl, gtq54, k_w53⟩
               have hm53 : Mem w53 (restOf w0) ([(btq54, .cells #[vtq54, (Value.slice none 0 0)] 94 (0, 0))] ++ (Htq54 ++ ([(bsq23, .cells #[(ptr bjq23 0), (Value.map (some b1))] 118 (0, 0))] ++ (Hm1 ++ ([(bjq23, .cells #[(ptr bdq18 0), (i64 (fr : Int)), (i64 (hh : Int)), (u64 ge), vr1, (i64 (roomB LW : Int))] 100 (0, 0))] ++ (Hr1 ++ ([(bdq18, .cells #[vlq18, (Value.slice none 0 0)] 94 (0, 0))] ++ (Hl1 ++ (Hv ++ ([])))))))))) := (by
                 have hT := Mem.new (H := [(bsq23, .cells #[(ptr bjq23 0), (Value.map (some b1))] 118 (0, 0))] ++ (Hm1 ++ ([(bjq23, .cells #[(ptr bdq18 0), (i64 (fr : Int)), (i64 (hh : Int)), (u64 ge), vr1, (i64 (roomB LW : Int))] 100 (0, 0))] ++ (Hr1 ++ ([(bdq18, .cells #[vlq18, (Value.slice none 0 0)] 94 (0, 0))] ++ (Hl1 ++ (Hv ++ ([])))))))) (H' := _) hm33 k_w53
                 try simp only [List.append_assoc, List.cons_append, List.nil_append, List.append_nil] at hT ⊢
                 exact hT)
               have gg55 : GrowK (encA u8) 64 83 vtq54 L1 Htq54 := GrowK.cast gtq54 (crash_none)
               refine rM rfl s13 <| rw_q rfl (ev_assign (v := (ptr btq54 0)) rfl) <| rA rfl (v := vv) rfl ?_
               refine rN (cw_seq (sR ?_))
               refine rM rfl s11 <| rM rfl s2 ?_
               have hF57 : Mem w53 (restOf w0) (([(bsq23, .cells #[(ptr bjq23 0), (Value.map (some b1))] 118 (0, 0))] ++ (Hm1 ++ ([(bjq23, .cells #[(ptr bdq18 0), (i64 (fr : Int)), (i64 (hh : Int)), (u64 ge), vr1, (i64 (roomB LW : Int))] 100 (0, 0))] ++ (Hr1 ++ ([(bdq18, .cells #[vlq18, (Value.slice none 0 0)] 94 (0, 0))] ++ (Hl1 ++ ([]))))))) ++ ([(btq54, .cells #[vtq54, (Value.slice none 0 0)] 94 (0, 0))] ++ (Htq54 ++ (Hv ++ ([]))))) := by
                 have hT := (Mem.pick7 Hm1 [_] Hr1 [_] Hl1 [_] Htq54 [_] _ (Mem.pick7 [_] Hr1 [_] Hl1 [_] Htq54 [_] Hm1 _ (Mem.pick7 Hr1 [_] Hl1 [_] Htq54 [_] Hm1 [_] _ (Mem.pick7 [_] Hl1 [_] Htq54 [_] Hm1 [_] Hr1 _ (Mem.pick7 Hl1 [_] Htq54 [_] Hm1 [_] Hr1 [_] _ (Mem.pick7 [_] Htq54 [_] Hm1 [_] Hr1 [_] Hl1 _ hm53))))))
                 try simp only [List.append_assoc, List.cons_append, List.nil_append, List.append_nil] at hT ⊢
                 exact hT
               refine rw_c rfl (opR_call Try.func41 bd41 nm41 (args2 rfl rfl) (c_scommit bsq23 bjq23 b1 Hm1 fr hh ge LW vr1 rs1 Hr1 bdq18 vlq18 L1 Hl1 vp lp _ _ (Mem.give hF57) gm1 gr1 gl1 hMr hJ oM hok oM (RdK.addRest hF57 hrp) (fun a h => Rd.addRest hF57 (hqp a h)) sL hgs.el (by have := hgs.len.1; omega) (by have h1 := (hBn.do hgs).enc; omega))) ?_
               rintro _ w56 ⟨b2q58, Hm2q58, fr2q58, ge2q58, vr2q58, rs2q58, Hr2q58, Ls2q58, Hl2q58, rfl, gm2q58, hM2q58, gr2q58, gl2q58, hJ2q58, hg2q58, hl2q58, ho2q58, hst2q58, k_w56⟩
               have hm56 : Mem w56 (restOf w0) ([(bsq23, .cells #[(ptr bjq23 0), (Value.map (some b2q58))] 118 (0, 0))] ++ (Hm2q58 ++ ([(bjq23, .cells #[(ptr bdq18 0), (i64 (fr2q58 : Int)), (i64 (hh : Int)), (u64 ge2q58), vr2q58, (i64 (roomB (commitF hh LW lp).2 : Int))] 100 (0, 0))] ++ (Hr2q58 ++ ([(bdq18, .cells #[vlq18, (Value.slice none 0 0)] 94 (0, 0))] ++ (Hl2q58 ++ ([(btq54, .cells #[vtq54, (Value.slice none 0 0)] 94 (0, 0))] ++ (Htq54 ++ (Hv ++ ([])))))))))) := (by
                 have hT := Mem.back hF57 k_w56
                 try simp only [List.append_assoc, List.cons_append, List.nil_append, List.append_nil] at hT ⊢
                 exact hT)
               obtain ⟨LW4, hLW4⟩ : ∃ q, q = (commitF hh LW lp).2 := ⟨_, rfl⟩
               have hG59 : MapG mN b2q58 (openS LW4) Hm2q58 := by rw [hLW4]; exact gm2q58
               have hM4 : rs2q58.map (·.2) = LW4 := by rw [hLW4]; exact hM2q58
               have hJ4 : JI Ls2q58 fr2q58 hh ge2q58 LW4 := by rw [hLW4]; exact hJ2q58
               have hok4 : okS LW4 = true := by rw [hLW4]; exact ho2q58
               have hm60 : Mem w56 (restOf w0) ([(bsq23, .cells #[(ptr bjq23 0), (Value.map (some b2q58))] 118 (0, 0))] ++ (Hm2q58 ++ ([(bjq23, .cells #[(ptr bdq18 0), (i64 (fr2q58 : Int)), (i64 (hh : Int)), (u64 ge2q58), vr2q58, (i64 (roomB LW4 : Int))] 100 (0, 0))] ++ (Hr2q58 ++ ([(bdq18, .cells #[vlq18, (Value.slice none 0 0)] 94 (0, 0))] ++ (Hl2q58 ++ ([(btq54, .cells #[vtq54, (Value.slice none 0 0)] 94 (0, 0))] ++ (Htq54 ++ (Hv ++ ([])))))))))) := by rw [hLW4]; exact hm56
               have hge4 := hg2q58
               have hLl4 := hl2q58
               have hst4 : StepC hh L1 fr ge LW Ls2q58 fr2q58 ge2q58 LW4 := by rw [hLW4]; exact hst2q58
               have hR4 : RightK (openS LW4) := openS_right fun b hb => by have := hJ4.el b hb; omega
               have hBn4 : BndK (20 * k + 20) (openS LW4) := by rw [hLW4]; exact hBn.commit hok hR0 hgs
               have hBl4 := hBn4.1
               refine rw_q rfl (ev_i64_eql (b := 0) rfl rfl) <| rN ?_
               refine cw_meet (J := fun g wv => ∃ (vv5 : Value) (ps5 : List PairT) (Hx : List (Nat × Obj)), (RdH (restOf w0).blk (Hx ++ Hv) vv5 ps5) ∧ (ps5.map kvOf = openS LW4) ∧ (ValQ (restOf w0).blk ps5) ∧ g 0 = (i64 (n : Int)) ∧ g 1 = vL ∧ g 2 = vp ∧ g 3 = vq ∧ g 8 = (bl false) ∧ g 9 = (ptr bdq18 0) ∧ g 10 = (i64 0) ∧ g 11 = (ptr bsq23 0) ∧ g 12 = (i64 0) ∧ g 13 = vv ∧ g 16 = (ptr btq54 0) ∧ g 17 = vv5 ∧ g 24 = (bl false) ∧ g 43 = (bl (decide (200 < (qs.length : Int)))) ∧ g 54 = (bl false) ∧ g 65 = (bl false) ∧ g 67 = vL ∧ g 68 = (i64 (lL.length : Int)) ∧ g 69 = (i64 (k : Int)) ∧ g 70 = (bl (decide ((k : Int) < (lL.length : Int)))) ∧ g 87 = (bl (((commitF hh LW lp).1) == 0)) ∧ Mem wv (restOf w0) ([(bsq23, .cells #[(ptr bjq23 0), (Value.map (some b2q58))] 118 (0, 0))] ++ (Hm2q58 ++ ([(bjq23, .cells #[(ptr bdq18 0), (i64 (fr2q58 : Int)), (i64 (hh : Int)), (u64 ge2q58), vr2q58, (i64 (roomB LW4 : Int))] 100 (0, 0))] ++ (Hr2q58 ++ ([(bdq18, .cells #[vlq18, (Value.slice none 0 0)] 94 (0, 0))] ++ (Hl2q58 ++ ([(btq54, .cells #[vtq54, (Value.slice none 0 0)] 94 (0, 0))] ++ (Htq54 ++ (Hx ++ (Hv ++ ([])))))))))))) ?_ ?_
               · skip
                 refine cw_cond rfl (fun hc61 => ?_) (fun hc61 => ?_)
                 · -- true
                   have hc61p := eq_of_beq hc61
                   refine cw_region <| rM rfl s13 <| rM rfl s2 <| rw_c rfl (opR_call Try.func40 bd40 nm40 (args2 rfl rfl) (c_rdo (restOf w0).blk Hv vv ps vp lp _ (fun b o e => (hm60).rest b o e) (fun q hq => (hm60).own _ (List.mem_append_right _ (List.mem_append_right _ (List.mem_append_right _ (List.mem_append_right _ (List.mem_append_right _ (List.mem_append_right _ (List.mem_append_right _ (List.mem_append_right _ (List.mem_append_left _ hq)))))))))) hrv (fun a h => Rd.ofRest ((fun a h => (hV a h).1) a h) hm60) (RdK.ofRest hrp hm60) (fun a h => Rd.ofRest (hqp a h) hm60) (fun a h => (hV a h).2) sL)) ?_
                   rintro rq63 w62 ⟨psq63, Hsq63, hkvq63, hfrq63, hplq63, hrrq63, k_w62⟩
                   have hm62 : Mem w62 (restOf w0) (Hsq63 ++ ([(bsq23, .cells #[(ptr bjq23 0), (Value.map (some b2q58))] 118 (0, 0))] ++ (Hm2q58 ++ ([(bjq23, .cells #[(ptr bdq18 0), (i64 (fr2q58 : Int)), (i64 (hh : Int)), (u64 ge2q58), vr2q58, (i64 (roomB LW4 : Int))] 100 (0, 0))] ++ (Hr2q58 ++ ([(bdq18, .cells #[vlq18, (Value.slice none 0 0)] 94 (0, 0))] ++ (Hl2q58 ++ ([(btq54, .cells #[vtq54, (Value.slice none 0 0)] 94 (0, 0))] ++ (Htq54 ++ (Hv ++ ([]))))))))))) := Mem.new (H := [(bsq23, .cells #[(ptr bjq23 0), (Value.map (some b2q58))] 118 (0, 0))] ++ (Hm2q58 ++ ([(bjq23, .cells #[(ptr bdq18 0), (i64 (fr2q58 : Int)), (i64 (hh : Int)), (u64 ge2q58), vr2q58, (i64 (roomB LW4 : Int))] 100 (0, 0))] ++ (Hr2q58 ++ ([(bdq18, .cells #[vlq18, (Value.slice none 0 0)] 94 (0, 0))] ++ (Hl2q58 ++ ([(btq54, .cells #[vtq54, (Value.slice none 0 0)] 94 (0, 0))] ++ (Htq54 ++ (Hv ++ ([])))))))))) (H' := Hsq63) hm60 k_w62
                   have hV1 : ValQ (restOf w0).blk psq63 := hV.step hqp hfrq63
                   have hkv1 := hkvq63
                   rw [hkv] at hkv1
                   refine rA rfl (v := rq63) rfl <| rN ?_
                   have hm64 := (Mem.pick9 Hsq63 [_] Hm2q58 [_] Hr2q58 [_] Hl2q58 [_] Htq54 Hv _ hm62)
                   have hm65 := (Mem.pick Hv Hsq63 _ hm64)
                   have hm66 := (Mem.pick9 Hsq63 Hv [_] Hm2q58 [_] Hr2q58 [_] Hl2q58 [_] Htq54 _ hm65)
                   have hm67 := (Mem.pick9 Htq54 Hsq63 Hv [_] Hm2q58 [_] Hr2q58 [_] Hl2q58 [_] _ hm66)
                   have hm68 := (Mem.pick9 [_] Htq54 Hsq63 Hv [_] Hm2q58 [_] Hr2q58 [_] Hl2q58 _ hm67)
                   have hm69 := (Mem.pick9 Hl2q58 [_] Htq54 Hsq63 Hv [_] Hm2q58 [_] Hr2q58 [_] _ hm68)
                   have hm70 := (Mem.pick9 [_] Hl2q58 [_] Htq54 Hsq63 Hv [_] Hm2q58 [_] Hr2q58 _ hm69)
                   have hm71 := (Mem.pick9 Hr2q58 [_] Hl2q58 [_] Htq54 Hsq63 Hv [_] Hm2q58 [_] _ hm70)
                   have hm72 := (Mem.pick9 [_] Hr2q58 [_] Hl2q58 [_] Htq54 Hsq63 Hv [_] Hm2q58 _ hm71)
                   have hm73 := (Mem.pick9 Hm2q58 [_] Hr2q58 [_] Hl2q58 [_] Htq54 Hsq63 Hv [_] _ hm72)
                   exact ⟨rq63, psq63, Hsq63, hrrq63, (by rw [hLW4, (commit_ok (hh := hh) hok hR0 (fun p hp => (hgs.el p hp).2)).2, if_pos (eq_of_beq hc61)]; exact hkv1), hV1, s0, s1, s2, s3, s8, s9, s10, s11, s12, s13, rfl, rfl, s24, s43, s54, s65, s67, s68, s69, rfl, rfl, (by
                     have hT := hm73
                     try simp only [List.append_assoc, List.cons_append, List.nil_append, List.append_nil] at hT ⊢
                     exact hT)⟩
                 · -- false
                   have hc61p := ne_of_beq_false hc61
                   refine cw_skip (kThen_normal ?_)
                   exact ⟨vv, ps, [], hrv, (by rw [hLW4, (commit_ok (hh := hh) hok hR0 (fun p hp => (hgs.el p hp).2)).2, if_neg (ne_of_beq_false hc61)]; exact hkv), hV, s0, s1, s2, s3, s8, s9, s10, s11, s12, s13, rfl, rfl, s24, s43, s54, s65, s67, s68, s69, rfl, rfl, (by
                     have hT := hm60
                     try simp only [List.append_assoc, List.cons_append, List.nil_append, List.append_nil] at hT ⊢
                     exact hT)⟩
               · rintro fr74 w75 ⟨vv5, ps5, Hx, hrv5, hkv5, hV5, s0, s1, s2, s3, s8, s9, s10, s11, s12, s13, s16, s17, s24, s43, s54, s65, s67, s68, s69, s70, s87, hm75⟩
                 refine sR <| rM rfl s16 <| rw_c rfl (opR_call Try.func25 bd25 nm25 (args1 rfl) (c_blocks btq54 vtq54 L1 (Value.slice none 0 0) _ ((Mem.pick6 [_] Hm2q58 [_] Hr2q58 [_] Hl2q58 [_] _ hm75)).h0 (gg55.rd (Mem.pick7 [_] Hm2q58 [_] Hr2q58 [_] Hl2q58 [_] Htq54 _ hm75)) (RdK.nil _ _) sL)) ?_
                 rintro rq77 w76 ⟨Hsq77, grq77, k_w76⟩
                 have hm76 : Mem w76 (restOf w0) (Hsq77 ++ ([(bsq23, .cells #[(ptr bjq23 0), (Value.map (some b2q58))] 118 (0, 0))] ++ (Hm2q58 ++ ([(bjq23, .cells #[(ptr bdq18 0), (i64 (fr2q58 : Int)), (i64 (hh : Int)), (u64 ge2q58), vr2q58, (i64 (roomB LW4 : Int))] 100 (0, 0))] ++ (Hr2q58 ++ ([(bdq18, .cells #[vlq18, (Value.slice none 0 0)] 94 (0, 0))] ++ (Hl2q58 ++ ([(btq54, .cells #[vtq54, (Value.slice none 0 0)] 94 (0, 0))] ++ (Htq54 ++ (Hx ++ (Hv ++ ([])))))))))))) := Mem.new (H := [(bsq23, .cells #[(ptr bjq23 0), (Value.map (some b2q58))] 118 (0, 0))] ++ (Hm2q58 ++ ([(bjq23, .cells #[(ptr bdq18 0), (i64 (fr2q58 : Int)), (i64 (hh : Int)), (u64 ge2q58), vr2q58, (i64 (roomB LW4 : Int))] 100 (0, 0))] ++ (Hr2q58 ++ ([(bdq18, .cells #[vlq18, (Value.slice none 0 0)] 94 (0, 0))] ++ (Hl2q58 ++ ([(btq54, .cells #[vtq54, (Value.slice none 0 0)] 94 (0, 0))] ++ (Htq54 ++ (Hx ++ (Hv ++ ([]))))))))))) (H' := Hsq77) hm75 k_w76
                 refine rM rfl s9 <| rw_c rfl (opR_call Try.func25 bd25 nm25 (args1 rfl) (c_blocks bdq18 vlq18 Ls2q58 (Value.slice none 0 0) _ ((Mem.pick5 Hsq77 [_] Hm2q58 [_] Hr2q58 [_] _ hm76)).h0 (gl2q58.rd (Mem.pick6 Hsq77 [_] Hm2q58 [_] Hr2q58 [_] Hl2q58 _ hm76)) (RdK.nil _ _) sL)) ?_
                 rintro rq79 w78 ⟨Hsq79, grq79, k_w78⟩
                 have hm78 : Mem w78 (restOf w0) (Hsq79 ++ (Hsq77 ++ ([(bsq23, .cells #[(ptr bjq23 0), (Value.map (some b2q58))] 118 (0, 0))] ++ (Hm2q58 ++ ([(bjq23, .cells #[(ptr bdq18 0), (i64 (fr2q58 : Int)), (i64 (hh : Int)), (u64 ge2q58), vr2q58, (i64 (roomB LW4 : Int))] 100 (0, 0))] ++ (Hr2q58 ++ ([(bdq18, .cells #[vlq18, (Value.slice none 0 0)] 94 (0, 0))] ++ (Hl2q58 ++ ([(btq54, .cells #[vtq54, (Value.slice none 0 0)] 94 (0, 0))] ++ (Htq54 ++ (Hx ++ (Hv ++ ([]))))))))))))) := Mem.new (H := Hsq77 ++ ([(bsq23, .cells #[(ptr bjq23 0), (Value.map (some b2q58))] 118 (0, 0))] ++ (Hm2q58 ++ ([(bjq23, .cells #[(ptr bdq18 0), (i64 (fr2q58 : Int)), (i64 (hh : Int)), (u64 ge2q58), vr2q58, (i64 (roomB LW4 : Int))] 100 (0, 0))] ++ (Hr2q58 ++ ([(bdq18, .cells #[vlq18, (Value.slice none 0 0)] 94 (0, 0))] ++ (Hl2q58 ++ ([(btq54, .cells #[vtq54, (Value.slice none 0 0)] 94 (0, 0))] ++ (Htq54 ++ (Hx ++ (Hv ++ ([])))))))))))) (H' := Hsq79) hm76 k_w78
                 refine rA rfl (v := rq77) rfl <| rA rfl (v := rq79) rfl ?_
                 refine rN (cw_seq (sR ?_))
                 refine rM rfl (v := rq77) rfl <| rw_q (v := (i64 (L1.length : Int))) rfl (ev_len_rk (grq77.rd (Mem.pick Hsq79 Hsq77 _ hm78)) uT40 rfl) <| rw_q rfl (ev_move (v := (i64 0)) rfl) ?_
                 refine rN (cw_block ?_)
                 refine cw_loop (fun g wv => ∃ (k2 : Nat) (vk2 : Value) (Hk2 : List (Nat × Obj)), (k2 ≤ L1.length) ∧ (GrowK encW 65 104 vk2 (diffK L1 Ls2q58 k2) Hk2) ∧ g 0 = (i64 (n : Int)) ∧ g 1 = vL ∧ g 2 = vp ∧ g 3 = vq ∧ g 8 = (bl false) ∧ g 9 = (ptr bdq18 0) ∧ g 10 = (i64 0) ∧ g 11 = (ptr bsq23 0) ∧ g 12 = (i64 0) ∧ g 13 = vv ∧ g 16 = (ptr btq54 0) ∧ g 17 = vv5 ∧ g 18 = rq77 ∧ g 19 = rq79 ∧ g 24 = (bl false) ∧ g 43 = (bl (decide (200 < (qs.length : Int)))) ∧ g 54 = (bl false) ∧ g 65 = (bl false) ∧ g 67 = vL ∧ g 68 = (i64 (lL.length : Int)) ∧ g 69 = (i64 (k : Int)) ∧ g 70 = (bl (decide ((k : Int) < (lL.length : Int)))) ∧ g 87 = (bl (((commitF hh LW lp).1) == 0)) ∧ g 96 = (i64 (L1.length : Int)) ∧ g 97 = (i64 (k2 : Int)) ∧ Mem wv (restOf w0) ([(btq54, .cells #[vtq54, vk2] 94 (0, 0))] ++ (Htq54 ++ (Hk2 ++ ([(bsq23, .cells #[(ptr bjq23 0), (Value.map (some b2q58))] 118 (0, 0))] ++ (Hm2q58 ++ ([(bjq23, .cells #[(ptr bdq18 0), (i64 (fr2q58 : Int)), (i64 (hh : Int)), (u64 ge2q58), vr2q58, (i64 (roomB LW4 : Int))] 100 (0, 0))] ++ (Hr2q58 ++ ([(bdq18, .cells #[vlq18, (Value.slice none 0 0)] 94 (0, 0))] ++ (Hl2q58 ++ (Hx ++ (Hv ++ (Hsq77 ++ (Hsq79 ++ ([]))))))))))))))) (fun g wv => ((L1.length : Int) - RowKit.intOf (g 97)).toNat) ?_ ?_
                 have hm80 := (Mem.pick Hsq79 Hsq77 _ hm78)
                 have hm81 := (Mem.pick11 Hsq77 Hsq79 [_] Hm2q58 [_] Hr2q58 [_] Hl2q58 [_] Htq54 Hx Hv _ hm80)
                 have hm82 := (Mem.pick11 Hv Hsq77 Hsq79 [_] Hm2q58 [_] Hr2q58 [_] Hl2q58 [_] Htq54 Hx _ hm81)
                 have hm83 := (Mem.pick9 Hx Hv Hsq77 Hsq79 [_] Hm2q58 [_] Hr2q58 [_] Hl2q58 _ hm82)
                 have hm84 := (Mem.pick9 Hl2q58 Hx Hv Hsq77 Hsq79 [_] Hm2q58 [_] Hr2q58 [_] _ hm83)
                 have hm85 := (Mem.pick9 [_] Hl2q58 Hx Hv Hsq77 Hsq79 [_] Hm2q58 [_] Hr2q58 _ hm84)
                 have hm86 := (Mem.pick9 Hr2q58 [_] Hl2q58 Hx Hv Hsq77 Hsq79 [_] Hm2q58 [_] _ hm85)
                 have hm87 := (Mem.pick9 [_] Hr2q58 [_] Hl2q58 Hx Hv Hsq77 Hsq79 [_] Hm2q58 _ hm86)
                 have hm88 := (Mem.pick9 Hm2q58 [_] Hr2q58 [_] Hl2q58 Hx Hv Hsq77 Hsq79 [_] _ hm87)
                 have hm89 := (Mem.pick11 [_] Hm2q58 [_] Hr2q58 [_] Hl2q58 Hx Hv Hsq77 Hsq79 [_] Htq54 _ hm88)
                 have hm90 := (Mem.pick11 Htq54 [_] Hm2q58 [_] Hr2q58 [_] Hl2q58 Hx Hv Hsq77 Hsq79 [_] _ hm89)
                 · exact ⟨0, (.slice none 0 0), [], (Nat.zero_le _), (GrowK.cast (GrowK.none encW 65 104) diffK_0), s0, s1, s2, s3, s8, s9, s10, s11, s12, s13, s16, s17, rfl, rfl, s24, s43, s54, s65, s67, s68, s69, s70, s87, rfl, rfl, (by
                   have hT := hm90
                   try simp only [List.append_assoc, List.cons_append, List.nil_append, List.append_nil] at hT ⊢
                   exact hT)⟩
                 · rintro fr91 w92 ⟨k2, vk2, Hk2, hk2, gk2, s0, s1, s2, s3, s8, s9, s10, s11, s12, s13, s16, s17, s18, s19, s24, s43, s54, s65, s67, s68, s69, s70, s87, s96, s97, hm92⟩
                   have z97 := s97
                   refine sR <| rw_q rfl (ev_i64_lss s97 s96) ?_
                   refine rN (cw_seq ?_)
                   refine cw_cond rfl (fun hc93 => ?_) (fun hc93 => ?_)
                   · -- true
                     have hc93p := of_decide_eq_true hc93
                     have hkL2 : k2 < L1.length := by omega
                     have hxa : (L1.getD k2 []).length = 64 := getD_all hJ.all hkL2
                     have hxb : (Ls2q58.getD k2 []).length = 64 := getD_all hJ4.all oM
                     have hdl := diff_len (a := L1) (b := Ls2q58) k2
                     refine cw_skip (kThen_normal (cw_seq (cw_block (sR ?_))))
                     refine rM rfl s97 <| rw_q rfl (ev_assign (v := (i64 (k2 : Int))) rfl) ?_
                     refine rN (cw_seq ?_)
                     refine cw_draw [(0, false), (1, false), (2, false), (3, false), (4, false), (5, false), (6, false), (7, false)] 8 (by kernel_rfl) <| dM rfl rfl s18 <| dw_q rfl rfl (fun _ _hx => ev_move (v := (i64 (k2 : Int))) rfl) <| dw_q rfl rfl (fun _ _hx => ev_indexAddr_rk (i := (k2 : Int)) (grq77.rd (Mem.pick11 [_] Htq54 Hk2 [_] Hm2q58 [_] Hr2q58 [_] Hl2q58 Hx Hv Hsq77 _ (hm92.ext _hx))) uT40 ti83 rfl rfl oM sL) <| dw_q (v := (agg u8 (L1.getD k2 []))) rfl rfl (fun _ _hx => ev_load_rka (i := (k2 : Int)) (grq77.rd (Mem.pick11 [_] Htq54 Hk2 [_] Hm2q58 [_] Hr2q58 [_] Hl2q58 Hx Hv Hsq77 _ (hm92.ext _hx))) sL uT83 ti83 rfl rfl) <| dM rfl rfl s19 ?_
                     refine dw_q rfl rfl (fun _ _hx => ev_move (v := (i64 (k2 : Int))) rfl) <| dw_q rfl rfl (fun _ _hx => ev_indexAddr_rk (i := (k2 : Int)) (grq79.rd (Mem.pick12 [_] Htq54 Hk2 [_] Hm2q58 [_] Hr2q58 [_] Hl2q58 Hx Hv Hsq77 Hsq79 _ (hm92.ext _hx))) uT40 ti83 rfl rfl oM sL) <| dw_q (v := (agg u8 (Ls2q58.getD k2 []))) rfl rfl (fun _ _hx => ev_load_rka (i := (k2 : Int)) (grq79.rd (Mem.pick12 [_] Htq54 Hk2 [_] Hm2q58 [_] Hr2q58 [_] Hl2q58 Hx Hv Hsq77 Hsq79 _ (hm92.ext _hx))) sL uT83 ti83 rfl rfl) ?_
                     refine dw_nil (fun w94 _ew94 => ?_)
                     have hm94 := hm92.ext _ew94
                     refine rw_q rfl (ev_u8arr_neq (l := L1.getD k2 []) (m := Ls2q58.getD k2 []) uT83 uT5 ti5 Try.eqGuardType83 rfl rfl (by first | rfl | first | omega | (simp only [List.length_set, List.length_append, List.length_replicate, List.length_map, List.length_cons, List.length_nil]; omega) | (simp; done) | (simp; omega) | decide) (by first | rfl | first | omega | (simp only [List.length_set, List.length_append, List.length_replicate, List.length_map, List.length_cons, List.length_nil]; omega) | (simp; done) | (simp; omega) | decide)) <| rN ?_
                     refine cw_cond rfl (fun hc95 => ?_) (fun hc95 => ?_)
                     · -- true
                       have hc95p := bne_iff_ne.1 hc95
                       refine cw_region <| rM rfl s16 <| rw_q rfl (ev_move (v := (i64 (k2 : Int))) rfl) <| rM rfl s19 <| rw_q rfl (ev_move (v := (i64 (k2 : Int))) rfl) <| rw_q rfl (ev_indexAddr_rk (i := (k2 : Int)) (grq79.rd (Mem.pick12 [_] Htq54 Hk2 [_] Hm2q58 [_] Hr2q58 [_] Hl2q58 Hx Hv Hsq77 Hsq79 _ hm94)) uT40 ti83 rfl rfl oM sL) ?_
                       refine rw_q (v := (agg u8 (Ls2q58.getD k2 []))) rfl (ev_load_rka (i := (k2 : Int)) (grq79.rd (Mem.pick12 [_] Htq54 Hk2 [_] Hm2q58 [_] Hr2q58 [_] Hl2q58 Hx Hv Hsq77 Hsq79 _ hm94)) sL uT83 ti83 rfl rfl) ?_
                       have hF97 : Mem w94 (restOf w0) (([(btq54, .cells #[vtq54, vk2] 94 (0, 0))] ++ (Htq54 ++ (Hk2 ++ ([])))) ++ ([(bsq23, .cells #[(ptr bjq23 0), (Value.map (some b2q58))] 118 (0, 0))] ++ (Hm2q58 ++ ([(bjq23, .cells #[(ptr bdq18 0), (i64 (fr2q58 : Int)), (i64 (hh : Int)), (u64 ge2q58), vr2q58, (i64 (roomB LW4 : Int))] 100 (0, 0))] ++ (Hr2q58 ++ ([(bdq18, .cells #[vlq18, (Value.slice none 0 0)] 94 (0, 0))] ++ (Hl2q58 ++ (Hx ++ (Hv ++ (Hsq77 ++ (Hsq79 ++ ([])))))))))))) := by
                         have hT := (Mem.pick2 Htq54 Hk2 [_] _ (Mem.pick2 Hk2 [_] Htq54 _ (Mem.pick2 [_] Htq54 Hk2 _ hm94)))
                         try simp only [List.append_assoc, List.cons_append, List.nil_append, List.append_nil] at hT ⊢
                         exact hT
                       refine rw_c rfl (opR_call Try.func45 bd45 nm45 (args3 rfl rfl rfl) (c_dwrite btq54 vtq54 L1 Htq54 vk2 (diffK L1 Ls2q58 k2) Hk2 (k2 : Int) (Ls2q58.getD k2 []) _ _ (Mem.give hF97) gg55 gk2 sL sL sL)) ?_
                       rintro _ w96 ⟨vp2q98, Hp2q98, rfl, gp2q98, k_w96⟩
                       have hm96 : Mem w96 (restOf w0) ([(btq54, .cells #[vtq54, vp2q98] 94 (0, 0))] ++ (Htq54 ++ (Hp2q98 ++ ([(bsq23, .cells #[(ptr bjq23 0), (Value.map (some b2q58))] 118 (0, 0))] ++ (Hm2q58 ++ ([(bjq23, .cells #[(ptr bdq18 0), (i64 (fr2q58 : Int)), (i64 (hh : Int)), (u64 ge2q58), vr2q58, (i64 (roomB LW4 : Int))] 100 (0, 0))] ++ (Hr2q58 ++ ([(bdq18, .cells #[vlq18, (Value.slice none 0 0)] 94 (0, 0))] ++ (Hl2q58 ++ (Hx ++ (Hv ++ (Hsq77 ++ (Hsq79 ++ ([])))))))))))))) := (by
                         have hT := Mem.back hF97 k_w96
                         try simp only [List.append_assoc, List.cons_append, List.nil_append, List.append_nil] at hT ⊢
                         exact hT)
                       refine rw_nil (kBlk_normal ?_)
                       refine CW.abs (fun g => g 0 = (i64 (n : Int)) ∧ g 1 = vL ∧ g 2 = vp ∧ g 3 = vq ∧ g 8 = (bl false) ∧ g 9 = (ptr bdq18 0) ∧ g 10 = (i64 0) ∧ g 11 = (ptr bsq23 0) ∧ g 12 = (i64 0) ∧ g 13 = vv ∧ g 16 = (ptr btq54 0) ∧ g 17 = vv5 ∧ g 18 = rq77 ∧ g 19 = rq79 ∧ g 20 = (i64 (k2 : Int)) ∧ g 24 = (bl false) ∧ g 43 = (bl (decide (200 < (qs.length : Int)))) ∧ g 54 = (bl false) ∧ g 65 = (bl false) ∧ g 67 = vL ∧ g 68 = (i64 (lL.length : Int)) ∧ g 69 = (i64 (k : Int)) ∧ g 70 = (bl (decide ((k : Int) < (lL.length : Int)))) ∧ g 87 = (bl (((commitF hh LW lp).1) == 0)) ∧ g 96 = (i64 (L1.length : Int)) ∧ g 97 = (i64 (k2 : Int)) ∧ g 98 = (bl (decide ((k2 : Int) < (L1.length : Int)))) ∧ g 108 = (bl ((L1.getD k2 []) != (Ls2q58.getD k2 []))) ∧ True) ⟨s0, s1, s2, s3, s8, s9, s10, s11, s12, s13, s16, s17, s18, s19, rfl, s24, s43, s54, s65, s67, s68, s69, s70, s87, s96, s97, rfl, rfl, trivial⟩ ?_
                       rintro fr99 ⟨s0, s1, s2, s3, s8, s9, s10, s11, s12, s13, s16, s17, s18, s19, s20, s24, s43, s54, s65, s67, s68, s69, s70, s87, s96, s97, s98, s108, _⟩
                       refine cw_region <| rw_q rfl (ev_i64_add (b := 1) s97 rfl oM oM) <| rw_q rfl (ev_move (v := (i64 ((k2 : Int) + 1))) rfl) <| rN ?_
                       exact ⟨⟨(k2 + 1), vp2q98, Hp2q98, oM, (GrowK.cast gp2q98 (diff_t hc95)), s0, s1, s2, s3, s8, s9, s10, s11, s12, s13, s16, s17, s18, s19, s24, s43, s54, s65, s67, s68, s69, s70, s87, s96, rfl, (by
                         have hT := hm96
                         try simp only [List.append_assoc, List.cons_append, List.nil_append, List.append_nil] at hT ⊢
                         exact hT)⟩, meas (rfl) z97 oM oM⟩
                     · -- false
                       have hc95p := eq_of_bne_false hc95
                       refine cw_skip (kBlk_normal (cw_region ?_))
                       refine rw_q rfl (ev_i64_add (b := 1) s97 rfl oM oM) <| rw_q rfl (ev_move (v := (i64 ((k2 : Int) + 1))) rfl) <| rN ?_
                       exact ⟨⟨(k2 + 1), vk2, Hk2, oM, (GrowK.cast gk2 (diff_f hc95)), s0, s1, s2, s3, s8, s9, s10, s11, s12, s13, s16, s17, s18, s19, s24, s43, s54, s65, s67, s68, s69, s70, s87, s96, rfl, (by
                         have hT := hm94
                         try simp only [List.append_assoc, List.cons_append, List.nil_append, List.append_nil] at hT ⊢
                         exact hT)⟩, meas (rfl) z97 oM oM⟩
                   · -- false
                     have hc93p := of_decide_eq_false hc93
                     refine cw_exit ?_
                     refine kThen_exit (kThen_exit (kBlk_hit ?_))
                     refine cw_seq ?_
                     have hdl2 := diff_len (a := L1) (b := Ls2q58) k2
                     refine cw_region <| rM rfl s16 <| rM rfl s3 ?_
                     have hF101 : Mem w92 (restOf w0) (([(btq54, .cells #[vtq54, vk2] 94 (0, 0))] ++ (Htq54 ++ (Hk2 ++ ([])))) ++ ([(bsq23, .cells #[(ptr bjq23 0), (Value.map (some b2q58))] 118 (0, 0))] ++ (Hm2q58 ++ ([(bjq23, .cells #[(ptr bdq18 0), (i64 (fr2q58 : Int)), (i64 (hh : Int)), (u64 ge2q58), vr2q58, (i64 (roomB LW4 : Int))] 100 (0, 0))] ++ (Hr2q58 ++ ([(bdq18, .cells #[vlq18, (Value.slice none 0 0)] 94 (0, 0))] ++ (Hl2q58 ++ (Hx ++ (Hv ++ (Hsq77 ++ (Hsq79 ++ ([])))))))))))) := by
                       have hT := (Mem.pick2 Htq54 Hk2 [_] _ (Mem.pick2 Hk2 [_] Htq54 _ (Mem.pick2 [_] Htq54 Hk2 _ hm92)))
                       try simp only [List.append_assoc, List.cons_append, List.nil_append, List.append_nil] at hT ⊢
                       exact hT
                     refine rw_c rfl (opR_call Try.func17 bd17 nm17 (args2 rfl rfl) (c_dcrash btq54 vtq54 L1 Htq54 vk2 (diffK L1 Ls2q58 k2) Hk2 vq qs _ _ (Mem.give hF101) gg55 gk2 (Rd.addRest hF101 hq) (okP_hat (diff_ok _)) sL sL sL)) ?_
                     rintro _ w100 ⟨Hl2q102, rfl, gl2q102, k_w100⟩
                     have hm100 : Mem w100 (restOf w0) ([(btq54, .cells #[vtq54, (Value.slice none 0 0)] 94 (0, 0))] ++ (Hl2q102 ++ ([(bsq23, .cells #[(ptr bjq23 0), (Value.map (some b2q58))] 118 (0, 0))] ++ (Hm2q58 ++ ([(bjq23, .cells #[(ptr bdq18 0), (i64 (fr2q58 : Int)), (i64 (hh : Int)), (u64 ge2q58), vr2q58, (i64 (roomB LW4 : Int))] 100 (0, 0))] ++ (Hr2q58 ++ ([(bdq18, .cells #[vlq18, (Value.slice none 0 0)] 94 (0, 0))] ++ (Hl2q58 ++ (Hx ++ (Hv ++ (Hsq77 ++ (Hsq79 ++ ([]))))))))))))) := (by
                       have hT := Mem.back hF101 k_w100
                       try simp only [List.append_assoc, List.cons_append, List.nil_append, List.append_nil] at hT ⊢
                       exact hT)
                     obtain ⟨L3, hL3⟩ : ∃ q : List (List (BitVec 8)), q = (crashB L1 (diffK L1 Ls2q58 k2) qs) := ⟨_, rfl⟩
                     have gg103 : GrowK (encA u8) 64 83 vtq54 L3 Hl2q102 := GrowK.cast gl2q102 (hL3.symm)
                     have hL3l : L3.length = L1.length := by rw [hL3, crashB_len]
                     have hkt : ∀ p, Torn (L1.getD p []) (Ls2q58.getD p []) (L3.getD p []) := by rw [hL3]; exact crash_diff oM hJ.all hJ4.all
                     obtain ⟨hw1, hw2, hw3⟩ := whole_crash hJ hJ4 hst4 oM oM oM hL3l hkt
                     obtain ⟨LW5, hLW5⟩ : ∃ q, q = (oldB L3 []).2 := ⟨_, rfl⟩
                     obtain ⟨⟨fr5, hfr5, hfh5⟩, hop5, hor5⟩ := old_any (ls := L3) oM oM
                     obtain ⟨hJ5, _⟩ := open_any (fr := fr5) hw2 oM oM hw3 hfr5
                     rw [show L3.length / 2 = hh by omega, ← hLW5] at hJ5
                     rw [← hLW5] at hw1
                     have hok5 : okS LW5 = true := by
                       rcases hw1 with h | h
                       · rw [h]; exact hok
                       · rw [h]; exact hok4
                     obtain ⟨wb, hwt, hwf⟩ : ∃ wb : Bool, (wb = true → openS LW5 = openS LW) ∧ (wb = false → openS LW5 = openS LW4) := by
                       rcases hw1 with h | h
                       · exact ⟨true, (fun _ => by rw [h]), (fun h => by cases h)⟩
                       · exact ⟨false, (fun h => by cases h), (fun _ => by rw [h])⟩
                     have hR5 : RightK (openS LW5) := openS_right fun b hb => by have := hJ5.el b hb; omega
                     have hlv := congrArg List.length hkv5; rw [List.length_map] at hlv
                     refine rN (sR ?_)
                     refine rM rfl s16 ?_
                     have hF105 : Mem w100 (restOf w0) (([(btq54, .cells #[vtq54, (Value.slice none 0 0)] 94 (0, 0))] ++ (Hl2q102 ++ ([]))) ++ ([(bsq23, .cells #[(ptr bjq23 0), (Value.map (some b2q58))] 118 (0, 0))] ++ (Hm2q58 ++ ([(bjq23, .cells #[(ptr bdq18 0), (i64 (fr2q58 : Int)), (i64 (hh : Int)), (u64 ge2q58), vr2q58, (i64 (roomB LW4 : Int))] 100 (0, 0))] ++ (Hr2q58 ++ ([(bdq18, .cells #[vlq18, (Value.slice none 0 0)] 94 (0, 0))] ++ (Hl2q58 ++ (Hx ++ (Hv ++ (Hsq77 ++ (Hsq79 ++ ([])))))))))))) := by
                       have hT := (Mem.pick Hl2q102 [_] _ (Mem.pick [_] Hl2q102 _ hm100))
                       try simp only [List.append_assoc, List.cons_append, List.nil_append, List.append_nil] at hT ⊢
                       exact hT
                     refine rw_c rfl (opR_call Try.func39 bd39 nm39 (args1 rfl) (c_sopen btq54 vtq54 L3 Hl2q102 fr5 hh LW5 _ _ (Mem.give hF105) gg103 hLW5.symm hfr5 hJ5 hw3 hok5 oM)) ?_
                     rintro _ w104 ⟨bsq106, bjq106, bq106, Hmq106, vrq106, rsq106, Hrq106, Hl2q106, rfl, gmq106, hMq106, grq106, gl2q106, k_w104⟩
                     have hm104 : Mem w104 (restOf w0) ([(bsq106, .cells #[(ptr bjq106 0), (Value.map (some bq106))] 118 (0, 0))] ++ (Hmq106 ++ ([(bjq106, .cells #[(ptr btq54 0), (i64 (fr5 : Int)), (i64 (hh : Int)), (u64 (newB L3 [])), vrq106, (i64 (roomB LW5 : Int))] 100 (0, 0))] ++ (Hrq106 ++ ([(btq54, .cells #[vtq54, (Value.slice none 0 0)] 94 (0, 0))] ++ (Hl2q106 ++ ([(bsq23, .cells #[(ptr bjq23 0), (Value.map (some b2q58))] 118 (0, 0))] ++ (Hm2q58 ++ ([(bjq23, .cells #[(ptr bdq18 0), (i64 (fr2q58 : Int)), (i64 (hh : Int)), (u64 ge2q58), vr2q58, (i64 (roomB LW4 : Int))] 100 (0, 0))] ++ (Hr2q58 ++ ([(bdq18, .cells #[vlq18, (Value.slice none 0 0)] 94 (0, 0))] ++ (Hl2q58 ++ (Hx ++ (Hv ++ (Hsq77 ++ (Hsq79 ++ ([]))))))))))))))))) := (by
                       have hT := Mem.back hF105 k_w104
                       try simp only [List.append_assoc, List.cons_append, List.nil_append, List.append_nil] at hT ⊢
                       exact hT)
                     refine rw_q rfl (ev_move (v := (Value.tuple #[(ptr bsq106 0), (i64 0)])) rfl) <| rw_q (v := (ptr bsq106 0)) rfl (ev_extract rfl rfl) <| rw_q (v := (i64 0)) rfl (ev_extract rfl rfl) <| rw_q rfl (ev_assign (v := (ptr bsq106 0)) rfl) <| rw_q rfl (ev_assign (v := (i64 0)) rfl) ?_
                     refine rN (cw_seq ?_)
                     rcases Bool.eq_false_or_eq_true wb with hb107 | hb107
                     · -- true
                       have hkA : ps.map kvOf = openS LW5 := by rw [hwt hb107]; exact hkv
                       have hn5 : (openS LW5).length ≤ 1048576 := by rw [hwt hb107]; omega
                       refine cw_region <| rw_q rfl (ev_move (v := (i64 0)) rfl) <| rw_q rfl (ev_i64_eql (b := 0) rfl rfl) <| rw_q rfl (ev_move (v := (bl (0 == 0))) rfl) ?_
                       have hd108 : (0 == 0) = true := told_true rfl
                       refine rw_gyq (s := 127) rfl rfl hd108 rfl (ev_move (v := (ptr bsq106 0)) rfl) <| rw_gyq (s := 127) rfl rfl hd108 rfl (ev_move s13) <| rw_gy (s := 127) rfl rfl hd108 rfl (opR_call Try.func42 bd42 nm42 (args2 rfl rfl) (c_sis bsq106 bjq106 bq106 (openS LW5) vv ps _ hm104.h0 (MapG.rdIn gmq106 (fun p hp => (hm104).own _ (List.mem_append_right _ (List.mem_append_left _ hp))) nN) (by first | exact hR5.small | exact hR4.small) sL (hrv _ (fun q hq => (hm104).own _ (List.mem_append_right _ (List.mem_append_right _ (List.mem_append_right _ (List.mem_append_right _ (List.mem_append_right _ (List.mem_append_right _ (List.mem_append_right _ (List.mem_append_right _ (List.mem_append_right _ (List.mem_append_right _ (List.mem_append_right _ (List.mem_append_right _ (List.mem_append_right _ (List.mem_append_left _ hq))))))))))))))) (fun b o e => (hm104).rest b o e)) (fun a h => Rd.ofRest ((fun a h => (hV a h).1) a h) hm104) (by first | exact hkA | exact hkv5))) ?_
                       rintro _ w109 ⟨rfl, _ew109⟩
                       have hm109 := hm104.ext _ew109
                       refine rw_gyq (s := 127) rfl rfl hd108 rfl (ev_move (v := (bl true)) rfl) <| rw_gn (s := 131) rfl rfl rfl rfl <| rw_gn (s := 131) rfl rfl rfl rfl <| rw_gn (s := 131) rfl rfl rfl rfl <| rw_gyq (s := 127) rfl rfl hd108 rfl (ev_pick_t rfl rfl) <| rw_q rfl (ev_pick_tk rfl hd108 rfl) ?_
                       refine rw_q rfl (ev_move (v := (bl true)) rfl) <| rw_gyq (s := 137) rfl rfl rfl rfl (ev_move s11) <| rw_gyq (s := 137) rfl rfl rfl rfl (ev_move s17) <| rw_gy (s := 137) rfl rfl rfl rfl (opR_call Try.func42 bd42 nm42 (args2 rfl rfl) (c_sis bsq23 bjq23 b2q58 (openS LW4) vv5 ps5 _ ((Mem.pick6 [_] Hmq106 [_] Hrq106 [_] Hl2q106 [_] _ hm109)).h0 (MapG.rdIn hG59 (fun p hp => (hm109).own _ (List.mem_append_right _ (List.mem_append_right _ (List.mem_append_right _ (List.mem_append_right _ (List.mem_append_right _ (List.mem_append_right _ (List.mem_append_right _ (List.mem_append_left _ hp))))))))) nN) (by first | exact hR5.small | exact hR4.small) sL (hrv5 _ (fun q hq => (List.mem_append.1 hq).elim (fun hq => (hm109).own _ (List.mem_append_right _ (List.mem_append_right _ (List.mem_append_right _ (List.mem_append_right _ (List.mem_append_right _ (List.mem_append_right _ (List.mem_append_right _ (List.mem_append_right _ (List.mem_append_right _ (List.mem_append_right _ (List.mem_append_right _ (List.mem_append_right _ (List.mem_append_left _ hq)))))))))))))) (fun hq => (hm109).own _ (List.mem_append_right _ (List.mem_append_right _ (List.mem_append_right _ (List.mem_append_right _ (List.mem_append_right _ (List.mem_append_right _ (List.mem_append_right _ (List.mem_append_right _ (List.mem_append_right _ (List.mem_append_right _ (List.mem_append_right _ (List.mem_append_right _ (List.mem_append_right _ (List.mem_append_left _ hq)))))))))))))))) (fun b o e => (hm109).rest b o e)) (fun a h => Rd.ofRest ((fun a h => (hV5 a h).1) a h) hm109) (by first | exact hkA | exact hkv5))) ?_
                       rintro _ w111 ⟨rfl, _ew111⟩
                       have hm111 := hm109.ext _ew111
                       refine rw_q rfl (ev_pick_t rfl rfl) <| rw_q rfl (ev_assign (v := (bl true)) rfl) <| rN ?_
                       refine CW.abs (fun g => g 0 = (i64 (n : Int)) ∧ g 1 = vL ∧ g 2 = vp ∧ g 3 = vq ∧ g 8 = (bl true) ∧ g 9 = (ptr bdq18 0) ∧ g 10 = (i64 0) ∧ g 11 = (ptr bsq23 0) ∧ g 12 = (i64 0) ∧ g 13 = vv ∧ g 16 = (ptr btq54 0) ∧ g 17 = vv5 ∧ g 18 = rq77 ∧ g 19 = rq79 ∧ g 21 = (ptr bsq106 0) ∧ g 22 = (i64 0) ∧ g 24 = (bl false) ∧ g 43 = (bl (decide (200 < (qs.length : Int)))) ∧ g 54 = (bl false) ∧ g 65 = (bl false) ∧ g 67 = vL ∧ g 68 = (i64 (lL.length : Int)) ∧ g 69 = (i64 (k : Int)) ∧ g 70 = (bl (decide ((k : Int) < (lL.length : Int)))) ∧ g 87 = (bl (((commitF hh LW lp).1) == 0)) ∧ g 96 = (i64 (L1.length : Int)) ∧ g 97 = (i64 (k2 : Int)) ∧ g 98 = (bl (decide ((k2 : Int) < (L1.length : Int)))) ∧ True) ⟨s0, s1, s2, s3, rfl, s9, s10, s11, s12, s13, s16, s17, s18, s19, rfl, rfl, s24, s43, s54, s65, s67, s68, s69, s70, s87, s96, s97, rfl, trivial⟩ ?_
                       rintro fr113 ⟨s0, s1, s2, s3, s8, s9, s10, s11, s12, s13, s16, s17, s18, s19, s21, s22, s24, s43, s54, s65, s67, s68, s69, s70, s87, s96, s97, s98, _⟩
                       refine cw_ret <| fnPost_ret [(bl true)] ⟨s8, trivial⟩ ?_
                       exact ⟨rfl, Mem.below w0 hm111⟩
                     · -- false
                       have hkA : ps5.map kvOf = openS LW5 := by rw [hwf hb107]; exact hkv5
                       have hn5 : (openS LW5).length ≤ 1048576 := by rw [hwf hb107]; omega
                       refine cw_region <| rw_q rfl (ev_move (v := (i64 0)) rfl) <| rw_q rfl (ev_i64_eql (b := 0) rfl rfl) <| rw_q rfl (ev_move (v := (bl (0 == 0))) rfl) ?_
                       have hd114 : (0 == 0) = true := told_true rfl
                       refine rw_gyq (s := 127) rfl rfl hd114 rfl (ev_move (v := (ptr bsq106 0)) rfl) <| rw_gyq (s := 127) rfl rfl hd114 rfl (ev_move s13) <| rw_gy (s := 127) rfl rfl hd114 rfl (opR_call Try.func42 bd42 nm42 (args2 rfl rfl) (c_sis_any bsq106 bjq106 bq106 (openS LW5) vv ps _ hm104.h0 (MapG.rdIn gmq106 (fun p hp => (hm104).own _ (List.mem_append_right _ (List.mem_append_left _ hp))) nN) (by first | exact hR5.small | exact hR4.small) sL (hrv _ (fun q hq => (hm104).own _ (List.mem_append_right _ (List.mem_append_right _ (List.mem_append_right _ (List.mem_append_right _ (List.mem_append_right _ (List.mem_append_right _ (List.mem_append_right _ (List.mem_append_right _ (List.mem_append_right _ (List.mem_append_right _ (List.mem_append_right _ (List.mem_append_right _ (List.mem_append_right _ (List.mem_append_left _ hq))))))))))))))) (fun b o e => (hm104).rest b o e)) (fun a h => Rd.ofRest ((fun a h => (hV a h).1) a h) hm104) (val_small hkv hBn) sL)) ?_
                       rintro _ w115 ⟨xq116, rfl, k_w115⟩
                       have hm115 : Mem w115 (restOf w0) ([(bsq106, .cells #[(ptr bjq106 0), (Value.map (some bq106))] 118 (0, 0))] ++ (Hmq106 ++ ([(bjq106, .cells #[(ptr btq54 0), (i64 (fr5 : Int)), (i64 (hh : Int)), (u64 (newB L3 [])), vrq106, (i64 (roomB LW5 : Int))] 100 (0, 0))] ++ (Hrq106 ++ ([(btq54, .cells #[vtq54, (Value.slice none 0 0)] 94 (0, 0))] ++ (Hl2q106 ++ ([(bsq23, .cells #[(ptr bjq23 0), (Value.map (some b2q58))] 118 (0, 0))] ++ (Hm2q58 ++ ([(bjq23, .cells #[(ptr bdq18 0), (i64 (fr2q58 : Int)), (i64 (hh : Int)), (u64 ge2q58), vr2q58, (i64 (roomB LW4 : Int))] 100 (0, 0))] ++ (Hr2q58 ++ ([(bdq18, .cells #[vlq18, (Value.slice none 0 0)] 94 (0, 0))] ++ (Hl2q58 ++ (Hx ++ (Hv ++ (Hsq77 ++ (Hsq79 ++ ([]))))))))))))))))) := Mem.new (H := [(bsq106, .cells #[(ptr bjq106 0), (Value.map (some bq106))] 118 (0, 0))] ++ (Hmq106 ++ ([(bjq106, .cells #[(ptr btq54 0), (i64 (fr5 : Int)), (i64 (hh : Int)), (u64 (newB L3 [])), vrq106, (i64 (roomB LW5 : Int))] 100 (0, 0))] ++ (Hrq106 ++ ([(btq54, .cells #[vtq54, (Value.slice none 0 0)] 94 (0, 0))] ++ (Hl2q106 ++ ([(bsq23, .cells #[(ptr bjq23 0), (Value.map (some b2q58))] 118 (0, 0))] ++ (Hm2q58 ++ ([(bjq23, .cells #[(ptr bdq18 0), (i64 (fr2q58 : Int)), (i64 (hh : Int)), (u64 ge2q58), vr2q58, (i64 (roomB LW4 : Int))] 100 (0, 0))] ++ (Hr2q58 ++ ([(bdq18, .cells #[vlq18, (Value.slice none 0 0)] 94 (0, 0))] ++ (Hl2q58 ++ (Hx ++ (Hv ++ (Hsq77 ++ (Hsq79 ++ ([]))))))))))))))))) (H' := []) hm104 k_w115
                       refine rw_gyq (s := 127) rfl rfl hd114 rfl (ev_move (v := (bl xq116)) rfl) ?_
                       rcases Bool.eq_false_or_eq_true xq116 with hb117 | hb117
                       · -- true
                         refine rw_gn (s := 131) rfl rfl hb117 rfl <| rw_gn (s := 131) rfl rfl hb117 rfl <| rw_gn (s := 131) rfl rfl hb117 rfl <| rw_gyq (s := 127) rfl rfl hd114 rfl (ev_pick_tk rfl hb117 rfl) <| rw_q rfl (ev_pick_tk rfl hd114 rfl) <| rw_q rfl (ev_move (v := (bl true)) rfl) ?_
                         refine rw_gyq (s := 137) rfl rfl rfl rfl (ev_move s11) <| rw_gyq (s := 137) rfl rfl rfl rfl (ev_move s17) <| rw_gy (s := 137) rfl rfl rfl rfl (opR_call Try.func42 bd42 nm42 (args2 rfl rfl) (c_sis bsq23 bjq23 b2q58 (openS LW4) vv5 ps5 _ ((Mem.pick6 [_] Hmq106 [_] Hrq106 [_] Hl2q106 [_] _ hm115)).h0 (MapG.rdIn hG59 (fun p hp => (hm115).own _ (List.mem_append_right _ (List.mem_append_right _ (List.mem_append_right _ (List.mem_append_right _ (List.mem_append_right _ (List.mem_append_right _ (List.mem_append_right _ (List.mem_append_left _ hp))))))))) nN) (by first | exact hR5.small | exact hR4.small) sL (hrv5 _ (fun q hq => (List.mem_append.1 hq).elim (fun hq => (hm115).own _ (List.mem_append_right _ (List.mem_append_right _ (List.mem_append_right _ (List.mem_append_right _ (List.mem_append_right _ (List.mem_append_right _ (List.mem_append_right _ (List.mem_append_right _ (List.mem_append_right _ (List.mem_append_right _ (List.mem_append_right _ (List.mem_append_right _ (List.mem_append_left _ hq)))))))))))))) (fun hq => (hm115).own _ (List.mem_append_right _ (List.mem_append_right _ (List.mem_append_right _ (List.mem_append_right _ (List.mem_append_right _ (List.mem_append_right _ (List.mem_append_right _ (List.mem_append_right _ (List.mem_append_right _ (List.mem_append_right _ (List.mem_append_right _ (List.mem_append_right _ (List.mem_append_right _ (List.mem_append_left _ hq)))))))))))))))) (fun b o e => (hm115).rest b o e)) (fun a h => Rd.ofRest ((fun a h => (hV5 a h).1) a h) hm115) (by first | exact hkA | exact hkv5))) ?_
                         rintro _ w118 ⟨rfl, _ew118⟩
                         have hm118 := hm115.ext _ew118
                         refine rw_q rfl (ev_pick_t rfl rfl) <| rw_q rfl (ev_assign (v := (bl true)) rfl) <| rN ?_
                         refine CW.abs (fun g => g 0 = (i64 (n : Int)) ∧ g 1 = vL ∧ g 2 = vp ∧ g 3 = vq ∧ g 8 = (bl true) ∧ g 9 = (ptr bdq18 0) ∧ g 10 = (i64 0) ∧ g 11 = (ptr bsq23 0) ∧ g 12 = (i64 0) ∧ g 13 = vv ∧ g 16 = (ptr btq54 0) ∧ g 17 = vv5 ∧ g 18 = rq77 ∧ g 19 = rq79 ∧ g 21 = (ptr bsq106 0) ∧ g 22 = (i64 0) ∧ g 24 = (bl false) ∧ g 43 = (bl (decide (200 < (qs.length : Int)))) ∧ g 54 = (bl false) ∧ g 65 = (bl false) ∧ g 67 = vL ∧ g 68 = (i64 (lL.length : Int)) ∧ g 69 = (i64 (k : Int)) ∧ g 70 = (bl (decide ((k : Int) < (lL.length : Int)))) ∧ g 87 = (bl (((commitF hh LW lp).1) == 0)) ∧ g 96 = (i64 (L1.length : Int)) ∧ g 97 = (i64 (k2 : Int)) ∧ g 98 = (bl (decide ((k2 : Int) < (L1.length : Int)))) ∧ True) ⟨s0, s1, s2, s3, rfl, s9, s10, s11, s12, s13, s16, s17, s18, s19, rfl, rfl, s24, s43, s54, s65, s67, s68, s69, s70, s87, s96, s97, rfl, trivial⟩ ?_
                         rintro fr120 ⟨s0, s1, s2, s3, s8, s9, s10, s11, s12, s13, s16, s17, s18, s19, s21, s22, s24, s43, s54, s65, s67, s68, s69, s70, s87, s96, s97, s98, _⟩
                         refine cw_ret <| fnPost_ret [(bl true)] ⟨s8, trivial⟩ ?_
                         exact ⟨rfl, Mem.below w0 hm118⟩
                       · -- false
                         refine rw_gyq (s := 131) rfl rfl hb117 rfl (ev_move (v := (ptr bsq106 0)) rfl) <| rw_gyq (s := 131) rfl rfl hb117 rfl (ev_move s17) <| rw_gy (s := 131) rfl rfl hb117 rfl (opR_call Try.func42 bd42 nm42 (args2 rfl rfl) (c_sis bsq106 bjq106 bq106 (openS LW5) vv5 ps5 _ hm115.h0 (MapG.rdIn gmq106 (fun p hp => (hm115).own _ (List.mem_append_right _ (List.mem_append_left _ hp))) nN) (by first | exact hR5.small | exact hR4.small) sL (hrv5 _ (fun q hq => (List.mem_append.1 hq).elim (fun hq => (hm115).own _ (List.mem_append_right _ (List.mem_append_right _ (List.mem_append_right _ (List.mem_append_right _ (List.mem_append_right _ (List.mem_append_right _ (List.mem_append_right _ (List.mem_append_right _ (List.mem_append_right _ (List.mem_append_right _ (List.mem_append_right _ (List.mem_append_right _ (List.mem_append_left _ hq)))))))))))))) (fun hq => (hm115).own _ (List.mem_append_right _ (List.mem_append_right _ (List.mem_append_right _ (List.mem_append_right _ (List.mem_append_right _ (List.mem_append_right _ (List.mem_append_right _ (List.mem_append_right _ (List.mem_append_right _ (List.mem_append_right _ (List.mem_append_right _ (List.mem_append_right _ (List.mem_append_right _ (List.mem_append_left _ hq)))))))))))))))) (fun b o e => (hm115).rest b o e)) (fun a h => Rd.ofRest ((fun a h => (hV5 a h).1) a h) hm115) (by first | exact hkA | exact hkv5))) ?_
                         rintro _ w121 ⟨rfl, _ew121⟩
                         have hm121 := hm115.ext _ew121
                         refine rw_gyq (s := 127) rfl rfl hd114 rfl (ev_pick_fk rfl hb117 rfl) <| rw_q rfl (ev_pick_tk rfl hd114 rfl) <| rw_q rfl (ev_move (v := (bl true)) rfl) <| rw_gyq (s := 137) rfl rfl rfl rfl (ev_move s11) <| rw_gyq (s := 137) rfl rfl rfl rfl (ev_move s17) <| rw_gy (s := 137) rfl rfl rfl rfl (opR_call Try.func42 bd42 nm42 (args2 rfl rfl) (c_sis bsq23 bjq23 b2q58 (openS LW4) vv5 ps5 _ ((Mem.pick6 [_] Hmq106 [_] Hrq106 [_] Hl2q106 [_] _ hm121)).h0 (MapG.rdIn hG59 (fun p hp => (hm121).own _ (List.mem_append_right _ (List.mem_append_right _ (List.mem_append_right _ (List.mem_append_right _ (List.mem_append_right _ (List.mem_append_right _ (List.mem_append_right _ (List.mem_append_left _ hp))))))))) nN) (by first | exact hR5.small | exact hR4.small) sL (hrv5 _ (fun q hq => (List.mem_append.1 hq).elim (fun hq => (hm121).own _ (List.mem_append_right _ (List.mem_append_right _ (List.mem_append_right _ (List.mem_append_right _ (List.mem_append_right _ (List.mem_append_right _ (List.mem_append_right _ (List.mem_append_right _ (List.mem_append_right _ (List.mem_append_right _ (List.mem_append_right _ (List.mem_append_right _ (List.mem_append_left _ hq)))))))))))))) (fun hq => (hm121).own _ (List.mem_append_right _ (List.mem_append_right _ (List.mem_append_right _ (List.mem_append_right _ (List.mem_append_right _ (List.mem_append_right _ (List.mem_append_right _ (List.mem_append_right _ (List.mem_append_right _ (List.mem_append_right _ (List.mem_append_right _ (List.mem_append_right _ (List.mem_append_right _ (List.mem_append_left _ hq)))))))))))))))) (fun b o e => (hm121).rest b o e)) (fun a h => Rd.ofRest ((fun a h => (hV5 a h).1) a h) hm121) (by first | exact hkA | exact hkv5))) ?_
                         rintro _ w123 ⟨rfl, _ew123⟩
                         have hm123 := hm121.ext _ew123
                         refine rw_q rfl (ev_pick_t rfl rfl) <| rw_q rfl (ev_assign (v := (bl true)) rfl) <| rN ?_
                         refine CW.abs (fun g => g 0 = (i64 (n : Int)) ∧ g 1 = vL ∧ g 2 = vp ∧ g 3 = vq ∧ g 8 = (bl true) ∧ g 9 = (ptr bdq18 0) ∧ g 10 = (i64 0) ∧ g 11 = (ptr bsq23 0) ∧ g 12 = (i64 0) ∧ g 13 = vv ∧ g 16 = (ptr btq54 0) ∧ g 17 = vv5 ∧ g 18 = rq77 ∧ g 19 = rq79 ∧ g 21 = (ptr bsq106 0) ∧ g 22 = (i64 0) ∧ g 24 = (bl false) ∧ g 43 = (bl (decide (200 < (qs.length : Int)))) ∧ g 54 = (bl false) ∧ g 65 = (bl false) ∧ g 67 = vL ∧ g 68 = (i64 (lL.length : Int)) ∧ g 69 = (i64 (k : Int)) ∧ g 70 = (bl (decide ((k : Int) < (lL.length : Int)))) ∧ g 87 = (bl (((commitF hh LW lp).1) == 0)) ∧ g 96 = (i64 (L1.length : Int)) ∧ g 97 = (i64 (k2 : Int)) ∧ g 98 = (bl (decide ((k2 : Int) < (L1.length : Int)))) ∧ True) ⟨s0, s1, s2, s3, rfl, s9, s10, s11, s12, s13, s16, s17, s18, s19, rfl, rfl, s24, s43, s54, s65, s67, s68, s69, s70, s87, s96, s97, rfl, trivial⟩ ?_
                         rintro fr125 ⟨s0, s1, s2, s3, s8, s9, s10, s11, s12, s13, s16, s17, s18, s19, s21, s22, s24, s43, s54, s65, s67, s68, s69, s70, s87, s96, s97, s98, _⟩
                         refine cw_ret <| fnPost_ret [(bl true)] ⟨s8, trivial⟩ ?_
                         exact ⟨rfl, Mem.below w0 hm123⟩


end Go.Proofs.Ytfbnhoolkajebaa
