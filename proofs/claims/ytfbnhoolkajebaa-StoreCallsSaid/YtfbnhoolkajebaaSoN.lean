/- The law of all calls: its walk. Conditions: none beyond those that each theorem states. -/
import Derived.Test.YtfbnhoolkajebaaSoM
namespace Go.Proofs.Ytfbnhoolkajebaa
set_option linter.unusedVariables false
set_option linter.unusedSimpArgs false
attribute [local irreducible] crashB crashK pushB readB inB errB cutN seenW
attribute [local irreducible] markB putB getB getK partB placeF blkOf rawB writeK blocksN
attribute [local irreducible] mostK newB roomB
attribute [local irreducible] recB recF recN genF badB lastP dataB gOf rOf pOf nOf loopH readH
attribute [local irreducible] okP layK turnL turnP oldB
attribute [local irreducible] openD
attribute [local irreducible] natB tkN tkOk kN vN_ oneOk oneR decF decP decV decE rightB encK recP num2 num4 allR goneB encV encE encL encS doO openK openS okS doK commitF lkA keysB
set_option maxHeartbeats 2000000 in
theorem law_scalls (size : Int) (vL : Value) (lL : List PLT) (front : ByteArray) (w0 : World)  (hsz : -9223372036854775808 ≤ size ∧ size ≤ 9223372036854775807) (hrL : RdK (blks w0) encPL 1 vL lL) (hqL : ∀ a ∈ lL, PlR (blks w0) a) (hqB : ∀ a ∈ lL, PlB a) (hlL : lL.length ≤ 9223372036854775807) (hfs : front.size ≤ 9223372036854775807) : CallsR Try.prog 7 #[(i64 size), vL, (Value.string front)] w0 (fun r w1 => r = bl true ∧ RowKit.Below w0.heap.size w0 w1) := by
 refine callsR_of_cw (args := [(i64 size), vL, (Value.string front)]) Try.func7 rfl Try.ntmps7 Try.results7 rfl ?_
 have hm0 : Mem w0 (restOf w0) [] := Mem.of_world w0
 refine sR <| rw_q rfl (ev_assign (v := (bl false)) rfl) ?_
 refine rN (cw_seq (sR ?_))
 refine rw_c rfl (opR_call Try.func30 bd30 nm30 (args0) (c_speaks16 _)) ?_
 rintro _ w1 ⟨rfl, _ew1⟩
 have hm1 := hm0.ext _ew1
 refine rw_q (v := (bl false)) rfl (ev_not (b := true) rfl) <| rN <| cw_cond_f rfl (by decide) ?_
 refine cw_skip (kThen_normal (cw_seq (sR ?_)))
 refine rw_q rfl (ev_move (v := (i64 size)) rfl) <| rw_q rfl (ev_i64_lss (b := 4) rfl rfl) <| rw_q rfl (ev_move (v := (bl (decide (size < 4)))) rfl) ?_
 rcases Bool.eq_false_or_eq_true (decide (size < 4)) with hb3 | hb3
 · -- true
   have hb3p := of_decide_eq_true hb3
   refine rw_gn (s := 28) rfl rfl hb3 rfl <| rw_gn (s := 28) rfl rfl hb3 rfl <| rw_q rfl (ev_pick_tk rfl hb3 rfl) <| rw_q rfl (ev_move (v := (bl true)) rfl) <| rw_gn (s := 32) rfl rfl rfl rfl <| rw_gn (s := 32) rfl rfl rfl rfl ?_
   refine rw_q rfl (ev_pick_t rfl rfl) <| rw_q rfl (ev_move (v := (bl true)) rfl) <| rw_gn (s := 36) rfl rfl rfl rfl <| rw_gn (s := 36) rfl rfl rfl rfl <| rw_gn (s := 36) rfl rfl rfl rfl <| rw_q rfl (ev_pick_t rfl rfl) ?_
   refine rN ?_
   refine CW.abs (fun g => g 0 = (i64 size) ∧ g 1 = vL ∧ g 2 = (Value.string front) ∧ g 6 = (bl false) ∧ g 25 = (bl false) ∧ g 40 = (bl true) ∧ True) ⟨rfl, rfl, rfl, rfl, rfl, rfl, trivial⟩ ?_
   rintro fr4 ⟨s0, s1, s2, s6, s25, s40, _⟩
   refine cw_cond_t s40 (by decide) <| sR <| rw_q rfl (ev_assign (v := (bl true)) rfl) ?_
   refine rN (cw_ret (kThen_ret ?_))
   refine fnPost_ret [(bl true)] ⟨rfl, trivial⟩ ?_
   exact ⟨rfl, Mem.below w0 hm1⟩
 · -- false
   have hb3p := of_decide_eq_false hb3
   refine rw_gyq (s := 28) rfl rfl hb3 rfl (ev_move (v := (i64 size)) rfl) <| rw_gyq (s := 28) rfl rfl hb3 rfl (ev_i64_gtr (b := 300) rfl rfl) <| rw_q rfl (ev_pick_fk rfl hb3 rfl) <| rw_q rfl (ev_move (v := (bl (decide (300 < size)))) rfl) ?_
   rcases Bool.eq_false_or_eq_true (decide (300 < size)) with hb5 | hb5
   · -- true
     have hb5p := of_decide_eq_true hb5
     refine rw_gn (s := 32) rfl rfl hb5 rfl <| rw_gn (s := 32) rfl rfl hb5 rfl <| rw_q rfl (ev_pick_tk rfl hb5 rfl) <| rw_q rfl (ev_move (v := (bl true)) rfl) <| rw_gn (s := 36) rfl rfl rfl rfl <| rw_gn (s := 36) rfl rfl rfl rfl ?_
     refine rw_gn (s := 36) rfl rfl rfl rfl <| rw_q rfl (ev_pick_t rfl rfl) <| rN ?_
     refine CW.abs (fun g => g 0 = (i64 size) ∧ g 1 = vL ∧ g 2 = (Value.string front) ∧ g 6 = (bl false) ∧ g 25 = (bl false) ∧ g 40 = (bl true) ∧ True) ⟨rfl, rfl, rfl, rfl, rfl, rfl, trivial⟩ ?_
     rintro fr6 ⟨s0, s1, s2, s6, s25, s40, _⟩
     refine cw_cond_t s40 (by decide) <| sR <| rw_q rfl (ev_assign (v := (bl true)) rfl) ?_
     refine rN (cw_ret (kThen_ret ?_))
     refine fnPost_ret [(bl true)] ⟨rfl, trivial⟩ ?_
     exact ⟨rfl, Mem.below w0 hm1⟩
   · -- false
     have hb5p := of_decide_eq_false hb5
     refine rw_gyq (s := 32) rfl rfl hb5 rfl (ev_move (v := vL) rfl) <| rw_gy (s := 32) rfl rfl hb5 rfl (opR_call Try.func38 bd38 nm38 (args1 rfl) (c_greatL vL lL _ (RdK.ofRest hrL hm1) (fun a h => PlR.ofRest (hqL a h) hm1) hqB sL)) ?_
     rintro _ w7 ⟨gLq8, rfl, hgq8, k_w7⟩
     have hm7 : Mem w7 (restOf w0) [] := Mem.new (H := []) (H' := []) hm1 k_w7
     refine rw_q rfl (ev_pick_fk rfl hb5 rfl) <| rw_q rfl (ev_move (v := (bl gLq8)) rfl) ?_
     rcases Bool.eq_false_or_eq_true gLq8 with hb9 | hb9
     · -- true
       refine rw_gn (s := 36) rfl rfl hb9 rfl <| rw_gn (s := 36) rfl rfl hb9 rfl <| rw_gn (s := 36) rfl rfl hb9 rfl <| rw_q rfl (ev_pick_tk rfl hb9 rfl) <| rN ?_
       refine CW.abs (fun g => g 0 = (i64 size) ∧ g 1 = vL ∧ g 2 = (Value.string front) ∧ g 6 = (bl false) ∧ g 25 = (bl false) ∧ g 40 = (bl true) ∧ True) ⟨rfl, rfl, rfl, rfl, rfl, rfl, trivial⟩ ?_
       rintro fr10 ⟨s0, s1, s2, s6, s25, s40, _⟩
       refine cw_cond_t s40 (by decide) <| sR <| rw_q rfl (ev_assign (v := (bl true)) rfl) ?_
       refine rN (cw_ret (kThen_ret ?_))
       refine fnPost_ret [(bl true)] ⟨rfl, trivial⟩ ?_
       exact ⟨rfl, Mem.below w0 hm7⟩
     · -- false
       refine rw_gyq (s := 36) rfl rfl hb9 rfl (ev_move (v := (Value.string front)) rfl) <| rw_gyq (s := 36) rfl rfl hb9 rfl (ev_len_str uT9 rfl) <| rw_gyq (s := 36) rfl rfl hb9 rfl (ev_i64_gtr (b := 100) rfl rfl) <| rw_q rfl (ev_pick_fk rfl hb9 rfl) <| rN ?_
       refine CW.abs (fun g => g 0 = (i64 size) ∧ g 1 = vL ∧ g 2 = (Value.string front) ∧ g 6 = (bl false) ∧ g 25 = (bl false) ∧ g 40 = (bl (decide (100 < (front.size : Int)))) ∧ True) ⟨rfl, rfl, rfl, rfl, rfl, rfl, trivial⟩ ?_
       rintro fr11 ⟨s0, s1, s2, s6, s25, s40, _⟩
       refine cw_cond s40 (fun hc12 => ?_) (fun hc12 => ?_)
       · -- true
         have hc12p := of_decide_eq_true hc12
         refine sR <| rw_q rfl (ev_assign (v := (bl true)) rfl) ?_
         refine rN (cw_ret (kThen_ret ?_))
         refine fnPost_ret [(bl true)] ⟨rfl, trivial⟩ ?_
         exact ⟨rfl, Mem.below w0 hm7⟩
       · -- false
         have hc12p := of_decide_eq_false hc12
         have hgl := hgq8 hb9
         refine cw_skip (kThen_normal (cw_seq ?_))
         obtain ⟨n, rfl⟩ : ∃ n : Nat, size = (n : Int) := ⟨size.toNat, by omega⟩
         obtain ⟨hh, hhh⟩ : ∃ q : Nat, q = n / 2 := ⟨_, rfl⟩
         refine cw_region <| rM rfl s0 <| rw_c rfl (opR_call Try.func13 bd13 nm13 (args1 rfl) (c_dnew (n : Int) _ sL)) ?_
         rintro _ w13 ⟨bdq14, vlq14, Hlq14, rfl, glq14, k_w13⟩
         have hm13 : Mem w13 (restOf w0) ([(bdq14, .cells #[vlq14, (Value.slice none 0 0)] 94 (0, 0))] ++ (Hlq14 ++ ([]))) := (by
           have hT := Mem.new (H := []) (H' := _) hm7 k_w13
           try simp only [List.append_assoc, List.cons_append, List.nil_append, List.append_nil] at hT ⊢
           exact hT)
         have hbl0 : List.replicate (n : Int).toNat (List.replicate 64 0) = blank n := rfl
         obtain ⟨L0, hL0⟩ : ∃ q : List (List (BitVec 8)), q = (List.replicate (n : Int).toNat (List.replicate 64 0)) := ⟨_, rfl⟩
         have hL0l : L0.length = n := by rw [hL0]; simp
         have gg15 : GrowK (encA u8) 64 83 vlq14 L0 Hlq14 := GrowK.cast glq14 (hL0.symm)
         rw [hbl0] at hL0
         obtain ⟨hbJ, hbn⟩ := blank_JI (n := n) oM oM
         rw [← hL0, ← hhh] at hbJ
         rw [← hL0] at hbn
         have hn0 := new_le (ls := L0) (by rw [hL0]; exact blank_G _) (by decide)
         have hob0 : oldB L0 [] = ((L0.length : Int) / 2, [[]]) := by rw [hL0]; exact blank_old
         have hodl0 : (openD L0 []).length = L0.length := openD_len
         refine rw_q rfl (ev_move (v := (Value.tuple #[(ptr bdq14 0), (i64 0)])) rfl) <| rw_q (v := (ptr bdq14 0)) rfl (ev_extract rfl rfl) <| rw_q (v := (i64 0)) rfl (ev_extract rfl rfl) <| rw_q rfl (ev_assign (v := (ptr bdq14 0)) rfl) <| rw_q rfl (ev_assign (v := (i64 0)) rfl) ?_
         refine rN (cw_seq (sR ?_))
         refine rw_q rfl (ev_move (v := (i64 0)) rfl) <| rw_q rfl (ev_i64_neq (b := 0) rfl rfl) <| rw_q rfl (ev_move (v := (bl (0 != 0))) rfl) ?_
         have hd16 : (0 != 0) = false := told_ne rfl
         refine rw_gyq (s := 48) rfl rfl hd16 rfl (ev_move (v := (ptr bdq14 0)) rfl) <| rw_gyq (s := 48) rfl rfl hd16 rfl (ev_ptr_nil_eql uT25 rfl rfl) <| rw_q rfl (ev_pick_fk rfl hd16 rfl) <| rN <| cw_cond_f rfl (by decide) ?_
         refine cw_skip (kThen_normal (sR ?_))
         refine rw_q rfl (ev_move (v := (ptr bdq14 0)) rfl) ?_
         have hF18 : Mem w13 (restOf w0) (([(bdq14, .cells #[vlq14, (Value.slice none 0 0)] 94 (0, 0))] ++ (Hlq14 ++ ([]))) ++ ([])) := by
           have hT := (Mem.pick Hlq14 [_] _ (Mem.pick [_] Hlq14 _ hm13))
           try simp only [List.append_assoc, List.cons_append, List.nil_append, List.append_nil] at hT ⊢
           exact hT
         refine rw_c rfl (opR_call Try.func39 bd39 nm39 (args1 rfl) (c_sopen bdq14 vlq14 L0 Hlq14 0 hh [[]] _ _ (Mem.give hF18) gg15 (congrArg Prod.snd hob0) (by rw [hob0]; show _ - (L0.length : Int) / 2 = ((0 : Nat) : Int); omega) hbJ hn0.1 okS_blank oM)) ?_
         rintro _ w17 ⟨bsq19, bjq19, bq19, Hmq19, vrq19, rsq19, Hrq19, Hl2q19, rfl, gmq19, hMq19, grq19, gl2q19, k_w17⟩
         have hm17 : Mem w17 (restOf w0) ([(bsq19, .cells #[(ptr bjq19 0), (Value.map (some bq19))] 118 (0, 0))] ++ (Hmq19 ++ ([(bjq19, .cells #[(ptr bdq14 0), (i64 (0 : Int)), (i64 (hh : Int)), (u64 (newB L0 [])), vrq19, (i64 (roomB [[]] : Int))] 100 (0, 0))] ++ (Hrq19 ++ ([(bdq14, .cells #[vlq14, (Value.slice none 0 0)] 94 (0, 0))] ++ (Hl2q19 ++ ([]))))))) := (by
           have hT := Mem.back hF18 k_w17
           try simp only [List.append_assoc, List.cons_append, List.nil_append, List.append_nil] at hT ⊢
           exact hT)
         refine rw_q rfl (ev_move (v := (Value.tuple #[(ptr bsq19 0), (i64 0)])) rfl) <| rw_q (v := (ptr bsq19 0)) rfl (ev_extract rfl rfl) <| rw_q (v := (i64 0)) rfl (ev_extract rfl rfl) <| rw_q rfl (ev_assign (v := (ptr bsq19 0)) rfl) <| rw_q rfl (ev_assign (v := (i64 0)) rfl) <| rN ?_
         refine CW.abs (fun g => g 0 = (i64 (n : Int)) ∧ g 1 = vL ∧ g 2 = (Value.string front) ∧ g 6 = (bl false) ∧ g 7 = (ptr bdq14 0) ∧ g 8 = (i64 0) ∧ g 9 = (ptr bsq19 0) ∧ g 10 = (i64 0) ∧ g 25 = (bl false) ∧ g 40 = (bl (decide (100 < (front.size : Int)))) ∧ g 51 = (bl false) ∧ True) ⟨s0, s1, s2, s6, rfl, rfl, rfl, rfl, s25, s40, rfl, trivial⟩ ?_
         rintro fr20 ⟨s0, s1, s2, s6, s7, s8, s9, s10, s25, s40, s51, _⟩
         refine cw_seq (sR ?_)
         refine rM rfl s10 <| rw_q rfl (ev_i64_neq (b := 0) rfl rfl) <| rw_q rfl (ev_move (v := (bl (0 != 0))) rfl) <| rw_gyq (s := 59) rfl rfl hd16 rfl (ev_move s9) <| rw_gyq (s := 59) rfl rfl hd16 rfl (ev_ptr_nil_eql uT70 rfl rfl) <| rw_q rfl (ev_pick_fk rfl hd16 rfl) ?_
         refine rN <| cw_cond_f rfl (by decide) ?_
         refine cw_skip (kThen_normal (sR ?_))
         refine rw_c rfl (or_buildSlice_p (c := #[]) hm17 uT55 ti79 rfl pm_nil (by kernel_rfl)) ?_
         rintro _ w21 ⟨b63, rfl, _ew21, hm21⟩
         have hm21 : Mem w21 (restOf w0) ([(b63, .cells #[] 79 (0, 0)), (bsq19, .cells #[(ptr bjq19 0), (Value.map (some bq19))] 118 (0, 0))] ++ (Hmq19 ++ ([(bjq19, .cells #[(ptr bdq14 0), (i64 (0 : Int)), (i64 (hh : Int)), (u64 (newB L0 [])), vrq19, (i64 (roomB [[]] : Int))] 100 (0, 0))] ++ (Hrq19 ++ ([(bdq14, .cells #[vlq14, (Value.slice none 0 0)] 94 (0, 0))] ++ (Hl2q19 ++ ([]))))))) := hm21
         refine rw_q rfl (ev_assign (v := (slc b63 0 0 0)) rfl) ?_
         refine rN (sR ?_)
         refine rw_c rfl (or_buildSlice_cl u8 [] u8_one hm21 uT23 ti5 rfl (by simp [pairs]) rfl) ?_
         rintro _ w22 ⟨b64, rfl, _ew22, hm22⟩
         refine rw_c rfl (or_buildSlice_ones [(slc b64 0 0 0)] (by simp [slc, ptr, Value.oneCell', i64, u8, u32, u64, bl]) hm22 uT22 ti23 rfl rfl rfl) ?_
         rintro _ w23 ⟨b65, rfl, _ew23, hm23⟩
         have hm23 : Mem w23 (restOf w0) ([(b65, .cells #[(slc b64 0 0 0)] 23 (0, 0)), (b64, .cells (cl u8 ([])) 5 (0, 0)), (b63, .cells #[] 79 (0, 0)), (bsq19, .cells #[(ptr bjq19 0), (Value.map (some bq19))] 118 (0, 0))] ++ (Hmq19 ++ ([(bjq19, .cells #[(ptr bdq14 0), (i64 (0 : Int)), (i64 (hh : Int)), (u64 (newB L0 [])), vrq19, (i64 (roomB [[]] : Int))] 100 (0, 0))] ++ (Hrq19 ++ ([(bdq14, .cells #[vlq14, (Value.slice none 0 0)] 94 (0, 0))] ++ (Hl2q19 ++ ([]))))))) := hm23
         obtain ⟨HL23, gL23, hmL23⟩ : ∃ q, GrowL (restOf w0).blk 23 (slc b65 0 1 1) [toSl (slc b64 0 0 0) ([])] q ∧ Mem w23 (restOf w0) (q ++ ([(b63, .cells #[] 79 (0, 0)), (bsq19, .cells #[(ptr bjq19 0), (Value.map (some bq19))] 118 (0, 0))] ++ (Hmq19 ++ ([(bjq19, .cells #[(ptr bdq14 0), (i64 (0 : Int)), (i64 (hh : Int)), (u64 (newB L0 [])), vrq19, (i64 (roomB [[]] : Int))] 100 (0, 0))] ++ (Hrq19 ++ ([(bdq14, .cells #[vlq14, (Value.slice none 0 0)] 94 (0, 0))] ++ (Hl2q19 ++ ([])))))))) := ⟨_, GrowL.of1 (Grow.toSl ([]) (Grow.of u8 5 b64 ([]))) (el_grow (Grow.of u8 5 b64 ([]))), (by
           have hT := hm23
           try simp only [List.append_assoc, List.cons_append, List.nil_append, List.append_nil] at hT ⊢
           exact hT)⟩
         refine rw_q rfl (ev_assign (v := (slc b65 0 1 1)) rfl) ?_
         refine rN (cw_seq (sR ?_))
         refine rM rfl s1 <| rw_q (v := (i64 (lL.length : Int))) rfl (ev_len_rk (RdK.ofRest hrL hmL23) uT68 rfl) <| rw_q rfl (ev_move (v := (i64 0)) rfl) ?_
         refine rN (cw_block ?_)
         refine cw_loop (fun g wv => ∃ (k bs1 bj1 b1 : Nat) (Hm1 : List (Nat × Obj)) (fr : Nat) (ge : BitVec 64) (vr1 : Value) (rs1 : List SlT) (Hr1 : List (Nat × Obj)) (L1 : List (List (BitVec 8))) (Hl1 : List (Nat × Obj)) (LW : List (List (BitVec 8))) (vw : Value) (ws : List SlT) (Hw : List (Nat × Obj)) (vv : Value) (ps : List PairT) (Hv : List (Nat × Obj)), (k ≤ lL.length) ∧ (JI L1 fr hh ge LW) ∧ (ge.toNat ≤ 2 * k + 1) ∧ (okS LW = true) ∧ (rs1.map (·.2) = LW) ∧ (BndK (20 * k) (openS LW)) ∧ (L1.length = n) ∧ (MapG mN b1 (openS LW) Hm1) ∧ (GrowL mN 23 vr1 rs1 Hr1) ∧ (GrowK (encA u8) 64 83 vlq14 L1 Hl1) ∧ (GrowL (restOf w0).blk 23 vw ws Hw) ∧ (ws.map (·.2) = LW) ∧ (RdH (restOf w0).blk Hv vv ps) ∧ (ps.map kvOf = openS LW) ∧ (ValQ (restOf w0).blk ps) ∧ g 0 = (i64 (n : Int)) ∧ g 1 = vL ∧ g 2 = (Value.string front) ∧ g 7 = (ptr bdq14 0) ∧ g 8 = (i64 0) ∧ g 9 = (ptr bs1 0) ∧ g 11 = vv ∧ g 12 = vw ∧ g 25 = (bl false) ∧ g 40 = (bl (decide (100 < (front.size : Int)))) ∧ g 51 = (bl false) ∧ g 62 = (bl false) ∧ g 66 = vL ∧ g 67 = (i64 (lL.length : Int)) ∧ g 68 = (i64 (k : Int)) ∧ Mem wv (restOf w0) ([(bs1, .cells #[(ptr bj1 0), (Value.map (some b1))] 118 (0, 0))] ++ (Hm1 ++ ([(bj1, .cells #[(ptr bdq14 0), (i64 (fr : Int)), (i64 (hh : Int)), (u64 ge), vr1, (i64 (roomB LW : Int))] 100 (0, 0))] ++ (Hr1 ++ ([(bdq14, .cells #[vlq14, (Value.slice none 0 0)] 94 (0, 0))] ++ (Hl1 ++ (Hw ++ (Hv ++ ([])))))))))) (fun g wv => ((lL.length : Int) - RowKit.intOf (g 68)).toNat) ?_ ?_
         have hm24 := (Mem.pick HL23 [_] _ hmL23)
         have hm25 := (Mem.pick [_] HL23 _ hm24)
         have hm26 := (Mem.pick6 HL23 [_, _] Hmq19 [_] Hrq19 [_] Hl2q19 _ hm25)
         have hm27 := (Mem.pick6 Hl2q19 HL23 [_, _] Hmq19 [_] Hrq19 [_] _ hm26)
         have hm28 := (Mem.pick6 [_] Hl2q19 HL23 [_, _] Hmq19 [_] Hrq19 _ hm27)
         have hm29 := (Mem.pick6 Hrq19 [_] Hl2q19 HL23 [_, _] Hmq19 [_] _ hm28)
         have hm30 := (Mem.pick6 [_] Hrq19 [_] Hl2q19 HL23 [_, _] Hmq19 _ hm29)
         have hm31 := (Mem.pick7 Hmq19 [_] Hrq19 [_] Hl2q19 HL23 [_] [_] _ hm30)
         · exact ⟨0, bsq19, bjq19, bq19, Hmq19, 0, (newB L0 []), vrq19, rsq19, Hrq19, (openD L0 []), Hl2q19, [[]], (slc b65 0 1 1), [toSl (slc b64 0 0 0) ([])], HL23, (slc b63 0 0 0), [], [(b63, .cells #[] 79 (0, 0))], (Nat.zero_le _), hbJ, oM, okS_blank, hMq19, (by rw [openS_blank]; exact BndK.nil), oM, gmq19, grq19, gl2q19, gL23, rfl, RdH.empty, (by rw [openS_blank]; rfl), ValQ.nil, s0, s1, s2, s7, s8, s9, rfl, rfl, s25, s40, s51, rfl, rfl, rfl, rfl, (by
           have hT := hm31
           try simp only [List.append_assoc, List.cons_append, List.nil_append, List.append_nil] at hT ⊢
           exact hT)⟩
         · rintro fr32 w33 ⟨k, bs1, bj1, b1, Hm1, fr, ge, vr1, rs1, Hr1, L1, Hl1, LW, vw, ws, Hw, vv, ps, Hv, hk, hJ, hg, hok, hMr, hBn, hL1, gm1, gr1, gl1, gw, hMw, hrv, hkv, hV, s0, s1, s2, s7, s8, s9, s11, s12, s25, s40, s51, s62, s66, s67, s68, hm33⟩
           have z9 := s9
           have z11 := s11
           have z12 := s12
           have z68 := s68
           have hlwr := congrArg List.length hMr; rw [List.length_map] at hlwr
           have hlww := congrArg List.length hMw; rw [List.length_map] at hlww
           have hlpv := congrArg List.length hkv; rw [List.length_map] at hlpv
           have hBl := hBn.1
           have hJl := hJ.len; have hJr := hJ.room; have hJh := hJ.half; have hJs := hJ.small; have hel := hJ.el
           have hrml := room_len (L := LW)
           have hR0 : RightK (openS LW) := openS_right fun b hb => by have := hJ.el b hb; omega
           refine sR <| rw_q rfl (ev_i64_lss s68 s67) ?_
           refine rN (cw_seq ?_)
           refine cw_cond rfl (fun hc34 => ?_) (fun hc34 => ?_)
           · -- true
             have hc34p := of_decide_eq_true hc34
             have hkL : k < lL.length := by omega
             have hSL := hgl.2 k hkL
             have hSL1 := hSL.1
             refine cw_skip (kThen_normal (cw_seq (cw_block (sR ?_))))
             refine rM rfl s68 <| rw_q rfl (ev_indexAddr_rk (i := (k : Int)) (RdK.ofRest hrL hm33) uT68 ti55 s66 s68 oM sL) <| rw_q (v := (plv (lL.getD k pl0))) rfl (ev_load_rk1 (i := (k : Int)) (dflt := pl0) (u := (plv (lL.getD k pl0))) (RdK.ofRest hrL hm33) sL uT55 rfl rfl (by decide) rfl) <| rw_q rfl (ev_assign (v := (i64 (k : Int))) rfl) <| rw_q rfl (ev_assign (v := (plv (lL.getD k pl0))) rfl) ?_
             refine rN (sR ?_)
             refine rw_q rfl (ev_move (v := (plv (lL.getD k pl0))) rfl) <| rw_c rfl (opR_call Try.func33 bd33 nm33 (args1 rfl) (c_rencode16 (plv (lL.getD k pl0)) ((lL.getD k pl0).2) _ (RdK.ofRest (plQ1 hqL (k := k) sD) hm33) (fun a h => Rd.ofRest ((plQ2 hqL (k := k) sD) a h) hm33) sL hSL.el)) ?_
             rintro _ w35 ⟨vq36, Hsq36, rfl, grq36, k_w35⟩
             have hm35 : Mem w35 (restOf w0) (Hsq36 ++ ([(bs1, .cells #[(ptr bj1 0), (Value.map (some b1))] 118 (0, 0))] ++ (Hm1 ++ ([(bj1, .cells #[(ptr bdq14 0), (i64 (fr : Int)), (i64 (hh : Int)), (u64 ge), vr1, (i64 (roomB LW : Int))] 100 (0, 0))] ++ (Hr1 ++ ([(bdq14, .cells #[vlq14, (Value.slice none 0 0)] 94 (0, 0))] ++ (Hl1 ++ (Hw ++ (Hv ++ ([])))))))))) := Mem.new (H := [(bs1, .cells #[(ptr bj1 0), (Value.map (some b1))] 118 (0, 0))] ++ (Hm1 ++ ([(bj1, .cells #[(ptr bdq14 0), (i64 (fr : Int)), (i64 (hh : Int)), (u64 ge), vr1, (i64 (roomB LW : Int))] 100 (0, 0))] ++ (Hr1 ++ ([(bdq14, .cells #[vlq14, (Value.slice none 0 0)] 94 (0, 0))] ++ (Hl1 ++ (Hw ++ (Hv ++ ([]))))))))) (H' := Hsq36) hm33 k_w35
             refine rw_q rfl (ev_move (v := (Value.tuple #[vq36, (i64 (encE ((lL.getD k pl0).2)))])) rfl) <| rw_q (v := vq36) rfl (ev_extract rfl rfl) <| rw_q (v := (i64 (encE ((lL.getD k pl0).2)))) rfl (ev_extract rfl rfl) <| rA rfl (v := vq36) rfl <| rw_q rfl (ev_assign (v := (i64 (encE ((lL.getD k pl0).2)))) rfl) ?_
             refine rN (sR ?_)
             refine rM rfl s11 <| rw_q rfl (ev_move (v := (plv (lL.getD k pl0))) rfl) <| rw_c rfl (opR_call Try.func40 bd40 nm40 (args2 rfl rfl) (c_rdo (restOf w0).blk Hv vv ps (plv (lL.getD k pl0)) ((lL.getD k pl0).2) _ (fun b o e => (hm35).rest b o e) (fun q hq => (hm35).own _ (List.mem_append_right _ (List.mem_append_right _ (List.mem_append_right _ (List.mem_append_right _ (List.mem_append_right _ (List.mem_append_right _ (List.mem_append_right _ (List.mem_append_right _ (List.mem_append_left _ hq)))))))))) hrv (fun a h => Rd.ofRest ((fun a h => (hV a h).1) a h) hm35) (RdK.ofRest (plQ1 hqL (k := k) sD) hm35) (fun a h => Rd.ofRest ((plQ2 hqL (k := k) sD) a h) hm35) (fun a h => (hV a h).2) sL)) ?_
             rintro rq38 w37 ⟨psq38, Hsq38, hkvq38, hfrq38, hplq38, hrrq38, k_w37⟩
             have hm37 : Mem w37 (restOf w0) (Hsq38 ++ (Hsq36 ++ ([(bs1, .cells #[(ptr bj1 0), (Value.map (some b1))] 118 (0, 0))] ++ (Hm1 ++ ([(bj1, .cells #[(ptr bdq14 0), (i64 (fr : Int)), (i64 (hh : Int)), (u64 ge), vr1, (i64 (roomB LW : Int))] 100 (0, 0))] ++ (Hr1 ++ ([(bdq14, .cells #[vlq14, (Value.slice none 0 0)] 94 (0, 0))] ++ (Hl1 ++ (Hw ++ (Hv ++ ([]))))))))))) := Mem.new (H := Hsq36 ++ ([(bs1, .cells #[(ptr bj1 0), (Value.map (some b1))] 118 (0, 0))] ++ (Hm1 ++ ([(bj1, .cells #[(ptr bdq14 0), (i64 (fr : Int)), (i64 (hh : Int)), (u64 ge), vr1, (i64 (roomB LW : Int))] 100 (0, 0))] ++ (Hr1 ++ ([(bdq14, .cells #[vlq14, (Value.slice none 0 0)] 94 (0, 0))] ++ (Hl1 ++ (Hw ++ (Hv ++ ([])))))))))) (H' := Hsq38) hm35 k_w37
             have hV1 : ValQ (restOf w0).blk psq38 := hV.step (plQ2 hqL (k := k) oM) hfrq38
             have hkv1 : psq38.map kvOf = (doK (openS LW) (lL.getD k pl0).2 (lL.getD k pl0).2.length) := by rw [hkvq38, hkv]
             have hpl1 := hplq38
             refine rA rfl (v := rq38) rfl <| rN ?_
             refine CW.abs (fun g => g 0 = (i64 (n : Int)) ∧ g 1 = vL ∧ g 2 = (Value.string front) ∧ g 7 = (ptr bdq14 0) ∧ g 8 = (i64 0) ∧ g 9 = (ptr bs1 0) ∧ g 11 = vv ∧ g 12 = vw ∧ g 13 = (i64 (k : Int)) ∧ g 14 = (plv (lL.getD k pl0)) ∧ g 15 = vq36 ∧ g 16 = (i64 (encE ((lL.getD k pl0).2))) ∧ g 17 = rq38 ∧ g 25 = (bl false) ∧ g 40 = (bl (decide (100 < (front.size : Int)))) ∧ g 51 = (bl false) ∧ g 62 = (bl false) ∧ g 66 = vL ∧ g 67 = (i64 (lL.length : Int)) ∧ g 68 = (i64 (k : Int)) ∧ g 69 = (bl (decide ((k : Int) < (lL.length : Int)))) ∧ True) ⟨s0, s1, s2, s7, s8, s9, s11, s12, rfl, rfl, rfl, rfl, rfl, s25, s40, s51, s62, s66, s67, s68, rfl, trivial⟩ ?_
             rintro fr39 ⟨s0, s1, s2, s7, s8, s9, s11, s12, s13, s14, s15, s16, s17, s25, s40, s51, s62, s66, s67, s68, s69, _⟩
             refine cw_seq (sR ?_)
             refine rM rfl s16 <| rw_q rfl (ev_i64_eql (b := 0) rfl rfl) <| rN ?_
             refine cw_meet (J := fun g wv => ∃ (vw2 : Value) (ws2 : List SlT) (Hw2 : List (Nat × Obj)), (GrowL (restOf w0).blk 23 vw2 ws2 Hw2) ∧ (ws2.map (·.2) = (commitF hh LW (lL.getD k pl0).2).2) ∧ g 0 = (i64 (n : Int)) ∧ g 1 = vL ∧ g 2 = (Value.string front) ∧ g 7 = (ptr bdq14 0) ∧ g 8 = (i64 0) ∧ g 9 = (ptr bs1 0) ∧ g 11 = vv ∧ g 12 = vw2 ∧ g 13 = (i64 (k : Int)) ∧ g 14 = (plv (lL.getD k pl0)) ∧ g 15 = vq36 ∧ g 16 = (i64 ((commitF hh LW (lL.getD k pl0).2).1)) ∧ g 17 = rq38 ∧ g 25 = (bl false) ∧ g 40 = (bl (decide (100 < (front.size : Int)))) ∧ g 51 = (bl false) ∧ g 62 = (bl false) ∧ g 66 = vL ∧ g 67 = (i64 (lL.length : Int)) ∧ g 68 = (i64 (k : Int)) ∧ g 69 = (bl (decide ((k : Int) < (lL.length : Int)))) ∧ g 82 = (bl ((encE ((lL.getD k pl0).2)) == 0)) ∧ Mem wv (restOf w0) ([(bs1, .cells #[(ptr bj1 0), (Value.map (some b1))] 118 (0, 0))] ++ (Hm1 ++ ([(bj1, .cells #[(ptr bdq14 0), (i64 (fr : Int)), (i64 (hh : Int)), (u64 ge), vr1, (i64 (roomB LW : Int))] 100 (0, 0))] ++ (Hr1 ++ ([(bdq14, .cells #[vlq14, (Value.slice none 0 0)] 94 (0, 0))] ++ (Hl1 ++ (Hw2 ++ (Hsq38 ++ (Hv ++ ([]))))))))))) ?_ ?_
             · skip
               refine cw_cond rfl (fun hc40 => ?_) (fun hc40 => ?_)
               · -- true
                 have hc40p := eq_of_beq hc40
                 refine cw_seq ?_
                 have haR := (encE_t hc40)
                 have hrS := do_right hR0 haR (fun p hp => (hSL.el p hp).2)
                 have hea := enc_all hkv1 (fun a h => (hV1 a h).2) hrS
                 have hvs := val_small hkv1 (hBn.do hSL)
                 have hse := (hBn.do hSL).enc
                 have hel1 := hSL.len.2
                 have hye := enc_yes haR
                 refine cw_region <| rM rfl s17 <| rw_c rfl (opR_call Try.func33 bd33 nm33 (args1 rfl) (c_rencode16 rq38 psq38 _ (hrrq38 _ (fun q hq => (List.mem_append.1 hq).elim (fun hq => (hm37).own _ (List.mem_append_left _ hq)) (fun hq => (hm37).own _ (List.mem_append_right _ (List.mem_append_right _ (List.mem_append_right _ (List.mem_append_right _ (List.mem_append_right _ (List.mem_append_right _ (List.mem_append_right _ (List.mem_append_right _ (List.mem_append_right _ (List.mem_append_left _ hq)))))))))))) (fun b o e => (hm37).rest b o e)) (fun a h => Rd.ofRest ((fun a h => (hV1 a h).1) a h) hm37) sL hvs)) ?_
                 rintro _ w41 ⟨vq42, Hsq42, rfl, grq42, k_w41⟩
                 have hm41 : Mem w41 (restOf w0) (Hsq42 ++ (Hsq38 ++ (Hsq36 ++ ([(bs1, .cells #[(ptr bj1 0), (Value.map (some b1))] 118 (0, 0))] ++ (Hm1 ++ ([(bj1, .cells #[(ptr bdq14 0), (i64 (fr : Int)), (i64 (hh : Int)), (u64 ge), vr1, (i64 (roomB LW : Int))] 100 (0, 0))] ++ (Hr1 ++ ([(bdq14, .cells #[vlq14, (Value.slice none 0 0)] 94 (0, 0))] ++ (Hl1 ++ (Hw ++ (Hv ++ ([])))))))))))) := Mem.new (H := Hsq38 ++ (Hsq36 ++ ([(bs1, .cells #[(ptr bj1 0), (Value.map (some b1))] 118 (0, 0))] ++ (Hm1 ++ ([(bj1, .cells #[(ptr bdq14 0), (i64 (fr : Int)), (i64 (hh : Int)), (u64 ge), vr1, (i64 (roomB LW : Int))] 100 (0, 0))] ++ (Hr1 ++ ([(bdq14, .cells #[vlq14, (Value.slice none 0 0)] 94 (0, 0))] ++ (Hl1 ++ (Hw ++ (Hv ++ ([]))))))))))) (H' := Hsq42) hm37 k_w41
                 refine rw_q rfl (ev_move (v := (Value.tuple #[vq42, (i64 (encE psq38))])) rfl) <| rw_q (v := vq42) rfl (ev_extract rfl rfl) <| rw_q (v := (i64 (encE psq38))) rfl (ev_extract rfl rfl) <| rA rfl (v := vq42) rfl <| rw_q rfl (ev_assign (v := (i64 (encE psq38))) rfl) ?_
                 refine rN (cw_seq ?_)
                 rcases Bool.eq_false_or_eq_true (fitsB (hh : Int) (roomB LW : Int) (encV (lL.getD k pl0).2).length) with hb43 | hb43
                 · -- true
                   refine cw_region <| rM rfl s12 <| rM rfl s15 <| rw_c rfl (or_buildSlice_ones [vq36] (List.all_eq_true.1 (one_cons grq36.one one_nil)) hm41 uT22 ti23 rfl rfl rfl) ?_
                   rintro _ w44 ⟨b90, rfl, _ew44, hm44⟩
                   have hm44 : Mem w44 (restOf w0) ([(b90, .cells #[vq36] 23 (0, 0))] ++ (Hsq42 ++ (Hsq38 ++ (Hsq36 ++ ([(bs1, .cells #[(ptr bj1 0), (Value.map (some b1))] 118 (0, 0))] ++ (Hm1 ++ ([(bj1, .cells #[(ptr bdq14 0), (i64 (fr : Int)), (i64 (hh : Int)), (u64 ge), vr1, (i64 (roomB LW : Int))] 100 (0, 0))] ++ (Hr1 ++ ([(bdq14, .cells #[vlq14, (Value.slice none 0 0)] 94 (0, 0))] ++ (Hl1 ++ (Hw ++ (Hv ++ ([]))))))))))))) := hm44
                   refine rw_c rfl (or_appendL2 (Hs := Hw) (Hv := Hsq36) (H := [(b90, .cells #[vq36] 23 (0, 0))] ++ (Hsq42 ++ (Hsq38 ++ ([(bs1, .cells #[(ptr bj1 0), (Value.map (some b1))] 118 (0, 0))] ++ (Hm1 ++ ([(bj1, .cells #[(ptr bdq14 0), (i64 (fr : Int)), (i64 (hh : Int)), (u64 ge), vr1, (i64 (roomB LW : Int))] 100 (0, 0))] ++ (Hr1 ++ ([(bdq14, .cells #[vlq14, (Value.slice none 0 0)] 94 (0, 0))] ++ (Hl1 ++ (Hv ++ ([]))))))))))) (u0 := vq36) (l0 := (encV ((lL.getD k pl0).2))) (show Mem _ _ (Hw ++ (Hsq36 ++ ([(b90, .cells #[vq36] 23 (0, 0))] ++ (Hsq42 ++ (Hsq38 ++ ([(bs1, .cells #[(ptr bj1 0), (Value.map (some b1))] 118 (0, 0))] ++ (Hm1 ++ ([(bj1, .cells #[(ptr bdq14 0), (i64 (fr : Int)), (i64 (hh : Int)), (u64 ge), vr1, (i64 (roomB LW : Int))] 100 (0, 0))] ++ (Hr1 ++ ([(bdq14, .cells #[vlq14, (Value.slice none 0 0)] 94 (0, 0))] ++ (Hl1 ++ (Hv ++ ([]))))))))))))) from (Mem.pick10 Hsq36 [_] Hsq42 Hsq38 [_] Hm1 [_] Hr1 [_] Hl1 Hw _ (Mem.pick3 [_] Hsq42 Hsq38 Hsq36 _ hm44))) gw rfl rfl (Rd.oneS (l := (encV ((lL.getD k pl0).2))) hm44.h0 (Grow.toSl (encV ((lL.getD k pl0).2)) grq36)) (Grow.toSl (encV ((lL.getD k pl0).2)) grq36) (el_grow grq36) uT22 uT22 ti23 rfl sL sL) ?_
                   rintro sv45 w45 ⟨ls45, Hx45, Hs45, hM45, hL45, hm45, g45, hr45⟩
                   have hMx : ls45.map (·.2) = LW ++ [(encV (lL.getD k pl0).2)] := by rw [hM45, hMw]
                   have hLx := hL45
                   refine rw_c rfl (opR_call Try.func20 bd20 nm20 (args1 rfl) (c_rroom sv45 ls45 _ (hr45 _ (fun q hq => (hm45).own _ (List.mem_append_left _ hq)) (fun q hq => (hm45).own _ (List.mem_append_right _ (List.mem_append_left _ hq))) (fun q hq => (hm45).own _ (List.mem_append_right _ (List.mem_append_right _ (List.mem_append_left _ hq)))) (fun b o e => (hm45).rest b o e)) sL (map_el hMx (P := fun b => b.length ≤ 4000000) (el_app4 (n := 4000000) (fun b hb => by have := hel b hb; omega) oM)))) ?_
                   rintro _ w46 ⟨rfl, _ew46⟩
                   have hm46 := hm45.ext _ew46
                   refine rM rfl s0 <| rw_q rfl (ev_i64_quo (b := 2) rfl rfl oM oM oM) <| rw_q rfl (ev_i64_leq rfl rfl) <| rN ?_
                   have hm48 := Mem.drop Hx45 _ hm46
                   have hm49 := Mem.drop ([(b90, .cells #[vq36] 23 (0, 0))]) _ (Mem.pick2 Hs45 Hsq36 [_] _ hm48)
                   refine CW.abs (fun g => g 0 = (i64 (n : Int)) ∧ g 1 = vL ∧ g 2 = (Value.string front) ∧ g 7 = (ptr bdq14 0) ∧ g 8 = (i64 0) ∧ g 9 = (ptr bs1 0) ∧ g 11 = vv ∧ g 12 = vw ∧ g 13 = (i64 (k : Int)) ∧ g 14 = (plv (lL.getD k pl0)) ∧ g 15 = vq36 ∧ g 16 = (i64 (encE ((lL.getD k pl0).2))) ∧ g 17 = rq38 ∧ g 18 = vq42 ∧ g 25 = (bl false) ∧ g 40 = (bl (decide (100 < (front.size : Int)))) ∧ g 51 = (bl false) ∧ g 62 = (bl false) ∧ g 66 = vL ∧ g 67 = (i64 (lL.length : Int)) ∧ g 68 = (i64 (k : Int)) ∧ g 69 = (bl (decide ((k : Int) < (lL.length : Int)))) ∧ g 82 = (bl ((encE ((lL.getD k pl0).2)) == 0)) ∧ g 95 = (bl (decide ((roomB (ls45.map (·.2)) : Int) ≤ ((n : Int) / 2)))) ∧ True) ⟨s0, s1, s2, s7, s8, s9, s11, s12, s13, s14, s15, s16, s17, rfl, s25, s40, s51, s62, s66, s67, s68, s69, rfl, rfl, trivial⟩ ?_
                   rintro fr50 ⟨s0, s1, s2, s7, s8, s9, s11, s12, s13, s14, s15, s16, s17, s18, s25, s40, s51, s62, s66, s67, s68, s69, s82, s95, _⟩
                   have hd51 : (decide ((roomB (ls45.map (·.2)) : Int) ≤ ((n : Int) / 2))) = true := decide_eq_true (by have hf := fits_yes hb43; rw [hMx, room_snoc]; push_cast; omega)
                   refine cw_cond_t s95 hd51 <| cw_region <| rM rfl s12 <| rM rfl s15 <| rw_c rfl (or_buildSlice_ones [vq36] (List.all_eq_true.1 (one_cons grq36.one one_nil)) hm49 uT22 ti23 rfl rfl rfl) ?_
                   rintro _ w52 ⟨b98, rfl, _ew52, hm52⟩
                   have hm52 : Mem w52 (restOf w0) ([(b98, .cells #[vq36] 23 (0, 0))] ++ (Hs45 ++ (Hsq36 ++ (Hsq42 ++ (Hsq38 ++ ([(bs1, .cells #[(ptr bj1 0), (Value.map (some b1))] 118 (0, 0))] ++ (Hm1 ++ ([(bj1, .cells #[(ptr bdq14 0), (i64 (fr : Int)), (i64 (hh : Int)), (u64 ge), vr1, (i64 (roomB LW : Int))] 100 (0, 0))] ++ (Hr1 ++ ([(bdq14, .cells #[vlq14, (Value.slice none 0 0)] 94 (0, 0))] ++ (Hl1 ++ (Hv ++ ([]))))))))))))) := hm52
                   refine rw_c rfl (or_appendL (Hs := Hs45) (Hv := Hsq36) (H := [(b98, .cells #[vq36] 23 (0, 0))] ++ (Hsq42 ++ (Hsq38 ++ ([(bs1, .cells #[(ptr bj1 0), (Value.map (some b1))] 118 (0, 0))] ++ (Hm1 ++ ([(bj1, .cells #[(ptr bdq14 0), (i64 (fr : Int)), (i64 (hh : Int)), (u64 ge), vr1, (i64 (roomB LW : Int))] 100 (0, 0))] ++ (Hr1 ++ ([(bdq14, .cells #[vlq14, (Value.slice none 0 0)] 94 (0, 0))] ++ (Hl1 ++ (Hv ++ ([]))))))))))) (u0 := vq36) (l0 := (encV ((lL.getD k pl0).2))) (show Mem _ _ (Hs45 ++ (Hsq36 ++ ([(b98, .cells #[vq36] 23 (0, 0))] ++ (Hsq42 ++ (Hsq38 ++ ([(bs1, .cells #[(ptr bj1 0), (Value.map (some b1))] 118 (0, 0))] ++ (Hm1 ++ ([(bj1, .cells #[(ptr bdq14 0), (i64 (fr : Int)), (i64 (hh : Int)), (u64 ge), vr1, (i64 (roomB LW : Int))] 100 (0, 0))] ++ (Hr1 ++ ([(bdq14, .cells #[vlq14, (Value.slice none 0 0)] 94 (0, 0))] ++ (Hl1 ++ (Hv ++ ([]))))))))))))) from (Mem.pick2 Hsq36 [_] Hs45 _ (Mem.pick2 [_] Hs45 Hsq36 _ hm52))) g45 rfl rfl (Rd.oneS (l := (encV ((lL.getD k pl0).2))) hm52.h0 (Grow.toSl (encV ((lL.getD k pl0).2)) grq36)) (Grow.toSl (encV ((lL.getD k pl0).2)) grq36) (el_grow grq36) uT22 uT22 ti23 rfl sL sL) ?_
                   rintro sv53 w53 ⟨ls53, Hs53, hM53, hL53, hm53, g53⟩
                   refine rA rfl (v := sv53) rfl <| rN ?_
                   have hcm : (commitF hh LW (lL.getD k pl0).2) = _ := cm_fit (encE_t hc40) hb43
                   have hm54 := Mem.drop ([(b98, .cells #[vq36] 23 (0, 0))]) _ (Mem.pick Hs53 [_] _ hm53)
                   have hm55 := Mem.drop Hsq42 _ (Mem.pick Hs53 Hsq42 _ hm54)
                   have hm56 := (Mem.pick8 Hs53 Hsq38 [_] Hm1 [_] Hr1 [_] Hl1 Hv _ hm55)
                   have hm57 := (Mem.pick2 Hv Hs53 Hsq38 _ hm56)
                   have hm58 := (Mem.pick2 Hsq38 Hv Hs53 _ hm57)
                   have hm59 := (Mem.pick8 Hs53 Hsq38 Hv [_] Hm1 [_] Hr1 [_] Hl1 _ hm58)
                   have hm60 := (Mem.pick8 Hl1 Hs53 Hsq38 Hv [_] Hm1 [_] Hr1 [_] _ hm59)
                   have hm61 := (Mem.pick8 [_] Hl1 Hs53 Hsq38 Hv [_] Hm1 [_] Hr1 _ hm60)
                   have hm62 := (Mem.pick8 Hr1 [_] Hl1 Hs53 Hsq38 Hv [_] Hm1 [_] _ hm61)
                   have hm63 := (Mem.pick8 [_] Hr1 [_] Hl1 Hs53 Hsq38 Hv [_] Hm1 _ hm62)
                   have hm64 := (Mem.pick8 Hm1 [_] Hr1 [_] Hl1 Hs53 Hsq38 Hv [_] _ hm63)
                   exact ⟨sv53, ls53, Hs53, g53, (by rw [hcm]; show _ = LW ++ [(encV (lL.getD k pl0).2)]; rw [hM53, hMw]), s0, s1, s2, s7, s8, s9, s11, rfl, s13, s14, s15, (Eq.trans s16 (congrArg i64 (by rw [hcm]; exact (enc_yes (encE_t hc40)).2))), s17, s25, s40, s51, s62, s66, s67, s68, s69, s82, (by
                     have hT := hm64
                     try simp only [List.append_assoc, List.cons_append, List.nil_append, List.append_nil] at hT ⊢
                     exact hT)⟩
                 · -- false
                   refine cw_region <| rM rfl s12 <| rM rfl s15 <| rw_c rfl (or_buildSlice_ones [vq36] (List.all_eq_true.1 (one_cons grq36.one one_nil)) hm41 uT22 ti23 rfl rfl rfl) ?_
                   rintro _ w65 ⟨b90_1, rfl, _ew65, hm65⟩
                   have hm65 : Mem w65 (restOf w0) ([(b90_1, .cells #[vq36] 23 (0, 0))] ++ (Hsq42 ++ (Hsq38 ++ (Hsq36 ++ ([(bs1, .cells #[(ptr bj1 0), (Value.map (some b1))] 118 (0, 0))] ++ (Hm1 ++ ([(bj1, .cells #[(ptr bdq14 0), (i64 (fr : Int)), (i64 (hh : Int)), (u64 ge), vr1, (i64 (roomB LW : Int))] 100 (0, 0))] ++ (Hr1 ++ ([(bdq14, .cells #[vlq14, (Value.slice none 0 0)] 94 (0, 0))] ++ (Hl1 ++ (Hw ++ (Hv ++ ([]))))))))))))) := hm65
                   refine rw_c rfl (or_appendL2 (Hs := Hw) (Hv := Hsq36) (H := [(b90_1, .cells #[vq36] 23 (0, 0))] ++ (Hsq42 ++ (Hsq38 ++ ([(bs1, .cells #[(ptr bj1 0), (Value.map (some b1))] 118 (0, 0))] ++ (Hm1 ++ ([(bj1, .cells #[(ptr bdq14 0), (i64 (fr : Int)), (i64 (hh : Int)), (u64 ge), vr1, (i64 (roomB LW : Int))] 100 (0, 0))] ++ (Hr1 ++ ([(bdq14, .cells #[vlq14, (Value.slice none 0 0)] 94 (0, 0))] ++ (Hl1 ++ (Hv ++ ([]))))))))))) (u0 := vq36) (l0 := (encV ((lL.getD k pl0).2))) (show Mem _ _ (Hw ++ (Hsq36 ++ ([(b90_1, .cells #[vq36] 23 (0, 0))] ++ (Hsq42 ++ (Hsq38 ++ ([(bs1, .cells #[(ptr bj1 0), (Value.map (some b1))] 118 (0, 0))] ++ (Hm1 ++ ([(bj1, .cells #[(ptr bdq14 0), (i64 (fr : Int)), (i64 (hh : Int)), (u64 ge), vr1, (i64 (roomB LW : Int))] 100 (0, 0))] ++ (Hr1 ++ ([(bdq14, .cells #[vlq14, (Value.slice none 0 0)] 94 (0, 0))] ++ (Hl1 ++ (Hv ++ ([]))))))))))))) from (Mem.pick10 Hsq36 [_] Hsq42 Hsq38 [_] Hm1 [_] Hr1 [_] Hl1 Hw _ (Mem.pick3 [_] Hsq42 Hsq38 Hsq36 _ hm65))) gw rfl rfl (Rd.oneS (l := (encV ((lL.getD k pl0).2))) hm65.h0 (Grow.toSl (encV ((lL.getD k pl0).2)) grq36)) (Grow.toSl (encV ((lL.getD k pl0).2)) grq36) (el_grow grq36) uT22 uT22 ti23 rfl sL sL) ?_
                   rintro sv66 w66 ⟨ls66, Hx66, Hs66, hM66, hL66, hm66, g66, hr66⟩
                   have hMx : ls66.map (·.2) = LW ++ [(encV (lL.getD k pl0).2)] := by rw [hM66, hMw]
                   have hLx := hL66
                   refine rw_c rfl (opR_call Try.func20 bd20 nm20 (args1 rfl) (c_rroom sv66 ls66 _ (hr66 _ (fun q hq => (hm66).own _ (List.mem_append_left _ hq)) (fun q hq => (hm66).own _ (List.mem_append_right _ (List.mem_append_left _ hq))) (fun q hq => (hm66).own _ (List.mem_append_right _ (List.mem_append_right _ (List.mem_append_left _ hq)))) (fun b o e => (hm66).rest b o e)) sL (map_el hMx (P := fun b => b.length ≤ 4000000) (el_app4 (n := 4000000) (fun b hb => by have := hel b hb; omega) oM)))) ?_
                   rintro _ w67 ⟨rfl, _ew67⟩
                   have hm67 := hm66.ext _ew67
                   refine rM rfl s0 <| rw_q rfl (ev_i64_quo (b := 2) rfl rfl oM oM oM) <| rw_q rfl (ev_i64_leq rfl rfl) <| rN ?_
                   have hm69 := Mem.drop Hx66 _ hm67
                   have hm70 := Mem.drop ([(b90_1, .cells #[vq36] 23 (0, 0))]) _ (Mem.pick2 Hs66 Hsq36 [_] _ hm69)
                   refine CW.abs (fun g => g 0 = (i64 (n : Int)) ∧ g 1 = vL ∧ g 2 = (Value.string front) ∧ g 7 = (ptr bdq14 0) ∧ g 8 = (i64 0) ∧ g 9 = (ptr bs1 0) ∧ g 11 = vv ∧ g 12 = vw ∧ g 13 = (i64 (k : Int)) ∧ g 14 = (plv (lL.getD k pl0)) ∧ g 15 = vq36 ∧ g 16 = (i64 (encE ((lL.getD k pl0).2))) ∧ g 17 = rq38 ∧ g 18 = vq42 ∧ g 25 = (bl false) ∧ g 40 = (bl (decide (100 < (front.size : Int)))) ∧ g 51 = (bl false) ∧ g 62 = (bl false) ∧ g 66 = vL ∧ g 67 = (i64 (lL.length : Int)) ∧ g 68 = (i64 (k : Int)) ∧ g 69 = (bl (decide ((k : Int) < (lL.length : Int)))) ∧ g 82 = (bl ((encE ((lL.getD k pl0).2)) == 0)) ∧ g 95 = (bl (decide ((roomB (ls66.map (·.2)) : Int) ≤ ((n : Int) / 2)))) ∧ True) ⟨s0, s1, s2, s7, s8, s9, s11, s12, s13, s14, s15, s16, s17, rfl, s25, s40, s51, s62, s66, s67, s68, s69, rfl, rfl, trivial⟩ ?_
                   rintro fr71 ⟨s0, s1, s2, s7, s8, s9, s11, s12, s13, s14, s15, s16, s17, s18, s25, s40, s51, s62, s66, s67, s68, s69, s82, s95, _⟩
                   have hd72 : (decide ((roomB (ls66.map (·.2)) : Int) ≤ ((n : Int) / 2))) = false := decide_eq_false (by have hf := fits_no oM hb43; rw [hMx, room_snoc]; push_cast; omega)
                   refine cw_cond_f s95 hd72 <| sR <| rM rfl s18 <| rw_c rfl (or_buildSlice_ones [vq42] (List.all_eq_true.1 (one_cons (Grow.cast grq42 hea.1).one one_nil)) hm70 uT22 ti23 rfl rfl rfl) ?_
                   rintro _ w73 ⟨b101, rfl, _ew73, hm73⟩
                   have hm73 : Mem w73 (restOf w0) ([(b101, .cells #[vq42] 23 (0, 0))] ++ (Hs66 ++ (Hsq36 ++ (Hsq42 ++ (Hsq38 ++ ([(bs1, .cells #[(ptr bj1 0), (Value.map (some b1))] 118 (0, 0))] ++ (Hm1 ++ ([(bj1, .cells #[(ptr bdq14 0), (i64 (fr : Int)), (i64 (hh : Int)), (u64 ge), vr1, (i64 (roomB LW : Int))] 100 (0, 0))] ++ (Hr1 ++ ([(bdq14, .cells #[vlq14, (Value.slice none 0 0)] 94 (0, 0))] ++ (Hl1 ++ (Hv ++ ([]))))))))))))) := hm73
                   refine rw_c rfl (opR_call Try.func20 bd20 nm20 (args1 rfl) (c_rroom (slc b101 0 1 1) ([toSl vq42 (encS (doK (openS LW) (lL.getD k pl0).2 (lL.getD k pl0).2.length))]) _ (RdL.one1 (l0 := (encS (doK (openS LW) (lL.getD k pl0).2 (lL.getD k pl0).2.length))) hm73.h0 ((Grow.cast grq42 hea.1).rd (Mem.pick3 [_] Hs66 Hsq36 Hsq42 _ hm73))) sL (map_el1 (n := 4000000) oM))) ?_
                   rintro _ w74 ⟨rfl, _ew74⟩
                   have hm74 := hm73.ext _ew74
                   refine rM rfl s0 <| rw_q rfl (ev_i64_quo (b := 2) rfl rfl oM oM oM) <| rw_q rfl (ev_i64_leq rfl rfl) <| rN ?_
                   refine cw_cond rfl (fun hc76 => ?_) (fun hc76 => ?_)
                   · -- true
                     have hc76p := of_decide_eq_true hc76
                     refine cw_region <| rM rfl s18 <| rw_c rfl (or_buildSlice_ones [vq42] (List.all_eq_true.1 (one_cons (Grow.cast grq42 hea.1).one one_nil)) hm74 uT22 ti23 rfl rfl rfl) ?_
                     rintro _ w77 ⟨b107, rfl, _ew77, hm77⟩
                     have hm77 : Mem w77 (restOf w0) ([(b107, .cells #[vq42] 23 (0, 0)), (b101, .cells #[vq42] 23 (0, 0))] ++ (Hs66 ++ (Hsq36 ++ (Hsq42 ++ (Hsq38 ++ ([(bs1, .cells #[(ptr bj1 0), (Value.map (some b1))] 118 (0, 0))] ++ (Hm1 ++ ([(bj1, .cells #[(ptr bdq14 0), (i64 (fr : Int)), (i64 (hh : Int)), (u64 ge), vr1, (i64 (roomB LW : Int))] 100 (0, 0))] ++ (Hr1 ++ ([(bdq14, .cells #[vlq14, (Value.slice none 0 0)] 94 (0, 0))] ++ (Hl1 ++ (Hv ++ ([]))))))))))))) := hm77
                     have hm78 := (Mem.pick11 [_, _] Hs66 Hsq36 Hsq42 Hsq38 [_] Hm1 [_] Hr1 [_] Hl1 Hv _ hm77)
                     have hm79 := (Mem.pick11 Hv [_, _] Hs66 Hsq36 Hsq42 Hsq38 [_] Hm1 [_] Hr1 [_] Hl1 _ hm78)
                     have hm80 := (Mem.pick11 Hl1 Hv [_, _] Hs66 Hsq36 Hsq42 Hsq38 [_] Hm1 [_] Hr1 [_] _ hm79)
                     have hm81 := (Mem.pick11 [_] Hl1 Hv [_, _] Hs66 Hsq36 Hsq42 Hsq38 [_] Hm1 [_] Hr1 _ hm80)
                     have hm82 := (Mem.pick11 Hr1 [_] Hl1 Hv [_, _] Hs66 Hsq36 Hsq42 Hsq38 [_] Hm1 [_] _ hm81)
                     have hm83 := (Mem.pick11 [_] Hr1 [_] Hl1 Hv [_, _] Hs66 Hsq36 Hsq42 Hsq38 [_] Hm1 _ hm82)
                     have hm84 := (Mem.pick11 Hm1 [_] Hr1 [_] Hl1 Hv [_, _] Hs66 Hsq36 Hsq42 Hsq38 [_] _ hm83)
                     have hm85 := (Mem.pick11 [_] Hm1 [_] Hr1 [_] Hl1 Hv [_, _] Hs66 Hsq36 Hsq42 Hsq38 _ hm84)
                     have hm86 := (Mem.pick10 Hsq38 [_] Hm1 [_] Hr1 [_] Hl1 Hv [_, _] Hs66 Hsq36 _ hm85)
                     have hm87 := (Mem.pick10 Hsq36 Hsq38 [_] Hm1 [_] Hr1 [_] Hl1 Hv [_, _] Hs66 _ hm86)
                     have hm88 := (Mem.pick11 Hs66 Hsq36 Hsq38 [_] Hm1 [_] Hr1 [_] Hl1 Hv [_] [_] _ hm87)
                     have hm89 := (Mem.pick12 [_] Hs66 Hsq36 Hsq38 [_] Hm1 [_] Hr1 [_] Hl1 Hv [_] Hsq42 _ hm88)
                     have hm90 := (Mem.pick12 Hsq42 [_] Hs66 Hsq36 Hsq38 [_] Hm1 [_] Hr1 [_] Hl1 Hv [_] _ hm89)
                     obtain ⟨HL77, gL77, hmL77⟩ : ∃ q, GrowL (restOf w0).blk 23 (slc b107 0 1 1) [toSl vq42 (encS (doK (openS LW) (lL.getD k pl0).2 (lL.getD k pl0).2.length))] q ∧ Mem w77 (restOf w0) (q ++ ([(b101, .cells #[vq42] 23 (0, 0))] ++ (Hs66 ++ (Hsq36 ++ (Hsq38 ++ ([(bs1, .cells #[(ptr bj1 0), (Value.map (some b1))] 118 (0, 0))] ++ (Hm1 ++ ([(bj1, .cells #[(ptr bdq14 0), (i64 (fr : Int)), (i64 (hh : Int)), (u64 ge), vr1, (i64 (roomB LW : Int))] 100 (0, 0))] ++ (Hr1 ++ ([(bdq14, .cells #[vlq14, (Value.slice none 0 0)] 94 (0, 0))] ++ (Hl1 ++ (Hv ++ ([]))))))))))))) := ⟨_, GrowL.of1 (Grow.toSl (encS (doK (openS LW) (lL.getD k pl0).2 (lL.getD k pl0).2.length)) (Grow.cast grq42 hea.1)) (el_grow (Grow.cast grq42 hea.1)), (by
                       have hT := hm90
                       try simp only [List.append_assoc, List.cons_append, List.nil_append, List.append_nil] at hT ⊢
                       exact hT)⟩
                     refine rw_q rfl (ev_assign (v := (slc b107 0 1 1)) rfl) <| rN ?_
                     have hbf : blocksN (encS (doK (openS LW) (lL.getD k pl0).2 (lL.getD k pl0).2.length)).length ≤ hh := by have h := of_decide_eq_true hc76; rw [one_map, room_1] at h; omega
                     have hcm : (commitF hh LW (lL.getD k pl0).2) = _ := cm_all (encE_t hc40) hb43 hbf
                     have hm91 := Mem.drop ([(b101, .cells #[vq42] 23 (0, 0))]) _ (Mem.pick HL77 [_] _ hmL77)
                     have hm92 := Mem.drop Hs66 _ (Mem.pick HL77 Hs66 _ hm91)
                     have hm93 := Mem.drop Hsq36 _ (Mem.pick HL77 Hsq36 _ hm92)
                     have hm94 := (Mem.pick8 HL77 Hsq38 [_] Hm1 [_] Hr1 [_] Hl1 Hv _ hm93)
                     have hm95 := (Mem.pick2 Hv HL77 Hsq38 _ hm94)
                     have hm96 := (Mem.pick2 Hsq38 Hv HL77 _ hm95)
                     have hm97 := (Mem.pick8 HL77 Hsq38 Hv [_] Hm1 [_] Hr1 [_] Hl1 _ hm96)
                     have hm98 := (Mem.pick8 Hl1 HL77 Hsq38 Hv [_] Hm1 [_] Hr1 [_] _ hm97)
                     have hm99 := (Mem.pick8 [_] Hl1 HL77 Hsq38 Hv [_] Hm1 [_] Hr1 _ hm98)
                     have hm100 := (Mem.pick8 Hr1 [_] Hl1 HL77 Hsq38 Hv [_] Hm1 [_] _ hm99)
                     have hm101 := (Mem.pick8 [_] Hr1 [_] Hl1 HL77 Hsq38 Hv [_] Hm1 _ hm100)
                     have hm102 := (Mem.pick8 Hm1 [_] Hr1 [_] Hl1 HL77 Hsq38 Hv [_] _ hm101)
                     exact ⟨(slc b107 0 1 1), [toSl vq42 (encS (doK (openS LW) (lL.getD k pl0).2 (lL.getD k pl0).2.length))], HL77, gL77, (by rw [hcm]; exact one_map _ _), s0, s1, s2, s7, s8, s9, s11, rfl, s13, s14, s15, (Eq.trans s16 (congrArg i64 (by rw [hcm]; exact (enc_yes (encE_t hc40)).2))), s17, s25, s40, s51, s62, s66, s67, s68, s69, s82, (by
                       have hT := hm102
                       try simp only [List.append_assoc, List.cons_append, List.nil_append, List.append_nil] at hT ⊢
                       exact hT)⟩
                   · -- false
                     have hc76p := of_decide_eq_false hc76
                     refine cw_region <| rw_q rfl (ev_assign (v := (i64 6)) rfl) <| rN ?_
                     have hbf : ¬ blocksN (encS (doK (openS LW) (lL.getD k pl0).2 (lL.getD k pl0).2.length)).length ≤ hh := by have h := of_decide_eq_false hc76; rw [one_map, room_1] at h; omega
                     have hcm : (commitF hh LW (lL.getD k pl0).2) = _ := cm_full (encE_t hc40) hb43 hbf
                     have hm103 := Mem.drop ([(b101, .cells #[vq42] 23 (0, 0))]) _ hm74
                     have hm104 := Mem.drop Hsq36 _ (Mem.pick Hs66 Hsq36 _ hm103)
                     have hm105 := Mem.drop Hsq42 _ (Mem.pick Hs66 Hsq42 _ hm104)
                     have hm106 := (Mem.pick8 Hs66 Hsq38 [_] Hm1 [_] Hr1 [_] Hl1 Hv _ hm105)
                     have hm107 := (Mem.pick2 Hv Hs66 Hsq38 _ hm106)
                     have hm108 := (Mem.pick2 Hsq38 Hv Hs66 _ hm107)
                     have hm109 := (Mem.pick8 Hs66 Hsq38 Hv [_] Hm1 [_] Hr1 [_] Hl1 _ hm108)
                     have hm110 := (Mem.pick8 Hl1 Hs66 Hsq38 Hv [_] Hm1 [_] Hr1 [_] _ hm109)
                     have hm111 := (Mem.pick8 [_] Hl1 Hs66 Hsq38 Hv [_] Hm1 [_] Hr1 _ hm110)
                     have hm112 := (Mem.pick8 Hr1 [_] Hl1 Hs66 Hsq38 Hv [_] Hm1 [_] _ hm111)
                     have hm113 := (Mem.pick8 [_] Hr1 [_] Hl1 Hs66 Hsq38 Hv [_] Hm1 _ hm112)
                     have hm114 := (Mem.pick8 Hm1 [_] Hr1 [_] Hl1 Hs66 Hsq38 Hv [_] _ hm113)
                     exact ⟨vw, ws, Hs66, g66, (by rw [hcm]; exact hMw), s0, s1, s2, s7, s8, s9, s11, s12, s13, s14, s15, (Eq.trans rfl (congrArg i64 (by rw [hcm]))), s17, s25, s40, s51, s62, s66, s67, s68, s69, s82, (by
                       have hT := hm114
                       try simp only [List.append_assoc, List.cons_append, List.nil_append, List.append_nil] at hT ⊢
                       exact hT)⟩
               · -- false
                 have hc40p := ne_of_beq_false hc40
                 refine cw_skip (kThen_normal ?_)
                 have hcm : (commitF hh LW (lL.getD k pl0).2) = _ := cm_no (encE_f hc40)
                 have hm115 := Mem.drop Hsq36 _ (Mem.pick Hsq38 Hsq36 _ hm37)
                 have hm116 := (Mem.pick8 Hsq38 [_] Hm1 [_] Hr1 [_] Hl1 Hw Hv _ hm115)
                 have hm117 := (Mem.pick Hv Hsq38 _ hm116)
                 have hm118 := (Mem.pick8 Hsq38 Hv [_] Hm1 [_] Hr1 [_] Hl1 Hw _ hm117)
                 have hm119 := (Mem.pick8 Hw Hsq38 Hv [_] Hm1 [_] Hr1 [_] Hl1 _ hm118)
                 have hm120 := (Mem.pick8 Hl1 Hw Hsq38 Hv [_] Hm1 [_] Hr1 [_] _ hm119)
                 have hm121 := (Mem.pick8 [_] Hl1 Hw Hsq38 Hv [_] Hm1 [_] Hr1 _ hm120)
                 have hm122 := (Mem.pick8 Hr1 [_] Hl1 Hw Hsq38 Hv [_] Hm1 [_] _ hm121)
                 have hm123 := (Mem.pick8 [_] Hr1 [_] Hl1 Hw Hsq38 Hv [_] Hm1 _ hm122)
                 have hm124 := (Mem.pick8 Hm1 [_] Hr1 [_] Hl1 Hw Hsq38 Hv [_] _ hm123)
                 exact ⟨vw, ws, Hw, gw, (by rw [hcm]; exact hMw), s0, s1, s2, s7, s8, s9, s11, s12, s13, s14, s15, (Eq.trans s16 (congrArg i64 (by rw [hcm]; exact (enc_no (encE_f hc40)).2))), s17, s25, s40, s51, s62, s66, s67, s68, s69, rfl, (by
                   have hT := hm124
                   try simp only [List.append_assoc, List.cons_append, List.nil_append, List.append_nil] at hT ⊢
                   exact hT)⟩
             · rintro fr125 w126 ⟨vw2, ws2, Hw2, gw2, hMw2, s0, s1, s2, s7, s8, s9, s11, s12, s13, s14, s15, s16, s17, s25, s40, s51, s62, s66, s67, s68, s69, s82, hm126⟩
               refine cw_seq (sR ?_)
               refine rM rfl s16 <| rw_q rfl (ev_i64_eql (b := 0) rfl rfl) <| rN ?_
               refine cw_meet (J := fun g wv => ∃ (vv2 : Value) (ps2 : List PairT) (Hv2 : List (Nat × Obj)), (RdH (restOf w0).blk Hv2 vv2 ps2) ∧ (ps2.map kvOf = openS (commitF hh LW (lL.getD k pl0).2).2) ∧ (ValQ (restOf w0).blk ps2) ∧ (ps2.length ≤ 100000) ∧ g 0 = (i64 (n : Int)) ∧ g 1 = vL ∧ g 2 = (Value.string front) ∧ g 7 = (ptr bdq14 0) ∧ g 8 = (i64 0) ∧ g 9 = (ptr bs1 0) ∧ g 11 = vv2 ∧ g 12 = vw2 ∧ g 13 = (i64 (k : Int)) ∧ g 14 = (plv (lL.getD k pl0)) ∧ g 15 = vq36 ∧ g 16 = (i64 ((commitF hh LW (lL.getD k pl0).2).1)) ∧ g 17 = rq38 ∧ g 25 = (bl false) ∧ g 40 = (bl (decide (100 < (front.size : Int)))) ∧ g 51 = (bl false) ∧ g 62 = (bl false) ∧ g 66 = vL ∧ g 67 = (i64 (lL.length : Int)) ∧ g 68 = (i64 (k : Int)) ∧ g 69 = (bl (decide ((k : Int) < (lL.length : Int)))) ∧ g 82 = (bl ((encE ((lL.getD k pl0).2)) == 0)) ∧ g 109 = (bl (((commitF hh LW (lL.getD k pl0).2).1) == 0)) ∧ Mem wv (restOf w0) ([(bs1, .cells #[(ptr bj1 0), (Value.map (some b1))] 118 (0, 0))] ++ (Hm1 ++ ([(bj1, .cells #[(ptr bdq14 0), (i64 (fr : Int)), (i64 (hh : Int)), (u64 ge), vr1, (i64 (roomB LW : Int))] 100 (0, 0))] ++ (Hr1 ++ ([(bdq14, .cells #[vlq14, (Value.slice none 0 0)] 94 (0, 0))] ++ (Hl1 ++ (Hw2 ++ (Hv2 ++ ([])))))))))) ?_ ?_
               · skip
                 refine cw_cond rfl (fun hc127 => ?_) (fun hc127 => ?_)
                 · -- true
                   have hc127p := eq_of_beq hc127
                   refine cw_region <| rM rfl s17 <| rA rfl (v := rq38) rfl <| rN ?_
                   exact ⟨rq38, psq38, (Hsq38 ++ Hv), hrrq38, (by rw [(commit_ok (hh := hh) hok hR0 (fun p hp => (hSL.el p hp).2)).2, if_pos (eq_of_beq hc127)]; exact hkv1), hV1, oM, s0, s1, s2, s7, s8, s9, rfl, s12, s13, s14, s15, s16, s17, s25, s40, s51, s62, s66, s67, s68, s69, s82, rfl, (by
                     have hT := hm126
                     try simp only [List.append_assoc, List.cons_append, List.nil_append, List.append_nil] at hT ⊢
                     exact hT)⟩
                 · -- false
                   have hc127p := ne_of_beq_false hc127
                   refine cw_skip (kThen_normal ?_)
                   have hm128 := Mem.drop Hsq38 _ (Mem.pick7 [_] Hm1 [_] Hr1 [_] Hl1 Hw2 Hsq38 _ hm126)
                   exact ⟨vv, ps, Hv, hrv, (by rw [(commit_ok (hh := hh) hok hR0 (fun p hp => (hSL.el p hp).2)).2, if_neg (ne_of_beq_false hc127)]; exact hkv), hV, oM, s0, s1, s2, s7, s8, s9, s11, s12, s13, s14, s15, s16, s17, s25, s40, s51, s62, s66, s67, s68, s69, s82, rfl, (by
                     have hT := hm128
                     try simp only [List.append_assoc, List.cons_append, List.nil_append, List.append_nil] at hT ⊢
                     exact hT)⟩
               · rintro fr129 w130 ⟨vv2, ps2, Hv2, hrv2, hkv2, hV2, hpl2, s0, s1, s2, s7, s8, s9, s11, s12, s13, s14, s15, s16, s17, s25, s40, s51, s62, s66, s67, s68, s69, s82, s109, hm130⟩
                 refine cw_seq (sR ?_)
                 refine rM rfl s9 <| rM rfl s14 ?_
                 have hF132 : Mem w130 (restOf w0) (([(bs1, .cells #[(ptr bj1 0), (Value.map (some b1))] 118 (0, 0))] ++ (Hm1 ++ ([(bj1, .cells #[(ptr bdq14 0), (i64 (fr : Int)), (i64 (hh : Int)), (u64 ge), vr1, (i64 (roomB LW : Int))] 100 (0, 0))] ++ (Hr1 ++ ([(bdq14, .cells #[vlq14, (Value.slice none 0 0)] 94 (0, 0))] ++ (Hl1 ++ ([]))))))) ++ (Hw2 ++ (Hv2 ++ ([])))) := by
                   have hT := (Mem.pick5 Hm1 [_] Hr1 [_] Hl1 [_] _ (Mem.pick5 [_] Hr1 [_] Hl1 [_] Hm1 _ (Mem.pick5 Hr1 [_] Hl1 [_] Hm1 [_] _ (Mem.pick5 [_] Hl1 [_] Hm1 [_] Hr1 _ (Mem.pick5 Hl1 [_] Hm1 [_] Hr1 [_] _ (Mem.pick5 [_] Hm1 [_] Hr1 [_] Hl1 _ hm130))))))
                   try simp only [List.append_assoc, List.cons_append, List.nil_append, List.append_nil] at hT ⊢
                   exact hT
                 refine rw_c rfl (opR_call Try.func41 bd41 nm41 (args2 rfl rfl) (c_scommit bs1 bj1 b1 Hm1 fr hh ge LW vr1 rs1 Hr1 bdq14 vlq14 L1 Hl1 (plv (lL.getD k pl0)) ((lL.getD k pl0).2) _ _ (Mem.give hF132) gm1 gr1 gl1 hMr hJ oM hok oM (RdK.addRest hF132 (plQ1 hqL (k := k) sD)) (fun a h => Rd.addRest hF132 ((plQ2 hqL (k := k) sD) a h)) sL hSL.el (by have := hSL.len.1; omega) (by have h1 := (hBn.do hSL).enc; omega))) ?_
                 rintro _ w131 ⟨b2q133, Hm2q133, fr2q133, ge2q133, vr2q133, rs2q133, Hr2q133, Ls2q133, Hl2q133, rfl, gm2q133, hM2q133, gr2q133, gl2q133, hJ2q133, hg2q133, hl2q133, ho2q133, k_w131⟩
                 have hm131 : Mem w131 (restOf w0) ([(bs1, .cells #[(ptr bj1 0), (Value.map (some b2q133))] 118 (0, 0))] ++ (Hm2q133 ++ ([(bj1, .cells #[(ptr bdq14 0), (i64 (fr2q133 : Int)), (i64 (hh : Int)), (u64 ge2q133), vr2q133, (i64 (roomB (commitF hh LW ((lL.getD k pl0).2)).2 : Int))] 100 (0, 0))] ++ (Hr2q133 ++ ([(bdq14, .cells #[vlq14, (Value.slice none 0 0)] 94 (0, 0))] ++ (Hl2q133 ++ (Hw2 ++ (Hv2 ++ ([]))))))))) := (by
                   have hT := Mem.back hF132 k_w131
                   try simp only [List.append_assoc, List.cons_append, List.nil_append, List.append_nil] at hT ⊢
                   exact hT)
                 obtain ⟨LW3, hLW3⟩ : ∃ q, q = (commitF hh LW (lL.getD k pl0).2).2 := ⟨_, rfl⟩
                 have hG134 : MapG mN b2q133 (openS LW3) Hm2q133 := by rw [hLW3]; exact gm2q133
                 have hM3 : rs2q133.map (·.2) = LW3 := by rw [hLW3]; exact hM2q133
                 have hJ3 : JI Ls2q133 fr2q133 hh ge2q133 LW3 := by rw [hLW3]; exact hJ2q133
                 have hok3 : okS LW3 = true := by rw [hLW3]; exact ho2q133
                 have hm135 : Mem w131 (restOf w0) ([(bs1, .cells #[(ptr bj1 0), (Value.map (some b2q133))] 118 (0, 0))] ++ (Hm2q133 ++ ([(bj1, .cells #[(ptr bdq14 0), (i64 (fr2q133 : Int)), (i64 (hh : Int)), (u64 ge2q133), vr2q133, (i64 (roomB LW3 : Int))] 100 (0, 0))] ++ (Hr2q133 ++ ([(bdq14, .cells #[vlq14, (Value.slice none 0 0)] 94 (0, 0))] ++ (Hl2q133 ++ (Hw2 ++ (Hv2 ++ ([]))))))))) := by rw [hLW3]; exact hm131
                 have hge3 := hg2q133
                 have hLl3 := hl2q133
                 have hBn3 : BndK (20 * (k + 1)) (openS LW3) := by rw [hLW3, Nat.mul_succ]; exact hBn.commit hok hR0 hSL
                 have hR3 : RightK (openS LW3) := openS_right fun b hb => by have := hJ3.el b hb; omega
                 have hkv3 : ps2.map kvOf = openS LW3 := by rw [hLW3]; exact hkv2
                 have hBl3 := hBn3.1
                 refine rM rfl s16 <| rw_q rfl (ev_i64_neq rfl rfl) <| rM rfl rfl ?_
                 have hd136 : (((commitF hh LW ((lL.getD k pl0).2)).1) != ((commitF hh LW (lL.getD k pl0).2).1)) = false := (bne_self_eq_false _)
                 refine rw_gyq (s := 116) rfl rfl hd136 rfl (ev_move s9) <| rw_gyq (s := 116) rfl rfl hd136 rfl (ev_move s11) <| rw_gy (s := 116) rfl rfl hd136 rfl (opR_call Try.func42 bd42 nm42 (args2 rfl rfl) (c_sis bs1 bj1 b2q133 (openS LW3) vv2 ps2 _ hm135.h0 (MapG.rdIn hG134 (fun p hp => (hm135).own _ (List.mem_append_right _ (List.mem_append_left _ hp))) nN) hR3.small sL (hrv2 _ (fun q hq => (hm135).own _ (List.mem_append_right _ (List.mem_append_right _ (List.mem_append_right _ (List.mem_append_right _ (List.mem_append_right _ (List.mem_append_right _ (List.mem_append_right _ (List.mem_append_left _ hq))))))))) (fun b o e => (hm135).rest b o e)) (fun a h => Rd.ofRest ((fun a h => (hV2 a h).1) a h) hm135) hkv3)) ?_
                 rintro _ w137 ⟨rfl, _ew137⟩
                 have hm137 := hm135.ext _ew137
                 refine rw_gyq (s := 116) rfl rfl hd136 rfl (ev_not (b := true) rfl) <| rw_q rfl (ev_pick_fk rfl hd136 rfl) <| rN <| cw_cond_f rfl (by decide) ?_
                 refine cw_skip (kThen_normal (sR ?_))
                 refine rM rfl s13 <| rw_q rfl (ev_i64_rem (b := 3) rfl rfl oM oM oM) <| rw_q rfl (ev_i64_eql (b := 2) rfl rfl) <| rN ?_
                 refine cw_cond rfl (fun hc139 => ?_) (fun hc139 => ?_)
                 · -- true
                   have hc139p := eq_of_beq hc139
                   refine cw_seq ?_
                   have hnnq140 := hJ3.new oM
                   have hobq140 := hJ3.old
                   obtain ⟨frOq140, hfrOq140⟩ : ∃ q : Nat, q = hh - fr2q133 := ⟨_, rfl⟩
                   have hJoq140 := open_JI hJ3 oM
                   rw [← hfrOq140] at hJoq140
                   have hJlq140 := hJ3.len
                   have hJhq140 := hJ3.half
                   refine cw_region <| rM rfl s7 ?_
                   have hF142 : Mem w137 (restOf w0) (([(bdq14, .cells #[vlq14, (Value.slice none 0 0)] 94 (0, 0))] ++ (Hl2q133 ++ ([]))) ++ ([(bs1, .cells #[(ptr bj1 0), (Value.map (some b2q133))] 118 (0, 0))] ++ (Hm2q133 ++ ([(bj1, .cells #[(ptr bdq14 0), (i64 (fr2q133 : Int)), (i64 (hh : Int)), (u64 ge2q133), vr2q133, (i64 (roomB LW3 : Int))] 100 (0, 0))] ++ (Hr2q133 ++ (Hw2 ++ (Hv2 ++ ([])))))))) := by
                     have hT := (Mem.pick5 Hl2q133 [_] Hm2q133 [_] Hr2q133 [_] _ (Mem.pick5 [_] Hm2q133 [_] Hr2q133 [_] Hl2q133 _ hm137))
                     try simp only [List.append_assoc, List.cons_append, List.nil_append, List.append_nil] at hT ⊢
                     exact hT
                   refine rw_c rfl (opR_call Try.func39 bd39 nm39 (args1 rfl) (c_sopen bdq14 vlq14 Ls2q133 Hl2q133 frOq140 hh LW3 _ _ (Mem.give hF142) gl2q133 (congrArg Prod.snd hobq140) (by rw [hobq140]; show _ - ((fr2q133 : Nat) : Int) = ((frOq140 : Nat) : Int); omega) hJoq140 hnnq140.2 hok3 oM)) ?_
                   rintro _ w141 ⟨bsq143, bjq143, bq143, Hmq143, vrq143, rsq143, Hrq143, Hl2q143, rfl, gmq143, hMq143, grq143, gl2q143, k_w141⟩
                   have hm141 : Mem w141 (restOf w0) ([(bsq143, .cells #[(ptr bjq143 0), (Value.map (some bq143))] 118 (0, 0))] ++ (Hmq143 ++ ([(bjq143, .cells #[(ptr bdq14 0), (i64 (frOq140 : Int)), (i64 (hh : Int)), (u64 (newB Ls2q133 [])), vrq143, (i64 (roomB LW3 : Int))] 100 (0, 0))] ++ (Hrq143 ++ ([(bdq14, .cells #[vlq14, (Value.slice none 0 0)] 94 (0, 0))] ++ (Hl2q143 ++ ([(bs1, .cells #[(ptr bj1 0), (Value.map (some b2q133))] 118 (0, 0))] ++ (Hm2q133 ++ ([(bj1, .cells #[(ptr bdq14 0), (i64 (fr2q133 : Int)), (i64 (hh : Int)), (u64 ge2q133), vr2q133, (i64 (roomB LW3 : Int))] 100 (0, 0))] ++ (Hr2q133 ++ (Hw2 ++ (Hv2 ++ ([]))))))))))))) := (by
                     have hT := Mem.back hF142 k_w141
                     try simp only [List.append_assoc, List.cons_append, List.nil_append, List.append_nil] at hT ⊢
                     exact hT)
                   have hm144 := Mem.drop ([(bs1, .cells #[(ptr bj1 0), (Value.map (some b2q133))] 118 (0, 0))]) _ (Mem.pick6 [_] Hmq143 [_] Hrq143 [_] Hl2q143 [_] _ hm141)
                   have hm145 := Mem.drop Hm2q133 _ (Mem.pick6 [_] Hmq143 [_] Hrq143 [_] Hl2q143 Hm2q133 _ hm144)
                   have hm146 := Mem.drop ([(bj1, .cells #[(ptr bdq14 0), (i64 (fr2q133 : Int)), (i64 (hh : Int)), (u64 ge2q133), vr2q133, (i64 (roomB LW3 : Int))] 100 (0, 0))]) _ (Mem.pick6 [_] Hmq143 [_] Hrq143 [_] Hl2q143 [_] _ hm145)
                   have hm147 := Mem.drop Hr2q133 _ (Mem.pick6 [_] Hmq143 [_] Hrq143 [_] Hl2q143 Hr2q133 _ hm146)
                   have hodlbsq143 : (openD Ls2q133 []).length = Ls2q133.length := openD_len
                   refine rw_q rfl (ev_move (v := (Value.tuple #[(ptr bsq143 0), (i64 0)])) rfl) <| rw_q (v := (ptr bsq143 0)) rfl (ev_extract rfl rfl) <| rw_q (v := (i64 0)) rfl (ev_extract rfl rfl) <| rw_q rfl (ev_assign (v := (ptr bsq143 0)) rfl) <| rw_q rfl (ev_assign (v := (i64 0)) rfl) <| rN ?_
                   refine CW.abs (fun g => g 0 = (i64 (n : Int)) ∧ g 1 = vL ∧ g 2 = (Value.string front) ∧ g 7 = (ptr bdq14 0) ∧ g 8 = (i64 0) ∧ g 9 = (ptr bsq143 0) ∧ g 10 = (i64 0) ∧ g 11 = vv2 ∧ g 12 = vw2 ∧ g 13 = (i64 (k : Int)) ∧ g 14 = (plv (lL.getD k pl0)) ∧ g 15 = vq36 ∧ g 16 = (i64 ((commitF hh LW (lL.getD k pl0).2).1)) ∧ g 17 = rq38 ∧ g 25 = (bl false) ∧ g 40 = (bl (decide (100 < (front.size : Int)))) ∧ g 51 = (bl false) ∧ g 62 = (bl false) ∧ g 66 = vL ∧ g 67 = (i64 (lL.length : Int)) ∧ g 68 = (i64 (k : Int)) ∧ g 69 = (bl (decide ((k : Int) < (lL.length : Int)))) ∧ g 82 = (bl ((encE ((lL.getD k pl0).2)) == 0)) ∧ g 109 = (bl (((commitF hh LW (lL.getD k pl0).2).1) == 0)) ∧ g 121 = (bl false) ∧ g 124 = (bl (((k : Int) % 3) == 2)) ∧ True) ⟨s0, s1, s2, s7, s8, rfl, rfl, s11, s12, s13, s14, s15, s16, s17, s25, s40, s51, s62, s66, s67, s68, s69, s82, s109, rfl, rfl, trivial⟩ ?_
                   rintro fr148 ⟨s0, s1, s2, s7, s8, s9, s10, s11, s12, s13, s14, s15, s16, s17, s25, s40, s51, s62, s66, s67, s68, s69, s82, s109, s121, s124, _⟩
                   refine sR <| rM rfl s10 <| rw_q rfl (ev_i64_neq (b := 0) rfl rfl) <| rw_q rfl (ev_move (v := (bl (0 != 0))) rfl) <| rw_gyq (s := 132) rfl rfl hd16 rfl (ev_move s9) <| rw_gyq (s := 132) rfl rfl hd16 rfl (ev_move s11) ?_
                   refine rw_gy (s := 132) rfl rfl hd16 rfl (opR_call Try.func42 bd42 nm42 (args2 rfl rfl) (c_sis bsq143 bjq143 bq143 (openS LW3) vv2 ps2 _ hm147.h0 (MapG.rdIn gmq143 (fun p hp => (hm147).own _ (List.mem_append_right _ (List.mem_append_left _ hp))) nN) hR3.small sL (hrv2 _ (fun q hq => (hm147).own _ (List.mem_append_right _ (List.mem_append_right _ (List.mem_append_right _ (List.mem_append_right _ (List.mem_append_right _ (List.mem_append_right _ (List.mem_append_right _ (List.mem_append_left _ hq))))))))) (fun b o e => (hm147).rest b o e)) (fun a h => Rd.ofRest ((fun a h => (hV2 a h).1) a h) hm147) hkv3)) ?_
                   rintro _ w149 ⟨rfl, _ew149⟩
                   have hm149 := hm147.ext _ew149
                   refine rw_gyq (s := 132) rfl rfl hd16 rfl (ev_not (b := true) rfl) <| rw_q rfl (ev_pick_fk rfl hd16 rfl) <| rN <| cw_cond_f rfl (by decide) ?_
                   refine cw_skip (kBlk_normal (cw_region ?_))
                   refine rw_q rfl (ev_i64_add (b := 1) s68 rfl oM oM) <| rw_q rfl (ev_move (v := (i64 ((k : Int) + 1))) rfl) <| rN ?_
                   exact ⟨⟨(k + 1), bsq143, bjq143, bq143, Hmq143, frOq140, (newB Ls2q133 []), vrq143, rsq143, Hrq143, (openD Ls2q133 []), Hl2q143, LW3, vw2, ws2, Hw2, vv2, ps2, Hv2, oM, hJoq140, oM, hok3, hMq143, hBn3, oM, gmq143, grq143, gl2q143, gw2, (by rw [hMw2, hLW3]), hrv2, hkv3, hV2, s0, s1, s2, s7, s8, s9, s11, s12, s25, s40, s51, s62, s66, s67, rfl, (by
                     have hT := hm149
                     try simp only [List.append_assoc, List.cons_append, List.nil_append, List.append_nil] at hT ⊢
                     exact hT)⟩, meas (rfl) z68 oM oM⟩
                 · -- false
                   have hc139p := ne_of_beq_false hc139
                   refine cw_skip (kBlk_normal (cw_region ?_))
                   refine rw_q rfl (ev_i64_add (b := 1) s68 rfl oM oM) <| rw_q rfl (ev_move (v := (i64 ((k : Int) + 1))) rfl) <| rN ?_
                   exact ⟨⟨(k + 1), bs1, bj1, b2q133, Hm2q133, fr2q133, ge2q133, vr2q133, rs2q133, Hr2q133, Ls2q133, Hl2q133, LW3, vw2, ws2, Hw2, vv2, ps2, Hv2, oM, hJ3, oM, hok3, hM3, hBn3, oM, hG134, gr2q133, gl2q133, gw2, (by rw [hMw2, hLW3]), hrv2, hkv3, hV2, s0, s1, s2, s7, s8, s9, s11, s12, s25, s40, s51, s62, s66, s67, rfl, (by
                     have hT := hm137
                     try simp only [List.append_assoc, List.cons_append, List.nil_append, List.append_nil] at hT ⊢
                     exact hT)⟩, meas (rfl) z68 oM oM⟩
           · -- false
             have hc34p := of_decide_eq_false hc34
             refine cw_exit ?_
             refine kThen_exit (kThen_exit (kBlk_hit ?_))
             refine cw_seq ?_
             have hkl : k = lL.length := by omega
             have hJl := hJ.len
             have hR0 : RightK (openS LW) := openS_right fun b hb => by have := hJ.el b hb; omega
             have hBl := hBn.1
             have hkk : (ps.map (·.key)) = (openS LW).map (·.1) := kv_keys hkv
             have hlp2 := congrArg List.length hkv; rw [List.length_map] at hlp2
             have hal : (ps.map (·.key)).length = (openS LW).length := by rw [hkk, List.length_map]
             have hsub : (keysB (openS LW) front) = (ps.map (·.key)).filter (preB front) := by rw [hkk]; unfold keysB; rfl
             have hfl : (keysB (openS LW) front).length ≤ (ps.map (·.key)).length := by rw [hsub]; exact List.length_filter_le _ _
             refine cw_region <| rM rfl s9 <| rM rfl s2 <| rw_c rfl (opR_call Try.func43 bd43 nm43 (args2 rfl rfl) (c_skeys bs1 bj1 b1 (openS LW) front _ hm33.h0 (MapG.rdIn gm1 (fun p hp => (hm33).own _ (List.mem_append_right _ (List.mem_append_left _ hp))) nN) hR0.small sL)) ?_
             rintro rq152 w151 ⟨Hsq152, grq152, k_w151⟩
             have hm151 : Mem w151 (restOf w0) (Hsq152 ++ ([(bs1, .cells #[(ptr bj1 0), (Value.map (some b1))] 118 (0, 0))] ++ (Hm1 ++ ([(bj1, .cells #[(ptr bdq14 0), (i64 (fr : Int)), (i64 (hh : Int)), (u64 ge), vr1, (i64 (roomB LW : Int))] 100 (0, 0))] ++ (Hr1 ++ ([(bdq14, .cells #[vlq14, (Value.slice none 0 0)] 94 (0, 0))] ++ (Hl1 ++ (Hw ++ (Hv ++ ([])))))))))) := Mem.new (H := [(bs1, .cells #[(ptr bj1 0), (Value.map (some b1))] 118 (0, 0))] ++ (Hm1 ++ ([(bj1, .cells #[(ptr bdq14 0), (i64 (fr : Int)), (i64 (hh : Int)), (u64 ge), vr1, (i64 (roomB LW : Int))] 100 (0, 0))] ++ (Hr1 ++ ([(bdq14, .cells #[vlq14, (Value.slice none 0 0)] 94 (0, 0))] ++ (Hl1 ++ (Hw ++ (Hv ++ ([]))))))))) (H' := Hsq152) hm33 k_w151
             refine rA rfl (v := rq152) rfl ?_
             refine rN (sR ?_)
             refine rw_q rfl (ev_assign (v := (i64 0)) rfl) ?_
             refine rN (cw_seq (sR ?_))
             refine rM rfl s11 <| rw_q (v := (i64 (ps.length : Int))) rfl (ev_len_rk (hrv _ (fun q hq => (hm151).own _ (List.mem_append_right _ (List.mem_append_right _ (List.mem_append_right _ (List.mem_append_right _ (List.mem_append_right _ (List.mem_append_right _ (List.mem_append_right _ (List.mem_append_right _ (List.mem_append_left _ hq)))))))))) (fun b o e => (hm151).rest b o e)) uT55 rfl) <| rw_q rfl (ev_move (v := (i64 0)) rfl) ?_
             refine rN (cw_block ?_)
             refine cw_loop (fun g wv => ∃ (k2 : Nat), (k2 ≤ ps.length) ∧ g 0 = (i64 (n : Int)) ∧ g 1 = vL ∧ g 2 = (Value.string front) ∧ g 7 = (ptr bdq14 0) ∧ g 8 = (i64 0) ∧ g 9 = (ptr bs1 0) ∧ g 11 = vv ∧ g 12 = vw ∧ g 20 = rq152 ∧ g 21 = (i64 ((((ps.map (·.key)).take k2).filter (preB front)).length : Int)) ∧ g 25 = (bl false) ∧ g 40 = (bl (decide (100 < (front.size : Int)))) ∧ g 51 = (bl false) ∧ g 62 = (bl false) ∧ g 66 = vL ∧ g 67 = (i64 (lL.length : Int)) ∧ g 68 = (i64 (k : Int)) ∧ g 69 = (bl (decide ((k : Int) < (lL.length : Int)))) ∧ g 142 = vv ∧ g 143 = (i64 (ps.length : Int)) ∧ g 144 = (i64 (k2 : Int)) ∧ Mem wv (restOf w0) (Hsq152 ++ (Hv ++ ([])))) (fun g wv => ((ps.length : Int) - RowKit.intOf (g 144)).toNat) ?_ ?_
             have hm153 := Mem.drop ([(bs1, .cells #[(ptr bj1 0), (Value.map (some b1))] 118 (0, 0))]) _ (Mem.pick Hsq152 [_] _ hm151)
             have hm154 := Mem.drop Hm1 _ (Mem.pick Hsq152 Hm1 _ hm153)
             have hm155 := Mem.drop ([(bj1, .cells #[(ptr bdq14 0), (i64 (fr : Int)), (i64 (hh : Int)), (u64 ge), vr1, (i64 (roomB LW : Int))] 100 (0, 0))]) _ (Mem.pick Hsq152 [_] _ hm154)
             have hm156 := Mem.drop Hr1 _ (Mem.pick Hsq152 Hr1 _ hm155)
             have hm157 := Mem.drop ([(bdq14, .cells #[vlq14, (Value.slice none 0 0)] 94 (0, 0))]) _ (Mem.pick Hsq152 [_] _ hm156)
             have hm158 := Mem.drop Hl1 _ (Mem.pick Hsq152 Hl1 _ hm157)
             have hm159 := Mem.drop Hw _ (Mem.pick Hsq152 Hw _ hm158)
             · exact ⟨0, (Nat.zero_le _), s0, s1, s2, s7, s8, s9, s11, s12, rfl, (Eq.trans rfl (congrArg i64 rfl)), s25, s40, s51, s62, s66, s67, s68, rfl, rfl, rfl, rfl, (by
               have hT := hm159
               try simp only [List.append_assoc, List.cons_append, List.nil_append, List.append_nil] at hT ⊢
               exact hT)⟩
             · rintro fr160 w161 ⟨k2, hk2, s0, s1, s2, s7, s8, s9, s11, s12, s20, s21, s25, s40, s51, s62, s66, s67, s68, s69, s142, s143, s144, hm161⟩
               have z21 := s21
               have z144 := s144
               refine sR <| rw_q rfl (ev_i64_lss s144 s143) ?_
               refine rN (cw_seq ?_)
               refine cw_cond rfl (fun hc162 => ?_) (fun hc162 => ?_)
               · -- true
                 have hc162p := of_decide_eq_true hc162
                 have hkS : k2 < ps.length := by omega
                 have hvs := val_small hkv hBn _ (getD_mem (d := pair0) hkS)
                 have hsk := slk_key (ps := ps) k2
                 have hcl := cnt_le (l := (ps.map (·.key))) (P := preB front) k2
                 refine cw_skip (kThen_normal (cw_seq (cw_block (sR ?_))))
                 refine rw_q rfl (ev_indexAddr_rk (i := (k2 : Int)) (hrv _ (fun q hq => (hm161).own _ (List.mem_append_right _ (List.mem_append_left _ hq))) (fun b o e => (hm161).rest b o e)) uT55 ti79 s142 s144 oM sL) <| rw_q (v := (Value.agg #[(Value.string ((ps.getD k2 pair0).key)), (slv (ps.getD k2 pair0).val), (bl ((ps.getD k2 pair0).gone))])) rfl (ev_load_rkA (i := (k2 : Int)) (dflt := pair0) (cs := #[(Value.string ((ps.getD k2 pair0).key)), (slv (ps.getD k2 pair0).val), (bl ((ps.getD k2 pair0).gone))]) (hrv _ (fun q hq => (hm161).own _ (List.mem_append_right _ (List.mem_append_left _ hq))) (fun b o e => (hm161).rest b o e)) sL uT79 rfl ti79 rfl rfl (by decide) rfl) <| rw_c rfl (or_allocX hm161 ti79) ?_
                 rintro _ w163 ⟨b23, rfl, _ew163, hm163⟩
                 refine rw_n (or_storeW (cs := #[(Value.string ((ps.getD k2 pair0).key)), (slv (ps.getD k2 pair0).val), (bl ((ps.getD k2 pair0).gone))]) ti79 rfl rfl (by kernel_rfl) (one_arr (one_cons rfl (one_cons rfl (one_cons rfl one_nil)))) hm163.h0 (by kernel_rfl) rfl) ?_
                 rintro _ w164 uq164
                 have hm164 : Mem w164 (restOf w0) ([(b23, .cells #[(Value.string ((ps.getD k2 pair0).key)), (slv (ps.getD k2 pair0).val), (bl ((ps.getD k2 pair0).gone))] 79 (0, 0))] ++ (Hsq152 ++ (Hv ++ ([])))) := hm163.upd0 uq164
                 refine rN (sR ?_)
                 refine rw_q rfl (ev_fa (r := 0) uT79 rfl (by first | rfl | omega) ti9 rfl rfl) <| rw_q (v := (Value.string ((ps.getD k2 pair0).key))) rfl (ev_load1 uT9 rfl rfl hm164.h0 rfl) <| rw_q (v := (i64 (((ps.getD k2 pair0).key).size : Int))) rfl (ev_len_str uT9 rfl) <| rM rfl s2 <| rw_q (v := (i64 (front.size : Int))) rfl (ev_len_str uT9 rfl) <| rw_q rfl (ev_i64_geq rfl rfl) ?_
                 refine rw_q rfl (ev_move (v := (bl (decide ((front.size : Int) ≤ (((ps.getD k2 pair0).key).size : Int))))) rfl) ?_
                 rcases Bool.eq_false_or_eq_true (decide ((front.size : Int) ≤ (((ps.getD k2 pair0).key).size : Int))) with hb165 | hb165
                 · -- true
                   have hb165p := of_decide_eq_true hb165
                   refine rw_gyq (s := 154) rfl rfl hb165 rfl (ev_fa (r := 0) uT79 rfl (by first | rfl | omega) ti9 rfl rfl) <| rw_gyq (s := 154) rfl rfl hb165 rfl (ev_load1 uT9 rfl rfl hm164.h0 rfl) <| rw_gyq (s := 154) rfl rfl hb165 rfl (ev_move s2) <| rw_gyq (s := 154) rfl rfl hb165 rfl (ev_len_str uT9 rfl) <| rw_gyq (s := 154) rfl rfl hb165 rfl (ev_slice_strh uT9 rfl rfl sL sL) <| rw_gyq (s := 154) rfl rfl hb165 rfl (ev_move s2) ?_
                   refine rw_gyq (s := 154) rfl rfl hb165 rfl (ev_str_eql (s := (((ps.getD k2 pair0).key).extract 0 ((front.size : Int) : Int).toNat)) (t := front) rfl rfl) <| rw_q rfl (ev_pick_tk rfl hb165 rfl) <| rN ?_
                   refine CW.abs (fun g => g 0 = (i64 (n : Int)) ∧ g 1 = vL ∧ g 2 = (Value.string front) ∧ g 7 = (ptr bdq14 0) ∧ g 8 = (i64 0) ∧ g 9 = (ptr bs1 0) ∧ g 11 = vv ∧ g 12 = vw ∧ g 20 = rq152 ∧ g 21 = (i64 ((((ps.map (·.key)).take k2).filter (preB front)).length : Int)) ∧ g 23 = (ptr b23 0) ∧ g 25 = (bl false) ∧ g 40 = (bl (decide (100 < (front.size : Int)))) ∧ g 51 = (bl false) ∧ g 62 = (bl false) ∧ g 66 = vL ∧ g 67 = (i64 (lL.length : Int)) ∧ g 68 = (i64 (k : Int)) ∧ g 69 = (bl (decide ((k : Int) < (lL.length : Int)))) ∧ g 142 = vv ∧ g 143 = (i64 (ps.length : Int)) ∧ g 144 = (i64 (k2 : Int)) ∧ g 145 = (bl (decide ((k2 : Int) < (ps.length : Int)))) ∧ g 162 = (bl (decide ((((ps.getD k2 pair0).key).extract 0 ((front.size : Int) : Int).toNat) = front))) ∧ True) ⟨s0, s1, s2, s7, s8, s9, s11, s12, s20, s21, rfl, s25, s40, s51, s62, s66, s67, s68, s69, s142, s143, s144, rfl, rfl, trivial⟩ ?_
                   rintro fr166 ⟨s0, s1, s2, s7, s8, s9, s11, s12, s20, s21, s23, s25, s40, s51, s62, s66, s67, s68, s69, s142, s143, s144, s145, s162, _⟩
                   refine cw_cond s162 (fun hc167 => ?_) (fun hc167 => ?_)
                   · -- true
                     have hc167p := of_decide_eq_true hc167
                     have hpre : preB front (ps.getD k2 pair0).key = true := by unfold preB; rw [if_pos hb165]; exact hc167
                     have hcg := cnt_get (l := (ps.map (·.key))) (P := preB front) (k := k2) oM (by rw [hsk]; exact hpre)
                     rw [← hsub, hsk] at hcg
                     have hcs := cnt_step (l := (ps.map (·.key))) (P := preB front) (k := k2) oM
                     rw [hsk, if_pos hpre] at hcs
                     refine cw_seq (cw_seq ?_)
                     refine cw_draw [(0, false), (1, false), (2, false), (3, false), (4, false), (5, false), (6, false), (7, false), (8, false), (9, false), (10, false)] 11 (by kernel_rfl) <| dM rfl rfl s21 <| dM rfl rfl s20 <| dw_q (v := (i64 ((keysB (openS LW) front).length : Int))) rfl rfl (fun _ _hx => ev_len_rd (grq152.rd (Mem.pick [_] Hsq152 _ (hm164.ext _hx))) uT76 rfl) <| dw_q rfl rfl (fun _ _hx => ev_i64_geq rfl rfl) <| dM rfl rfl rfl ?_
                     have hd168 : (decide (((keysB (openS LW) front).length : Int) ≤ ((((ps.map (·.key)).take k2).filter (preB front)).length : Int))) = false := decide_eq_false (by have := hcg.1; omega)
                     refine dw_gqy (s := 167) rfl rfl rfl hd168 rfl (fun _ _hx => ev_move s20) <| dw_gqy (s := 167) rfl rfl rfl hd168 rfl (fun _ _hx => ev_move s21) <| dw_gqy (s := 167) rfl rfl rfl hd168 rfl (fun _ _hx => ev_indexAddr_rdv (grq152.rd (Mem.pick [_] Hsq152 _ (hm164.ext _hx))) uT76 ti9 rfl rfl oM sL) <| dw_gqy (s := 167) rfl rfl rfl hd168 rfl (fun _ _hx => ev_load_rdD (l := (keysB (openS LW) front)) (i := ((((ps.map (·.key)).take k2).filter (preB front)).length : Int)) (dflt := ByteArray.empty) (grq152.rd (Mem.pick [_] Hsq152 _ (hm164.ext _hx))) uT9 rfl oM sL rfl) <| dw_gqy (s := 167) rfl rfl rfl hd168 rfl (fun _ _hx => ev_fa (r := 0) uT79 rfl (by first | rfl | omega) ti9 rfl s23) <| dw_gqy (s := 167) rfl rfl rfl hd168 rfl (fun _ _hx => ev_load1 uT9 rfl rfl (hm164.ext _hx).h0 rfl) ?_
                     refine dw_nil (fun w169 _ew169 => ?_)
                     have hm169 := hm164.ext _ew169
                     refine rw_gyq (s := 167) rfl rfl hd168 rfl (ev_str_neq (s := ((keysB (openS LW) front).getD ((((ps.map (·.key)).take k2).filter (preB front)).length) ByteArray.empty)) (t := (ps.getD k2 pair0).key) rfl rfl) <| rw_q rfl (ev_pick_fk rfl hd168 rfl) <| rN ?_
                     have hd170 : (!decide (((keysB (openS LW) front).getD ((((ps.map (·.key)).take k2).filter (preB front)).length) ByteArray.empty) = (ps.getD k2 pair0).key)) = false := (by rw [decide_eq_true hcg.2]; rfl)
                     refine cw_cond_f rfl hd170 ?_
                     refine cw_skip (kThen_normal (cw_region ?_))
                     refine rM rfl s21 <| rw_q rfl (ev_i64_add (b := 1) rfl rfl oM oM) <| rw_q rfl (ev_assign (v := (i64 (((((ps.map (·.key)).take k2).filter (preB front)).length : Int) + 1))) rfl) ?_
                     refine rw_nil (kBlk_normal (cw_region ?_))
                     refine rw_q rfl (ev_i64_add (b := 1) s144 rfl oM oM) <| rw_q rfl (ev_move (v := (i64 ((k2 : Int) + 1))) rfl) <| rN ?_
                     have hm171 := Mem.drop ([(b23, .cells #[(Value.string ((ps.getD k2 pair0).key)), (slv (ps.getD k2 pair0).val), (bl ((ps.getD k2 pair0).gone))] 79 (0, 0))]) _ hm169
                     exact ⟨⟨(k2 + 1), oM, s0, s1, s2, s7, s8, s9, s11, s12, s20, (Eq.trans rfl (congrArg i64 (by rw [hcs]; omega))), s25, s40, s51, s62, s66, s67, s68, s69, s142, s143, rfl, (by
                       have hT := hm171
                       try simp only [List.append_assoc, List.cons_append, List.nil_append, List.append_nil] at hT ⊢
                       exact hT)⟩, meas (rfl) z144 oM oM⟩
                   · -- false
                     have hc167p := of_decide_eq_false hc167
                     refine cw_skip (kBlk_normal ?_)
                     have hpre : preB front (ps.getD k2 pair0).key = false := by unfold preB; rw [if_pos hb165]; exact hc167
                     have hcs := cnt_step (l := (ps.map (·.key))) (P := preB front) (k := k2) oM
                     rw [hsk, if_neg (by rw [hpre]; decide)] at hcs
                     refine cw_region <| rw_q rfl (ev_i64_add (b := 1) s144 rfl oM oM) <| rw_q rfl (ev_move (v := (i64 ((k2 : Int) + 1))) rfl) <| rN ?_
                     have hm172 := Mem.drop ([(b23, .cells #[(Value.string ((ps.getD k2 pair0).key)), (slv (ps.getD k2 pair0).val), (bl ((ps.getD k2 pair0).gone))] 79 (0, 0))]) _ hm164
                     exact ⟨⟨(k2 + 1), oM, s0, s1, s2, s7, s8, s9, s11, s12, s20, (Eq.trans s21 (congrArg i64 (by rw [hcs]; omega))), s25, s40, s51, s62, s66, s67, s68, s69, s142, s143, rfl, (by
                       have hT := hm172
                       try simp only [List.append_assoc, List.cons_append, List.nil_append, List.append_nil] at hT ⊢
                       exact hT)⟩, meas (rfl) z144 oM oM⟩
                 · -- false
                   have hb165p := of_decide_eq_false hb165
                   refine rw_gn (s := 154) rfl rfl hb165 rfl <| rw_gn (s := 154) rfl rfl hb165 rfl <| rw_gn (s := 154) rfl rfl hb165 rfl <| rw_gn (s := 154) rfl rfl hb165 rfl <| rw_gn (s := 154) rfl rfl hb165 rfl <| rw_gn (s := 154) rfl rfl hb165 rfl ?_
                   refine rw_gn (s := 154) rfl rfl hb165 rfl <| rw_q rfl (ev_pick_fk rfl hb165 rfl) <| rN ?_
                   refine CW.abs (fun g => g 0 = (i64 (n : Int)) ∧ g 1 = vL ∧ g 2 = (Value.string front) ∧ g 7 = (ptr bdq14 0) ∧ g 8 = (i64 0) ∧ g 9 = (ptr bs1 0) ∧ g 11 = vv ∧ g 12 = vw ∧ g 20 = rq152 ∧ g 21 = (i64 ((((ps.map (·.key)).take k2).filter (preB front)).length : Int)) ∧ g 23 = (ptr b23 0) ∧ g 25 = (bl false) ∧ g 40 = (bl (decide (100 < (front.size : Int)))) ∧ g 51 = (bl false) ∧ g 62 = (bl false) ∧ g 66 = vL ∧ g 67 = (i64 (lL.length : Int)) ∧ g 68 = (i64 (k : Int)) ∧ g 69 = (bl (decide ((k : Int) < (lL.length : Int)))) ∧ g 142 = vv ∧ g 143 = (i64 (ps.length : Int)) ∧ g 144 = (i64 (k2 : Int)) ∧ g 145 = (bl (decide ((k2 : Int) < (ps.length : Int)))) ∧ g 162 = (bl false) ∧ True) ⟨s0, s1, s2, s7, s8, s9, s11, s12, s20, s21, rfl, s25, s40, s51, s62, s66, s67, s68, s69, s142, s143, s144, rfl, rfl, trivial⟩ ?_
                   rintro fr173 ⟨s0, s1, s2, s7, s8, s9, s11, s12, s20, s21, s23, s25, s40, s51, s62, s66, s67, s68, s69, s142, s143, s144, s145, s162, _⟩
                   refine cw_cond_f s162 (by decide) ?_
                   refine cw_skip (kBlk_normal ?_)
                   have hpre : preB front (ps.getD k2 pair0).key = false := by unfold preB; rw [if_neg (by rw [hb165]; decide)]
                   have hcs := cnt_step (l := (ps.map (·.key))) (P := preB front) (k := k2) oM
                   rw [hsk, if_neg (by rw [hpre]; decide)] at hcs
                   refine cw_region <| rw_q rfl (ev_i64_add (b := 1) s144 rfl oM oM) <| rw_q rfl (ev_move (v := (i64 ((k2 : Int) + 1))) rfl) <| rN ?_
                   have hm174 := Mem.drop ([(b23, .cells #[(Value.string ((ps.getD k2 pair0).key)), (slv (ps.getD k2 pair0).val), (bl ((ps.getD k2 pair0).gone))] 79 (0, 0))]) _ hm164
                   exact ⟨⟨(k2 + 1), oM, s0, s1, s2, s7, s8, s9, s11, s12, s20, (Eq.trans s21 (congrArg i64 (by rw [hcs]; omega))), s25, s40, s51, s62, s66, s67, s68, s69, s142, s143, rfl, (by
                     have hT := hm174
                     try simp only [List.append_assoc, List.cons_append, List.nil_append, List.append_nil] at hT ⊢
                     exact hT)⟩, meas (rfl) z144 oM oM⟩
               · -- false
                 have hc162p := of_decide_eq_false hc162
                 refine cw_exit ?_
                 refine kThen_exit (kThen_exit (kBlk_hit ?_))
                 refine sR <| rM rfl s21 <| rM rfl s20 <| rw_q (v := (i64 ((keysB (openS LW) front).length : Int))) rfl (ev_len_rd (grq152.rd hm161) uT76 rfl) <| rw_q rfl (ev_i64_eql rfl rfl) <| rA rfl rfl ?_
                 refine rN (cw_ret ?_)
                 refine fnPost_ret [(bl (((((ps.map (·.key)).take k2).filter (preB front)).length : Int) == ((keysB (openS LW) front).length : Int)))] ⟨rfl, trivial⟩ ?_
                 have hd175 : (((((ps.map (·.key)).take k2).filter (preB front)).length : Int) == ((keysB (openS LW) front).length : Int)) = true := (by rw [show k2 = (ps.map (·.key)).length by rw [List.length_map]; omega, cnt_all, ← hsub]; exact beq_self_eq_true _)
                 exact ⟨congrArg bl hd175, Mem.below w0 hm161⟩


end Go.Proofs.Ytfbnhoolkajebaa
