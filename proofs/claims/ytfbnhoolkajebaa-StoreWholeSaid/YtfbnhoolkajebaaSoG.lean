/- The store's example. Conditions: none beyond those that each theorem states. -/
import Derived.Test.YtfbnhoolkajebaaSoE
namespace Go.Proofs.Ytfbnhoolkajebaa
section
set_option linter.unusedVariables false
set_option linter.unusedSimpArgs false
attribute [local irreducible] natB tkN tkOk kN vN_ oneOk oneR decF decP decV decE rightB encK recP num2 num4 allR goneB encV encE encL encS doO openK openS okS doK commitF lkA keysB
end --m
section
set_option linter.unusedVariables false
set_option linter.unusedSimpArgs false
/-- What the document's example leaves. -/
def spS : List KV := [(⟨#[98]⟩, [])]
def spL (v1 v2 v3 : Value) : List PairT := [PairT.mk ⟨#[98]⟩ (toSl v1 []) false, PairT.mk ⟨#[97]⟩ (toSl v2 [1#8]) false, PairT.mk ⟨#[97]⟩ (toSl v3 []) true]
theorem spL_all (v1 v2 v3 : Value) : allR (spL v1 v2 v3) (spL v1 v2 v3).length = true := by
  unfold allR spL rightP
  simp only [List.length_cons, List.length_nil, toSl_snd, List.take, List.all_cons, List.all_nil]
  rfl
theorem spL_enc (v1 v2 v3 : Value) : (encK (spL v1 v2 v3) (spL v1 v2 v3).length).length = 25 := by
  show (((([] : List (BitVec 8)) ++ recP false _ (toSl v1 []).2) ++ recP false _ (toSl v2 [1#8]).2) ++ recP true _ (toSl v3 []).2).length = 25
  simp only [List.length_append, recP_len, toSl_snd]; rfl
theorem spL_do (v1 v2 v3 : Value) : doK [] (spL v1 v2 v3) (spL v1 v2 v3).length = spS := by
  show delK (insK (insK [] ⟨#[98]⟩ (toSl v1 []).2) ⟨#[97]⟩ (toSl v2 [1#8]).2) ⟨#[97]⟩ = spS
  rw [toSl_snd, toSl_snd]; decide +kernel
theorem okS_blank : okS [[]] = true := rfl
theorem openS_blank : openS [[]] = [] := rfl
theorem speaks_commit (v1 v2 v3 : Value) : (commitF 10 [[]] (spL v1 v2 v3)).1 = 0 ∧ openS (commitF 10 [[]] (spL v1 v2 v3)).2 = spS := by
  have ha := spL_all v1 v2 v3
  have hl : (encV (spL v1 v2 v3)).length = 25 := by rw [(enc_yes ha).1]; exact spL_enc v1 v2 v3
  have hf : fitsB ((10 : Nat) : Int) (roomB [[]] : Int) (encV (spL v1 v2 v3)).length = true := by rw [hl]; rfl
  have hc : commitF 10 [[]] (spL v1 v2 v3) = (0, [[]] ++ [encV (spL v1 v2 v3)]) := by unfold commitF; rw [if_neg (by rw [ha]; decide), if_pos hf]
  have h := (commit_ok (hh := 10) (LW := [[]]) (lp := spL v1 v2 v3) okS_blank (by intro p hp; cases hp) (by
    intro p hp
    unfold spL at hp
    simp only [List.mem_cons, List.not_mem_nil, or_false] at hp
    rcases hp with rfl | rfl | rfl <;> simp [toSl_snd])).2
  rw [hc] at h ⊢
  exact ⟨rfl, h.trans ((if_pos rfl).trans (spL_do v1 v2 v3))⟩
theorem speaks_len (v1 v2 v3 : Value) : (encK (spL v1 v2 v3) (spL v1 v2 v3).length).length ≤ 1000000 := by rw [spL_enc]; decide
theorem speaks_wlen (v1 v2 v3 : Value) : (encS (doK (openS [[]]) (spL v1 v2 v3) (spL v1 v2 v3).length)).length ≤ 4000000 := by rw [openS_blank, spL_do]; decide
theorem speaks_el (v1 v2 v3 : Value) : ∀ a ∈ spL v1 v2 v3, a.key.size ≤ 1048576 ∧ a.val.2.length ≤ 1048576 := by
  intro p hp
  unfold spL at hp
  simp only [List.mem_cons, List.not_mem_nil, or_false] at hp
  rcases hp with rfl | rfl | rfl
  · exact ⟨(by decide : (1 : Nat) ≤ 1048576), by rw [toSl_snd]; decide⟩
  · exact ⟨(by decide : (1 : Nat) ≤ 1048576), by rw [toSl_snd]; decide⟩
  · exact ⟨(by decide : (1 : Nat) ≤ 1048576), by rw [toSl_snd]; decide⟩
theorem spS_get : (lkA spS ⟨#[97]⟩).isSome = false := rfl
theorem spS_keys : (keysB spS ⟨#[]⟩).length = 1 := by decide +kernel
theorem spS_len : spS.length = 1 := rfl
theorem spS_small : SmallK spS := by intro p hp; obtain rfl := List.mem_singleton.1 hp; decide
attribute [local irreducible] crashB crashK pushB readB inB errB cutN seenW
attribute [local irreducible] markB putB getB getK partB placeF blkOf rawB writeK blocksN
attribute [local irreducible] mostK newB roomB
attribute [local irreducible] recB recF recN genF badB lastP dataB gOf rOf pOf nOf loopH readH
attribute [local irreducible] okP layK turnL turnP oldB
attribute [local irreducible] openD
attribute [local irreducible] natB tkN tkOk kN vN_ oneOk oneR decF decP decV decE rightB encK recP num2 num4 allR goneB encV encE encL encS doO openK openS okS doK commitF lkA keysB
attribute [local irreducible] spS
set_option maxHeartbeats 2000000 in
theorem c_speaks16  (w0 : World)   : CallsR Try.prog 30 #[] w0 (fun r w1 => r = (bl true) ∧ Ext w0 w1) := by
 refine callsR_of_cw (args := []) Try.func30 rfl Try.ntmps30 Try.results30 rfl ?_
 have hm0 : Mem w0 (restOf w0) [] := Mem.of_world w0
 refine sR <| rw_q rfl (ev_assign (v := (bl false)) rfl) ?_
 refine rN (sR ?_)
 refine rw_c rfl (opR_call Try.func13 bd13 nm13 (args1 rfl) (c_dnew (20 : Int) _ sL)) ?_
 rintro _ w1 ⟨bdq2, vlq2, Hlq2, rfl, glq2, k_w1⟩
 have hm1 : Mem w1 (restOf w0) ([(bdq2, .cells #[vlq2, (Value.slice none 0 0)] 94 (0, 0))] ++ (Hlq2 ++ ([]))) := (by
   have hT := Mem.new (H := []) (H' := _) hm0 k_w1
   try simp only [List.append_assoc, List.cons_append, List.nil_append, List.append_nil] at hT ⊢
   exact hT)
 have hbl0 : List.replicate (20 : Int).toNat (List.replicate 64 0) = blank 20 := rfl
 obtain ⟨L0, hL0⟩ : ∃ q : List (List (BitVec 8)), q = (List.replicate (20 : Int).toNat (List.replicate 64 0)) := ⟨_, rfl⟩
 have hL0l : L0.length = 20 := by rw [hL0, hbl0]; simp
 have gg3 : GrowK (encA u8) 64 83 vlq2 L0 Hlq2 := GrowK.cast glq2 (hL0.symm)
 rw [hbl0] at hL0
 obtain ⟨hbJ, hbn⟩ := blank_JI (n := 20) oM oM
 rw [← hL0] at hbJ hbn
 have hn0 := new_le (ls := L0) (by rw [hL0]; exact blank_G _) (by decide)
 have hob0 : oldB L0 [] = ((L0.length : Int) / 2, [[]]) := by rw [hL0]; exact blank_old
 have hodl0 : (openD L0 []).length = L0.length := openD_len
 refine rw_q rfl (ev_move (v := (Value.tuple #[(ptr bdq2 0), (i64 0)])) rfl) <| rw_q (v := (ptr bdq2 0)) rfl (ev_extract rfl rfl) <| rw_q (v := (i64 0)) rfl (ev_extract rfl rfl) <| rw_q rfl (ev_assign (v := (ptr bdq2 0)) rfl) <| rw_q rfl (ev_assign (v := (i64 0)) rfl) ?_
 refine rN (cw_seq (sR ?_))
 refine rw_q rfl (ev_move (v := (i64 0)) rfl) <| rw_q rfl (ev_i64_neq (b := 0) rfl rfl) <| rw_q rfl (ev_move (v := (bl (0 != 0))) rfl) ?_
 have hd4 : (0 != 0) = false := told_ne rfl
 refine rw_gyq (s := 13) rfl rfl hd4 rfl (ev_move (v := (ptr bdq2 0)) rfl) <| rw_gyq (s := 13) rfl rfl hd4 rfl (ev_ptr_nil_eql uT25 rfl rfl) <| rw_q rfl (ev_pick_fk rfl hd4 rfl) <| rN <| cw_cond_f rfl (by decide) ?_
 refine cw_skip (kThen_normal (sR ?_))
 refine rw_q rfl (ev_move (v := (ptr bdq2 0)) rfl) ?_
 have hF6 : Mem w1 (restOf w0) (([(bdq2, .cells #[vlq2, (Value.slice none 0 0)] 94 (0, 0))] ++ (Hlq2 ++ ([]))) ++ ([])) := by
   have hT := (Mem.pick Hlq2 [_] _ (Mem.pick [_] Hlq2 _ hm1))
   try simp only [List.append_assoc, List.cons_append, List.nil_append, List.append_nil] at hT ⊢
   exact hT
 refine rw_c rfl (opR_call Try.func39 bd39 nm39 (args1 rfl) (c_sopen bdq2 vlq2 L0 Hlq2 0 10 [[]] _ _ (Mem.give hF6) gg3 (congrArg Prod.snd hob0) (by rw [hob0]; show _ - (L0.length : Int) / 2 = ((0 : Nat) : Int); omega) hbJ hn0.1 okS_blank oM)) ?_
 rintro _ w5 ⟨bsq7, bjq7, bq7, Hmq7, vrq7, rsq7, Hrq7, Hl2q7, rfl, gmq7, hMq7, grq7, gl2q7, k_w5⟩
 have hm5 : Mem w5 (restOf w0) ([(bsq7, .cells #[(ptr bjq7 0), (Value.map (some bq7))] 118 (0, 0))] ++ (Hmq7 ++ ([(bjq7, .cells #[(ptr bdq2 0), (i64 (0 : Int)), (i64 (10 : Int)), (u64 (newB L0 [])), vrq7, (i64 (roomB [[]] : Int))] 100 (0, 0))] ++ (Hrq7 ++ ([(bdq2, .cells #[vlq2, (Value.slice none 0 0)] 94 (0, 0))] ++ (Hl2q7 ++ ([]))))))) := (by
   have hT := Mem.back hF6 k_w5
   try simp only [List.append_assoc, List.cons_append, List.nil_append, List.append_nil] at hT ⊢
   exact hT)
 refine rw_q rfl (ev_move (v := (Value.tuple #[(ptr bsq7 0), (i64 0)])) rfl) <| rw_q (v := (ptr bsq7 0)) rfl (ev_extract rfl rfl) <| rw_q (v := (i64 0)) rfl (ev_extract rfl rfl) <| rw_q rfl (ev_assign (v := (ptr bsq7 0)) rfl) <| rw_q rfl (ev_assign (v := (i64 0)) rfl) <| rN ?_
 refine CW.abs (fun g => g 0 = (bl false) ∧ g 1 = (ptr bdq2 0) ∧ g 2 = (i64 0) ∧ g 3 = (ptr bsq7 0) ∧ g 4 = (i64 0) ∧ g 16 = (bl false) ∧ True) ⟨rfl, rfl, rfl, rfl, rfl, rfl, trivial⟩ ?_
 rintro fr8 ⟨s0, s1, s2, s3, s4, s16, _⟩
 refine cw_seq (sR ?_)
 refine rM rfl s4 <| rw_q rfl (ev_i64_neq (b := 0) rfl rfl) <| rw_q rfl (ev_move (v := (bl (0 != 0))) rfl) <| rw_gyq (s := 24) rfl rfl hd4 rfl (ev_move s3) <| rw_gyq (s := 24) rfl rfl hd4 rfl (ev_ptr_nil_eql uT70 rfl rfl) <| rw_q rfl (ev_pick_fk rfl hd4 rfl) ?_
 refine rw_q rfl (ev_move (v := (bl false)) rfl) <| rw_gyq (s := 28) rfl rfl rfl rfl (ev_move s3) <| rw_gyq (s := 28) rfl rfl rfl rfl (ev_build_pt (c := #[(Value.string (⟨#[98]⟩)), (Value.slice none 0 0), (bl false)]) (pl := [(0, 1), (1, 1), (2, 1)]) ti79 uT79 (by kernel_rfl) (pm_cons (i := 0) (v := (Value.string (⟨#[98]⟩))) (cs := #[(Value.string (⟨#[98]⟩))]) rfl rfl pm_nil) (by kernel_rfl)) <| rw_gy (s := 28) rfl rfl rfl rfl (or_buildSlice_cl u8 [1#8] u8_one hm5 uT23 ti5 rfl rfl rfl) ?_
 rintro _ w9 ⟨b31, rfl, _ew9, hm9⟩
 refine rw_gyq (s := 28) rfl rfl rfl rfl (ev_build_pt (c := #[(Value.string (⟨#[97]⟩)), (slc b31 0 1 1), (bl false)]) (pl := [(0, 1), (1, 1), (2, 1)]) ti79 uT79 (by kernel_rfl) (pm_cons (i := 0) (v := (Value.string (⟨#[97]⟩))) (cs := #[(Value.string (⟨#[97]⟩))]) rfl rfl (pm_cons (i := 1) (v := (slc b31 0 1 1)) (cs := #[(slc b31 0 1 1)]) rfl rfl pm_nil)) (by kernel_rfl)) <| rw_gyq (s := 28) rfl rfl rfl rfl (ev_build_pt (c := #[(Value.string (⟨#[97]⟩)), (Value.slice none 0 0), (bl true)]) (pl := [(0, 1), (1, 1), (2, 1)]) ti79 uT79 (by kernel_rfl) (pm_cons (i := 0) (v := (Value.string (⟨#[97]⟩))) (cs := #[(Value.string (⟨#[97]⟩))]) rfl rfl (pm_cons (i := 2) (v := (bl true)) (cs := #[(bl true)]) rfl rfl pm_nil)) (by kernel_rfl)) <| rw_gy (s := 28) rfl rfl rfl rfl (or_buildSlice_p (c := #[(Value.string (⟨#[98]⟩)), (Value.slice none 0 0), (bl false), (Value.string (⟨#[97]⟩)), (slc b31 0 1 1), (bl false), (Value.string (⟨#[97]⟩)), (Value.slice none 0 0), (bl true)]) hm9 uT55 ti79 rfl (pm_cons rfl rfl (pm_cons rfl rfl (pm_cons rfl rfl pm_nil))) (by kernel_rfl)) ?_
 rintro _ w10 ⟨b34, rfl, _ew10, hm10⟩
 have hm10 : Mem w10 (restOf w0) ([(b34, .cells #[(Value.string (⟨#[98]⟩)), (Value.slice none 0 0), (bl false), (Value.string (⟨#[97]⟩)), (slc b31 0 1 1), (bl false), (Value.string (⟨#[97]⟩)), (Value.slice none 0 0), (bl true)] 79 (0, 0)), (b31, .cells (cl u8 ([1#8])) 5 (0, 0)), (bsq7, .cells #[(ptr bjq7 0), (Value.map (some bq7))] 118 (0, 0))] ++ (Hmq7 ++ ([(bjq7, .cells #[(ptr bdq2 0), (i64 (0 : Int)), (i64 (10 : Int)), (u64 (newB L0 [])), vrq7, (i64 (roomB [[]] : Int))] 100 (0, 0))] ++ (Hrq7 ++ ([(bdq2, .cells #[vlq2, (Value.slice none 0 0)] 94 (0, 0))] ++ (Hl2q7 ++ ([]))))))) := hm10
 have hF12 : Mem w10 (restOf w0) (([(bsq7, .cells #[(ptr bjq7 0), (Value.map (some bq7))] 118 (0, 0))] ++ (Hmq7 ++ ([(bjq7, .cells #[(ptr bdq2 0), (i64 (0 : Int)), (i64 (10 : Int)), (u64 (newB L0 [])), vrq7, (i64 (roomB [[]] : Int))] 100 (0, 0))] ++ (Hrq7 ++ ([(bdq2, .cells #[vlq2, (Value.slice none 0 0)] 94 (0, 0))] ++ (Hl2q7 ++ ([]))))))) ++ ([(b34, .cells #[(Value.string (⟨#[98]⟩)), (Value.slice none 0 0), (bl false), (Value.string (⟨#[97]⟩)), (slc b31 0 1 1), (bl false), (Value.string (⟨#[97]⟩)), (Value.slice none 0 0), (bl true)] 79 (0, 0)), (b31, .cells (cl u8 ([1#8])) 5 (0, 0))])) := by
   have hT := (Mem.pick6 Hmq7 [_] Hrq7 [_] Hl2q7 [_, _] [_] _ (Mem.pick5 [_] Hrq7 [_] Hl2q7 [_, _, _] Hmq7 _ (Mem.pick5 Hrq7 [_] Hl2q7 [_, _, _] Hmq7 [_] _ (Mem.pick5 [_] Hl2q7 [_, _, _] Hmq7 [_] Hrq7 _ (Mem.pick5 Hl2q7 [_, _, _] Hmq7 [_] Hrq7 [_] _ (Mem.pick5 [_, _, _] Hmq7 [_] Hrq7 [_] Hl2q7 _ hm10))))))
   try simp only [List.append_assoc, List.cons_append, List.nil_append, List.append_nil] at hT ⊢
   exact hT
 refine rw_gy (s := 28) rfl rfl rfl rfl (opR_call Try.func41 bd41 nm41 (args2 rfl rfl) (c_scommit bsq7 bjq7 bq7 Hmq7 0 10 (newB L0 []) [[]] vrq7 rsq7 Hrq7 bdq2 vlq2 (openD L0 []) Hl2q7 (slc b34 0 3 3) ([(PairT.mk (⟨#[98]⟩) (toSl (Value.slice none 0 0) ([])) false), (PairT.mk (⟨#[97]⟩) (toSl (slc b31 0 1 1) ([1#8])) false), (PairT.mk (⟨#[97]⟩) (toSl (Value.slice none 0 0) ([])) true)]) _ _ (Mem.give hF12) gmq7 grq7 gl2q7 hMq7 hbJ oM okS_blank oM (RdK.ofAll (enc := encP) (k := 3) (l := [(PairT.mk (⟨#[98]⟩) (toSl (Value.slice none 0 0) ([])) false), (PairT.mk (⟨#[97]⟩) (toSl (slc b31 0 1 1) ([1#8])) false), (PairT.mk (⟨#[97]⟩) (toSl (Value.slice none 0 0) ([])) true)]) (Mem.addOwn hF12 (List.Mem.head _)) rfl (fun _ _ => rfl)) (hq_cons (Rd.nil _ _) (hq_cons (Rd.mkA (Mem.addOwn hF12 (List.Mem.tail _ (List.Mem.head _)))) (hq_cons (Rd.nil _ _) hq_nil))) sL (speaks_el _ _ _) (speaks_len _ _ _) (speaks_wlen _ _ _))) ?_
 rintro _ w11 ⟨b2q13, Hm2q13, fr2q13, ge2q13, vr2q13, rs2q13, Hr2q13, Ls2q13, Hl2q13, rfl, gm2q13, hM2q13, gr2q13, gl2q13, hJ2q13, hg2q13, hl2q13, ho2q13, hst2q13, k_w11⟩
 have hm11 : Mem w11 (restOf w0) ([(bsq7, .cells #[(ptr bjq7 0), (Value.map (some b2q13))] 118 (0, 0))] ++ (Hm2q13 ++ ([(bjq7, .cells #[(ptr bdq2 0), (i64 (fr2q13 : Int)), (i64 (10 : Int)), (u64 ge2q13), vr2q13, (i64 (roomB (commitF 10 [[]] ([(PairT.mk (⟨#[98]⟩) (toSl (Value.slice none 0 0) ([])) false), (PairT.mk (⟨#[97]⟩) (toSl (slc b31 0 1 1) ([1#8])) false), (PairT.mk (⟨#[97]⟩) (toSl (Value.slice none 0 0) ([])) true)])).2 : Int))] 100 (0, 0))] ++ (Hr2q13 ++ ([(bdq2, .cells #[vlq2, (Value.slice none 0 0)] 94 (0, 0))] ++ (Hl2q13 ++ ([(b34, .cells #[(Value.string (⟨#[98]⟩)), (Value.slice none 0 0), (bl false), (Value.string (⟨#[97]⟩)), (slc b31 0 1 1), (bl false), (Value.string (⟨#[97]⟩)), (Value.slice none 0 0), (bl true)] 79 (0, 0)), (b31, .cells (cl u8 ([1#8])) 5 (0, 0))]))))))) := (by
   have hT := Mem.back hF12 k_w11
   try simp only [List.append_assoc, List.cons_append, List.nil_append, List.append_nil] at hT ⊢
   exact hT)
 have hspl := spS_len
 have hG14 : MapG mN b2q13 spS Hm2q13 := MapG.castS gm2q13 (speaks_commit _ _ _).2
 refine rw_gyq (s := 28) rfl rfl rfl rfl (ev_i64_neq (b := 0) rfl rfl) <| rw_q rfl (ev_pick_f rfl rfl) <| rN ?_
 have hd15 : (((commitF 10 [[]] ([(PairT.mk (⟨#[98]⟩) (toSl (Value.slice none 0 0) ([])) false), (PairT.mk (⟨#[97]⟩) (toSl (slc b31 0 1 1) ([1#8])) false), (PairT.mk (⟨#[97]⟩) (toSl (Value.slice none 0 0) ([])) true)])).1) != 0) = false := (bne_eq_false_iff_eq.2 (speaks_commit _ _ _).1)
 refine cw_cond_f rfl hd15 ?_
 refine cw_skip (kThen_normal (sR ?_))
 refine rM rfl s3 <| rw_c rfl (opR_call Try.func47 bd47 nm47 (args2 rfl rfl) (c_sget bsq7 bjq7 b2q13 spS (⟨#[97]⟩) _ hm11.h0 (MapG.rdIn hG14 (fun p hp => (hm11).own _ (List.mem_append_right _ (List.mem_append_left _ hp))) nN) spS_small sL)) ?_
 rintro _ w16 ⟨vq17, Hsq17, rfl, grq17, k_w16⟩
 have hm16 : Mem w16 (restOf w0) (Hsq17 ++ ([(bsq7, .cells #[(ptr bjq7 0), (Value.map (some b2q13))] 118 (0, 0))] ++ (Hm2q13 ++ ([(bjq7, .cells #[(ptr bdq2 0), (i64 (fr2q13 : Int)), (i64 (10 : Int)), (u64 ge2q13), vr2q13, (i64 (roomB (commitF 10 [[]] ([(PairT.mk (⟨#[98]⟩) (toSl (Value.slice none 0 0) ([])) false), (PairT.mk (⟨#[97]⟩) (toSl (slc b31 0 1 1) ([1#8])) false), (PairT.mk (⟨#[97]⟩) (toSl (Value.slice none 0 0) ([])) true)])).2 : Int))] 100 (0, 0))] ++ (Hr2q13 ++ ([(bdq2, .cells #[vlq2, (Value.slice none 0 0)] 94 (0, 0))] ++ (Hl2q13 ++ ([(b34, .cells #[(Value.string (⟨#[98]⟩)), (Value.slice none 0 0), (bl false), (Value.string (⟨#[97]⟩)), (slc b31 0 1 1), (bl false), (Value.string (⟨#[97]⟩)), (Value.slice none 0 0), (bl true)] 79 (0, 0)), (b31, .cells (cl u8 ([1#8])) 5 (0, 0))])))))))) := Mem.new (H := [(bsq7, .cells #[(ptr bjq7 0), (Value.map (some b2q13))] 118 (0, 0))] ++ (Hm2q13 ++ ([(bjq7, .cells #[(ptr bdq2 0), (i64 (fr2q13 : Int)), (i64 (10 : Int)), (u64 ge2q13), vr2q13, (i64 (roomB (commitF 10 [[]] ([(PairT.mk (⟨#[98]⟩) (toSl (Value.slice none 0 0) ([])) false), (PairT.mk (⟨#[97]⟩) (toSl (slc b31 0 1 1) ([1#8])) false), (PairT.mk (⟨#[97]⟩) (toSl (Value.slice none 0 0) ([])) true)])).2 : Int))] 100 (0, 0))] ++ (Hr2q13 ++ ([(bdq2, .cells #[vlq2, (Value.slice none 0 0)] 94 (0, 0))] ++ (Hl2q13 ++ ([(b34, .cells #[(Value.string (⟨#[98]⟩)), (Value.slice none 0 0), (bl false), (Value.string (⟨#[97]⟩)), (slc b31 0 1 1), (bl false), (Value.string (⟨#[97]⟩)), (Value.slice none 0 0), (bl true)] 79 (0, 0)), (b31, .cells (cl u8 ([1#8])) 5 (0, 0))]))))))) (H' := Hsq17) hm11 k_w16
 refine rw_q rfl (ev_move (v := (Value.tuple #[vq17, (bl ((lkA spS (⟨#[97]⟩)).isSome))])) rfl) <| rw_q (v := vq17) rfl (ev_extract rfl rfl) <| rw_q (v := (bl ((lkA spS (⟨#[97]⟩)).isSome))) rfl (ev_extract rfl rfl) <| rA rfl (v := vq17) rfl <| rw_q rfl (ev_assign (v := (bl ((lkA spS (⟨#[97]⟩)).isSome))) rfl) <| rN ?_
 have hm18 := Mem.drop Hsq17 _ hm16
 have hm19 := Mem.drop ([(b34, .cells #[(Value.string (⟨#[98]⟩)), (Value.slice none 0 0), (bl false), (Value.string (⟨#[97]⟩)), (slc b31 0 1 1), (bl false), (Value.string (⟨#[97]⟩)), (Value.slice none 0 0), (bl true)] 79 (0, 0))]) _ (Mem.pick6 [_] Hm2q13 [_] Hr2q13 [_] Hl2q13 [_] _ hm18)
 have hm20 := Mem.drop ([(b31, .cells (cl u8 ([1#8])) 5 (0, 0))]) _ (Mem.pick6 [_] Hm2q13 [_] Hr2q13 [_] Hl2q13 [_] _ hm19)
 refine CW.abs (fun g => g 0 = (bl false) ∧ g 1 = (ptr bdq2 0) ∧ g 2 = (i64 0) ∧ g 3 = (ptr bsq7 0) ∧ g 4 = (i64 0) ∧ g 6 = (bl ((lkA spS (⟨#[97]⟩)).isSome)) ∧ g 16 = (bl false) ∧ g 37 = (bl (((commitF 10 [[]] ([(PairT.mk (⟨#[98]⟩) (toSl (Value.slice none 0 0) ([])) false), (PairT.mk (⟨#[97]⟩) (toSl (slc b31 0 1 1) ([1#8])) false), (PairT.mk (⟨#[97]⟩) (toSl (Value.slice none 0 0) ([])) true)])).1) != 0)) ∧ True) ⟨s0, s1, s2, s3, s4, rfl, s16, rfl, trivial⟩ ?_
 rintro fr21 ⟨s0, s1, s2, s3, s4, s6, s16, s37, _⟩
 refine sR <| rM rfl s6 <| rw_q rfl (ev_not rfl) <| rw_q rfl (ev_move (v := (bl (!((lkA spS (⟨#[97]⟩)).isSome)))) rfl) ?_
 have hd22 : ((lkA spS (⟨#[97]⟩)).isSome) = false := spS_get
 have hd23 : (!((lkA spS (⟨#[97]⟩)).isSome)) = true := congrArg Bool.not hd22
 refine rw_gyq (s := 45) rfl rfl hd23 rfl (ev_move s3) <| rw_gy (s := 45) rfl rfl hd23 rfl (opR_call Try.func43 bd43 nm43 (args2 rfl rfl) (c_skeys bsq7 bjq7 b2q13 spS (⟨#[]⟩) _ hm20.h0 (MapG.rdIn hG14 (fun p hp => (hm20).own _ (List.mem_append_right _ (List.mem_append_left _ hp))) nN) spS_small sL)) ?_
 rintro rq25 w24 ⟨Hsq25, grq25, k_w24⟩
 have hm24 : Mem w24 (restOf w0) (Hsq25 ++ ([(bsq7, .cells #[(ptr bjq7 0), (Value.map (some b2q13))] 118 (0, 0))] ++ (Hm2q13 ++ ([(bjq7, .cells #[(ptr bdq2 0), (i64 (fr2q13 : Int)), (i64 (10 : Int)), (u64 ge2q13), vr2q13, (i64 (roomB (commitF 10 [[]] ([(PairT.mk (⟨#[98]⟩) (toSl (Value.slice none 0 0) ([])) false), (PairT.mk (⟨#[97]⟩) (toSl (slc b31 0 1 1) ([1#8])) false), (PairT.mk (⟨#[97]⟩) (toSl (Value.slice none 0 0) ([])) true)])).2 : Int))] 100 (0, 0))] ++ (Hr2q13 ++ ([(bdq2, .cells #[vlq2, (Value.slice none 0 0)] 94 (0, 0))] ++ (Hl2q13 ++ ([])))))))) := Mem.new (H := [(bsq7, .cells #[(ptr bjq7 0), (Value.map (some b2q13))] 118 (0, 0))] ++ (Hm2q13 ++ ([(bjq7, .cells #[(ptr bdq2 0), (i64 (fr2q13 : Int)), (i64 (10 : Int)), (u64 ge2q13), vr2q13, (i64 (roomB (commitF 10 [[]] ([(PairT.mk (⟨#[98]⟩) (toSl (Value.slice none 0 0) ([])) false), (PairT.mk (⟨#[97]⟩) (toSl (slc b31 0 1 1) ([1#8])) false), (PairT.mk (⟨#[97]⟩) (toSl (Value.slice none 0 0) ([])) true)])).2 : Int))] 100 (0, 0))] ++ (Hr2q13 ++ ([(bdq2, .cells #[vlq2, (Value.slice none 0 0)] 94 (0, 0))] ++ (Hl2q13 ++ ([]))))))) (H' := Hsq25) hm20 k_w24
 refine rw_gyq (s := 45) rfl rfl hd23 rfl (ev_len_rd (grq25.rd hm24) uT76 rfl) <| rw_gyq (s := 45) rfl rfl hd23 rfl (ev_i64_eql (b := 1) rfl rfl) <| rw_q rfl (ev_pick_tk rfl hd23 rfl) <| rw_q rfl (ev_assign (v := (bl (((keysB spS (⟨#[]⟩)).length : Int) == 1))) rfl) ?_
 refine rN (cw_ret ?_)
 refine fnPost_ret [(bl (((keysB spS (⟨#[]⟩)).length : Int) == 1))] ⟨rfl, trivial⟩ ?_
 have hd26 : (((keysB spS (⟨#[]⟩)).length : Int) == 1) = true := (told_true (by rw [spS_keys]; rfl))
 exact ⟨congrArg bl (hd26), hm24.toExt⟩


end --m
end Go.Proofs.Ytfbnhoolkajebaa
