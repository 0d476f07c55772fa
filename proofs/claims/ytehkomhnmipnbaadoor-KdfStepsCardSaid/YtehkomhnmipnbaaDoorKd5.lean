/- The law of the steps: its walk. Conditions: none beyond those that each theorem states. -/
import Derived.Test.YtehkomhnmipnbaaDoorKd3
import Derived.Test.YtehkomhnmipnbaaDoorFwL
namespace Go.Proofs.YtehkomhnmipnbaaDoor
set_option linter.unusedVariables false
set_option linter.unusedSimpArgs false
attribute [local irreducible] hmacP
set_option maxHeartbeats 1000000 in
theorem law_ksteps (chain : List (BitVec 8)) (n : Int) (w0 : World)  (hT : Tabs (blks w0)) (hcl : chain.length = 32) (hrn : -9223372036854775808 ≤ n ∧ n ≤ 9223372036854775807) : CallsR Tryd.prog 10 #[(agg u8 chain), (i64 n)] w0 (fun r w1 => r = bl true ∧ RowKit.Below w0.heap.size w0 w1) := by
  refine callsR_of_cw (args := [(agg u8 chain), (i64 n)]) Tryd.func10 rfl Tryd.ntmps10 Tryd.results10 rfl ?_
  have hm0 : Mem w0 (restOf w0) [] := Mem.of_world w0
  refine cw_seq ?_
  refine cw_region ?_
  refine rw_c rfl (or_box_agg (f := u8) (l := chain) hm0 rfl) ?_
  rintro _ w1 ⟨b2, rfl, _ew1, hm1⟩
  refine rw_q rfl (ev_assign (v := (bl false)) rfl) ?_
  refine rw_nil ?_
  refine kThen_normal ?_
  refine cw_seq ?_
  refine cw_seq ?_
  refine cw_region ?_
  refine rw_c rfl (opR_call Tryd.func20 bd20 nm20 (args0) (c_speaks02 _ (hT.mono fun b o e => (hm1).rest b o e))) ?_
  rintro _ w2 ⟨rfl, _ew2⟩
  have hm2 := hm1.ext _ew2
  refine rw_q (v := (bl false)) rfl (ev_not (b := true) rfl) ?_
  refine rw_nil ?_
  refine kThen_normal ?_
  refine cw_cond_f rfl (by decide) ?_
  refine cw_skip ?_
  refine kThen_normal ?_
  refine cw_seq ?_
  refine cw_meet (J := fun g wv => ∃ (ba bb : Nat), g 0 = (agg u8 chain) ∧ g 1 = (i64 n) ∧ g 2 = (ptr b2 0) ∧ g 4 = (bl false) ∧ g 5 = (ptr ba 0) ∧ g 6 = (ptr bb 0) ∧ g 15 = (bl false) ∧ Mem wv (restOf w0) [(ba, .cells (cl u8 chain) 28 (0, 0)), (bb, .cells (cl u8 chain) 28 (0, 0)), (b2, .cells (cl u8 chain) 28 (0, 0))]) ?_ ?_
  · skip
    refine cw_drawE (by kernel_rfl) ?_
    refine re_or 2 3 rfl rfl ?_ ?_
    · -- 2 ahead of 3
      have hFM4 : Mem w2 (restOf w0) ([] ++ [(b2, .cells (cl u8 chain) 28 (0, 0))]) := hm2
      obtain ⟨RM4, hRM4⟩ : ∃ R2, R2 = Rest.add (restOf w0) [(b2, .cells (cl u8 chain) 28 (0, 0))] := ⟨_, rfl⟩
      have M40 : Mem w2 RM4 [] := by rw [hRM4]; exact Mem.give hFM4
      have ho5 : RM4.blk b2 = some (.cells (cl u8 chain) 28 (0, 0)) := by rw [hRM4]; exact Mem.addOwn hFM4 (List.Mem.head _)
      have hT6 : Tabs RM4.blk := by rw [hRM4]; exact Tabs.mono hT fun b o e => Mem.addRest hFM4 e
      refine re_planM M40 [(0, false), (1, false), (2, true), (3, true), (4, true)] 5 rfl (by kernel_rfl) ?_
      refine dk_q (v := (agg u8 chain)) rfl rfl (fun w _H _hx => ev_loadA Tryd.underlying28 rfl ti28 rfl (_hx.rest _ _ ho5) (by rw [size_cl]; first | omega | (simp only [List.length_set, List.length_append, List.length_replicate, List.length_map, List.length_cons, List.length_nil]; omega) | (simp; done) | (simp; omega) | decide)) ?_
      refine dk_q (v := (agg u8 chain)) rfl rfl (fun w _H _hx => ev_loadA Tryd.underlying28 rfl ti28 rfl (_hx.rest _ _ ho5) (by rw [size_cl]; first | omega | (simp only [List.length_set, List.length_append, List.length_replicate, List.length_map, List.length_cons, List.length_nil]; omega) | (simp; done) | (simp; omega) | decide)) ?_
      refine dk_c rfl rfl (fun w7 _ew7 => ?_)
      have hm7 := M40.ext _ew7
      refine OpR.mono (or_alloc_agg hm7 ti28) ?_
      rintro _ w8 ⟨b5, rfl, _ew8, hm8⟩
      refine ⟨⟨_, hm8⟩, ?_⟩
      refine dk_c rfl rfl (fun w9 _ew9 => ?_)
      have hm9 := hm8.ext _ew9
      refine OpR.mono (or_alloc_agg hm9 ti28) ?_
      rintro _ w10 ⟨b6, rfl, _ew10, hm10⟩
      refine ⟨⟨_, hm10⟩, ?_⟩
      refine dk_n rfl (fun w11 _ew11 => ?_)
      have hm11 := hm10.ext _ew11
      refine OpR.mono (or_store_agg (f := u8) (l := chain) u8_one ti28 rfl rfl (by first | omega | (simp only [List.length_set, List.length_append, List.length_replicate, List.length_map, List.length_cons, List.length_nil]; omega) | (simp; done) | (simp; omega) | decide) hm11.h1 (by rw [size_cl]; first | omega | (simp only [List.length_set, List.length_append, List.length_replicate, List.length_map, List.length_cons, List.length_nil]; omega) | (simp; done) | (simp; omega) | decide) rfl) ?_
      rintro _ w12 uq12
      have hm12 := hm11.upd1 uq12
      refine ⟨⟨_, hm12⟩, ?_⟩
      refine dw_nil (fun w13 _ew13 => ?_)
      have hm13 := hm12.ext _ew13
      have hX14 := hm13
      rw [hRM4] at hX14
      have hm15 : Mem w13 (restOf w0) [(b6, .cells (cl u8 (List.replicate 32 0)) 28 (0, 0)), (b5, .cells (cl u8 chain) 28 (0, 0)), (b2, .cells (cl u8 chain) 28 (0, 0))] := (by
        have hT := Mem.back hFM4 hX14
        simp only [List.append_assoc, List.cons_append, List.nil_append, List.append_nil] at hT ⊢
        exact hT)
      refine rw_n (or_store_agg (f := u8) (l := chain) u8_one ti28 rfl rfl (by first | omega | (simp only [List.length_set, List.length_append, List.length_replicate, List.length_map, List.length_cons, List.length_nil]; omega) | (simp; done) | (simp; omega) | decide) hm15.h0 (by rw [size_cl]; first | omega | (simp only [List.length_set, List.length_append, List.length_replicate, List.length_map, List.length_cons, List.length_nil]; omega) | (simp; done) | (simp; omega) | decide) rfl) ?_
      rintro _ w16 uq16
      have hm16 := hm15.upd0 uq16
      refine rw_nil ?_
      refine kThen_normal ?_
      have hm17 := (Mem.pick [_, _] [_] _ hm16)
      have hm18 := (Mem.pick [_] [_] _ hm17)
      have hm19 := (Mem.pick [_, _] [_] _ hm18)
      exact ⟨b5, b6, rfl, rfl, rfl, rfl, rfl, rfl, rfl, hm19⟩
    · -- 3 ahead of 2
      have hFM20 : Mem w2 (restOf w0) ([] ++ [(b2, .cells (cl u8 chain) 28 (0, 0))]) := hm2
      obtain ⟨RM20, hRM20⟩ : ∃ R2, R2 = Rest.add (restOf w0) [(b2, .cells (cl u8 chain) 28 (0, 0))] := ⟨_, rfl⟩
      have M200 : Mem w2 RM20 [] := by rw [hRM20]; exact Mem.give hFM20
      have ho21 : RM20.blk b2 = some (.cells (cl u8 chain) 28 (0, 0)) := by rw [hRM20]; exact Mem.addOwn hFM20 (List.Mem.head _)
      have hT22 : Tabs RM20.blk := by rw [hRM20]; exact Tabs.mono hT fun b o e => Mem.addRest hFM20 e
      refine re_planM M200 [(0, false), (1, false), (3, true), (2, true), (4, true)] 5 rfl (by kernel_rfl) ?_
      refine dk_q (v := (agg u8 chain)) rfl rfl (fun w _H _hx => ev_loadA Tryd.underlying28 rfl ti28 rfl (_hx.rest _ _ ho21) (by rw [size_cl]; first | omega | (simp only [List.length_set, List.length_append, List.length_replicate, List.length_map, List.length_cons, List.length_nil]; omega) | (simp; done) | (simp; omega) | decide)) ?_
      refine dk_q (v := (agg u8 chain)) rfl rfl (fun w _H _hx => ev_loadA Tryd.underlying28 rfl ti28 rfl (_hx.rest _ _ ho21) (by rw [size_cl]; first | omega | (simp only [List.length_set, List.length_append, List.length_replicate, List.length_map, List.length_cons, List.length_nil]; omega) | (simp; done) | (simp; omega) | decide)) ?_
      refine dk_c rfl rfl (fun w23 _ew23 => ?_)
      have hm23 := M200.ext _ew23
      refine OpR.mono (or_alloc_agg hm23 ti28) ?_
      rintro _ w24 ⟨b6_1, rfl, _ew24, hm24⟩
      refine ⟨⟨_, hm24⟩, ?_⟩
      refine dk_c rfl rfl (fun w25 _ew25 => ?_)
      have hm25 := hm24.ext _ew25
      refine OpR.mono (or_alloc_agg hm25 ti28) ?_
      rintro _ w26 ⟨b5_1, rfl, _ew26, hm26⟩
      refine ⟨⟨_, hm26⟩, ?_⟩
      refine dk_n rfl (fun w27 _ew27 => ?_)
      have hm27 := hm26.ext _ew27
      refine OpR.mono (or_store_agg (f := u8) (l := chain) u8_one ti28 rfl rfl (by first | omega | (simp only [List.length_set, List.length_append, List.length_replicate, List.length_map, List.length_cons, List.length_nil]; omega) | (simp; done) | (simp; omega) | decide) hm27.h0 (by rw [size_cl]; first | omega | (simp only [List.length_set, List.length_append, List.length_replicate, List.length_map, List.length_cons, List.length_nil]; omega) | (simp; done) | (simp; omega) | decide) rfl) ?_
      rintro _ w28 uq28
      have hm28 := hm27.upd0 uq28
      refine ⟨⟨_, hm28⟩, ?_⟩
      refine dw_nil (fun w29 _ew29 => ?_)
      have hm29 := hm28.ext _ew29
      have hX30 := hm29
      rw [hRM20] at hX30
      have hm31 : Mem w29 (restOf w0) [(b5_1, .cells (cl u8 chain) 28 (0, 0)), (b6_1, .cells (cl u8 (List.replicate 32 0)) 28 (0, 0)), (b2, .cells (cl u8 chain) 28 (0, 0))] := (by
        have hT := Mem.back hFM20 hX30
        simp only [List.append_assoc, List.cons_append, List.nil_append, List.append_nil] at hT ⊢
        exact hT)
      refine rw_n (or_store_agg (f := u8) (l := chain) u8_one ti28 rfl rfl (by first | omega | (simp only [List.length_set, List.length_append, List.length_replicate, List.length_map, List.length_cons, List.length_nil]; omega) | (simp; done) | (simp; omega) | decide) hm31.h1 (by rw [size_cl]; first | omega | (simp only [List.length_set, List.length_append, List.length_replicate, List.length_map, List.length_cons, List.length_nil]; omega) | (simp; done) | (simp; omega) | decide) rfl) ?_
      rintro _ w32 uq32
      have hm32 := hm31.upd1 uq32
      refine rw_nil ?_
      refine kThen_normal ?_
      exact ⟨b5_1, b6_1, rfl, rfl, rfl, rfl, rfl, rfl, rfl, hm32⟩
  · rintro fr33 w34 ⟨ba, bb, s0, s1, s2, s4, s5, s6, s15, hm34⟩
    refine cw_seq ?_
    refine cw_seq ?_
    refine cw_region ?_
    refine rw_q rfl (ev_assign (v := (i64 0)) rfl) ?_
    refine rw_nil ?_
    refine kThen_normal ?_
    refine cw_block ?_
    refine cw_loop (fun g wv => ∃ (k : Nat) (c : List (BitVec 8)), (k ≤ 32) ∧ (c.length = 32) ∧ g 0 = (agg u8 chain) ∧ g 1 = (i64 n) ∧ g 2 = (ptr b2 0) ∧ g 5 = (ptr ba 0) ∧ g 6 = (ptr bb 0) ∧ g 7 = (i64 (k : Int)) ∧ g 15 = (bl false) ∧ Mem wv (restOf w0) [(ba, .cells (cl u8 c) 28 (0, 0)), (bb, .cells (cl u8 c) 28 (0, 0)), (b2, .cells (cl u8 chain) 28 (0, 0))]) (fun g wv => (32 - RowKit.intOf (g 7)).toNat) ?_ ?_
    · exact ⟨0, chain, (by omega), hcl, s0, s1, s2, s5, s6, rfl, s15, hm34⟩
    · rintro fr35 w36 ⟨k, c, hk, hc, s0, s1, s2, s5, s6, s7, s15, hm36⟩
      have z7 := s7
      refine cw_seq ?_
      refine cw_seq ?_
      refine cw_region ?_
      refine rw_q rfl (ev_move (v := (i64 (k : Int))) s7) ?_
      refine rw_q rfl (ev_move (v := (i64 n)) s1) ?_
      obtain ⟨n37, hn37, hn37l⟩ : ∃ q : Nat, (((BitVec.ofInt 64 n).toNat &&& (31 : Int).toNat : Nat) : Int) = (q : Int) ∧ q ≤ 31 := ⟨_, rfl, Nat.and_le_right⟩
      refine rw_q rfl (EvQ.cast (congrArg i64 hn37) (ev_i64_and (b := 31) rfl rfl (by omega) (by omega))) ?_
      refine rw_q rfl (ev_i64_lss rfl rfl) ?_
      refine rw_nil ?_
      refine kThen_normal ?_
      refine cw_cond rfl (fun hc38 => ?_) (fun hc38 => ?_)
      · -- true
        have hc38p := of_decide_eq_true hc38
        refine cw_skip ?_
        refine kThen_normal ?_
        refine cw_seq ?_
        refine cw_block ?_
        refine cw_seq ?_
        refine cw_region ?_
        refine rw_q (v := (agg u8 c)) rfl (ev_loadA Tryd.underlying28 rfl ti28 s5 hm36.h0 (by rw [size_cl]; first | omega | (simp only [List.length_set, List.length_append, List.length_replicate, List.length_map, List.length_cons, List.length_nil]; omega) | (simp; done) | (simp; omega) | decide)) ?_
        refine rw_c rfl (opR_call Tryd.func28 bd28 nm28 (args1 rfl) (c_step c _ (hT.mono fun b o e => (hm36).rest b o e) (by first | omega | (simp only [List.length_set, List.length_append, List.length_replicate, List.length_map, List.length_cons, List.length_nil]; omega) | (simp; done) | (simp; omega) | decide))) ?_
        rintro _ w39 ⟨rfl, _ew39⟩
        have hm39 := hm36.ext _ew39
        refine rw_q rfl (ev_move (v := (Value.tuple #[(agg u8 (hmacP c [2#8])), (agg u8 (hmacP c [1#8]))])) rfl) ?_
        refine rw_q (v := (agg u8 (hmacP c [2#8]))) rfl (ev_extract rfl rfl) ?_
        refine rw_q (v := (agg u8 (hmacP c [1#8]))) rfl (ev_extract rfl rfl) ?_
        refine rw_c rfl (or_alloc_agg hm39 ti28) ?_
        rintro _ w41 ⟨b8, rfl, _ew41, hm41⟩
        refine rw_c rfl (or_alloc_agg hm41 ti28) ?_
        rintro _ w42 ⟨b9, rfl, _ew42, hm42⟩
        refine rw_n (or_store_agg (f := u8) (l := hmacP c [2#8]) u8_one ti28 rfl rfl (by first | omega | (simp only [List.length_set, List.length_append, List.length_replicate, List.length_map, List.length_cons, List.length_nil]; omega) | (simp; done) | (simp; omega) | decide) hm42.h1 (by rw [size_cl]; first | omega | (simp only [List.length_set, List.length_append, List.length_replicate, List.length_map, List.length_cons, List.length_nil]; omega) | (simp; done) | (simp; omega) | decide) rfl) ?_
        rintro _ w43 uq43
        have hm43 := hm42.upd1 uq43
        refine rw_n (or_store_agg (f := u8) (l := hmacP c [1#8]) u8_one ti28 rfl rfl (by first | omega | (simp only [List.length_set, List.length_append, List.length_replicate, List.length_map, List.length_cons, List.length_nil]; omega) | (simp; done) | (simp; omega) | decide) hm43.h0 (by rw [size_cl]; first | omega | (simp only [List.length_set, List.length_append, List.length_replicate, List.length_map, List.length_cons, List.length_nil]; omega) | (simp; done) | (simp; omega) | decide) rfl) ?_
        rintro _ w44 uq44
        have hm44 := hm43.upd0 uq44
        refine rw_nil ?_
        refine kThen_normal ?_
        refine CW.abs (fun g => g 0 = (agg u8 chain) ∧ g 1 = (i64 n) ∧ g 2 = (ptr b2 0) ∧ g 5 = (ptr ba 0) ∧ g 6 = (ptr bb 0) ∧ g 7 = (i64 (k : Int)) ∧ g 8 = (ptr b8 0) ∧ g 9 = (ptr b9 0) ∧ g 15 = (bl false) ∧ g 21 = (bl (decide ((k : Int) < (n37 : Int)))) ∧ True) ⟨s0, s1, s2, s5, s6, s7, rfl, rfl, s15, rfl, trivial⟩ ?_
        rintro fr45 ⟨s0, s1, s2, s5, s6, s7, s8, s9, s15, s21, _⟩
        refine cw_seq ?_
        refine cw_region ?_
        refine rw_q (v := (agg u8 c)) rfl (ev_loadA Tryd.underlying28 rfl ti28 s6 hm44.h3 (by rw [size_cl]; first | omega | (simp only [List.length_set, List.length_append, List.length_replicate, List.length_map, List.length_cons, List.length_nil]; omega) | (simp; done) | (simp; omega) | decide)) ?_
        refine rw_c rfl (opR_call Tryd.func29 bd29 nm29 (args1 rfl) (c_rstep c _ (by first | omega | (simp only [List.length_set, List.length_append, List.length_replicate, List.length_map, List.length_cons, List.length_nil]; omega) | (simp; done) | (simp; omega) | decide))) ?_
        rintro _ w46 ⟨rfl, _ew46⟩
        have hm46 := hm44.ext _ew46
        refine rw_q rfl (ev_move (v := (Value.tuple #[(agg u8 (hmacP c [2#8])), (agg u8 (hmacP c [1#8]))])) rfl) ?_
        refine rw_q (v := (agg u8 (hmacP c [2#8]))) rfl (ev_extract rfl rfl) ?_
        refine rw_q (v := (agg u8 (hmacP c [1#8]))) rfl (ev_extract rfl rfl) ?_
        refine rw_c rfl (or_alloc_agg hm46 ti28) ?_
        rintro _ w48 ⟨b10, rfl, _ew48, hm48⟩
        refine rw_c rfl (or_alloc_agg hm48 ti28) ?_
        rintro _ w49 ⟨b11, rfl, _ew49, hm49⟩
        refine rw_n (or_store_agg (f := u8) (l := hmacP c [2#8]) u8_one ti28 rfl rfl (by first | omega | (simp only [List.length_set, List.length_append, List.length_replicate, List.length_map, List.length_cons, List.length_nil]; omega) | (simp; done) | (simp; omega) | decide) hm49.h1 (by rw [size_cl]; first | omega | (simp only [List.length_set, List.length_append, List.length_replicate, List.length_map, List.length_cons, List.length_nil]; omega) | (simp; done) | (simp; omega) | decide) rfl) ?_
        rintro _ w50 uq50
        have hm50 := hm49.upd1 uq50
        refine rw_n (or_store_agg (f := u8) (l := hmacP c [1#8]) u8_one ti28 rfl rfl (by first | omega | (simp only [List.length_set, List.length_append, List.length_replicate, List.length_map, List.length_cons, List.length_nil]; omega) | (simp; done) | (simp; omega) | decide) hm50.h0 (by rw [size_cl]; first | omega | (simp only [List.length_set, List.length_append, List.length_replicate, List.length_map, List.length_cons, List.length_nil]; omega) | (simp; done) | (simp; omega) | decide) rfl) ?_
        rintro _ w51 uq51
        have hm51 := hm50.upd0 uq51
        refine rw_nil ?_
        refine kThen_normal ?_
        refine cw_seq ?_
        refine cw_seq ?_
        refine cw_region ?_
        refine rw_q (v := (agg u8 (hmacP c [2#8]))) rfl (ev_loadA Tryd.underlying28 rfl ti28 s8 hm51.h3 (by rw [size_cl]; first | omega | (simp only [List.length_set, List.length_append, List.length_replicate, List.length_map, List.length_cons, List.length_nil]; omega) | (simp; done) | (simp; omega) | decide)) ?_
        refine rw_q (v := (agg u8 (hmacP c [2#8]))) rfl (ev_loadA Tryd.underlying28 rfl ti28 rfl hm51.h1 (by rw [size_cl]; first | omega | (simp only [List.length_set, List.length_append, List.length_replicate, List.length_map, List.length_cons, List.length_nil]; omega) | (simp; done) | (simp; omega) | decide)) ?_
        refine rw_q rfl (ev_u8arr_neq (l := hmacP c [2#8]) (m := hmacP c [2#8]) Tryd.underlying28 Tryd.underlying5 ti5 Tryd.eqGuardType28 rfl rfl (by first | rfl | first | omega | (simp only [List.length_set, List.length_append, List.length_replicate, List.length_map, List.length_cons, List.length_nil]; omega) | (simp; done) | (simp; omega) | decide) (by first | rfl | first | omega | (simp only [List.length_set, List.length_append, List.length_replicate, List.length_map, List.length_cons, List.length_nil]; omega) | (simp; done) | (simp; omega) | decide)) ?_
        refine rw_q rfl (ev_move (v := (bl ((hmacP c [2#8]) != (hmacP c [2#8])))) rfl) ?_
        have hd52 : ((hmacP c [2#8]) != (hmacP c [2#8])) = false := told_ne rfl
        refine rw_gyq (s := 37) rfl rfl hd52 rfl (ev_loadA Tryd.underlying28 rfl ti28 s9 hm51.h2 (by rw [size_cl]; first | omega | (simp only [List.length_set, List.length_append, List.length_replicate, List.length_map, List.length_cons, List.length_nil]; omega) | (simp; done) | (simp; omega) | decide)) ?_
        refine rw_gyq (s := 37) rfl rfl hd52 rfl (ev_loadA Tryd.underlying28 rfl ti28 rfl hm51.h0 (by rw [size_cl]; first | omega | (simp only [List.length_set, List.length_append, List.length_replicate, List.length_map, List.length_cons, List.length_nil]; omega) | (simp; done) | (simp; omega) | decide)) ?_
        refine rw_gyq (s := 37) rfl rfl hd52 rfl (ev_u8arr_neq (l := hmacP c [1#8]) (m := hmacP c [1#8]) Tryd.underlying28 Tryd.underlying5 ti5 Tryd.eqGuardType28 rfl rfl (by first | rfl | first | omega | (simp only [List.length_set, List.length_append, List.length_replicate, List.length_map, List.length_cons, List.length_nil]; omega) | (simp; done) | (simp; omega) | decide) (by first | rfl | first | omega | (simp only [List.length_set, List.length_append, List.length_replicate, List.length_map, List.length_cons, List.length_nil]; omega) | (simp; done) | (simp; omega) | decide)) ?_
        refine rw_q rfl (ev_pick_fk rfl hd52 rfl) ?_
        refine rw_nil ?_
        refine kThen_normal ?_
        refine CW.abs (fun g => g 0 = (agg u8 chain) ∧ g 1 = (i64 n) ∧ g 2 = (ptr b2 0) ∧ g 5 = (ptr ba 0) ∧ g 6 = (ptr bb 0) ∧ g 7 = (i64 (k : Int)) ∧ g 8 = (ptr b8 0) ∧ g 9 = (ptr b9 0) ∧ g 10 = (ptr b10 0) ∧ g 11 = (ptr b11 0) ∧ g 15 = (bl false) ∧ g 21 = (bl (decide ((k : Int) < (n37 : Int)))) ∧ g 41 = (bl ((hmacP c [1#8]) != (hmacP c [1#8]))) ∧ True) ⟨s0, s1, s2, s5, s6, s7, s8, s9, rfl, rfl, s15, s21, rfl, trivial⟩ ?_
        rintro fr53 ⟨s0, s1, s2, s5, s6, s7, s8, s9, s10, s11, s15, s21, s41, _⟩
        have hd54 : ((hmacP c [1#8]) != (hmacP c [1#8])) = false := told_ne rfl
        refine cw_cond_f s41 hd54 ?_
        refine cw_skip ?_
        refine kThen_normal ?_
        refine cw_seq ?_
        refine cw_region ?_
        refine rw_q (v := (agg u8 c)) rfl (ev_loadA Tryd.underlying28 rfl ti28 s5 hm51.h4 (by rw [size_cl]; first | omega | (simp only [List.length_set, List.length_append, List.length_replicate, List.length_map, List.length_cons, List.length_nil]; omega) | (simp; done) | (simp; omega) | decide)) ?_
        refine rw_c rfl (opR_call Tryd.func28 bd28 nm28 (args1 rfl) (c_step c _ (hT.mono fun b o e => (hm51).rest b o e) (by first | omega | (simp only [List.length_set, List.length_append, List.length_replicate, List.length_map, List.length_cons, List.length_nil]; omega) | (simp; done) | (simp; omega) | decide))) ?_
        rintro _ w55 ⟨rfl, _ew55⟩
        have hm55 := hm51.ext _ew55
        refine rw_q rfl (ev_move (v := (Value.tuple #[(agg u8 (hmacP c [2#8])), (agg u8 (hmacP c [1#8]))])) rfl) ?_
        refine rw_q (v := (agg u8 (hmacP c [2#8]))) rfl (ev_extract rfl rfl) ?_
        refine rw_q (v := (agg u8 (hmacP c [1#8]))) rfl (ev_extract rfl rfl) ?_
        refine rw_c rfl (or_alloc_agg hm55 ti28) ?_
        rintro _ w57 ⟨b12, rfl, _ew57, hm57⟩
        refine rw_c rfl (or_alloc_agg hm57 ti28) ?_
        rintro _ w58 ⟨b13, rfl, _ew58, hm58⟩
        refine rw_n (or_store_agg (f := u8) (l := hmacP c [2#8]) u8_one ti28 rfl rfl (by first | omega | (simp only [List.length_set, List.length_append, List.length_replicate, List.length_map, List.length_cons, List.length_nil]; omega) | (simp; done) | (simp; omega) | decide) hm58.h1 (by rw [size_cl]; first | omega | (simp only [List.length_set, List.length_append, List.length_replicate, List.length_map, List.length_cons, List.length_nil]; omega) | (simp; done) | (simp; omega) | decide) rfl) ?_
        rintro _ w59 uq59
        have hm59 := hm58.upd1 uq59
        refine rw_n (or_store_agg (f := u8) (l := hmacP c [1#8]) u8_one ti28 rfl rfl (by first | omega | (simp only [List.length_set, List.length_append, List.length_replicate, List.length_map, List.length_cons, List.length_nil]; omega) | (simp; done) | (simp; omega) | decide) hm59.h0 (by rw [size_cl]; first | omega | (simp only [List.length_set, List.length_append, List.length_replicate, List.length_map, List.length_cons, List.length_nil]; omega) | (simp; done) | (simp; omega) | decide) rfl) ?_
        rintro _ w60 uq60
        have hm60 := hm59.upd0 uq60
        refine rw_nil ?_
        refine kThen_normal ?_
        refine cw_seq ?_
        refine cw_seq ?_
        refine cw_region ?_
        refine rw_q (v := (agg u8 (hmacP c [2#8]))) rfl (ev_loadA Tryd.underlying28 rfl ti28 rfl hm60.h1 (by rw [size_cl]; first | omega | (simp only [List.length_set, List.length_append, List.length_replicate, List.length_map, List.length_cons, List.length_nil]; omega) | (simp; done) | (simp; omega) | decide)) ?_
        refine rw_q (v := (agg u8 (hmacP c [2#8]))) rfl (ev_loadA Tryd.underlying28 rfl ti28 s8 hm60.h5 (by rw [size_cl]; first | omega | (simp only [List.length_set, List.length_append, List.length_replicate, List.length_map, List.length_cons, List.length_nil]; omega) | (simp; done) | (simp; omega) | decide)) ?_
        refine rw_q rfl (ev_u8arr_neq (l := hmacP c [2#8]) (m := hmacP c [2#8]) Tryd.underlying28 Tryd.underlying5 ti5 Tryd.eqGuardType28 rfl rfl (by first | rfl | first | omega | (simp only [List.length_set, List.length_append, List.length_replicate, List.length_map, List.length_cons, List.length_nil]; omega) | (simp; done) | (simp; omega) | decide) (by first | rfl | first | omega | (simp only [List.length_set, List.length_append, List.length_replicate, List.length_map, List.length_cons, List.length_nil]; omega) | (simp; done) | (simp; omega) | decide)) ?_
        refine rw_q rfl (ev_move (v := (bl ((hmacP c [2#8]) != (hmacP c [2#8])))) rfl) ?_
        refine rw_gyq (s := 50) rfl rfl hd52 rfl (ev_loadA Tryd.underlying28 rfl ti28 rfl hm60.h0 (by rw [size_cl]; first | omega | (simp only [List.length_set, List.length_append, List.length_replicate, List.length_map, List.length_cons, List.length_nil]; omega) | (simp; done) | (simp; omega) | decide)) ?_
        refine rw_gyq (s := 50) rfl rfl hd52 rfl (ev_loadA Tryd.underlying28 rfl ti28 s9 hm60.h4 (by rw [size_cl]; first | omega | (simp only [List.length_set, List.length_append, List.length_replicate, List.length_map, List.length_cons, List.length_nil]; omega) | (simp; done) | (simp; omega) | decide)) ?_
        refine rw_gyq (s := 50) rfl rfl hd52 rfl (ev_u8arr_neq (l := hmacP c [1#8]) (m := hmacP c [1#8]) Tryd.underlying28 Tryd.underlying5 ti5 Tryd.eqGuardType28 rfl rfl (by first | rfl | first | omega | (simp only [List.length_set, List.length_append, List.length_replicate, List.length_map, List.length_cons, List.length_nil]; omega) | (simp; done) | (simp; omega) | decide) (by first | rfl | first | omega | (simp only [List.length_set, List.length_append, List.length_replicate, List.length_map, List.length_cons, List.length_nil]; omega) | (simp; done) | (simp; omega) | decide)) ?_
        refine rw_q rfl (ev_pick_fk rfl hd52 rfl) ?_
        refine rw_nil ?_
        refine kThen_normal ?_
        refine CW.abs (fun g => g 0 = (agg u8 chain) ∧ g 1 = (i64 n) ∧ g 2 = (ptr b2 0) ∧ g 5 = (ptr ba 0) ∧ g 6 = (ptr bb 0) ∧ g 7 = (i64 (k : Int)) ∧ g 8 = (ptr b8 0) ∧ g 9 = (ptr b9 0) ∧ g 10 = (ptr b10 0) ∧ g 11 = (ptr b11 0) ∧ g 12 = (ptr b12 0) ∧ g 13 = (ptr b13 0) ∧ g 15 = (bl false) ∧ g 21 = (bl (decide ((k : Int) < (n37 : Int)))) ∧ g 41 = (bl ((hmacP c [1#8]) != (hmacP c [1#8]))) ∧ g 54 = (bl ((hmacP c [1#8]) != (hmacP c [1#8]))) ∧ True) ⟨s0, s1, s2, s5, s6, s7, s8, s9, s10, s11, rfl, rfl, s15, s21, s41, rfl, trivial⟩ ?_
        rintro fr61 ⟨s0, s1, s2, s5, s6, s7, s8, s9, s10, s11, s12, s13, s15, s21, s41, s54, _⟩
        refine cw_cond_f s54 hd54 ?_
        refine cw_skip ?_
        refine kThen_normal ?_
        refine cw_drawE (by kernel_rfl) ?_
        have hm62 := (Mem.pick [_, _, _, _, _, _, _, _] [_] _ hm60)
        have hm63 := (Mem.pick [_, _, _, _, _, _, _, _] [_] _ hm62)
        have hm64 := (Mem.pick [_, _, _, _, _, _, _] [_] _ hm63)
        have hm65 := (Mem.pick [_, _, _, _, _, _, _] [_] _ hm64)
        have hm66 := (Mem.pick [_, _, _, _, _, _, _] [_] _ hm65)
        have hm67 := (Mem.pick [_, _, _, _, _, _, _] [_] _ hm66)
        have hm68 := (Mem.pick [_, _, _, _, _, _, _] [_] _ hm67)
        have hm69 := (Mem.pick [_, _, _, _, _, _, _] [_] _ hm68)
        have hm70 := (Mem.pick [_, _, _, _, _, _, _, _] [_] _ hm69)
        have hFM71 : Mem w60 (restOf w0) ([(ba, .cells (cl u8 c) 28 (0, 0))] ++ [(b13, .cells (cl u8 (hmacP c [1#8])) 28 (0, 0)), (b12, .cells (cl u8 (hmacP c [2#8])) 28 (0, 0)), (b11, .cells (cl u8 (hmacP c [1#8])) 28 (0, 0)), (b10, .cells (cl u8 (hmacP c [2#8])) 28 (0, 0)), (b9, .cells (cl u8 (hmacP c [1#8])) 28 (0, 0)), (b8, .cells (cl u8 (hmacP c [2#8])) 28 (0, 0)), (bb, .cells (cl u8 c) 28 (0, 0)), (b2, .cells (cl u8 chain) 28 (0, 0))]) := hm70
        obtain ⟨RM71, hRM71⟩ : ∃ R2, R2 = Rest.add (restOf w0) [(b13, .cells (cl u8 (hmacP c [1#8])) 28 (0, 0)), (b12, .cells (cl u8 (hmacP c [2#8])) 28 (0, 0)), (b11, .cells (cl u8 (hmacP c [1#8])) 28 (0, 0)), (b10, .cells (cl u8 (hmacP c [2#8])) 28 (0, 0)), (b9, .cells (cl u8 (hmacP c [1#8])) 28 (0, 0)), (b8, .cells (cl u8 (hmacP c [2#8])) 28 (0, 0)), (bb, .cells (cl u8 c) 28 (0, 0)), (b2, .cells (cl u8 chain) 28 (0, 0))] := ⟨_, rfl⟩
        have M710 : Mem w60 RM71 [(ba, .cells (cl u8 c) 28 (0, 0))] := by rw [hRM71]; exact Mem.give hFM71
        have ho72 : RM71.blk b13 = some (.cells (cl u8 (hmacP c [1#8])) 28 (0, 0)) := by rw [hRM71]; exact Mem.addOwn hFM71 (List.Mem.head _)
        have ho73 : RM71.blk b12 = some (.cells (cl u8 (hmacP c [2#8])) 28 (0, 0)) := by rw [hRM71]; exact Mem.addOwn hFM71 (List.Mem.tail _ (List.Mem.head _))
        have ho74 : RM71.blk b11 = some (.cells (cl u8 (hmacP c [1#8])) 28 (0, 0)) := by rw [hRM71]; exact Mem.addOwn hFM71 (List.Mem.tail _ (List.Mem.tail _ (List.Mem.head _)))
        have ho75 : RM71.blk b10 = some (.cells (cl u8 (hmacP c [2#8])) 28 (0, 0)) := by rw [hRM71]; exact Mem.addOwn hFM71 (List.Mem.tail _ (List.Mem.tail _ (List.Mem.tail _ (List.Mem.head _))))
        have ho76 : RM71.blk b9 = some (.cells (cl u8 (hmacP c [1#8])) 28 (0, 0)) := by rw [hRM71]; exact Mem.addOwn hFM71 (List.Mem.tail _ (List.Mem.tail _ (List.Mem.tail _ (List.Mem.tail _ (List.Mem.head _)))))
        have ho77 : RM71.blk b8 = some (.cells (cl u8 (hmacP c [2#8])) 28 (0, 0)) := by rw [hRM71]; exact Mem.addOwn hFM71 (List.Mem.tail _ (List.Mem.tail _ (List.Mem.tail _ (List.Mem.tail _ (List.Mem.tail _ (List.Mem.head _))))))
        have ho78 : RM71.blk bb = some (.cells (cl u8 c) 28 (0, 0)) := by rw [hRM71]; exact Mem.addOwn hFM71 (List.Mem.tail _ (List.Mem.tail _ (List.Mem.tail _ (List.Mem.tail _ (List.Mem.tail _ (List.Mem.tail _ (List.Mem.head _)))))))
        have ho79 : RM71.blk b2 = some (.cells (cl u8 chain) 28 (0, 0)) := by rw [hRM71]; exact Mem.addOwn hFM71 (List.Mem.tail _ (List.Mem.tail _ (List.Mem.tail _ (List.Mem.tail _ (List.Mem.tail _ (List.Mem.tail _ (List.Mem.tail _ (List.Mem.head _))))))))
        have hT80 : Tabs RM71.blk := by rw [hRM71]; exact Tabs.mono hT fun b o e => Mem.addRest hFM71 e
        refine re_planM M710 [(0, false), (1, false), (2, true)] 3 rfl (by kernel_rfl) ?_
        refine dk_q (v := (agg u8 (hmacP c [2#8]))) rfl rfl (fun w _H _hx => ev_loadA Tryd.underlying28 rfl ti28 s8 (_hx.rest _ _ ho77) (by rw [size_cl]; first | omega | (simp only [List.length_set, List.length_append, List.length_replicate, List.length_map, List.length_cons, List.length_nil]; omega) | (simp; done) | (simp; omega) | decide)) ?_
        refine dk_q (v := (agg u8 (hmacP c [2#8]))) rfl rfl (fun w _H _hx => ev_loadA Tryd.underlying28 rfl ti28 s10 (_hx.rest _ _ ho75) (by rw [size_cl]; first | omega | (simp only [List.length_set, List.length_append, List.length_replicate, List.length_map, List.length_cons, List.length_nil]; omega) | (simp; done) | (simp; omega) | decide)) ?_
        refine dk_n rfl (fun w81 _ew81 => ?_)
        have hm81 := M710.ext _ew81
        refine OpR.mono (or_store_agg (f := u8) (l := hmacP c [2#8]) u8_one ti28 s5 rfl (by first | omega | (simp only [List.length_set, List.length_append, List.length_replicate, List.length_map, List.length_cons, List.length_nil]; omega) | (simp; done) | (simp; omega) | decide) hm81.h0 (by rw [size_cl]; first | omega | (simp only [List.length_set, List.length_append, List.length_replicate, List.length_map, List.length_cons, List.length_nil]; omega) | (simp; done) | (simp; omega) | decide) rfl) ?_
        rintro _ w82 uq82
        have hm82 := hm81.upd0 uq82
        refine ⟨⟨_, hm82⟩, ?_⟩
        refine dw_nil (fun w83 _ew83 => ?_)
        have hm83 := hm82.ext _ew83
        have hX84 := hm83
        rw [hRM71] at hX84
        have hm85 : Mem w83 (restOf w0) [(ba, .cells (cl u8 (hmacP c [2#8])) 28 (0, 0)), (b13, .cells (cl u8 (hmacP c [1#8])) 28 (0, 0)), (b12, .cells (cl u8 (hmacP c [2#8])) 28 (0, 0)), (b11, .cells (cl u8 (hmacP c [1#8])) 28 (0, 0)), (b10, .cells (cl u8 (hmacP c [2#8])) 28 (0, 0)), (b9, .cells (cl u8 (hmacP c [1#8])) 28 (0, 0)), (b8, .cells (cl u8 (hmacP c [2#8])) 28 (0, 0)), (bb, .cells (cl u8 c) 28 (0, 0)), (b2, .cells (cl u8 chain) 28 (0, 0))] := (by
          have hT := Mem.back hFM71 hX84
          simp only [List.append_assoc, List.cons_append, List.nil_append, List.append_nil] at hT ⊢
          exact hT)
        refine rw_n (or_store_agg (f := u8) (l := hmacP c [2#8]) u8_one ti28 s6 rfl (by first | omega | (simp only [List.length_set, List.length_append, List.length_replicate, List.length_map, List.length_cons, List.length_nil]; omega) | (simp; done) | (simp; omega) | decide) ((Mem.pick [_, _, _, _, _, _, _] [_] _ hm85)).h0 (by rw [size_cl]; first | omega | (simp only [List.length_set, List.length_append, List.length_replicate, List.length_map, List.length_cons, List.length_nil]; omega) | (simp; done) | (simp; omega) | decide) rfl) ?_
        rintro _ w86 uq86
        have hm86 : Mem w86 (restOf w0) [(bb, .cells (cl u8 (hmacP c [2#8])) 28 (0, 0)), (ba, .cells (cl u8 (hmacP c [2#8])) 28 (0, 0)), (b13, .cells (cl u8 (hmacP c [1#8])) 28 (0, 0)), (b12, .cells (cl u8 (hmacP c [2#8])) 28 (0, 0)), (b11, .cells (cl u8 (hmacP c [1#8])) 28 (0, 0)), (b10, .cells (cl u8 (hmacP c [2#8])) 28 (0, 0)), (b9, .cells (cl u8 (hmacP c [1#8])) 28 (0, 0)), (b8, .cells (cl u8 (hmacP c [2#8])) 28 (0, 0)), (b2, .cells (cl u8 chain) 28 (0, 0))] := Mem.upd0 (Mem.pick [_, _, _, _, _, _, _] [_] _ hm85) uq86
        refine rw_nil ?_
        refine kBlk_normal ?_
        refine cw_region ?_
        refine rw_q rfl (ev_move (v := (i64 (k : Int))) s7) ?_
        refine rw_q rfl (ev_i64_add (b := 1) rfl rfl (by omega) (by omega)) ?_
        refine rw_q rfl (ev_assign (v := (i64 ((k : Int) + 1))) rfl) ?_
        refine rw_nil ?_
        refine kThen_normal ?_
        have hm87 := Mem.drop ([(b13, .cells (cl u8 (hmacP c [1#8])) 28 (0, 0))]) _ (Mem.pick [_, _] [_] _ hm86)
        have hm88 := Mem.drop ([(b12, .cells (cl u8 (hmacP c [2#8])) 28 (0, 0))]) _ (Mem.pick [_, _] [_] _ hm87)
        have hm89 := Mem.drop ([(b11, .cells (cl u8 (hmacP c [1#8])) 28 (0, 0))]) _ (Mem.pick [_, _] [_] _ hm88)
        have hm90 := Mem.drop ([(b10, .cells (cl u8 (hmacP c [2#8])) 28 (0, 0))]) _ (Mem.pick [_, _] [_] _ hm89)
        have hm91 := Mem.drop ([(b9, .cells (cl u8 (hmacP c [1#8])) 28 (0, 0))]) _ (Mem.pick [_, _] [_] _ hm90)
        have hm92 := Mem.drop ([(b8, .cells (cl u8 (hmacP c [2#8])) 28 (0, 0))]) _ (Mem.pick [_, _] [_] _ hm91)
        have hm93 := (Mem.pick [_, _] [_] _ hm92)
        have hm94 := (Mem.pick [_] [_] _ hm93)
        have hm95 := (Mem.pick [_, _] [_] _ hm94)
        exact ⟨⟨k + 1, (hmacP c [2#8]), (by omega), (hmacP_length _ _), s0, s1, s2, s5, s6, rfl, s15, hm95⟩, meas rfl z7 (by omega) (by omega)⟩
      · -- false
        have hc38p := of_decide_eq_false hc38
        refine cw_exit ?_
        refine kThen_exit (kThen_exit (kBlk_hit ?_))
        refine cw_seq ?_
        refine cw_region ?_
        refine rw_q (v := (agg u8 c)) rfl (ev_loadA Tryd.underlying28 rfl ti28 s5 hm36.h0 (by rw [size_cl]; first | omega | (simp only [List.length_set, List.length_append, List.length_replicate, List.length_map, List.length_cons, List.length_nil]; omega) | (simp; done) | (simp; omega) | decide)) ?_
        refine rw_q (v := (agg u8 c)) rfl (ev_loadA Tryd.underlying28 rfl ti28 s6 hm36.h1 (by rw [size_cl]; first | omega | (simp only [List.length_set, List.length_append, List.length_replicate, List.length_map, List.length_cons, List.length_nil]; omega) | (simp; done) | (simp; omega) | decide)) ?_
        refine rw_q rfl (ev_u8arr_eql (l := c) (m := c) Tryd.underlying28 Tryd.underlying5 ti5 Tryd.eqGuardType28 rfl rfl (by first | rfl | first | omega | (simp only [List.length_set, List.length_append, List.length_replicate, List.length_map, List.length_cons, List.length_nil]; omega) | (simp; done) | (simp; omega) | decide) (by first | rfl | first | omega | (simp only [List.length_set, List.length_append, List.length_replicate, List.length_map, List.length_cons, List.length_nil]; omega) | (simp; done) | (simp; omega) | decide)) ?_
        refine rw_q rfl (ev_assign (v := (bl (c == c))) rfl) ?_
        refine rw_nil ?_
        refine kThen_normal ?_
        refine cw_ret ?_
        refine fnPost_ret [(bl (c == c))] ⟨rfl, trivial⟩ ?_
        exact ⟨congrArg bl (told_true rfl), Mem.below w0 hm36⟩


end Go.Proofs.YtehkomhnmipnbaaDoor
