/- The law of the keys: its walk. Conditions: none beyond those that each theorem states. -/
import Derived.Test.YtehkomhnmipnbaaDoorHa7
import Derived.Test.YtehkomhnmipnbaaDoorFwL
import Derived.Test.YtehkomhnmipnbaaDoorHa8
namespace Go.Proofs.YtehkomhnmipnbaaDoor
set_option linter.unusedVariables false
set_option linter.unusedSimpArgs false

theorem keyP_sum {l : List (BitVec 8)} : keyP (sumP l) = sumP l := by unfold keyP; rw [if_neg (by rw [sumP_length]; omega)]
theorem hmac_sum {l b : List (BitVec 8)} (h : 64 < l.length) : hmacP (sumP l) b = hmacP l b := by
  have e : keyP l = sumP l := by unfold keyP; rw [if_pos h]
  unfold hmacP maskedP
  rw [keyP_sum, e]
theorem hmac_pad {l b : List (BitVec 8)} {n : Nat} (h : l.length + n ≤ 64) : hmacP (l ++ List.replicate n 0) b = hmacP l b := by
  have e : keyP l = l := by unfold keyP; rw [if_neg (by omega)]
  have e2 : keyP (l ++ List.replicate n 0) = l ++ List.replicate n 0 := by unfold keyP; rw [if_neg (by simp; omega)]
  have e3 : l ++ List.replicate n (0 : BitVec 8) ++ List.replicate (64 - (l ++ List.replicate n (0 : BitVec 8)).length) 0 = l ++ List.replicate (64 - l.length) 0 := by
    rw [List.append_assoc, List.replicate_append_replicate]; congr 2; simp; omega
  unfold hmacP maskedP
  rw [e, e2, e3]
attribute [local irreducible] sumP digestP maskedP hmacP

theorem law_keys (va : Value) (la : List (BitVec 8)) (vb : Value) (lb : List (BitVec 8)) (more : Int) (w0 : World)  (hT : Tabs (blks w0)) (hra : Rd (blks w0) u8 va la) (hla : la.length ≤ 9223372036854775807) (hrb : Rd (blks w0) u8 vb lb) (hlb : lb.length ≤ 9223372036854775807) (hmo : -9223372036854775808 ≤ more ∧ more ≤ 9223372036854775807) : CallsR Tryd.prog 6 #[va, vb, (i64 more)] w0 (fun r w1 => r = bl true ∧ RowKit.Below w0.heap.size w0 w1) := by
  refine callsR_of_cw (args := [va, vb, (i64 more)]) Tryd.func6 rfl Tryd.ntmps6 Tryd.results6 rfl ?_
  have hm0 : Mem w0 (restOf w0) [] := Mem.of_world w0
  refine cw_seq ?_
  refine cw_region ?_
  refine rw_q rfl (ev_assign (v := (bl false)) rfl) ?_
  refine rw_nil ?_
  refine kThen_normal ?_
  refine cw_seq ?_
  refine cw_seq ?_
  refine cw_region ?_
  refine rw_c rfl (opR_call Tryd.func11 bd11 nm11 (args0) (c_speaks01 _ (hT.mono fun b o e => (hm0).rest b o e))) ?_
  rintro _ w1 ⟨rfl, _ew1⟩
  have hm1 := hm0.ext _ew1
  refine rw_q (v := (bl false)) rfl (ev_not (b := true) rfl) ?_
  refine rw_nil ?_
  refine kThen_normal ?_
  refine cw_cond_f rfl (by decide) ?_
  refine cw_skip ?_
  refine kThen_normal ?_
  refine cw_seq ?_
  refine cw_seq ?_
  refine cw_region ?_
  refine rw_q rfl (ev_move (v := va) rfl) ?_
  refine rw_q (v := (i64 (la.length : Int))) rfl (ev_len_rd (Rd.ofRest hra hm1) Tryd.underlying22 rfl) ?_
  refine rw_q rfl (ev_i64_gtr (b := 300) rfl rfl) ?_
  refine rw_q rfl (ev_move (v := (bl (decide (300 < (la.length : Int))))) rfl) ?_
  rcases Bool.eq_false_or_eq_true (decide (300 < (la.length : Int))) with hb3 | hb3
  · -- true
    have hb3p := of_decide_eq_true hb3
    refine rw_gn (s := 15) rfl rfl hb3 rfl ?_
    refine rw_gn (s := 15) rfl rfl hb3 rfl ?_
    refine rw_gn (s := 15) rfl rfl hb3 rfl ?_
    refine rw_q rfl (ev_pick_tk rfl hb3 rfl) ?_
    refine rw_nil ?_
    refine kThen_normal ?_
    refine CW.abs (fun g => g 0 = va ∧ g 1 = vb ∧ g 2 = (i64 more) ∧ g 6 = (bl false) ∧ g 11 = (bl false) ∧ g 19 = (bl true) ∧ True) ⟨rfl, rfl, rfl, rfl, rfl, rfl, trivial⟩ ?_
    rintro fr4 ⟨s0, s1, s2, s6, s11, s19, _⟩
    refine cw_cond_t s19 (by decide) ?_
    refine cw_seq ?_
    refine cw_region ?_
    refine rw_q rfl (ev_assign (v := (bl true)) rfl) ?_
    refine rw_nil ?_
    refine kThen_normal ?_
    refine cw_ret ?_
    refine kThen_ret ?_
    refine fnPost_ret [(bl true)] ⟨rfl, trivial⟩ ?_
    exact ⟨rfl, Mem.below w0 hm1⟩
  · -- false
    have hb3p := of_decide_eq_false hb3
    refine rw_gyq (s := 15) rfl rfl hb3 rfl (ev_move (v := vb) rfl) ?_
    refine rw_gyq (s := 15) rfl rfl hb3 rfl (ev_len_rd (Rd.ofRest hrb hm1) Tryd.underlying22 rfl) ?_
    refine rw_gyq (s := 15) rfl rfl hb3 rfl (ev_i64_gtr (b := 1000) rfl rfl) ?_
    refine rw_q rfl (ev_pick_fk rfl hb3 rfl) ?_
    refine rw_nil ?_
    refine kThen_normal ?_
    refine CW.abs (fun g => g 0 = va ∧ g 1 = vb ∧ g 2 = (i64 more) ∧ g 6 = (bl false) ∧ g 11 = (bl false) ∧ g 19 = (bl (decide (1000 < (lb.length : Int)))) ∧ True) ⟨rfl, rfl, rfl, rfl, rfl, rfl, trivial⟩ ?_
    rintro fr5 ⟨s0, s1, s2, s6, s11, s19, _⟩
    refine cw_cond s19 (fun hc6 => ?_) (fun hc6 => ?_)
    · -- true
      have hc6p := of_decide_eq_true hc6
      refine cw_seq ?_
      refine cw_region ?_
      refine rw_q rfl (ev_assign (v := (bl true)) rfl) ?_
      refine rw_nil ?_
      refine kThen_normal ?_
      refine cw_ret ?_
      refine kThen_ret ?_
      refine fnPost_ret [(bl true)] ⟨rfl, trivial⟩ ?_
      exact ⟨rfl, Mem.below w0 hm1⟩
    · -- false
      have hc6p := of_decide_eq_false hc6
      refine cw_skip ?_
      refine kThen_normal ?_
      refine cw_seq ?_
      refine cw_region ?_
      refine rw_q rfl (ev_move (v := va) s0) ?_
      refine rw_c rfl (opR_call Tryd.func16 bd16 nm16 (args1 rfl) (c_hsum va la _ (hT.mono fun b o e => (hm1).rest b o e) (Rd.ofRest hra hm1) (by first | omega | (simp only [List.length_set, List.length_append, List.length_replicate, List.length_map, List.length_cons, List.length_nil]; omega) | (simp; done) | (simp; omega)))) ?_
      rintro _ w7 ⟨rfl, _ew7⟩
      have hm7 := hm1.ext _ew7
      refine rw_c rfl (or_alloc_agg hm7 ti28) ?_
      rintro _ w9 ⟨b7, rfl, _ew9, hm9⟩
      refine rw_n (or_store_agg (f := u8) (l := sumP la) u8_one ti28 rfl rfl (by first | omega | (simp only [List.length_set, List.length_append, List.length_replicate, List.length_map, List.length_cons, List.length_nil]; omega) | (simp; done) | (simp; omega)) hm9.h0 (by rw [size_cl]; first | omega | (simp only [List.length_set, List.length_append, List.length_replicate, List.length_map, List.length_cons, List.length_nil]; omega) | (simp; done) | (simp; omega)) rfl) ?_
      rintro _ w10 uq10
      have hm10 := hm9.upd0 uq10
      refine rw_nil ?_
      refine kThen_normal ?_
      refine cw_seq ?_
      refine cw_region ?_
      refine rw_q rfl (ev_move (v := va) s0) ?_
      refine rw_q rfl (ev_move (v := vb) s1) ?_
      refine rw_c rfl (or_buildSlice_ones [vb] (List.all_eq_true.1 (one_cons (Rd.one (Rd.ofRest hrb hm10)) one_nil)) hm10 Tryd.underlying35 ti22 rfl rfl rfl) ?_
      rintro _ w11 ⟨b24, rfl, _ew11, hm11⟩
      have hm11 : Mem w11 (restOf w0) [(b24, .cells #[vb] 22 (0, 0)), (b7, .cells (cl u8 (sumP la)) 28 (0, 0))] := hm11
      refine rw_c rfl (opR_call Tryd.func17 bd17 nm17 (args2 rfl rfl) (c_hmac va la (slc b24 0 1 1) ([(vb, lb)]) _ (hT.mono fun b o e => (hm11).rest b o e) (Rd.ofRest hra hm11) (by first | omega | (simp only [List.length_set, List.length_append, List.length_replicate, List.length_map, List.length_cons, List.length_nil]; omega) | (simp; done) | (simp; omega)) (Rd.mkA (f := Prod.fst) (l := [(vb, lb)]) hm11.h0) (allp_cons (Rd.ofRest hrb hm11) allp_nil) (by rw [joinL_one]; omega) (by first | omega | (simp only [List.length_set, List.length_append, List.length_replicate, List.length_map, List.length_cons, List.length_nil]; omega) | (simp; done) | (simp; omega)))) ?_
      rintro _ w12 ⟨rfl, _ew12⟩
      have hm12 := hm11.ext _ew12
      refine rw_c rfl (or_alloc_agg hm12 ti28) ?_
      rintro _ w14 ⟨b8, rfl, _ew14, hm14⟩
      refine rw_n (or_store_agg (f := u8) (l := hmacP la (joinL ([(vb, lb)]))) u8_one ti28 rfl rfl (by first | omega | (simp only [List.length_set, List.length_append, List.length_replicate, List.length_map, List.length_cons, List.length_nil]; omega) | (simp; done) | (simp; omega)) hm14.h0 (by rw [size_cl]; first | omega | (simp only [List.length_set, List.length_append, List.length_replicate, List.length_map, List.length_cons, List.length_nil]; omega) | (simp; done) | (simp; omega)) rfl) ?_
      rintro _ w15 uq15
      have hm15 := hm14.upd0 uq15
      refine rw_nil ?_
      refine kThen_normal ?_
      refine cw_seq ?_
      refine cw_seq ?_
      refine cw_region ?_
      refine rw_q rfl (ev_move (v := va) s0) ?_
      refine rw_q (v := (i64 (la.length : Int))) rfl (ev_len_rd (Rd.ofRest hra hm15) Tryd.underlying22 rfl) ?_
      refine rw_q rfl (ev_i64_gtr (b := 64) rfl rfl) ?_
      refine rw_nil ?_
      refine kThen_normal ?_
      have hm16 := Mem.drop ([(b24, .cells #[vb] 22 (0, 0))]) _ (Mem.pick [_] [_] _ hm15)
      refine CW.abs (fun g => g 0 = va ∧ g 1 = vb ∧ g 2 = (i64 more) ∧ g 6 = (bl false) ∧ g 7 = (ptr b7 0) ∧ g 8 = (ptr b8 0) ∧ g 11 = (bl false) ∧ g 19 = (bl (decide (1000 < (lb.length : Int)))) ∧ g 28 = (bl (decide (64 < (la.length : Int)))) ∧ True) ⟨s0, s1, s2, s6, rfl, rfl, s11, s19, rfl, trivial⟩ ?_
      rintro fr17 ⟨s0, s1, s2, s6, s7, s8, s11, s19, s28, _⟩
      refine cw_cond s28 (fun hc18 => ?_) (fun hc18 => ?_)
      · -- true
        have hc18p := of_decide_eq_true hc18
        refine cw_seq ?_
        refine cw_draw [(0, false), (1, false), (2, false), (3, true), (4, false)] 5 (by kernel_rfl) ?_
        refine dw_q (v := (agg u8 (hmacP la (joinL ([(vb, lb)]))))) rfl rfl (fun _ _hx => ev_loadA Tryd.underlying28 rfl ti28 s8 (hm16.ext _hx).h0 (by rw [size_cl]; first | omega | (simp only [List.length_set, List.length_append, List.length_replicate, List.length_map, List.length_cons, List.length_nil]; omega) | (simp; done) | (simp; omega))) ?_
        refine dw_q rfl rfl (fun _ _hx => ev_slice_sla (i := 0) (j := 32) Tryd.underlying28 ti5 s7 (optI_none _ _) (optI_none _ _) (by omega) (by first | omega | (simp only [List.length_set, List.length_append, List.length_replicate, List.length_map, List.length_cons, List.length_nil]; omega) | (simp; done) | (simp; omega)) (by first | omega | (simp only [List.length_set, List.length_append, List.length_replicate, List.length_map, List.length_cons, List.length_nil]; omega) | (simp; done) | (simp; omega))) ?_
        refine dw_q rfl rfl (fun _ _hx => ev_move (v := vb) s1) ?_
        refine dw_c rfl rfl (fun w19 _ew19 => ?_)
        have hm19 := hm16.ext _ew19
        refine OpR.mono (or_buildSlice_ones [vb] (List.all_eq_true.1 (one_cons (Rd.one (Rd.ofRest hrb hm19)) one_nil)) hm19 Tryd.underlying35 ti22 rfl rfl rfl) ?_
        rintro _ w20 ⟨b32, rfl, _ew20, hm20⟩
        refine ⟨_ew20, ?_⟩
        have hm20 : Mem w20 (restOf w0) [(b32, .cells #[vb] 22 (0, 0)), (b8, .cells (cl u8 (hmacP la (joinL ([(vb, lb)])))) 28 (0, 0)), (b7, .cells (cl u8 (sumP la)) 28 (0, 0))] := hm20
        refine dw_x (v := (agg u8 (hmacP (sumP la) (joinL ([(vb, lb)]))))) rfl rfl (fun w21 _ew21 => OpR.mono (opR_call Tryd.func17 bd17 nm17 (args2 rfl rfl) (c_hmac (sla b7 0 1 0 32 32) (sumP la) (slc b32 0 1 1) ([(vb, lb)]) _ (hT.mono fun b o e => ((hm20.ext _ew21)).rest b o e) (Rd.slaAll (hm20.ext _ew21).h2 (by first | omega | (simp only [List.length_set, List.length_append, List.length_replicate, List.length_map, List.length_cons, List.length_nil]; omega) | (simp; done) | (simp; omega))) (by first | omega | (simp only [List.length_set, List.length_append, List.length_replicate, List.length_map, List.length_cons, List.length_nil]; omega) | (simp; done) | (simp; omega)) (Rd.mkA (f := Prod.fst) (l := [(vb, lb)]) (hm20.ext _ew21).h0) (allp_cons (Rd.ofRest hrb (hm20.ext _ew21)) allp_nil) (by rw [joinL_one]; omega) (by first | omega | (simp only [List.length_set, List.length_append, List.length_replicate, List.length_map, List.length_cons, List.length_nil]; omega) | (simp; done) | (simp; omega)))) (by rintro _ w22 ⟨rfl, _ew22⟩; exact ⟨rfl, _ew22⟩)) ?_
        refine dw_nil (fun w24 _ew24 => ?_)
        have hm24 := hm20.ext _ew24
        refine rw_q rfl (ev_u8arr_eql (l := hmacP la (joinL ([(vb, lb)]))) (m := hmacP (sumP la) (joinL ([(vb, lb)]))) Tryd.underlying28 Tryd.underlying5 ti5 Tryd.eqGuardType28 rfl rfl (by first | rfl | first | omega | (simp only [List.length_set, List.length_append, List.length_replicate, List.length_map, List.length_cons, List.length_nil]; omega) | (simp; done) | (simp; omega)) (by first | rfl | first | omega | (simp only [List.length_set, List.length_append, List.length_replicate, List.length_map, List.length_cons, List.length_nil]; omega) | (simp; done) | (simp; omega))) ?_
        refine rw_q rfl (ev_assign rfl) ?_
        refine rw_nil ?_
        refine kThen_normal ?_
        refine cw_ret ?_
        refine kThen_ret ?_
        refine fnPost_ret [(bl ((hmacP la (joinL ([(vb, lb)]))) == (hmacP (sumP la) (joinL ([(vb, lb)])))))] ⟨rfl, trivial⟩ ?_
        exact ⟨congrArg bl (told_true (by rw [joinL_one]; exact (hmac_sum (by omega)).symm)), Mem.below w0 hm24⟩
      · -- false
        have hc18p := of_decide_eq_false hc18
        refine cw_skip ?_
        refine kThen_normal ?_
        refine cw_seq ?_
        refine cw_region ?_
        refine rw_q rfl (ev_move (v := (i64 more)) s2) ?_
        obtain ⟨n25, hn25, hn25l⟩ : ∃ q : Nat, (((BitVec.ofInt 64 more).toNat &&& (65535 : Int).toNat : Nat) : Int) = (q : Int) ∧ q ≤ 65535 := ⟨_, rfl, Nat.and_le_right⟩
        refine rw_q rfl (EvQ.cast (congrArg i64 hn25) (ev_i64_and (b := 65535) rfl rfl (by omega) (by omega))) ?_
        refine rw_q rfl (ev_move (v := va) s0) ?_
        refine rw_q (v := (i64 (la.length : Int))) rfl (ev_len_rd (Rd.ofRest hra hm16) Tryd.underlying22 rfl) ?_
        refine rw_q rfl (ev_i64_sub (a := 64) rfl rfl (by omega) (by omega)) ?_
        refine rw_q rfl (ev_i64_add (b := 1) rfl rfl (by omega) (by omega)) ?_
        obtain ⟨n26, hn26, hn26l⟩ : ∃ q : Nat, (n25 : Int) % ((64 - (la.length : Int)) + 1) = (q : Int) ∧ (q : Int) < ((64 - (la.length : Int)) + 1) := by
          have hpos : (0 : Int) < ((64 - (la.length : Int)) + 1) := by first | (simp; done) | (simp; omega) | omega
          have e1 := Int.emod_nonneg (n25 : Int) (b := (64 - (la.length : Int)) + 1) (by omega)
          have e2 := Int.emod_lt_of_pos (n25 : Int) hpos
          exact ⟨((n25 : Int) % ((64 - (la.length : Int)) + 1)).toNat, by omega, by omega⟩
        refine rw_q rfl (EvQ.cast (congrArg i64 hn26) (ev_i64_rem rfl rfl (by omega) (by first | (simp; done) | (simp; omega) | omega) (by omega))) ?_
        refine rw_q rfl (ev_assign (v := (i64 (n26 : Int))) rfl) ?_
        refine rw_nil ?_
        refine kThen_normal ?_
        refine cw_seq ?_
        refine cw_drawE (by kernel_rfl) ?_
        refine re_or 1 7 rfl rfl ?_ ?_
        · -- 1 ahead of 7
          refine re_or 3 7 rfl rfl ?_ ?_
          · -- 3 ahead of 7
            refine re_or 5 7 rfl rfl ?_ ?_
            · -- 5 ahead of 7
              obtain ⟨RM27, hRM27⟩ : ∃ R2, R2 = Rest.add (restOf w0) ([(b8, .cells (cl u8 (hmacP la (joinL ([(vb, lb)])))) 28 (0, 0)), (b7, .cells (cl u8 (sumP la)) 28 (0, 0))]) := ⟨_, rfl⟩
              have M270 : Mem w15 RM27 [] := by rw [hRM27]; exact Mem.giveAll hm16
              have hr28 : Rd RM27.blk u8 va la := by rw [hRM27]; exact Rd.mono hra fun b o e => Mem.restAll hm16 e
              have hr29 : Rd RM27.blk u8 vb lb := by rw [hRM27]; exact Rd.mono hrb fun b o e => Mem.restAll hm16 e
              have ho30 : RM27.blk b8 = some (.cells (cl u8 (hmacP la (joinL ([(vb, lb)])))) 28 (0, 0)) := by rw [hRM27]; exact Mem.ownAll hm16 (List.Mem.head _)
              have ho31 : RM27.blk b7 = some (.cells (cl u8 (sumP la)) 28 (0, 0)) := by rw [hRM27]; exact Mem.ownAll hm16 (List.Mem.tail _ (List.Mem.head _))
              have hT32 : Tabs RM27.blk := by rw [hRM27]; exact Tabs.mono hT fun b o e => Mem.restAll hm16 e
              refine re_planM M270 [(0, false), (2, false), (4, false), (6, false), (1, true), (3, true), (5, true), (7, true), (8, true)] 9 rfl (by kernel_rfl) ?_
              refine dk_q (v := (agg u8 (hmacP la (joinL ([(vb, lb)]))))) rfl rfl (fun w _H _hx => ev_loadA Tryd.underlying28 rfl ti28 s8 (_hx.rest _ _ ho30) (by rw [size_cl]; first | omega | (simp only [List.length_set, List.length_append, List.length_replicate, List.length_map, List.length_cons, List.length_nil]; omega) | (simp; done) | (simp; omega))) ?_
              refine dk_q rfl rfl (fun w _H _hx => ev_move (v := va) s0) ?_
              refine dk_q rfl rfl (fun w _H _hx => ev_move (v := (i64 (n26 : Int))) rfl) ?_
              refine dk_q rfl rfl (fun w _H _hx => ev_move (v := vb) s1) ?_
              refine dk_c rfl rfl (fun w33 _ew33 => ?_)
              have hm33 := M270.ext _ew33
              refine OpR.mono (or_buildSlice_cl u8 [] u8_one hm33 Tryd.underlying22 ti5 rfl (by simp [pairs]) rfl) ?_
              rintro _ w34 ⟨b43, rfl, _ew34, hm34⟩
              refine ⟨⟨_, hm34⟩, ?_⟩
              refine dk_c rfl rfl (fun w35 _ew35 => ?_)
              have hm35 := hm34.ext _ew35
              refine OpR.mono (or_append (f := u8) (Hs := [(b43, .cells (cl u8 ([])) 5 (0, 0))]) (H := []) hm35 (Grow.of u8 5 b43 ([])) rfl rfl (Rd.ofRest hr28 hm35) Tryd.underlying22 Tryd.underlying22 ti5 rfl u8_one (by first | omega | (simp only [List.length_set, List.length_append, List.length_replicate, List.length_map, List.length_cons, List.length_nil]; omega) | (simp; done) | (simp; omega)) (by first | omega | (simp only [List.length_set, List.length_append, List.length_replicate, List.length_map, List.length_cons, List.length_nil]; omega) | (simp; done) | (simp; omega))) ?_
              rintro sv36 w36 ⟨Hs36, hm36, g36⟩
              replace g36 : Grow u8 5 sv36 la Hs36 := g36
              refine ⟨⟨_, hm36⟩, ?_⟩
              refine dk_c rfl rfl (fun w37 _ew37 => ?_)
              have hm37 := hm36.ext _ew37
              refine OpR.mono (or_appendZ (f := u8) (z := (0 : BitVec 8)) (m := n26) (Hs := Hs36) (H := []) hm37 g36 rfl rfl Tryd.underlying22 Tryd.underlying3 ti5 rfl u8_one (by first | omega | (simp only [List.length_set, List.length_append, List.length_replicate, List.length_map, List.length_cons, List.length_nil]; omega) | (simp; done) | (simp; omega)) (by first | omega | (simp only [List.length_set, List.length_append, List.length_replicate, List.length_map, List.length_cons, List.length_nil]; omega) | (simp; done) | (simp; omega))) ?_
              rintro sv38 w38 ⟨Hs38, hm38, g38⟩
              replace g38 : Grow u8 5 sv38 (la ++ List.replicate n26 (0 : BitVec 8)) Hs38 := g38
              refine ⟨⟨_, hm38⟩, ?_⟩
              refine dk_c rfl rfl (fun w39 _ew39 => ?_)
              have hm39 := hm38.ext _ew39
              refine OpR.mono (or_buildSlice_ones [vb] (List.all_eq_true.1 (one_cons (Rd.one (Rd.ofRest hr29 hm39)) one_nil)) hm39 Tryd.underlying35 ti22 rfl rfl rfl) ?_
              rintro _ w40 ⟨b49, rfl, _ew40, hm40⟩
              have hm40 : Mem w40 RM27 ([(b49, .cells #[vb] 22 (0, 0))] ++ (Hs38 ++ ([]))) := hm40
              refine ⟨⟨_, hm40⟩, ?_⟩
              refine dk_c rfl rfl (fun w41 _ew41 => ?_)
              have hm41 := hm40.ext _ew41
              refine OpR.mono (opR_call Tryd.func17 bd17 nm17 (args2 rfl rfl) (c_hmac sv38 (la ++ List.replicate n26 (0 : BitVec 8)) (slc b49 0 1 1) ([(vb, lb)]) _ (hT32.mono fun b o e => (hm41).rest b o e) (g38.rd (Mem.pick [_] Hs38 _ hm41)) (by first | omega | (simp only [List.length_set, List.length_append, List.length_replicate, List.length_map, List.length_cons, List.length_nil]; omega) | (simp; done) | (simp; omega)) (Rd.mkA (f := Prod.fst) (l := [(vb, lb)]) hm41.h0) (allp_cons (Rd.ofRest hr29 hm41) allp_nil) (by rw [joinL_one]; omega) (by first | omega | (simp only [List.length_set, List.length_append, List.length_replicate, List.length_map, List.length_cons, List.length_nil]; omega) | (simp; done) | (simp; omega)))) ?_
              rintro _ w42 ⟨rfl, _ew42⟩
              have hm42 := hm41.ext _ew42
              refine ⟨⟨_, hm42⟩, ?_⟩
              refine dw_nil (fun w44 _ew44 => ?_)
              have hm44 := hm42.ext _ew44
              have hX45 := hm44
              rw [hRM27] at hX45
              have hm46 : Mem w44 (restOf w0) ([(b49, .cells #[vb] 22 (0, 0))] ++ (Hs38 ++ ([(b8, .cells (cl u8 (hmacP la (joinL ([(vb, lb)])))) 28 (0, 0)), (b7, .cells (cl u8 (sumP la)) 28 (0, 0))]))) := (by
                have hT := Mem.backAll hm16 hX45
                simp only [List.append_assoc, List.cons_append, List.nil_append, List.append_nil] at hT ⊢
                exact hT)
              refine rw_q rfl (ev_u8arr_eql (l := hmacP la (joinL ([(vb, lb)]))) (m := hmacP (la ++ List.replicate n26 (0 : BitVec 8)) (joinL ([(vb, lb)]))) Tryd.underlying28 Tryd.underlying5 ti5 Tryd.eqGuardType28 rfl rfl (by first | rfl | first | omega | (simp only [List.length_set, List.length_append, List.length_replicate, List.length_map, List.length_cons, List.length_nil]; omega) | (simp; done) | (simp; omega)) (by first | rfl | first | omega | (simp only [List.length_set, List.length_append, List.length_replicate, List.length_map, List.length_cons, List.length_nil]; omega) | (simp; done) | (simp; omega))) ?_
              refine rw_q rfl (ev_assign rfl) ?_
              refine rw_nil ?_
              refine kThen_normal ?_
              have hm47 := Mem.drop ([(b49, .cells #[vb] 22 (0, 0))]) _ hm46
              have hm48 := Mem.drop Hs38 _ hm47
              refine CW.abs (fun g => g 0 = va ∧ g 1 = vb ∧ g 2 = (i64 more) ∧ g 6 = (bl ((hmacP la (joinL ([(vb, lb)]))) == (hmacP (la ++ List.replicate n26 (0 : BitVec 8)) (joinL ([(vb, lb)]))))) ∧ g 7 = (ptr b7 0) ∧ g 8 = (ptr b8 0) ∧ g 9 = (i64 (n26 : Int)) ∧ g 11 = (bl false) ∧ g 19 = (bl (decide (1000 < (lb.length : Int)))) ∧ g 28 = (bl (decide (64 < (la.length : Int)))) ∧ True) ⟨s0, s1, s2, rfl, s7, s8, rfl, s11, s19, s28, trivial⟩ ?_
              rintro fr49 ⟨s0, s1, s2, s6, s7, s8, s9, s11, s19, s28, _⟩
              refine cw_ret ?_
              refine fnPost_ret [(bl ((hmacP la (joinL ([(vb, lb)]))) == (hmacP (la ++ List.replicate n26 (0 : BitVec 8)) (joinL ([(vb, lb)])))))] ⟨s6, trivial⟩ ?_
              exact ⟨congrArg bl (told_true (by rw [joinL_one]; exact (hmac_pad (by omega)).symm)), Mem.below w0 hm48⟩
            · -- 7 ahead of 5
              obtain ⟨RM50, hRM50⟩ : ∃ R2, R2 = Rest.add (restOf w0) ([(b8, .cells (cl u8 (hmacP la (joinL ([(vb, lb)])))) 28 (0, 0)), (b7, .cells (cl u8 (sumP la)) 28 (0, 0))]) := ⟨_, rfl⟩
              have M500 : Mem w15 RM50 [] := by rw [hRM50]; exact Mem.giveAll hm16
              have hr51 : Rd RM50.blk u8 va la := by rw [hRM50]; exact Rd.mono hra fun b o e => Mem.restAll hm16 e
              have hr52 : Rd RM50.blk u8 vb lb := by rw [hRM50]; exact Rd.mono hrb fun b o e => Mem.restAll hm16 e
              have ho53 : RM50.blk b8 = some (.cells (cl u8 (hmacP la (joinL ([(vb, lb)])))) 28 (0, 0)) := by rw [hRM50]; exact Mem.ownAll hm16 (List.Mem.head _)
              have ho54 : RM50.blk b7 = some (.cells (cl u8 (sumP la)) 28 (0, 0)) := by rw [hRM50]; exact Mem.ownAll hm16 (List.Mem.tail _ (List.Mem.head _))
              have hT55 : Tabs RM50.blk := by rw [hRM50]; exact Tabs.mono hT fun b o e => Mem.restAll hm16 e
              refine re_planM M500 [(0, false), (2, false), (4, false), (6, false), (1, true), (3, true), (7, true), (5, true), (8, true)] 9 rfl (by kernel_rfl) ?_
              refine dk_q (v := (agg u8 (hmacP la (joinL ([(vb, lb)]))))) rfl rfl (fun w _H _hx => ev_loadA Tryd.underlying28 rfl ti28 s8 (_hx.rest _ _ ho53) (by rw [size_cl]; first | omega | (simp only [List.length_set, List.length_append, List.length_replicate, List.length_map, List.length_cons, List.length_nil]; omega) | (simp; done) | (simp; omega))) ?_
              refine dk_q rfl rfl (fun w _H _hx => ev_move (v := va) s0) ?_
              refine dk_q rfl rfl (fun w _H _hx => ev_move (v := (i64 (n26 : Int))) rfl) ?_
              refine dk_q rfl rfl (fun w _H _hx => ev_move (v := vb) s1) ?_
              refine dk_c rfl rfl (fun w56 _ew56 => ?_)
              have hm56 := M500.ext _ew56
              refine OpR.mono (or_buildSlice_cl u8 [] u8_one hm56 Tryd.underlying22 ti5 rfl (by simp [pairs]) rfl) ?_
              rintro _ w57 ⟨b43_1, rfl, _ew57, hm57⟩
              refine ⟨⟨_, hm57⟩, ?_⟩
              refine dk_c rfl rfl (fun w58 _ew58 => ?_)
              have hm58 := hm57.ext _ew58
              refine OpR.mono (or_append (f := u8) (Hs := [(b43_1, .cells (cl u8 ([])) 5 (0, 0))]) (H := []) hm58 (Grow.of u8 5 b43_1 ([])) rfl rfl (Rd.ofRest hr51 hm58) Tryd.underlying22 Tryd.underlying22 ti5 rfl u8_one (by first | omega | (simp only [List.length_set, List.length_append, List.length_replicate, List.length_map, List.length_cons, List.length_nil]; omega) | (simp; done) | (simp; omega)) (by first | omega | (simp only [List.length_set, List.length_append, List.length_replicate, List.length_map, List.length_cons, List.length_nil]; omega) | (simp; done) | (simp; omega))) ?_
              rintro sv59 w59 ⟨Hs59, hm59, g59⟩
              replace g59 : Grow u8 5 sv59 la Hs59 := g59
              refine ⟨⟨_, hm59⟩, ?_⟩
              refine dk_c rfl rfl (fun w60 _ew60 => ?_)
              have hm60 := hm59.ext _ew60
              refine OpR.mono (or_buildSlice_ones [vb] (List.all_eq_true.1 (one_cons (Rd.one (Rd.ofRest hr52 hm60)) one_nil)) hm60 Tryd.underlying35 ti22 rfl rfl rfl) ?_
              rintro _ w61 ⟨b49_1, rfl, _ew61, hm61⟩
              have hm61 : Mem w61 RM50 ([(b49_1, .cells #[vb] 22 (0, 0))] ++ (Hs59 ++ ([]))) := hm61
              refine ⟨⟨_, hm61⟩, ?_⟩
              refine dk_c rfl rfl (fun w62 _ew62 => ?_)
              have hm62 := hm61.ext _ew62
              refine OpR.mono (or_appendZ (f := u8) (z := (0 : BitVec 8)) (m := n26) (Hs := Hs59) (H := [(b49_1, .cells #[vb] 22 (0, 0))]) (Mem.pick [_] Hs59 _ hm62) g59 rfl rfl Tryd.underlying22 Tryd.underlying3 ti5 rfl u8_one (by first | omega | (simp only [List.length_set, List.length_append, List.length_replicate, List.length_map, List.length_cons, List.length_nil]; omega) | (simp; done) | (simp; omega)) (by first | omega | (simp only [List.length_set, List.length_append, List.length_replicate, List.length_map, List.length_cons, List.length_nil]; omega) | (simp; done) | (simp; omega))) ?_
              rintro sv63 w63 ⟨Hs63, hm63, g63⟩
              replace g63 : Grow u8 5 sv63 (la ++ List.replicate n26 (0 : BitVec 8)) Hs63 := g63
              refine ⟨⟨_, hm63⟩, ?_⟩
              refine dk_c rfl rfl (fun w64 _ew64 => ?_)
              have hm64 := hm63.ext _ew64
              refine OpR.mono (opR_call Tryd.func17 bd17 nm17 (args2 rfl rfl) (c_hmac sv63 (la ++ List.replicate n26 (0 : BitVec 8)) (slc b49_1 0 1 1) ([(vb, lb)]) _ (hT55.mono fun b o e => (hm64).rest b o e) (g63.rd hm64) (by first | omega | (simp only [List.length_set, List.length_append, List.length_replicate, List.length_map, List.length_cons, List.length_nil]; omega) | (simp; done) | (simp; omega)) (Rd.mkA (f := Prod.fst) (l := [(vb, lb)]) ((Mem.pick Hs63 [_] _ hm64)).h0) (allp_cons (Rd.ofRest hr52 hm64) allp_nil) (by rw [joinL_one]; omega) (by first | omega | (simp only [List.length_set, List.length_append, List.length_replicate, List.length_map, List.length_cons, List.length_nil]; omega) | (simp; done) | (simp; omega)))) ?_
              rintro _ w65 ⟨rfl, _ew65⟩
              have hm65 := hm64.ext _ew65
              refine ⟨⟨_, hm65⟩, ?_⟩
              refine dw_nil (fun w67 _ew67 => ?_)
              have hm67 := hm65.ext _ew67
              have hX68 := hm67
              rw [hRM50] at hX68
              have hm69 : Mem w67 (restOf w0) (Hs63 ++ ([(b49_1, .cells #[vb] 22 (0, 0)), (b8, .cells (cl u8 (hmacP la (joinL ([(vb, lb)])))) 28 (0, 0)), (b7, .cells (cl u8 (sumP la)) 28 (0, 0))])) := (by
                have hT := Mem.backAll hm16 hX68
                simp only [List.append_assoc, List.cons_append, List.nil_append, List.append_nil] at hT ⊢
                exact hT)
              refine rw_q rfl (ev_u8arr_eql (l := hmacP la (joinL ([(vb, lb)]))) (m := hmacP (la ++ List.replicate n26 (0 : BitVec 8)) (joinL ([(vb, lb)]))) Tryd.underlying28 Tryd.underlying5 ti5 Tryd.eqGuardType28 rfl rfl (by first | rfl | first | omega | (simp only [List.length_set, List.length_append, List.length_replicate, List.length_map, List.length_cons, List.length_nil]; omega) | (simp; done) | (simp; omega)) (by first | rfl | first | omega | (simp only [List.length_set, List.length_append, List.length_replicate, List.length_map, List.length_cons, List.length_nil]; omega) | (simp; done) | (simp; omega))) ?_
              refine rw_q rfl (ev_assign rfl) ?_
              refine rw_nil ?_
              refine kThen_normal ?_
              have hm70 := Mem.drop Hs63 _ hm69
              have hm71 := Mem.drop ([(b49_1, .cells #[vb] 22 (0, 0))]) _ hm70
              refine CW.abs (fun g => g 0 = va ∧ g 1 = vb ∧ g 2 = (i64 more) ∧ g 6 = (bl ((hmacP la (joinL ([(vb, lb)]))) == (hmacP (la ++ List.replicate n26 (0 : BitVec 8)) (joinL ([(vb, lb)]))))) ∧ g 7 = (ptr b7 0) ∧ g 8 = (ptr b8 0) ∧ g 9 = (i64 (n26 : Int)) ∧ g 11 = (bl false) ∧ g 19 = (bl (decide (1000 < (lb.length : Int)))) ∧ g 28 = (bl (decide (64 < (la.length : Int)))) ∧ True) ⟨s0, s1, s2, rfl, s7, s8, rfl, s11, s19, s28, trivial⟩ ?_
              rintro fr72 ⟨s0, s1, s2, s6, s7, s8, s9, s11, s19, s28, _⟩
              refine cw_ret ?_
              refine fnPost_ret [(bl ((hmacP la (joinL ([(vb, lb)]))) == (hmacP (la ++ List.replicate n26 (0 : BitVec 8)) (joinL ([(vb, lb)])))))] ⟨s6, trivial⟩ ?_
              exact ⟨congrArg bl (told_true (by rw [joinL_one]; exact (hmac_pad (by omega)).symm)), Mem.below w0 hm71⟩
          · -- 7 ahead of 3
            obtain ⟨RM73, hRM73⟩ : ∃ R2, R2 = Rest.add (restOf w0) ([(b8, .cells (cl u8 (hmacP la (joinL ([(vb, lb)])))) 28 (0, 0)), (b7, .cells (cl u8 (sumP la)) 28 (0, 0))]) := ⟨_, rfl⟩
            have M730 : Mem w15 RM73 [] := by rw [hRM73]; exact Mem.giveAll hm16
            have hr74 : Rd RM73.blk u8 va la := by rw [hRM73]; exact Rd.mono hra fun b o e => Mem.restAll hm16 e
            have hr75 : Rd RM73.blk u8 vb lb := by rw [hRM73]; exact Rd.mono hrb fun b o e => Mem.restAll hm16 e
            have ho76 : RM73.blk b8 = some (.cells (cl u8 (hmacP la (joinL ([(vb, lb)])))) 28 (0, 0)) := by rw [hRM73]; exact Mem.ownAll hm16 (List.Mem.head _)
            have ho77 : RM73.blk b7 = some (.cells (cl u8 (sumP la)) 28 (0, 0)) := by rw [hRM73]; exact Mem.ownAll hm16 (List.Mem.tail _ (List.Mem.head _))
            have hT78 : Tabs RM73.blk := by rw [hRM73]; exact Tabs.mono hT fun b o e => Mem.restAll hm16 e
            refine re_planM M730 [(0, false), (2, false), (4, false), (6, false), (1, true), (7, true), (3, true), (5, true), (8, true)] 9 rfl (by kernel_rfl) ?_
            refine dk_q (v := (agg u8 (hmacP la (joinL ([(vb, lb)]))))) rfl rfl (fun w _H _hx => ev_loadA Tryd.underlying28 rfl ti28 s8 (_hx.rest _ _ ho76) (by rw [size_cl]; first | omega | (simp only [List.length_set, List.length_append, List.length_replicate, List.length_map, List.length_cons, List.length_nil]; omega) | (simp; done) | (simp; omega))) ?_
            refine dk_q rfl rfl (fun w _H _hx => ev_move (v := va) s0) ?_
            refine dk_q rfl rfl (fun w _H _hx => ev_move (v := (i64 (n26 : Int))) rfl) ?_
            refine dk_q rfl rfl (fun w _H _hx => ev_move (v := vb) s1) ?_
            refine dk_c rfl rfl (fun w79 _ew79 => ?_)
            have hm79 := M730.ext _ew79
            refine OpR.mono (or_buildSlice_cl u8 [] u8_one hm79 Tryd.underlying22 ti5 rfl (by simp [pairs]) rfl) ?_
            rintro _ w80 ⟨b43_2, rfl, _ew80, hm80⟩
            refine ⟨⟨_, hm80⟩, ?_⟩
            refine dk_c rfl rfl (fun w81 _ew81 => ?_)
            have hm81 := hm80.ext _ew81
            refine OpR.mono (or_buildSlice_ones [vb] (List.all_eq_true.1 (one_cons (Rd.one (Rd.ofRest hr75 hm81)) one_nil)) hm81 Tryd.underlying35 ti22 rfl rfl rfl) ?_
            rintro _ w82 ⟨b49_2, rfl, _ew82, hm82⟩
            have hm82 : Mem w82 RM73 [(b49_2, .cells #[vb] 22 (0, 0)), (b43_2, .cells (cl u8 ([])) 5 (0, 0))] := hm82
            refine ⟨⟨_, hm82⟩, ?_⟩
            refine dk_c rfl rfl (fun w83 _ew83 => ?_)
            have hm83 := hm82.ext _ew83
            refine OpR.mono (or_append (f := u8) (Hs := [(b43_2, .cells (cl u8 ([])) 5 (0, 0))]) (H := [(b49_2, .cells #[vb] 22 (0, 0))]) (Mem.pick [_] [_] _ hm83) (Grow.of u8 5 b43_2 ([])) rfl rfl (Rd.ofRest hr74 hm83) Tryd.underlying22 Tryd.underlying22 ti5 rfl u8_one (by first | omega | (simp only [List.length_set, List.length_append, List.length_replicate, List.length_map, List.length_cons, List.length_nil]; omega) | (simp; done) | (simp; omega)) (by first | omega | (simp only [List.length_set, List.length_append, List.length_replicate, List.length_map, List.length_cons, List.length_nil]; omega) | (simp; done) | (simp; omega))) ?_
            rintro sv84 w84 ⟨Hs84, hm84, g84⟩
            replace g84 : Grow u8 5 sv84 la Hs84 := g84
            refine ⟨⟨_, hm84⟩, ?_⟩
            refine dk_c rfl rfl (fun w85 _ew85 => ?_)
            have hm85 := hm84.ext _ew85
            refine OpR.mono (or_appendZ (f := u8) (z := (0 : BitVec 8)) (m := n26) (Hs := Hs84) (H := [(b49_2, .cells #[vb] 22 (0, 0))]) hm85 g84 rfl rfl Tryd.underlying22 Tryd.underlying3 ti5 rfl u8_one (by first | omega | (simp only [List.length_set, List.length_append, List.length_replicate, List.length_map, List.length_cons, List.length_nil]; omega) | (simp; done) | (simp; omega)) (by first | omega | (simp only [List.length_set, List.length_append, List.length_replicate, List.length_map, List.length_cons, List.length_nil]; omega) | (simp; done) | (simp; omega))) ?_
            rintro sv86 w86 ⟨Hs86, hm86, g86⟩
            replace g86 : Grow u8 5 sv86 (la ++ List.replicate n26 (0 : BitVec 8)) Hs86 := g86
            refine ⟨⟨_, hm86⟩, ?_⟩
            refine dk_c rfl rfl (fun w87 _ew87 => ?_)
            have hm87 := hm86.ext _ew87
            refine OpR.mono (opR_call Tryd.func17 bd17 nm17 (args2 rfl rfl) (c_hmac sv86 (la ++ List.replicate n26 (0 : BitVec 8)) (slc b49_2 0 1 1) ([(vb, lb)]) _ (hT78.mono fun b o e => (hm87).rest b o e) (g86.rd hm87) (by first | omega | (simp only [List.length_set, List.length_append, List.length_replicate, List.length_map, List.length_cons, List.length_nil]; omega) | (simp; done) | (simp; omega)) (Rd.mkA (f := Prod.fst) (l := [(vb, lb)]) ((Mem.pick Hs86 [_] _ hm87)).h0) (allp_cons (Rd.ofRest hr75 hm87) allp_nil) (by rw [joinL_one]; omega) (by first | omega | (simp only [List.length_set, List.length_append, List.length_replicate, List.length_map, List.length_cons, List.length_nil]; omega) | (simp; done) | (simp; omega)))) ?_
            rintro _ w88 ⟨rfl, _ew88⟩
            have hm88 := hm87.ext _ew88
            refine ⟨⟨_, hm88⟩, ?_⟩
            refine dw_nil (fun w90 _ew90 => ?_)
            have hm90 := hm88.ext _ew90
            have hX91 := hm90
            rw [hRM73] at hX91
            have hm92 : Mem w90 (restOf w0) (Hs86 ++ ([(b49_2, .cells #[vb] 22 (0, 0)), (b8, .cells (cl u8 (hmacP la (joinL ([(vb, lb)])))) 28 (0, 0)), (b7, .cells (cl u8 (sumP la)) 28 (0, 0))])) := (by
              have hT := Mem.backAll hm16 hX91
              simp only [List.append_assoc, List.cons_append, List.nil_append, List.append_nil] at hT ⊢
              exact hT)
            refine rw_q rfl (ev_u8arr_eql (l := hmacP la (joinL ([(vb, lb)]))) (m := hmacP (la ++ List.replicate n26 (0 : BitVec 8)) (joinL ([(vb, lb)]))) Tryd.underlying28 Tryd.underlying5 ti5 Tryd.eqGuardType28 rfl rfl (by first | rfl | first | omega | (simp only [List.length_set, List.length_append, List.length_replicate, List.length_map, List.length_cons, List.length_nil]; omega) | (simp; done) | (simp; omega)) (by first | rfl | first | omega | (simp only [List.length_set, List.length_append, List.length_replicate, List.length_map, List.length_cons, List.length_nil]; omega) | (simp; done) | (simp; omega))) ?_
            refine rw_q rfl (ev_assign rfl) ?_
            refine rw_nil ?_
            refine kThen_normal ?_
            have hm93 := Mem.drop Hs86 _ hm92
            have hm94 := Mem.drop ([(b49_2, .cells #[vb] 22 (0, 0))]) _ hm93
            refine CW.abs (fun g => g 0 = va ∧ g 1 = vb ∧ g 2 = (i64 more) ∧ g 6 = (bl ((hmacP la (joinL ([(vb, lb)]))) == (hmacP (la ++ List.replicate n26 (0 : BitVec 8)) (joinL ([(vb, lb)]))))) ∧ g 7 = (ptr b7 0) ∧ g 8 = (ptr b8 0) ∧ g 9 = (i64 (n26 : Int)) ∧ g 11 = (bl false) ∧ g 19 = (bl (decide (1000 < (lb.length : Int)))) ∧ g 28 = (bl (decide (64 < (la.length : Int)))) ∧ True) ⟨s0, s1, s2, rfl, s7, s8, rfl, s11, s19, s28, trivial⟩ ?_
            rintro fr95 ⟨s0, s1, s2, s6, s7, s8, s9, s11, s19, s28, _⟩
            refine cw_ret ?_
            refine fnPost_ret [(bl ((hmacP la (joinL ([(vb, lb)]))) == (hmacP (la ++ List.replicate n26 (0 : BitVec 8)) (joinL ([(vb, lb)])))))] ⟨s6, trivial⟩ ?_
            exact ⟨congrArg bl (told_true (by rw [joinL_one]; exact (hmac_pad (by omega)).symm)), Mem.below w0 hm94⟩
        · -- 7 ahead of 1
          obtain ⟨RM96, hRM96⟩ : ∃ R2, R2 = Rest.add (restOf w0) ([(b8, .cells (cl u8 (hmacP la (joinL ([(vb, lb)])))) 28 (0, 0)), (b7, .cells (cl u8 (sumP la)) 28 (0, 0))]) := ⟨_, rfl⟩
          have M960 : Mem w15 RM96 [] := by rw [hRM96]; exact Mem.giveAll hm16
          have hr97 : Rd RM96.blk u8 va la := by rw [hRM96]; exact Rd.mono hra fun b o e => Mem.restAll hm16 e
          have hr98 : Rd RM96.blk u8 vb lb := by rw [hRM96]; exact Rd.mono hrb fun b o e => Mem.restAll hm16 e
          have ho99 : RM96.blk b8 = some (.cells (cl u8 (hmacP la (joinL ([(vb, lb)])))) 28 (0, 0)) := by rw [hRM96]; exact Mem.ownAll hm16 (List.Mem.head _)
          have ho100 : RM96.blk b7 = some (.cells (cl u8 (sumP la)) 28 (0, 0)) := by rw [hRM96]; exact Mem.ownAll hm16 (List.Mem.tail _ (List.Mem.head _))
          have hT101 : Tabs RM96.blk := by rw [hRM96]; exact Tabs.mono hT fun b o e => Mem.restAll hm16 e
          refine re_planM M960 [(0, false), (2, false), (4, false), (6, false), (7, true), (1, true), (3, true), (5, true), (8, true)] 9 rfl (by kernel_rfl) ?_
          refine dk_q (v := (agg u8 (hmacP la (joinL ([(vb, lb)]))))) rfl rfl (fun w _H _hx => ev_loadA Tryd.underlying28 rfl ti28 s8 (_hx.rest _ _ ho99) (by rw [size_cl]; first | omega | (simp only [List.length_set, List.length_append, List.length_replicate, List.length_map, List.length_cons, List.length_nil]; omega) | (simp; done) | (simp; omega))) ?_
          refine dk_q rfl rfl (fun w _H _hx => ev_move (v := va) s0) ?_
          refine dk_q rfl rfl (fun w _H _hx => ev_move (v := (i64 (n26 : Int))) rfl) ?_
          refine dk_q rfl rfl (fun w _H _hx => ev_move (v := vb) s1) ?_
          refine dk_c rfl rfl (fun w102 _ew102 => ?_)
          have hm102 := M960.ext _ew102
          refine OpR.mono (or_buildSlice_ones [vb] (List.all_eq_true.1 (one_cons (Rd.one (Rd.ofRest hr98 hm102)) one_nil)) hm102 Tryd.underlying35 ti22 rfl rfl rfl) ?_
          rintro _ w103 ⟨b49_3, rfl, _ew103, hm103⟩
          have hm103 : Mem w103 RM96 [(b49_3, .cells #[vb] 22 (0, 0))] := hm103
          refine ⟨⟨_, hm103⟩, ?_⟩
          refine dk_c rfl rfl (fun w104 _ew104 => ?_)
          have hm104 := hm103.ext _ew104
          refine OpR.mono (or_buildSlice_cl u8 [] u8_one hm104 Tryd.underlying22 ti5 rfl (by simp [pairs]) rfl) ?_
          rintro _ w105 ⟨b43_3, rfl, _ew105, hm105⟩
          refine ⟨⟨_, hm105⟩, ?_⟩
          refine dk_c rfl rfl (fun w106 _ew106 => ?_)
          have hm106 := hm105.ext _ew106
          refine OpR.mono (or_append (f := u8) (Hs := [(b43_3, .cells (cl u8 ([])) 5 (0, 0))]) (H := [(b49_3, .cells #[vb] 22 (0, 0))]) hm106 (Grow.of u8 5 b43_3 ([])) rfl rfl (Rd.ofRest hr97 hm106) Tryd.underlying22 Tryd.underlying22 ti5 rfl u8_one (by first | omega | (simp only [List.length_set, List.length_append, List.length_replicate, List.length_map, List.length_cons, List.length_nil]; omega) | (simp; done) | (simp; omega)) (by first | omega | (simp only [List.length_set, List.length_append, List.length_replicate, List.length_map, List.length_cons, List.length_nil]; omega) | (simp; done) | (simp; omega))) ?_
          rintro sv107 w107 ⟨Hs107, hm107, g107⟩
          replace g107 : Grow u8 5 sv107 la Hs107 := g107
          refine ⟨⟨_, hm107⟩, ?_⟩
          refine dk_c rfl rfl (fun w108 _ew108 => ?_)
          have hm108 := hm107.ext _ew108
          refine OpR.mono (or_appendZ (f := u8) (z := (0 : BitVec 8)) (m := n26) (Hs := Hs107) (H := [(b49_3, .cells #[vb] 22 (0, 0))]) hm108 g107 rfl rfl Tryd.underlying22 Tryd.underlying3 ti5 rfl u8_one (by first | omega | (simp only [List.length_set, List.length_append, List.length_replicate, List.length_map, List.length_cons, List.length_nil]; omega) | (simp; done) | (simp; omega)) (by first | omega | (simp only [List.length_set, List.length_append, List.length_replicate, List.length_map, List.length_cons, List.length_nil]; omega) | (simp; done) | (simp; omega))) ?_
          rintro sv109 w109 ⟨Hs109, hm109, g109⟩
          replace g109 : Grow u8 5 sv109 (la ++ List.replicate n26 (0 : BitVec 8)) Hs109 := g109
          refine ⟨⟨_, hm109⟩, ?_⟩
          refine dk_c rfl rfl (fun w110 _ew110 => ?_)
          have hm110 := hm109.ext _ew110
          refine OpR.mono (opR_call Tryd.func17 bd17 nm17 (args2 rfl rfl) (c_hmac sv109 (la ++ List.replicate n26 (0 : BitVec 8)) (slc b49_3 0 1 1) ([(vb, lb)]) _ (hT101.mono fun b o e => (hm110).rest b o e) (g109.rd hm110) (by first | omega | (simp only [List.length_set, List.length_append, List.length_replicate, List.length_map, List.length_cons, List.length_nil]; omega) | (simp; done) | (simp; omega)) (Rd.mkA (f := Prod.fst) (l := [(vb, lb)]) ((Mem.pick Hs109 [_] _ hm110)).h0) (allp_cons (Rd.ofRest hr98 hm110) allp_nil) (by rw [joinL_one]; omega) (by first | omega | (simp only [List.length_set, List.length_append, List.length_replicate, List.length_map, List.length_cons, List.length_nil]; omega) | (simp; done) | (simp; omega)))) ?_
          rintro _ w111 ⟨rfl, _ew111⟩
          have hm111 := hm110.ext _ew111
          refine ⟨⟨_, hm111⟩, ?_⟩
          refine dw_nil (fun w113 _ew113 => ?_)
          have hm113 := hm111.ext _ew113
          have hX114 := hm113
          rw [hRM96] at hX114
          have hm115 : Mem w113 (restOf w0) (Hs109 ++ ([(b49_3, .cells #[vb] 22 (0, 0)), (b8, .cells (cl u8 (hmacP la (joinL ([(vb, lb)])))) 28 (0, 0)), (b7, .cells (cl u8 (sumP la)) 28 (0, 0))])) := (by
            have hT := Mem.backAll hm16 hX114
            simp only [List.append_assoc, List.cons_append, List.nil_append, List.append_nil] at hT ⊢
            exact hT)
          refine rw_q rfl (ev_u8arr_eql (l := hmacP la (joinL ([(vb, lb)]))) (m := hmacP (la ++ List.replicate n26 (0 : BitVec 8)) (joinL ([(vb, lb)]))) Tryd.underlying28 Tryd.underlying5 ti5 Tryd.eqGuardType28 rfl rfl (by first | rfl | first | omega | (simp only [List.length_set, List.length_append, List.length_replicate, List.length_map, List.length_cons, List.length_nil]; omega) | (simp; done) | (simp; omega)) (by first | rfl | first | omega | (simp only [List.length_set, List.length_append, List.length_replicate, List.length_map, List.length_cons, List.length_nil]; omega) | (simp; done) | (simp; omega))) ?_
          refine rw_q rfl (ev_assign rfl) ?_
          refine rw_nil ?_
          refine kThen_normal ?_
          have hm116 := Mem.drop Hs109 _ hm115
          have hm117 := Mem.drop ([(b49_3, .cells #[vb] 22 (0, 0))]) _ hm116
          refine CW.abs (fun g => g 0 = va ∧ g 1 = vb ∧ g 2 = (i64 more) ∧ g 6 = (bl ((hmacP la (joinL ([(vb, lb)]))) == (hmacP (la ++ List.replicate n26 (0 : BitVec 8)) (joinL ([(vb, lb)]))))) ∧ g 7 = (ptr b7 0) ∧ g 8 = (ptr b8 0) ∧ g 9 = (i64 (n26 : Int)) ∧ g 11 = (bl false) ∧ g 19 = (bl (decide (1000 < (lb.length : Int)))) ∧ g 28 = (bl (decide (64 < (la.length : Int)))) ∧ True) ⟨s0, s1, s2, rfl, s7, s8, rfl, s11, s19, s28, trivial⟩ ?_
          rintro fr118 ⟨s0, s1, s2, s6, s7, s8, s9, s11, s19, s28, _⟩
          refine cw_ret ?_
          refine fnPost_ret [(bl ((hmacP la (joinL ([(vb, lb)]))) == (hmacP (la ++ List.replicate n26 (0 : BitVec 8)) (joinL ([(vb, lb)])))))] ⟨s6, trivial⟩ ?_
          exact ⟨congrArg bl (told_true (by rw [joinL_one]; exact (hmac_pad (by omega)).symm)), Mem.below w0 hm117⟩


end Go.Proofs.YtehkomhnmipnbaaDoor
