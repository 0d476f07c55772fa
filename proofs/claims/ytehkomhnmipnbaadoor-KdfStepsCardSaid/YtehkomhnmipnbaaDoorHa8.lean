/- The laws of the hash: their walks. Conditions: none beyond those that each theorem states. -/
import Derived.Test.YtehkomhnmipnbaaDoorHa7
import Derived.Test.YtehkomhnmipnbaaDoorFwL
namespace Go.Proofs.YtehkomhnmipnbaaDoor
set_option linter.unusedVariables false
set_option linter.unusedSimpArgs false
attribute [local irreducible] sumP digestP maskedP hmacP

theorem c_speaks01  (w0 : World)  (hT : Tabs (blks w0)) : CallsR Tryd.prog 11 #[] w0 (fun r w1 => r = (bl true) ∧ Ext w0 w1) := by
  refine callsR_of_cw (args := []) Tryd.func11 rfl Tryd.ntmps11 Tryd.results11 rfl ?_
  have hm0 : Mem w0 (restOf w0) [] := Mem.of_world w0
  refine cw_seq ?_
  refine cw_region ?_
  refine rw_q rfl (ev_assign (v := (bl false)) rfl) ?_
  refine rw_nil ?_
  refine kThen_normal ?_
  refine cw_seq ?_
  refine cw_region ?_
  refine rw_c rfl (or_buildSlice_cl u8 [97#8, 98#8, 99#8] u8_one hm0 Tryd.underlying22 ti5 rfl rfl rfl) ?_
  rintro _ w1 ⟨b2, rfl, _ew1, hm1⟩
  refine rw_c rfl (or_conv_mark (m := 3) Tryd.underlying22 Tryd.underlying5 rfl hm1.h0 rfl) ?_
  rintro _ w2 ⟨rfl, uq2⟩
  have hm2 : Mem w2 (restOf w0) [(b2, .cells (cl u8 ([97#8, 98#8, 99#8])) 5 (3, 4))] := hm1.upd0 uq2
  refine rw_c rfl (opR_call Tryd.func16 bd16 nm16 (args1 rfl) (c_hsum (slc b2 0 3 3) ([97#8, 98#8, 99#8]) _ (hT.mono fun b o e => (hm2).rest b o e) (Rd.mkA hm2.h0) (by first | omega | (simp only [List.length_set, List.length_append, List.length_replicate, List.length_map, List.length_cons, List.length_nil]; omega) | (simp; done) | (simp; omega) | decide))) ?_
  rintro _ w3 ⟨rfl, _ew3⟩
  have hm3 := hm2.ext _ew3
  refine rw_c rfl (or_alloc_agg hm3 ti28) ?_
  rintro _ w5 ⟨b1, rfl, _ew5, hm5⟩
  refine rw_n (or_store_agg (f := u8) (l := sumP ([97#8, 98#8, 99#8])) u8_one ti28 rfl rfl (by first | omega | (simp only [List.length_set, List.length_append, List.length_replicate, List.length_map, List.length_cons, List.length_nil]; omega) | (simp; done) | (simp; omega) | decide) hm5.h0 (by rw [size_cl]; first | omega | (simp only [List.length_set, List.length_append, List.length_replicate, List.length_map, List.length_cons, List.length_nil]; omega) | (simp; done) | (simp; omega) | decide) rfl) ?_
  rintro _ w6 uq6
  have hm6 := hm5.upd0 uq6
  refine rw_nil ?_
  refine kThen_normal ?_
  refine cw_seq ?_
  refine cw_region ?_
  refine rw_q rfl (ev_ia_arr (r := 0) (i := 0) (by omega) Tryd.underlying28 ti5 rfl rfl (by omega) (by omega)) ?_
  refine rw_q (v := (u8 ((sumP ([97#8, 98#8, 99#8])).getD 0 0))) rfl (ev_load1 Tryd.underlying5 rfl rfl hm6.h0 (get_clD _ _ 0 (by first | omega | (simp only [List.length_set, List.length_append, List.length_replicate, List.length_map, List.length_cons, List.length_nil]; omega) | (simp; done) | (simp; omega) | decide))) ?_
  refine rw_q rfl (ev_u8_eql (b := 186#8) rfl rfl) ?_
  refine rw_q rfl (ev_move (v := (bl (((sumP ([97#8, 98#8, 99#8])).getD 0 0) == 186#8))) rfl) ?_
  have hd7 : (((sumP ([97#8, 98#8, 99#8])).getD 0 0) == 186#8) = true := abc0
  refine rw_gyq (s := 8) rfl rfl hd7 rfl (ev_ia_arr (r := 1) (i := 1) (by omega) Tryd.underlying28 ti5 rfl rfl (by omega) (by omega)) ?_
  refine rw_gyq (s := 8) rfl rfl hd7 rfl (ev_load1 Tryd.underlying5 rfl rfl hm6.h0 (get_clD _ _ 0 (by first | omega | (simp only [List.length_set, List.length_append, List.length_replicate, List.length_map, List.length_cons, List.length_nil]; omega) | (simp; done) | (simp; omega) | decide))) ?_
  refine rw_gyq (s := 8) rfl rfl hd7 rfl (ev_u8_eql (b := 120#8) rfl rfl) ?_
  refine rw_q rfl (ev_pick_tk rfl hd7 rfl) ?_
  refine rw_q rfl (ev_move (v := (bl (((sumP ([97#8, 98#8, 99#8])).getD 1 0) == 120#8))) rfl) ?_
  have hd8 : (((sumP ([97#8, 98#8, 99#8])).getD 1 0) == 120#8) = true := abc1
  refine rw_gyq (s := 13) rfl rfl hd8 rfl (ev_ia_arr (r := 2) (i := 2) (by omega) Tryd.underlying28 ti5 rfl rfl (by omega) (by omega)) ?_
  refine rw_gyq (s := 13) rfl rfl hd8 rfl (ev_load1 Tryd.underlying5 rfl rfl hm6.h0 (get_clD _ _ 0 (by first | omega | (simp only [List.length_set, List.length_append, List.length_replicate, List.length_map, List.length_cons, List.length_nil]; omega) | (simp; done) | (simp; omega) | decide))) ?_
  refine rw_gyq (s := 13) rfl rfl hd8 rfl (ev_u8_eql (b := 22#8) rfl rfl) ?_
  refine rw_q rfl (ev_pick_tk rfl hd8 rfl) ?_
  refine rw_q rfl (ev_move (v := (bl (((sumP ([97#8, 98#8, 99#8])).getD 2 0) == 22#8))) rfl) ?_
  have hd9 : (((sumP ([97#8, 98#8, 99#8])).getD 2 0) == 22#8) = true := abc2
  refine rw_gyq (s := 18) rfl rfl hd9 rfl (ev_ia_arr (r := 3) (i := 3) (by omega) Tryd.underlying28 ti5 rfl rfl (by omega) (by omega)) ?_
  refine rw_gyq (s := 18) rfl rfl hd9 rfl (ev_load1 Tryd.underlying5 rfl rfl hm6.h0 (get_clD _ _ 0 (by first | omega | (simp only [List.length_set, List.length_append, List.length_replicate, List.length_map, List.length_cons, List.length_nil]; omega) | (simp; done) | (simp; omega) | decide))) ?_
  refine rw_gyq (s := 18) rfl rfl hd9 rfl (ev_u8_eql (b := 191#8) rfl rfl) ?_
  refine rw_q rfl (ev_pick_tk rfl hd9 rfl) ?_
  refine rw_q rfl (ev_move (v := (bl (((sumP ([97#8, 98#8, 99#8])).getD 3 0) == 191#8))) rfl) ?_
  have hd10 : (((sumP ([97#8, 98#8, 99#8])).getD 3 0) == 191#8) = true := abc3
  refine rw_gy (s := 23) rfl rfl hd10 rfl (opR_call Tryd.func12 bd12 nm12 (args0) (c_hnew _ (hT.mono fun b o e => (hm6).rest b o e))) ?_
  rintro _ w11 ⟨bq12, rfl, k_w11⟩
  have hm11 : Mem w11 (restOf w0) [(bq12, .cells #[(u32 1779033703#32), (u32 3144134277#32), (u32 1013904242#32), (u32 2773480762#32), (u32 1359893119#32), (u32 2600822924#32), (u32 528734635#32), (u32 1541459225#32), (Value.slice none 0 0), (u64 0#64)] 57 (0, 0)), (b1, .cells (cl u8 (sumP ([97#8, 98#8, 99#8]))) 28 (0, 0)), (b2, .cells (cl u8 ([97#8, 98#8, 99#8])) 5 (3, 4))] := Mem.new (H := [(b1, .cells (cl u8 (sumP ([97#8, 98#8, 99#8]))) 28 (0, 0)), (b2, .cells (cl u8 ([97#8, 98#8, 99#8])) 5 (3, 4))]) (H' := [(bq12, .cells #[(u32 1779033703#32), (u32 3144134277#32), (u32 1013904242#32), (u32 2773480762#32), (u32 1359893119#32), (u32 2600822924#32), (u32 528734635#32), (u32 1541459225#32), (Value.slice none 0 0), (u64 0#64)] 57 (0, 0))]) hm6 k_w11
  refine rw_gy (s := 23) rfl rfl hd10 rfl (opR_call Tryd.func14 bd14 nm14 (args1 rfl) (c_dsum bq12 1779033703#32 3144134277#32 1013904242#32 2773480762#32 1359893119#32 2600822924#32 528734635#32 1541459225#32 (Value.slice none 0 0) ([]) 0#64 _ (hT.mono fun b o e => (hm11).rest b o e) hm11.h0 (Rd.nil _ _) (by simp))) ?_
  rintro _ w13 ⟨rfl, _ew13⟩
  have hm13 := hm11.ext _ew13
  refine rw_gy (s := 23) rfl rfl hd10 rfl (opR_call Tryd.func16 bd16 nm16 (args1 rfl) (c_hsum (Value.slice none 0 0) ([]) _ (hT.mono fun b o e => (hm13).rest b o e) (Rd.nil _ _) (by first | omega | (simp only [List.length_set, List.length_append, List.length_replicate, List.length_map, List.length_cons, List.length_nil]; omega) | (simp; done) | (simp; omega) | decide))) ?_
  rintro _ w15 ⟨rfl, _ew15⟩
  have hm15 := hm13.ext _ew15
  refine rw_gyq (s := 23) rfl rfl hd10 rfl (ev_u8arr_eql (l := digestP [1779033703#32, 3144134277#32, 1013904242#32, 2773480762#32, 1359893119#32, 2600822924#32, 528734635#32, 1541459225#32] ([]) 0#64) (m := sumP ([])) Tryd.underlying28 Tryd.underlying5 ti5 Tryd.eqGuardType28 rfl rfl (by first | rfl | first | omega | (simp only [List.length_set, List.length_append, List.length_replicate, List.length_map, List.length_cons, List.length_nil]; omega) | (simp; done) | (simp; omega) | decide) (by first | rfl | first | omega | (simp only [List.length_set, List.length_append, List.length_replicate, List.length_map, List.length_cons, List.length_nil]; omega) | (simp; done) | (simp; omega) | decide)) ?_
  refine rw_q rfl (ev_pick_tk rfl hd10 rfl) ?_
  refine rw_q rfl (ev_assign rfl) ?_
  refine rw_nil ?_
  refine kThen_normal ?_
  have hm17 := Mem.drop ([(bq12, .cells #[(u32 1779033703#32), (u32 3144134277#32), (u32 1013904242#32), (u32 2773480762#32), (u32 1359893119#32), (u32 2600822924#32), (u32 528734635#32), (u32 1541459225#32), (Value.slice none 0 0), (u64 0#64)] 57 (0, 0))]) _ hm15
  have hm18 := Mem.drop ([(b2, .cells (cl u8 ([97#8, 98#8, 99#8])) 5 (3, 4))]) _ (Mem.pick [_] [_] _ hm17)
  refine CW.abs (fun g => g 0 = (bl ((digestP [1779033703#32, 3144134277#32, 1013904242#32, 2773480762#32, 1359893119#32, 2600822924#32, 528734635#32, 1541459225#32] ([]) 0#64) == (sumP ([])))) ∧ g 1 = (ptr b1 0) ∧ True) ⟨rfl, rfl, trivial⟩ ?_
  rintro fr19 ⟨s0, s1, _⟩
  refine cw_ret ?_
  refine fnPost_ret [(bl ((digestP [1779033703#32, 3144134277#32, 1013904242#32, 2773480762#32, 1359893119#32, 2600822924#32, 528734635#32, 1541459225#32] ([]) 0#64) == (sumP ([]))))] ⟨s0, trivial⟩ ?_
  exact ⟨congrArg bl (told_true Holds.new.sum), hm18.toExt⟩

theorem law_sums (va : Value) (la : List (BitVec 8)) (vb : Value) (lb : List (BitVec 8)) (w0 : World)  (hT : Tabs (blks w0)) (hra : Rd (blks w0) u8 va la) (hla : la.length ≤ 9223372036854775807) (hrb : Rd (blks w0) u8 vb lb) (hlb : lb.length ≤ 9223372036854775807) : CallsR Tryd.prog 4 #[va, vb] w0 (fun r w1 => r = bl true ∧ RowKit.Below w0.heap.size w0 w1) := by
  refine callsR_of_cw (args := [va, vb]) Tryd.func4 rfl Tryd.ntmps4 Tryd.results4 rfl ?_
  have hm0 : Mem w0 (restOf w0) [] := Mem.of_world w0
  refine cw_seq ?_
  refine cw_region ?_
  refine rw_q rfl (ev_assign (v := (bl false)) rfl) ?_
  refine rw_nil ?_
  refine kThen_normal ?_
  refine cw_seq ?_
  refine cw_seq ?_
  refine cw_region ?_
  refine rw_c rfl (opR_call Tryd.func11 bd11 nm11 (args0) (c_speaks01 _ (hT.mono fun b o e => (hm0).rest b o e))) ?_
  rintro _ w1 ⟨rfl, _ew1⟩
  have hm1 := hm0.ext _ew1
  refine rw_q (v := (bl false)) rfl (ev_not (b := true) rfl) ?_
  refine rw_nil ?_
  refine kThen_normal ?_
  refine cw_cond_f rfl (by decide) ?_
  refine cw_skip ?_
  refine kThen_normal ?_
  refine cw_seq ?_
  refine cw_seq ?_
  refine cw_region ?_
  refine rw_q rfl (ev_move (v := va) rfl) ?_
  refine rw_q (v := (i64 (la.length : Int))) rfl (ev_len_rd (Rd.ofRest hra hm1) Tryd.underlying22 rfl) ?_
  refine rw_q rfl (ev_i64_gtr (b := 300) rfl rfl) ?_
  refine rw_q rfl (ev_move (v := (bl (decide (300 < (la.length : Int))))) rfl) ?_
  rcases Bool.eq_false_or_eq_true (decide (300 < (la.length : Int))) with hb3 | hb3
  · -- true
    have hb3p := of_decide_eq_true hb3
    refine rw_gn (s := 10) rfl rfl hb3 rfl ?_
    refine rw_gn (s := 10) rfl rfl hb3 rfl ?_
    refine rw_gn (s := 10) rfl rfl hb3 rfl ?_
    refine rw_q rfl (ev_pick_tk rfl hb3 rfl) ?_
    refine rw_nil ?_
    refine kThen_normal ?_
    refine CW.abs (fun g => g 0 = va ∧ g 1 = vb ∧ g 4 = (bl false) ∧ g 6 = (bl false) ∧ g 14 = (bl true) ∧ True) ⟨rfl, rfl, rfl, rfl, rfl, trivial⟩ ?_
    rintro fr4 ⟨s0, s1, s4, s6, s14, _⟩
    refine cw_cond_t s14 (by decide) ?_
    refine cw_seq ?_
    refine cw_region ?_
    refine rw_q rfl (ev_assign (v := (bl true)) rfl) ?_
    refine rw_nil ?_
    refine kThen_normal ?_
    refine cw_ret ?_
    refine kThen_ret ?_
    refine fnPost_ret [(bl true)] ⟨rfl, trivial⟩ ?_
    exact ⟨rfl, Mem.below w0 hm1⟩
  · -- false
    have hb3p := of_decide_eq_false hb3
    refine rw_gyq (s := 10) rfl rfl hb3 rfl (ev_move (v := vb) rfl) ?_
    refine rw_gyq (s := 10) rfl rfl hb3 rfl (ev_len_rd (Rd.ofRest hrb hm1) Tryd.underlying22 rfl) ?_
    refine rw_gyq (s := 10) rfl rfl hb3 rfl (ev_i64_gtr (b := 5000) rfl rfl) ?_
    refine rw_q rfl (ev_pick_fk rfl hb3 rfl) ?_
    refine rw_nil ?_
    refine kThen_normal ?_
    refine CW.abs (fun g => g 0 = va ∧ g 1 = vb ∧ g 4 = (bl false) ∧ g 6 = (bl false) ∧ g 14 = (bl (decide (5000 < (lb.length : Int)))) ∧ True) ⟨rfl, rfl, rfl, rfl, rfl, trivial⟩ ?_
    rintro fr5 ⟨s0, s1, s4, s6, s14, _⟩
    refine cw_cond s14 (fun hc6 => ?_) (fun hc6 => ?_)
    · -- true
      have hc6p := of_decide_eq_true hc6
      refine cw_seq ?_
      refine cw_region ?_
      refine rw_q rfl (ev_assign (v := (bl true)) rfl) ?_
      refine rw_nil ?_
      refine kThen_normal ?_
      refine cw_ret ?_
      refine kThen_ret ?_
      refine fnPost_ret [(bl true)] ⟨rfl, trivial⟩ ?_
      exact ⟨rfl, Mem.below w0 hm1⟩
    · -- false
      have hc6p := of_decide_eq_false hc6
      refine cw_skip ?_
      refine kThen_normal ?_
      refine cw_seq ?_
      refine cw_region ?_
      refine rw_q rfl (ev_move (v := vb) s1) ?_
      refine rw_c rfl (opR_call Tryd.func16 bd16 nm16 (args1 rfl) (c_hsum vb lb _ (hT.mono fun b o e => (hm1).rest b o e) (Rd.ofRest hrb hm1) (by first | omega | (simp only [List.length_set, List.length_append, List.length_replicate, List.length_map, List.length_cons, List.length_nil]; omega) | (simp; done) | (simp; omega) | decide))) ?_
      rintro _ w7 ⟨rfl, _ew7⟩
      have hm7 := hm1.ext _ew7
      refine rw_q rfl (ev_move (v := vb) s1) ?_
      refine rw_c rfl (opR_call Tryd.func15 bd15 nm15 (args1 rfl) (c_rsum vb lb _ (Rd.ofRest hrb hm7) (by first | omega | (simp only [List.length_set, List.length_append, List.length_replicate, List.length_map, List.length_cons, List.length_nil]; omega) | (simp; done) | (simp; omega) | decide))) ?_
      rintro _ w9 ⟨rfl, _ew9⟩
      have hm9 := hm7.ext _ew9
      refine rw_q rfl (ev_u8arr_eql (l := sumP lb) (m := sumP lb) Tryd.underlying28 Tryd.underlying5 ti5 Tryd.eqGuardType28 rfl rfl (by first | rfl | first | omega | (simp only [List.length_set, List.length_append, List.length_replicate, List.length_map, List.length_cons, List.length_nil]; omega) | (simp; done) | (simp; omega) | decide) (by first | rfl | first | omega | (simp only [List.length_set, List.length_append, List.length_replicate, List.length_map, List.length_cons, List.length_nil]; omega) | (simp; done) | (simp; omega) | decide)) ?_
      refine rw_q rfl (ev_move (v := (bl ((sumP lb) == (sumP lb)))) rfl) ?_
      have hd11 : ((sumP lb) == (sumP lb)) = true := told_true rfl
      refine rw_gyq (s := 20) rfl rfl hd11 rfl (ev_move (v := va) s0) ?_
      refine rw_gyq (s := 20) rfl rfl hd11 rfl (ev_move (v := vb) s1) ?_
      refine rw_gy (s := 20) rfl rfl hd11 rfl (or_buildSlice_ones [vb] (List.all_eq_true.1 (one_cons (Rd.one (Rd.ofRest hrb hm9)) one_nil)) hm9 Tryd.underlying35 ti22 rfl rfl rfl) ?_
      rintro _ w12 ⟨b23, rfl, _ew12, hm12⟩
      have hm12 : Mem w12 (restOf w0) [(b23, .cells #[vb] 22 (0, 0))] := hm12
      refine rw_gy (s := 20) rfl rfl hd11 rfl (opR_call Tryd.func17 bd17 nm17 (args2 rfl rfl) (c_hmac va la (slc b23 0 1 1) ([(vb, lb)]) _ (hT.mono fun b o e => (hm12).rest b o e) (Rd.ofRest hra hm12) (by first | omega | (simp only [List.length_set, List.length_append, List.length_replicate, List.length_map, List.length_cons, List.length_nil]; omega) | (simp; done) | (simp; omega) | decide) (Rd.mkA (f := Prod.fst) (l := [(vb, lb)]) hm12.h0) (allp_cons (Rd.ofRest hrb hm12) allp_nil) (by rw [joinL_one]; omega) (by first | omega | (simp only [List.length_set, List.length_append, List.length_replicate, List.length_map, List.length_cons, List.length_nil]; omega) | (simp; done) | (simp; omega) | decide))) ?_
      rintro _ w13 ⟨rfl, _ew13⟩
      have hm13 := hm12.ext _ew13
      refine rw_gyq (s := 20) rfl rfl hd11 rfl (ev_move (v := va) s0) ?_
      refine rw_gyq (s := 20) rfl rfl hd11 rfl (ev_move (v := vb) s1) ?_
      refine rw_gy (s := 20) rfl rfl hd11 rfl (opR_call Tryd.func18 bd18 nm18 (args2 rfl rfl) (c_rhmac va la vb lb _ (Rd.ofRest hra hm13) (by first | omega | (simp only [List.length_set, List.length_append, List.length_replicate, List.length_map, List.length_cons, List.length_nil]; omega) | (simp; done) | (simp; omega) | decide) (Rd.ofRest hrb hm13) (by first | omega | (simp only [List.length_set, List.length_append, List.length_replicate, List.length_map, List.length_cons, List.length_nil]; omega) | (simp; done) | (simp; omega) | decide))) ?_
      rintro _ w15 ⟨rfl, _ew15⟩
      have hm15 := hm13.ext _ew15
      refine rw_gyq (s := 20) rfl rfl hd11 rfl (ev_u8arr_eql (l := hmacP la (joinL ([(vb, lb)]))) (m := hmacP la lb) Tryd.underlying28 Tryd.underlying5 ti5 Tryd.eqGuardType28 rfl rfl (by first | rfl | first | omega | (simp only [List.length_set, List.length_append, List.length_replicate, List.length_map, List.length_cons, List.length_nil]; omega) | (simp; done) | (simp; omega) | decide) (by first | rfl | first | omega | (simp only [List.length_set, List.length_append, List.length_replicate, List.length_map, List.length_cons, List.length_nil]; omega) | (simp; done) | (simp; omega) | decide)) ?_
      refine rw_q rfl (ev_pick_tk rfl hd11 rfl) ?_
      refine rw_q rfl (ev_assign (v := (bl ((hmacP la (joinL ([(vb, lb)]))) == (hmacP la lb)))) rfl) ?_
      refine rw_nil ?_
      refine kThen_normal ?_
      have hm17 := Mem.drop ([(b23, .cells #[vb] 22 (0, 0))]) _ hm15
      refine CW.abs (fun g => g 0 = va ∧ g 1 = vb ∧ g 4 = (bl ((hmacP la (joinL ([(vb, lb)]))) == (hmacP la lb))) ∧ g 6 = (bl false) ∧ g 14 = (bl (decide (5000 < (lb.length : Int)))) ∧ True) ⟨s0, s1, rfl, s6, s14, trivial⟩ ?_
      rintro fr18 ⟨s0, s1, s4, s6, s14, _⟩
      refine cw_ret ?_
      refine fnPost_ret [(bl ((hmacP la (joinL ([(vb, lb)]))) == (hmacP la lb)))] ⟨s4, trivial⟩ ?_
      exact ⟨congrArg bl (told_true (by rw [joinL_one])), Mem.below w0 hm17⟩

theorem law_unlike (vb : Value) (lb : List (BitVec 8)) (at0 : Int) (turn : BitVec 8) (w0 : World)  (hT : Tabs (blks w0)) (hrb : Rd (blks w0) u8 vb lb) (hlb : lb.length ≤ 9223372036854775807) (hat : -9223372036854775808 ≤ at0 ∧ at0 ≤ 9223372036854775807) : CallsR Tryd.prog 3 #[vb, (i64 at0), (u8 turn)] w0 (fun r w1 => r = bl true ∧ RowKit.Below w0.heap.size w0 w1) := by
  refine callsR_of_cw (args := [vb, (i64 at0), (u8 turn)]) Tryd.func3 rfl Tryd.ntmps3 Tryd.results3 rfl ?_
  have hm0 : Mem w0 (restOf w0) [] := Mem.of_world w0
  refine cw_seq ?_
  refine cw_region ?_
  refine rw_q rfl (ev_assign (v := (bl false)) rfl) ?_
  refine rw_nil ?_
  refine kThen_normal ?_
  refine cw_seq ?_
  refine cw_seq ?_
  refine cw_region ?_
  refine rw_c rfl (opR_call Tryd.func11 bd11 nm11 (args0) (c_speaks01 _ (hT.mono fun b o e => (hm0).rest b o e))) ?_
  rintro _ w1 ⟨rfl, _ew1⟩
  have hm1 := hm0.ext _ew1
  refine rw_q (v := (bl false)) rfl (ev_not (b := true) rfl) ?_
  refine rw_nil ?_
  refine kThen_normal ?_
  refine cw_cond_f rfl (by decide) ?_
  refine cw_skip ?_
  refine kThen_normal ?_
  refine cw_seq ?_
  refine cw_seq ?_
  refine cw_region ?_
  refine rw_q rfl (ev_move (v := vb) rfl) ?_
  refine rw_q (v := (i64 (lb.length : Int))) rfl (ev_len_rd (Rd.ofRest hrb hm1) Tryd.underlying22 rfl) ?_
  refine rw_q rfl (ev_i64_gtr (b := 2000) rfl rfl) ?_
  refine rw_nil ?_
  refine kThen_normal ?_
  refine cw_cond rfl (fun hc3 => ?_) (fun hc3 => ?_)
  · -- true
    have hc3p := of_decide_eq_true hc3
    refine cw_seq ?_
    refine cw_region ?_
    refine rw_q rfl (ev_assign (v := (bl true)) rfl) ?_
    refine rw_nil ?_
    refine kThen_normal ?_
    refine cw_ret ?_
    refine kThen_ret ?_
    refine fnPost_ret [(bl true)] ⟨rfl, trivial⟩ ?_
    exact ⟨rfl, Mem.below w0 hm1⟩
  · -- false
    have hc3p := of_decide_eq_false hc3
    refine cw_skip ?_
    refine kThen_normal ?_
    refine cw_seq ?_
    refine cw_region ?_
    refine rw_c rfl (or_buildSlice_cl u8 [] u8_one hm1 Tryd.underlying22 ti5 rfl (by simp [pairs]) rfl) ?_
    rintro _ w4 ⟨b14, rfl, _ew4, hm4⟩
    refine rw_q rfl (ev_move (v := vb) rfl) ?_
    refine rw_c rfl (or_append (f := u8) (Hs := [(b14, .cells (cl u8 ([])) 5 (0, 0))]) (H := []) hm4 (Grow.of u8 5 b14 ([])) rfl rfl (Rd.ofRest hrb hm4) Tryd.underlying22 Tryd.underlying22 ti5 rfl u8_one (by first | omega | (simp only [List.length_set, List.length_append, List.length_replicate, List.length_map, List.length_cons, List.length_nil]; omega) | (simp; done) | (simp; omega) | decide) (by first | omega | (simp only [List.length_set, List.length_append, List.length_replicate, List.length_map, List.length_cons, List.length_nil]; omega) | (simp; done) | (simp; omega) | decide)) ?_
    rintro sv5 w5 ⟨Hs5, hm5, g5⟩
    replace g5 : Grow u8 5 sv5 lb Hs5 := g5
    refine rw_q rfl (ev_move (v := (u8 turn)) rfl) ?_
    refine rw_c rfl (or_buildSlice_cl u8 [turn] u8_one hm5 Tryd.underlying22 ti5 rfl rfl rfl) ?_
    rintro _ w6 ⟨b18, rfl, _ew6, hm6⟩
    refine rw_c rfl (or_append (f := u8) (Hs := Hs5) (H := [(b18, .cells (cl u8 ([turn])) 5 (0, 0))]) (Mem.pick [_] Hs5 _ hm6) g5 rfl rfl (Rd.mkA hm6.h0) Tryd.underlying22 Tryd.underlying22 ti5 rfl u8_one (by first | omega | (simp only [List.length_set, List.length_append, List.length_replicate, List.length_map, List.length_cons, List.length_nil]; omega) | (simp; done) | (simp; omega) | decide) (by first | omega | (simp only [List.length_set, List.length_append, List.length_replicate, List.length_map, List.length_cons, List.length_nil]; omega) | (simp; done) | (simp; omega) | decide)) ?_
    rintro sv7 w7 ⟨Hs7, hm7, g7⟩
    replace g7 : Grow u8 5 sv7 (lb ++ ([turn])) Hs7 := g7
    refine rw_q rfl (ev_assign (v := sv7) rfl) ?_
    refine rw_nil ?_
    refine kThen_normal ?_
    have hm8 := Mem.drop ([(b18, .cells (cl u8 ([turn])) 5 (0, 0))]) _ (Mem.pick Hs7 [_] _ hm7)
    refine CW.abs (fun g => g 0 = vb ∧ g 1 = (i64 at0) ∧ g 2 = (u8 turn) ∧ g 6 = (bl false) ∧ g 7 = sv7 ∧ g 10 = (bl false) ∧ g 13 = (bl (decide (2000 < (lb.length : Int)))) ∧ True) ⟨rfl, rfl, rfl, rfl, rfl, rfl, rfl, trivial⟩ ?_
    rintro fr9 ⟨s0, s1, s2, s6, s7, s10, s13, _⟩
    refine cw_seq ?_
    refine cw_region ?_
    refine rw_q rfl (ev_move (v := sv7) s7) ?_
    refine rw_q rfl (ev_move (v := (i64 at0)) s1) ?_
    obtain ⟨n10, hn10, hn10l⟩ : ∃ q : Nat, (((BitVec.ofInt 64 at0).toNat &&& (65535 : Int).toNat : Nat) : Int) = (q : Int) ∧ q ≤ 65535 := ⟨_, rfl, Nat.and_le_right⟩
    refine rw_q rfl (EvQ.cast (congrArg i64 hn10) (ev_i64_and (b := 65535) rfl rfl (by omega) (by omega))) ?_
    refine rw_q rfl (ev_move (v := sv7) s7) ?_
    refine rw_q (v := (i64 ((lb ++ ([turn])).length : Int))) rfl (ev_len_rd (g7.rd hm8) Tryd.underlying22 rfl) ?_
    obtain ⟨n11, hn11, hn11l⟩ : ∃ q : Nat, (n10 : Int) % ((lb ++ ([turn])).length : Int) = (q : Int) ∧ (q : Int) < ((lb ++ ([turn])).length : Int) := by
      have hpos : (0 : Int) < ((lb ++ ([turn])).length : Int) := by first | (simp; done) | (simp; omega) | omega
      have e1 := Int.emod_nonneg (n10 : Int) (b := ((lb ++ ([turn])).length : Int)) (by omega)
      have e2 := Int.emod_lt_of_pos (n10 : Int) hpos
      exact ⟨((n10 : Int) % ((lb ++ ([turn])).length : Int)).toNat, by omega, by omega⟩
    refine rw_q rfl (EvQ.cast (congrArg i64 hn11) (ev_i64_rem rfl rfl (by omega) (by first | (simp; done) | (simp; omega) | omega) (by omega))) ?_
    refine rw_q rfl (ev_indexAddr_rdv (g7.rd hm8) Tryd.underlying22 ti5 rfl rfl (by omega) (by first | omega | (simp only [List.length_set, List.length_append, List.length_replicate, List.length_map, List.length_cons, List.length_nil]; omega) | (simp; done) | (simp; omega) | decide)) ?_
    refine rw_q (v := (u8 ((lb ++ ([turn])).getD n11 0))) rfl (ev_load_rdD (l := lb ++ ([turn])) (i := (n11 : Int)) (dflt := 0) (g7.rd hm8) Tryd.underlying5 rfl (by omega) (by first | omega | (simp only [List.length_set, List.length_append, List.length_replicate, List.length_map, List.length_cons, List.length_nil]; omega) | (simp; done) | (simp; omega) | decide) rfl) ?_
    refine rw_q rfl (ev_move (v := (u8 turn)) s2) ?_
    refine rw_q rfl (ev_u8_xor rfl rfl) ?_
    refine rw_q rfl (ev_indexAddr_rdv (g7.rd hm8) Tryd.underlying22 ti5 rfl rfl (by omega) (by first | omega | (simp only [List.length_set, List.length_append, List.length_replicate, List.length_map, List.length_cons, List.length_nil]; omega) | (simp; done) | (simp; omega) | decide)) ?_
    refine rw_n (or_store_grow (Hs := Hs7) (H := []) (i := (n11 : Int)) (a := ((lb ++ ([turn])).getD n11 0) ^^^ turn) hm8 g7 u8_one ti5 (by omega) (by first | omega | (simp only [List.length_set, List.length_append, List.length_replicate, List.length_map, List.length_cons, List.length_nil]; omega) | (simp; done) | (simp; omega) | decide) rfl rfl) ?_
    rintro _ w12 ⟨Hs12, hm12, g12⟩
    replace g12 : Grow u8 5 sv7 ((lb ++ ([turn])).set n11 (((lb ++ ([turn])).getD n11 0) ^^^ turn)) Hs12 := g12
    refine rw_nil ?_
    refine kThen_normal ?_
    refine CW.abs (fun g => g 0 = vb ∧ g 1 = (i64 at0) ∧ g 2 = (u8 turn) ∧ g 6 = (bl false) ∧ g 7 = sv7 ∧ g 10 = (bl false) ∧ g 13 = (bl (decide (2000 < (lb.length : Int)))) ∧ True) ⟨s0, s1, s2, s6, s7, s10, s13, trivial⟩ ?_
    rintro fr13 ⟨s0, s1, s2, s6, s7, s10, s13, _⟩
    refine cw_seq ?_
    refine cw_region ?_
    refine rw_c rfl (opR_call Tryd.func12 bd12 nm12 (args0) (c_hnew _ (hT.mono fun b o e => (hm12).rest b o e))) ?_
    rintro _ w14 ⟨bq15, rfl, k_w14⟩
    have hm14 : Mem w14 (restOf w0) ([(bq15, .cells #[(u32 1779033703#32), (u32 3144134277#32), (u32 1013904242#32), (u32 2773480762#32), (u32 1359893119#32), (u32 2600822924#32), (u32 528734635#32), (u32 1541459225#32), (Value.slice none 0 0), (u64 0#64)] 57 (0, 0))] ++ (Hs12 ++ ([]))) := Mem.new (H := Hs12 ++ ([])) (H' := [(bq15, .cells #[(u32 1779033703#32), (u32 3144134277#32), (u32 1013904242#32), (u32 2773480762#32), (u32 1359893119#32), (u32 2600822924#32), (u32 528734635#32), (u32 1541459225#32), (Value.slice none 0 0), (u64 0#64)] 57 (0, 0))]) hm12 k_w14
    refine rw_q rfl (ev_assign (v := (ptr bq15 0)) rfl) ?_
    refine rw_nil ?_
    refine kThen_normal ?_
    refine cw_seq ?_
    refine cw_region ?_
    refine rw_q rfl (ev_move (v := (ptr bq15 0)) rfl) ?_
    refine rw_q rfl (ev_move (v := sv7) s7) ?_
    have hF17 : Mem w14 (restOf w0) (([(bq15, .cells #[(u32 1779033703#32), (u32 3144134277#32), (u32 1013904242#32), (u32 2773480762#32), (u32 1359893119#32), (u32 2600822924#32), (u32 528734635#32), (u32 1541459225#32), (Value.slice none 0 0), (u64 0#64)] 57 (0, 0))] ++ ([] ++ ([]))) ++ (Hs12 ++ ([]))) := by
      have hT := hm14
      simp only [List.append_assoc, List.cons_append, List.nil_append, List.append_nil] at hT ⊢
      exact hT
    refine rw_c rfl (opR_call Tryd.func13 bd13 nm13 (args2 rfl rfl) (c_write bq15 1779033703#32 3144134277#32 1013904242#32 2773480762#32 1359893119#32 2600822924#32 528734635#32 1541459225#32 (Value.slice none 0 0) ([]) ([]) 0#64 sv7 ((lb ++ ([turn])).set n11 (((lb ++ ([turn])).getD n11 0) ^^^ turn)) _ _ (Mem.give hF17) (hT.mono fun b o e => Mem.addRest hF17 e) (g12.rdAdd hF17 (fun p hp => (List.mem_append_left _ hp))) (Grow.none u8 5) (by first | omega | (simp only [List.length_set, List.length_append, List.length_replicate, List.length_map, List.length_cons, List.length_nil]; omega) | (simp; done) | (simp; omega) | decide))) ?_
    rintro _ w16 ⟨y0q18, y1q18, y2q18, y3q18, y4q18, y5q18, y6q18, y7q18, sv2q18, Hs2q18, hyq18, gl2q18, k_w16⟩
    have hm16 : Mem w16 (restOf w0) ([(bq15, .cells #[(u32 y0q18), (u32 y1q18), (u32 y2q18), (u32 y3q18), (u32 y4q18), (u32 y5q18), (u32 y6q18), (u32 y7q18), sv2q18, (u64 (0#64 + BitVec.ofInt 64 (((lb ++ ([turn])).set n11 (((lb ++ ([turn])).getD n11 0) ^^^ turn)).length : Int)))] 57 (0, 0))] ++ (Hs2q18 ++ (Hs12 ++ ([])))) := (by
      have hT := Mem.back hF17 k_w16
      simp only [List.append_assoc, List.cons_append, List.nil_append, List.append_nil] at hT ⊢
      exact hT)
    have hHw := Holds.new.write hyq18
    rw [List.nil_append] at hHw
    refine rw_nil ?_
    refine kThen_normal ?_
    refine cw_seq ?_
    refine cw_draw [(0, false), (1, false), (2, false), (3, false), (4, false), (5, false), (6, false), (7, false), (8, false), (9, false), (10, false), (11, false), (12, false), (13, false), (14, false), (15, false), (16, false), (17, false), (18, false), (19, false), (20, false), (21, false), (22, false)] 23 (by kernel_rfl) ?_
    refine dw_q rfl rfl (fun _ _hx => ev_move (v := (ptr bq15 0)) rfl) ?_
    refine dw_x (v := (agg u8 (digestP [y0q18, y1q18, y2q18, y3q18, y4q18, y5q18, y6q18, y7q18] ((([]) ++ ((lb ++ ([turn])).set n11 (((lb ++ ([turn])).getD n11 0) ^^^ turn))).drop (64 * ((([]) ++ ((lb ++ ([turn])).set n11 (((lb ++ ([turn])).getD n11 0) ^^^ turn))).length / 64))) (0#64 + BitVec.ofInt 64 (((lb ++ ([turn])).set n11 (((lb ++ ([turn])).getD n11 0) ^^^ turn)).length : Int))))) rfl rfl (fun w19 _ew19 => OpR.mono (opR_call Tryd.func14 bd14 nm14 (args1 rfl) (c_dsum bq15 y0q18 y1q18 y2q18 y3q18 y4q18 y5q18 y6q18 y7q18 sv2q18 ((([]) ++ ((lb ++ ([turn])).set n11 (((lb ++ ([turn])).getD n11 0) ^^^ turn))).drop (64 * ((([]) ++ ((lb ++ ([turn])).set n11 (((lb ++ ([turn])).getD n11 0) ^^^ turn))).length / 64))) (0#64 + BitVec.ofInt 64 (((lb ++ ([turn])).set n11 (((lb ++ ([turn])).getD n11 0) ^^^ turn)).length : Int)) _ (hT.mono fun b o e => ((hm16.ext _ew19)).rest b o e) (hm16.ext _ew19).h0 (gl2q18.rd (Mem.pick [_] Hs2q18 _ (hm16.ext _ew19))) (by first | omega | (simp only [List.length_set, List.length_append, List.length_replicate, List.length_map, List.length_cons, List.length_nil]; omega) | (simp; done) | (simp; omega) | decide))) (by rintro _ w20 ⟨rfl, _ew20⟩; exact ⟨rfl, _ew20⟩)) ?_
    refine dw_q rfl rfl (fun _ _hx => ev_move (v := sv7) s7) ?_
    refine dw_x (v := (agg u8 (sumP ((lb ++ ([turn])).set n11 (((lb ++ ([turn])).getD n11 0) ^^^ turn))))) rfl rfl (fun w22 _ew22 => OpR.mono (opR_call Tryd.func15 bd15 nm15 (args1 rfl) (c_rsum sv7 ((lb ++ ([turn])).set n11 (((lb ++ ([turn])).getD n11 0) ^^^ turn)) _ (g12.rd (Mem.pick2 [_] Hs2q18 Hs12 _ (hm16.ext _ew22))) (by first | omega | (simp only [List.length_set, List.length_append, List.length_replicate, List.length_map, List.length_cons, List.length_nil]; omega) | (simp; done) | (simp; omega) | decide))) (by rintro _ w23 ⟨rfl, _ew23⟩; exact ⟨rfl, _ew23⟩)) ?_
    refine dw_q rfl rfl (fun _ _hx => ev_u8arr_eql (l := digestP [y0q18, y1q18, y2q18, y3q18, y4q18, y5q18, y6q18, y7q18] ((([]) ++ ((lb ++ ([turn])).set n11 (((lb ++ ([turn])).getD n11 0) ^^^ turn))).drop (64 * ((([]) ++ ((lb ++ ([turn])).set n11 (((lb ++ ([turn])).getD n11 0) ^^^ turn))).length / 64))) (0#64 + BitVec.ofInt 64 (((lb ++ ([turn])).set n11 (((lb ++ ([turn])).getD n11 0) ^^^ turn)).length : Int))) (m := sumP ((lb ++ ([turn])).set n11 (((lb ++ ([turn])).getD n11 0) ^^^ turn))) Tryd.underlying28 Tryd.underlying5 ti5 Tryd.eqGuardType28 rfl rfl (by first | rfl | first | omega | (simp only [List.length_set, List.length_append, List.length_replicate, List.length_map, List.length_cons, List.length_nil]; omega) | (simp; done) | (simp; omega) | decide) (by first | rfl | first | omega | (simp only [List.length_set, List.length_append, List.length_replicate, List.length_map, List.length_cons, List.length_nil]; omega) | (simp; done) | (simp; omega) | decide)) ?_
    refine dw_q rfl rfl (fun _ _hx => ev_move rfl) ?_
    have hd25 : ((digestP [y0q18, y1q18, y2q18, y3q18, y4q18, y5q18, y6q18, y7q18] ((([]) ++ ((lb ++ ([turn])).set n11 (((lb ++ ([turn])).getD n11 0) ^^^ turn))).drop (64 * ((([]) ++ ((lb ++ ([turn])).set n11 (((lb ++ ([turn])).getD n11 0) ^^^ turn))).length / 64))) (0#64 + BitVec.ofInt 64 (((lb ++ ([turn])).set n11 (((lb ++ ([turn])).getD n11 0) ^^^ turn)).length : Int))) == (sumP ((lb ++ ([turn])).set n11 (((lb ++ ([turn])).getD n11 0) ^^^ turn)))) = true := told_true (Holds.sum hHw)
    refine dw_gqy (s := 40) rfl rfl rfl hd25 rfl (fun _ _hx => ev_move (v := sv7) s7) ?_
    refine dw_gxy (s := 40) (v := (agg u8 (sumP ((lb ++ ([turn])).set n11 (((lb ++ ([turn])).getD n11 0) ^^^ turn))))) rfl rfl rfl hd25 rfl (fun w26 _ew26 => OpR.mono (opR_call Tryd.func16 bd16 nm16 (args1 rfl) (c_hsum sv7 ((lb ++ ([turn])).set n11 (((lb ++ ([turn])).getD n11 0) ^^^ turn)) _ (hT.mono fun b o e => ((hm16.ext _ew26)).rest b o e) (g12.rd (Mem.pick2 [_] Hs2q18 Hs12 _ (hm16.ext _ew26))) (by first | omega | (simp only [List.length_set, List.length_append, List.length_replicate, List.length_map, List.length_cons, List.length_nil]; omega) | (simp; done) | (simp; omega) | decide))) (by rintro _ w27 ⟨rfl, _ew27⟩; exact ⟨rfl, _ew27⟩)) ?_
    refine dw_gqy (s := 40) rfl rfl rfl hd25 rfl (fun _ _hx => ev_move (v := sv7) s7) ?_
    refine dw_gxy (s := 40) (v := (agg u8 (sumP ((lb ++ ([turn])).set n11 (((lb ++ ([turn])).getD n11 0) ^^^ turn))))) rfl rfl rfl hd25 rfl (fun w29 _ew29 => OpR.mono (opR_call Tryd.func15 bd15 nm15 (args1 rfl) (c_rsum sv7 ((lb ++ ([turn])).set n11 (((lb ++ ([turn])).getD n11 0) ^^^ turn)) _ (g12.rd (Mem.pick2 [_] Hs2q18 Hs12 _ (hm16.ext _ew29))) (by first | omega | (simp only [List.length_set, List.length_append, List.length_replicate, List.length_map, List.length_cons, List.length_nil]; omega) | (simp; done) | (simp; omega) | decide))) (by rintro _ w30 ⟨rfl, _ew30⟩; exact ⟨rfl, _ew30⟩)) ?_
    refine dw_gqy (s := 40) rfl rfl rfl hd25 rfl (fun _ _hx => ev_u8arr_eql (l := sumP ((lb ++ ([turn])).set n11 (((lb ++ ([turn])).getD n11 0) ^^^ turn))) (m := sumP ((lb ++ ([turn])).set n11 (((lb ++ ([turn])).getD n11 0) ^^^ turn))) Tryd.underlying28 Tryd.underlying5 ti5 Tryd.eqGuardType28 rfl rfl (by first | rfl | first | omega | (simp only [List.length_set, List.length_append, List.length_replicate, List.length_map, List.length_cons, List.length_nil]; omega) | (simp; done) | (simp; omega) | decide) (by first | rfl | first | omega | (simp only [List.length_set, List.length_append, List.length_replicate, List.length_map, List.length_cons, List.length_nil]; omega) | (simp; done) | (simp; omega) | decide)) ?_
    refine dw_q rfl rfl (fun _ _hx => ev_pick_tk rfl hd25 rfl) ?_
    refine dw_q rfl rfl (fun _ _hx => ev_move rfl) ?_
    have hd32 : ((sumP ((lb ++ ([turn])).set n11 (((lb ++ ([turn])).getD n11 0) ^^^ turn))) == (sumP ((lb ++ ([turn])).set n11 (((lb ++ ([turn])).getD n11 0) ^^^ turn)))) = true := told_true rfl
    refine dw_gqy (s := 47) rfl rfl rfl hd32 rfl (fun _ _hx => ev_move (v := vb) s0) ?_
    refine dw_gxy (s := 47) (v := (agg u8 (sumP lb))) rfl rfl rfl hd32 rfl (fun w33 _ew33 => OpR.mono (opR_call Tryd.func16 bd16 nm16 (args1 rfl) (c_hsum vb lb _ (hT.mono fun b o e => ((hm16.ext _ew33)).rest b o e) (Rd.ofRest hrb (hm16.ext _ew33)) (by first | omega | (simp only [List.length_set, List.length_append, List.length_replicate, List.length_map, List.length_cons, List.length_nil]; omega) | (simp; done) | (simp; omega) | decide))) (by rintro _ w34 ⟨rfl, _ew34⟩; exact ⟨rfl, _ew34⟩)) ?_
    refine dw_gqy (s := 47) rfl rfl rfl hd32 rfl (fun _ _hx => ev_move (v := sv7) s7) ?_
    refine dw_gxy (s := 47) (v := (agg u8 (sumP ((lb ++ ([turn])).set n11 (((lb ++ ([turn])).getD n11 0) ^^^ turn))))) rfl rfl rfl hd32 rfl (fun w36 _ew36 => OpR.mono (opR_call Tryd.func16 bd16 nm16 (args1 rfl) (c_hsum sv7 ((lb ++ ([turn])).set n11 (((lb ++ ([turn])).getD n11 0) ^^^ turn)) _ (hT.mono fun b o e => ((hm16.ext _ew36)).rest b o e) (g12.rd (Mem.pick2 [_] Hs2q18 Hs12 _ (hm16.ext _ew36))) (by first | omega | (simp only [List.length_set, List.length_append, List.length_replicate, List.length_map, List.length_cons, List.length_nil]; omega) | (simp; done) | (simp; omega) | decide))) (by rintro _ w37 ⟨rfl, _ew37⟩; exact ⟨rfl, _ew37⟩)) ?_
    refine dw_gqy (s := 47) rfl rfl rfl hd32 rfl (fun _ _hx => ev_u8arr_eql (l := sumP lb) (m := sumP ((lb ++ ([turn])).set n11 (((lb ++ ([turn])).getD n11 0) ^^^ turn))) Tryd.underlying28 Tryd.underlying5 ti5 Tryd.eqGuardType28 rfl rfl (by first | rfl | first | omega | (simp only [List.length_set, List.length_append, List.length_replicate, List.length_map, List.length_cons, List.length_nil]; omega) | (simp; done) | (simp; omega) | decide) (by first | rfl | first | omega | (simp only [List.length_set, List.length_append, List.length_replicate, List.length_map, List.length_cons, List.length_nil]; omega) | (simp; done) | (simp; omega) | decide)) ?_
    refine dw_gqy (s := 47) rfl rfl rfl hd32 rfl (fun _ _hx => ev_move (v := vb) s0) ?_
    refine dw_gxy (s := 47) (v := (agg u8 (sumP lb))) rfl rfl rfl hd32 rfl (fun w39 _ew39 => OpR.mono (opR_call Tryd.func15 bd15 nm15 (args1 rfl) (c_rsum vb lb _ (Rd.ofRest hrb (hm16.ext _ew39)) (by first | omega | (simp only [List.length_set, List.length_append, List.length_replicate, List.length_map, List.length_cons, List.length_nil]; omega) | (simp; done) | (simp; omega) | decide))) (by rintro _ w40 ⟨rfl, _ew40⟩; exact ⟨rfl, _ew40⟩)) ?_
    refine dw_gqy (s := 47) rfl rfl rfl hd32 rfl (fun _ _hx => ev_move (v := sv7) s7) ?_
    refine dw_gxy (s := 47) (v := (agg u8 (sumP ((lb ++ ([turn])).set n11 (((lb ++ ([turn])).getD n11 0) ^^^ turn))))) rfl rfl rfl hd32 rfl (fun w42 _ew42 => OpR.mono (opR_call Tryd.func15 bd15 nm15 (args1 rfl) (c_rsum sv7 ((lb ++ ([turn])).set n11 (((lb ++ ([turn])).getD n11 0) ^^^ turn)) _ (g12.rd (Mem.pick2 [_] Hs2q18 Hs12 _ (hm16.ext _ew42))) (by first | omega | (simp only [List.length_set, List.length_append, List.length_replicate, List.length_map, List.length_cons, List.length_nil]; omega) | (simp; done) | (simp; omega) | decide))) (by rintro _ w43 ⟨rfl, _ew43⟩; exact ⟨rfl, _ew43⟩)) ?_
    refine dw_gqy (s := 47) rfl rfl rfl hd32 rfl (fun _ _hx => ev_u8arr_eql (l := sumP lb) (m := sumP ((lb ++ ([turn])).set n11 (((lb ++ ([turn])).getD n11 0) ^^^ turn))) Tryd.underlying28 Tryd.underlying5 ti5 Tryd.eqGuardType28 rfl rfl (by first | rfl | first | omega | (simp only [List.length_set, List.length_append, List.length_replicate, List.length_map, List.length_cons, List.length_nil]; omega) | (simp; done) | (simp; omega) | decide) (by first | rfl | first | omega | (simp only [List.length_set, List.length_append, List.length_replicate, List.length_map, List.length_cons, List.length_nil]; omega) | (simp; done) | (simp; omega) | decide)) ?_
    refine dw_nil (fun w45 _ew45 => ?_)
    have hm45 := hm16.ext _ew45
    refine rw_gyq (s := 47) rfl rfl hd32 rfl (ev_bool_eql Tryd.underlying4 rfl rfl) ?_
    refine rw_q rfl (ev_pick_tk rfl hd32 rfl) ?_
    refine rw_q rfl (ev_assign rfl) ?_
    refine rw_nil ?_
    refine kThen_normal ?_
    refine CW.abs (fun g => g 0 = vb ∧ g 1 = (i64 at0) ∧ g 2 = (u8 turn) ∧ g 6 = (bl (((sumP lb) == (sumP ((lb ++ ([turn])).set n11 (((lb ++ ([turn])).getD n11 0) ^^^ turn)))) == ((sumP lb) == (sumP ((lb ++ ([turn])).set n11 (((lb ++ ([turn])).getD n11 0) ^^^ turn)))))) ∧ g 7 = sv7 ∧ g 8 = (ptr bq15 0) ∧ g 10 = (bl false) ∧ g 13 = (bl (decide (2000 < (lb.length : Int)))) ∧ True) ⟨s0, s1, s2, rfl, s7, rfl, s10, s13, trivial⟩ ?_
    rintro fr46 ⟨s0, s1, s2, s6, s7, s8, s10, s13, _⟩
    refine cw_ret ?_
    refine fnPost_ret [(bl (((sumP lb) == (sumP ((lb ++ ([turn])).set n11 (((lb ++ ([turn])).getD n11 0) ^^^ turn)))) == ((sumP lb) == (sumP ((lb ++ ([turn])).set n11 (((lb ++ ([turn])).getD n11 0) ^^^ turn))))))] ⟨s6, trivial⟩ ?_
    exact ⟨congrArg bl (told_true rfl), Mem.below w0 hm45⟩


end Go.Proofs.YtehkomhnmipnbaaDoor
