/- The laws of kdf: their walks. Conditions: none beyond those that each theorem states. -/
import Derived.Test.YtehkomhnmipnbaaDoorKd3
import Derived.Test.YtehkomhnmipnbaaDoorFwL
namespace Go.Proofs.YtehkomhnmipnbaaDoor
set_option linter.unusedVariables false
set_option linter.unusedSimpArgs false

theorem badN_ok {n : Int} (h0 : 0 ≤ n) (h1 : n ≤ 8160) : badN n = false := by unfold badN; simp; omega
theorem badN_bad {n : Int} (h : n < 0 ∨ 8160 < n) : badN n = true := by unfold badN; simp; omega
theorem errP_ok {n : Int} (h0 : 0 ≤ n) (h1 : n ≤ 8160) : errP n = 0 := by unfold errP; rw [badN_ok h0 h1]; rfl
theorem errP_bad {n : Int} (h : n < 0 ∨ 8160 < n) : errP n = 2 := by unfold errP; rw [badN_bad h]; rfl
theorem expandQ_ok {key info : List (BitVec 8)} {n : Int} (h0 : 0 ≤ n) (h1 : n ≤ 8160) : expandQ key info n = expandP key info n.toNat := by unfold expandQ; rw [badN_ok h0 h1]; rfl
theorem expandQ_bad {key info : List (BitVec 8)} {n : Int} (h : n < 0 ∨ 8160 < n) : ((expandQ key info n).length : Int) = 0 := by unfold expandQ; rw [badN_bad h]; rfl
theorem expandQ_len {key info : List (BitVec 8)} {n : Int} (h0 : 0 ≤ n) (h1 : n ≤ 8160) : ((expandQ key info n).length : Int) = n := by rw [expandQ_ok h0 h1, expandP_length]; omega
theorem outK_prefix (key info : List (BitVec 8)) : ∀ (b a : Nat), a ≤ b → (outK key info b).take (32 * a) = outK key info a := by
  intro b
  induction b with
  | zero => intro a h; have : a = 0 := by omega
            subst this; rfl
  | succ b ih =>
    intro a h
    rcases Nat.lt_or_ge b a with h1 | h1
    · have : a = b + 1 := by omega
      subst this; rw [List.take_of_length_le (by rw [outK_len]; omega)]
    · rw [outK_succ, List.take_append_of_le_length (by rw [outK_len]; omega)]; exact ih a h1
theorem expand_front {key info : List (BitVec 8)} {n m : Nat} (h : n ≤ m) : (expandP key info m).take n = expandP key info n := by
  unfold expandP
  rw [List.take_take, Nat.min_eq_left h, ← outK_prefix key info ((m + 31) / 32) ((n + 31) / 32) (by omega), List.take_take, Nat.min_eq_left (by omega)]
theorem manyK_ok {n : Int} (h0 : 0 ≤ n) (h1 : n ≤ 255) : manyK n = n.toNat := by unfold manyK badK; rw [if_neg (by simp; omega)]
theorem errK_ok {n : Int} (h0 : 0 ≤ n) (h1 : n ≤ 255) : errK n = 0 := by unfold errK badK; rw [if_neg (by simp; omega)]
theorem errK_bad {n : Int} (h : n < 0 ∨ 255 < n) : errK n = 2 := by unfold errK badK; rw [if_pos (by simp; omega)]
theorem keysQ_ok {a b p : List (BitVec 8)} {n : Int} (h0 : 0 ≤ n) (h1 : n ≤ 255) : keysQ a b p n = chunksP n.toNat (expandP (extractP a b) p (32 * n.toNat)) := by unfold keysQ; rw [manyK_ok h0 h1]
theorem keysQ_len {a b p : List (BitVec 8)} {n : Int} (h0 : 0 ≤ n) (h1 : n ≤ 255) : ((keysQ a b p n).length : Int) = n := by rw [keysQ_ok h0 h1, chunksP_length]; omega
theorem keysQ_bad {a b p : List (BitVec 8)} {n : Int} (h : n < 0 ∨ 255 < n) : ((keysQ a b p n).length : Int) = 0 := by
  unfold keysQ manyK badK; rw [if_pos (by simp; omega)]; rfl
theorem chunk_len {m k : Nat} {L : List (BitVec 8)} (h : k < m) (hL : L.length = 32 * m) : ((chunksP m L).getD k []).length = 32 := by
  unfold chunksP
  simp [List.getD_eq_getElem?_getD, h]; omega
attribute [local irreducible] hmacP tK outK expandP extractP keysQ expandQ errK errP chunksP

set_option maxHeartbeats 1000000 in
theorem law_kfront (key : List (BitVec 8)) (vi : Value) (info : List (BitVec 8)) (n m : Int) (w0 : World)  (hT : Tabs (blks w0)) (hk : key.length = 32) (hri : Rd (blks w0) u8 vi info) (hlhri : info.length ≤ 9223372036854775807) (hrn : -9223372036854775808 ≤ n ∧ n ≤ 9223372036854775807) (hrm : -9223372036854775808 ≤ m ∧ m ≤ 9223372036854775807) : CallsR Tryd.prog 8 #[(agg u8 key), vi, (i64 n), (i64 m)] w0 (fun r w1 => r = bl true ∧ RowKit.Below w0.heap.size w0 w1) := by
  refine callsR_of_cw (args := [(agg u8 key), vi, (i64 n), (i64 m)]) Tryd.func8 rfl Tryd.ntmps8 Tryd.results8 rfl ?_
  have hm0 : Mem w0 (restOf w0) [] := Mem.of_world w0
  refine cw_seq ?_
  refine cw_region ?_
  refine rw_c rfl (or_box_agg (f := u8) (l := key) hm0 rfl) ?_
  rintro _ w1 ⟨b4, rfl, _ew1, hm1⟩
  refine rw_q rfl (ev_assign (v := (bl false)) rfl) ?_
  refine rw_nil ?_
  refine kThen_normal ?_
  refine cw_seq ?_
  refine cw_seq ?_
  refine cw_region ?_
  refine rw_c rfl (opR_call Tryd.func20 bd20 nm20 (args0) (c_speaks02 _ (hT.mono fun b o e => (hm1).rest b o e))) ?_
  rintro _ w2 ⟨rfl, _ew2⟩
  have hm2 := hm1.ext _ew2
  refine rw_q (v := (bl false)) rfl (ev_not (b := true) rfl) ?_
  refine rw_nil ?_
  refine kThen_normal ?_
  refine cw_cond_f rfl (by decide) ?_
  refine cw_skip ?_
  refine kThen_normal ?_
  refine cw_seq ?_
  refine cw_seq ?_
  refine cw_region ?_
  refine rw_q rfl (ev_move (v := (i64 n)) rfl) ?_
  refine rw_q rfl (ev_i64_lss (b := 0) rfl rfl) ?_
  refine rw_q rfl (ev_move (v := (bl (decide (n < 0)))) rfl) ?_
  rcases Bool.eq_false_or_eq_true (decide (n < 0)) with hb4 | hb4
  · -- true
    have hb4p := of_decide_eq_true hb4
    refine rw_gn (s := 17) rfl rfl hb4 rfl ?_
    refine rw_gn (s := 17) rfl rfl hb4 rfl ?_
    refine rw_gn (s := 17) rfl rfl hb4 rfl ?_
    refine rw_q rfl (ev_pick_tk rfl hb4 rfl) ?_
    refine rw_q rfl (ev_move (v := (bl true)) rfl) ?_
    refine rw_gn (s := 22) rfl rfl rfl rfl ?_
    refine rw_gn (s := 22) rfl rfl rfl rfl ?_
    refine rw_q rfl (ev_pick_t rfl rfl) ?_
    refine rw_q rfl (ev_move (v := (bl true)) rfl) ?_
    refine rw_gn (s := 26) rfl rfl rfl rfl ?_
    refine rw_gn (s := 26) rfl rfl rfl rfl ?_
    refine rw_gn (s := 26) rfl rfl rfl rfl ?_
    refine rw_q rfl (ev_pick_t rfl rfl) ?_
    refine rw_nil ?_
    refine kThen_normal ?_
    refine CW.abs (fun g => g 0 = (agg u8 key) ∧ g 1 = vi ∧ g 2 = (i64 n) ∧ g 3 = (i64 m) ∧ g 4 = (ptr b4 0) ∧ g 8 = (bl false) ∧ g 14 = (bl false) ∧ g 30 = (bl true) ∧ True) ⟨rfl, rfl, rfl, rfl, rfl, rfl, rfl, rfl, trivial⟩ ?_
    rintro fr5 ⟨s0, s1, s2, s3, s4, s8, s14, s30, _⟩
    refine cw_cond_t s30 (by decide) ?_
    refine cw_seq ?_
    refine cw_region ?_
    refine rw_q rfl (ev_assign (v := (bl true)) rfl) ?_
    refine rw_nil ?_
    refine kThen_normal ?_
    refine cw_ret ?_
    refine kThen_ret ?_
    refine fnPost_ret [(bl true)] ⟨rfl, trivial⟩ ?_
    exact ⟨rfl, Mem.below w0 hm2⟩
  · -- false
    have hb4p := of_decide_eq_false hb4
    refine rw_gyq (s := 17) rfl rfl hb4 rfl (ev_move (v := (i64 m)) rfl) ?_
    refine rw_gyq (s := 17) rfl rfl hb4 rfl (ev_move (v := (i64 n)) rfl) ?_
    refine rw_gyq (s := 17) rfl rfl hb4 rfl (ev_i64_lss rfl rfl) ?_
    refine rw_q rfl (ev_pick_fk rfl hb4 rfl) ?_
    refine rw_q rfl (ev_move (v := (bl (decide (m < n)))) rfl) ?_
    rcases Bool.eq_false_or_eq_true (decide (m < n)) with hb6 | hb6
    · -- true
      have hb6p := of_decide_eq_true hb6
      refine rw_gn (s := 22) rfl rfl hb6 rfl ?_
      refine rw_gn (s := 22) rfl rfl hb6 rfl ?_
      refine rw_q rfl (ev_pick_tk rfl hb6 rfl) ?_
      refine rw_q rfl (ev_move (v := (bl true)) rfl) ?_
      refine rw_gn (s := 26) rfl rfl rfl rfl ?_
      refine rw_gn (s := 26) rfl rfl rfl rfl ?_
      refine rw_gn (s := 26) rfl rfl rfl rfl ?_
      refine rw_q rfl (ev_pick_t rfl rfl) ?_
      refine rw_nil ?_
      refine kThen_normal ?_
      refine CW.abs (fun g => g 0 = (agg u8 key) ∧ g 1 = vi ∧ g 2 = (i64 n) ∧ g 3 = (i64 m) ∧ g 4 = (ptr b4 0) ∧ g 8 = (bl false) ∧ g 14 = (bl false) ∧ g 30 = (bl true) ∧ True) ⟨rfl, rfl, rfl, rfl, rfl, rfl, rfl, rfl, trivial⟩ ?_
      rintro fr7 ⟨s0, s1, s2, s3, s4, s8, s14, s30, _⟩
      refine cw_cond_t s30 (by decide) ?_
      refine cw_seq ?_
      refine cw_region ?_
      refine rw_q rfl (ev_assign (v := (bl true)) rfl) ?_
      refine rw_nil ?_
      refine kThen_normal ?_
      refine cw_ret ?_
      refine kThen_ret ?_
      refine fnPost_ret [(bl true)] ⟨rfl, trivial⟩ ?_
      exact ⟨rfl, Mem.below w0 hm2⟩
    · -- false
      have hb6p := of_decide_eq_false hb6
      refine rw_gyq (s := 22) rfl rfl hb6 rfl (ev_move (v := (i64 m)) rfl) ?_
      refine rw_gyq (s := 22) rfl rfl hb6 rfl (ev_i64_gtr (b := 8160) rfl rfl) ?_
      refine rw_q rfl (ev_pick_fk rfl hb6 rfl) ?_
      refine rw_q rfl (ev_move (v := (bl (decide (8160 < m)))) rfl) ?_
      rcases Bool.eq_false_or_eq_true (decide (8160 < m)) with hb8 | hb8
      · -- true
        have hb8p := of_decide_eq_true hb8
        refine rw_gn (s := 26) rfl rfl hb8 rfl ?_
        refine rw_gn (s := 26) rfl rfl hb8 rfl ?_
        refine rw_gn (s := 26) rfl rfl hb8 rfl ?_
        refine rw_q rfl (ev_pick_tk rfl hb8 rfl) ?_
        refine rw_nil ?_
        refine kThen_normal ?_
        refine CW.abs (fun g => g 0 = (agg u8 key) ∧ g 1 = vi ∧ g 2 = (i64 n) ∧ g 3 = (i64 m) ∧ g 4 = (ptr b4 0) ∧ g 8 = (bl false) ∧ g 14 = (bl false) ∧ g 30 = (bl true) ∧ True) ⟨rfl, rfl, rfl, rfl, rfl, rfl, rfl, rfl, trivial⟩ ?_
        rintro fr9 ⟨s0, s1, s2, s3, s4, s8, s14, s30, _⟩
        refine cw_cond_t s30 (by decide) ?_
        refine cw_seq ?_
        refine cw_region ?_
        refine rw_q rfl (ev_assign (v := (bl true)) rfl) ?_
        refine rw_nil ?_
        refine kThen_normal ?_
        refine cw_ret ?_
        refine kThen_ret ?_
        refine fnPost_ret [(bl true)] ⟨rfl, trivial⟩ ?_
        exact ⟨rfl, Mem.below w0 hm2⟩
      · -- false
        have hb8p := of_decide_eq_false hb8
        refine rw_gyq (s := 26) rfl rfl hb8 rfl (ev_move (v := vi) rfl) ?_
        refine rw_gyq (s := 26) rfl rfl hb8 rfl (ev_len_rd (Rd.ofRest hri hm2) Tryd.underlying22 rfl) ?_
        refine rw_gyq (s := 26) rfl rfl hb8 rfl (ev_i64_gtr (b := 200) rfl rfl) ?_
        refine rw_q rfl (ev_pick_fk rfl hb8 rfl) ?_
        refine rw_nil ?_
        refine kThen_normal ?_
        refine CW.abs (fun g => g 0 = (agg u8 key) ∧ g 1 = vi ∧ g 2 = (i64 n) ∧ g 3 = (i64 m) ∧ g 4 = (ptr b4 0) ∧ g 8 = (bl false) ∧ g 14 = (bl false) ∧ g 30 = (bl (decide (200 < (info.length : Int)))) ∧ True) ⟨rfl, rfl, rfl, rfl, rfl, rfl, rfl, rfl, trivial⟩ ?_
        rintro fr10 ⟨s0, s1, s2, s3, s4, s8, s14, s30, _⟩
        refine cw_cond s30 (fun hc11 => ?_) (fun hc11 => ?_)
        · -- true
          have hc11p := of_decide_eq_true hc11
          refine cw_seq ?_
          refine cw_region ?_
          refine rw_q rfl (ev_assign (v := (bl true)) rfl) ?_
          refine rw_nil ?_
          refine kThen_normal ?_
          refine cw_ret ?_
          refine kThen_ret ?_
          refine fnPost_ret [(bl true)] ⟨rfl, trivial⟩ ?_
          exact ⟨rfl, Mem.below w0 hm2⟩
        · -- false
          have hc11p := of_decide_eq_false hc11
          refine cw_skip ?_
          refine kThen_normal ?_
          refine cw_seq ?_
          refine cw_region ?_
          refine rw_q (v := (agg u8 key)) rfl (ev_loadA Tryd.underlying28 rfl ti28 s4 hm2.h0 (by rw [size_cl]; first | omega | (simp only [List.length_set, List.length_append, List.length_replicate, List.length_map, List.length_cons, List.length_nil]; omega) | (simp; done) | (simp; omega) | decide)) ?_
          refine rw_q rfl (ev_move (v := vi) s1) ?_
          refine rw_q rfl (ev_move (v := (i64 n)) s2) ?_
          refine rw_c rfl (opR_call Tryd.func21 bd21 nm21 (args3 rfl rfl rfl) (c_expand key vi info n _ (hT.mono fun b o e => (hm2).rest b o e) (by first | omega | (simp only [List.length_set, List.length_append, List.length_replicate, List.length_map, List.length_cons, List.length_nil]; omega) | (simp; done) | (simp; omega) | decide) (Rd.ofRest hri hm2) (by first | omega | (simp only [List.length_set, List.length_append, List.length_replicate, List.length_map, List.length_cons, List.length_nil]; omega) | (simp; done) | (simp; omega) | decide))) ?_
          rintro _ w12 ⟨vxq13, Hsq13, rfl, gvxq13, k_w12⟩
          have hm12 : Mem w12 (restOf w0) (Hsq13 ++ ([(b4, .cells (cl u8 key) 28 (0, 0))])) := Mem.new (H := [(b4, .cells (cl u8 key) 28 (0, 0))]) (H' := Hsq13) hm2 k_w12
          refine rw_q rfl (ev_move (v := (Value.tuple #[vxq13, (i64 (errP n))])) rfl) ?_
          refine rw_q (v := vxq13) rfl (ev_extract rfl rfl) ?_
          refine rw_q (v := (i64 (errP n))) rfl (ev_extract rfl rfl) ?_
          refine rw_q rfl (ev_assign (v := vxq13) rfl) ?_
          refine rw_q rfl (ev_assign (v := (i64 (errP n))) rfl) ?_
          refine rw_nil ?_
          refine kThen_normal ?_
          refine cw_seq ?_
          refine cw_region ?_
          refine rw_q (v := (agg u8 key)) rfl (ev_loadA Tryd.underlying28 rfl ti28 s4 ((Mem.pick Hsq13 [_] _ hm12)).h0 (by rw [size_cl]; first | omega | (simp only [List.length_set, List.length_append, List.length_replicate, List.length_map, List.length_cons, List.length_nil]; omega) | (simp; done) | (simp; omega) | decide)) ?_
          refine rw_q rfl (ev_move (v := vi) s1) ?_
          refine rw_q rfl (ev_move (v := (i64 m)) s3) ?_
          refine rw_c rfl (opR_call Tryd.func21 bd21 nm21 (args3 rfl rfl rfl) (c_expand key vi info m _ (hT.mono fun b o e => (hm12).rest b o e) (by first | omega | (simp only [List.length_set, List.length_append, List.length_replicate, List.length_map, List.length_cons, List.length_nil]; omega) | (simp; done) | (simp; omega) | decide) (Rd.ofRest hri hm12) (by first | omega | (simp only [List.length_set, List.length_append, List.length_replicate, List.length_map, List.length_cons, List.length_nil]; omega) | (simp; done) | (simp; omega) | decide))) ?_
          rintro _ w14 ⟨vxq15, Hsq15, rfl, gvxq15, k_w14⟩
          have hm14 : Mem w14 (restOf w0) (Hsq15 ++ (Hsq13 ++ ([(b4, .cells (cl u8 key) 28 (0, 0))]))) := Mem.new (H := Hsq13 ++ ([(b4, .cells (cl u8 key) 28 (0, 0))])) (H' := Hsq15) hm12 k_w14
          refine rw_q rfl (ev_move (v := (Value.tuple #[vxq15, (i64 (errP m))])) rfl) ?_
          refine rw_q (v := vxq15) rfl (ev_extract rfl rfl) ?_
          refine rw_q (v := (i64 (errP m))) rfl (ev_extract rfl rfl) ?_
          refine rw_q rfl (ev_assign (v := vxq15) rfl) ?_
          refine rw_q rfl (ev_assign (v := (i64 (errP m))) rfl) ?_
          refine rw_nil ?_
          refine kThen_normal ?_
          refine CW.abs (fun g => g 0 = (agg u8 key) ∧ g 1 = vi ∧ g 2 = (i64 n) ∧ g 3 = (i64 m) ∧ g 4 = (ptr b4 0) ∧ g 8 = (bl false) ∧ g 9 = vxq13 ∧ g 10 = (i64 (errP n)) ∧ g 11 = vxq15 ∧ g 12 = (i64 (errP m)) ∧ g 14 = (bl false) ∧ g 30 = (bl (decide (200 < (info.length : Int)))) ∧ True) ⟨s0, s1, s2, s3, s4, s8, rfl, rfl, rfl, rfl, s14, s30, trivial⟩ ?_
          rintro fr16 ⟨s0, s1, s2, s3, s4, s8, s9, s10, s11, s12, s14, s30, _⟩
          refine cw_seq ?_
          have hml := expandQ_len (key := key) (info := info) (n := m) (by omega) (by omega)
          have hnl := expandQ_len (key := key) (info := info) (n := n) (by omega) (by omega)
          refine cw_region ?_
          refine rw_q rfl (ev_move (v := (i64 (errP n))) s10) ?_
          refine rw_q rfl (ev_i64_eql (b := 0) rfl rfl) ?_
          refine rw_q rfl (ev_move (v := (bl ((errP n) == 0))) rfl) ?_
          have hd17 : ((errP n) == 0) = true := told_true (errP_ok (by omega) (by omega))
          refine rw_gyq (s := 47) rfl rfl hd17 rfl (ev_move (v := (i64 (errP m))) s12) ?_
          refine rw_gyq (s := 47) rfl rfl hd17 rfl (ev_i64_eql (b := 0) rfl rfl) ?_
          refine rw_q rfl (ev_pick_tk rfl hd17 rfl) ?_
          refine rw_q rfl (ev_move (v := (bl ((errP m) == 0))) rfl) ?_
          have hd18 : ((errP m) == 0) = true := told_true (errP_ok (by omega) (by omega))
          refine rw_gyq (s := 51) rfl rfl hd18 rfl (ev_move (v := vxq15) s11) ?_
          refine rw_gyq (s := 51) rfl rfl hd18 rfl (ev_len_rd (gvxq15.rd hm14) Tryd.underlying22 rfl) ?_
          refine rw_gyq (s := 51) rfl rfl hd18 rfl (ev_move (v := (i64 m)) s3) ?_
          refine rw_gyq (s := 51) rfl rfl hd18 rfl (ev_i64_eql rfl rfl) ?_
          refine rw_q rfl (ev_pick_tk rfl hd18 rfl) ?_
          refine rw_q rfl (ev_move (v := (bl (((expandQ key info m).length : Int) == m))) rfl) ?_
          have hd19 : (((expandQ key info m).length : Int) == m) = true := told_true (expandQ_len (by omega) (by omega))
          refine rw_gyq (s := 57) rfl rfl hd19 rfl (ev_move (v := vxq13) s9) ?_
          refine rw_gyq (s := 57) rfl rfl hd19 rfl (ev_move (v := vxq15) s11) ?_
          refine rw_gyq (s := 57) rfl rfl hd19 rfl (ev_move (v := (i64 n)) s2) ?_
          refine rw_gyq (s := 57) rfl rfl hd19 rfl (ev_slice_rd (i := 0) (j := n) (gvxq15.rd hm14) Tryd.underlying22 ti5 rfl (optI_none _ _) (optI_some (k := .i64) (i := n) rfl) (by omega) (by first | omega | (simp only [List.length_set, List.length_append, List.length_replicate, List.length_map, List.length_cons, List.length_nil]; omega) | (simp; done) | (simp; omega) | decide) (by first | omega | (simp only [List.length_set, List.length_append, List.length_replicate, List.length_map, List.length_cons, List.length_nil]; omega) | (simp; done) | (simp; omega) | decide)) ?_
          refine rw_gy (s := 57) rfl rfl hd19 rfl (opR_call Tryd.func22 bd22 nm22 (args2 rfl rfl) (c_same vxq13 (subv vxq15 0 n) (expandQ key info n) (((expandQ key info m).drop (0 : Int).toNat).take ((n : Int).toNat - (0 : Int).toNat)) _ (gvxq13.rd (Mem.pick Hsq15 Hsq13 _ hm14)) ((Grow.cast (l' := ((expandQ key info m).drop (0 : Int).toNat).take ((n : Int).toNat - (0 : Int).toNat)) (Grow.sub (i := 0) (j := n) gvxq15 (by omega) (by first | omega | (simp only [List.length_set, List.length_append, List.length_replicate, List.length_map, List.length_cons, List.length_nil]; omega) | (simp; done) | (simp; omega) | decide) (by first | omega | (simp only [List.length_set, List.length_append, List.length_replicate, List.length_map, List.length_cons, List.length_nil]; omega) | (simp; done) | (simp; omega) | decide)) rfl).rd hm14) (by first | omega | (simp only [List.length_set, List.length_append, List.length_replicate, List.length_map, List.length_cons, List.length_nil]; omega) | (simp; done) | (simp; omega) | decide))) ?_
          rintro _ w20 ⟨rfl, _ew20⟩
          have hm20 := hm14.ext _ew20
          refine rw_q rfl (ev_pick_tk rfl hd19 rfl) ?_
          refine rw_q rfl (ev_assign rfl) ?_
          refine rw_nil ?_
          refine kThen_normal ?_
          refine CW.abs (fun g => g 0 = (agg u8 key) ∧ g 1 = vi ∧ g 2 = (i64 n) ∧ g 3 = (i64 m) ∧ g 4 = (ptr b4 0) ∧ g 8 = (bl ((expandQ key info n) == (((expandQ key info m).drop (0 : Int).toNat).take ((n : Int).toNat - (0 : Int).toNat)))) ∧ g 9 = vxq13 ∧ g 10 = (i64 (errP n)) ∧ g 11 = vxq15 ∧ g 12 = (i64 (errP m)) ∧ g 14 = (bl false) ∧ g 30 = (bl (decide (200 < (info.length : Int)))) ∧ True) ⟨s0, s1, s2, s3, s4, rfl, s9, s10, s11, s12, s14, s30, trivial⟩ ?_
          rintro fr22 ⟨s0, s1, s2, s3, s4, s8, s9, s10, s11, s12, s14, s30, _⟩
          refine cw_ret ?_
          refine fnPost_ret [(bl ((expandQ key info n) == (((expandQ key info m).drop (0 : Int).toNat).take ((n : Int).toNat - (0 : Int).toNat))))] ⟨s8, trivial⟩ ?_
          exact ⟨congrArg bl (told_true (by rw [take_front, expandQ_ok (by omega) (by omega), expandQ_ok (by omega) (by omega)]; exact (expand_front (by omega)).symm)), Mem.below w0 hm20⟩

set_option maxHeartbeats 1000000 in
theorem law_kbytes (va : Value) (la : List (BitVec 8)) (vb : Value) (lb : List (BitVec 8)) (vi : Value) (info : List (BitVec 8)) (key : List (BitVec 8)) (n : Int) (w0 : World)  (hT : Tabs (blks w0)) (hra : Rd (blks w0) u8 va la) (hlhra : la.length ≤ 9223372036854775807) (hrb : Rd (blks w0) u8 vb lb) (hlhrb : lb.length ≤ 9223372036854775807) (hri : Rd (blks w0) u8 vi info) (hlhri : info.length ≤ 9223372036854775807) (hk : key.length = 32) (hrn : -9223372036854775808 ≤ n ∧ n ≤ 9223372036854775807) : CallsR Tryd.prog 7 #[va, vb, vi, (agg u8 key), (i64 n)] w0 (fun r w1 => r = bl true ∧ RowKit.Below w0.heap.size w0 w1) := by
  refine callsR_of_cw (args := [va, vb, vi, (agg u8 key), (i64 n)]) Tryd.func7 rfl Tryd.ntmps7 Tryd.results7 rfl ?_
  have hm0 : Mem w0 (restOf w0) [] := Mem.of_world w0
  refine cw_seq ?_
  refine cw_region ?_
  refine rw_c rfl (or_box_agg (f := u8) (l := key) hm0 rfl) ?_
  rintro _ w1 ⟨b8, rfl, _ew1, hm1⟩
  refine rw_q rfl (ev_assign (v := (bl false)) rfl) ?_
  refine rw_nil ?_
  refine kThen_normal ?_
  refine cw_seq ?_
  refine cw_seq ?_
  refine cw_region ?_
  refine rw_c rfl (opR_call Tryd.func20 bd20 nm20 (args0) (c_speaks02 _ (hT.mono fun b o e => (hm1).rest b o e))) ?_
  rintro _ w2 ⟨rfl, _ew2⟩
  have hm2 := hm1.ext _ew2
  refine rw_q (v := (bl false)) rfl (ev_not (b := true) rfl) ?_
  refine rw_nil ?_
  refine kThen_normal ?_
  refine cw_cond_f rfl (by decide) ?_
  refine cw_skip ?_
  refine kThen_normal ?_
  refine cw_seq ?_
  refine cw_seq ?_
  refine cw_region ?_
  refine rw_q rfl (ev_move (v := va) rfl) ?_
  refine rw_q (v := (i64 (la.length : Int))) rfl (ev_len_rd (Rd.ofRest hra hm2) Tryd.underlying22 rfl) ?_
  refine rw_q rfl (ev_i64_gtr (b := 200) rfl rfl) ?_
  refine rw_q rfl (ev_move (v := (bl (decide (200 < (la.length : Int))))) rfl) ?_
  rcases Bool.eq_false_or_eq_true (decide (200 < (la.length : Int))) with hb4 | hb4
  · -- true
    have hb4p := of_decide_eq_true hb4
    refine rw_gn (s := 18) rfl rfl hb4 rfl ?_
    refine rw_gn (s := 18) rfl rfl hb4 rfl ?_
    refine rw_gn (s := 18) rfl rfl hb4 rfl ?_
    refine rw_q rfl (ev_pick_tk rfl hb4 rfl) ?_
    refine rw_q rfl (ev_move (v := (bl true)) rfl) ?_
    refine rw_gn (s := 23) rfl rfl rfl rfl ?_
    refine rw_gn (s := 23) rfl rfl rfl rfl ?_
    refine rw_gn (s := 23) rfl rfl rfl rfl ?_
    refine rw_q rfl (ev_pick_t rfl rfl) ?_
    refine rw_nil ?_
    refine kThen_normal ?_
    refine CW.abs (fun g => g 0 = va ∧ g 1 = vb ∧ g 2 = vi ∧ g 3 = (agg u8 key) ∧ g 4 = (i64 n) ∧ g 8 = (ptr b8 0) ∧ g 10 = (bl false) ∧ g 14 = (bl false) ∧ g 27 = (bl true) ∧ True) ⟨rfl, rfl, rfl, rfl, rfl, rfl, rfl, rfl, rfl, trivial⟩ ?_
    rintro fr5 ⟨s0, s1, s2, s3, s4, s8, s10, s14, s27, _⟩
    refine cw_cond_t s27 (by decide) ?_
    refine cw_seq ?_
    refine cw_region ?_
    refine rw_q rfl (ev_assign (v := (bl true)) rfl) ?_
    refine rw_nil ?_
    refine kThen_normal ?_
    refine cw_ret ?_
    refine kThen_ret ?_
    refine fnPost_ret [(bl true)] ⟨rfl, trivial⟩ ?_
    exact ⟨rfl, Mem.below w0 hm2⟩
  · -- false
    have hb4p := of_decide_eq_false hb4
    refine rw_gyq (s := 18) rfl rfl hb4 rfl (ev_move (v := vb) rfl) ?_
    refine rw_gyq (s := 18) rfl rfl hb4 rfl (ev_len_rd (Rd.ofRest hrb hm2) Tryd.underlying22 rfl) ?_
    refine rw_gyq (s := 18) rfl rfl hb4 rfl (ev_i64_gtr (b := 500) rfl rfl) ?_
    refine rw_q rfl (ev_pick_fk rfl hb4 rfl) ?_
    refine rw_q rfl (ev_move (v := (bl (decide (500 < (lb.length : Int))))) rfl) ?_
    rcases Bool.eq_false_or_eq_true (decide (500 < (lb.length : Int))) with hb6 | hb6
    · -- true
      have hb6p := of_decide_eq_true hb6
      refine rw_gn (s := 23) rfl rfl hb6 rfl ?_
      refine rw_gn (s := 23) rfl rfl hb6 rfl ?_
      refine rw_gn (s := 23) rfl rfl hb6 rfl ?_
      refine rw_q rfl (ev_pick_tk rfl hb6 rfl) ?_
      refine rw_nil ?_
      refine kThen_normal ?_
      refine CW.abs (fun g => g 0 = va ∧ g 1 = vb ∧ g 2 = vi ∧ g 3 = (agg u8 key) ∧ g 4 = (i64 n) ∧ g 8 = (ptr b8 0) ∧ g 10 = (bl false) ∧ g 14 = (bl false) ∧ g 27 = (bl true) ∧ True) ⟨rfl, rfl, rfl, rfl, rfl, rfl, rfl, rfl, rfl, trivial⟩ ?_
      rintro fr7 ⟨s0, s1, s2, s3, s4, s8, s10, s14, s27, _⟩
      refine cw_cond_t s27 (by decide) ?_
      refine cw_seq ?_
      refine cw_region ?_
      refine rw_q rfl (ev_assign (v := (bl true)) rfl) ?_
      refine rw_nil ?_
      refine kThen_normal ?_
      refine cw_ret ?_
      refine kThen_ret ?_
      refine fnPost_ret [(bl true)] ⟨rfl, trivial⟩ ?_
      exact ⟨rfl, Mem.below w0 hm2⟩
    · -- false
      have hb6p := of_decide_eq_false hb6
      refine rw_gyq (s := 23) rfl rfl hb6 rfl (ev_move (v := vi) rfl) ?_
      refine rw_gyq (s := 23) rfl rfl hb6 rfl (ev_len_rd (Rd.ofRest hri hm2) Tryd.underlying22 rfl) ?_
      refine rw_gyq (s := 23) rfl rfl hb6 rfl (ev_i64_gtr (b := 200) rfl rfl) ?_
      refine rw_q rfl (ev_pick_fk rfl hb6 rfl) ?_
      refine rw_nil ?_
      refine kThen_normal ?_
      refine CW.abs (fun g => g 0 = va ∧ g 1 = vb ∧ g 2 = vi ∧ g 3 = (agg u8 key) ∧ g 4 = (i64 n) ∧ g 8 = (ptr b8 0) ∧ g 10 = (bl false) ∧ g 14 = (bl false) ∧ g 27 = (bl (decide (200 < (info.length : Int)))) ∧ True) ⟨rfl, rfl, rfl, rfl, rfl, rfl, rfl, rfl, rfl, trivial⟩ ?_
      rintro fr8 ⟨s0, s1, s2, s3, s4, s8, s10, s14, s27, _⟩
      refine cw_cond s27 (fun hc9 => ?_) (fun hc9 => ?_)
      · -- true
        have hc9p := of_decide_eq_true hc9
        refine cw_seq ?_
        refine cw_region ?_
        refine rw_q rfl (ev_assign (v := (bl true)) rfl) ?_
        refine rw_nil ?_
        refine kThen_normal ?_
        refine cw_ret ?_
        refine kThen_ret ?_
        refine fnPost_ret [(bl true)] ⟨rfl, trivial⟩ ?_
        exact ⟨rfl, Mem.below w0 hm2⟩
      · -- false
        have hc9p := of_decide_eq_false hc9
        refine cw_skip ?_
        refine kThen_normal ?_
        refine cw_seq ?_
        refine cw_region ?_
        refine rw_q (v := (agg u8 key)) rfl (ev_loadA Tryd.underlying28 rfl ti28 s8 hm2.h0 (by rw [size_cl]; first | omega | (simp only [List.length_set, List.length_append, List.length_replicate, List.length_map, List.length_cons, List.length_nil]; omega) | (simp; done) | (simp; omega) | decide)) ?_
        refine rw_q rfl (ev_move (v := vi) s2) ?_
        refine rw_q rfl (ev_move (v := (i64 n)) s4) ?_
        refine rw_c rfl (opR_call Tryd.func21 bd21 nm21 (args3 rfl rfl rfl) (c_expand key vi info n _ (hT.mono fun b o e => (hm2).rest b o e) (by first | omega | (simp only [List.length_set, List.length_append, List.length_replicate, List.length_map, List.length_cons, List.length_nil]; omega) | (simp; done) | (simp; omega) | decide) (Rd.ofRest hri hm2) (by first | omega | (simp only [List.length_set, List.length_append, List.length_replicate, List.length_map, List.length_cons, List.length_nil]; omega) | (simp; done) | (simp; omega) | decide))) ?_
        rintro _ w10 ⟨vxq11, Hsq11, rfl, gvxq11, k_w10⟩
        have hm10 : Mem w10 (restOf w0) (Hsq11 ++ ([(b8, .cells (cl u8 key) 28 (0, 0))])) := Mem.new (H := [(b8, .cells (cl u8 key) 28 (0, 0))]) (H' := Hsq11) hm2 k_w10
        refine rw_q rfl (ev_move (v := (Value.tuple #[vxq11, (i64 (errP n))])) rfl) ?_
        refine rw_q (v := vxq11) rfl (ev_extract rfl rfl) ?_
        refine rw_q (v := (i64 (errP n))) rfl (ev_extract rfl rfl) ?_
        refine rw_q rfl (ev_assign (v := vxq11) rfl) ?_
        refine rw_q rfl (ev_assign (v := (i64 (errP n))) rfl) ?_
        refine rw_nil ?_
        refine kThen_normal ?_
        refine cw_seq ?_
        refine cw_seq ?_
        refine cw_region ?_
        refine rw_q rfl (ev_move (v := (i64 n)) s4) ?_
        refine rw_q rfl (ev_i64_lss (b := 0) rfl rfl) ?_
        refine rw_q rfl (ev_move (v := (bl (decide (n < 0)))) rfl) ?_
        rcases Bool.eq_false_or_eq_true (decide (n < 0)) with hb12 | hb12
        · -- true
          have hb12p := of_decide_eq_true hb12
          refine rw_gn (s := 37) rfl rfl hb12 rfl ?_
          refine rw_gn (s := 37) rfl rfl hb12 rfl ?_
          refine rw_q rfl (ev_pick_tk rfl hb12 rfl) ?_
          refine rw_nil ?_
          refine kThen_normal ?_
          refine CW.abs (fun g => g 0 = va ∧ g 1 = vb ∧ g 2 = vi ∧ g 3 = (agg u8 key) ∧ g 4 = (i64 n) ∧ g 8 = (ptr b8 0) ∧ g 10 = (bl false) ∧ g 11 = vxq11 ∧ g 12 = (i64 (errP n)) ∧ g 14 = (bl false) ∧ g 27 = (bl (decide (200 < (info.length : Int)))) ∧ g 40 = (bl true) ∧ True) ⟨s0, s1, s2, s3, s4, s8, s10, rfl, rfl, s14, s27, rfl, trivial⟩ ?_
          rintro fr13 ⟨s0, s1, s2, s3, s4, s8, s10, s11, s12, s14, s27, s40, _⟩
          refine cw_cond_t s40 (by decide) ?_
          refine cw_seq ?_
          refine cw_region ?_
          refine rw_q rfl (ev_move (v := (i64 (errP n))) s12) ?_
          refine rw_q rfl (ev_i64_eql (b := 2) rfl rfl) ?_
          refine rw_q rfl (ev_move (v := (bl ((errP n) == 2))) rfl) ?_
          have hd14 : ((errP n) == 2) = true := told_true (errP_bad (by omega))
          refine rw_gyq (s := 43) rfl rfl hd14 rfl (ev_move (v := vxq11) s11) ?_
          refine rw_gyq (s := 43) rfl rfl hd14 rfl (ev_len_rd (gvxq11.rd hm10) Tryd.underlying22 rfl) ?_
          refine rw_gyq (s := 43) rfl rfl hd14 rfl (ev_i64_eql (b := 0) rfl rfl) ?_
          refine rw_q rfl (ev_pick_tk rfl hd14 rfl) ?_
          refine rw_q rfl (ev_assign (v := (bl (((expandQ key info n).length : Int) == 0))) rfl) ?_
          refine rw_nil ?_
          refine kThen_normal ?_
          refine cw_ret ?_
          refine kThen_ret ?_
          refine fnPost_ret [(bl (((expandQ key info n).length : Int) == 0))] ⟨rfl, trivial⟩ ?_
          exact ⟨congrArg bl (told_true (expandQ_bad (by omega))), Mem.below w0 hm10⟩
        · -- false
          have hb12p := of_decide_eq_false hb12
          refine rw_gyq (s := 37) rfl rfl hb12 rfl (ev_move (v := (i64 n)) s4) ?_
          refine rw_gyq (s := 37) rfl rfl hb12 rfl (ev_i64_gtr (b := 8160) rfl rfl) ?_
          refine rw_q rfl (ev_pick_fk rfl hb12 rfl) ?_
          refine rw_nil ?_
          refine kThen_normal ?_
          refine CW.abs (fun g => g 0 = va ∧ g 1 = vb ∧ g 2 = vi ∧ g 3 = (agg u8 key) ∧ g 4 = (i64 n) ∧ g 8 = (ptr b8 0) ∧ g 10 = (bl false) ∧ g 11 = vxq11 ∧ g 12 = (i64 (errP n)) ∧ g 14 = (bl false) ∧ g 27 = (bl (decide (200 < (info.length : Int)))) ∧ g 40 = (bl (decide (8160 < n))) ∧ True) ⟨s0, s1, s2, s3, s4, s8, s10, rfl, rfl, s14, s27, rfl, trivial⟩ ?_
          rintro fr15 ⟨s0, s1, s2, s3, s4, s8, s10, s11, s12, s14, s27, s40, _⟩
          refine cw_cond s40 (fun hc16 => ?_) (fun hc16 => ?_)
          · -- true
            have hc16p := of_decide_eq_true hc16
            refine cw_seq ?_
            refine cw_region ?_
            refine rw_q rfl (ev_move (v := (i64 (errP n))) s12) ?_
            refine rw_q rfl (ev_i64_eql (b := 2) rfl rfl) ?_
            refine rw_q rfl (ev_move (v := (bl ((errP n) == 2))) rfl) ?_
            have hd17 : ((errP n) == 2) = true := told_true (errP_bad (by omega))
            refine rw_gyq (s := 43) rfl rfl hd17 rfl (ev_move (v := vxq11) s11) ?_
            refine rw_gyq (s := 43) rfl rfl hd17 rfl (ev_len_rd (gvxq11.rd hm10) Tryd.underlying22 rfl) ?_
            refine rw_gyq (s := 43) rfl rfl hd17 rfl (ev_i64_eql (b := 0) rfl rfl) ?_
            refine rw_q rfl (ev_pick_tk rfl hd17 rfl) ?_
            refine rw_q rfl (ev_assign (v := (bl (((expandQ key info n).length : Int) == 0))) rfl) ?_
            refine rw_nil ?_
            refine kThen_normal ?_
            refine cw_ret ?_
            refine kThen_ret ?_
            refine fnPost_ret [(bl (((expandQ key info n).length : Int) == 0))] ⟨rfl, trivial⟩ ?_
            exact ⟨congrArg bl (told_true (expandQ_bad (by omega))), Mem.below w0 hm10⟩
          · -- false
            have hc16p := of_decide_eq_false hc16
            refine cw_skip ?_
            refine kThen_normal ?_
            refine cw_seq ?_
            have hql := expandQ_le key info n
            refine cw_region ?_
            refine rw_q rfl (ev_move (v := (i64 (errP n))) s12) ?_
            refine rw_q rfl (ev_i64_eql (b := 0) rfl rfl) ?_
            refine rw_q rfl (ev_move (v := (bl ((errP n) == 0))) rfl) ?_
            have hd18 : ((errP n) == 0) = true := told_true (errP_ok (by omega) (by omega))
            refine rw_gyq (s := 50) rfl rfl hd18 rfl (ev_move (v := vxq11) s11) ?_
            refine rw_gyq (s := 50) rfl rfl hd18 rfl (ev_loadA Tryd.underlying28 rfl ti28 s8 ((Mem.pick Hsq11 [_] _ hm10)).h0 (by rw [size_cl]; first | omega | (simp only [List.length_set, List.length_append, List.length_replicate, List.length_map, List.length_cons, List.length_nil]; omega) | (simp; done) | (simp; omega) | decide)) ?_
            refine rw_gyq (s := 50) rfl rfl hd18 rfl (ev_move (v := vi) s2) ?_
            refine rw_gyq (s := 50) rfl rfl hd18 rfl (ev_move (v := (i64 n)) s4) ?_
            refine rw_gy (s := 50) rfl rfl hd18 rfl (opR_call Tryd.func23 bd23 nm23 (args3 rfl rfl rfl) (c_rexpand key vi info n _ (by first | omega | (simp only [List.length_set, List.length_append, List.length_replicate, List.length_map, List.length_cons, List.length_nil]; omega) | (simp; done) | (simp; omega) | decide) (Rd.ofRest hri hm10) (by first | omega | (simp only [List.length_set, List.length_append, List.length_replicate, List.length_map, List.length_cons, List.length_nil]; omega) | (simp; done) | (simp; omega) | decide) (by first | omega | (simp only [List.length_set, List.length_append, List.length_replicate, List.length_map, List.length_cons, List.length_nil]; omega) | (simp; done) | (simp; omega) | decide))) ?_
            rintro rxq20 w19 ⟨Hsq20, grxq20, k_w19⟩
            have hm19 : Mem w19 (restOf w0) (Hsq20 ++ (Hsq11 ++ ([(b8, .cells (cl u8 key) 28 (0, 0))]))) := Mem.new (H := Hsq11 ++ ([(b8, .cells (cl u8 key) 28 (0, 0))])) (H' := Hsq20) hm10 k_w19
            refine rw_gy (s := 50) rfl rfl hd18 rfl (opR_call Tryd.func22 bd22 nm22 (args2 rfl rfl) (c_same vxq11 rxq20 (expandQ key info n) (expandP key info n.toNat) _ (gvxq11.rd (Mem.pick Hsq20 Hsq11 _ hm19)) (grxq20.rd hm19) (by first | omega | (simp only [List.length_set, List.length_append, List.length_replicate, List.length_map, List.length_cons, List.length_nil]; omega) | (simp; done) | (simp; omega) | decide))) ?_
            rintro _ w21 ⟨rfl, _ew21⟩
            have hm21 := hm19.ext _ew21
            refine rw_q rfl (ev_pick_tk rfl hd18 rfl) ?_
            refine rw_q rfl (ev_move (v := (bl ((expandQ key info n) == (expandP key info n.toNat)))) rfl) ?_
            have hd23 : ((expandQ key info n) == (expandP key info n.toNat)) = true := told_true (expandQ_ok (by omega) (by omega))
            refine rw_gyq (s := 58) rfl rfl hd23 rfl (ev_move (v := va) s0) ?_
            refine rw_gyq (s := 58) rfl rfl hd23 rfl (ev_move (v := vb) s1) ?_
            refine rw_gy (s := 58) rfl rfl hd23 rfl (opR_call Tryd.func24 bd24 nm24 (args2 rfl rfl) (c_extract va la vb lb _ (hT.mono fun b o e => (hm21).rest b o e) (Rd.ofRest hra hm21) (by first | omega | (simp only [List.length_set, List.length_append, List.length_replicate, List.length_map, List.length_cons, List.length_nil]; omega) | (simp; done) | (simp; omega) | decide) (Rd.ofRest hrb hm21) (by first | omega | (simp only [List.length_set, List.length_append, List.length_replicate, List.length_map, List.length_cons, List.length_nil]; omega) | (simp; done) | (simp; omega) | decide))) ?_
            rintro _ w24 ⟨rfl, _ew24⟩
            have hm24 := hm21.ext _ew24
            refine rw_gyq (s := 58) rfl rfl hd23 rfl (ev_move (v := va) s0) ?_
            refine rw_gyq (s := 58) rfl rfl hd23 rfl (ev_move (v := vb) s1) ?_
            refine rw_gy (s := 58) rfl rfl hd23 rfl (opR_call Tryd.func25 bd25 nm25 (args2 rfl rfl) (c_rextract va la vb lb _ (Rd.ofRest hra hm24) (by first | omega | (simp only [List.length_set, List.length_append, List.length_replicate, List.length_map, List.length_cons, List.length_nil]; omega) | (simp; done) | (simp; omega) | decide) (Rd.ofRest hrb hm24) (by first | omega | (simp only [List.length_set, List.length_append, List.length_replicate, List.length_map, List.length_cons, List.length_nil]; omega) | (simp; done) | (simp; omega) | decide))) ?_
            rintro _ w26 ⟨rfl, _ew26⟩
            have hm26 := hm24.ext _ew26
            refine rw_gyq (s := 58) rfl rfl hd23 rfl (ev_u8arr_eql (l := extractP la lb) (m := extractP la lb) Tryd.underlying28 Tryd.underlying5 ti5 Tryd.eqGuardType28 rfl rfl (by first | rfl | first | omega | (simp only [List.length_set, List.length_append, List.length_replicate, List.length_map, List.length_cons, List.length_nil]; omega) | (simp; done) | (simp; omega) | decide) (by first | rfl | first | omega | (simp only [List.length_set, List.length_append, List.length_replicate, List.length_map, List.length_cons, List.length_nil]; omega) | (simp; done) | (simp; omega) | decide)) ?_
            refine rw_q rfl (ev_pick_tk rfl hd23 rfl) ?_
            refine rw_q rfl (ev_assign (v := (bl ((extractP la lb) == (extractP la lb)))) rfl) ?_
            refine rw_nil ?_
            refine kThen_normal ?_
            have hm28 := Mem.drop Hsq20 _ hm26
            refine CW.abs (fun g => g 0 = va ∧ g 1 = vb ∧ g 2 = vi ∧ g 3 = (agg u8 key) ∧ g 4 = (i64 n) ∧ g 8 = (ptr b8 0) ∧ g 10 = (bl ((extractP la lb) == (extractP la lb))) ∧ g 11 = vxq11 ∧ g 12 = (i64 (errP n)) ∧ g 14 = (bl false) ∧ g 27 = (bl (decide (200 < (info.length : Int)))) ∧ g 40 = (bl (decide (8160 < n))) ∧ True) ⟨s0, s1, s2, s3, s4, s8, rfl, s11, s12, s14, s27, s40, trivial⟩ ?_
            rintro fr29 ⟨s0, s1, s2, s3, s4, s8, s10, s11, s12, s14, s27, s40, _⟩
            refine cw_ret ?_
            refine fnPost_ret [(bl ((extractP la lb) == (extractP la lb)))] ⟨s10, trivial⟩ ?_
            exact ⟨congrArg bl (told_true rfl), Mem.below w0 hm28⟩

set_option maxHeartbeats 1000000 in
theorem law_kkeys (va : Value) (la : List (BitVec 8)) (vb : Value) (lb : List (BitVec 8)) (pu : ByteArray) (n : Int) (chain : List (BitVec 8)) (w0 : World)  (hT : Tabs (blks w0)) (hra : Rd (blks w0) u8 va la) (hlhra : la.length ≤ 9223372036854775807) (hrb : Rd (blks w0) u8 vb lb) (hlhrb : lb.length ≤ 9223372036854775807) (hpu : pu.size ≤ 9223372036854775807) (hrn : -9223372036854775808 ≤ n ∧ n ≤ 9223372036854775807) (hcl : chain.length = 32) : CallsR Tryd.prog 9 #[va, vb, (Value.string pu), (i64 n), (agg u8 chain)] w0 (fun r w1 => r = bl true ∧ RowKit.Below w0.heap.size w0 w1) := by
  refine callsR_of_cw (args := [va, vb, (Value.string pu), (i64 n), (agg u8 chain)]) Tryd.func9 rfl Tryd.ntmps9 Tryd.results9 rfl ?_
  have hm0 : Mem w0 (restOf w0) [] := Mem.of_world w0
  refine cw_seq ?_
  refine cw_region ?_
  refine rw_c rfl (or_box_agg (f := u8) (l := chain) hm0 rfl) ?_
  rintro _ w1 ⟨b9, rfl, _ew1, hm1⟩
  refine rw_q rfl (ev_assign (v := (bl false)) rfl) ?_
  refine rw_nil ?_
  refine kThen_normal ?_
  refine cw_seq ?_
  refine cw_seq ?_
  refine cw_region ?_
  refine rw_c rfl (opR_call Tryd.func20 bd20 nm20 (args0) (c_speaks02 _ (hT.mono fun b o e => (hm1).rest b o e))) ?_
  rintro _ w2 ⟨rfl, _ew2⟩
  have hm2 := hm1.ext _ew2
  refine rw_q (v := (bl false)) rfl (ev_not (b := true) rfl) ?_
  refine rw_nil ?_
  refine kThen_normal ?_
  refine cw_cond_f rfl (by decide) ?_
  refine cw_skip ?_
  refine kThen_normal ?_
  refine cw_seq ?_
  refine cw_seq ?_
  refine cw_region ?_
  refine rw_q rfl (ev_move (v := va) rfl) ?_
  refine rw_q (v := (i64 (la.length : Int))) rfl (ev_len_rd (Rd.ofRest hra hm2) Tryd.underlying22 rfl) ?_
  refine rw_q rfl (ev_i64_gtr (b := 200) rfl rfl) ?_
  refine rw_q rfl (ev_move (v := (bl (decide (200 < (la.length : Int))))) rfl) ?_
  rcases Bool.eq_false_or_eq_true (decide (200 < (la.length : Int))) with hb4 | hb4
  · -- true
    have hb4p := of_decide_eq_true hb4
    refine rw_gn (s := 24) rfl rfl hb4 rfl ?_
    refine rw_gn (s := 24) rfl rfl hb4 rfl ?_
    refine rw_gn (s := 24) rfl rfl hb4 rfl ?_
    refine rw_q rfl (ev_pick_tk rfl hb4 rfl) ?_
    refine rw_q rfl (ev_move (v := (bl true)) rfl) ?_
    refine rw_gn (s := 29) rfl rfl rfl rfl ?_
    refine rw_gn (s := 29) rfl rfl rfl rfl ?_
    refine rw_gn (s := 29) rfl rfl rfl rfl ?_
    refine rw_q rfl (ev_pick_t rfl rfl) ?_
    refine rw_nil ?_
    refine kThen_normal ?_
    refine CW.abs (fun g => g 0 = va ∧ g 1 = vb ∧ g 2 = (Value.string pu) ∧ g 3 = (i64 n) ∧ g 4 = (agg u8 chain) ∧ g 9 = (ptr b9 0) ∧ g 10 = (bl false) ∧ g 20 = (bl false) ∧ g 33 = (bl true) ∧ True) ⟨rfl, rfl, rfl, rfl, rfl, rfl, rfl, rfl, rfl, trivial⟩ ?_
    rintro fr5 ⟨s0, s1, s2, s3, s4, s9, s10, s20, s33, _⟩
    refine cw_cond_t s33 (by decide) ?_
    refine cw_seq ?_
    refine cw_region ?_
    refine rw_q rfl (ev_assign (v := (bl true)) rfl) ?_
    refine rw_nil ?_
    refine kThen_normal ?_
    refine cw_ret ?_
    refine kThen_ret ?_
    refine fnPost_ret [(bl true)] ⟨rfl, trivial⟩ ?_
    exact ⟨rfl, Mem.below w0 hm2⟩
  · -- false
    have hb4p := of_decide_eq_false hb4
    refine rw_gyq (s := 24) rfl rfl hb4 rfl (ev_move (v := vb) rfl) ?_
    refine rw_gyq (s := 24) rfl rfl hb4 rfl (ev_len_rd (Rd.ofRest hrb hm2) Tryd.underlying22 rfl) ?_
    refine rw_gyq (s := 24) rfl rfl hb4 rfl (ev_i64_gtr (b := 500) rfl rfl) ?_
    refine rw_q rfl (ev_pick_fk rfl hb4 rfl) ?_
    refine rw_q rfl (ev_move (v := (bl (decide (500 < (lb.length : Int))))) rfl) ?_
    rcases Bool.eq_false_or_eq_true (decide (500 < (lb.length : Int))) with hb6 | hb6
    · -- true
      have hb6p := of_decide_eq_true hb6
      refine rw_gn (s := 29) rfl rfl hb6 rfl ?_
      refine rw_gn (s := 29) rfl rfl hb6 rfl ?_
      refine rw_gn (s := 29) rfl rfl hb6 rfl ?_
      refine rw_q rfl (ev_pick_tk rfl hb6 rfl) ?_
      refine rw_nil ?_
      refine kThen_normal ?_
      refine CW.abs (fun g => g 0 = va ∧ g 1 = vb ∧ g 2 = (Value.string pu) ∧ g 3 = (i64 n) ∧ g 4 = (agg u8 chain) ∧ g 9 = (ptr b9 0) ∧ g 10 = (bl false) ∧ g 20 = (bl false) ∧ g 33 = (bl true) ∧ True) ⟨rfl, rfl, rfl, rfl, rfl, rfl, rfl, rfl, rfl, trivial⟩ ?_
      rintro fr7 ⟨s0, s1, s2, s3, s4, s9, s10, s20, s33, _⟩
      refine cw_cond_t s33 (by decide) ?_
      refine cw_seq ?_
      refine cw_region ?_
      refine rw_q rfl (ev_assign (v := (bl true)) rfl) ?_
      refine rw_nil ?_
      refine kThen_normal ?_
      refine cw_ret ?_
      refine kThen_ret ?_
      refine fnPost_ret [(bl true)] ⟨rfl, trivial⟩ ?_
      exact ⟨rfl, Mem.below w0 hm2⟩
    · -- false
      have hb6p := of_decide_eq_false hb6
      refine rw_gyq (s := 29) rfl rfl hb6 rfl (ev_move (v := (Value.string pu)) rfl) ?_
      refine rw_gyq (s := 29) rfl rfl hb6 rfl (ev_len_str Tryd.underlying9 rfl) ?_
      refine rw_gyq (s := 29) rfl rfl hb6 rfl (ev_i64_gtr (b := 100) rfl rfl) ?_
      refine rw_q rfl (ev_pick_fk rfl hb6 rfl) ?_
      refine rw_nil ?_
      refine kThen_normal ?_
      refine CW.abs (fun g => g 0 = va ∧ g 1 = vb ∧ g 2 = (Value.string pu) ∧ g 3 = (i64 n) ∧ g 4 = (agg u8 chain) ∧ g 9 = (ptr b9 0) ∧ g 10 = (bl false) ∧ g 20 = (bl false) ∧ g 33 = (bl (decide (100 < (pu.size : Int)))) ∧ True) ⟨rfl, rfl, rfl, rfl, rfl, rfl, rfl, rfl, rfl, trivial⟩ ?_
      rintro fr8 ⟨s0, s1, s2, s3, s4, s9, s10, s20, s33, _⟩
      refine cw_cond s33 (fun hc9 => ?_) (fun hc9 => ?_)
      · -- true
        have hc9p := of_decide_eq_true hc9
        refine cw_seq ?_
        refine cw_region ?_
        refine rw_q rfl (ev_assign (v := (bl true)) rfl) ?_
        refine rw_nil ?_
        refine kThen_normal ?_
        refine cw_ret ?_
        refine kThen_ret ?_
        refine fnPost_ret [(bl true)] ⟨rfl, trivial⟩ ?_
        exact ⟨rfl, Mem.below w0 hm2⟩
      · -- false
        have hc9p := of_decide_eq_false hc9
        refine cw_skip ?_
        refine kThen_normal ?_
        refine cw_seq ?_
        refine cw_region ?_
        refine rw_q rfl (ev_move (v := va) s0) ?_
        refine rw_q rfl (ev_move (v := vb) s1) ?_
        refine rw_q rfl (ev_move (v := (Value.string pu)) s2) ?_
        refine rw_q rfl (ev_move (v := (i64 n)) s3) ?_
        refine rw_c rfl (opR_call Tryd.func26 bd26 nm26 (args4 rfl rfl rfl rfl) (c_keys va la vb lb pu n _ (hT.mono fun b o e => (hm2).rest b o e) (Rd.ofRest hra hm2) (by first | omega | (simp only [List.length_set, List.length_append, List.length_replicate, List.length_map, List.length_cons, List.length_nil]; omega) | (simp; done) | (simp; omega) | decide) (Rd.ofRest hrb hm2) (by first | omega | (simp only [List.length_set, List.length_append, List.length_replicate, List.length_map, List.length_cons, List.length_nil]; omega) | (simp; done) | (simp; omega) | decide) (by first | omega | (simp only [List.length_set, List.length_append, List.length_replicate, List.length_map, List.length_cons, List.length_nil]; omega) | (simp; done) | (simp; omega) | decide) (by first | omega | (simp only [List.length_set, List.length_append, List.length_replicate, List.length_map, List.length_cons, List.length_nil]; omega) | (simp; done) | (simp; omega) | decide))) ?_
        rintro _ w10 ⟨vxq11, Hsq11, rfl, gvxq11, k_w10⟩
        have hm10 : Mem w10 (restOf w0) (Hsq11 ++ ([(b9, .cells (cl u8 chain) 28 (0, 0))])) := Mem.new (H := [(b9, .cells (cl u8 chain) 28 (0, 0))]) (H' := Hsq11) hm2 k_w10
        refine rw_q rfl (ev_move (v := (Value.tuple #[vxq11, (i64 (errK n))])) rfl) ?_
        refine rw_q (v := vxq11) rfl (ev_extract rfl rfl) ?_
        refine rw_q (v := (i64 (errK n))) rfl (ev_extract rfl rfl) ?_
        refine rw_q rfl (ev_assign (v := vxq11) rfl) ?_
        refine rw_q rfl (ev_assign (v := (i64 (errK n))) rfl) ?_
        refine rw_nil ?_
        refine kThen_normal ?_
        refine cw_seq ?_
        refine cw_seq ?_
        refine cw_region ?_
        refine rw_q rfl (ev_move (v := (i64 n)) s3) ?_
        refine rw_q rfl (ev_i64_lss (b := 0) rfl rfl) ?_
        refine rw_q rfl (ev_move (v := (bl (decide (n < 0)))) rfl) ?_
        rcases Bool.eq_false_or_eq_true (decide (n < 0)) with hb12 | hb12
        · -- true
          have hb12p := of_decide_eq_true hb12
          refine rw_gn (s := 44) rfl rfl hb12 rfl ?_
          refine rw_gn (s := 44) rfl rfl hb12 rfl ?_
          refine rw_q rfl (ev_pick_tk rfl hb12 rfl) ?_
          refine rw_nil ?_
          refine kThen_normal ?_
          refine CW.abs (fun g => g 0 = va ∧ g 1 = vb ∧ g 2 = (Value.string pu) ∧ g 3 = (i64 n) ∧ g 4 = (agg u8 chain) ∧ g 9 = (ptr b9 0) ∧ g 10 = (bl false) ∧ g 11 = vxq11 ∧ g 12 = (i64 (errK n)) ∧ g 20 = (bl false) ∧ g 33 = (bl (decide (100 < (pu.size : Int)))) ∧ g 47 = (bl true) ∧ True) ⟨s0, s1, s2, s3, s4, s9, s10, rfl, rfl, s20, s33, rfl, trivial⟩ ?_
          rintro fr13 ⟨s0, s1, s2, s3, s4, s9, s10, s11, s12, s20, s33, s47, _⟩
          refine cw_cond_t s47 (by decide) ?_
          refine cw_seq ?_
          refine cw_region ?_
          refine rw_q rfl (ev_move (v := (i64 (errK n))) s12) ?_
          refine rw_q rfl (ev_i64_eql (b := 2) rfl rfl) ?_
          refine rw_q rfl (ev_move (v := (bl ((errK n) == 2))) rfl) ?_
          have hd14 : ((errK n) == 2) = true := told_true (errK_bad (by omega))
          refine rw_gyq (s := 50) rfl rfl hd14 rfl (ev_move (v := vxq11) s11) ?_
          refine rw_gyq (s := 50) rfl rfl hd14 rfl (ev_len_rk (gvxq11.rd hm10) Tryd.underlying45 rfl) ?_
          refine rw_gyq (s := 50) rfl rfl hd14 rfl (ev_i64_eql (b := 0) rfl rfl) ?_
          refine rw_q rfl (ev_pick_tk rfl hd14 rfl) ?_
          refine rw_q rfl (ev_assign (v := (bl (((keysQ la lb (bytesL pu) n).length : Int) == 0))) rfl) ?_
          refine rw_nil ?_
          refine kThen_normal ?_
          refine cw_ret ?_
          refine kThen_ret ?_
          refine fnPost_ret [(bl (((keysQ la lb (bytesL pu) n).length : Int) == 0))] ⟨rfl, trivial⟩ ?_
          exact ⟨congrArg bl (told_true (keysQ_bad (by omega))), Mem.below w0 hm10⟩
        · -- false
          have hb12p := of_decide_eq_false hb12
          refine rw_gyq (s := 44) rfl rfl hb12 rfl (ev_move (v := (i64 n)) s3) ?_
          refine rw_gyq (s := 44) rfl rfl hb12 rfl (ev_i64_gtr (b := 255) rfl rfl) ?_
          refine rw_q rfl (ev_pick_fk rfl hb12 rfl) ?_
          refine rw_nil ?_
          refine kThen_normal ?_
          refine CW.abs (fun g => g 0 = va ∧ g 1 = vb ∧ g 2 = (Value.string pu) ∧ g 3 = (i64 n) ∧ g 4 = (agg u8 chain) ∧ g 9 = (ptr b9 0) ∧ g 10 = (bl false) ∧ g 11 = vxq11 ∧ g 12 = (i64 (errK n)) ∧ g 20 = (bl false) ∧ g 33 = (bl (decide (100 < (pu.size : Int)))) ∧ g 47 = (bl (decide (255 < n))) ∧ True) ⟨s0, s1, s2, s3, s4, s9, s10, rfl, rfl, s20, s33, rfl, trivial⟩ ?_
          rintro fr15 ⟨s0, s1, s2, s3, s4, s9, s10, s11, s12, s20, s33, s47, _⟩
          refine cw_cond s47 (fun hc16 => ?_) (fun hc16 => ?_)
          · -- true
            have hc16p := of_decide_eq_true hc16
            refine cw_seq ?_
            refine cw_region ?_
            refine rw_q rfl (ev_move (v := (i64 (errK n))) s12) ?_
            refine rw_q rfl (ev_i64_eql (b := 2) rfl rfl) ?_
            refine rw_q rfl (ev_move (v := (bl ((errK n) == 2))) rfl) ?_
            have hd17 : ((errK n) == 2) = true := told_true (errK_bad (by omega))
            refine rw_gyq (s := 50) rfl rfl hd17 rfl (ev_move (v := vxq11) s11) ?_
            refine rw_gyq (s := 50) rfl rfl hd17 rfl (ev_len_rk (gvxq11.rd hm10) Tryd.underlying45 rfl) ?_
            refine rw_gyq (s := 50) rfl rfl hd17 rfl (ev_i64_eql (b := 0) rfl rfl) ?_
            refine rw_q rfl (ev_pick_tk rfl hd17 rfl) ?_
            refine rw_q rfl (ev_assign (v := (bl (((keysQ la lb (bytesL pu) n).length : Int) == 0))) rfl) ?_
            refine rw_nil ?_
            refine kThen_normal ?_
            refine cw_ret ?_
            refine kThen_ret ?_
            refine fnPost_ret [(bl (((keysQ la lb (bytesL pu) n).length : Int) == 0))] ⟨rfl, trivial⟩ ?_
            exact ⟨congrArg bl (told_true (keysQ_bad (by omega))), Mem.below w0 hm10⟩
          · -- false
            have hc16p := of_decide_eq_false hc16
            refine cw_skip ?_
            refine kThen_normal ?_
            refine cw_seq ?_
            refine cw_region ?_
            refine rw_q rfl (ev_move (v := va) s0) ?_
            refine rw_q rfl (ev_move (v := vb) s1) ?_
            refine rw_q rfl (ev_move (v := (Value.string pu)) s2) ?_
            refine rw_q rfl (ev_move (v := (i64 n)) s3) ?_
            refine rw_c rfl (opR_call Tryd.func27 bd27 nm27 (args4 rfl rfl rfl rfl) (c_rkeys va la vb lb pu n _ (Rd.ofRest hra hm10) (by first | omega | (simp only [List.length_set, List.length_append, List.length_replicate, List.length_map, List.length_cons, List.length_nil]; omega) | (simp; done) | (simp; omega) | decide) (Rd.ofRest hrb hm10) (by first | omega | (simp only [List.length_set, List.length_append, List.length_replicate, List.length_map, List.length_cons, List.length_nil]; omega) | (simp; done) | (simp; omega) | decide) (by first | omega | (simp only [List.length_set, List.length_append, List.length_replicate, List.length_map, List.length_cons, List.length_nil]; omega) | (simp; done) | (simp; omega) | decide) (by first | omega | (simp only [List.length_set, List.length_append, List.length_replicate, List.length_map, List.length_cons, List.length_nil]; omega) | (simp; done) | (simp; omega) | decide))) ?_
            rintro rxq19 w18 ⟨Hsq19, grxq19, k_w18⟩
            have hm18 : Mem w18 (restOf w0) (Hsq19 ++ (Hsq11 ++ ([(b9, .cells (cl u8 chain) 28 (0, 0))]))) := Mem.new (H := Hsq11 ++ ([(b9, .cells (cl u8 chain) 28 (0, 0))])) (H' := Hsq19) hm10 k_w18
            refine rw_q rfl (ev_assign (v := rxq19) rfl) ?_
            refine rw_nil ?_
            refine kThen_normal ?_
            refine cw_seq ?_
            refine cw_seq ?_
            refine cw_region ?_
            refine rw_q rfl (ev_move (v := (i64 (errK n))) s12) ?_
            refine rw_q rfl (ev_i64_neq (b := 0) rfl rfl) ?_
            refine rw_q rfl (ev_move (v := (bl ((errK n) != 0))) rfl) ?_
            have hd20 : ((errK n) != 0) = false := told_ne (errK_ok (by omega) (by omega))
            refine rw_gyq (s := 62) rfl rfl hd20 rfl (ev_move (v := vxq11) s11) ?_
            refine rw_gyq (s := 62) rfl rfl hd20 rfl (ev_len_rk (gvxq11.rd (Mem.pick Hsq19 Hsq11 _ hm18)) Tryd.underlying45 rfl) ?_
            refine rw_gyq (s := 62) rfl rfl hd20 rfl (ev_move (v := (i64 n)) s3) ?_
            refine rw_gyq (s := 62) rfl rfl hd20 rfl (ev_i64_neq rfl rfl) ?_
            refine rw_q rfl (ev_pick_fk rfl hd20 rfl) ?_
            refine rw_nil ?_
            refine kThen_normal ?_
            refine CW.abs (fun g => g 0 = va ∧ g 1 = vb ∧ g 2 = (Value.string pu) ∧ g 3 = (i64 n) ∧ g 4 = (agg u8 chain) ∧ g 9 = (ptr b9 0) ∧ g 10 = (bl false) ∧ g 11 = vxq11 ∧ g 12 = (i64 (errK n)) ∧ g 13 = rxq19 ∧ g 20 = (bl false) ∧ g 33 = (bl (decide (100 < (pu.size : Int)))) ∧ g 47 = (bl (decide (255 < n))) ∧ g 67 = (bl (((keysQ la lb (bytesL pu) n).length : Int) != n)) ∧ True) ⟨s0, s1, s2, s3, s4, s9, s10, s11, s12, rfl, s20, s33, s47, rfl, trivial⟩ ?_
            rintro fr21 ⟨s0, s1, s2, s3, s4, s9, s10, s11, s12, s13, s20, s33, s47, s67, _⟩
            have hd22 : (((keysQ la lb (bytesL pu) n).length : Int) != n) = false := told_ne (keysQ_len (by omega) (by omega))
            refine cw_cond_f s67 hd22 ?_
            refine cw_skip ?_
            refine kThen_normal ?_
            refine cw_seq ?_
            refine cw_seq ?_
            refine cw_region ?_
            refine rw_q rfl (ev_move (v := vxq11) s11) ?_
            refine rw_q (v := (i64 ((keysQ la lb (bytesL pu) n).length : Int))) rfl (ev_len_rk (gvxq11.rd (Mem.pick Hsq19 Hsq11 _ hm18)) Tryd.underlying45 rfl) ?_
            refine rw_q rfl (ev_move (v := (i64 0)) rfl) ?_
            refine rw_nil ?_
            refine kThen_normal ?_
            refine cw_block ?_
            refine cw_loop (fun g wv => ∃ (k : Nat), ((k : Int) ≤ ((keysQ la lb (bytesL pu) n).length : Int)) ∧ g 0 = va ∧ g 1 = vb ∧ g 2 = (Value.string pu) ∧ g 3 = (i64 n) ∧ g 4 = (agg u8 chain) ∧ g 9 = (ptr b9 0) ∧ g 11 = vxq11 ∧ g 12 = (i64 (errK n)) ∧ g 13 = rxq19 ∧ g 20 = (bl false) ∧ g 33 = (bl (decide (100 < (pu.size : Int)))) ∧ g 47 = (bl (decide (255 < n))) ∧ g 67 = (bl (((keysQ la lb (bytesL pu) n).length : Int) != n)) ∧ g 69 = (i64 ((keysQ la lb (bytesL pu) n).length : Int)) ∧ g 70 = (i64 (k : Int)) ∧ Mem wv (restOf w0) (Hsq19 ++ (Hsq11 ++ ([(b9, .cells (cl u8 chain) 28 (0, 0))])))) (fun g wv => (((keysQ la lb (bytesL pu) n).length : Int) - RowKit.intOf (g 70)).toNat) ?_ ?_
            · exact ⟨0, (by omega), s0, s1, s2, s3, s4, s9, s11, s12, s13, s20, s33, s47, s67, rfl, rfl, hm18⟩
            · rintro fr23 w24 ⟨k, hk, s0, s1, s2, s3, s4, s9, s11, s12, s13, s20, s33, s47, s67, s69, s70, hm24⟩
              have z70 := s70
              refine cw_seq ?_
              refine cw_region ?_
              refine rw_q rfl (ev_i64_lss s70 s69) ?_
              refine rw_nil ?_
              refine kThen_normal ?_
              refine cw_seq ?_
              refine cw_cond rfl (fun hc25 => ?_) (fun hc25 => ?_)
              · -- true
                have hc25p := of_decide_eq_true hc25
                have hkl := keysQ_len (a := la) (b := lb) (p := bytesL pu) (n := n) (by omega) (by omega)
                have hkq := keysQ_ok (a := la) (b := lb) (p := bytesL pu) (n := n) (by omega) (by omega)
                have hc1 : (keysQ la lb (bytesL pu) n).length = n.toNat := by omega
                have hc2 : ((chunksP n.toNat (expandP (extractP la lb) (bytesL pu) (32 * n.toNat))).getD k []).length = 32 := chunk_len (by omega) (by rw [expandP_length])
                have hc3 : ((keysQ la lb (bytesL pu) n).getD k []).length = 32 := by rw [hkq]; exact hc2
                refine cw_skip ?_
                refine kThen_normal ?_
                refine cw_seq ?_
                refine cw_block ?_
                refine cw_seq ?_
                refine cw_region ?_
                refine rw_q rfl (ev_move (v := (i64 (k : Int))) s70) ?_
                refine rw_q rfl (ev_assign (v := (i64 (k : Int))) rfl) ?_
                refine rw_nil ?_
                refine kThen_normal ?_
                refine cw_seq ?_
                refine cw_draw [(0, false), (1, false), (2, false), (3, false), (4, false), (5, false), (6, false), (7, false)] 8 (by kernel_rfl) ?_
                refine dw_q rfl rfl (fun _ _hx => ev_move (v := vxq11) s11) ?_
                refine dw_q rfl rfl (fun _ _hx => ev_move (v := (i64 (k : Int))) rfl) ?_
                refine dw_q rfl rfl (fun _ _hx => ev_indexAddr_rk (i := (k : Int)) (gvxq11.rd (Mem.pick Hsq19 Hsq11 _ (hm24.ext _hx))) Tryd.underlying45 ti28 rfl rfl (by omega) (by first | omega | (simp only [List.length_set, List.length_append, List.length_replicate, List.length_map, List.length_cons, List.length_nil]; omega) | (simp; done) | (simp; omega) | decide)) ?_
                refine dw_q (v := (agg u8 ((keysQ la lb (bytesL pu) n).getD k []))) rfl rfl (fun _ _hx => ev_load_rka (i := (k : Int)) (gvxq11.rd (Mem.pick Hsq19 Hsq11 _ (hm24.ext _hx))) (by first | omega | (simp only [List.length_set, List.length_append, List.length_replicate, List.length_map, List.length_cons, List.length_nil]; omega) | (simp; done) | (simp; omega) | decide) Tryd.underlying28 ti28 rfl rfl) ?_
                refine dw_q rfl rfl (fun _ _hx => ev_move (v := rxq19) s13) ?_
                refine dw_q rfl rfl (fun _ _hx => ev_move (v := (i64 (k : Int))) rfl) ?_
                refine dw_q rfl rfl (fun _ _hx => ev_indexAddr_rk (i := (k : Int)) (grxq19.rd (hm24.ext _hx)) Tryd.underlying45 ti28 rfl rfl (by omega) (by first | omega | (simp only [List.length_set, List.length_append, List.length_replicate, List.length_map, List.length_cons, List.length_nil]; omega) | (simp; done) | (simp; omega) | decide)) ?_
                refine dw_q (v := (agg u8 ((chunksP n.toNat (expandP (extractP la lb) (bytesL pu) (32 * n.toNat))).getD k []))) rfl rfl (fun _ _hx => ev_load_rka (i := (k : Int)) (grxq19.rd (hm24.ext _hx)) (by first | omega | (simp only [List.length_set, List.length_append, List.length_replicate, List.length_map, List.length_cons, List.length_nil]; omega) | (simp; done) | (simp; omega) | decide) Tryd.underlying28 ti28 rfl rfl) ?_
                refine dw_nil (fun w26 _ew26 => ?_)
                have hm26 := hm24.ext _ew26
                refine rw_q rfl (ev_u8arr_neq (l := (keysQ la lb (bytesL pu) n).getD k []) (m := (chunksP n.toNat (expandP (extractP la lb) (bytesL pu) (32 * n.toNat))).getD k []) Tryd.underlying28 Tryd.underlying5 ti5 Tryd.eqGuardType28 rfl rfl (by first | rfl | first | omega | (simp only [List.length_set, List.length_append, List.length_replicate, List.length_map, List.length_cons, List.length_nil]; omega) | (simp; done) | (simp; omega) | decide) (by first | rfl | first | omega | (simp only [List.length_set, List.length_append, List.length_replicate, List.length_map, List.length_cons, List.length_nil]; omega) | (simp; done) | (simp; omega) | decide)) ?_
                refine rw_nil ?_
                refine kThen_normal ?_
                refine CW.abs (fun g => g 0 = va ∧ g 1 = vb ∧ g 2 = (Value.string pu) ∧ g 3 = (i64 n) ∧ g 4 = (agg u8 chain) ∧ g 9 = (ptr b9 0) ∧ g 11 = vxq11 ∧ g 12 = (i64 (errK n)) ∧ g 13 = rxq19 ∧ g 14 = (i64 (k : Int)) ∧ g 20 = (bl false) ∧ g 33 = (bl (decide (100 < (pu.size : Int)))) ∧ g 47 = (bl (decide (255 < n))) ∧ g 67 = (bl (((keysQ la lb (bytesL pu) n).length : Int) != n)) ∧ g 69 = (i64 ((keysQ la lb (bytesL pu) n).length : Int)) ∧ g 70 = (i64 (k : Int)) ∧ g 71 = (bl (decide ((k : Int) < ((keysQ la lb (bytesL pu) n).length : Int)))) ∧ g 81 = (bl (((keysQ la lb (bytesL pu) n).getD k []) != ((chunksP n.toNat (expandP (extractP la lb) (bytesL pu) (32 * n.toNat))).getD k []))) ∧ True) ⟨s0, s1, s2, s3, s4, s9, s11, s12, s13, rfl, s20, s33, s47, s67, s69, s70, rfl, rfl, trivial⟩ ?_
                rintro fr27 ⟨s0, s1, s2, s3, s4, s9, s11, s12, s13, s14, s20, s33, s47, s67, s69, s70, s71, s81, _⟩
                have hd28 : (((keysQ la lb (bytesL pu) n).getD k []) != ((chunksP n.toNat (expandP (extractP la lb) (bytesL pu) (32 * n.toNat))).getD k [])) = false := told_ne (by rw [keysQ_ok (by omega) (by omega)])
                refine cw_cond_f s81 hd28 ?_
                refine cw_skip ?_
                refine kBlk_normal ?_
                refine cw_region ?_
                refine rw_q rfl (ev_i64_add (b := 1) s70 rfl (by omega) (by omega)) ?_
                refine rw_q rfl (ev_move (v := (i64 ((k : Int) + 1))) rfl) ?_
                refine rw_nil ?_
                refine kThen_normal ?_
                exact ⟨⟨k + 1, (by omega), s0, s1, s2, s3, s4, s9, s11, s12, s13, s20, s33, s47, s67, s69, rfl, hm26⟩, meas rfl z70 (by omega) (by omega)⟩
              · -- false
                have hc25p := of_decide_eq_false hc25
                refine cw_exit ?_
                refine kThen_exit (kThen_exit (kBlk_hit ?_))
                refine cw_seq ?_
                refine cw_region ?_
                refine rw_q (v := (agg u8 chain)) rfl (ev_loadA Tryd.underlying28 rfl ti28 s9 ((Mem.pick2 Hsq19 Hsq11 [_] _ hm24)).h0 (by rw [size_cl]; first | omega | (simp only [List.length_set, List.length_append, List.length_replicate, List.length_map, List.length_cons, List.length_nil]; omega) | (simp; done) | (simp; omega) | decide)) ?_
                refine rw_c rfl (opR_call Tryd.func28 bd28 nm28 (args1 rfl) (c_step chain _ (hT.mono fun b o e => (hm24).rest b o e) (by first | omega | (simp only [List.length_set, List.length_append, List.length_replicate, List.length_map, List.length_cons, List.length_nil]; omega) | (simp; done) | (simp; omega) | decide))) ?_
                rintro _ w29 ⟨rfl, _ew29⟩
                have hm29 := hm24.ext _ew29
                refine rw_q rfl (ev_move (v := (Value.tuple #[(agg u8 (hmacP chain [2#8])), (agg u8 (hmacP chain [1#8]))])) rfl) ?_
                refine rw_q (v := (agg u8 (hmacP chain [2#8]))) rfl (ev_extract rfl rfl) ?_
                refine rw_q (v := (agg u8 (hmacP chain [1#8]))) rfl (ev_extract rfl rfl) ?_
                refine rw_c rfl (or_alloc_agg hm29 ti28) ?_
                rintro _ w31 ⟨b15, rfl, _ew31, hm31⟩
                refine rw_c rfl (or_alloc_agg hm31 ti28) ?_
                rintro _ w32 ⟨b16, rfl, _ew32, hm32⟩
                refine rw_n (or_store_agg (f := u8) (l := hmacP chain [2#8]) u8_one ti28 rfl rfl (by first | omega | (simp only [List.length_set, List.length_append, List.length_replicate, List.length_map, List.length_cons, List.length_nil]; omega) | (simp; done) | (simp; omega) | decide) hm32.h1 (by rw [size_cl]; first | omega | (simp only [List.length_set, List.length_append, List.length_replicate, List.length_map, List.length_cons, List.length_nil]; omega) | (simp; done) | (simp; omega) | decide) rfl) ?_
                rintro _ w33 uq33
                have hm33 := hm32.upd1 uq33
                refine rw_n (or_store_agg (f := u8) (l := hmacP chain [1#8]) u8_one ti28 rfl rfl (by first | omega | (simp only [List.length_set, List.length_append, List.length_replicate, List.length_map, List.length_cons, List.length_nil]; omega) | (simp; done) | (simp; omega) | decide) hm33.h0 (by rw [size_cl]; first | omega | (simp only [List.length_set, List.length_append, List.length_replicate, List.length_map, List.length_cons, List.length_nil]; omega) | (simp; done) | (simp; omega) | decide) rfl) ?_
                rintro _ w34 uq34
                have hm34 := hm33.upd0 uq34
                refine rw_nil ?_
                refine kThen_normal ?_
                refine cw_seq ?_
                refine cw_region ?_
                refine rw_q (v := (agg u8 chain)) rfl (ev_loadA Tryd.underlying28 rfl ti28 s9 ((Mem.pick3 [_, _] Hsq19 Hsq11 [_] _ hm34)).h0 (by rw [size_cl]; first | omega | (simp only [List.length_set, List.length_append, List.length_replicate, List.length_map, List.length_cons, List.length_nil]; omega) | (simp; done) | (simp; omega) | decide)) ?_
                refine rw_c rfl (opR_call Tryd.func29 bd29 nm29 (args1 rfl) (c_rstep chain _ (by first | omega | (simp only [List.length_set, List.length_append, List.length_replicate, List.length_map, List.length_cons, List.length_nil]; omega) | (simp; done) | (simp; omega) | decide))) ?_
                rintro _ w35 ⟨rfl, _ew35⟩
                have hm35 := hm34.ext _ew35
                refine rw_q rfl (ev_move (v := (Value.tuple #[(agg u8 (hmacP chain [2#8])), (agg u8 (hmacP chain [1#8]))])) rfl) ?_
                refine rw_q (v := (agg u8 (hmacP chain [2#8]))) rfl (ev_extract rfl rfl) ?_
                refine rw_q (v := (agg u8 (hmacP chain [1#8]))) rfl (ev_extract rfl rfl) ?_
                refine rw_c rfl (or_alloc_agg hm35 ti28) ?_
                rintro _ w37 ⟨b17, rfl, _ew37, hm37⟩
                refine rw_c rfl (or_alloc_agg hm37 ti28) ?_
                rintro _ w38 ⟨b18, rfl, _ew38, hm38⟩
                refine rw_n (or_store_agg (f := u8) (l := hmacP chain [2#8]) u8_one ti28 rfl rfl (by first | omega | (simp only [List.length_set, List.length_append, List.length_replicate, List.length_map, List.length_cons, List.length_nil]; omega) | (simp; done) | (simp; omega) | decide) hm38.h1 (by rw [size_cl]; first | omega | (simp only [List.length_set, List.length_append, List.length_replicate, List.length_map, List.length_cons, List.length_nil]; omega) | (simp; done) | (simp; omega) | decide) rfl) ?_
                rintro _ w39 uq39
                have hm39 := hm38.upd1 uq39
                refine rw_n (or_store_agg (f := u8) (l := hmacP chain [1#8]) u8_one ti28 rfl rfl (by first | omega | (simp only [List.length_set, List.length_append, List.length_replicate, List.length_map, List.length_cons, List.length_nil]; omega) | (simp; done) | (simp; omega) | decide) hm39.h0 (by rw [size_cl]; first | omega | (simp only [List.length_set, List.length_append, List.length_replicate, List.length_map, List.length_cons, List.length_nil]; omega) | (simp; done) | (simp; omega) | decide) rfl) ?_
                rintro _ w40 uq40
                have hm40 := hm39.upd0 uq40
                refine rw_nil ?_
                refine kThen_normal ?_
                refine CW.abs (fun g => g 0 = va ∧ g 1 = vb ∧ g 2 = (Value.string pu) ∧ g 3 = (i64 n) ∧ g 4 = (agg u8 chain) ∧ g 9 = (ptr b9 0) ∧ g 11 = vxq11 ∧ g 12 = (i64 (errK n)) ∧ g 13 = rxq19 ∧ g 15 = (ptr b15 0) ∧ g 16 = (ptr b16 0) ∧ g 17 = (ptr b17 0) ∧ g 18 = (ptr b18 0) ∧ g 20 = (bl false) ∧ g 33 = (bl (decide (100 < (pu.size : Int)))) ∧ g 47 = (bl (decide (255 < n))) ∧ g 67 = (bl (((keysQ la lb (bytesL pu) n).length : Int) != n)) ∧ g 69 = (i64 ((keysQ la lb (bytesL pu) n).length : Int)) ∧ g 70 = (i64 (k : Int)) ∧ g 71 = (bl (decide ((k : Int) < ((keysQ la lb (bytesL pu) n).length : Int)))) ∧ True) ⟨s0, s1, s2, s3, s4, s9, s11, s12, s13, rfl, rfl, rfl, rfl, s20, s33, s47, s67, s69, s70, rfl, trivial⟩ ?_
                rintro fr41 ⟨s0, s1, s2, s3, s4, s9, s11, s12, s13, s15, s16, s17, s18, s20, s33, s47, s67, s69, s70, s71, _⟩
                refine cw_seq ?_
                refine cw_region ?_
                refine rw_q (v := (agg u8 (hmacP chain [2#8]))) rfl (ev_loadA Tryd.underlying28 rfl ti28 s15 hm40.h3 (by rw [size_cl]; first | omega | (simp only [List.length_set, List.length_append, List.length_replicate, List.length_map, List.length_cons, List.length_nil]; omega) | (simp; done) | (simp; omega) | decide)) ?_
                refine rw_q (v := (agg u8 (hmacP chain [2#8]))) rfl (ev_loadA Tryd.underlying28 rfl ti28 s17 hm40.h1 (by rw [size_cl]; first | omega | (simp only [List.length_set, List.length_append, List.length_replicate, List.length_map, List.length_cons, List.length_nil]; omega) | (simp; done) | (simp; omega) | decide)) ?_
                refine rw_q rfl (ev_u8arr_eql (l := hmacP chain [2#8]) (m := hmacP chain [2#8]) Tryd.underlying28 Tryd.underlying5 ti5 Tryd.eqGuardType28 rfl rfl (by first | rfl | first | omega | (simp only [List.length_set, List.length_append, List.length_replicate, List.length_map, List.length_cons, List.length_nil]; omega) | (simp; done) | (simp; omega) | decide) (by first | rfl | first | omega | (simp only [List.length_set, List.length_append, List.length_replicate, List.length_map, List.length_cons, List.length_nil]; omega) | (simp; done) | (simp; omega) | decide)) ?_
                refine rw_q rfl (ev_move (v := (bl ((hmacP chain [2#8]) == (hmacP chain [2#8])))) rfl) ?_
                have hd42 : ((hmacP chain [2#8]) == (hmacP chain [2#8])) = true := told_true rfl
                refine rw_gyq (s := 96) rfl rfl hd42 rfl (ev_loadA Tryd.underlying28 rfl ti28 s16 hm40.h2 (by rw [size_cl]; first | omega | (simp only [List.length_set, List.length_append, List.length_replicate, List.length_map, List.length_cons, List.length_nil]; omega) | (simp; done) | (simp; omega) | decide)) ?_
                refine rw_gyq (s := 96) rfl rfl hd42 rfl (ev_loadA Tryd.underlying28 rfl ti28 s18 hm40.h0 (by rw [size_cl]; first | omega | (simp only [List.length_set, List.length_append, List.length_replicate, List.length_map, List.length_cons, List.length_nil]; omega) | (simp; done) | (simp; omega) | decide)) ?_
                refine rw_gyq (s := 96) rfl rfl hd42 rfl (ev_u8arr_eql (l := hmacP chain [1#8]) (m := hmacP chain [1#8]) Tryd.underlying28 Tryd.underlying5 ti5 Tryd.eqGuardType28 rfl rfl (by first | rfl | first | omega | (simp only [List.length_set, List.length_append, List.length_replicate, List.length_map, List.length_cons, List.length_nil]; omega) | (simp; done) | (simp; omega) | decide) (by first | rfl | first | omega | (simp only [List.length_set, List.length_append, List.length_replicate, List.length_map, List.length_cons, List.length_nil]; omega) | (simp; done) | (simp; omega) | decide)) ?_
                refine rw_q rfl (ev_pick_tk rfl hd42 rfl) ?_
                refine rw_q rfl (ev_assign (v := (bl ((hmacP chain [1#8]) == (hmacP chain [1#8])))) rfl) ?_
                refine rw_nil ?_
                refine kThen_normal ?_
                refine cw_ret ?_
                refine fnPost_ret [(bl ((hmacP chain [1#8]) == (hmacP chain [1#8])))] ⟨rfl, trivial⟩ ?_
                exact ⟨congrArg bl (told_true rfl), Mem.below w0 hm40⟩


end Go.Proofs.YtehkomhnmipnbaaDoor
