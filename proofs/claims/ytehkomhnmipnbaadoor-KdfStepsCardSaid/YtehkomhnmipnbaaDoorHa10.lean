/- The law of the parts: its walk. Conditions: none beyond those that each theorem states. -/
import Derived.Test.YtehkomhnmipnbaaDoorHa8
namespace Go.Proofs.YtehkomhnmipnbaaDoor
set_option linter.unusedVariables false
set_option linter.unusedSimpArgs false

def greatP (ps : List (Value × List (BitVec 8))) : Bool := decide (40 < (ps.length : Int)) || ps.any (fun p => decide (500 < p.2.length))
theorem great_len {ps : List (Value × List (BitVec 8))} (h : 40 < (ps.length : Int)) : true = greatP ps := by unfold greatP; simp [h]
theorem great_at {ps : List (Value × List (BitVec 8))} {k : Nat} (hk : k < ps.length) (h : 500 < (((ps.getD k (undef, [])).2.length : Nat) : Int)) : true = greatP ps := by
  unfold greatP
  have : ps.any (fun p => decide (500 < p.2.length)) = true := List.any_eq_true.2 ⟨_, getD_in (z := (undef, [])) hk, by show decide _ = true; exact decide_eq_true (by omega)⟩
  rw [this]; simp
theorem great_no {ps : List (Value × List (BitVec 8))} (h : ¬ 40 < (ps.length : Int)) (hall : ∀ j, j < ps.length → ¬ 500 < (ps.getD j (undef, [])).2.length) : false = greatP ps := by
  unfold greatP
  have h1 : decide (40 < (ps.length : Int)) = false := by simpa using h
  rw [h1, Bool.false_or]
  symm
  rw [List.any_eq_false]
  intro p hp
  obtain ⟨i, hi, rfl⟩ := List.getElem_of_mem hp
  have := hall i hi
  simpa [List.getD_eq_getElem?_getD, hi] using this
theorem great_false {ps : List (Value × List (BitVec 8))} (h : greatP ps = false) : ps.length ≤ 40 ∧ (joinL ps).length ≤ 20000 := by
  unfold greatP at h
  simp only [Bool.or_eq_false_iff, decide_eq_false_iff_not, List.any_eq_false] at h
  obtain ⟨h1, h2⟩ := h
  have h3 : ∀ qs : List (Value × List (BitVec 8)), (∀ p ∈ qs, p.2.length ≤ 500) → (joinL qs).length ≤ 500 * qs.length := by
    intro qs
    induction qs with
    | nil => intro _; simp [joinL]
    | cons q qs ih =>
      intro hq
      have a := hq q (by simp)
      have b := ih fun p hp => hq p (by simp [hp])
      simp only [joinL, List.flatMap_cons, List.length_append, List.length_cons] at b ⊢
      omega
  have h4 := h3 ps fun p hp => by have := h2 p hp; simp at this; omega
  omega
theorem joinL_le2 (ps : List (Value × List (BitVec 8))) (k : Nat) : (joinL (ps.take k)).length + (ps.getD k (undef, [])).2.length ≤ (joinL ps).length := by
  by_cases h : k < ps.length
  · have := joinL_succ ps k h
    have h2 : joinL ps = joinL (ps.take (k + 1)) ++ joinL (ps.drop (k + 1)) := by unfold joinL; rw [← List.flatMap_append, List.take_append_drop]
    rw [h2, this]; simp only [List.length_append]; omega
  · rw [List.take_of_length_le (by omega)]
    have e : ps.getD k (undef, []) = (undef, []) := by simp [List.getD_eq_getElem?_getD, Nat.le_of_not_lt h]
    rw [e]; simp
theorem told_ne {α : Type} [BEq α] [LawfulBEq α] {a b : α} (h : a = b) : (a != b) = false := by rw [h]; simp
attribute [local irreducible] sumP digestP maskedP hmacP

theorem c_great01 (vp : Value) (ps : List (Value × List (BitVec 8))) (w0 : World)  (hrp : Rd (blks w0) Prod.fst vp ps) (hps : ∀ p ∈ ps, Rd (blks w0) u8 p.1 p.2) (hpn : ps.length ≤ 9223372036854775807) : CallsR Tryd.prog 19 #[vp] w0 (fun r w1 => r = (bl (greatP ps)) ∧ Ext w0 w1) := by
  refine callsR_of_cw (args := [vp]) Tryd.func19 rfl Tryd.ntmps19 Tryd.results19 rfl ?_
  have hm0 : Mem w0 (restOf w0) [] := Mem.of_world w0
  refine cw_seq ?_
  refine cw_region ?_
  refine rw_q rfl (ev_assign (v := (bl false)) rfl) ?_
  refine rw_nil ?_
  refine kThen_normal ?_
  refine cw_seq ?_
  refine cw_seq ?_
  refine cw_region ?_
  refine rw_q rfl (ev_move (v := vp) rfl) ?_
  refine rw_q (v := (i64 (ps.length : Int))) rfl (ev_len_rd (Rd.ofRest hrp hm0) Tryd.underlying35 rfl) ?_
  refine rw_q rfl (ev_i64_gtr (b := 40) rfl rfl) ?_
  refine rw_nil ?_
  refine kThen_normal ?_
  refine cw_cond rfl (fun hc1 => ?_) (fun hc1 => ?_)
  · -- true
    have hc1p := of_decide_eq_true hc1
    refine cw_seq ?_
    refine cw_region ?_
    refine rw_q rfl (ev_assign (v := (bl true)) rfl) ?_
    refine rw_nil ?_
    refine kThen_normal ?_
    refine cw_ret ?_
    refine kThen_ret ?_
    refine fnPost_ret [(bl true)] ⟨rfl, trivial⟩ ?_
    exact ⟨congrArg bl (great_len hc1p), hm0.toExt⟩
  · -- false
    have hc1p := of_decide_eq_false hc1
    refine cw_skip ?_
    refine kThen_normal ?_
    refine cw_seq ?_
    refine cw_seq ?_
    refine cw_region ?_
    refine rw_q rfl (ev_move (v := vp) rfl) ?_
    refine rw_q (v := (i64 (ps.length : Int))) rfl (ev_len_rd (Rd.ofRest hrp hm0) Tryd.underlying35 rfl) ?_
    refine rw_q rfl (ev_move (v := (i64 0)) rfl) ?_
    refine rw_nil ?_
    refine kThen_normal ?_
    refine cw_block ?_
    refine cw_loop (fun g wv => ∃ (k : Nat), (k ≤ ps.length) ∧ (∀ j, j < k → ¬ 500 < (ps.getD j (undef, [])).2.length) ∧ g 0 = vp ∧ g 7 = (bl (decide (40 < (ps.length : Int)))) ∧ g 8 = vp ∧ g 9 = (i64 (ps.length : Int)) ∧ g 10 = (i64 (k : Int)) ∧ Mem wv (restOf w0) []) (fun g wv => ((ps.length : Int) - RowKit.intOf (g 10)).toNat) ?_ ?_
    · exact ⟨0, (by omega), (by intro j hj; omega), rfl, rfl, rfl, rfl, rfl, hm0⟩
    · rintro fr2 w3 ⟨k, hk, hall, s0, s7, s8, s9, s10, hm3⟩
      have z10 := s10
      refine cw_seq ?_
      refine cw_region ?_
      refine rw_q rfl (ev_i64_lss s10 s9) ?_
      refine rw_nil ?_
      refine kThen_normal ?_
      refine cw_seq ?_
      refine cw_cond rfl (fun hc4 => ?_) (fun hc4 => ?_)
      · -- true
        have hc4p := of_decide_eq_true hc4
        refine cw_skip ?_
        refine kThen_normal ?_
        refine cw_seq ?_
        refine cw_block ?_
        refine cw_seq ?_
        refine cw_region ?_
        refine rw_q rfl (ev_indexAddr_rdv (Rd.ofRest hrp hm3) Tryd.underlying35 ti22 s8 s10 (by omega) (by first | omega | (simp only [List.length_set, List.length_append, List.length_replicate, List.length_map, List.length_cons, List.length_nil]; omega) | (simp; done) | (simp; omega) | decide)) ?_
        refine rw_q (v := ((ps.getD k (undef, [])).1)) rfl (ev_load_rdD (l := ps) (i := (k : Int)) (dflt := (undef, [])) (Rd.ofRest hrp hm3) Tryd.underlying22 rfl (by omega) (by first | omega | (simp only [List.length_set, List.length_append, List.length_replicate, List.length_map, List.length_cons, List.length_nil]; omega) | (simp; done) | (simp; omega) | decide) rfl) ?_
        refine rw_q rfl (ev_assign (v := ((ps.getD k (undef, [])).1)) rfl) ?_
        refine rw_nil ?_
        refine kThen_normal ?_
        refine cw_seq ?_
        refine cw_region ?_
        refine rw_q rfl (ev_move (v := ((ps.getD k (undef, [])).1)) rfl) ?_
        refine rw_q (v := (i64 (((ps.getD k (undef, [])).2).length : Int))) rfl (ev_len_rd (Rd.ofRest (hps _ (getD_in (z := (undef, [])) (by omega))) hm3) Tryd.underlying22 rfl) ?_
        refine rw_q rfl (ev_i64_gtr (b := 500) rfl rfl) ?_
        refine rw_nil ?_
        refine kThen_normal ?_
        refine cw_cond rfl (fun hc5 => ?_) (fun hc5 => ?_)
        · -- true
          have hc5p := of_decide_eq_true hc5
          refine cw_seq ?_
          refine cw_region ?_
          refine rw_q rfl (ev_assign (v := (bl true)) rfl) ?_
          refine rw_nil ?_
          refine kThen_normal ?_
          refine cw_ret ?_
          refine kBlk_ret (kThen_ret (kBlk_ret ?_))
          refine fnPost_ret [(bl true)] ⟨rfl, trivial⟩ ?_
          exact ⟨congrArg bl (great_at (by omega) hc5p), hm3.toExt⟩
        · -- false
          have hc5p := of_decide_eq_false hc5
          refine cw_skip ?_
          refine kBlk_normal ?_
          refine cw_region ?_
          refine rw_q rfl (ev_i64_add (b := 1) s10 rfl (by omega) (by omega)) ?_
          refine rw_q rfl (ev_move (v := (i64 ((k : Int) + 1))) rfl) ?_
          refine rw_nil ?_
          refine kThen_normal ?_
          exact ⟨⟨k + 1, (by omega), (by intro j hj; by_cases h1 : j < k; exact hall j h1; have e : j = k := (by omega); rw [e]; omega), s0, s7, s8, s9, rfl, hm3⟩, meas rfl z10 (by omega) (by omega)⟩
      · -- false
        have hc4p := of_decide_eq_false hc4
        refine cw_exit ?_
        refine kThen_exit (kThen_exit (kBlk_hit ?_))
        refine cw_seq ?_
        refine cw_region ?_
        refine rw_q rfl (ev_assign (v := (bl false)) rfl) ?_
        refine rw_nil ?_
        refine kThen_normal ?_
        refine cw_ret ?_
        refine fnPost_ret [(bl false)] ⟨rfl, trivial⟩ ?_
        exact ⟨congrArg bl (great_no hc1p (fun j hj => hall j (by omega))), hm3.toExt⟩

set_option maxHeartbeats 1000000 in
theorem law_parts (va : Value) (la : List (BitVec 8)) (vp : Value) (ps : List (Value × List (BitVec 8))) (w0 : World)  (hT : Tabs (blks w0)) (hra : Rd (blks w0) u8 va la) (hla : la.length ≤ 9223372036854775807) (hrp : Rd (blks w0) Prod.fst vp ps) (hps : ∀ p ∈ ps, Rd (blks w0) u8 p.1 p.2) (hpn : ps.length ≤ 9223372036854775807) : CallsR Tryd.prog 5 #[va, vp] w0 (fun r w1 => r = bl true ∧ RowKit.Below w0.heap.size w0 w1) := by
  refine callsR_of_cw (args := [va, vp]) Tryd.func5 rfl Tryd.ntmps5 Tryd.results5 rfl ?_
  have hm0 : Mem w0 (restOf w0) [] := Mem.of_world w0
  refine cw_seq ?_
  refine cw_region ?_
  refine rw_q rfl (ev_assign (v := (bl false)) rfl) ?_
  refine rw_nil ?_
  refine kThen_normal ?_
  refine cw_seq ?_
  refine cw_seq ?_
  refine cw_region ?_
  refine rw_c rfl (opR_call Tryd.func11 bd11 nm11 (args0) (c_speaks01 _ (hT.mono fun b o e => (hm0).rest b o e))) ?_
  rintro _ w1 ⟨rfl, _ew1⟩
  have hm1 := hm0.ext _ew1
  refine rw_q (v := (bl false)) rfl (ev_not (b := true) rfl) ?_
  refine rw_nil ?_
  refine kThen_normal ?_
  refine cw_cond_f rfl (by decide) ?_
  refine cw_skip ?_
  refine kThen_normal ?_
  refine cw_seq ?_
  refine cw_seq ?_
  refine cw_region ?_
  refine rw_q rfl (ev_move (v := va) rfl) ?_
  refine rw_q (v := (i64 (la.length : Int))) rfl (ev_len_rd (Rd.ofRest hra hm1) Tryd.underlying22 rfl) ?_
  refine rw_q rfl (ev_i64_gtr (b := 300) rfl rfl) ?_
  refine rw_q rfl (ev_move (v := (bl (decide (300 < (la.length : Int))))) rfl) ?_
  rcases Bool.eq_false_or_eq_true (decide (300 < (la.length : Int))) with hb3 | hb3
  · -- true
    have hb3p := of_decide_eq_true hb3
    refine rw_gn (s := 16) rfl rfl hb3 rfl ?_
    refine rw_gn (s := 16) rfl rfl hb3 rfl ?_
    refine rw_q rfl (ev_pick_tk rfl hb3 rfl) ?_
    refine rw_nil ?_
    refine kThen_normal ?_
    refine cw_cond_t rfl (by decide) ?_
    refine cw_seq ?_
    refine cw_region ?_
    refine rw_q rfl (ev_assign (v := (bl true)) rfl) ?_
    refine rw_nil ?_
    refine kThen_normal ?_
    refine CW.abs (fun g => g 0 = va ∧ g 1 = vp ∧ g 4 = (bl true) ∧ g 12 = (bl false) ∧ g 19 = (bl true) ∧ True) ⟨rfl, rfl, rfl, rfl, rfl, trivial⟩ ?_
    rintro fr4 ⟨s0, s1, s4, s12, s19, _⟩
    refine cw_ret ?_
    refine kThen_ret ?_
    refine fnPost_ret [(bl true)] ⟨s4, trivial⟩ ?_
    exact ⟨rfl, Mem.below w0 hm1⟩
  · -- false
    have hb3p := of_decide_eq_false hb3
    refine rw_gyq (s := 16) rfl rfl hb3 rfl (ev_move (v := vp) rfl) ?_
    refine rw_gy (s := 16) rfl rfl hb3 rfl (opR_call Tryd.func19 bd19 nm19 (args1 rfl) (c_great01 vp ps _ (Rd.ofRest hrp hm1) (fun p hp => Rd.ofRest (hps p hp) hm1) (by first | omega | (simp only [List.length_set, List.length_append, List.length_replicate, List.length_map, List.length_cons, List.length_nil]; omega) | (simp; done) | (simp; omega) | decide))) ?_
    rintro _ w5 ⟨rfl, _ew5⟩
    have hm5 := hm1.ext _ew5
    refine rw_q rfl (ev_pick_fk rfl hb3 rfl) ?_
    refine rw_nil ?_
    refine kThen_normal ?_
    refine cw_cond rfl (fun hc7 => ?_) (fun hc7 => ?_)
    · -- true
      refine cw_seq ?_
      refine cw_region ?_
      refine rw_q rfl (ev_assign (v := (bl true)) rfl) ?_
      refine rw_nil ?_
      refine kThen_normal ?_
      refine CW.abs (fun g => g 0 = va ∧ g 1 = vp ∧ g 4 = (bl true) ∧ g 12 = (bl false) ∧ g 19 = (bl (greatP ps)) ∧ True) ⟨rfl, rfl, rfl, rfl, rfl, trivial⟩ ?_
      rintro fr8 ⟨s0, s1, s4, s12, s19, _⟩
      refine cw_ret ?_
      refine kThen_ret ?_
      refine fnPost_ret [(bl true)] ⟨s4, trivial⟩ ?_
      exact ⟨rfl, Mem.below w0 hm5⟩
    · -- false
      obtain ⟨hp40, hjl⟩ := great_false hc7
      refine cw_skip ?_
      refine kThen_normal ?_
      refine cw_seq ?_
      refine cw_region ?_
      refine rw_c rfl (opR_call Tryd.func12 bd12 nm12 (args0) (c_hnew _ (hT.mono fun b o e => (hm5).rest b o e))) ?_
      rintro _ w9 ⟨bq10, rfl, k_w9⟩
      have hm9 : Mem w9 (restOf w0) [(bq10, .cells #[(u32 1779033703#32), (u32 3144134277#32), (u32 1013904242#32), (u32 2773480762#32), (u32 1359893119#32), (u32 2600822924#32), (u32 528734635#32), (u32 1541459225#32), (Value.slice none 0 0), (u64 0#64)] 57 (0, 0))] := Mem.new (H := []) (H' := [(bq10, .cells #[(u32 1779033703#32), (u32 3144134277#32), (u32 1013904242#32), (u32 2773480762#32), (u32 1359893119#32), (u32 2600822924#32), (u32 528734635#32), (u32 1541459225#32), (Value.slice none 0 0), (u64 0#64)] 57 (0, 0))]) hm5 k_w9
      refine rw_c rfl (or_buildSlice_cl u8 [] u8_one hm9 Tryd.underlying22 ti5 rfl (by simp [pairs]) rfl) ?_
      rintro _ w11 ⟨b21, rfl, _ew11, hm11⟩
      refine rw_q rfl (ev_assign (v := (ptr bq10 0)) rfl) ?_
      refine rw_q rfl (ev_assign (v := (slc b21 0 0 0)) rfl) ?_
      refine rw_nil ?_
      refine kThen_normal ?_
      refine CW.abs (fun g => g 0 = va ∧ g 1 = vp ∧ g 4 = (bl false) ∧ g 5 = (ptr bq10 0) ∧ g 6 = (slc b21 0 0 0) ∧ g 12 = (bl false) ∧ g 19 = (bl (greatP ps)) ∧ True) ⟨rfl, rfl, rfl, rfl, rfl, rfl, rfl, trivial⟩ ?_
      rintro fr12 ⟨s0, s1, s4, s5, s6, s12, s19, _⟩
      refine cw_seq ?_
      refine cw_seq ?_
      refine cw_region ?_
      refine rw_q rfl (ev_move (v := vp) s1) ?_
      refine rw_q (v := (i64 (ps.length : Int))) rfl (ev_len_rd (Rd.ofRest hrp hm11) Tryd.underlying35 rfl) ?_
      refine rw_q rfl (ev_move (v := (i64 0)) rfl) ?_
      refine rw_nil ?_
      refine kThen_normal ?_
      refine cw_block ?_
      refine cw_loop (fun g wv => ∃ (k : Nat) (zw0 zw1 zw2 zw3 zw4 zw5 zw6 zw7 : BitVec 32) (sv3 : Value) (l3 : List (BitVec 8)) (Hs3 : List (Nat × Obj)) (nn : BitVec 64) (sal : Value) (Hal : List (Nat × Obj)), (k ≤ ps.length) ∧ (Holds (joinL (ps.take k)) [zw0, zw1, zw2, zw3, zw4, zw5, zw6, zw7] l3 nn) ∧ (Grow u8 5 sv3 l3 Hs3) ∧ (Grow u8 5 sal (joinL (ps.take k)) Hal) ∧ g 0 = va ∧ g 1 = vp ∧ g 5 = (ptr bq10 0) ∧ g 6 = sal ∧ g 12 = (bl false) ∧ g 19 = (bl (greatP ps)) ∧ g 22 = vp ∧ g 23 = (i64 (ps.length : Int)) ∧ g 24 = (i64 (k : Int)) ∧ Mem wv (restOf w0) ([(bq10, .cells #[(u32 zw0), (u32 zw1), (u32 zw2), (u32 zw3), (u32 zw4), (u32 zw5), (u32 zw6), (u32 zw7), sv3, (u64 nn)] 57 (0, 0))] ++ (Hs3 ++ (Hal ++ ([]))))) (fun g wv => ((ps.length : Int) - RowKit.intOf (g 24)).toNat) ?_ ?_
      have hm13 := (Mem.pick [_] [_] _ hm11)
      · exact ⟨0, 1779033703#32, 3144134277#32, 1013904242#32, 2773480762#32, 1359893119#32, 2600822924#32, 528734635#32, 1541459225#32, (Value.slice none 0 0), [], [], 0#64, (slc b21 0 0 0), [(b21, .cells (cl u8 ([])) 5 (0, 0))], (by omega), (by simpa [joinL] using Holds.new), (Grow.none u8 5), (by simpa [joinL] using Grow.of u8 5 b21 []), s0, s1, s5, s6, s12, s19, rfl, rfl, rfl, hm13⟩
      · rintro fr14 w15 ⟨k, zw0, zw1, zw2, zw3, zw4, zw5, zw6, zw7, sv3, l3, Hs3, nn, sal, Hal, hk, hH, gl3, gal, s0, s1, s5, s6, s12, s19, s22, s23, s24, hm15⟩
        have z24 := s24
        have z6 := s6
        have hlt := hH.lt
        have hpk := joinL_le ps k
        have hpk2 := joinL_le2 ps k
        refine cw_seq ?_
        refine cw_region ?_
        refine rw_q rfl (ev_i64_lss s24 s23) ?_
        refine rw_nil ?_
        refine kThen_normal ?_
        refine cw_seq ?_
        refine cw_cond rfl (fun hc16 => ?_) (fun hc16 => ?_)
        · -- true
          have hc16p := of_decide_eq_true hc16
          refine cw_skip ?_
          refine kThen_normal ?_
          refine cw_seq ?_
          refine cw_block ?_
          refine cw_seq ?_
          refine cw_region ?_
          refine rw_q rfl (ev_indexAddr_rdv (Rd.ofRest hrp hm15) Tryd.underlying35 ti22 s22 s24 (by omega) (by first | omega | (simp only [List.length_set, List.length_append, List.length_replicate, List.length_map, List.length_cons, List.length_nil]; omega) | (simp; done) | (simp; omega) | decide)) ?_
          refine rw_q (v := ((ps.getD k (undef, [])).1)) rfl (ev_load_rdD (l := ps) (i := (k : Int)) (dflt := (undef, [])) (Rd.ofRest hrp hm15) Tryd.underlying22 rfl (by omega) (by first | omega | (simp only [List.length_set, List.length_append, List.length_replicate, List.length_map, List.length_cons, List.length_nil]; omega) | (simp; done) | (simp; omega) | decide) rfl) ?_
          refine rw_q rfl (ev_assign (v := ((ps.getD k (undef, [])).1)) rfl) ?_
          refine rw_nil ?_
          refine kThen_normal ?_
          refine cw_seq ?_
          refine cw_region ?_
          refine rw_c rfl (or_buildSlice_cl u8 [] u8_one hm15 Tryd.underlying22 ti5 rfl (by simp [pairs]) rfl) ?_
          rintro _ w17 ⟨b28, rfl, _ew17, hm17⟩
          refine rw_q rfl (ev_move (v := ((ps.getD k (undef, [])).1)) rfl) ?_
          refine rw_c rfl (or_append (f := u8) (Hs := [(b28, .cells (cl u8 ([])) 5 (0, 0))]) (H := [(bq10, .cells #[(u32 zw0), (u32 zw1), (u32 zw2), (u32 zw3), (u32 zw4), (u32 zw5), (u32 zw6), (u32 zw7), sv3, (u64 nn)] 57 (0, 0))] ++ (Hs3 ++ (Hal ++ ([])))) hm17 (Grow.of u8 5 b28 ([])) rfl rfl (Rd.ofRest (hps _ (getD_in (z := (undef, [])) (by omega))) hm17) Tryd.underlying22 Tryd.underlying22 ti5 rfl u8_one (by first | omega | (simp only [List.length_set, List.length_append, List.length_replicate, List.length_map, List.length_cons, List.length_nil]; omega) | (simp; done) | (simp; omega) | decide) (by first | omega | (simp only [List.length_set, List.length_append, List.length_replicate, List.length_map, List.length_cons, List.length_nil]; omega) | (simp; done) | (simp; omega) | decide)) ?_
          rintro sv18 w18 ⟨Hs18, hm18, g18⟩
          replace g18 : Grow u8 5 sv18 ((ps.getD k (undef, [])).2) Hs18 := g18
          refine rw_q rfl (ev_assign (v := sv18) rfl) ?_
          refine rw_nil ?_
          refine kThen_normal ?_
          refine cw_seq ?_
          refine cw_region ?_
          refine rw_q rfl (ev_move (v := (ptr bq10 0)) s5) ?_
          refine rw_q rfl (ev_move (v := sv18) rfl) ?_
          have hF20 : Mem w18 (restOf w0) (([(bq10, .cells #[(u32 zw0), (u32 zw1), (u32 zw2), (u32 zw3), (u32 zw4), (u32 zw5), (u32 zw6), (u32 zw7), sv3, (u64 nn)] 57 (0, 0))] ++ (Hs3 ++ ([]))) ++ (Hs18 ++ (Hal ++ ([])))) := by
            have hT := (Mem.pick2 Hs3 Hs18 [_] _ (Mem.pick2 Hs18 [_] Hs3 _ hm18))
            simp only [List.append_assoc, List.cons_append, List.nil_append, List.append_nil] at hT ⊢
            exact hT
          refine rw_c rfl (opR_call Tryd.func13 bd13 nm13 (args2 rfl rfl) (c_write bq10 zw0 zw1 zw2 zw3 zw4 zw5 zw6 zw7 sv3 l3 Hs3 nn sv18 ((ps.getD k (undef, [])).2) _ _ (Mem.give hF20) (hT.mono fun b o e => Mem.addRest hF20 e) (g18.rdAdd hF20 (fun p hp => (List.mem_append_left _ hp))) gl3 (by first | omega | (simp only [List.length_set, List.length_append, List.length_replicate, List.length_map, List.length_cons, List.length_nil]; omega) | (simp; done) | (simp; omega) | decide))) ?_
          rintro _ w19 ⟨y0q21, y1q21, y2q21, y3q21, y4q21, y5q21, y6q21, y7q21, sv2q21, Hs2q21, hyq21, gl2q21, k_w19⟩
          have hm19 : Mem w19 (restOf w0) ([(bq10, .cells #[(u32 y0q21), (u32 y1q21), (u32 y2q21), (u32 y3q21), (u32 y4q21), (u32 y5q21), (u32 y6q21), (u32 y7q21), sv2q21, (u64 (nn + BitVec.ofInt 64 (((ps.getD k (undef, [])).2).length : Int)))] 57 (0, 0))] ++ (Hs2q21 ++ (Hs18 ++ (Hal ++ ([]))))) := (by
            have hT := Mem.back hF20 k_w19
            simp only [List.append_assoc, List.cons_append, List.nil_append, List.append_nil] at hT ⊢
            exact hT)
          have hHn := hH.write hyq21
          refine rw_nil ?_
          refine kThen_normal ?_
          refine CW.abs (fun g => g 0 = va ∧ g 1 = vp ∧ g 5 = (ptr bq10 0) ∧ g 6 = sal ∧ g 8 = ((ps.getD k (undef, [])).1) ∧ g 9 = sv18 ∧ g 12 = (bl false) ∧ g 19 = (bl (greatP ps)) ∧ g 22 = vp ∧ g 23 = (i64 (ps.length : Int)) ∧ g 24 = (i64 (k : Int)) ∧ g 25 = (bl (decide ((k : Int) < (ps.length : Int)))) ∧ True) ⟨s0, s1, s5, s6, rfl, rfl, s12, s19, s22, s23, s24, rfl, trivial⟩ ?_
          rintro fr22 ⟨s0, s1, s5, s6, s8, s9, s12, s19, s22, s23, s24, s25, _⟩
          refine cw_seq ?_
          refine cw_seq ?_
          refine cw_region ?_
          refine rw_q rfl (ev_move (v := sv18) s9) ?_
          refine rw_q (v := (i64 (((ps.getD k (undef, [])).2).length : Int))) rfl (ev_len_rd (g18.rd (Mem.pick2 [_] Hs2q21 Hs18 _ hm19)) Tryd.underlying22 rfl) ?_
          refine rw_q rfl (ev_move (v := (i64 0)) rfl) ?_
          refine rw_nil ?_
          refine kThen_normal ?_
          refine cw_block ?_
          refine cw_loop (fun g wv => ∃ (j : Nat) (ol : List (BitVec 8)) (Hol : List (Nat × Obj)), (j ≤ (ps.getD k (undef, [])).2.length) ∧ (ol.length = (ps.getD k (undef, [])).2.length) ∧ (Grow u8 5 sv18 ol Hol) ∧ g 0 = va ∧ g 1 = vp ∧ g 5 = (ptr bq10 0) ∧ g 6 = sal ∧ g 8 = ((ps.getD k (undef, [])).1) ∧ g 9 = sv18 ∧ g 12 = (bl false) ∧ g 19 = (bl (greatP ps)) ∧ g 22 = vp ∧ g 23 = (i64 (ps.length : Int)) ∧ g 24 = (i64 (k : Int)) ∧ g 25 = (bl (decide ((k : Int) < (ps.length : Int)))) ∧ g 35 = (i64 (((ps.getD k (undef, [])).2).length : Int)) ∧ g 36 = (i64 (j : Int)) ∧ Mem wv (restOf w0) (Hol ++ ([(bq10, .cells #[(u32 y0q21), (u32 y1q21), (u32 y2q21), (u32 y3q21), (u32 y4q21), (u32 y5q21), (u32 y6q21), (u32 y7q21), sv2q21, (u64 (nn + BitVec.ofInt 64 (((ps.getD k (undef, [])).2).length : Int)))] 57 (0, 0))] ++ (Hs2q21 ++ (Hal ++ ([])))))) (fun g wv => (ps.getD k (undef, [])).2.length - (RowKit.intOf (g 36)).toNat) ?_ ?_
          have hm23 := (Mem.pick3 [_] Hs2q21 Hs18 Hal _ hm19)
          have hm24 := (Mem.pick2 Hal [_] Hs2q21 _ hm23)
          have hm25 := (Mem.pick2 Hs2q21 Hal [_] _ hm24)
          have hm26 := (Mem.pick3 [_] Hs2q21 Hal Hs18 _ hm25)
          · exact ⟨0, (ps.getD k (undef, [])).2, Hs18, (by omega), rfl, g18, s0, s1, s5, s6, s8, s9, s12, s19, s22, s23, s24, s25, rfl, rfl, hm26⟩
          · rintro fr27 w28 ⟨j, ol, Hol, hj, hol, gol, s0, s1, s5, s6, s8, s9, s12, s19, s22, s23, s24, s25, s35, s36, hm28⟩
            have z36 := s36
            have z9 := s9
            refine cw_seq ?_
            refine cw_region ?_
            refine rw_q rfl (ev_i64_lss s36 s35) ?_
            refine rw_nil ?_
            refine kThen_normal ?_
            refine cw_seq ?_
            refine cw_cond rfl (fun hc29 => ?_) (fun hc29 => ?_)
            · -- true
              have hc29p := of_decide_eq_true hc29
              refine cw_skip ?_
              refine kThen_normal ?_
              refine cw_seq ?_
              refine cw_block ?_
              refine cw_seq ?_
              refine cw_region ?_
              refine rw_q rfl (ev_move (v := (i64 (j : Int))) s36) ?_
              refine rw_q rfl (ev_assign (v := (i64 (j : Int))) rfl) ?_
              refine rw_nil ?_
              refine kThen_normal ?_
              refine cw_region ?_
              refine rw_q rfl (ev_move (v := sv18) s9) ?_
              refine rw_q rfl (ev_move (v := (i64 (j : Int))) rfl) ?_
              refine rw_q rfl (ev_indexAddr_rdv (gol.rd hm28) Tryd.underlying22 ti5 rfl rfl (by omega) (by first | omega | (simp only [List.length_set, List.length_append, List.length_replicate, List.length_map, List.length_cons, List.length_nil]; omega) | (simp; done) | (simp; omega) | decide)) ?_
              refine rw_q (v := (u8 (ol.getD j 0))) rfl (ev_load_rdD (l := ol) (i := (j : Int)) (dflt := 0) (gol.rd hm28) Tryd.underlying5 rfl (by omega) (by first | omega | (simp only [List.length_set, List.length_append, List.length_replicate, List.length_map, List.length_cons, List.length_nil]; omega) | (simp; done) | (simp; omega) | decide) rfl) ?_
              refine rw_q rfl (ev_u8_xor (b := 85#8) rfl rfl) ?_
              refine rw_q rfl (ev_indexAddr_rdv (gol.rd hm28) Tryd.underlying22 ti5 rfl rfl (by omega) (by first | omega | (simp only [List.length_set, List.length_append, List.length_replicate, List.length_map, List.length_cons, List.length_nil]; omega) | (simp; done) | (simp; omega) | decide)) ?_
              refine rw_n (or_store_grow (Hs := Hol) (H := [(bq10, .cells #[(u32 y0q21), (u32 y1q21), (u32 y2q21), (u32 y3q21), (u32 y4q21), (u32 y5q21), (u32 y6q21), (u32 y7q21), sv2q21, (u64 (nn + BitVec.ofInt 64 (((ps.getD k (undef, [])).2).length : Int)))] 57 (0, 0))] ++ (Hs2q21 ++ (Hal ++ ([])))) (i := (j : Int)) (a := (ol.getD j 0) ^^^ 85#8) hm28 gol u8_one ti5 (by omega) (by first | omega | (simp only [List.length_set, List.length_append, List.length_replicate, List.length_map, List.length_cons, List.length_nil]; omega) | (simp; done) | (simp; omega) | decide) rfl rfl) ?_
              rintro _ w30 ⟨Hs30, hm30, g30⟩
              replace g30 : Grow u8 5 sv18 (ol.set j ((ol.getD j 0) ^^^ 85#8)) Hs30 := g30
              refine rw_nil ?_
              refine kBlk_normal ?_
              refine cw_region ?_
              refine rw_q rfl (ev_i64_add (b := 1) s36 rfl (by omega) (by omega)) ?_
              refine rw_q rfl (ev_move (v := (i64 ((j : Int) + 1))) rfl) ?_
              refine rw_nil ?_
              refine kThen_normal ?_
              exact ⟨⟨j + 1, ol.set j ((ol.getD j 0) ^^^ 85#8), Hs30, (by omega), (by simp [hol]), g30, s0, s1, s5, s6, s8, s9, s12, s19, s22, s23, s24, s25, s35, rfl, hm30⟩, (by show (ps.getD k (undef, [])).2.length - (RowKit.intOf (i64 ((j : Int) + 1))).toNat < (ps.getD k (undef, [])).2.length - (RowKit.intOf _).toNat; rw [z36]; simp only [RowKit.intOf, i64]; omega)⟩
            · -- false
              have hc29p := of_decide_eq_false hc29
              obtain rfl : j = (ps.getD k (undef, [])).2.length := by omega
              refine cw_exit ?_
              refine kThen_exit (kThen_exit (kBlk_hit ?_))
              refine cw_seq ?_
              refine cw_region ?_
              refine rw_q rfl (ev_move (v := sal) s6) ?_
              refine rw_q rfl (ev_move (v := ((ps.getD k (undef, [])).1)) s8) ?_
              refine rw_c rfl (or_append (f := u8) (Hs := Hal) (H := Hol ++ ([(bq10, .cells #[(u32 y0q21), (u32 y1q21), (u32 y2q21), (u32 y3q21), (u32 y4q21), (u32 y5q21), (u32 y6q21), (u32 y7q21), sv2q21, (u64 (nn + BitVec.ofInt 64 (((ps.getD k (undef, [])).2).length : Int)))] 57 (0, 0))] ++ (Hs2q21 ++ ([])))) (Mem.pick3 Hol [_] Hs2q21 Hal _ hm28) gal rfl rfl (Rd.ofRest (hps _ (getD_in (z := (undef, [])) (by omega))) hm28) Tryd.underlying22 Tryd.underlying22 ti5 rfl u8_one (by first | omega | (simp only [List.length_set, List.length_append, List.length_replicate, List.length_map, List.length_cons, List.length_nil]; omega) | (simp; done) | (simp; omega) | decide) (by first | omega | (simp only [List.length_set, List.length_append, List.length_replicate, List.length_map, List.length_cons, List.length_nil]; omega) | (simp; done) | (simp; omega) | decide)) ?_
              rintro sv31 w31 ⟨Hs31, hm31, g31⟩
              replace g31 : Grow u8 5 sv31 ((joinL (ps.take k)) ++ ((ps.getD k (undef, [])).2)) Hs31 := g31
              refine rw_q rfl (ev_assign (v := sv31) rfl) ?_
              refine rw_nil ?_
              refine kThen_normal ?_
              refine cw_seq ?_
              refine cw_region ?_
              refine rw_q rfl (ev_move (v := (ptr bq10 0)) s5) ?_
              refine rw_c rfl (opR_call Tryd.func14 bd14 nm14 (args1 rfl) (c_dsum bq10 y0q21 y1q21 y2q21 y3q21 y4q21 y5q21 y6q21 y7q21 sv2q21 ((l3 ++ ((ps.getD k (undef, [])).2)).drop (64 * ((l3 ++ ((ps.getD k (undef, [])).2)).length / 64))) (nn + BitVec.ofInt 64 (((ps.getD k (undef, [])).2).length : Int)) _ (hT.mono fun b o e => (hm31).rest b o e) ((Mem.pick2 Hs31 Hol [_] _ hm31)).h0 (gl2q21.rd (Mem.pick3 Hs31 Hol [_] Hs2q21 _ hm31)) (by first | omega | (simp only [List.length_set, List.length_append, List.length_replicate, List.length_map, List.length_cons, List.length_nil]; omega) | (simp; done) | (simp; omega) | decide))) ?_
              rintro _ w32 ⟨rfl, _ew32⟩
              have hm32 := hm31.ext _ew32
              refine rw_q rfl (ev_move (v := sv31) rfl) ?_
              refine rw_c rfl (opR_call Tryd.func15 bd15 nm15 (args1 rfl) (c_rsum sv31 ((joinL (ps.take k)) ++ ((ps.getD k (undef, [])).2)) _ (g31.rd hm32) (by first | omega | (simp only [List.length_set, List.length_append, List.length_replicate, List.length_map, List.length_cons, List.length_nil]; omega) | (simp; done) | (simp; omega) | decide))) ?_
              rintro _ w34 ⟨rfl, _ew34⟩
              have hm34 := hm32.ext _ew34
              refine rw_q rfl (ev_u8arr_neq (l := digestP [y0q21, y1q21, y2q21, y3q21, y4q21, y5q21, y6q21, y7q21] ((l3 ++ ((ps.getD k (undef, [])).2)).drop (64 * ((l3 ++ ((ps.getD k (undef, [])).2)).length / 64))) (nn + BitVec.ofInt 64 (((ps.getD k (undef, [])).2).length : Int))) (m := sumP ((joinL (ps.take k)) ++ ((ps.getD k (undef, [])).2))) Tryd.underlying28 Tryd.underlying5 ti5 Tryd.eqGuardType28 rfl rfl (by first | rfl | first | omega | (simp only [List.length_set, List.length_append, List.length_replicate, List.length_map, List.length_cons, List.length_nil]; omega) | (simp; done) | (simp; omega) | decide) (by first | rfl | first | omega | (simp only [List.length_set, List.length_append, List.length_replicate, List.length_map, List.length_cons, List.length_nil]; omega) | (simp; done) | (simp; omega) | decide)) ?_
              refine rw_nil ?_
              refine kThen_normal ?_
              have hd36 : ((digestP [y0q21, y1q21, y2q21, y3q21, y4q21, y5q21, y6q21, y7q21] ((l3 ++ ((ps.getD k (undef, [])).2)).drop (64 * ((l3 ++ ((ps.getD k (undef, [])).2)).length / 64))) (nn + BitVec.ofInt 64 (((ps.getD k (undef, [])).2).length : Int))) != (sumP ((joinL (ps.take k)) ++ ((ps.getD k (undef, [])).2)))) = false := told_ne (Holds.sum hHn)
              refine cw_cond_f rfl hd36 ?_
              refine cw_skip ?_
              refine kBlk_normal ?_
              refine cw_region ?_
              refine rw_q rfl (ev_i64_add (b := 1) s24 rfl (by omega) (by omega)) ?_
              refine rw_q rfl (ev_move (v := (i64 ((k : Int) + 1))) rfl) ?_
              refine rw_nil ?_
              refine kThen_normal ?_
              rw [← joinL_succ ps k (by omega)] at hHn
              have hm37 := Mem.drop Hol _ (Mem.pick Hs31 Hol _ hm34)
              have hm38 := (Mem.pick2 Hs31 [_] Hs2q21 _ hm37)
              have hm39 := (Mem.pick2 Hs2q21 Hs31 [_] _ hm38)
              exact ⟨⟨k + 1, y0q21, y1q21, y2q21, y3q21, y4q21, y5q21, y6q21, y7q21, sv2q21, ((l3 ++ ((ps.getD k (undef, [])).2)).drop (64 * ((l3 ++ ((ps.getD k (undef, [])).2)).length / 64))), Hs2q21, (nn + BitVec.ofInt 64 (((ps.getD k (undef, [])).2).length : Int)), sv31, Hs31, (by omega), hHn, gl2q21, (Grow.cast g31 (joinL_succ ps k (by omega)).symm), s0, s1, s5, rfl, s12, s19, s22, s23, rfl, hm39⟩, meas rfl z24 (by omega) (by omega)⟩
        · -- false
          have hc16p := of_decide_eq_false hc16
          obtain rfl : k = ps.length := by omega
          rw [List.take_length] at hH gal
          have hlt := hH.lt
          refine cw_exit ?_
          refine kThen_exit (kThen_exit (kBlk_hit ?_))
          refine cw_seq ?_
          refine cw_region ?_
          refine rw_q rfl (ev_move (v := (ptr bq10 0)) s5) ?_
          refine rw_c rfl (opR_call Tryd.func14 bd14 nm14 (args1 rfl) (c_dsum bq10 zw0 zw1 zw2 zw3 zw4 zw5 zw6 zw7 sv3 l3 nn _ (hT.mono fun b o e => (hm15).rest b o e) hm15.h0 (gl3.rd (Mem.pick [_] Hs3 _ hm15)) (by first | omega | (simp only [List.length_set, List.length_append, List.length_replicate, List.length_map, List.length_cons, List.length_nil]; omega) | (simp; done) | (simp; omega) | decide))) ?_
          rintro _ w40 ⟨rfl, _ew40⟩
          have hm40 := hm15.ext _ew40
          refine rw_q rfl (ev_move (v := sal) s6) ?_
          refine rw_c rfl (opR_call Tryd.func16 bd16 nm16 (args1 rfl) (c_hsum sal (joinL ps) _ (hT.mono fun b o e => (hm40).rest b o e) (gal.rd (Mem.pick2 [_] Hs3 Hal _ hm40)) (by first | omega | (simp only [List.length_set, List.length_append, List.length_replicate, List.length_map, List.length_cons, List.length_nil]; omega) | (simp; done) | (simp; omega) | decide))) ?_
          rintro _ w42 ⟨rfl, _ew42⟩
          have hm42 := hm40.ext _ew42
          refine rw_q rfl (ev_u8arr_eql (l := digestP [zw0, zw1, zw2, zw3, zw4, zw5, zw6, zw7] l3 nn) (m := sumP (joinL ps)) Tryd.underlying28 Tryd.underlying5 ti5 Tryd.eqGuardType28 rfl rfl (by first | rfl | first | omega | (simp only [List.length_set, List.length_append, List.length_replicate, List.length_map, List.length_cons, List.length_nil]; omega) | (simp; done) | (simp; omega) | decide) (by first | rfl | first | omega | (simp only [List.length_set, List.length_append, List.length_replicate, List.length_map, List.length_cons, List.length_nil]; omega) | (simp; done) | (simp; omega) | decide)) ?_
          refine rw_q rfl (ev_move rfl) ?_
          have hd44 : ((digestP [zw0, zw1, zw2, zw3, zw4, zw5, zw6, zw7] l3 nn) == (sumP (joinL ps))) = true := told_true (Holds.sum hH)
          refine rw_gyq (s := 60) rfl rfl hd44 rfl (ev_move (v := va) s0) ?_
          refine rw_gyq (s := 60) rfl rfl hd44 rfl (ev_move (v := vp) s1) ?_
          refine rw_gy (s := 60) rfl rfl hd44 rfl (opR_call Tryd.func17 bd17 nm17 (args2 rfl rfl) (c_hmac va la vp ps _ (hT.mono fun b o e => (hm42).rest b o e) (Rd.ofRest hra hm42) (by first | omega | (simp only [List.length_set, List.length_append, List.length_replicate, List.length_map, List.length_cons, List.length_nil]; omega) | (simp; done) | (simp; omega) | decide) (Rd.ofRest hrp hm42) (fun p hp => Rd.ofRest (hps p hp) hm42) (by first | omega | (simp only [List.length_set, List.length_append, List.length_replicate, List.length_map, List.length_cons, List.length_nil]; omega) | (simp; done) | (simp; omega) | decide) (by first | omega | (simp only [List.length_set, List.length_append, List.length_replicate, List.length_map, List.length_cons, List.length_nil]; omega) | (simp; done) | (simp; omega) | decide))) ?_
          rintro _ w45 ⟨rfl, _ew45⟩
          have hm45 := hm42.ext _ew45
          refine rw_gyq (s := 60) rfl rfl hd44 rfl (ev_move (v := va) s0) ?_
          refine rw_gyq (s := 60) rfl rfl hd44 rfl (ev_move (v := sal) s6) ?_
          refine rw_gy (s := 60) rfl rfl hd44 rfl (opR_call Tryd.func18 bd18 nm18 (args2 rfl rfl) (c_rhmac va la sal (joinL ps) _ (Rd.ofRest hra hm45) (by first | omega | (simp only [List.length_set, List.length_append, List.length_replicate, List.length_map, List.length_cons, List.length_nil]; omega) | (simp; done) | (simp; omega) | decide) (gal.rd (Mem.pick2 [_] Hs3 Hal _ hm45)) (by first | omega | (simp only [List.length_set, List.length_append, List.length_replicate, List.length_map, List.length_cons, List.length_nil]; omega) | (simp; done) | (simp; omega) | decide))) ?_
          rintro _ w47 ⟨rfl, _ew47⟩
          have hm47 := hm45.ext _ew47
          refine rw_gyq (s := 60) rfl rfl hd44 rfl (ev_u8arr_eql (l := hmacP la (joinL ps)) (m := hmacP la (joinL ps)) Tryd.underlying28 Tryd.underlying5 ti5 Tryd.eqGuardType28 rfl rfl (by first | rfl | first | omega | (simp only [List.length_set, List.length_append, List.length_replicate, List.length_map, List.length_cons, List.length_nil]; omega) | (simp; done) | (simp; omega) | decide) (by first | rfl | first | omega | (simp only [List.length_set, List.length_append, List.length_replicate, List.length_map, List.length_cons, List.length_nil]; omega) | (simp; done) | (simp; omega) | decide)) ?_
          refine rw_q rfl (ev_pick_tk rfl hd44 rfl) ?_
          refine rw_q rfl (ev_assign (v := (bl ((hmacP la (joinL ps)) == (hmacP la (joinL ps))))) rfl) ?_
          refine rw_nil ?_
          refine kThen_normal ?_
          refine CW.abs (fun g => g 0 = va ∧ g 1 = vp ∧ g 4 = (bl ((hmacP la (joinL ps)) == (hmacP la (joinL ps)))) ∧ g 5 = (ptr bq10 0) ∧ g 6 = sal ∧ g 12 = (bl false) ∧ g 19 = (bl (greatP ps)) ∧ g 22 = vp ∧ g 23 = (i64 (ps.length : Int)) ∧ g 24 = (i64 (ps.length : Int)) ∧ g 25 = (bl (decide ((ps.length : Int) < (ps.length : Int)))) ∧ True) ⟨s0, s1, rfl, s5, s6, s12, s19, s22, s23, s24, rfl, trivial⟩ ?_
          rintro fr49 ⟨s0, s1, s4, s5, s6, s12, s19, s22, s23, s24, s25, _⟩
          refine cw_ret ?_
          refine fnPost_ret [(bl ((hmacP la (joinL ps)) == (hmacP la (joinL ps))))] ⟨s4, trivial⟩ ?_
          exact ⟨congrArg bl (told_true rfl), Mem.below w0 hm47⟩


end Go.Proofs.YtehkomhnmipnbaaDoor
