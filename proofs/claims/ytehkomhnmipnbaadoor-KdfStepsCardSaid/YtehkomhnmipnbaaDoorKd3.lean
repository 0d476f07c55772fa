/- Contracts: kdf, third part. Conditions: none beyond those that each theorem states. -/
import Derived.Test.YtehkomhnmipnbaaDoorKd2
namespace Go.Proofs.YtehkomhnmipnbaaDoor
set_option linter.unusedVariables false
set_option linter.unusedSimpArgs false

theorem same_len {la lb : List (BitVec 8)} (h : (la.length : Int) ≠ (lb.length : Int)) : false = (la == lb) := by
  symm; rw [beq_eq_false_iff_ne]; rintro rfl; exact h rfl
theorem same_at {la lb : List (BitVec 8)} {k : Nat} (h : la.getD k 0 ≠ lb.getD k 0) : false = (la == lb) := by
  symm; rw [beq_eq_false_iff_ne]; rintro rfl; exact h rfl
theorem same_all {la lb : List (BitVec 8)} (h : (la.length : Int) = (lb.length : Int)) (hall : ∀ j, j < la.length → la.getD j 0 = lb.getD j 0) : true = (la == lb) := by
  symm; rw [beq_iff_eq]
  refine List.ext_getElem (by omega) fun i h1 h2 => ?_
  have := hall i h1
  simpa [List.getD_eq_getElem?_getD, h1, h2] using this
theorem same_step {la lb : List (BitVec 8)} {k : Nat} (heq : ∀ j, j < k → la.getD j 0 = lb.getD j 0) (h : la.getD k 0 = lb.getD k 0) : ∀ j, j < k + 1 → la.getD j 0 = lb.getD j 0 := by
  intro j hj
  rcases Nat.lt_or_ge j k with h1 | h1
  · exact heq j h1
  · have : j = k := by omega
    subst this; exact h

@[simp] theorem filled_len {α : Type} (g : Nat → α) (z : α) (n k : Nat) : (filled g z n k).length = k + (n - k) := by simp [filled]
theorem chunk_read (X : List (BitVec 8)) (i : Nat) (h : 32 * i + 32 ≤ X.length) : filled (fun j => X.getD (32 * (i : Int) + (j : Int)).toNat 0) 0 32 32 = (X.drop (32 * i)).take 32 := by
  rw [filled_all]
  refine List.ext_getElem (by simp; omega) fun j h1 h2 => ?_
  simp only [List.length_map, List.length_range] at h1
  have e : (32 * (i : Int) + (j : Int)).toNat = 32 * i + j := by omega
  simp [e, List.getD_eq_getElem?_getD]
  rw [List.getElem?_eq_getElem (by omega)]; rfl
theorem told_ne' {α : Type} [BEq α] [LawfulBEq α] {a b : α} (h : a ≠ b) : (a != b) = true := by simp [h]
theorem sp_key : (((keysQ [] [] (bytesL ⟨#[97]⟩) 1).getD 0 []) == ((keysQ [] [] (bytesL ⟨#[97]⟩) 2).getD 0 [])) = true := by decide +kernel
theorem sp_ne : (((keysQ [] [] (bytesL ⟨#[97]⟩) 1).getD 0 []) != ((keysQ [] [] (bytesL ⟨#[97]⟩) 2).getD 1 [])) = true := by decide +kernel
theorem sp_q1 : ((keysQ [] [] (bytesL ⟨#[97]⟩) 1).getD 0 []).length = 32 := by decide +kernel
theorem sp_q2 : ((keysQ [] [] (bytesL ⟨#[97]⟩) 2).getD 0 []).length = 32 := by decide +kernel
theorem sp_q3 : ((keysQ [] [] (bytesL ⟨#[97]⟩) 2).getD 1 []).length = 32 := by decide +kernel
theorem sp_l1 : (keysQ [] [] (bytesL ⟨#[97]⟩) 1).length = 1 := by decide +kernel
theorem sp_l2 : (keysQ [] [] (bytesL ⟨#[97]⟩) 2).length = 2 := by decide +kernel
attribute [local irreducible] hmacP tK outK expandP extractP keysQ expandQ errK errP

theorem c_same (va vb : Value) (la lb : List (BitVec 8)) (w0 : World)  (hra : Rd (blks w0) u8 va la) (hrb : Rd (blks w0) u8 vb lb) (hla : la.length ≤ 281474976710656) : CallsR Tryd.prog 22 #[va, vb] w0 (fun r w1 => r = (bl (la == lb)) ∧ Ext w0 w1) := by
  refine callsR_of_cw (args := [va, vb]) Tryd.func22 rfl Tryd.ntmps22 Tryd.results22 rfl ?_
  have hm0 : Mem w0 (restOf w0) [] := Mem.of_world w0
  refine cw_seq ?_
  refine cw_region ?_
  refine rw_q rfl (ev_assign (v := (bl false)) rfl) ?_
  refine rw_nil ?_
  refine kThen_normal ?_
  refine cw_seq ?_
  refine cw_seq ?_
  refine cw_region ?_
  refine rw_q rfl (ev_move (v := va) rfl) ?_
  refine rw_q (v := (i64 (la.length : Int))) rfl (ev_len_rd (Rd.ofRest hra hm0) Tryd.underlying22 rfl) ?_
  refine rw_q rfl (ev_move (v := vb) rfl) ?_
  refine rw_q (v := (i64 (lb.length : Int))) rfl (ev_len_rd (Rd.ofRest hrb hm0) Tryd.underlying22 rfl) ?_
  refine rw_q rfl (ev_i64_neq rfl rfl) ?_
  refine rw_nil ?_
  refine kThen_normal ?_
  refine cw_cond rfl (fun hc1 => ?_) (fun hc1 => ?_)
  · -- true
    have hc1p := bne_iff_ne.1 hc1
    refine cw_seq ?_
    refine cw_region ?_
    refine rw_q rfl (ev_assign (v := (bl false)) rfl) ?_
    refine rw_nil ?_
    refine kThen_normal ?_
    refine cw_ret ?_
    refine kThen_ret ?_
    refine fnPost_ret [(bl false)] ⟨rfl, trivial⟩ ?_
    exact ⟨congrArg bl (same_len hc1p), hm0.toExt⟩
  · -- false
    have hc1p := eq_of_bne_false hc1
    refine cw_skip ?_
    refine kThen_normal ?_
    refine cw_seq ?_
    refine cw_seq ?_
    refine cw_region ?_
    refine rw_q rfl (ev_assign (v := (i64 0)) rfl) ?_
    refine rw_nil ?_
    refine kThen_normal ?_
    refine cw_block ?_
    refine cw_loop (fun g wv => ∃ (k : Nat), (k ≤ la.length) ∧ (∀ j, j < k → la.getD j 0 = lb.getD j 0) ∧ g 0 = va ∧ g 1 = vb ∧ g 5 = (i64 (k : Int)) ∧ g 10 = (bl ((la.length : Int) != (lb.length : Int))) ∧ Mem wv (restOf w0) []) (fun g wv => ((la.length : Int) - RowKit.intOf (g 5)).toNat) ?_ ?_
    · exact ⟨0, (by omega), (by intro j hj; omega), rfl, rfl, rfl, rfl, hm0⟩
    · rintro fr2 w3 ⟨k, hk, heq, s0, s1, s5, s10, hm3⟩
      have z5 := s5
      refine cw_seq ?_
      refine cw_seq ?_
      refine cw_region ?_
      refine rw_q rfl (ev_move (v := (i64 (k : Int))) s5) ?_
      refine rw_q rfl (ev_move (v := va) s0) ?_
      refine rw_q (v := (i64 (la.length : Int))) rfl (ev_len_rd (Rd.ofRest hra hm3) Tryd.underlying22 rfl) ?_
      refine rw_q rfl (ev_i64_lss rfl rfl) ?_
      refine rw_nil ?_
      refine kThen_normal ?_
      refine cw_cond rfl (fun hc4 => ?_) (fun hc4 => ?_)
      · -- true
        have hc4p := of_decide_eq_true hc4
        refine cw_skip ?_
        refine kThen_normal ?_
        refine cw_seq ?_
        refine cw_block ?_
        refine cw_seq ?_
        refine cw_draw [(0, false), (1, false), (2, false), (3, false), (4, false), (5, false), (6, false), (7, false)] 8 (by kernel_rfl) ?_
        refine dw_q rfl rfl (fun _ _hx => ev_move (v := va) s0) ?_
        refine dw_q rfl rfl (fun _ _hx => ev_move (v := (i64 (k : Int))) s5) ?_
        refine dw_q rfl rfl (fun _ _hx => ev_indexAddr_rdv (Rd.ofRest hra (hm3.ext _hx)) Tryd.underlying22 ti5 rfl rfl (by omega) (by first | omega | (simp only [List.length_set, List.length_append, List.length_replicate, List.length_map, List.length_cons, List.length_nil]; omega) | (simp; done) | (simp; omega) | decide)) ?_
        refine dw_q (v := (u8 (la.getD k 0))) rfl rfl (fun _ _hx => ev_load_rdD (l := la) (i := (k : Int)) (dflt := 0) (Rd.ofRest hra (hm3.ext _hx)) Tryd.underlying5 rfl (by omega) (by first | omega | (simp only [List.length_set, List.length_append, List.length_replicate, List.length_map, List.length_cons, List.length_nil]; omega) | (simp; done) | (simp; omega) | decide) rfl) ?_
        refine dw_q rfl rfl (fun _ _hx => ev_move (v := vb) s1) ?_
        refine dw_q rfl rfl (fun _ _hx => ev_move (v := (i64 (k : Int))) s5) ?_
        refine dw_q rfl rfl (fun _ _hx => ev_indexAddr_rdv (Rd.ofRest hrb (hm3.ext _hx)) Tryd.underlying22 ti5 rfl rfl (by omega) (by first | omega | (simp only [List.length_set, List.length_append, List.length_replicate, List.length_map, List.length_cons, List.length_nil]; omega) | (simp; done) | (simp; omega) | decide)) ?_
        refine dw_q (v := (u8 (lb.getD k 0))) rfl rfl (fun _ _hx => ev_load_rdD (l := lb) (i := (k : Int)) (dflt := 0) (Rd.ofRest hrb (hm3.ext _hx)) Tryd.underlying5 rfl (by omega) (by first | omega | (simp only [List.length_set, List.length_append, List.length_replicate, List.length_map, List.length_cons, List.length_nil]; omega) | (simp; done) | (simp; omega) | decide) rfl) ?_
        refine dw_nil (fun w5 _ew5 => ?_)
        have hm5 := hm3.ext _ew5
        refine rw_q rfl (ev_u8_neq rfl rfl) ?_
        refine rw_nil ?_
        refine kThen_normal ?_
        refine CW.abs (fun g => g 0 = va ∧ g 1 = vb ∧ g 5 = (i64 (k : Int)) ∧ g 10 = (bl ((la.length : Int) != (lb.length : Int))) ∧ g 14 = (bl (decide ((k : Int) < (la.length : Int)))) ∧ g 25 = (bl ((la.getD k 0) != (lb.getD k 0))) ∧ True) ⟨s0, s1, s5, s10, rfl, rfl, trivial⟩ ?_
        rintro fr6 ⟨s0, s1, s5, s10, s14, s25, _⟩
        refine cw_cond s25 (fun hc7 => ?_) (fun hc7 => ?_)
        · -- true
          have hc7p := bne_iff_ne.1 hc7
          refine cw_seq ?_
          refine cw_region ?_
          refine rw_q rfl (ev_assign (v := (bl false)) rfl) ?_
          refine rw_nil ?_
          refine kThen_normal ?_
          refine cw_ret ?_
          refine kBlk_ret (kThen_ret (kBlk_ret ?_))
          refine fnPost_ret [(bl false)] ⟨rfl, trivial⟩ ?_
          exact ⟨congrArg bl (same_at hc7p), hm5.toExt⟩
        · -- false
          have hc7p := eq_of_bne_false hc7
          refine cw_skip ?_
          refine kBlk_normal ?_
          refine cw_region ?_
          refine rw_q rfl (ev_move (v := (i64 (k : Int))) s5) ?_
          refine rw_q rfl (ev_i64_add (b := 1) rfl rfl (by omega) (by omega)) ?_
          refine rw_q rfl (ev_assign (v := (i64 ((k : Int) + 1))) rfl) ?_
          refine rw_nil ?_
          refine kThen_normal ?_
          exact ⟨⟨k + 1, (by omega), (same_step heq hc7p), s0, s1, rfl, s10, hm5⟩, meas rfl z5 (by omega) (by omega)⟩
      · -- false
        have hc4p := of_decide_eq_false hc4
        refine cw_exit ?_
        refine kThen_exit (kThen_exit (kBlk_hit ?_))
        refine cw_seq ?_
        refine cw_region ?_
        refine rw_q rfl (ev_assign (v := (bl true)) rfl) ?_
        refine rw_nil ?_
        refine kThen_normal ?_
        refine cw_ret ?_
        refine fnPost_ret [(bl true)] ⟨rfl, trivial⟩ ?_
        exact ⟨congrArg bl (same_all hc1p (fun j hj => heq j (by omega))), hm3.toExt⟩

set_option maxHeartbeats 1000000 in
theorem c_rkeys (va : Value) (la : List (BitVec 8)) (vb : Value) (lb : List (BitVec 8)) (pu : ByteArray) (n : Int) (w0 : World)  (hra : Rd (blks w0) u8 va la) (hla : la.length ≤ 1048576) (hrb : Rd (blks w0) u8 vb lb) (hlb : lb.length ≤ 1048576) (hpu : pu.size ≤ 1048576) (hn : 0 ≤ n ∧ n ≤ 255) : CallsR Tryd.prog 27 #[va, vb, (Value.string pu), (i64 n)] w0 (fun r w1 => ∃ Hs, GrowK (encA u8) 32 28 r (chunksP n.toNat (expandP (extractP la lb) (bytesL pu) (32 * n.toNat))) Hs ∧ Mem w1 (restOf w0) Hs) := by
  refine callsR_of_cw (args := [va, vb, (Value.string pu), (i64 n)]) Tryd.func27 rfl Tryd.ntmps27 Tryd.results27 rfl ?_
  have hm0 : Mem w0 (restOf w0) [] := Mem.of_world w0
  refine cw_seq ?_
  refine cw_region ?_
  refine rw_q rfl (ev_assign (v := (Value.slice none 0 0)) rfl) ?_
  refine rw_nil ?_
  refine kThen_normal ?_
  refine cw_seq ?_
  refine cw_region ?_
  refine rw_q rfl (ev_move (v := va) rfl) ?_
  refine rw_q rfl (ev_move (v := vb) rfl) ?_
  refine rw_c rfl (opR_call Tryd.func25 bd25 nm25 (args2 rfl rfl) (c_rextract va la vb lb _ (Rd.ofRest hra hm0) (by first | omega | (simp only [List.length_set, List.length_append, List.length_replicate, List.length_map, List.length_cons, List.length_nil]; omega) | (simp; done) | (simp; omega) | decide) (Rd.ofRest hrb hm0) (by first | omega | (simp only [List.length_set, List.length_append, List.length_replicate, List.length_map, List.length_cons, List.length_nil]; omega) | (simp; done) | (simp; omega) | decide))) ?_
  rintro _ w1 ⟨rfl, _ew1⟩
  have hm1 := hm0.ext _ew1
  refine rw_q rfl (ev_move (v := (Value.string pu)) rfl) ?_
  refine rw_c rfl (or_conv_str (s := pu) hm1 Tryd.underlying9 Tryd.underlying22 Tryd.underlying5 rfl (by first | omega | (simp only [List.length_set, List.length_append, List.length_replicate, List.length_map, List.length_cons, List.length_nil]; omega) | (simp; done) | (simp; omega) | decide)) ?_
  rintro _ w3 ⟨b18, cap3, cc3, fz3, rfl, _ew3, hm3, hcv3⟩
  have hm3 : Mem w3 (restOf w0) [(b18, .cells cc3 5 fz3)] := hm3
  refine rw_q rfl (ev_move (v := (i64 n)) rfl) ?_
  refine rw_q rfl (ev_i64_mul (a := 32) rfl rfl (by omega) (by omega)) ?_
  refine rw_c rfl (opR_call Tryd.func23 bd23 nm23 (args3 rfl rfl rfl) (c_rexpand (extractP la lb) (slc b18 0 pu.size cap3) (bytesL pu) (32 * n) _ (by first | omega | (simp only [List.length_set, List.length_append, List.length_replicate, List.length_map, List.length_cons, List.length_nil]; omega) | (simp; done) | (simp; omega) | decide) (hcv3 _ hm3.h0) (by first | omega | (simp only [List.length_set, List.length_append, List.length_replicate, List.length_map, List.length_cons, List.length_nil]; omega) | (simp; done) | (simp; omega) | decide) (by first | omega | (simp only [List.length_set, List.length_append, List.length_replicate, List.length_map, List.length_cons, List.length_nil]; omega) | (simp; done) | (simp; omega) | decide))) ?_
  rintro rxq5 w4 ⟨Hsq5, grxq5, k_w4⟩
  have hm4 : Mem w4 (restOf w0) (Hsq5 ++ ([(b18, .cells cc3 5 fz3)])) := Mem.new (H := [(b18, .cells cc3 5 fz3)]) (H' := Hsq5) hm3 k_w4
  obtain ⟨X, hX⟩ : ∃ X, X = expandP (extractP la lb) (bytesL pu) (32 * n.toNat) := ⟨_, rfl⟩
  have hXl : X.length = 32 * n.toNat := by rw [hX, expandP_length]
  have e32 : (32 * n).toNat = 32 * n.toNat := by omega
  have gX6 := grxq5
  rw [e32, ← hX] at gX6
  refine rw_q rfl (ev_assign (v := rxq5) rfl) ?_
  refine rw_nil ?_
  refine kThen_normal ?_
  refine cw_seq ?_
  refine cw_region ?_
  refine rw_c rfl (or_buildSlice_p (c := #[]) hm4 Tryd.underlying45 ti28 rfl pm_nil (by kernel_rfl)) ?_
  rintro _ w7 ⟨b22, rfl, _ew7, hm7⟩
  have hm7 : Mem w7 (restOf w0) ([(b22, .cells #[] 28 (0, 0))] ++ (Hsq5 ++ ([(b18, .cells cc3 5 fz3)]))) := hm7
  refine rw_q rfl (ev_assign (v := (slc b22 0 0 0)) rfl) ?_
  refine rw_nil ?_
  refine kThen_normal ?_
  refine CW.abs (fun g => g 0 = va ∧ g 1 = vb ∧ g 2 = (Value.string pu) ∧ g 3 = (i64 n) ∧ g 8 = (Value.slice none 0 0) ∧ g 9 = rxq5 ∧ g 10 = (slc b22 0 0 0) ∧ True) ⟨rfl, rfl, rfl, rfl, rfl, rfl, rfl, trivial⟩ ?_
  rintro fr8 ⟨s0, s1, s2, s3, s8, s9, s10, _⟩
  refine cw_seq ?_
  refine cw_seq ?_
  refine cw_region ?_
  refine rw_q rfl (ev_assign (v := (i64 0)) rfl) ?_
  refine rw_nil ?_
  refine kThen_normal ?_
  refine cw_block ?_
  refine cw_loop (fun g wv => ∃ (i : Nat) (sk : Value) (Hk : List (Nat × Obj)), ((i : Int) ≤ n) ∧ (GrowK (encA u8) 32 28 sk (chunksP i X) Hk) ∧ g 0 = va ∧ g 1 = vb ∧ g 2 = (Value.string pu) ∧ g 3 = (i64 n) ∧ g 8 = (Value.slice none 0 0) ∧ g 9 = rxq5 ∧ g 10 = sk ∧ g 11 = (i64 (i : Int)) ∧ Mem wv (restOf w0) (Hk ++ (Hsq5 ++ ([])))) (fun g wv => (n - RowKit.intOf (g 11)).toNat) ?_ ?_
  have hm9 := Mem.drop ([(b18, .cells cc3 5 fz3)]) _ (Mem.pick2 [_] Hsq5 [_] _ hm7)
  · exact ⟨0, (slc b22 0 0 0), [(b22, .cells #[] 28 (0, 0))], (by omega), (GrowK.of (encA u8) 32 28 b22 [] rfl (by simp)), s0, s1, s2, s3, s8, s9, s10, rfl, hm9⟩
  · rintro fr10 w11 ⟨i, sk, Hk, hi, gkk, s0, s1, s2, s3, s8, s9, s10, s11, hm11⟩
    have z11 := s11
    have z10 := s10
    refine cw_seq ?_
    refine cw_seq ?_
    refine cw_region ?_
    refine rw_q rfl (ev_move (v := (i64 (i : Int))) s11) ?_
    refine rw_q rfl (ev_move (v := (i64 n)) s3) ?_
    refine rw_q rfl (ev_i64_lss rfl rfl) ?_
    refine rw_nil ?_
    refine kThen_normal ?_
    refine cw_cond rfl (fun hc12 => ?_) (fun hc12 => ?_)
    · -- true
      have hc12p := of_decide_eq_true hc12
      refine cw_skip ?_
      refine kThen_normal ?_
      refine cw_seq ?_
      refine cw_block ?_
      refine cw_seq ?_
      refine cw_region ?_
      refine rw_q rfl (ev_build_arr (ps := []) (c := (cl u8 (List.replicate 32 0))) ti28 Tryd.underlying28 ti5 (by simp) rfl) ?_
      refine rw_c rfl (or_alloc_agg hm11 ti28) ?_
      rintro _ w13 ⟨b12, rfl, _ew13, hm13⟩
      refine rw_n (or_store_agg (f := u8) (l := List.replicate 32 0) u8_one ti28 rfl rfl (by first | omega | (simp only [List.length_set, List.length_append, List.length_replicate, List.length_map, List.length_cons, List.length_nil]; omega) | (simp; done) | (simp; omega) | decide) hm13.h0 (by rw [size_cl]; first | omega | (simp only [List.length_set, List.length_append, List.length_replicate, List.length_map, List.length_cons, List.length_nil]; omega) | (simp; done) | (simp; omega) | decide) rfl) ?_
      rintro _ w14 uq14
      have hm14 := hm13.upd0 uq14
      refine rw_nil ?_
      refine kThen_normal ?_
      refine cw_seq ?_
      refine cw_seq ?_
      refine cw_region ?_
      refine rw_q rfl (ev_assign (v := (i64 0)) rfl) ?_
      refine rw_nil ?_
      refine kThen_normal ?_
      refine cw_block ?_
      refine cw_loop (fun g wv => ∃ (j : Nat), (j ≤ 32) ∧ g 0 = va ∧ g 1 = vb ∧ g 2 = (Value.string pu) ∧ g 3 = (i64 n) ∧ g 8 = (Value.slice none 0 0) ∧ g 9 = rxq5 ∧ g 10 = sk ∧ g 11 = (i64 (i : Int)) ∧ g 12 = (ptr b12 0) ∧ g 13 = (i64 (j : Int)) ∧ g 25 = (bl (decide ((i : Int) < n))) ∧ Mem wv (restOf w0) ([(b12, .cells (cl u8 (filled (fun q => X.getD (32 * (i : Int) + (q : Int)).toNat 0) 0 32 j)) 28 (0, 0))] ++ (Hk ++ (Hsq5 ++ ([]))))) (fun g wv => (32 - RowKit.intOf (g 13)).toNat) ?_ ?_
      · exact ⟨0, (by omega), s0, s1, s2, s3, s8, s9, s10, s11, rfl, rfl, rfl, (by rw [filled_zero]; exact hm14)⟩
      · rintro fr15 w16 ⟨j, hj, s0, s1, s2, s3, s8, s9, s10, s11, s12, s13, s25, hm16⟩
        have z13 := s13
        refine cw_seq ?_
        refine cw_seq ?_
        refine cw_region ?_
        refine rw_q rfl (ev_move (v := (i64 (j : Int))) s13) ?_
        refine rw_q rfl (ev_i64_lss (b := 32) rfl rfl) ?_
        refine rw_nil ?_
        refine kThen_normal ?_
        refine cw_cond rfl (fun hc17 => ?_) (fun hc17 => ?_)
        · -- true
          have hc17p := of_decide_eq_true hc17
          refine cw_skip ?_
          refine kThen_normal ?_
          refine cw_seq ?_
          refine cw_block ?_
          refine cw_region ?_
          refine rw_q rfl (ev_move (v := (i64 (j : Int))) s13) ?_
          refine rw_q rfl (ev_move (v := rxq5) s9) ?_
          refine rw_q rfl (ev_move (v := (i64 (i : Int))) s11) ?_
          refine rw_q rfl (ev_i64_mul (a := 32) rfl rfl (by omega) (by omega)) ?_
          refine rw_q rfl (ev_move (v := (i64 (j : Int))) s13) ?_
          refine rw_q rfl (ev_i64_add rfl rfl (by omega) (by omega)) ?_
          refine rw_q rfl (ev_indexAddr_rdv (gX6.rd (Mem.pick2 [_] Hk Hsq5 _ hm16)) Tryd.underlying22 ti5 rfl rfl (by omega) (by first | omega | (simp only [List.length_set, List.length_append, List.length_replicate, List.length_map, List.length_cons, List.length_nil]; omega) | (simp; done) | (simp; omega) | decide)) ?_
          refine rw_q (v := (u8 (X.getD (((32 * (i : Int)) + (j : Int) : Int).toNat) 0))) rfl (ev_load_rdD (l := X) (i := (32 * (i : Int)) + (j : Int)) (dflt := 0) (gX6.rd (Mem.pick2 [_] Hk Hsq5 _ hm16)) Tryd.underlying5 rfl (by omega) (by first | omega | (simp only [List.length_set, List.length_append, List.length_replicate, List.length_map, List.length_cons, List.length_nil]; omega) | (simp; done) | (simp; omega) | decide) rfl) ?_
          refine rw_q rfl (ev_ia_arr (r := j) (by omega) Tryd.underlying28 ti5 s12 rfl (by omega) (by first | omega | (simp only [List.length_set, List.length_append, List.length_replicate, List.length_map, List.length_cons, List.length_nil]; omega) | (simp; done) | (simp; omega) | decide)) ?_
          refine rw_n (or_store_cl (f := u8) u8_one ti5 rfl rfl hm16.h0 (by first | omega | (simp only [List.length_set, List.length_append, List.length_replicate, List.length_map, List.length_cons, List.length_nil]; omega) | (simp; done) | (simp; omega) | decide) (.inl (Nat.zero_le _))) ?_
          rintro _ w18 uq18
          have hm18 := hm16.upd0 uq18
          refine rw_nil ?_
          refine kBlk_normal ?_
          refine CW.abs (fun g => g 0 = va ∧ g 1 = vb ∧ g 2 = (Value.string pu) ∧ g 3 = (i64 n) ∧ g 8 = (Value.slice none 0 0) ∧ g 9 = rxq5 ∧ g 10 = sk ∧ g 11 = (i64 (i : Int)) ∧ g 12 = (ptr b12 0) ∧ g 13 = (i64 (j : Int)) ∧ g 25 = (bl (decide ((i : Int) < n))) ∧ g 30 = (bl (decide ((j : Int) < 32))) ∧ True) ⟨s0, s1, s2, s3, s8, s9, s10, s11, s12, s13, s25, rfl, trivial⟩ ?_
          rintro fr19 ⟨s0, s1, s2, s3, s8, s9, s10, s11, s12, s13, s25, s30, _⟩
          refine cw_region ?_
          refine rw_q rfl (ev_move (v := (i64 (j : Int))) s13) ?_
          refine rw_q rfl (ev_i64_add (b := 1) rfl rfl (by omega) (by omega)) ?_
          refine rw_q rfl (ev_assign (v := (i64 ((j : Int) + 1))) rfl) ?_
          refine rw_nil ?_
          refine kThen_normal ?_
          exact ⟨⟨j + 1, (by omega), s0, s1, s2, s3, s8, s9, s10, s11, s12, rfl, s25, (by rw [← filled_set (fun q => X.getD (32 * (i : Int) + (q : Int)).toNat 0) 0 (n := 32) (k := j) (by omega) _ rfl]; exact hm18)⟩, meas rfl z13 (by omega) (by omega)⟩
        · -- false
          have hc17p := of_decide_eq_false hc17
          obtain rfl : j = 32 := by omega
          refine cw_exit ?_
          refine kThen_exit (kThen_exit (kBlk_hit ?_))
          refine cw_region ?_
          refine rw_q rfl (ev_move (v := sk) s10) ?_
          refine rw_q (v := (agg u8 (filled (fun q => X.getD (32 * (i : Int) + (q : Int)).toNat 0) 0 32 32))) rfl (ev_loadA Tryd.underlying28 rfl ti28 s12 hm16.h0 (by rw [size_cl]; first | omega | (simp only [List.length_set, List.length_append, List.length_replicate, List.length_map, List.length_cons, List.length_nil]; omega) | (simp; done) | (simp; omega) | decide)) ?_
          refine rw_c rfl (or_buildSlice_k1 (cs := (cl u8 (filled (fun q => X.getD (32 * (i : Int) + (q : Int)).toNat 0) 0 32 32))) hm16 Tryd.underlying45 ti28 rfl rfl rfl (by rw [size_cl]; first | omega | (simp only [List.length_set, List.length_append, List.length_replicate, List.length_map, List.length_cons, List.length_nil]; omega) | (simp; done) | (simp; omega) | decide)) ?_
          rintro _ w20 ⟨b44, rfl, _ew20, hm20⟩
          have hm20 : Mem w20 (restOf w0) ([(b44, .cells (cl u8 (filled (fun q => X.getD (32 * (i : Int) + (q : Int)).toNat 0) 0 32 32)) 28 (0, 0)), (b12, .cells (cl u8 (filled (fun q => X.getD (32 * (i : Int) + (q : Int)).toNat 0) 0 32 32)) 28 (0, 0))] ++ (Hk ++ (Hsq5 ++ ([])))) := hm20
          refine rw_c rfl (or_appendK (enc := (encA u8)) (k := 32) (Hs := Hk) (H := [(b44, .cells (cl u8 (filled (fun q => X.getD (32 * (i : Int) + (q : Int)).toNat 0) 0 32 32)) 28 (0, 0)), (b12, .cells (cl u8 (filled (fun q => X.getD (32 * (i : Int) + (q : Int)).toNat 0) 0 32 32)) 28 (0, 0))] ++ (Hsq5 ++ ([]))) (Mem.pick [_, _] Hk _ hm20) gkk rfl rfl (RdK.ofOne (enc := (encA u8)) (k := 32) (a := (filled (fun q => X.getD (32 * (i : Int) + (q : Int)).toNat 0) 0 32 32)) hm20.h0 rfl (by simp only [encA, List.length_map]; first | omega | (simp only [List.length_set, List.length_append, List.length_replicate, List.length_map, List.length_cons, List.length_nil]; omega) | (simp; done) | (simp; omega) | decide)) Tryd.underlying45 Tryd.underlying45 ti28 rfl rfl (fun _ _ => encA_one u8_one _) (by first | omega | (simp only [List.length_set, List.length_append, List.length_replicate, List.length_map, List.length_cons, List.length_nil]; omega) | (simp; done) | (simp; omega) | decide) (by first | omega | (simp only [List.length_set, List.length_append, List.length_replicate, List.length_map, List.length_cons, List.length_nil]; omega) | (simp; done) | (simp; omega) | decide)) ?_
          rintro sv21 w21 ⟨Hs21, hm21, g21⟩
          replace g21 : GrowK (encA u8) 32 28 sv21 ((chunksP i X) ++ ([filled (fun q => X.getD (32 * (i : Int) + (q : Int)).toNat 0) 0 32 32])) Hs21 := g21
          refine rw_q rfl (ev_assign (v := sv21) rfl) ?_
          refine rw_nil ?_
          refine kBlk_normal ?_
          refine cw_region ?_
          refine rw_q rfl (ev_move (v := (i64 (i : Int))) s11) ?_
          refine rw_q rfl (ev_i64_add (b := 1) rfl rfl (by omega) (by omega)) ?_
          refine rw_q rfl (ev_assign (v := (i64 ((i : Int) + 1))) rfl) ?_
          refine rw_nil ?_
          refine kThen_normal ?_
          have hm22 := Mem.drop ([(b44, .cells (cl u8 (filled (fun q => X.getD (32 * (i : Int) + (q : Int)).toNat 0) 0 32 32)) 28 (0, 0))]) _ (Mem.pick Hs21 [_] _ hm21)
          have hm23 := Mem.drop ([(b12, .cells (cl u8 (filled (fun q => X.getD (32 * (i : Int) + (q : Int)).toNat 0) 0 32 32)) 28 (0, 0))]) _ (Mem.pick Hs21 [_] _ hm22)
          exact ⟨⟨i + 1, sv21, Hs21, (by omega), (GrowK.cast g21 (by rw [chunk_read X i (by omega), ← chunks_succ])), s0, s1, s2, s3, s8, s9, rfl, rfl, hm23⟩, meas rfl z11 (by omega) (by omega)⟩
    · -- false
      have hc12p := of_decide_eq_false hc12
      obtain rfl : i = n.toNat := by omega
      refine cw_exit ?_
      refine kThen_exit (kThen_exit (kBlk_hit ?_))
      refine cw_seq ?_
      refine cw_region ?_
      refine rw_q rfl (ev_move (v := sk) s10) ?_
      refine rw_q rfl (ev_assign (v := sk) rfl) ?_
      refine rw_nil ?_
      refine kThen_normal ?_
      refine cw_ret ?_
      refine fnPost_ret [sk] ⟨rfl, trivial⟩ ?_
      have hm24 := Mem.drop Hsq5 _ (Mem.pick Hk Hsq5 _ hm11)
      exact ⟨Hk, by rw [← hX]; exact gkk, by simpa using hm24⟩

theorem c_step1 (mark : BitVec 8) (bk : Nat) (chain : List (BitVec 8)) (w0 : World)  (hT : Tabs (blks w0)) (hbk : blks w0 bk = some (.cells (cl u8 chain) 28 (0, 0))) (hcl : chain.length = 32) : CallsR Tryd.prog 35 #[(u8 mark), (ptr bk 0)] w0 (fun r w1 => r = (agg u8 (hmacP chain [mark])) ∧ Ext w0 w1) := by
  refine callsR_of_cw (args := [(u8 mark), (ptr bk 0)]) Tryd.func35 rfl Tryd.ntmps35 Tryd.results35 rfl ?_
  have hm0 : Mem w0 (restOf w0) [] := Mem.of_world w0
  refine cw_seq ?_
  refine cw_region ?_
  refine rw_c rfl (or_alloc_agg hm0 ti28) ?_
  rintro _ w1 ⟨b3, rfl, _ew1, hm1⟩
  refine rw_nil ?_
  refine kThen_normal ?_
  refine cw_seq ?_
  refine cw_region ?_
  refine rw_q rfl (ev_slice_sla (i := 0) (j := 32) Tryd.underlying28 ti5 rfl (optI_none _ _) (optI_none _ _) (by omega) (by first | omega | (simp only [List.length_set, List.length_append, List.length_replicate, List.length_map, List.length_cons, List.length_nil]; omega) | (simp; done) | (simp; omega) | decide) (by first | omega | (simp only [List.length_set, List.length_append, List.length_replicate, List.length_map, List.length_cons, List.length_nil]; omega) | (simp; done) | (simp; omega) | decide)) ?_
  refine rw_q rfl (ev_move (v := (u8 mark)) rfl) ?_
  refine rw_c rfl (or_buildSlice_cl u8 [mark] u8_one hm1 Tryd.underlying22 ti5 rfl rfl rfl) ?_
  rintro _ w2 ⟨b6, rfl, _ew2, hm2⟩
  refine rw_c rfl (or_buildSlice_ones [(slc b6 0 1 1)] (by simp [slc, ptr, Value.oneCell', i64, u8, u32, u64, bl]) hm2 Tryd.underlying35 ti22 rfl rfl rfl) ?_
  rintro _ w3 ⟨b7, rfl, _ew3, hm3⟩
  have hm3 : Mem w3 (restOf w0) [(b7, .cells #[(slc b6 0 1 1)] 22 (0, 0)), (b6, .cells (cl u8 ([mark])) 5 (0, 0)), (b3, .cells (cl u8 (List.replicate 32 0)) 28 (0, 0))] := hm3
  refine rw_c rfl (opR_call Tryd.func17 bd17 nm17 (args2 rfl rfl) (c_hmac (sla bk 0 1 0 32 32) chain (slc b7 0 1 1) ([((slc b6 0 1 1), [mark])]) _ (hT.mono fun b o e => (hm3).rest b o e) (Rd.slaAll (hm3.rest _ _ hbk) (by first | omega | (simp only [List.length_set, List.length_append, List.length_replicate, List.length_map, List.length_cons, List.length_nil]; omega) | (simp; done) | (simp; omega) | decide)) (by first | omega | (simp only [List.length_set, List.length_append, List.length_replicate, List.length_map, List.length_cons, List.length_nil]; omega) | (simp; done) | (simp; omega) | decide) (Rd.mkA (f := Prod.fst) (l := [((slc b6 0 1 1), [mark])]) hm3.h0) (allp_cons (Rd.mkA hm3.h1) allp_nil) (by rw [joinL_one]; simp) (by first | omega | (simp only [List.length_set, List.length_append, List.length_replicate, List.length_map, List.length_cons, List.length_nil]; omega) | (simp; done) | (simp; omega) | decide))) ?_
  rintro _ w4 ⟨rfl, _ew4⟩
  have hm4 := hm3.ext _ew4
  refine rw_n (or_store_agg (f := u8) (l := hmacP chain (joinL ([((slc b6 0 1 1), [mark])]))) u8_one ti28 rfl rfl (by first | omega | (simp only [List.length_set, List.length_append, List.length_replicate, List.length_map, List.length_cons, List.length_nil]; omega) | (simp; done) | (simp; omega) | decide) hm4.h2 (by rw [size_cl]; first | omega | (simp only [List.length_set, List.length_append, List.length_replicate, List.length_map, List.length_cons, List.length_nil]; omega) | (simp; done) | (simp; omega) | decide) rfl) ?_
  rintro _ w6 uq6
  have hm6 := hm4.upd2 uq6
  refine rw_nil ?_
  refine kThen_normal ?_
  refine cw_ret ?_
  refine fnPost_ret [(agg u8 (hmacP chain (joinL ([((slc b6 0 1 1), [mark])]))))] ⟨⟨_, rfl, loadVar_run Tryd.underlying28 rfl ti28 hm6.h2 (by rw [size_cl]; first | omega | (simp only [List.length_set, List.length_append, List.length_replicate, List.length_map, List.length_cons, List.length_nil]; omega) | (simp; done) | (simp; omega) | decide)⟩, trivial⟩ ?_
  exact ⟨congrArg (agg u8) (by rw [joinL_one]), hm6.toExt⟩

theorem c_step (chain : List (BitVec 8)) (w0 : World)  (hT : Tabs (blks w0)) (hcl : chain.length = 32) : CallsR Tryd.prog 28 #[(agg u8 chain)] w0 (fun r w1 => r = (Value.tuple #[(agg u8 (hmacP chain [2#8])), (agg u8 (hmacP chain [1#8]))]) ∧ Ext w0 w1) := by
  refine callsR_of_cw (args := [(agg u8 chain)]) Tryd.func28 rfl Tryd.ntmps28 Tryd.results28 rfl ?_
  have hm0 : Mem w0 (restOf w0) [] := Mem.of_world w0
  refine cw_seq ?_
  refine cw_region ?_
  refine rw_c rfl (or_box_agg (f := u8) (l := chain) hm0 rfl) ?_
  rintro _ w1 ⟨b1, rfl, _ew1, hm1⟩
  refine rw_c rfl (or_alloc_agg hm1 ti28) ?_
  rintro _ w2 ⟨b2, rfl, _ew2, hm2⟩
  refine rw_c rfl (or_alloc_agg hm2 ti28) ?_
  rintro _ w3 ⟨b3, rfl, _ew3, hm3⟩
  refine rw_nil ?_
  refine kThen_normal ?_
  refine cw_seq ?_
  refine cw_region ?_
  refine rw_q rfl (ev_makeFunc (args1 rfl)) ?_
  refine rw_q rfl (ev_assign (v := (Value.func (.func 35) #[] #[(ptr b1 0)])) rfl) ?_
  refine rw_nil ?_
  refine kThen_normal ?_
  refine cw_seq ?_
  refine cw_region ?_
  refine rw_q rfl (ev_move (v := (Value.func (.func 35) #[] #[(ptr b1 0)])) rfl) ?_
  refine rw_c rfl (opR_callV (f := 35) rfl Tryd.func35 bd35 nm35 (args1 rfl) (c_step1 2#8 b1 chain _ (hT.mono fun b o e => (hm3).rest b o e) hm3.h2 (by first | omega | (simp only [List.length_set, List.length_append, List.length_replicate, List.length_map, List.length_cons, List.length_nil]; omega) | (simp; done) | (simp; omega) | decide))) ?_
  rintro _ w4 ⟨rfl, _ew4⟩
  have hm4 := hm3.ext _ew4
  refine rw_q rfl (ev_move (v := (Value.func (.func 35) #[] #[(ptr b1 0)])) rfl) ?_
  refine rw_c rfl (opR_callV (f := 35) rfl Tryd.func35 bd35 nm35 (args1 rfl) (c_step1 1#8 b1 chain _ (hT.mono fun b o e => (hm4).rest b o e) hm4.h2 (by first | omega | (simp only [List.length_set, List.length_append, List.length_replicate, List.length_map, List.length_cons, List.length_nil]; omega) | (simp; done) | (simp; omega) | decide))) ?_
  rintro _ w6 ⟨rfl, _ew6⟩
  have hm6 := hm4.ext _ew6
  refine rw_n (or_store_agg (f := u8) (l := hmacP chain [2#8]) u8_one ti28 rfl rfl (by first | omega | (simp only [List.length_set, List.length_append, List.length_replicate, List.length_map, List.length_cons, List.length_nil]; omega) | (simp; done) | (simp; omega) | decide) hm6.h1 (by rw [size_cl]; first | omega | (simp only [List.length_set, List.length_append, List.length_replicate, List.length_map, List.length_cons, List.length_nil]; omega) | (simp; done) | (simp; omega) | decide) rfl) ?_
  rintro _ w8 uq8
  have hm8 := hm6.upd1 uq8
  refine rw_n (or_store_agg (f := u8) (l := hmacP chain [1#8]) u8_one ti28 rfl rfl (by first | omega | (simp only [List.length_set, List.length_append, List.length_replicate, List.length_map, List.length_cons, List.length_nil]; omega) | (simp; done) | (simp; omega) | decide) hm8.h0 (by rw [size_cl]; first | omega | (simp only [List.length_set, List.length_append, List.length_replicate, List.length_map, List.length_cons, List.length_nil]; omega) | (simp; done) | (simp; omega) | decide) rfl) ?_
  rintro _ w9 uq9
  have hm9 := hm8.upd0 uq9
  refine rw_nil ?_
  refine kThen_normal ?_
  refine cw_ret ?_
  refine fnPost_ret [(agg u8 (hmacP chain [2#8])), (agg u8 (hmacP chain [1#8]))] ⟨⟨_, rfl, loadVar_run Tryd.underlying28 rfl ti28 hm9.h1 (by rw [size_cl]; first | omega | (simp only [List.length_set, List.length_append, List.length_replicate, List.length_map, List.length_cons, List.length_nil]; omega) | (simp; done) | (simp; omega) | decide)⟩, ⟨_, rfl, loadVar_run Tryd.underlying28 rfl ti28 hm9.h0 (by rw [size_cl]; first | omega | (simp only [List.length_set, List.length_append, List.length_replicate, List.length_map, List.length_cons, List.length_nil]; omega) | (simp; done) | (simp; omega) | decide)⟩, trivial⟩ ?_
  exact ⟨rfl, hm9.toExt⟩

theorem c_rstep (chain : List (BitVec 8)) (w0 : World)  (hcl : chain.length = 32) : CallsR Tryd.prog 29 #[(agg u8 chain)] w0 (fun r w1 => r = (Value.tuple #[(agg u8 (hmacP chain [2#8])), (agg u8 (hmacP chain [1#8]))]) ∧ Ext w0 w1) := by
  refine callsR_of_cw (args := [(agg u8 chain)]) Tryd.func29 rfl Tryd.ntmps29 Tryd.results29 rfl ?_
  have hm0 : Mem w0 (restOf w0) [] := Mem.of_world w0
  refine cw_seq ?_
  refine cw_region ?_
  refine rw_c rfl (or_box_agg (f := u8) (l := chain) hm0 rfl) ?_
  rintro _ w1 ⟨b1, rfl, _ew1, hm1⟩
  refine rw_c rfl (or_alloc_agg hm1 ti28) ?_
  rintro _ w2 ⟨b2, rfl, _ew2, hm2⟩
  refine rw_c rfl (or_alloc_agg hm2 ti28) ?_
  rintro _ w3 ⟨b3, rfl, _ew3, hm3⟩
  refine rw_nil ?_
  refine kThen_normal ?_
  refine cw_seq ?_
  refine cw_drawE (by kernel_rfl) ?_
  refine re_or 1 4 rfl rfl ?_ ?_
  · -- 1 ahead of 4
    refine re_plan [(0, false), (3, false), (1, true), (2, false), (4, true)] 5 rfl (by kernel_rfl) ?_
    refine dw_q rfl rfl (fun _ _hx => ev_slice_sla (i := 0) (j := 32) Tryd.underlying28 ti5 rfl (optI_none _ _) (optI_none _ _) (by omega) (by first | omega | (simp only [List.length_set, List.length_append, List.length_replicate, List.length_map, List.length_cons, List.length_nil]; omega) | (simp; done) | (simp; omega) | decide) (by first | omega | (simp only [List.length_set, List.length_append, List.length_replicate, List.length_map, List.length_cons, List.length_nil]; omega) | (simp; done) | (simp; omega) | decide)) ?_
    refine dw_q rfl rfl (fun _ _hx => ev_slice_sla (i := 0) (j := 32) Tryd.underlying28 ti5 rfl (optI_none _ _) (optI_none _ _) (by omega) (by first | omega | (simp only [List.length_set, List.length_append, List.length_replicate, List.length_map, List.length_cons, List.length_nil]; omega) | (simp; done) | (simp; omega) | decide) (by first | omega | (simp only [List.length_set, List.length_append, List.length_replicate, List.length_map, List.length_cons, List.length_nil]; omega) | (simp; done) | (simp; omega) | decide)) ?_
    refine dw_c rfl rfl (fun w4 _ew4 => ?_)
    have hm4 := hm3.ext _ew4
    refine OpR.mono (or_buildSlice_cl u8 [2#8] u8_one hm4 Tryd.underlying22 ti5 rfl rfl rfl) ?_
    rintro _ w5 ⟨b5, rfl, _ew5, hm5⟩
    refine ⟨_ew5, ?_⟩
    refine dw_x (v := (agg u8 (hmacP chain ([2#8])))) rfl rfl (fun w6 _ew6 => OpR.mono (opR_call Tryd.func18 bd18 nm18 (args2 rfl rfl) (c_rhmac (sla b1 0 1 0 32 32) chain (slc b5 0 1 1) ([2#8]) _ (Rd.slaAll (hm5.ext _ew6).h3 (by first | omega | (simp only [List.length_set, List.length_append, List.length_replicate, List.length_map, List.length_cons, List.length_nil]; omega) | (simp; done) | (simp; omega) | decide)) (by first | omega | (simp only [List.length_set, List.length_append, List.length_replicate, List.length_map, List.length_cons, List.length_nil]; omega) | (simp; done) | (simp; omega) | decide) (Rd.mkA (hm5.ext _ew6).h0) (by first | omega | (simp only [List.length_set, List.length_append, List.length_replicate, List.length_map, List.length_cons, List.length_nil]; omega) | (simp; done) | (simp; omega) | decide))) (by rintro _ w7 ⟨rfl, _ew7⟩; exact ⟨rfl, _ew7⟩)) ?_
    refine dw_c rfl rfl (fun w9 _ew9 => ?_)
    have hm9 := hm5.ext _ew9
    refine OpR.mono (or_buildSlice_cl u8 [1#8] u8_one hm9 Tryd.underlying22 ti5 rfl rfl rfl) ?_
    rintro _ w10 ⟨b8, rfl, _ew10, hm10⟩
    refine ⟨_ew10, ?_⟩
    refine dw_nil (fun w11 _ew11 => ?_)
    have hm11 := hm10.ext _ew11
    refine rw_c rfl (opR_call Tryd.func18 bd18 nm18 (args2 rfl rfl) (c_rhmac (sla b1 0 1 0 32 32) chain (slc b8 0 1 1) ([1#8]) _ (Rd.slaAll hm11.h4 (by first | omega | (simp only [List.length_set, List.length_append, List.length_replicate, List.length_map, List.length_cons, List.length_nil]; omega) | (simp; done) | (simp; omega) | decide)) (by first | omega | (simp only [List.length_set, List.length_append, List.length_replicate, List.length_map, List.length_cons, List.length_nil]; omega) | (simp; done) | (simp; omega) | decide) (Rd.mkA hm11.h0) (by first | omega | (simp only [List.length_set, List.length_append, List.length_replicate, List.length_map, List.length_cons, List.length_nil]; omega) | (simp; done) | (simp; omega) | decide))) ?_
    rintro _ w12 ⟨rfl, _ew12⟩
    have hm12 := hm11.ext _ew12
    refine rw_n (or_store_agg (f := u8) (l := hmacP chain ([2#8])) u8_one ti28 rfl rfl (by first | omega | (simp only [List.length_set, List.length_append, List.length_replicate, List.length_map, List.length_cons, List.length_nil]; omega) | (simp; done) | (simp; omega) | decide) hm12.h3 (by rw [size_cl]; first | omega | (simp only [List.length_set, List.length_append, List.length_replicate, List.length_map, List.length_cons, List.length_nil]; omega) | (simp; done) | (simp; omega) | decide) rfl) ?_
    rintro _ w14 uq14
    have hm14 := hm12.upd3 uq14
    refine rw_n (or_store_agg (f := u8) (l := hmacP chain ([1#8])) u8_one ti28 rfl rfl (by first | omega | (simp only [List.length_set, List.length_append, List.length_replicate, List.length_map, List.length_cons, List.length_nil]; omega) | (simp; done) | (simp; omega) | decide) hm14.h2 (by rw [size_cl]; first | omega | (simp only [List.length_set, List.length_append, List.length_replicate, List.length_map, List.length_cons, List.length_nil]; omega) | (simp; done) | (simp; omega) | decide) rfl) ?_
    rintro _ w15 uq15
    have hm15 := hm14.upd2 uq15
    refine rw_nil ?_
    refine kThen_normal ?_
    refine cw_ret ?_
    refine fnPost_ret [(agg u8 (hmacP chain ([2#8]))), (agg u8 (hmacP chain ([1#8])))] ⟨⟨_, rfl, loadVar_run Tryd.underlying28 rfl ti28 hm15.h3 (by rw [size_cl]; first | omega | (simp only [List.length_set, List.length_append, List.length_replicate, List.length_map, List.length_cons, List.length_nil]; omega) | (simp; done) | (simp; omega) | decide)⟩, ⟨_, rfl, loadVar_run Tryd.underlying28 rfl ti28 hm15.h2 (by rw [size_cl]; first | omega | (simp only [List.length_set, List.length_append, List.length_replicate, List.length_map, List.length_cons, List.length_nil]; omega) | (simp; done) | (simp; omega) | decide)⟩, trivial⟩ ?_
    exact ⟨rfl, hm15.toExt⟩
  · -- 4 ahead of 1
    refine re_plan [(0, false), (3, false), (4, true), (1, true), (2, false)] 5 rfl (by kernel_rfl) ?_
    refine dw_q rfl rfl (fun _ _hx => ev_slice_sla (i := 0) (j := 32) Tryd.underlying28 ti5 rfl (optI_none _ _) (optI_none _ _) (by omega) (by first | omega | (simp only [List.length_set, List.length_append, List.length_replicate, List.length_map, List.length_cons, List.length_nil]; omega) | (simp; done) | (simp; omega) | decide) (by first | omega | (simp only [List.length_set, List.length_append, List.length_replicate, List.length_map, List.length_cons, List.length_nil]; omega) | (simp; done) | (simp; omega) | decide)) ?_
    refine dw_q rfl rfl (fun _ _hx => ev_slice_sla (i := 0) (j := 32) Tryd.underlying28 ti5 rfl (optI_none _ _) (optI_none _ _) (by omega) (by first | omega | (simp only [List.length_set, List.length_append, List.length_replicate, List.length_map, List.length_cons, List.length_nil]; omega) | (simp; done) | (simp; omega) | decide) (by first | omega | (simp only [List.length_set, List.length_append, List.length_replicate, List.length_map, List.length_cons, List.length_nil]; omega) | (simp; done) | (simp; omega) | decide)) ?_
    refine dw_c rfl rfl (fun w16 _ew16 => ?_)
    have hm16 := hm3.ext _ew16
    refine OpR.mono (or_buildSlice_cl u8 [1#8] u8_one hm16 Tryd.underlying22 ti5 rfl rfl rfl) ?_
    rintro _ w17 ⟨b8_1, rfl, _ew17, hm17⟩
    refine ⟨_ew17, ?_⟩
    refine dw_c rfl rfl (fun w18 _ew18 => ?_)
    have hm18 := hm17.ext _ew18
    refine OpR.mono (or_buildSlice_cl u8 [2#8] u8_one hm18 Tryd.underlying22 ti5 rfl rfl rfl) ?_
    rintro _ w19 ⟨b5_1, rfl, _ew19, hm19⟩
    refine ⟨_ew19, ?_⟩
    refine dw_x (v := (agg u8 (hmacP chain ([2#8])))) rfl rfl (fun w20 _ew20 => OpR.mono (opR_call Tryd.func18 bd18 nm18 (args2 rfl rfl) (c_rhmac (sla b1 0 1 0 32 32) chain (slc b5_1 0 1 1) ([2#8]) _ (Rd.slaAll (hm19.ext _ew20).h4 (by first | omega | (simp only [List.length_set, List.length_append, List.length_replicate, List.length_map, List.length_cons, List.length_nil]; omega) | (simp; done) | (simp; omega) | decide)) (by first | omega | (simp only [List.length_set, List.length_append, List.length_replicate, List.length_map, List.length_cons, List.length_nil]; omega) | (simp; done) | (simp; omega) | decide) (Rd.mkA (hm19.ext _ew20).h0) (by first | omega | (simp only [List.length_set, List.length_append, List.length_replicate, List.length_map, List.length_cons, List.length_nil]; omega) | (simp; done) | (simp; omega) | decide))) (by rintro _ w21 ⟨rfl, _ew21⟩; exact ⟨rfl, _ew21⟩)) ?_
    refine dw_nil (fun w23 _ew23 => ?_)
    have hm23 := hm19.ext _ew23
    refine rw_c rfl (opR_call Tryd.func18 bd18 nm18 (args2 rfl rfl) (c_rhmac (sla b1 0 1 0 32 32) chain (slc b8_1 0 1 1) ([1#8]) _ (Rd.slaAll hm23.h4 (by first | omega | (simp only [List.length_set, List.length_append, List.length_replicate, List.length_map, List.length_cons, List.length_nil]; omega) | (simp; done) | (simp; omega) | decide)) (by first | omega | (simp only [List.length_set, List.length_append, List.length_replicate, List.length_map, List.length_cons, List.length_nil]; omega) | (simp; done) | (simp; omega) | decide) (Rd.mkA hm23.h1) (by first | omega | (simp only [List.length_set, List.length_append, List.length_replicate, List.length_map, List.length_cons, List.length_nil]; omega) | (simp; done) | (simp; omega) | decide))) ?_
    rintro _ w24 ⟨rfl, _ew24⟩
    have hm24 := hm23.ext _ew24
    refine rw_n (or_store_agg (f := u8) (l := hmacP chain ([2#8])) u8_one ti28 rfl rfl (by first | omega | (simp only [List.length_set, List.length_append, List.length_replicate, List.length_map, List.length_cons, List.length_nil]; omega) | (simp; done) | (simp; omega) | decide) hm24.h3 (by rw [size_cl]; first | omega | (simp only [List.length_set, List.length_append, List.length_replicate, List.length_map, List.length_cons, List.length_nil]; omega) | (simp; done) | (simp; omega) | decide) rfl) ?_
    rintro _ w26 uq26
    have hm26 := hm24.upd3 uq26
    refine rw_n (or_store_agg (f := u8) (l := hmacP chain ([1#8])) u8_one ti28 rfl rfl (by first | omega | (simp only [List.length_set, List.length_append, List.length_replicate, List.length_map, List.length_cons, List.length_nil]; omega) | (simp; done) | (simp; omega) | decide) hm26.h2 (by rw [size_cl]; first | omega | (simp only [List.length_set, List.length_append, List.length_replicate, List.length_map, List.length_cons, List.length_nil]; omega) | (simp; done) | (simp; omega) | decide) rfl) ?_
    rintro _ w27 uq27
    have hm27 := hm26.upd2 uq27
    refine rw_nil ?_
    refine kThen_normal ?_
    refine cw_ret ?_
    refine fnPost_ret [(agg u8 (hmacP chain ([2#8]))), (agg u8 (hmacP chain ([1#8])))] ⟨⟨_, rfl, loadVar_run Tryd.underlying28 rfl ti28 hm27.h3 (by rw [size_cl]; first | omega | (simp only [List.length_set, List.length_append, List.length_replicate, List.length_map, List.length_cons, List.length_nil]; omega) | (simp; done) | (simp; omega) | decide)⟩, ⟨_, rfl, loadVar_run Tryd.underlying28 rfl ti28 hm27.h2 (by rw [size_cl]; first | omega | (simp only [List.length_set, List.length_append, List.length_replicate, List.length_map, List.length_cons, List.length_nil]; omega) | (simp; done) | (simp; omega) | decide)⟩, trivial⟩ ?_
    exact ⟨rfl, hm27.toExt⟩

set_option maxHeartbeats 1000000 in
theorem c_speaks02  (w0 : World)  (hT : Tabs (blks w0)) : CallsR Tryd.prog 20 #[] w0 (fun r w1 => r = (bl true) ∧ Ext w0 w1) := by
  refine callsR_of_cw (args := []) Tryd.func20 rfl Tryd.ntmps20 Tryd.results20 rfl ?_
  have hm0 : Mem w0 (restOf w0) [] := Mem.of_world w0
  refine cw_seq ?_
  refine cw_region ?_
  refine rw_q rfl (ev_assign (v := (bl false)) rfl) ?_
  refine rw_nil ?_
  refine kThen_normal ?_
  refine cw_seq ?_
  refine cw_region ?_
  refine rw_q rfl (ev_build_arr (ps := []) (c := (cl u8 (List.replicate 32 0))) ti28 Tryd.underlying28 ti5 (by simp) rfl) ?_
  refine rw_c rfl (opR_call Tryd.func21 bd21 nm21 (args3 rfl rfl rfl) (c_expand (List.replicate 32 0) (Value.slice none 0 0) ([]) (0 : Int) _ (hT.mono fun b o e => (hm0).rest b o e) (by first | omega | (simp only [List.length_set, List.length_append, List.length_replicate, List.length_map, List.length_cons, List.length_nil]; omega) | (simp; done) | (simp; omega) | decide) (Rd.nil _ _) (by first | omega | (simp only [List.length_set, List.length_append, List.length_replicate, List.length_map, List.length_cons, List.length_nil]; omega) | (simp; done) | (simp; omega) | decide))) ?_
  rintro _ w1 ⟨vxq2, Hsq2, rfl, gvxq2, k_w1⟩
  have hm1 : Mem w1 (restOf w0) (Hsq2 ++ ([])) := Mem.new (H := []) (H' := Hsq2) hm0 k_w1
  refine rw_q rfl (ev_move (v := (Value.tuple #[vxq2, (i64 (errP (0 : Int)))])) rfl) ?_
  refine rw_q (v := vxq2) rfl (ev_extract rfl rfl) ?_
  refine rw_q (v := (i64 (errP (0 : Int)))) rfl (ev_extract rfl rfl) ?_
  refine rw_q rfl (ev_assign (v := vxq2) rfl) ?_
  refine rw_q rfl (ev_assign (v := (i64 (errP (0 : Int)))) rfl) ?_
  refine rw_nil ?_
  refine kThen_normal ?_
  refine cw_seq ?_
  refine cw_region ?_
  refine rw_c rfl (opR_call Tryd.func26 bd26 nm26 (args4 rfl rfl rfl rfl) (c_keys (Value.slice none 0 0) ([]) (Value.slice none 0 0) ([]) (⟨#[97]⟩) (1 : Int) _ (hT.mono fun b o e => (hm1).rest b o e) (Rd.nil _ _) (by first | omega | (simp only [List.length_set, List.length_append, List.length_replicate, List.length_map, List.length_cons, List.length_nil]; omega) | (simp; done) | (simp; omega) | decide) (Rd.nil _ _) (by first | omega | (simp only [List.length_set, List.length_append, List.length_replicate, List.length_map, List.length_cons, List.length_nil]; omega) | (simp; done) | (simp; omega) | decide) (by first | omega | (simp only [List.length_set, List.length_append, List.length_replicate, List.length_map, List.length_cons, List.length_nil]; omega) | (simp; done) | (simp; omega) | decide) (by first | omega | (simp only [List.length_set, List.length_append, List.length_replicate, List.length_map, List.length_cons, List.length_nil]; omega) | (simp; done) | (simp; omega) | decide))) ?_
  rintro _ w3 ⟨vxq4, Hsq4, rfl, gvxq4, k_w3⟩
  have hm3 : Mem w3 (restOf w0) (Hsq4 ++ (Hsq2 ++ ([]))) := Mem.new (H := Hsq2 ++ ([])) (H' := Hsq4) hm1 k_w3
  refine rw_q rfl (ev_move (v := (Value.tuple #[vxq4, (i64 (errK (1 : Int)))])) rfl) ?_
  refine rw_q (v := vxq4) rfl (ev_extract rfl rfl) ?_
  refine rw_q (v := (i64 (errK (1 : Int)))) rfl (ev_extract rfl rfl) ?_
  refine rw_q rfl (ev_assign (v := vxq4) rfl) ?_
  refine rw_q rfl (ev_assign (v := (i64 (errK (1 : Int)))) rfl) ?_
  refine rw_nil ?_
  refine kThen_normal ?_
  refine CW.abs (fun g => g 0 = (bl false) ∧ g 1 = vxq2 ∧ g 2 = (i64 (errP (0 : Int))) ∧ g 3 = vxq4 ∧ g 4 = (i64 (errK (1 : Int))) ∧ True) ⟨rfl, rfl, rfl, rfl, rfl, trivial⟩ ?_
  rintro fr5 ⟨s0, s1, s2, s3, s4, _⟩
  refine cw_seq ?_
  refine cw_region ?_
  refine rw_c rfl (opR_call Tryd.func26 bd26 nm26 (args4 rfl rfl rfl rfl) (c_keys (Value.slice none 0 0) ([]) (Value.slice none 0 0) ([]) (⟨#[97]⟩) (2 : Int) _ (hT.mono fun b o e => (hm3).rest b o e) (Rd.nil _ _) (by first | omega | (simp only [List.length_set, List.length_append, List.length_replicate, List.length_map, List.length_cons, List.length_nil]; omega) | (simp; done) | (simp; omega) | decide) (Rd.nil _ _) (by first | omega | (simp only [List.length_set, List.length_append, List.length_replicate, List.length_map, List.length_cons, List.length_nil]; omega) | (simp; done) | (simp; omega) | decide) (by first | omega | (simp only [List.length_set, List.length_append, List.length_replicate, List.length_map, List.length_cons, List.length_nil]; omega) | (simp; done) | (simp; omega) | decide) (by first | omega | (simp only [List.length_set, List.length_append, List.length_replicate, List.length_map, List.length_cons, List.length_nil]; omega) | (simp; done) | (simp; omega) | decide))) ?_
  rintro _ w6 ⟨vxq7, Hsq7, rfl, gvxq7, k_w6⟩
  have hm6 : Mem w6 (restOf w0) (Hsq7 ++ (Hsq4 ++ (Hsq2 ++ ([])))) := Mem.new (H := Hsq4 ++ (Hsq2 ++ ([]))) (H' := Hsq7) hm3 k_w6
  refine rw_q rfl (ev_move (v := (Value.tuple #[vxq7, (i64 (errK (2 : Int)))])) rfl) ?_
  refine rw_q (v := vxq7) rfl (ev_extract rfl rfl) ?_
  refine rw_q (v := (i64 (errK (2 : Int)))) rfl (ev_extract rfl rfl) ?_
  refine rw_q rfl (ev_assign (v := vxq7) rfl) ?_
  refine rw_q rfl (ev_assign (v := (i64 (errK (2 : Int)))) rfl) ?_
  refine rw_nil ?_
  refine kThen_normal ?_
  refine cw_seq ?_
  have hl1 := sp_l1
  have hl2 := sp_l2
  have hq1 := sp_q1
  have hq2 := sp_q2
  have hq3 := sp_q3
  refine cw_draw [(0, false), (1, false), (2, false), (3, false), (4, false), (5, false), (6, false), (7, false), (8, false), (9, false), (10, false), (11, false), (12, false), (13, false), (14, false), (15, false), (16, false), (17, false), (18, false), (19, false), (20, false), (21, false), (22, false), (23, false), (24, false), (25, false), (26, false), (27, false), (28, false), (29, false), (30, false), (31, false), (32, false), (33, false), (34, false), (35, false), (36, false), (37, false), (38, false), (39, false), (40, false)] 41 (by kernel_rfl) ?_
  refine dw_q rfl rfl (fun _ _hx => ev_move (v := (i64 (errP (0 : Int)))) s2) ?_
  refine dw_q rfl rfl (fun _ _hx => ev_i64_eql (b := 0) rfl rfl) ?_
  refine dw_q rfl rfl (fun _ _hx => ev_move (v := (bl ((errP (0 : Int)) == 0))) rfl) ?_
  have hd8 : ((errP (0 : Int)) == 0) = true := by unfold errP badN; decide
  refine dw_gqy (s := 22) rfl rfl rfl hd8 rfl (fun _ _hx => ev_move (v := (i64 (errK (1 : Int)))) s4) ?_
  refine dw_gqy (s := 22) rfl rfl rfl hd8 rfl (fun _ _hx => ev_i64_eql (b := 0) rfl rfl) ?_
  refine dw_q rfl rfl (fun _ _hx => ev_pick_tk rfl hd8 rfl) ?_
  refine dw_q rfl rfl (fun _ _hx => ev_move (v := (bl ((errK (1 : Int)) == 0))) rfl) ?_
  have hd9 : ((errK (1 : Int)) == 0) = true := by unfold errK badK; decide
  refine dw_gqy (s := 26) rfl rfl rfl hd9 rfl (fun _ _hx => ev_move (v := (i64 (errK (2 : Int)))) rfl) ?_
  refine dw_gqy (s := 26) rfl rfl rfl hd9 rfl (fun _ _hx => ev_i64_eql (b := 0) rfl rfl) ?_
  refine dw_q rfl rfl (fun _ _hx => ev_pick_tk rfl hd9 rfl) ?_
  refine dw_q rfl rfl (fun _ _hx => ev_move (v := (bl ((errK (2 : Int)) == 0))) rfl) ?_
  have hd10 : ((errK (2 : Int)) == 0) = true := by unfold errK badK; decide
  refine dw_gqy (s := 30) rfl rfl rfl hd10 rfl (fun _ _hx => ev_move (v := vxq2) s1) ?_
  refine dw_gqy (s := 30) rfl rfl rfl hd10 rfl (fun _ _hx => ev_len_rd (gvxq2.rd (Mem.pick2 Hsq7 Hsq4 Hsq2 _ (hm6.ext _hx))) Tryd.underlying22 rfl) ?_
  refine dw_gqy (s := 30) rfl rfl rfl hd10 rfl (fun _ _hx => ev_i64_eql (b := 0) rfl rfl) ?_
  refine dw_q rfl rfl (fun _ _hx => ev_pick_tk rfl hd10 rfl) ?_
  refine dw_q rfl rfl (fun _ _hx => ev_move (v := (bl (((expandQ (List.replicate 32 0) ([]) (0 : Int)).length : Int) == 0))) rfl) ?_
  have hd11 : (((expandQ (List.replicate 32 0) ([]) (0 : Int)).length : Int) == 0) = true := by unfold expandQ badN; simp [expandP_length]
  refine dw_gqy (s := 35) rfl rfl rfl hd11 rfl (fun _ _hx => ev_move (v := vxq4) s3) ?_
  refine dw_gqy (s := 35) rfl rfl rfl hd11 rfl (fun _ _hx => ev_len_rk (gvxq4.rd (Mem.pick Hsq7 Hsq4 _ (hm6.ext _hx))) Tryd.underlying45 rfl) ?_
  refine dw_gqy (s := 35) rfl rfl rfl hd11 rfl (fun _ _hx => ev_i64_eql (b := 1) rfl rfl) ?_
  refine dw_q rfl rfl (fun _ _hx => ev_pick_tk rfl hd11 rfl) ?_
  refine dw_q rfl rfl (fun _ _hx => ev_move (v := (bl (((keysQ ([]) ([]) (bytesL (⟨#[97]⟩)) (1 : Int)).length : Int) == 1))) rfl) ?_
  have hd12 : (((keysQ ([]) ([]) (bytesL (⟨#[97]⟩)) (1 : Int)).length : Int) == 1) = true := by simp only [sp_l1, sp_l2]; decide
  refine dw_gqy (s := 40) rfl rfl rfl hd12 rfl (fun _ _hx => ev_move (v := vxq7) rfl) ?_
  refine dw_gqy (s := 40) rfl rfl rfl hd12 rfl (fun _ _hx => ev_len_rk (gvxq7.rd (hm6.ext _hx)) Tryd.underlying45 rfl) ?_
  refine dw_gqy (s := 40) rfl rfl rfl hd12 rfl (fun _ _hx => ev_i64_eql (b := 2) rfl rfl) ?_
  refine dw_q rfl rfl (fun _ _hx => ev_pick_tk rfl hd12 rfl) ?_
  refine dw_q rfl rfl (fun _ _hx => ev_move (v := (bl (((keysQ ([]) ([]) (bytesL (⟨#[97]⟩)) (2 : Int)).length : Int) == 2))) rfl) ?_
  have hd13 : (((keysQ ([]) ([]) (bytesL (⟨#[97]⟩)) (2 : Int)).length : Int) == 2) = true := by simp only [sp_l1, sp_l2]; decide
  refine dw_gqy (s := 45) rfl rfl rfl hd13 rfl (fun _ _hx => ev_move (v := vxq4) s3) ?_
  refine dw_gqy (s := 45) rfl rfl rfl hd13 rfl (fun _ _hx => ev_indexAddr_rk (i := 0) (gvxq4.rd (Mem.pick Hsq7 Hsq4 _ (hm6.ext _hx))) Tryd.underlying45 ti28 rfl rfl (by omega) (by first | omega | (simp only [List.length_set, List.length_append, List.length_replicate, List.length_map, List.length_cons, List.length_nil]; omega) | (simp; done) | (simp; omega) | decide)) ?_
  refine dw_gqy (s := 45) rfl rfl rfl hd13 rfl (fun _ _hx => ev_load_rka (i := (0 : Int)) (gvxq4.rd (Mem.pick Hsq7 Hsq4 _ (hm6.ext _hx))) (by first | omega | (simp only [List.length_set, List.length_append, List.length_replicate, List.length_map, List.length_cons, List.length_nil]; omega) | (simp; done) | (simp; omega) | decide) Tryd.underlying28 ti28 rfl rfl) ?_
  refine dw_gqy (s := 45) rfl rfl rfl hd13 rfl (fun _ _hx => ev_move (v := vxq7) rfl) ?_
  refine dw_gqy (s := 45) rfl rfl rfl hd13 rfl (fun _ _hx => ev_indexAddr_rk (i := 0) (gvxq7.rd (hm6.ext _hx)) Tryd.underlying45 ti28 rfl rfl (by omega) (by first | omega | (simp only [List.length_set, List.length_append, List.length_replicate, List.length_map, List.length_cons, List.length_nil]; omega) | (simp; done) | (simp; omega) | decide)) ?_
  refine dw_gqy (s := 45) rfl rfl rfl hd13 rfl (fun _ _hx => ev_load_rka (i := (0 : Int)) (gvxq7.rd (hm6.ext _hx)) (by first | omega | (simp only [List.length_set, List.length_append, List.length_replicate, List.length_map, List.length_cons, List.length_nil]; omega) | (simp; done) | (simp; omega) | decide) Tryd.underlying28 ti28 rfl rfl) ?_
  refine dw_gqy (s := 45) rfl rfl rfl hd13 rfl (fun _ _hx => ev_u8arr_eql (l := (keysQ ([]) ([]) (bytesL (⟨#[97]⟩)) (1 : Int)).getD 0 []) (m := (keysQ ([]) ([]) (bytesL (⟨#[97]⟩)) (2 : Int)).getD 0 []) Tryd.underlying28 Tryd.underlying5 ti5 Tryd.eqGuardType28 rfl rfl (by first | rfl | first | omega | (simp only [List.length_set, List.length_append, List.length_replicate, List.length_map, List.length_cons, List.length_nil]; omega) | (simp; done) | (simp; omega) | decide) (by first | rfl | first | omega | (simp only [List.length_set, List.length_append, List.length_replicate, List.length_map, List.length_cons, List.length_nil]; omega) | (simp; done) | (simp; omega) | decide)) ?_
  refine dw_q rfl rfl (fun _ _hx => ev_pick_tk rfl hd13 rfl) ?_
  refine dw_q rfl rfl (fun _ _hx => ev_move rfl) ?_
  have hd14 : (((keysQ ([]) ([]) (bytesL (⟨#[97]⟩)) (1 : Int)).getD 0 []) == ((keysQ ([]) ([]) (bytesL (⟨#[97]⟩)) (2 : Int)).getD 0 [])) = true := sp_key
  refine dw_gqy (s := 54) rfl rfl rfl hd14 rfl (fun _ _hx => ev_move (v := vxq4) s3) ?_
  refine dw_gqy (s := 54) rfl rfl rfl hd14 rfl (fun _ _hx => ev_indexAddr_rk (i := 0) (gvxq4.rd (Mem.pick Hsq7 Hsq4 _ (hm6.ext _hx))) Tryd.underlying45 ti28 rfl rfl (by omega) (by first | omega | (simp only [List.length_set, List.length_append, List.length_replicate, List.length_map, List.length_cons, List.length_nil]; omega) | (simp; done) | (simp; omega) | decide)) ?_
  refine dw_gqy (s := 54) rfl rfl rfl hd14 rfl (fun _ _hx => ev_load_rka (i := (0 : Int)) (gvxq4.rd (Mem.pick Hsq7 Hsq4 _ (hm6.ext _hx))) (by first | omega | (simp only [List.length_set, List.length_append, List.length_replicate, List.length_map, List.length_cons, List.length_nil]; omega) | (simp; done) | (simp; omega) | decide) Tryd.underlying28 ti28 rfl rfl) ?_
  refine dw_gqy (s := 54) rfl rfl rfl hd14 rfl (fun _ _hx => ev_move (v := vxq7) rfl) ?_
  refine dw_gqy (s := 54) rfl rfl rfl hd14 rfl (fun _ _hx => ev_indexAddr_rk (i := 1) (gvxq7.rd (hm6.ext _hx)) Tryd.underlying45 ti28 rfl rfl (by omega) (by first | omega | (simp only [List.length_set, List.length_append, List.length_replicate, List.length_map, List.length_cons, List.length_nil]; omega) | (simp; done) | (simp; omega) | decide)) ?_
  refine dw_gqy (s := 54) rfl rfl rfl hd14 rfl (fun _ _hx => ev_load_rka (i := (1 : Int)) (gvxq7.rd (hm6.ext _hx)) (by first | omega | (simp only [List.length_set, List.length_append, List.length_replicate, List.length_map, List.length_cons, List.length_nil]; omega) | (simp; done) | (simp; omega) | decide) Tryd.underlying28 ti28 rfl rfl) ?_
  refine dw_nil (fun w15 _ew15 => ?_)
  have hm15 := hm6.ext _ew15
  refine rw_gyq (s := 54) rfl rfl hd14 rfl (ev_u8arr_neq (l := (keysQ ([]) ([]) (bytesL (⟨#[97]⟩)) (1 : Int)).getD 0 []) (m := (keysQ ([]) ([]) (bytesL (⟨#[97]⟩)) (2 : Int)).getD 1 []) Tryd.underlying28 Tryd.underlying5 ti5 Tryd.eqGuardType28 rfl rfl (by first | rfl | first | omega | (simp only [List.length_set, List.length_append, List.length_replicate, List.length_map, List.length_cons, List.length_nil]; omega) | (simp; done) | (simp; omega) | decide) (by first | rfl | first | omega | (simp only [List.length_set, List.length_append, List.length_replicate, List.length_map, List.length_cons, List.length_nil]; omega) | (simp; done) | (simp; omega) | decide)) ?_
  refine rw_q rfl (ev_pick_tk rfl hd14 rfl) ?_
  refine rw_q rfl (ev_assign rfl) ?_
  refine rw_nil ?_
  refine kThen_normal ?_
  refine CW.abs (fun g => g 0 = (bl (((keysQ ([]) ([]) (bytesL (⟨#[97]⟩)) (1 : Int)).getD 0 []) != ((keysQ ([]) ([]) (bytesL (⟨#[97]⟩)) (2 : Int)).getD 1 []))) ∧ g 1 = vxq2 ∧ g 2 = (i64 (errP (0 : Int))) ∧ g 3 = vxq4 ∧ g 4 = (i64 (errK (1 : Int))) ∧ g 5 = vxq7 ∧ g 6 = (i64 (errK (2 : Int))) ∧ True) ⟨rfl, s1, s2, s3, s4, rfl, rfl, trivial⟩ ?_
  rintro fr16 ⟨s0, s1, s2, s3, s4, s5, s6, _⟩
  refine cw_ret ?_
  refine fnPost_ret [(bl (((keysQ ([]) ([]) (bytesL (⟨#[97]⟩)) (1 : Int)).getD 0 []) != ((keysQ ([]) ([]) (bytesL (⟨#[97]⟩)) (2 : Int)).getD 1 [])))] ⟨s0, trivial⟩ ?_
  exact ⟨congrArg bl sp_ne, hm15.toExt⟩


end Go.Proofs.YtehkomhnmipnbaaDoor
