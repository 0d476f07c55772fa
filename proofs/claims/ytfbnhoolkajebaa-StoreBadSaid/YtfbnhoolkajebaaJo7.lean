/- The document's blocks, counted. Conditions: none beyond those that each theorem states. -/
import Derived.Test.YtfbnhoolkajebaaJo6
namespace Go.Proofs.Ytfbnhoolkajebaa
set_option linter.unusedVariables false
set_option linter.unusedSimpArgs false
theorem blocks_exit {n k : Nat} (h1 : ¬ ((42 * k : Nat) : Int) < (n : Int)) (h2 : 0 < k) (h3 : 42 * k ≤ n + 41 ∨ k = 1) : k = blocksN n := by unfold blocksN; omega
attribute [local irreducible] crashB crashK pushB readB inB errB cutN seenW
attribute [local irreducible] markB putB getB getK partB placeF blkOf rawB writeK blocksN
attribute [local irreducible] mostK newB roomB
attribute [local irreducible] recB recF recN genF badB lastP dataB gOf rOf pOf nOf loopH readH
attribute [local irreducible] okP layK turnL turnP oldB
attribute [local irreducible] openD
set_option maxHeartbeats 2000000 in
theorem c_rblocks0 (gen rec : Int) (vb : Value) (b : List (BitVec 8)) (w0 : World)  (hb : Rd (blks w0) u8 vb b) (hbl : b.length ≤ 140737488355328) (hg : 0 ≤ gen ∧ gen ≤ 4294967296) (hr : 0 ≤ rec ∧ rec ≤ 4294967296) : CallsR Try.prog 44 #[(i64 gen), (i64 rec), vb] w0 (fun r w1 => ∃ l Hs, l.length = blocksN b.length ∧ GrowK (encA u8) 64 83 r l Hs ∧ Mem w1 (restOf w0) Hs) := by
 refine callsR_of_cw (args := [(i64 gen), (i64 rec), vb]) Try.func44 rfl Try.ntmps44 Try.results44 rfl ?_
 have hm0 : Mem w0 (restOf w0) [] := Mem.of_world w0
 refine sR <| rw_q rfl (ev_assign (v := (Value.slice none 0 0)) rfl) ?_
 refine rN (sR ?_)
 refine rw_c rfl (or_buildSlice_p (c := #[]) hm0 uT40 ti83 rfl pm_nil (by kernel_rfl)) ?_
 rintro _ w1 ⟨b16, rfl, _ew1, hm1⟩
 have hm1 : Mem w1 (restOf w0) [(b16, .cells #[] 83 (0, 0))] := hm1
 refine rw_q rfl (ev_assign (v := (slc b16 0 0 0)) rfl) ?_
 refine rN (cw_seq (sR ?_))
 refine rw_q rfl (ev_assign (v := (i64 0)) rfl) ?_
 refine rN (cw_block ?_)
 refine cw_loop (fun g wv => ∃ (k : Nat) (vo : Value) (lo : List (List (BitVec 8))) (Ho : List (Nat × Obj)), (42 * k ≤ b.length + 41 ∨ k ≤ 1) ∧ (lo.length = k) ∧ (GrowK (encA u8) 64 83 vo lo Ho) ∧ g 0 = (i64 gen) ∧ g 1 = (i64 rec) ∧ g 2 = vb ∧ g 6 = (Value.slice none 0 0) ∧ g 7 = vo ∧ g 8 = (i64 ((42 * k : Nat) : Int)) ∧ Mem wv (restOf w0) (Ho ++ ([]))) (fun g wv => ((b.length : Int) + 42 - RowKit.intOf (g 8)).toNat) ?_ ?_
 · exact ⟨0, (slc b16 0 0 0), [], [(b16, .cells #[] 83 (0, 0))], oM, rfl, (GrowK.of (encA u8) 64 83 b16 [] rfl (by simp)), rfl, rfl, rfl, rfl, rfl, rfl, (by
   have hT := hm1
   try simp only [List.append_assoc, List.cons_append, List.nil_append, List.append_nil] at hT ⊢
   exact hT)⟩
 · rintro fr2 w3 ⟨k, vo, lo, Ho, hk, hlo, go, s0, s1, s2, s6, s7, s8, hm3⟩
   have z7 := s7
   have z8 := s8
   refine cw_seq (sR ?_)
   refine rM rfl s8 <| rM rfl s2 <| rw_q (v := (i64 (b.length : Int))) rfl (ev_len_rd (Rd.ofRest hb hm3) uT23 rfl) <| rw_q rfl (ev_i64_lss rfl rfl) <| rw_q rfl (ev_move (v := (bl (decide (((42 * k : Nat) : Int) < (b.length : Int))))) rfl) ?_
   rcases Bool.eq_false_or_eq_true (decide (((42 * k : Nat) : Int) < (b.length : Int))) with hb4 | hb4
   · -- true
     have hb4p := of_decide_eq_true hb4
     refine rw_gn (s := 21) rfl rfl hb4 rfl <| rw_gn (s := 21) rfl rfl hb4 rfl <| rw_q rfl (ev_pick_tk rfl hb4 rfl) <| rN <| cw_cond_t rfl (by decide) ?_
     refine cw_skip (kThen_normal (cw_seq (cw_block (sR ?_))))
     refine rM rfl s2 <| rM rfl s8 <| rw_q rfl (ev_slice_rd (i := ((42 * k : Nat) : Int)) (j := (b.length : Int)) (Rd.ofRest hb hm3) uT23 ti5 rfl (optI_some (k := .i64) (i := ((42 * k : Nat) : Int)) rfl) (optI_none _ _) oM sL sL) <| rw_q rfl (ev_assign (v := (subv vb ((42 * k : Nat) : Int) (b.length : Int))) rfl) ?_
     refine rN (sR ?_)
     refine rw_q rfl (ev_move (v := (subv vb ((42 * k : Nat) : Int) (b.length : Int))) rfl) <| rw_q (v := (i64 (((b.drop (((42 * k : Nat) : Int) : Int).toNat).take (((b.length : Int) : Int).toNat - (((42 * k : Nat) : Int) : Int).toNat)).length : Int))) rfl (ev_len_rd (Rd.cast (l' := (b.drop (((42 * k : Nat) : Int) : Int).toNat).take (((b.length : Int) : Int).toNat - (((42 * k : Nat) : Int) : Int).toNat)) (Rd.sub (Rd.ofRest hb hm3) oM sL sL) rfl) uT23 rfl) <| rw_q rfl (ev_i64_leq (b := 42) rfl rfl) <| rA rfl rfl ?_
     refine rN (cw_seq (sR ?_))
     refine rM rfl rfl <| rw_q rfl (ev_not rfl) <| rN ?_
     refine CW.abs (fun g => g 0 = (i64 gen) ∧ g 1 = (i64 rec) ∧ g 2 = vb ∧ g 6 = (Value.slice none 0 0) ∧ g 7 = vo ∧ g 8 = (i64 ((42 * k : Nat) : Int)) ∧ g 9 = (subv vb ((42 * k : Nat) : Int) (b.length : Int)) ∧ g 10 = (bl (decide ((((b.drop (((42 * k : Nat) : Int) : Int).toNat).take (((b.length : Int) : Int).toNat - (((42 * k : Nat) : Int) : Int).toNat)).length : Int) ≤ 42))) ∧ g 24 = (bl true) ∧ g 34 = (bl (!(decide ((((b.drop (((42 * k : Nat) : Int) : Int).toNat).take (((b.length : Int) : Int).toNat - (((42 * k : Nat) : Int) : Int).toNat)).length : Int) ≤ 42)))) ∧ True) ⟨s0, s1, s2, s6, s7, s8, rfl, rfl, rfl, rfl, trivial⟩ ?_
     rintro fr5 ⟨s0, s1, s2, s6, s7, s8, s9, s10, s24, s34, _⟩
     refine cw_meet (J := fun g wv => ∃ (vq : Value) (lq : List (BitVec 8)), (Rd (blks w0) u8 vq lq) ∧ (lq.length ≤ 42) ∧ (0 ≤ lq.length) ∧ g 0 = (i64 gen) ∧ g 1 = (i64 rec) ∧ g 2 = vb ∧ g 6 = (Value.slice none 0 0) ∧ g 7 = vo ∧ g 8 = (i64 ((42 * k : Nat) : Int)) ∧ g 9 = vq ∧ g 10 = (bl (decide ((((b.drop (((42 * k : Nat) : Int) : Int).toNat).take (((b.length : Int) : Int).toNat - (((42 * k : Nat) : Int) : Int).toNat)).length : Int) ≤ 42))) ∧ g 24 = (bl true) ∧ g 34 = (bl (!(decide ((((b.drop (((42 * k : Nat) : Int) : Int).toNat).take (((b.length : Int) : Int).toNat - (((42 * k : Nat) : Int) : Int).toNat)).length : Int) ≤ 42)))) ∧ Mem wv (restOf w0) (Ho ++ ([]))) ?_ ?_
     · skip
       refine cw_cond s34 (fun hc6 => ?_) (fun hc6 => ?_)
       · -- true
         have hc6n : (decide ((((b.drop (((42 * k : Nat) : Int) : Int).toNat).take (((b.length : Int) : Int).toNat - (((42 * k : Nat) : Int) : Int).toNat)).length : Int) ≤ 42)) = false := by simpa using hc6
         have hc6p := of_decide_eq_false hc6n
         refine cw_region <| rM rfl s9 <| rw_q rfl (ev_slice_rd (i := 0) (j := 42) (Rd.cast (l' := (b.drop (((42 * k : Nat) : Int) : Int).toNat).take (((b.length : Int) : Int).toNat - (((42 * k : Nat) : Int) : Int).toNat)) (Rd.sub (Rd.ofRest hb hm3) oM sL sL) rfl) uT23 ti5 rfl (optI_none _ _) (optI_some (k := .i64) (i := 42) rfl) oM sL sL) <| rw_q rfl (ev_assign (v := (subv (subv vb ((42 * k : Nat) : Int) (b.length : Int)) 0 42)) rfl) <| rN ?_
         exact ⟨(subv (subv vb ((42 * k : Nat) : Int) (b.length : Int)) 0 42), ((((b.drop (((42 * k : Nat) : Int) : Int).toNat).take (((b.length : Int) : Int).toNat - (((42 * k : Nat) : Int) : Int).toNat)).drop 0).take 42), (Rd.cast (l' := (((b.drop (((42 * k : Nat) : Int) : Int).toNat).take (((b.length : Int) : Int).toNat - (((42 * k : Nat) : Int) : Int).toNat)).drop 0).take 42) (Rd.sub (Rd.cast (l' := (b.drop (((42 * k : Nat) : Int) : Int).toNat).take (((b.length : Int) : Int).toNat - (((42 * k : Nat) : Int) : Int).toNat)) (Rd.sub (Rd.ofRest hb hm0) oM sL sL) rfl) oM sL sL) rfl), (by first | omega | (simp only [List.length_take]; omega)), (Nat.zero_le _), s0, s1, s2, s6, s7, s8, rfl, s10, s24, s34, hm3⟩
       · -- false
         have hc6n : (decide ((((b.drop (((42 * k : Nat) : Int) : Int).toNat).take (((b.length : Int) : Int).toNat - (((42 * k : Nat) : Int) : Int).toNat)).length : Int) ≤ 42)) = true := by simpa using hc6
         have hc6p := of_decide_eq_true hc6n
         refine cw_skip (kThen_normal ?_)
         exact ⟨(subv vb ((42 * k : Nat) : Int) (b.length : Int)), ((b.drop (((42 * k : Nat) : Int) : Int).toNat).take (((b.length : Int) : Int).toNat - (((42 * k : Nat) : Int) : Int).toNat)), (Rd.cast (l' := (b.drop (((42 * k : Nat) : Int) : Int).toNat).take (((b.length : Int) : Int).toNat - (((42 * k : Nat) : Int) : Int).toNat)) (Rd.sub (Rd.ofRest hb hm0) oM sL sL) rfl), (by first | omega | (simp only [List.length_take]; omega)), (Nat.zero_le _), s0, s1, s2, s6, s7, s8, s9, s10, s24, s34, hm3⟩
     · rintro fr7 w8 ⟨vq, lq, hvq, hlq, hlq2, s0, s1, s2, s6, s7, s8, s9, s10, s24, s34, hm8⟩
       refine sR <| rw_q rfl (ev_build_arr (ps := []) (c := (cl u8 (List.replicate 64 0))) ti83 uT83 ti5 (by simp) rfl) <| rw_c rfl (or_alloc_agg hm8 ti83) ?_
       rintro _ w9 ⟨b11, rfl, _ew9, hm9⟩
       refine rw_n (or_store_agg (f := u8) (l := List.replicate 64 0) u8_one ti83 rfl rfl sL hm9.h0 (by rw [size_cl]; first | omega | (simp only [List.length_set, List.length_append, List.length_replicate, List.length_map, List.length_cons, List.length_nil]; omega) | (simp; done) | (simp; omega) | decide) rfl) ?_
       rintro _ w10 uq10
       have hm10 := hm9.upd0 uq10
       refine rN (sR ?_)
       refine rM rfl s7 <| rw_q (v := (i64 (lo.length : Int))) rfl (ev_len_rk (go.rd (Mem.pick [_] Ho _ hm10)) uT40 rfl) <| rw_q rfl (ev_assign (v := (i64 (lo.length : Int))) rfl) ?_
       refine rN (cw_seq (sR ?_))
       refine rM rfl s10 <| rN ?_
       refine cw_meet (J := fun g wv => ∃ (pp : Nat), (pp ≤ k + 32768) ∧ g 0 = (i64 gen) ∧ g 1 = (i64 rec) ∧ g 2 = vb ∧ g 6 = (Value.slice none 0 0) ∧ g 7 = vo ∧ g 8 = (i64 ((42 * k : Nat) : Int)) ∧ g 9 = vq ∧ g 10 = (bl (decide ((((b.drop (((42 * k : Nat) : Int) : Int).toNat).take (((b.length : Int) : Int).toNat - (((42 * k : Nat) : Int) : Int).toNat)).length : Int) ≤ 42))) ∧ g 11 = (ptr b11 0) ∧ g 12 = (i64 (pp : Int)) ∧ g 24 = (bl true) ∧ g 34 = (bl (!(decide ((((b.drop (((42 * k : Nat) : Int) : Int).toNat).take (((b.length : Int) : Int).toNat - (((42 * k : Nat) : Int) : Int).toNat)).length : Int) ≤ 42)))) ∧ g 40 = (bl (decide ((((b.drop (((42 * k : Nat) : Int) : Int).toNat).take (((b.length : Int) : Int).toNat - (((42 * k : Nat) : Int) : Int).toNat)).length : Int) ≤ 42))) ∧ Mem wv (restOf w0) ([(b11, .cells (cl u8 (List.replicate 64 0)) 83 (0, 0))] ++ (Ho ++ ([])))) ?_ ?_
       · skip
         refine cw_cond rfl (fun hc11 => ?_) (fun hc11 => ?_)
         · -- true
           have hc11p := of_decide_eq_true hc11
           refine cw_region <| rw_q rfl (ev_move (v := (i64 (lo.length : Int))) rfl) <| rw_q rfl (ev_i64_add (b := 32768) rfl rfl oM oM) <| rw_q rfl (ev_assign (v := (i64 ((lo.length : Int) + 32768))) rfl) <| rN ?_
           exact ⟨(lo.length + 32768), oM, s0, s1, s2, s6, s7, s8, s9, s10, rfl, (Eq.trans rfl (congrArg i64 oM)), s24, s34, rfl, hm10⟩
         · -- false
           have hc11p := of_decide_eq_false hc11
           refine cw_skip (kThen_normal ?_)
           exact ⟨lo.length, oM, s0, s1, s2, s6, s7, s8, s9, s10, rfl, rfl, s24, s34, rfl, hm10⟩
       · rintro fr12 w13 ⟨pp, hpp, s0, s1, s2, s6, s7, s8, s9, s10, s11, s12, s24, s34, s40, hm13⟩
         refine sR <| rM rfl s0 <| rw_q rfl (ev_i64_shrK (p := 16777216) (b := 24) rfl rfl rfl (by decide) (by decide)) <| rw_q rfl (ev_conv_i64_u8 ⟨_, uT3⟩ uT5 rfl) <| rM rfl s0 <| rw_q rfl (ev_i64_shrK (p := 65536) (b := 16) rfl rfl rfl (by decide) (by decide)) ?_
         refine rw_q rfl (ev_conv_i64_u8 ⟨_, uT3⟩ uT5 rfl) <| rM rfl s0 <| rw_q rfl (ev_i64_shrK (p := 256) (b := 8) rfl rfl rfl (by decide) (by decide)) <| rw_q rfl (ev_conv_i64_u8 ⟨_, uT3⟩ uT5 rfl) <| rM rfl s0 <| rw_q rfl (ev_conv_i64_u8 ⟨_, uT3⟩ uT5 rfl) ?_
         refine rM rfl s1 <| rw_q rfl (ev_i64_shrK (p := 16777216) (b := 24) rfl rfl rfl (by decide) (by decide)) <| rw_q rfl (ev_conv_i64_u8 ⟨_, uT3⟩ uT5 rfl) <| rM rfl s1 <| rw_q rfl (ev_i64_shrK (p := 65536) (b := 16) rfl rfl rfl (by decide) (by decide)) <| rw_q rfl (ev_conv_i64_u8 ⟨_, uT3⟩ uT5 rfl) ?_
         refine rM rfl s1 <| rw_q rfl (ev_i64_shrK (p := 256) (b := 8) rfl rfl rfl (by decide) (by decide)) <| rw_q rfl (ev_conv_i64_u8 ⟨_, uT3⟩ uT5 rfl) <| rM rfl s1 <| rw_q rfl (ev_conv_i64_u8 ⟨_, uT3⟩ uT5 rfl) <| rM rfl s12 ?_
         refine rw_q rfl (ev_i64_shrK (p := 256) (b := 8) rfl rfl rfl (by decide) (by decide)) <| rw_q rfl (ev_conv_i64_u8 ⟨_, uT3⟩ uT5 rfl) <| rM rfl s12 <| rw_q rfl (ev_conv_i64_u8 ⟨_, uT3⟩ uT5 rfl) <| rw_c rfl (or_buildSlice_cl u8 [BitVec.ofInt 8 (gen / 16777216), BitVec.ofInt 8 (gen / 65536), BitVec.ofInt 8 (gen / 256), BitVec.ofInt 8 gen, BitVec.ofInt 8 (rec / 16777216), BitVec.ofInt 8 (rec / 65536), BitVec.ofInt 8 (rec / 256), BitVec.ofInt 8 rec, BitVec.ofInt 8 ((pp : Int) / 256), BitVec.ofInt 8 (pp : Int)] u8_one hm13 uT23 ti5 rfl rfl rfl) ?_
         rintro _ w14 ⟨b70, rfl, _ew14, hm14⟩
         refine rw_q rfl (ev_assign (v := (slc b70 0 10 10)) rfl) <| rN ?_
         refine CW.abs (fun g => g 0 = (i64 gen) ∧ g 1 = (i64 rec) ∧ g 2 = vb ∧ g 6 = (Value.slice none 0 0) ∧ g 7 = vo ∧ g 8 = (i64 ((42 * k : Nat) : Int)) ∧ g 9 = vq ∧ g 10 = (bl (decide ((((b.drop (((42 * k : Nat) : Int) : Int).toNat).take (((b.length : Int) : Int).toNat - (((42 * k : Nat) : Int) : Int).toNat)).length : Int) ≤ 42))) ∧ g 11 = (ptr b11 0) ∧ g 12 = (i64 (pp : Int)) ∧ g 13 = (slc b70 0 10 10) ∧ g 24 = (bl true) ∧ g 34 = (bl (!(decide ((((b.drop (((42 * k : Nat) : Int) : Int).toNat).take (((b.length : Int) : Int).toNat - (((42 * k : Nat) : Int) : Int).toNat)).length : Int) ≤ 42)))) ∧ g 40 = (bl (decide ((((b.drop (((42 * k : Nat) : Int) : Int).toNat).take (((b.length : Int) : Int).toNat - (((42 * k : Nat) : Int) : Int).toNat)).length : Int) ≤ 42))) ∧ True) ⟨s0, s1, s2, s6, s7, s8, s9, s10, s11, s12, rfl, s24, s34, s40, trivial⟩ ?_
         rintro fr15 ⟨s0, s1, s2, s6, s7, s8, s9, s10, s11, s12, s13, s24, s34, s40, _⟩
         refine cw_seq (sR ?_)
         refine rw_q rfl (ev_assign (v := (i64 0)) rfl) ?_
         refine rN (cw_block ?_)
         refine cw_loop (fun g wv => ∃ (i : Nat) (xs : List (BitVec 8)), ((i : Int) ≤ 10) ∧ (xs.length = 64) ∧ g 0 = (i64 gen) ∧ g 1 = (i64 rec) ∧ g 2 = vb ∧ g 6 = (Value.slice none 0 0) ∧ g 7 = vo ∧ g 8 = (i64 ((42 * k : Nat) : Int)) ∧ g 9 = vq ∧ g 10 = (bl (decide ((((b.drop (((42 * k : Nat) : Int) : Int).toNat).take (((b.length : Int) : Int).toNat - (((42 * k : Nat) : Int) : Int).toNat)).length : Int) ≤ 42))) ∧ g 11 = (ptr b11 0) ∧ g 12 = (i64 (pp : Int)) ∧ g 13 = (slc b70 0 10 10) ∧ g 14 = (i64 (i : Int)) ∧ g 24 = (bl true) ∧ g 34 = (bl (!(decide ((((b.drop (((42 * k : Nat) : Int) : Int).toNat).take (((b.length : Int) : Int).toNat - (((42 * k : Nat) : Int) : Int).toNat)).length : Int) ≤ 42)))) ∧ g 40 = (bl (decide ((((b.drop (((42 * k : Nat) : Int) : Int).toNat).take (((b.length : Int) : Int).toNat - (((42 * k : Nat) : Int) : Int).toNat)).length : Int) ≤ 42))) ∧ Mem wv (restOf w0) ([(b11, .cells (cl u8 xs) 83 (0, 0)), (b70, .cells (cl u8 ([BitVec.ofInt 8 (gen / 16777216), BitVec.ofInt 8 (gen / 65536), BitVec.ofInt 8 (gen / 256), BitVec.ofInt 8 gen, BitVec.ofInt 8 (rec / 16777216), BitVec.ofInt 8 (rec / 65536), BitVec.ofInt 8 (rec / 256), BitVec.ofInt 8 rec, BitVec.ofInt 8 ((pp : Int) / 256), BitVec.ofInt 8 (pp : Int)])) 5 (0, 0))] ++ (Ho ++ ([])))) (fun g wv => (10 - RowKit.intOf (g 14)).toNat) ?_ ?_
         have hm16 := (Mem.pick [_, _] Ho _ hm14)
         have hm17 := (Mem.pick Ho [_] _ hm16)
         have hm18 := (Mem.pick2 [_] Ho [_] _ hm17)
         · exact ⟨0, (List.replicate 64 0), oM, sL, s0, s1, s2, s6, s7, s8, s9, s10, s11, s12, s13, rfl, s24, s34, s40, hm18⟩
         · rintro fr19 w20 ⟨i, xs, hi, hxs, s0, s1, s2, s6, s7, s8, s9, s10, s11, s12, s13, s14, s24, s34, s40, hm20⟩
           have z14 := s14
           refine cw_seq (sR ?_)
           refine rM rfl s14 <| rw_q rfl (ev_i64_lss (b := 10) rfl rfl) <| rN ?_
           refine cw_cond rfl (fun hc21 => ?_) (fun hc21 => ?_)
           · -- true
             have hc21p := of_decide_eq_true hc21
             refine cw_skip (kThen_normal (cw_seq (cw_block (sR ?_))))
             refine rM rfl s14 <| rM rfl s13 <| rM rfl s14 <| rw_q rfl (ev_ia_slc (r := i) oM uT23 ti5 rfl rfl oM sL) <| rw_q (v := (u8 (([BitVec.ofInt 8 (gen / 16777216), BitVec.ofInt 8 (gen / 65536), BitVec.ofInt 8 (gen / 256), BitVec.ofInt 8 gen, BitVec.ofInt 8 (rec / 16777216), BitVec.ofInt 8 (rec / 65536), BitVec.ofInt 8 (rec / 256), BitVec.ofInt 8 rec, BitVec.ofInt 8 ((pp : Int) / 256), BitVec.ofInt 8 (pp : Int)]).getD i 0))) rfl (ev_load1 uT5 rfl rfl hm20.h1 (get_clD _ _ 0 sL)) <| rw_q rfl (ev_ia_arr (r := i) oM uT83 ti5 s11 rfl oM sL) ?_
             refine rw_n (or_store_cl (f := u8) (a := ([BitVec.ofInt 8 (gen / 16777216), BitVec.ofInt 8 (gen / 65536), BitVec.ofInt 8 (gen / 256), BitVec.ofInt 8 gen, BitVec.ofInt 8 (rec / 16777216), BitVec.ofInt 8 (rec / 65536), BitVec.ofInt 8 (rec / 256), BitVec.ofInt 8 rec, BitVec.ofInt 8 ((pp : Int) / 256), BitVec.ofInt 8 (pp : Int)]).getD i 0) u8_one ti5 rfl rfl hm20.h0 sL (.inl (Nat.zero_le _))) ?_
             rintro _ w22 uq22
             have hm22 := hm20.upd0 uq22
             refine rN (cw_region ?_)
             refine rM rfl s14 <| rw_q rfl (ev_i64_add (a := 54) rfl rfl oM oM) <| rM rfl s13 <| rM rfl s14 <| rw_q rfl (ev_ia_slc (r := i) oM uT23 ti5 rfl rfl oM sL) <| rw_q (v := (u8 (([BitVec.ofInt 8 (gen / 16777216), BitVec.ofInt 8 (gen / 65536), BitVec.ofInt 8 (gen / 256), BitVec.ofInt 8 gen, BitVec.ofInt 8 (rec / 16777216), BitVec.ofInt 8 (rec / 65536), BitVec.ofInt 8 (rec / 256), BitVec.ofInt 8 rec, BitVec.ofInt 8 ((pp : Int) / 256), BitVec.ofInt 8 (pp : Int)]).getD i 0))) rfl (ev_load1 uT5 rfl rfl hm22.h1 (get_clD _ _ 0 sL)) ?_
             refine rw_q rfl (ev_ia_arr (r := (54 + (i : Int) : Int).toNat) oM uT83 ti5 s11 rfl oM sL) <| rw_n (or_store_cl (f := u8) (a := ([BitVec.ofInt 8 (gen / 16777216), BitVec.ofInt 8 (gen / 65536), BitVec.ofInt 8 (gen / 256), BitVec.ofInt 8 gen, BitVec.ofInt 8 (rec / 16777216), BitVec.ofInt 8 (rec / 65536), BitVec.ofInt 8 (rec / 256), BitVec.ofInt 8 rec, BitVec.ofInt 8 ((pp : Int) / 256), BitVec.ofInt 8 (pp : Int)]).getD i 0) u8_one ti5 rfl rfl hm22.h0 sL (.inl (Nat.zero_le _))) ?_
             rintro _ w23 uq23
             have hm23 := hm22.upd0 uq23
             refine rw_nil (kBlk_normal (cw_region ?_))
             refine rM rfl s14 <| rw_q rfl (ev_i64_add (b := 1) rfl rfl oM oM) <| rw_q rfl (ev_assign (v := (i64 ((i : Int) + 1))) rfl) <| rN ?_
             exact ⟨⟨(i + 1), ((xs.set i (([BitVec.ofInt 8 (gen / 16777216), BitVec.ofInt 8 (gen / 65536), BitVec.ofInt 8 (gen / 256), BitVec.ofInt 8 gen, BitVec.ofInt 8 (rec / 16777216), BitVec.ofInt 8 (rec / 65536), BitVec.ofInt 8 (rec / 256), BitVec.ofInt 8 rec, BitVec.ofInt 8 ((pp : Int) / 256), BitVec.ofInt 8 (pp : Int)]).getD i 0)).set ((54 + (i : Int) : Int).toNat) (([BitVec.ofInt 8 (gen / 16777216), BitVec.ofInt 8 (gen / 65536), BitVec.ofInt 8 (gen / 256), BitVec.ofInt 8 gen, BitVec.ofInt 8 (rec / 16777216), BitVec.ofInt 8 (rec / 65536), BitVec.ofInt 8 (rec / 256), BitVec.ofInt 8 rec, BitVec.ofInt 8 ((pp : Int) / 256), BitVec.ofInt 8 (pp : Int)]).getD i 0)), oM, (by simp; omega), s0, s1, s2, s6, s7, s8, s9, s10, s11, s12, s13, rfl, s24, s34, s40, hm23⟩, meas (rfl) z14 oM oM⟩
           · -- false
             have hc21p := of_decide_eq_false hc21
             refine cw_exit ?_
             refine kThen_exit (kThen_exit (kBlk_hit ?_))
             refine sR <| rM rfl s9 <| rw_q (v := (i64 (lq.length : Int))) rfl (ev_len_rd (Rd.ofRest hvq hm20) uT23 rfl) <| rw_q rfl (ev_conv_i64_u8 ⟨_, uT3⟩ uT5 rfl) <| rw_q rfl (ev_ia_arr (r := 11) (i := 11) oM uT83 ti5 s11 rfl oM oM) <| rw_n (or_store_cl (f := u8) (a := BitVec.ofInt 8 (lq.length : Int)) u8_one ti5 rfl rfl hm20.h0 sL (.inl (Nat.zero_le _))) ?_
             rintro _ w24 uq24
             have hm24 := hm20.upd0 uq24
             refine rN (cw_seq (sR ?_))
             refine rw_q rfl (ev_assign (v := (i64 0)) rfl) ?_
             refine rN (cw_block ?_)
             refine cw_loop (fun g wv => ∃ (i2 : Nat) (xt : List (BitVec 8)), ((i2 : Int) ≤ (lq.length : Int)) ∧ (xt.length = 64) ∧ g 0 = (i64 gen) ∧ g 1 = (i64 rec) ∧ g 2 = vb ∧ g 6 = (Value.slice none 0 0) ∧ g 7 = vo ∧ g 8 = (i64 ((42 * k : Nat) : Int)) ∧ g 9 = vq ∧ g 10 = (bl (decide ((((b.drop (((42 * k : Nat) : Int) : Int).toNat).take (((b.length : Int) : Int).toNat - (((42 * k : Nat) : Int) : Int).toNat)).length : Int) ≤ 42))) ∧ g 11 = (ptr b11 0) ∧ g 12 = (i64 (pp : Int)) ∧ g 13 = (slc b70 0 10 10) ∧ g 14 = (i64 (i : Int)) ∧ g 15 = (i64 (i2 : Int)) ∧ g 24 = (bl true) ∧ g 34 = (bl (!(decide ((((b.drop (((42 * k : Nat) : Int) : Int).toNat).take (((b.length : Int) : Int).toNat - (((42 * k : Nat) : Int) : Int).toNat)).length : Int) ≤ 42)))) ∧ g 40 = (bl (decide ((((b.drop (((42 * k : Nat) : Int) : Int).toNat).take (((b.length : Int) : Int).toNat - (((42 * k : Nat) : Int) : Int).toNat)).length : Int) ≤ 42))) ∧ g 72 = (bl (decide ((i : Int) < 10))) ∧ Mem wv (restOf w0) ([(b11, .cells (cl u8 xt) 83 (0, 0)), (b70, .cells (cl u8 ([BitVec.ofInt 8 (gen / 16777216), BitVec.ofInt 8 (gen / 65536), BitVec.ofInt 8 (gen / 256), BitVec.ofInt 8 gen, BitVec.ofInt 8 (rec / 16777216), BitVec.ofInt 8 (rec / 65536), BitVec.ofInt 8 (rec / 256), BitVec.ofInt 8 rec, BitVec.ofInt 8 ((pp : Int) / 256), BitVec.ofInt 8 (pp : Int)])) 5 (0, 0))] ++ (Ho ++ ([])))) (fun g wv => ((lq.length : Int) - RowKit.intOf (g 15)).toNat) ?_ ?_
             · exact ⟨0, (xs.set 11 (BitVec.ofInt 8 (lq.length : Int))), oM, sL, s0, s1, s2, s6, s7, s8, s9, s10, s11, s12, s13, s14, rfl, s24, s34, s40, rfl, hm24⟩
             · rintro fr25 w26 ⟨i2, xt, hi2, hxt, s0, s1, s2, s6, s7, s8, s9, s10, s11, s12, s13, s14, s15, s24, s34, s40, s72, hm26⟩
               have z15 := s15
               refine cw_seq (sR ?_)
               refine rM rfl s15 <| rM rfl s9 <| rw_q (v := (i64 (lq.length : Int))) rfl (ev_len_rd (Rd.ofRest hvq hm26) uT23 rfl) <| rw_q rfl (ev_i64_lss rfl rfl) <| rN ?_
               refine cw_cond rfl (fun hc27 => ?_) (fun hc27 => ?_)
               · -- true
                 have hc27p := of_decide_eq_true hc27
                 refine cw_skip (kThen_normal (cw_seq (cw_block (cw_region ?_))))
                 refine rM rfl s15 <| rw_q rfl (ev_i64_add (a := 12) rfl rfl oM oM) <| rM rfl s9 <| rM rfl s15 <| rw_q rfl (ev_indexAddr_rdv (Rd.ofRest hvq hm26) uT23 ti5 rfl rfl oM sL) <| rw_q (v := (u8 (lq.getD i2 0))) rfl (ev_load_rdD (l := lq) (i := (i2 : Int)) (dflt := 0) (Rd.ofRest hvq hm26) uT5 rfl oM sL rfl) ?_
                 refine rw_q rfl (ev_ia_arr (r := (12 + (i2 : Int) : Int).toNat) oM uT83 ti5 s11 rfl oM sL) <| rw_n (or_store_cl (f := u8) (a := lq.getD i2 0) u8_one ti5 rfl rfl hm26.h0 sL (.inl (Nat.zero_le _))) ?_
                 rintro _ w28 uq28
                 have hm28 := hm26.upd0 uq28
                 refine rw_nil (kBlk_normal (cw_region ?_))
                 refine rM rfl s15 <| rw_q rfl (ev_i64_add (b := 1) rfl rfl oM oM) <| rw_q rfl (ev_assign (v := (i64 ((i2 : Int) + 1))) rfl) <| rN ?_
                 exact ⟨⟨(i2 + 1), (xt.set ((12 + (i2 : Int) : Int).toNat) (lq.getD i2 0)), oM, (by simp; omega), s0, s1, s2, s6, s7, s8, s9, s10, s11, s12, s13, s14, rfl, s24, s34, s40, s72, hm28⟩, meas (rfl) z15 oM oM⟩
               · -- false
                 have hc27p := of_decide_eq_false hc27
                 refine cw_exit ?_
                 refine kThen_exit (kThen_exit (kBlk_hit ?_))
                 refine cw_region <| rM rfl s7 <| rw_q (v := (agg u8 xt)) rfl (ev_loadA uT83 rfl ti83 s11 hm26.h0 (by rw [size_cl]; first | omega | (simp only [List.length_set, List.length_append, List.length_replicate, List.length_map, List.length_cons, List.length_nil]; omega) | (simp; done) | (simp; omega) | decide)) <| rw_c rfl (or_buildSlice_k1 (cs := (cl u8 xt)) hm26 uT40 ti83 rfl rfl rfl (by rw [size_cl]; first | omega | (simp only [List.length_set, List.length_append, List.length_replicate, List.length_map, List.length_cons, List.length_nil]; omega) | (simp; done) | (simp; omega) | decide)) ?_
                 rintro _ w29 ⟨b107, rfl, _ew29, hm29⟩
                 have hm29 : Mem w29 (restOf w0) ([(b107, .cells (cl u8 xt) 83 (0, 0)), (b11, .cells (cl u8 xt) 83 (0, 0)), (b70, .cells (cl u8 ([BitVec.ofInt 8 (gen / 16777216), BitVec.ofInt 8 (gen / 65536), BitVec.ofInt 8 (gen / 256), BitVec.ofInt 8 gen, BitVec.ofInt 8 (rec / 16777216), BitVec.ofInt 8 (rec / 65536), BitVec.ofInt 8 (rec / 256), BitVec.ofInt 8 rec, BitVec.ofInt 8 ((pp : Int) / 256), BitVec.ofInt 8 (pp : Int)])) 5 (0, 0))] ++ (Ho ++ ([]))) := hm29
                 refine rw_c rfl (or_appendK (enc := (encA u8)) (k := 64) (Hs := Ho) (H := [(b107, .cells (cl u8 xt) 83 (0, 0)), (b11, .cells (cl u8 xt) 83 (0, 0)), (b70, .cells (cl u8 ([BitVec.ofInt 8 (gen / 16777216), BitVec.ofInt 8 (gen / 65536), BitVec.ofInt 8 (gen / 256), BitVec.ofInt 8 gen, BitVec.ofInt 8 (rec / 16777216), BitVec.ofInt 8 (rec / 65536), BitVec.ofInt 8 (rec / 256), BitVec.ofInt 8 rec, BitVec.ofInt 8 ((pp : Int) / 256), BitVec.ofInt 8 (pp : Int)])) 5 (0, 0))]) (Mem.pick [_, _, _] Ho _ hm29) go rfl rfl (RdK.ofOne (enc := (encA u8)) (k := 64) (a := xt) hm29.h0 rfl (by simp only [encA, List.length_map]; first | omega | (simp only [List.length_set, List.length_append, List.length_replicate, List.length_map, List.length_cons, List.length_nil]; omega) | (simp; done) | (simp; omega) | decide)) uT40 uT40 ti83 rfl rfl (fun _ _ => encA_one u8_one _) sL sL) ?_
                 rintro sv30 w30 ⟨Hs30, hm30, g30⟩
                 replace g30 : GrowK (encA u8) 64 83 sv30 (lo ++ ([xt])) Hs30 := g30
                 refine rA rfl (v := sv30) rfl ?_
                 refine rw_nil (kBlk_normal (cw_region ?_))
                 refine rM rfl s8 <| rw_q rfl (ev_i64_add (b := 42) rfl rfl oM oM) <| rw_q rfl (ev_assign (v := (i64 (((42 * k : Nat) : Int) + 42))) rfl) <| rN ?_
                 have hm31 := Mem.drop ([(b107, .cells (cl u8 xt) 83 (0, 0))]) _ (Mem.pick Hs30 [_] _ hm30)
                 have hm32 := Mem.drop ([(b11, .cells (cl u8 xt) 83 (0, 0))]) _ (Mem.pick Hs30 [_] _ hm31)
                 have hm33 := Mem.drop ([(b70, .cells (cl u8 ([BitVec.ofInt 8 (gen / 16777216), BitVec.ofInt 8 (gen / 65536), BitVec.ofInt 8 (gen / 256), BitVec.ofInt 8 gen, BitVec.ofInt 8 (rec / 16777216), BitVec.ofInt 8 (rec / 65536), BitVec.ofInt 8 (rec / 256), BitVec.ofInt 8 rec, BitVec.ofInt 8 ((pp : Int) / 256), BitVec.ofInt 8 (pp : Int)])) 5 (0, 0))]) _ (Mem.pick Hs30 [_] _ hm32)
                 exact ⟨⟨(k + 1), sv30, (lo ++ ([xt])), Hs30, oM, (by simp; omega), g30, s0, s1, s2, s6, rfl, (Eq.trans rfl (congrArg i64 (by push_cast; omega))), hm33⟩, meas rfl z8 oM oM⟩
   · -- false
     have hb4p := of_decide_eq_false hb4
     refine rw_gyq (s := 21) rfl rfl hb4 rfl (ev_move s8) <| rw_gyq (s := 21) rfl rfl hb4 rfl (ev_i64_eql (b := 0) rfl rfl) <| rw_q rfl (ev_pick_fk rfl hb4 rfl) <| rN ?_
     refine cw_cond rfl (fun hc34 => ?_) (fun hc34 => ?_)
     · -- true
       have hc34p := eq_of_beq hc34
       refine cw_skip (kThen_normal (cw_seq (cw_block (sR ?_))))
       refine rM rfl s2 <| rM rfl s8 <| rw_q rfl (ev_slice_rd (i := ((42 * k : Nat) : Int)) (j := (b.length : Int)) (Rd.ofRest hb hm3) uT23 ti5 rfl (optI_some (k := .i64) (i := ((42 * k : Nat) : Int)) rfl) (optI_none _ _) oM sL sL) <| rw_q rfl (ev_assign (v := (subv vb ((42 * k : Nat) : Int) (b.length : Int))) rfl) ?_
       refine rN (sR ?_)
       refine rw_q rfl (ev_move (v := (subv vb ((42 * k : Nat) : Int) (b.length : Int))) rfl) <| rw_q (v := (i64 (((b.drop (((42 * k : Nat) : Int) : Int).toNat).take (((b.length : Int) : Int).toNat - (((42 * k : Nat) : Int) : Int).toNat)).length : Int))) rfl (ev_len_rd (Rd.cast (l' := (b.drop (((42 * k : Nat) : Int) : Int).toNat).take (((b.length : Int) : Int).toNat - (((42 * k : Nat) : Int) : Int).toNat)) (Rd.sub (Rd.ofRest hb hm3) oM sL sL) rfl) uT23 rfl) <| rw_q rfl (ev_i64_leq (b := 42) rfl rfl) <| rA rfl rfl ?_
       refine rN (cw_seq (sR ?_))
       refine rM rfl rfl <| rw_q rfl (ev_not rfl) <| rN ?_
       refine CW.abs (fun g => g 0 = (i64 gen) ∧ g 1 = (i64 rec) ∧ g 2 = vb ∧ g 6 = (Value.slice none 0 0) ∧ g 7 = vo ∧ g 8 = (i64 ((42 * k : Nat) : Int)) ∧ g 9 = (subv vb ((42 * k : Nat) : Int) (b.length : Int)) ∧ g 10 = (bl (decide ((((b.drop (((42 * k : Nat) : Int) : Int).toNat).take (((b.length : Int) : Int).toNat - (((42 * k : Nat) : Int) : Int).toNat)).length : Int) ≤ 42))) ∧ g 24 = (bl (((42 * k : Nat) : Int) == 0)) ∧ g 34 = (bl (!(decide ((((b.drop (((42 * k : Nat) : Int) : Int).toNat).take (((b.length : Int) : Int).toNat - (((42 * k : Nat) : Int) : Int).toNat)).length : Int) ≤ 42)))) ∧ True) ⟨s0, s1, s2, s6, s7, s8, rfl, rfl, rfl, rfl, trivial⟩ ?_
       rintro fr35 ⟨s0, s1, s2, s6, s7, s8, s9, s10, s24, s34, _⟩
       refine cw_meet (J := fun g wv => ∃ (vq : Value) (lq : List (BitVec 8)), (Rd (blks w0) u8 vq lq) ∧ (lq.length ≤ 42) ∧ (0 ≤ lq.length) ∧ g 0 = (i64 gen) ∧ g 1 = (i64 rec) ∧ g 2 = vb ∧ g 6 = (Value.slice none 0 0) ∧ g 7 = vo ∧ g 8 = (i64 ((42 * k : Nat) : Int)) ∧ g 9 = vq ∧ g 10 = (bl (decide ((((b.drop (((42 * k : Nat) : Int) : Int).toNat).take (((b.length : Int) : Int).toNat - (((42 * k : Nat) : Int) : Int).toNat)).length : Int) ≤ 42))) ∧ g 24 = (bl (((42 * k : Nat) : Int) == 0)) ∧ g 34 = (bl (!(decide ((((b.drop (((42 * k : Nat) : Int) : Int).toNat).take (((b.length : Int) : Int).toNat - (((42 * k : Nat) : Int) : Int).toNat)).length : Int) ≤ 42)))) ∧ Mem wv (restOf w0) (Ho ++ ([]))) ?_ ?_
       · skip
         refine cw_cond s34 (fun hc36 => ?_) (fun hc36 => ?_)
         · -- true
           have hc36n : (decide ((((b.drop (((42 * k : Nat) : Int) : Int).toNat).take (((b.length : Int) : Int).toNat - (((42 * k : Nat) : Int) : Int).toNat)).length : Int) ≤ 42)) = false := by simpa using hc36
           have hc36p := of_decide_eq_false hc36n
           refine cw_region <| rM rfl s9 <| rw_q rfl (ev_slice_rd (i := 0) (j := 42) (Rd.cast (l' := (b.drop (((42 * k : Nat) : Int) : Int).toNat).take (((b.length : Int) : Int).toNat - (((42 * k : Nat) : Int) : Int).toNat)) (Rd.sub (Rd.ofRest hb hm3) oM sL sL) rfl) uT23 ti5 rfl (optI_none _ _) (optI_some (k := .i64) (i := 42) rfl) oM sL sL) <| rw_q rfl (ev_assign (v := (subv (subv vb ((42 * k : Nat) : Int) (b.length : Int)) 0 42)) rfl) <| rN ?_
           exact ⟨(subv (subv vb ((42 * k : Nat) : Int) (b.length : Int)) 0 42), ((((b.drop (((42 * k : Nat) : Int) : Int).toNat).take (((b.length : Int) : Int).toNat - (((42 * k : Nat) : Int) : Int).toNat)).drop 0).take 42), (Rd.cast (l' := (((b.drop (((42 * k : Nat) : Int) : Int).toNat).take (((b.length : Int) : Int).toNat - (((42 * k : Nat) : Int) : Int).toNat)).drop 0).take 42) (Rd.sub (Rd.cast (l' := (b.drop (((42 * k : Nat) : Int) : Int).toNat).take (((b.length : Int) : Int).toNat - (((42 * k : Nat) : Int) : Int).toNat)) (Rd.sub (Rd.ofRest hb hm0) oM sL sL) rfl) oM sL sL) rfl), (by first | omega | (simp only [List.length_take]; omega)), (Nat.zero_le _), s0, s1, s2, s6, s7, s8, rfl, s10, s24, s34, hm3⟩
         · -- false
           have hc36n : (decide ((((b.drop (((42 * k : Nat) : Int) : Int).toNat).take (((b.length : Int) : Int).toNat - (((42 * k : Nat) : Int) : Int).toNat)).length : Int) ≤ 42)) = true := by simpa using hc36
           have hc36p := of_decide_eq_true hc36n
           refine cw_skip (kThen_normal ?_)
           exact ⟨(subv vb ((42 * k : Nat) : Int) (b.length : Int)), ((b.drop (((42 * k : Nat) : Int) : Int).toNat).take (((b.length : Int) : Int).toNat - (((42 * k : Nat) : Int) : Int).toNat)), (Rd.cast (l' := (b.drop (((42 * k : Nat) : Int) : Int).toNat).take (((b.length : Int) : Int).toNat - (((42 * k : Nat) : Int) : Int).toNat)) (Rd.sub (Rd.ofRest hb hm0) oM sL sL) rfl), (by first | omega | (simp only [List.length_take]; omega)), (Nat.zero_le _), s0, s1, s2, s6, s7, s8, s9, s10, s24, s34, hm3⟩
       · rintro fr37 w38 ⟨vq, lq, hvq, hlq, hlq2, s0, s1, s2, s6, s7, s8, s9, s10, s24, s34, hm38⟩
         refine sR <| rw_q rfl (ev_build_arr (ps := []) (c := (cl u8 (List.replicate 64 0))) ti83 uT83 ti5 (by simp) rfl) <| rw_c rfl (or_alloc_agg hm38 ti83) ?_
         rintro _ w39 ⟨b11_1, rfl, _ew39, hm39⟩
         refine rw_n (or_store_agg (f := u8) (l := List.replicate 64 0) u8_one ti83 rfl rfl sL hm39.h0 (by rw [size_cl]; first | omega | (simp only [List.length_set, List.length_append, List.length_replicate, List.length_map, List.length_cons, List.length_nil]; omega) | (simp; done) | (simp; omega) | decide) rfl) ?_
         rintro _ w40 uq40
         have hm40 := hm39.upd0 uq40
         refine rN (sR ?_)
         refine rM rfl s7 <| rw_q (v := (i64 (lo.length : Int))) rfl (ev_len_rk (go.rd (Mem.pick [_] Ho _ hm40)) uT40 rfl) <| rw_q rfl (ev_assign (v := (i64 (lo.length : Int))) rfl) ?_
         refine rN (cw_seq (sR ?_))
         refine rM rfl s10 <| rN ?_
         refine cw_meet (J := fun g wv => ∃ (pp : Nat), (pp ≤ k + 32768) ∧ g 0 = (i64 gen) ∧ g 1 = (i64 rec) ∧ g 2 = vb ∧ g 6 = (Value.slice none 0 0) ∧ g 7 = vo ∧ g 8 = (i64 ((42 * k : Nat) : Int)) ∧ g 9 = vq ∧ g 10 = (bl (decide ((((b.drop (((42 * k : Nat) : Int) : Int).toNat).take (((b.length : Int) : Int).toNat - (((42 * k : Nat) : Int) : Int).toNat)).length : Int) ≤ 42))) ∧ g 11 = (ptr b11_1 0) ∧ g 12 = (i64 (pp : Int)) ∧ g 24 = (bl (((42 * k : Nat) : Int) == 0)) ∧ g 34 = (bl (!(decide ((((b.drop (((42 * k : Nat) : Int) : Int).toNat).take (((b.length : Int) : Int).toNat - (((42 * k : Nat) : Int) : Int).toNat)).length : Int) ≤ 42)))) ∧ g 40 = (bl (decide ((((b.drop (((42 * k : Nat) : Int) : Int).toNat).take (((b.length : Int) : Int).toNat - (((42 * k : Nat) : Int) : Int).toNat)).length : Int) ≤ 42))) ∧ Mem wv (restOf w0) ([(b11_1, .cells (cl u8 (List.replicate 64 0)) 83 (0, 0))] ++ (Ho ++ ([])))) ?_ ?_
         · skip
           refine cw_cond rfl (fun hc41 => ?_) (fun hc41 => ?_)
           · -- true
             have hc41p := of_decide_eq_true hc41
             refine cw_region <| rw_q rfl (ev_move (v := (i64 (lo.length : Int))) rfl) <| rw_q rfl (ev_i64_add (b := 32768) rfl rfl oM oM) <| rw_q rfl (ev_assign (v := (i64 ((lo.length : Int) + 32768))) rfl) <| rN ?_
             exact ⟨(lo.length + 32768), oM, s0, s1, s2, s6, s7, s8, s9, s10, rfl, (Eq.trans rfl (congrArg i64 oM)), s24, s34, rfl, hm40⟩
           · -- false
             have hc41p := of_decide_eq_false hc41
             refine cw_skip (kThen_normal ?_)
             exact ⟨lo.length, oM, s0, s1, s2, s6, s7, s8, s9, s10, rfl, rfl, s24, s34, rfl, hm40⟩
         · rintro fr42 w43 ⟨pp, hpp, s0, s1, s2, s6, s7, s8, s9, s10, s11, s12, s24, s34, s40, hm43⟩
           refine sR <| rM rfl s0 <| rw_q rfl (ev_i64_shrK (p := 16777216) (b := 24) rfl rfl rfl (by decide) (by decide)) <| rw_q rfl (ev_conv_i64_u8 ⟨_, uT3⟩ uT5 rfl) <| rM rfl s0 <| rw_q rfl (ev_i64_shrK (p := 65536) (b := 16) rfl rfl rfl (by decide) (by decide)) ?_
           refine rw_q rfl (ev_conv_i64_u8 ⟨_, uT3⟩ uT5 rfl) <| rM rfl s0 <| rw_q rfl (ev_i64_shrK (p := 256) (b := 8) rfl rfl rfl (by decide) (by decide)) <| rw_q rfl (ev_conv_i64_u8 ⟨_, uT3⟩ uT5 rfl) <| rM rfl s0 <| rw_q rfl (ev_conv_i64_u8 ⟨_, uT3⟩ uT5 rfl) ?_
           refine rM rfl s1 <| rw_q rfl (ev_i64_shrK (p := 16777216) (b := 24) rfl rfl rfl (by decide) (by decide)) <| rw_q rfl (ev_conv_i64_u8 ⟨_, uT3⟩ uT5 rfl) <| rM rfl s1 <| rw_q rfl (ev_i64_shrK (p := 65536) (b := 16) rfl rfl rfl (by decide) (by decide)) <| rw_q rfl (ev_conv_i64_u8 ⟨_, uT3⟩ uT5 rfl) ?_
           refine rM rfl s1 <| rw_q rfl (ev_i64_shrK (p := 256) (b := 8) rfl rfl rfl (by decide) (by decide)) <| rw_q rfl (ev_conv_i64_u8 ⟨_, uT3⟩ uT5 rfl) <| rM rfl s1 <| rw_q rfl (ev_conv_i64_u8 ⟨_, uT3⟩ uT5 rfl) <| rM rfl s12 ?_
           refine rw_q rfl (ev_i64_shrK (p := 256) (b := 8) rfl rfl rfl (by decide) (by decide)) <| rw_q rfl (ev_conv_i64_u8 ⟨_, uT3⟩ uT5 rfl) <| rM rfl s12 <| rw_q rfl (ev_conv_i64_u8 ⟨_, uT3⟩ uT5 rfl) <| rw_c rfl (or_buildSlice_cl u8 [BitVec.ofInt 8 (gen / 16777216), BitVec.ofInt 8 (gen / 65536), BitVec.ofInt 8 (gen / 256), BitVec.ofInt 8 gen, BitVec.ofInt 8 (rec / 16777216), BitVec.ofInt 8 (rec / 65536), BitVec.ofInt 8 (rec / 256), BitVec.ofInt 8 rec, BitVec.ofInt 8 ((pp : Int) / 256), BitVec.ofInt 8 (pp : Int)] u8_one hm43 uT23 ti5 rfl rfl rfl) ?_
           rintro _ w44 ⟨b70_1, rfl, _ew44, hm44⟩
           refine rw_q rfl (ev_assign (v := (slc b70_1 0 10 10)) rfl) <| rN ?_
           refine CW.abs (fun g => g 0 = (i64 gen) ∧ g 1 = (i64 rec) ∧ g 2 = vb ∧ g 6 = (Value.slice none 0 0) ∧ g 7 = vo ∧ g 8 = (i64 ((42 * k : Nat) : Int)) ∧ g 9 = vq ∧ g 10 = (bl (decide ((((b.drop (((42 * k : Nat) : Int) : Int).toNat).take (((b.length : Int) : Int).toNat - (((42 * k : Nat) : Int) : Int).toNat)).length : Int) ≤ 42))) ∧ g 11 = (ptr b11_1 0) ∧ g 12 = (i64 (pp : Int)) ∧ g 13 = (slc b70_1 0 10 10) ∧ g 24 = (bl (((42 * k : Nat) : Int) == 0)) ∧ g 34 = (bl (!(decide ((((b.drop (((42 * k : Nat) : Int) : Int).toNat).take (((b.length : Int) : Int).toNat - (((42 * k : Nat) : Int) : Int).toNat)).length : Int) ≤ 42)))) ∧ g 40 = (bl (decide ((((b.drop (((42 * k : Nat) : Int) : Int).toNat).take (((b.length : Int) : Int).toNat - (((42 * k : Nat) : Int) : Int).toNat)).length : Int) ≤ 42))) ∧ True) ⟨s0, s1, s2, s6, s7, s8, s9, s10, s11, s12, rfl, s24, s34, s40, trivial⟩ ?_
           rintro fr45 ⟨s0, s1, s2, s6, s7, s8, s9, s10, s11, s12, s13, s24, s34, s40, _⟩
           refine cw_seq (sR ?_)
           refine rw_q rfl (ev_assign (v := (i64 0)) rfl) ?_
           refine rN (cw_block ?_)
           refine cw_loop (fun g wv => ∃ (i : Nat) (xs : List (BitVec 8)), ((i : Int) ≤ 10) ∧ (xs.length = 64) ∧ g 0 = (i64 gen) ∧ g 1 = (i64 rec) ∧ g 2 = vb ∧ g 6 = (Value.slice none 0 0) ∧ g 7 = vo ∧ g 8 = (i64 ((42 * k : Nat) : Int)) ∧ g 9 = vq ∧ g 10 = (bl (decide ((((b.drop (((42 * k : Nat) : Int) : Int).toNat).take (((b.length : Int) : Int).toNat - (((42 * k : Nat) : Int) : Int).toNat)).length : Int) ≤ 42))) ∧ g 11 = (ptr b11_1 0) ∧ g 12 = (i64 (pp : Int)) ∧ g 13 = (slc b70_1 0 10 10) ∧ g 14 = (i64 (i : Int)) ∧ g 24 = (bl (((42 * k : Nat) : Int) == 0)) ∧ g 34 = (bl (!(decide ((((b.drop (((42 * k : Nat) : Int) : Int).toNat).take (((b.length : Int) : Int).toNat - (((42 * k : Nat) : Int) : Int).toNat)).length : Int) ≤ 42)))) ∧ g 40 = (bl (decide ((((b.drop (((42 * k : Nat) : Int) : Int).toNat).take (((b.length : Int) : Int).toNat - (((42 * k : Nat) : Int) : Int).toNat)).length : Int) ≤ 42))) ∧ Mem wv (restOf w0) ([(b11_1, .cells (cl u8 xs) 83 (0, 0)), (b70_1, .cells (cl u8 ([BitVec.ofInt 8 (gen / 16777216), BitVec.ofInt 8 (gen / 65536), BitVec.ofInt 8 (gen / 256), BitVec.ofInt 8 gen, BitVec.ofInt 8 (rec / 16777216), BitVec.ofInt 8 (rec / 65536), BitVec.ofInt 8 (rec / 256), BitVec.ofInt 8 rec, BitVec.ofInt 8 ((pp : Int) / 256), BitVec.ofInt 8 (pp : Int)])) 5 (0, 0))] ++ (Ho ++ ([])))) (fun g wv => (10 - RowKit.intOf (g 14)).toNat) ?_ ?_
           have hm46 := (Mem.pick [_, _] Ho _ hm44)
           have hm47 := (Mem.pick Ho [_] _ hm46)
           have hm48 := (Mem.pick2 [_] Ho [_] _ hm47)
           · exact ⟨0, (List.replicate 64 0), oM, sL, s0, s1, s2, s6, s7, s8, s9, s10, s11, s12, s13, rfl, s24, s34, s40, hm48⟩
           · rintro fr49 w50 ⟨i, xs, hi, hxs, s0, s1, s2, s6, s7, s8, s9, s10, s11, s12, s13, s14, s24, s34, s40, hm50⟩
             have z14 := s14
             refine cw_seq (sR ?_)
             refine rM rfl s14 <| rw_q rfl (ev_i64_lss (b := 10) rfl rfl) <| rN ?_
             refine cw_cond rfl (fun hc51 => ?_) (fun hc51 => ?_)
             · -- true
               have hc51p := of_decide_eq_true hc51
               refine cw_skip (kThen_normal (cw_seq (cw_block (sR ?_))))
               refine rM rfl s14 <| rM rfl s13 <| rM rfl s14 <| rw_q rfl (ev_ia_slc (r := i) oM uT23 ti5 rfl rfl oM sL) <| rw_q (v := (u8 (([BitVec.ofInt 8 (gen / 16777216), BitVec.ofInt 8 (gen / 65536), BitVec.ofInt 8 (gen / 256), BitVec.ofInt 8 gen, BitVec.ofInt 8 (rec / 16777216), BitVec.ofInt 8 (rec / 65536), BitVec.ofInt 8 (rec / 256), BitVec.ofInt 8 rec, BitVec.ofInt 8 ((pp : Int) / 256), BitVec.ofInt 8 (pp : Int)]).getD i 0))) rfl (ev_load1 uT5 rfl rfl hm50.h1 (get_clD _ _ 0 sL)) <| rw_q rfl (ev_ia_arr (r := i) oM uT83 ti5 s11 rfl oM sL) ?_
               refine rw_n (or_store_cl (f := u8) (a := ([BitVec.ofInt 8 (gen / 16777216), BitVec.ofInt 8 (gen / 65536), BitVec.ofInt 8 (gen / 256), BitVec.ofInt 8 gen, BitVec.ofInt 8 (rec / 16777216), BitVec.ofInt 8 (rec / 65536), BitVec.ofInt 8 (rec / 256), BitVec.ofInt 8 rec, BitVec.ofInt 8 ((pp : Int) / 256), BitVec.ofInt 8 (pp : Int)]).getD i 0) u8_one ti5 rfl rfl hm50.h0 sL (.inl (Nat.zero_le _))) ?_
               rintro _ w52 uq52
               have hm52 := hm50.upd0 uq52
               refine rN (cw_region ?_)
               refine rM rfl s14 <| rw_q rfl (ev_i64_add (a := 54) rfl rfl oM oM) <| rM rfl s13 <| rM rfl s14 <| rw_q rfl (ev_ia_slc (r := i) oM uT23 ti5 rfl rfl oM sL) <| rw_q (v := (u8 (([BitVec.ofInt 8 (gen / 16777216), BitVec.ofInt 8 (gen / 65536), BitVec.ofInt 8 (gen / 256), BitVec.ofInt 8 gen, BitVec.ofInt 8 (rec / 16777216), BitVec.ofInt 8 (rec / 65536), BitVec.ofInt 8 (rec / 256), BitVec.ofInt 8 rec, BitVec.ofInt 8 ((pp : Int) / 256), BitVec.ofInt 8 (pp : Int)]).getD i 0))) rfl (ev_load1 uT5 rfl rfl hm52.h1 (get_clD _ _ 0 sL)) ?_
               refine rw_q rfl (ev_ia_arr (r := (54 + (i : Int) : Int).toNat) oM uT83 ti5 s11 rfl oM sL) <| rw_n (or_store_cl (f := u8) (a := ([BitVec.ofInt 8 (gen / 16777216), BitVec.ofInt 8 (gen / 65536), BitVec.ofInt 8 (gen / 256), BitVec.ofInt 8 gen, BitVec.ofInt 8 (rec / 16777216), BitVec.ofInt 8 (rec / 65536), BitVec.ofInt 8 (rec / 256), BitVec.ofInt 8 rec, BitVec.ofInt 8 ((pp : Int) / 256), BitVec.ofInt 8 (pp : Int)]).getD i 0) u8_one ti5 rfl rfl hm52.h0 sL (.inl (Nat.zero_le _))) ?_
               rintro _ w53 uq53
               have hm53 := hm52.upd0 uq53
               refine rw_nil (kBlk_normal (cw_region ?_))
               refine rM rfl s14 <| rw_q rfl (ev_i64_add (b := 1) rfl rfl oM oM) <| rw_q rfl (ev_assign (v := (i64 ((i : Int) + 1))) rfl) <| rN ?_
               exact ⟨⟨(i + 1), ((xs.set i (([BitVec.ofInt 8 (gen / 16777216), BitVec.ofInt 8 (gen / 65536), BitVec.ofInt 8 (gen / 256), BitVec.ofInt 8 gen, BitVec.ofInt 8 (rec / 16777216), BitVec.ofInt 8 (rec / 65536), BitVec.ofInt 8 (rec / 256), BitVec.ofInt 8 rec, BitVec.ofInt 8 ((pp : Int) / 256), BitVec.ofInt 8 (pp : Int)]).getD i 0)).set ((54 + (i : Int) : Int).toNat) (([BitVec.ofInt 8 (gen / 16777216), BitVec.ofInt 8 (gen / 65536), BitVec.ofInt 8 (gen / 256), BitVec.ofInt 8 gen, BitVec.ofInt 8 (rec / 16777216), BitVec.ofInt 8 (rec / 65536), BitVec.ofInt 8 (rec / 256), BitVec.ofInt 8 rec, BitVec.ofInt 8 ((pp : Int) / 256), BitVec.ofInt 8 (pp : Int)]).getD i 0)), oM, (by simp; omega), s0, s1, s2, s6, s7, s8, s9, s10, s11, s12, s13, rfl, s24, s34, s40, hm53⟩, meas (rfl) z14 oM oM⟩
             · -- false
               have hc51p := of_decide_eq_false hc51
               refine cw_exit ?_
               refine kThen_exit (kThen_exit (kBlk_hit ?_))
               refine sR <| rM rfl s9 <| rw_q (v := (i64 (lq.length : Int))) rfl (ev_len_rd (Rd.ofRest hvq hm50) uT23 rfl) <| rw_q rfl (ev_conv_i64_u8 ⟨_, uT3⟩ uT5 rfl) <| rw_q rfl (ev_ia_arr (r := 11) (i := 11) oM uT83 ti5 s11 rfl oM oM) <| rw_n (or_store_cl (f := u8) (a := BitVec.ofInt 8 (lq.length : Int)) u8_one ti5 rfl rfl hm50.h0 sL (.inl (Nat.zero_le _))) ?_
               rintro _ w54 uq54
               have hm54 := hm50.upd0 uq54
               refine rN (cw_seq (sR ?_))
               refine rw_q rfl (ev_assign (v := (i64 0)) rfl) ?_
               refine rN (cw_block ?_)
               refine cw_loop (fun g wv => ∃ (i2 : Nat) (xt : List (BitVec 8)), ((i2 : Int) ≤ (lq.length : Int)) ∧ (xt.length = 64) ∧ g 0 = (i64 gen) ∧ g 1 = (i64 rec) ∧ g 2 = vb ∧ g 6 = (Value.slice none 0 0) ∧ g 7 = vo ∧ g 8 = (i64 ((42 * k : Nat) : Int)) ∧ g 9 = vq ∧ g 10 = (bl (decide ((((b.drop (((42 * k : Nat) : Int) : Int).toNat).take (((b.length : Int) : Int).toNat - (((42 * k : Nat) : Int) : Int).toNat)).length : Int) ≤ 42))) ∧ g 11 = (ptr b11_1 0) ∧ g 12 = (i64 (pp : Int)) ∧ g 13 = (slc b70_1 0 10 10) ∧ g 14 = (i64 (i : Int)) ∧ g 15 = (i64 (i2 : Int)) ∧ g 24 = (bl (((42 * k : Nat) : Int) == 0)) ∧ g 34 = (bl (!(decide ((((b.drop (((42 * k : Nat) : Int) : Int).toNat).take (((b.length : Int) : Int).toNat - (((42 * k : Nat) : Int) : Int).toNat)).length : Int) ≤ 42)))) ∧ g 40 = (bl (decide ((((b.drop (((42 * k : Nat) : Int) : Int).toNat).take (((b.length : Int) : Int).toNat - (((42 * k : Nat) : Int) : Int).toNat)).length : Int) ≤ 42))) ∧ g 72 = (bl (decide ((i : Int) < 10))) ∧ Mem wv (restOf w0) ([(b11_1, .cells (cl u8 xt) 83 (0, 0)), (b70_1, .cells (cl u8 ([BitVec.ofInt 8 (gen / 16777216), BitVec.ofInt 8 (gen / 65536), BitVec.ofInt 8 (gen / 256), BitVec.ofInt 8 gen, BitVec.ofInt 8 (rec / 16777216), BitVec.ofInt 8 (rec / 65536), BitVec.ofInt 8 (rec / 256), BitVec.ofInt 8 rec, BitVec.ofInt 8 ((pp : Int) / 256), BitVec.ofInt 8 (pp : Int)])) 5 (0, 0))] ++ (Ho ++ ([])))) (fun g wv => ((lq.length : Int) - RowKit.intOf (g 15)).toNat) ?_ ?_
               · exact ⟨0, (xs.set 11 (BitVec.ofInt 8 (lq.length : Int))), oM, sL, s0, s1, s2, s6, s7, s8, s9, s10, s11, s12, s13, s14, rfl, s24, s34, s40, rfl, hm54⟩
               · rintro fr55 w56 ⟨i2, xt, hi2, hxt, s0, s1, s2, s6, s7, s8, s9, s10, s11, s12, s13, s14, s15, s24, s34, s40, s72, hm56⟩
                 have z15 := s15
                 refine cw_seq (sR ?_)
                 refine rM rfl s15 <| rM rfl s9 <| rw_q (v := (i64 (lq.length : Int))) rfl (ev_len_rd (Rd.ofRest hvq hm56) uT23 rfl) <| rw_q rfl (ev_i64_lss rfl rfl) <| rN ?_
                 refine cw_cond rfl (fun hc57 => ?_) (fun hc57 => ?_)
                 · -- true
                   have hc57p := of_decide_eq_true hc57
                   refine cw_skip (kThen_normal (cw_seq (cw_block (cw_region ?_))))
                   refine rM rfl s15 <| rw_q rfl (ev_i64_add (a := 12) rfl rfl oM oM) <| rM rfl s9 <| rM rfl s15 <| rw_q rfl (ev_indexAddr_rdv (Rd.ofRest hvq hm56) uT23 ti5 rfl rfl oM sL) <| rw_q (v := (u8 (lq.getD i2 0))) rfl (ev_load_rdD (l := lq) (i := (i2 : Int)) (dflt := 0) (Rd.ofRest hvq hm56) uT5 rfl oM sL rfl) ?_
                   refine rw_q rfl (ev_ia_arr (r := (12 + (i2 : Int) : Int).toNat) oM uT83 ti5 s11 rfl oM sL) <| rw_n (or_store_cl (f := u8) (a := lq.getD i2 0) u8_one ti5 rfl rfl hm56.h0 sL (.inl (Nat.zero_le _))) ?_
                   rintro _ w58 uq58
                   have hm58 := hm56.upd0 uq58
                   refine rw_nil (kBlk_normal (cw_region ?_))
                   refine rM rfl s15 <| rw_q rfl (ev_i64_add (b := 1) rfl rfl oM oM) <| rw_q rfl (ev_assign (v := (i64 ((i2 : Int) + 1))) rfl) <| rN ?_
                   exact ⟨⟨(i2 + 1), (xt.set ((12 + (i2 : Int) : Int).toNat) (lq.getD i2 0)), oM, (by simp; omega), s0, s1, s2, s6, s7, s8, s9, s10, s11, s12, s13, s14, rfl, s24, s34, s40, s72, hm58⟩, meas (rfl) z15 oM oM⟩
                 · -- false
                   have hc57p := of_decide_eq_false hc57
                   refine cw_exit ?_
                   refine kThen_exit (kThen_exit (kBlk_hit ?_))
                   refine cw_region <| rM rfl s7 <| rw_q (v := (agg u8 xt)) rfl (ev_loadA uT83 rfl ti83 s11 hm56.h0 (by rw [size_cl]; first | omega | (simp only [List.length_set, List.length_append, List.length_replicate, List.length_map, List.length_cons, List.length_nil]; omega) | (simp; done) | (simp; omega) | decide)) <| rw_c rfl (or_buildSlice_k1 (cs := (cl u8 xt)) hm56 uT40 ti83 rfl rfl rfl (by rw [size_cl]; first | omega | (simp only [List.length_set, List.length_append, List.length_replicate, List.length_map, List.length_cons, List.length_nil]; omega) | (simp; done) | (simp; omega) | decide)) ?_
                   rintro _ w59 ⟨b107_1, rfl, _ew59, hm59⟩
                   have hm59 : Mem w59 (restOf w0) ([(b107_1, .cells (cl u8 xt) 83 (0, 0)), (b11_1, .cells (cl u8 xt) 83 (0, 0)), (b70_1, .cells (cl u8 ([BitVec.ofInt 8 (gen / 16777216), BitVec.ofInt 8 (gen / 65536), BitVec.ofInt 8 (gen / 256), BitVec.ofInt 8 gen, BitVec.ofInt 8 (rec / 16777216), BitVec.ofInt 8 (rec / 65536), BitVec.ofInt 8 (rec / 256), BitVec.ofInt 8 rec, BitVec.ofInt 8 ((pp : Int) / 256), BitVec.ofInt 8 (pp : Int)])) 5 (0, 0))] ++ (Ho ++ ([]))) := hm59
                   refine rw_c rfl (or_appendK (enc := (encA u8)) (k := 64) (Hs := Ho) (H := [(b107_1, .cells (cl u8 xt) 83 (0, 0)), (b11_1, .cells (cl u8 xt) 83 (0, 0)), (b70_1, .cells (cl u8 ([BitVec.ofInt 8 (gen / 16777216), BitVec.ofInt 8 (gen / 65536), BitVec.ofInt 8 (gen / 256), BitVec.ofInt 8 gen, BitVec.ofInt 8 (rec / 16777216), BitVec.ofInt 8 (rec / 65536), BitVec.ofInt 8 (rec / 256), BitVec.ofInt 8 rec, BitVec.ofInt 8 ((pp : Int) / 256), BitVec.ofInt 8 (pp : Int)])) 5 (0, 0))]) (Mem.pick [_, _, _] Ho _ hm59) go rfl rfl (RdK.ofOne (enc := (encA u8)) (k := 64) (a := xt) hm59.h0 rfl (by simp only [encA, List.length_map]; first | omega | (simp only [List.length_set, List.length_append, List.length_replicate, List.length_map, List.length_cons, List.length_nil]; omega) | (simp; done) | (simp; omega) | decide)) uT40 uT40 ti83 rfl rfl (fun _ _ => encA_one u8_one _) sL sL) ?_
                   rintro sv60 w60 ⟨Hs60, hm60, g60⟩
                   replace g60 : GrowK (encA u8) 64 83 sv60 (lo ++ ([xt])) Hs60 := g60
                   refine rA rfl (v := sv60) rfl ?_
                   refine rw_nil (kBlk_normal (cw_region ?_))
                   refine rM rfl s8 <| rw_q rfl (ev_i64_add (b := 42) rfl rfl oM oM) <| rw_q rfl (ev_assign (v := (i64 (((42 * k : Nat) : Int) + 42))) rfl) <| rN ?_
                   have hm61 := Mem.drop ([(b107_1, .cells (cl u8 xt) 83 (0, 0))]) _ (Mem.pick Hs60 [_] _ hm60)
                   have hm62 := Mem.drop ([(b11_1, .cells (cl u8 xt) 83 (0, 0))]) _ (Mem.pick Hs60 [_] _ hm61)
                   have hm63 := Mem.drop ([(b70_1, .cells (cl u8 ([BitVec.ofInt 8 (gen / 16777216), BitVec.ofInt 8 (gen / 65536), BitVec.ofInt 8 (gen / 256), BitVec.ofInt 8 gen, BitVec.ofInt 8 (rec / 16777216), BitVec.ofInt 8 (rec / 65536), BitVec.ofInt 8 (rec / 256), BitVec.ofInt 8 rec, BitVec.ofInt 8 ((pp : Int) / 256), BitVec.ofInt 8 (pp : Int)])) 5 (0, 0))]) _ (Mem.pick Hs60 [_] _ hm62)
                   exact ⟨⟨(k + 1), sv60, (lo ++ ([xt])), Hs60, oM, (by simp; omega), g60, s0, s1, s2, s6, rfl, (Eq.trans rfl (congrArg i64 (by push_cast; omega))), hm63⟩, meas rfl z8 oM oM⟩
     · -- false
       have hc34p := ne_of_beq_false hc34
       refine cw_exit ?_
       refine kThen_exit (kThen_exit (kBlk_hit ?_))
       refine sR <| rM rfl s7 <| rA rfl (v := vo) rfl ?_
       refine rN (cw_ret ?_)
       refine fnPost_ret [vo] ⟨rfl, trivial⟩ ?_
       have hke := blocks_exit (n := b.length) (k := k) (of_decide_eq_false hb4) (by have hz := hc34p; omega) oM
       exact ⟨lo, Ho, (by rw [hlo]; exact hke), go, by simpa using hm3⟩

set_option maxHeartbeats 2000000 in
theorem c_rroom (vL : Value) (rl : List SlT) (w0 : World)  (hrl : RdL (blks w0) vL rl) (hrn : rl.length ≤ 2000) (hre : ∀ p ∈ rl, p.2.length ≤ 140737488355328) : CallsR Try.prog 20 #[vL] w0 (fun r w1 => r = (i64 (roomB (rl.map (·.2)) : Int)) ∧ Ext w0 w1) := by
 refine callsR_of_cw (args := [vL]) Try.func20 rfl Try.ntmps20 Try.results20 rfl ?_
 have hm0 : Mem w0 (restOf w0) [] := Mem.of_world w0
 refine sR <| rw_q rfl (ev_assign (v := (i64 0)) rfl) ?_
 refine rN (sR ?_)
 refine rw_q rfl (ev_assign (v := (i64 0)) rfl) ?_
 refine rN (cw_seq (sR ?_))
 refine rw_q rfl (ev_assign (v := (i64 0)) rfl) ?_
 refine rN (cw_block ?_)
 refine cw_loop (fun g wv => ∃ (k : Nat), (k ≤ rl.length) ∧ (roomB ((rl.map (·.2)).take k) ≤ 140737488355329 * k) ∧ g 0 = vL ∧ g 2 = (i64 0) ∧ g 3 = (i64 (roomB ((rl.map (·.2)).take k) : Int)) ∧ g 4 = (i64 (k : Int)) ∧ Mem wv (restOf w0) []) (fun g wv => ((rl.length : Int) - RowKit.intOf (g 4)).toNat) ?_ ?_
 · exact ⟨0, (Nat.zero_le _), room_0n4, rfl, rfl, (congrArg i64 room_0), rfl, hm0⟩
 · rintro fr1 w2 ⟨k, hk, hrb, s0, s2, s3, s4, hm2⟩
   have z3 := s3
   have z4 := s4
   refine cw_seq (sR ?_)
   refine rM rfl s4 <| rM rfl s0 <| rw_q (v := (i64 (rl.length : Int))) rfl (ev_len_rd (RdL.row (RdL.ofRest (R := (restOf w0)) hrl hm2)) uT22 rfl) <| rw_q rfl (ev_i64_lss rfl rfl) <| rN ?_
   refine cw_cond rfl (fun hc3 => ?_) (fun hc3 => ?_)
   · -- true
     have hc3p := of_decide_eq_true hc3
     have hgk : (rl.getD k sl0).2 = (rl.map (·.2)).getD k [] := snd_getD rfl oM
     have hre1 := hre _ (getD_mem (d := sl0) (show k < rl.length by omega))
     have hrs1 := roomT_S (L := (rl.map (·.2))) (k := k) (by simp; omega)
     have hbp := blocksN_pos (rl.getD k sl0).2.length
     refine cw_skip (kThen_normal (cw_seq (cw_block (cw_region ?_))))
     refine rM rfl s3 <| rM rfl s0 <| rM rfl s4 <| rw_q rfl (ev_indexAddr_rdv (RdL.row (RdL.ofRest (R := (restOf w0)) hrl hm2)) uT22 ti23 rfl rfl oM sL) <| rw_q (v := (slv (rl.getD k sl0))) rfl (ev_load_rdD (l := rl) (i := (k : Int)) (dflt := sl0) (RdL.row (RdL.ofRest (R := (restOf w0)) hrl hm2)) uT23 rfl oM sL rfl) <| rw_c rfl (opR_call Try.func44 bd44 nm44 (args3 rfl rfl rfl) (c_rblocks0 (1 : Int) (0 : Int) (slv (rl.getD k sl0)) ((rl.getD k sl0).2) _ (RdL.get (k := k) (RdL.ofRest (R := (restOf w0)) hrl hm2) sL) sL sL sL)) ?_
     rintro rq5 w4 ⟨lq5, Hsq5, hNq5, grq5, k_w4⟩
     have hm4 : Mem w4 (restOf w0) (Hsq5 ++ ([])) := Mem.new (H := []) (H' := Hsq5) hm2 k_w4
     refine rw_q (v := (i64 (lq5.length : Int))) rfl (ev_len_rk (grq5.rd hm4) uT40 rfl) <| rw_q rfl (ev_i64_add rfl rfl oM oM) <| rw_q rfl (ev_assign (v := (i64 ((roomB ((rl.map (·.2)).take k) : Int) + (lq5.length : Int)))) rfl) ?_
     refine rw_nil (kBlk_normal (cw_region ?_))
     refine rM rfl s4 <| rw_q rfl (ev_i64_add (b := 1) rfl rfl oM oM) <| rw_q rfl (ev_assign (v := (i64 ((k : Int) + 1))) rfl) <| rN ?_
     have hm6 := Mem.drop Hsq5 _ hm4
     exact ⟨⟨(k + 1), oM, (by rw [hrs1, ← hgk]; omega), s0, s2, (Eq.trans rfl (congrArg i64 (by rw [hrs1, ← hgk, hNq5]; push_cast; rfl))), rfl, hm6⟩, meas (rfl) z4 oM oM⟩
   · -- false
     have hc3p := of_decide_eq_false hc3
     refine cw_exit ?_
     refine kThen_exit (kThen_exit (kBlk_hit ?_))
     refine sR <| rM rfl s3 <| rw_q rfl (ev_assign (v := (i64 (roomB ((rl.map (·.2)).take k) : Int))) rfl) ?_
     refine rN (cw_ret ?_)
     refine fnPost_ret [(i64 (roomB ((rl.map (·.2)).take k) : Int))] ⟨rfl, trivial⟩ ?_
     exact ⟨congrArg i64 (by rw [List.take_of_length_le (by simp; omega)]), hm2.toExt⟩


end Go.Proofs.Ytfbnhoolkajebaa
