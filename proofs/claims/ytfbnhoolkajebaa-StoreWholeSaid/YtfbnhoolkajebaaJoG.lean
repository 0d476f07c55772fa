/- The document's blocks of a record; all blocks of a disk. Conditions: none beyond those that each theorem states. -/
import Derived.Test.YtfbnhoolkajebaaJoF
namespace Go.Proofs.Ytfbnhoolkajebaa
set_option linter.unusedVariables false
set_option linter.unusedSimpArgs false
/-! ### The document's block -/
theorem el_getD {α : Type} {l : List α} {j : Nat} {d : α} (h : j < l.length) : l[j] = l.getD j d := by simp [List.getD_eq_getElem?_getD, h]
section
variable {b : List (BitVec 8)} {k : Nat}
end
attribute [local irreducible] crashB crashK pushB readB inB errB cutN seenW
attribute [local irreducible] markB putB getB getK partB placeF blkOf rawB writeK blocksN
attribute [local irreducible] mostK newB roomB
attribute [local irreducible] recB recF recN genF badB lastP dataB gOf rOf pOf nOf loopH readH
attribute [local irreducible] okP layK turnL turnP oldB
attribute [local irreducible] openD
attribute [local irreducible] okG okV GB natB fitsB
attribute [local irreducible] syncF
attribute [local irreducible] gY rY pY nY wholeY dY halfL halfR diskR topK
attribute [local irreducible] putD blksD layD
set_option maxHeartbeats 2000000 in
theorem c_blocks (bd : Nat) (vl : Value) (ls : List (List (BitVec 8))) (vp : Value) (w0 : World)  (hd : blks w0 bd = some (.cells #[vl, vp] 94 (0, 0))) (hrl : RdK (blks w0) (encA u8) 64 vl ls) (hrp : RdK (blks w0) encW 65 vp []) (hll : ls.length ≤ 65536) : CallsR Try.prog 25 #[(ptr bd 0)] w0 (fun r w1 => ∃ Hs, GrowK (encA u8) 64 83 r ls Hs ∧ Mem w1 (restOf w0) Hs) := by
 refine callsR_of_cw (args := [(ptr bd 0)]) Try.func25 rfl Try.ntmps25 Try.results25 rfl ?_
 have hm0 : Mem w0 (restOf w0) [] := Mem.of_world w0
 refine sR <| rw_q rfl (ev_assign (v := (Value.slice none 0 0)) rfl) ?_
 refine rN (sR ?_)
 refine rw_c rfl (or_buildSlice_p (c := #[]) hm0 uT40 ti83 rfl pm_nil (by kernel_rfl)) ?_
 rintro _ w1 ⟨b7, rfl, _ew1, hm1⟩
 have hm1 : Mem w1 (restOf w0) [(b7, .cells #[] 83 (0, 0))] := hm1
 refine rw_q rfl (ev_assign (v := (slc b7 0 0 0)) rfl) ?_
 refine rN (cw_seq (sR ?_))
 refine rw_q rfl (ev_assign (v := (i64 0)) rfl) ?_
 refine rN (cw_block ?_)
 refine cw_loop (fun g wv => ∃ (k : Nat) (vo : Value) (Ho : List (Nat × Obj)), (k ≤ ls.length) ∧ (GrowK (encA u8) 64 83 vo (ls.take k) Ho) ∧ g 0 = (ptr bd 0) ∧ g 2 = (Value.slice none 0 0) ∧ g 3 = vo ∧ g 4 = (i64 (k : Int)) ∧ Mem wv (restOf w0) (Ho ++ ([]))) (fun g wv => ((ls.length : Int) - RowKit.intOf (g 4)).toNat) ?_ ?_
 · exact ⟨0, (slc b7 0 0 0), [(b7, .cells #[] 83 (0, 0))], (Nat.zero_le _), (GrowK.of (encA u8) 64 83 b7 [] rfl (by simp)), rfl, rfl, rfl, rfl, (by
   have hT := hm1
   try simp only [List.append_assoc, List.cons_append, List.nil_append, List.append_nil] at hT ⊢
   exact hT)⟩
 · rintro fr2 w3 ⟨k, vo, Ho, hk, go, s0, s2, s3, s4, hm3⟩
   have z3 := s3
   have z4 := s4
   refine cw_seq (sR ?_)
   refine rM rfl s4 <| rM rfl s0 <| rw_c rfl (opR_call Try.func49 bd49 nm49 (args1 rfl) (c_dsize bd vl ls vp ([]) _ (hm3.rest _ _ hd) (RdK.ofRest hrl hm3) (RdK.ofRest hrp hm3))) ?_
   rintro _ w4 ⟨rfl, _ew4⟩
   have hm4 := hm3.ext _ew4
   refine rw_q rfl (ev_i64_lss rfl rfl) <| rN ?_
   refine cw_cond rfl (fun hc6 => ?_) (fun hc6 => ?_)
   · -- true
     have hc6p := of_decide_eq_true hc6
     have hxk := encA_b hrl (show k < ls.length by omega)
     rw [← readB_nil (ls := ls) (show k < ls.length by omega)] at hxk
     refine cw_skip (kThen_normal (cw_seq (cw_block (sR ?_))))
     refine rM rfl s0 <| rM rfl s4 <| rw_c rfl (opR_call Try.func55 bd55 nm55 (args2 rfl rfl) (c_dread bd vl ls vp ([]) (k : Int) _ (hm4.rest _ _ hd) (RdK.ofRest hrl hm4) (RdK.ofRest hrp hm4) sL sL)) ?_
     rintro _ w7 ⟨rfl, _ew7⟩
     have hm7 := hm4.ext _ew7
     refine rw_q rfl (ev_move (v := (Value.tuple #[(agg u8 (readB ls ([]) (k : Int))), (i64 (errB ls (k : Int)))])) rfl) <| rw_q (v := (agg u8 (readB ls ([]) (k : Int)))) rfl (ev_extract rfl rfl) <| rw_q (v := (i64 (errB ls (k : Int)))) rfl (ev_extract rfl rfl) <| rw_c rfl (or_alloc_agg hm7 ti83) ?_
     rintro _ w9 ⟨b5, rfl, _ew9, hm9⟩
     refine rw_n (or_store_agg (f := u8) (l := readB ls ([]) (k : Int)) u8_one ti83 rfl rfl sL hm9.h0 (by rw [size_cl]; first | omega | (simp only [List.length_set, List.length_append, List.length_replicate, List.length_map, List.length_cons, List.length_nil]; omega) | (simp; done) | (simp; omega) | decide) rfl) ?_
     rintro _ w10 uq10
     have hm10 := hm9.upd0 uq10
     refine rw_q rfl (ev_assign (v := (i64 (errB ls (k : Int)))) rfl) ?_
     refine rN (cw_region ?_)
     refine rM rfl s3 <| rw_q (v := (agg u8 (readB ls ([]) (k : Int)))) rfl (ev_loadA uT83 rfl ti83 rfl hm10.h0 (by rw [size_cl]; first | omega | (simp only [List.length_set, List.length_append, List.length_replicate, List.length_map, List.length_cons, List.length_nil]; omega) | (simp; done) | (simp; omega) | decide)) <| rw_c rfl (or_buildSlice_k1 (cs := (cl u8 (readB ls ([]) (k : Int)))) hm10 uT40 ti83 rfl rfl rfl (by rw [size_cl]; first | omega | (simp only [List.length_set, List.length_append, List.length_replicate, List.length_map, List.length_cons, List.length_nil]; omega) | (simp; done) | (simp; omega) | decide)) ?_
     rintro _ w11 ⟨b22, rfl, _ew11, hm11⟩
     have hm11 : Mem w11 (restOf w0) ([(b22, .cells (cl u8 (readB ls ([]) (k : Int))) 83 (0, 0)), (b5, .cells (cl u8 (readB ls ([]) (k : Int))) 83 (0, 0))] ++ (Ho ++ ([]))) := hm11
     refine rw_c rfl (or_appendK (enc := (encA u8)) (k := 64) (Hs := Ho) (H := [(b22, .cells (cl u8 (readB ls ([]) (k : Int))) 83 (0, 0)), (b5, .cells (cl u8 (readB ls ([]) (k : Int))) 83 (0, 0))]) (Mem.pick [_, _] Ho _ hm11) go rfl rfl (RdK.ofOne (enc := (encA u8)) (k := 64) (a := (readB ls ([]) (k : Int))) hm11.h0 rfl (by simp only [encA, List.length_map]; first | omega | (simp only [List.length_set, List.length_append, List.length_replicate, List.length_map, List.length_cons, List.length_nil]; omega) | (simp; done) | (simp; omega) | decide)) uT40 uT40 ti83 rfl rfl (fun _ _ => encA_one u8_one _) sL sL) ?_
     rintro sv12 w12 ⟨Hs12, hm12, g12⟩
     replace g12 : GrowK (encA u8) 64 83 sv12 ((ls.take k) ++ ([readB ls ([]) (k : Int)])) Hs12 := g12
     refine rA rfl (v := sv12) rfl ?_
     refine rw_nil (kBlk_normal ?_)
     have hm13 := Mem.drop ([(b22, .cells (cl u8 (readB ls ([]) (k : Int))) 83 (0, 0))]) _ (Mem.pick Hs12 [_] _ hm12)
     refine CW.abs (fun g => g 0 = (ptr bd 0) ∧ g 2 = (Value.slice none 0 0) ∧ g 3 = sv12 ∧ g 4 = (i64 (k : Int)) ∧ g 5 = (ptr b5 0) ∧ g 11 = (bl (decide ((k : Int) < (ls.length : Int)))) ∧ True) ⟨s0, s2, rfl, s4, rfl, rfl, trivial⟩ ?_
     rintro fr14 ⟨s0, s2, s3, s4, s5, s11, _⟩
     refine cw_region <| rM rfl s4 <| rw_q rfl (ev_i64_add (b := 1) rfl rfl oM oM) <| rw_q rfl (ev_assign (v := (i64 ((k : Int) + 1))) rfl) <| rN ?_
     have hm15 := Mem.drop ([(b5, .cells (cl u8 (readB ls ([]) (k : Int))) 83 (0, 0))]) _ (Mem.pick Hs12 [_] _ hm13)
     exact ⟨⟨(k + 1), sv12, Hs12, oM, (GrowK.cast g12 (by rw [readB_nil oM]; exact take_snoc oM)), s0, s2, s3, rfl, hm15⟩, meas (rfl) z4 oM oM⟩
   · -- false
     have hc6p := of_decide_eq_false hc6
     refine cw_exit ?_
     refine kThen_exit (kThen_exit (kBlk_hit ?_))
     refine sR <| rM rfl s3 <| rA rfl (v := vo) rfl ?_
     refine rN (cw_ret ?_)
     refine fnPost_ret [vo] ⟨rfl, trivial⟩ ?_
     exact ⟨Ho, GrowK.cast go (by rw [show k = ls.length by omega, List.take_length]), by simpa using hm4⟩

end Go.Proofs.Ytfbnhoolkajebaa
