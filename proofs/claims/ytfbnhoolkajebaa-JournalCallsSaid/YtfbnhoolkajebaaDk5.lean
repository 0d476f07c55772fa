/- Contracts of the disk: sync, size, pending. Conditions: none beyond those that each theorem states. -/
import Derived.Test.YtfbnhoolkajebaaDk4
namespace Go.Proofs.Ytfbnhoolkajebaa
set_option linter.unusedVariables false
set_option linter.unusedSimpArgs false
attribute [local irreducible] crashB crashK pushB readB inB errB cutN seenW

theorem c_dsync (bd : Nat) (vl : Value) (ls : List (List (BitVec 8))) (Hl : List (Nat × Obj)) (vp : Value) (ps : List WriteT) (Hp : List (Nat × Obj)) (w0 : World) (R : Rest) (hm0 : Mem w0 R ([(bd, .cells #[vl, vp] 94 (0, 0))] ++ (Hl ++ (Hp ++ ([]))))) (gl : GrowK (encA u8) 64 83 vl ls Hl) (gp : GrowK encW 65 104 vp ps Hp) (hat : ∀ i, i < ps.length → 0 ≤ (ps.getD i write0).at_ ∧ (ps.getD i write0).at_ < (ls.length : Int)) (hll : ls.length ≤ 65536) (hpl : ps.length ≤ 1048576) : CallsR Try.prog 46 #[(ptr bd 0)] w0 (fun r w1 => ∃ Hl2, r = .tuple #[] ∧ GrowK (encA u8) 64 83 vl (crashB ls ps [1#8]) Hl2 ∧ Mem w1 R ([(bd, .cells #[vl, (Value.slice none 0 0)] 94 (0, 0))] ++ (Hl2 ++ ([])))) := by
 refine callsR_of_cw (args := [(ptr bd 0)]) Try.func46 rfl Try.ntmps46 Try.results46 rfl <| cw_region <| rw_q rfl (ev_move (v := (ptr bd 0)) rfl) <| rw_c rfl (or_buildSlice_cl u8 [1#8] u8_one hm0 uT23 ti5 rfl rfl rfl) ?_
 rintro _ w1 ⟨b3, rfl, _ew1, hm1⟩
 have hF3 : Mem w1 R (([(bd, .cells #[vl, vp] 94 (0, 0))] ++ (Hl ++ (Hp ++ ([])))) ++ ([(b3, .cells (cl u8 ([1#8])) 5 (0, 0))])) := by
   have hT := (Mem.pick3 Hl Hp [_] [_] _ (Mem.pick2 Hp [_, _] Hl _ (Mem.pick2 [_, _] Hl Hp _ hm1)))
   try simp only [List.append_assoc, List.cons_append, List.nil_append, List.append_nil] at hT ⊢
   exact hT
 refine rw_c rfl (opR_call Try.func17 bd17 nm17 (args2 rfl rfl) (c_dcrash bd vl ls Hl vp ps Hp (slc b3 0 1 1) ([1#8]) _ _ (Mem.give hF3) gl gp (Rd.mkA (Mem.addOwn hF3 (List.Mem.head _))) hat sL sL sL)) ?_
 rintro _ w2 ⟨Hl2q4, rfl, gl2q4, k_w2⟩
 have hm2 : Mem w2 R ([(bd, .cells #[vl, (Value.slice none 0 0)] 94 (0, 0))] ++ (Hl2q4 ++ ([(b3, .cells (cl u8 ([1#8])) 5 (0, 0))]))) := (by
   have hT := Mem.back hF3 k_w2
   try simp only [List.append_assoc, List.cons_append, List.nil_append, List.append_nil] at hT ⊢
   exact hT)
 refine rw_nil <| fnPost_normal [] trivial ?_
 have hm5 := Mem.drop ([(b3, .cells (cl u8 ([1#8])) 5 (0, 0))]) _ (Mem.pick2 [_] Hl2q4 [_] _ hm2)
 exact ⟨Hl2q4, rfl, gl2q4, (by
   have hT := hm5
   try simp only [List.append_assoc, List.cons_append, List.nil_append, List.append_nil] at hT ⊢
   exact hT)⟩

set_option maxHeartbeats 2000000 in
theorem c_dsize (bd : Nat) (vl : Value) (ls : List (List (BitVec 8))) (vp : Value) (ps : List WriteT) (w0 : World)  (hd : blks w0 bd = some (.cells #[vl, vp] 94 (0, 0))) (hrl : RdK (blks w0) (encA u8) 64 vl ls) (hrp : RdK (blks w0) encW 65 vp ps) : CallsR Try.prog 49 #[(ptr bd 0)] w0 (fun r w1 => r = (i64 (ls.length : Int)) ∧ Ext w0 w1) := by
 refine callsR_of_cw (args := [(ptr bd 0)]) Try.func49 rfl Try.ntmps49 Try.results49 rfl ?_
 have hm0 : Mem w0 (restOf w0) [] := Mem.of_world w0
 refine sR <| rw_q rfl (ev_assign (v := (i64 0)) rfl) ?_
 refine rN (sR ?_)
 refine rw_q rfl (ev_move (v := (ptr bd 0)) rfl) <| rw_q rfl (ev_nilCheck rfl) <| rw_q rfl (ev_fa (r := 0) uT94 rfl (by first | rfl | omega) ti40 rfl rfl) <| rw_q (v := vl) rfl (ev_load1 uT40 rfl rfl (hm0.rest _ _ hd) rfl) <| rw_q (v := (i64 (ls.length : Int))) rfl (ev_len_rk (RdK.ofRest hrl hm0) uT40 rfl) <| rw_q rfl (ev_assign (v := (i64 (ls.length : Int))) rfl) ?_
 refine rN (cw_ret ?_)
 refine fnPost_ret [(i64 (ls.length : Int))] ⟨rfl, trivial⟩ ?_
 exact ⟨rfl, hm0.toExt⟩

set_option maxHeartbeats 2000000 in
theorem c_dpend (bd : Nat) (vl : Value) (ls : List (List (BitVec 8))) (vp : Value) (ps : List WriteT) (w0 : World)  (hd : blks w0 bd = some (.cells #[vl, vp] 94 (0, 0))) (hrl : RdK (blks w0) (encA u8) 64 vl ls) (hrp : RdK (blks w0) encW 65 vp ps) : CallsR Try.prog 29 #[(ptr bd 0)] w0 (fun r w1 => r = (i64 ((ps : List WriteT).length : Int)) ∧ Ext w0 w1) := by
 refine callsR_of_cw (args := [(ptr bd 0)]) Try.func29 rfl Try.ntmps29 Try.results29 rfl ?_
 have hm0 : Mem w0 (restOf w0) [] := Mem.of_world w0
 refine sR <| rw_q rfl (ev_assign (v := (i64 0)) rfl) ?_
 refine rN (sR ?_)
 refine rw_q rfl (ev_move (v := (ptr bd 0)) rfl) <| rw_q rfl (ev_nilCheck rfl) <| rw_q rfl (ev_fa (r := 1) uT94 rfl (by first | rfl | omega) ti92 rfl rfl) <| rw_q (v := vp) rfl (ev_load1 uT92 rfl rfl (hm0.rest _ _ hd) rfl) <| rw_q (v := (i64 (ps.length : Int))) rfl (ev_len_rk (RdK.ofRest hrp hm0) uT92 rfl) <| rw_q rfl (ev_assign (v := (i64 (ps.length : Int))) rfl) ?_
 refine rN (cw_ret ?_)
 refine fnPost_ret [(i64 (ps.length : Int))] ⟨rfl, trivial⟩ ?_
 exact ⟨rfl, hm0.toExt⟩


end Go.Proofs.Ytfbnhoolkajebaa
