/- Contract of the disk: sync. Conditions: none beyond those that each theorem states. -/
import Derived.Test.YtfmjfojhcmmgcaaDk4
namespace Go.Proofs.Ytfmjfojhcmmgcaa
set_option linter.unusedVariables false
set_option linter.unusedSimpArgs false
attribute [local irreducible] crashB crashK pushB readB inB errB cutN seenW

theorem c_dsync (bd : Nat) (vl : Value) (ls : List (List (BitVec 8))) (Hl : List (Nat × Obj)) (vp : Value) (ps : List WriteT) (Hp : List (Nat × Obj)) (w0 : World) (R : Rest) (hm0 : Mem w0 R ([(bd, .cells #[vl, vp] 88 (0, 0))] ++ (Hl ++ (Hp ++ ([]))))) (gl : GrowK (encA u8) 64 43 vl ls Hl) (gp : GrowK encW 65 91 vp ps Hp) (hat : ∀ i, i < ps.length → 0 ≤ (ps.getD i write0).at_ ∧ (ps.getD i write0).at_ < (ls.length : Int)) (hll : ls.length ≤ 65536) (hpl : ps.length ≤ 1048576) : CallsR Try.prog 26 #[(ptr bd 0)] w0 (fun r w1 => ∃ Hl2, r = .tuple #[] ∧ GrowK (encA u8) 64 43 vl (crashB ls ps [1#8]) Hl2 ∧ Mem w1 R ([(bd, .cells #[vl, (Value.slice none 0 0)] 88 (0, 0))] ++ (Hl2 ++ ([])))) := by
 refine callsR_of_cw (args := [(ptr bd 0)]) Try.func26 rfl Try.ntmps26 Try.results26 rfl <| cw_region <| rw_q rfl (ev_move (v := (ptr bd 0)) rfl) <| rw_c rfl (or_buildSlice_cl u8 [1#8] u8_one hm0 uT24 ti5 rfl rfl rfl) ?_
 rintro _ w1 ⟨b3, rfl, _ew1, hm1⟩
 have hF3 : Mem w1 R (([(bd, .cells #[vl, vp] 88 (0, 0))] ++ (Hl ++ (Hp ++ ([])))) ++ ([(b3, .cells (cl u8 ([1#8])) 5 (0, 0))])) := by
   have hT := (Mem.pick3 Hl Hp [_] [_] _ (Mem.pick2 Hp [_, _] Hl _ (Mem.pick2 [_, _] Hl Hp _ hm1)))
   simp only [List.append_assoc, List.cons_append, List.nil_append, List.append_nil] at hT ⊢
   exact hT
 refine rw_c rfl (opR_call Try.func27 bd27 nm27 (args2 rfl rfl) (c_dcrash bd vl ls Hl vp ps Hp (slc b3 0 1 1) ([1#8]) _ _ (Mem.give hF3) gl gp (Rd.mkA (Mem.addOwn hF3 (List.Mem.head _))) hat sL sL sL)) ?_
 rintro _ w2 ⟨Hl2q4, rfl, gl2q4, k_w2⟩
 have hm2 : Mem w2 R ([(bd, .cells #[vl, (Value.slice none 0 0)] 88 (0, 0))] ++ (Hl2q4 ++ ([(b3, .cells (cl u8 ([1#8])) 5 (0, 0))]))) := (by
   have hT := Mem.back hF3 k_w2
   simp only [List.append_assoc, List.cons_append, List.nil_append, List.append_nil] at hT ⊢
   exact hT)
 refine rw_nil <| fnPost_normal [] trivial ?_
 have hm5 := Mem.drop ([(b3, .cells (cl u8 ([1#8])) 5 (0, 0))]) _ (Mem.pick2 [_] Hl2q4 [_] _ hm2)
 exact ⟨Hl2q4, rfl, gl2q4, (by
   have hT := hm5
   simp only [List.append_assoc, List.cons_append, List.nil_append, List.append_nil] at hT ⊢
   exact hT)⟩


end Go.Proofs.Ytfmjfojhcmmgcaa
