/- 'StreamQuarters' returns true for every input, and each argument reads afterwards as it read before: the statement 'Rows.StreamQuartersSaid'. Conditions: none beyond those that the statement itself states. -/
import Derived.Test.YtehkomhnmipnbaaRows
import Derived.Test.YtehkomhnmipnbaaSt7
namespace Go.Proofs.Ytehkomhnmipnbaa
open Go.ChangeShapes Go.WideShapes Go.ChangeAt Go.RowKit
open Go.ChangeMaps (open_string shut_string)
set_option linter.unusedVariables false
theorem own_StreamQuarters : ownKnob Try.prog.godebug = none := by kernel_rfl
theorem laidOut_StreamQuarters : laidOutB Try.prog = true := by kernel_rfl
set_option maxRecDepth 100000 in
theorem lifted_StreamQuarters (os : Os) (started : os.Started) (H : Type) (enc : TypeId × Value → H) :
    ReturnsInHanded {} Try.checked os 3 .any (Rows.streamQuartersSpec.pre6 enc Try.prog Try.f3 Rows.streamQuartersRow.domain false) (Rows.streamQuartersSpec.post enc Try.prog Try.f3 false true false false) := by
  refine returnsInHanded_of_change (C := Try.checked) own_StreamQuarters started (by kernel_rfl) Try.func3
    (ChangeSpec.witness6 (enc := enc) (C := Try.checked) false ⟨#[], #[.agg #[.int .u32 0, .int .u32 0, .int .u32 0, .int .u32 0], .agg #[.int .u32 0, .int .u32 0, .int .u32 0, .int .u32 0]], []⟩ 8 (by kernel_rfl) (by kernel_rfl) (by kernel_rfl) (by kernel_rfl)) ?_
  intro W base args ds gs before hval0 hW hcnd _
  have hval : ∀ (j : Nat) t v, Try.f3.params[j]? = some t → args[j]? = some v → Value.okWide Try.prog W .any base t v := hval0
  have hW' := hW
  obtain ⟨p, q, hA0, hV, rfl, hfz, hnd⟩ := hW
  have hA : DataW.TrodAll enc Try.prog W 0 (fun _ => true) true Try.f3.params.toList args.toList ds p := hA0
  rw [Try.params3] at hA hval
  obtain ⟨v0, vs0, d0, ds0, p0, q0, hargs, rfl, rfl, h0, r0⟩ := trodAll_cons hA
  obtain ⟨v1, vs1, d1, ds1, p1, q1, rfl, rfl, rfl, h1, r1⟩ := trodAll_cons r0
  obtain ⟨rfl, rfl, rfl⟩ := trodAll_nil r1
  obtain rfl : args = #[v0, v1] := by cases args; simp_all
  obtain ⟨rfl, rfl⟩ := trodVars_none hV
  have k0 := h0
  have lt0 : ∀ x ∈ p0, x.block < W.heap.size := by obtain ⟨m, hm⟩ := k0; exact DataW.trod_lt m _ _ _ hm
  obtain ⟨l0, rfl, hl0⟩ := arg_arr Try.underlying23 (opens_arr1 (f := u32) Try.underlying23 (by kernel_rfl) (by kernel_rfl) (opens_u32 Try.underlying22)) (hval 0 23 v0 rfl rfl) h0
  obtain ⟨a0, b0, c0, e0, rfl⟩ := list4 l0 hl0
  have k1 := h1
  have lt1 : ∀ x ∈ p1, x.block < W.heap.size := by obtain ⟨m, hm⟩ := k1; exact DataW.trod_lt m _ _ _ hm
  obtain ⟨l1, rfl, hl1⟩ := arg_arr Try.underlying23 (opens_arr1 (f := u32) Try.underlying23 (by kernel_rfl) (by kernel_rfl) (opens_u32 Try.underlying22)) (hval 1 23 v1 rfl rfl) h1
  obtain ⟨a1, b1, c1, e1, rfl⟩ := list4 l1 hl1
  clear hA0 hval0
  refine Calls.mono (law_quarters a0 b0 c0 e0 a1 b1 c1 e1 W ) fun e W' ⟨v, he, hv, bel⟩ => ?_
  subst he
  subst hv
  exact ⟨_, rfl, _, _, _, [], _, [], hW', trodAll_mk1 (shut_bool Try.underlying4 _), (trodAll_cons_mk (Below.trod laidOut_StreamQuarters (by kernel_rfl) (of_decide_eq_true (by kernel_rfl)) k0 bel lt0) (trodAll_cons_mk (Below.trod laidOut_StreamQuarters (by kernel_rfl) (of_decide_eq_true (by kernel_rfl)) k1 bel lt1) trodAll_mk0)), rfl, bel.frame _, fun h => by cases h⟩
theorem over_StreamQuarters : Rows.streamQuartersRow.holds Try.pinned (OpenSpec.ofChange Rows.streamQuartersSpec) :=
  OpenClaim.holds_of_wide 3 Try.f3 rfl rfl rfl rfl rfl rfl rfl ⟨rfl, rfl, rfl, rfl, rfl⟩ rfl rfl rfl rfl rfl (by kernel_rfl) Try.func3 (by kernel_rfl)
    (of_decide_eq_true (by kernel_rfl)) (by unfold Func.isWrapper; first | (rw [if_pos (by decide +kernel)]; kernel_rfl) | (rw [if_neg (by decide +kernel)]; exact ⟨rfl, rfl⟩))
    (fun os started H enc _ => lifted_StreamQuarters os started H enc)
/-- The statement. -/
theorem streamQuarters_holds : Rows.StreamQuartersSaid := over_StreamQuarters
#print axioms streamQuarters_holds
end Go.Proofs.Ytehkomhnmipnbaa
