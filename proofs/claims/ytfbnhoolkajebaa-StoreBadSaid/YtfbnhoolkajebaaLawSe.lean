/- 'StoreBad' returns true for every input, and each argument reads afterwards as it read before: the statement 'Rows.StoreBadSaid'. Conditions: none beyond those that the statement itself states. -/
import Derived.Test.YtfbnhoolkajebaaRows
import Derived.Test.YtfbnhoolkajebaaSoO
namespace Go.Proofs.Ytfbnhoolkajebaa
open Go.ChangeShapes Go.WideShapes Go.ChangeAt Go.RowKit
open Go.ChangeMaps (open_string shut_string)
set_option linter.unusedVariables false
theorem own_StoreBad : ownKnob Try.prog.godebug = none := by kernel_rfl
theorem laidOut_StoreBad : laidOutB Try.prog = true := by kernel_rfl
set_option maxRecDepth 100000 in
theorem lifted_StoreBad (os : Os) (started : os.Started) (H : Type) (enc : TypeId × Value → H) :
    ReturnsInHanded {} Try.checked os 8 .any (Rows.storeBadSpec.pre6 enc Try.prog Try.f8 Rows.storeBadRow.domain false) (Rows.storeBadSpec.post enc Try.prog Try.f8 false true false false) := by
  refine returnsInHanded_of_change_sized (C := Try.checked) own_StoreBad started (by kernel_rfl) Try.func8
    (ChangeSpec.witness6 (enc := enc) (C := Try.checked) false ⟨#[], #[.slice none 0 0], []⟩ 8 (by kernel_rfl) (by kernel_rfl) (by kernel_rfl) (by kernel_rfl)) ?_
  intro W base args ds gs before hval0 hW hcnd hwt _
  have hval : ∀ (j : Nat) t v, Try.f8.params[j]? = some t → args[j]? = some v → Value.okWide Try.prog W .any base t v := hval0
  have hW' := hW
  obtain ⟨p, q, hA0, hV, rfl, hfz, hnd⟩ := hW
  have hA : DataW.TrodAll enc Try.prog W 0 (fun _ => true) true Try.f8.params.toList args.toList ds p := hA0
  rw [Try.params8] at hA hval
  obtain ⟨v0, vs0, d0, ds0, p0, q0, hargs, rfl, rfl, h0, r0⟩ := trodAll_cons hA
  obtain ⟨rfl, rfl, rfl⟩ := trodAll_nil r0
  obtain rfl : args = #[v0] := by cases args; simp_all
  obtain ⟨rfl, rfl⟩ := trodVars_none hV
  have k0 := h0
  have lt0 : ∀ x ∈ p0, x.block < W.heap.size := by obtain ⟨m, hm⟩ := k0; exact DataW.trod_lt m _ _ _ hm
  obtain ⟨l0, hr0, hs0, hl0⟩ := arg_slq (f := slv) (q := (fun w (a : SlT) => Rd (blks w) u8 (slv a) a.2 ∧ a.2.length ≤ 9223372036854775807)) Try.underlying22 (opens_slq (f := slv) (q := (fun w (a : SlT) => Rd (blks w) u8 (slv a) a.2 ∧ a.2.length ≤ 9223372036854775807)) Try.underlying22 (by kernel_rfl) (opens_sls Try.underlying23 (by kernel_rfl) (opens_u8 Try.underlying5))) (hval 0 22 v0 rfl rfl) h0
  clear hA0 hval0
  refine Calls.mono (law_sbad v0 l0 W ⟨hr0, fun p hp => (hs0 p hp).1⟩ (lens_sized Try.underlying22 Try.underlying23 (by kernel_rfl) (by kernel_rfl) hr0 (fun p hp => (hs0 p hp).1) k0 (fun n hn => by simpa using List.all_eq_true.1 hwt n (DataW.weights_mem_each (j := 0) rfl rfl n hn))) hl0) fun e W' ⟨v, he, hv, bel⟩ => ?_
  subst he
  subst hv
  exact ⟨_, rfl, _, _, _, [], _, [], hW', trodAll_mk1 (shut_bool Try.underlying4 _), (trodAll_cons_mk (Below.trod laidOut_StoreBad (by kernel_rfl) (of_decide_eq_true (by kernel_rfl)) k0 bel lt0) trodAll_mk0), rfl, bel.frame _, fun h => by cases h⟩
theorem over_StoreBad : Rows.storeBadRow.holds Try.pinned (OpenSpec.ofChange Rows.storeBadSpec) :=
  OpenClaim.holds_of_wide 8 Try.f8 rfl rfl rfl rfl rfl rfl rfl ⟨rfl, rfl, rfl, rfl, rfl⟩ rfl rfl rfl rfl rfl (by kernel_rfl) Try.func8 (by kernel_rfl)
    (of_decide_eq_true (by kernel_rfl)) (by unfold Func.isWrapper; first | (rw [if_pos (by decide +kernel)]; kernel_rfl) | (rw [if_neg (by decide +kernel)]; exact ⟨rfl, rfl⟩))
    (fun os started H enc _ => lifted_StoreBad os started H enc)
/-- The statement. -/
theorem storeBad_holds : Rows.StoreBadSaid := over_StoreBad
#print axioms storeBad_holds
end Go.Proofs.Ytfbnhoolkajebaa
