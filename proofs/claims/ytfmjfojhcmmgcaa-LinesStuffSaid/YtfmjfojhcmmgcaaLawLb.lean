/- 'LinesStuff' returns true for every input, and each argument reads afterwards as it read before: the statement 'Rows.LinesStuffSaid'. Conditions: none beyond those that the statement itself states. -/
import Derived.Test.YtfmjfojhcmmgcaaRows
import Derived.HandedShaped
import Derived.Test.YtfmjfojhcmmgcaaLn5
namespace Go.Proofs.Ytfmjfojhcmmgcaa
open Go.ChangeShapes Go.WideShapes Go.ChangeAt Go.RowKit
open Go.ChangeMaps (open_string shut_string)
set_option linter.unusedVariables false
theorem own_LinesStuff : ownKnob Try.prog.godebug = none := by kernel_rfl
theorem laidOut_LinesStuff : laidOutB Try.prog = true := by kernel_rfl
set_option maxRecDepth 100000 in
theorem lifted_LinesStuff (os : Os) (started : os.Started) (H : Type) (enc : TypeId × Value → H) :
    ReturnsInHanded {} Try.checked os 12 .any (Rows.linesStuffSpec.pre6 enc Try.prog Try.f12 Rows.linesStuffRow.domain false) (Rows.linesStuffSpec.post enc Try.prog Try.f12 false true false false) := by
  refine returnsInHanded_of_change_shaped (C := Try.checked) own_LinesStuff started (by kernel_rfl) Try.func12
    (ChangeSpec.witness6 (enc := enc) (C := Try.checked) false ⟨#[], #[.slice none 0 0], []⟩ 8 (by kernel_rfl) (by kernel_rfl) (by kernel_rfl) (by kernel_rfl)) ?_
  intro W base args ds gs before hval0 hW hcnd _ hsh _
  have hT := maxlen_of hsh
  have hval : ∀ (j : Nat) t v, Try.f12.params[j]? = some t → args[j]? = some v → Value.okWide Try.prog W .any base t v := hval0
  have hW' := hW
  obtain ⟨p, q, hA0, hV, rfl, hfz, hnd⟩ := hW
  have hA : DataW.TrodAll enc Try.prog W 0 (fun _ => true) true Try.f12.params.toList args.toList ds p := hA0
  rw [Try.params12] at hA hval
  obtain ⟨v0, vs0, d0, ds0, p0, q0, hargs, rfl, rfl, h0, r0⟩ := trodAll_cons hA
  obtain ⟨rfl, rfl, rfl⟩ := trodAll_nil r0
  obtain rfl : args = #[v0] := by cases args; simp_all
  obtain ⟨rfl, rfl⟩ := trodVars_none hV
  have k0 := h0
  have lt0 : ∀ x ∈ p0, x.block < W.heap.size := by obtain ⟨m, hm⟩ := k0; exact DataW.trod_lt m _ _ _ hm
  obtain ⟨l0, hr0, hl0⟩ := arg_sl Try.underlying24 (opens_sl1 (f := u8) Try.underlying24 (by kernel_rfl) (opens_u8 Try.underlying5)) (hval 0 24 v0 rfl rfl) h0
  clear hA0 hval0
  refine Calls.mono (law_lstuff v0 l0 W hT hr0 hl0 (arg_cap Try.underlying24 (hval 0 24 v0 rfl rfl) h0)) fun e W' ⟨v, he, hv, bel⟩ => ?_
  subst he
  subst hv
  exact ⟨_, rfl, _, _, _, [], _, [], hW', trodAll_mk1 (shut_bool Try.underlying4 _), (trodAll_cons_mk (Below.trod laidOut_LinesStuff (by kernel_rfl) (of_decide_eq_true (by kernel_rfl)) k0 bel lt0) trodAll_mk0), rfl, bel.frame _, fun h => by cases h⟩
theorem over_LinesStuff : Rows.linesStuffRow.holds Try.pinned (OpenSpec.ofChange Rows.linesStuffSpec) :=
  OpenClaim.holds_of_wide 12 Try.f12 rfl rfl rfl rfl rfl rfl rfl ⟨rfl, rfl, rfl, rfl, rfl⟩ rfl rfl rfl rfl rfl (by kernel_rfl) Try.func12 (by kernel_rfl)
    (of_decide_eq_true (by kernel_rfl)) (by unfold Func.isWrapper; first | (rw [if_pos (by decide +kernel)]; kernel_rfl) | (rw [if_neg (by decide +kernel)]; exact ⟨rfl, rfl⟩))
    (fun os started H enc _ => lifted_LinesStuff os started H enc)
/-- The statement. -/
theorem linesStuff_holds : Rows.LinesStuffSaid := over_LinesStuff
#print axioms linesStuff_holds
end Go.Proofs.Ytfmjfojhcmmgcaa
