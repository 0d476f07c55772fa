/- 'JournalLasts' returns true for every input, and each argument reads afterwards as it read before: the statement 'Rows.JournalLastsSaid'. Conditions: none beyond those that the statement itself states. -/
import Derived.Test.YtfbnhoolkajebaaRows
import Derived.Test.YtfbnhoolkajebaaJoD
namespace Go.Proofs.Ytfbnhoolkajebaa
open Go.ChangeShapes Go.WideShapes Go.ChangeAt Go.RowKit
open Go.ChangeMaps (open_string shut_string)
set_option linter.unusedVariables false
theorem own_JournalLasts : ownKnob Try.prog.godebug = none := by kernel_rfl
theorem laidOut_JournalLasts : laidOutB Try.prog = true := by kernel_rfl
set_option maxRecDepth 100000 in
theorem lifted_JournalLasts (os : Os) (started : os.Started) (H : Type) (enc : TypeId × Value → H) :
    ReturnsInHanded {} Try.checked os 3 .any (Rows.journalLastsSpec.pre6 enc Try.prog Try.f3 Rows.journalLastsRow.domain false) (Rows.journalLastsSpec.post enc Try.prog Try.f3 false true false false) := by
  refine returnsInHanded_of_change (C := Try.checked) own_JournalLasts started (by kernel_rfl) Try.func3
    (ChangeSpec.witness6 (enc := enc) (C := Try.checked) false ⟨#[], #[.int .i64 0, .slice none 0 0, .slice none 0 0], []⟩ 8 (by kernel_rfl) (by kernel_rfl) (by kernel_rfl) (by kernel_rfl)) ?_
  intro W base args ds gs before hval0 hW hcnd _
  have hval : ∀ (j : Nat) t v, Try.f3.params[j]? = some t → args[j]? = some v → Value.okWide Try.prog W .any base t v := hval0
  have hW' := hW
  obtain ⟨p, q, hA0, hV, rfl, hfz, hnd⟩ := hW
  have hA : DataW.TrodAll enc Try.prog W 0 (fun _ => true) true Try.f3.params.toList args.toList ds p := hA0
  rw [Try.params3] at hA hval
  obtain ⟨v0, vs0, d0, ds0, p0, q0, hargs, rfl, rfl, h0, r0⟩ := trodAll_cons hA
  obtain ⟨v1, vs1, d1, ds1, p1, q1, rfl, rfl, rfl, h1, r1⟩ := trodAll_cons r0
  obtain ⟨v2, vs2, d2, ds2, p2, q2, rfl, rfl, rfl, h2, r2⟩ := trodAll_cons r1
  obtain ⟨rfl, rfl, rfl⟩ := trodAll_nil r2
  obtain rfl : args = #[v0, v1, v2] := by cases args; simp_all
  obtain ⟨rfl, rfl⟩ := trodVars_none hV
  have k0 := h0
  have lt0 : ∀ x ∈ p0, x.block < W.heap.size := by obtain ⟨m, hm⟩ := k0; exact DataW.trod_lt m _ _ _ hm
  obtain ⟨a0, rfl, lo0, hi0⟩ := arg_i64 Try.underlying3 (hval 0 3 v0 rfl rfl) h0
  have k1 := h1
  have lt1 : ∀ x ∈ p1, x.block < W.heap.size := by obtain ⟨m, hm⟩ := k1; exact DataW.trod_lt m _ _ _ hm
  obtain ⟨l1, hr1, hs1, hl1⟩ := arg_slq (f := slv) (q := (fun w (a : SlT) => Rd (blks w) u8 (slv a) a.2 ∧ a.2.length ≤ 9223372036854775807)) Try.underlying22 (opens_slq (f := slv) (q := (fun w (a : SlT) => Rd (blks w) u8 (slv a) a.2 ∧ a.2.length ≤ 9223372036854775807)) Try.underlying22 (by kernel_rfl) (opens_sls Try.underlying23 (by kernel_rfl) (opens_u8 Try.underlying5))) (hval 1 22 v1 rfl rfl) h1
  have k2 := h2
  have lt2 : ∀ x ∈ p2, x.block < W.heap.size := by obtain ⟨m, hm⟩ := k2; exact DataW.trod_lt m _ _ _ hm
  obtain ⟨l2, hr2, hl2⟩ := arg_sl Try.underlying23 (opens_sl1 (f := u8) Try.underlying23 (by kernel_rfl) (opens_u8 Try.underlying5)) (hval 2 23 v2 rfl rfl) h2
  clear hA0 hval0
  refine Calls.mono (law_lasts a0 v1 l1 v2 l2 W ⟨lo0, hi0⟩ ⟨hr1, fun p hp => (hs1 p hp).1⟩ (fun p hp => (hs1 p hp).2) hl1 hr2 hl2) fun e W' ⟨v, he, hv, bel⟩ => ?_
  subst he
  subst hv
  exact ⟨_, rfl, _, _, _, [], _, [], hW', trodAll_mk1 (shut_bool Try.underlying4 _), (trodAll_cons_mk (Below.trod laidOut_JournalLasts (by kernel_rfl) (of_decide_eq_true (by kernel_rfl)) k0 bel lt0) (trodAll_cons_mk (Below.trod laidOut_JournalLasts (by kernel_rfl) (of_decide_eq_true (by kernel_rfl)) k1 bel lt1) (trodAll_cons_mk (Below.trod laidOut_JournalLasts (by kernel_rfl) (of_decide_eq_true (by kernel_rfl)) k2 bel lt2) trodAll_mk0))), rfl, bel.frame _, fun h => by cases h⟩
theorem over_JournalLasts : Rows.journalLastsRow.holds Try.pinned (OpenSpec.ofChange Rows.journalLastsSpec) :=
  OpenClaim.holds_of_wide 3 Try.f3 rfl rfl rfl rfl rfl rfl rfl ⟨rfl, rfl, rfl, rfl, rfl⟩ rfl rfl rfl rfl rfl (by kernel_rfl) Try.func3 (by kernel_rfl)
    (of_decide_eq_true (by kernel_rfl)) (by unfold Func.isWrapper; first | (rw [if_pos (by decide +kernel)]; kernel_rfl) | (rw [if_neg (by decide +kernel)]; exact ⟨rfl, rfl⟩))
    (fun os started H enc _ => lifted_JournalLasts os started H enc)
/-- The statement. -/
theorem journalLasts_holds : Rows.JournalLastsSaid := over_JournalLasts
#print axioms journalLasts_holds
end Go.Proofs.Ytfbnhoolkajebaa
