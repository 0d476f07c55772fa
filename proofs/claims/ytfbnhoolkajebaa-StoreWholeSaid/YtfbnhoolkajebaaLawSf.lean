/- 'StoreWhole' returns true for every input, and each argument reads afterwards as it read before: the statement 'Rows.StoreWholeSaid'. Conditions: none beyond those that the statement itself states. -/
import Derived.Test.YtfbnhoolkajebaaRows
import Derived.Test.YtfbnhoolkajebaaSoQ
namespace Go.Proofs.Ytfbnhoolkajebaa
open Go.ChangeShapes Go.WideShapes Go.ChangeAt Go.RowKit
open Go.ChangeMaps (open_string shut_string)
set_option linter.unusedVariables false
theorem own_StoreWhole : ownKnob Try.prog.godebug = none := by kernel_rfl
theorem laidOut_StoreWhole : laidOutB Try.prog = true := by kernel_rfl
set_option maxRecDepth 100000 in
theorem lifted_StoreWhole (os : Os) (started : os.Started) (H : Type) (enc : TypeId × Value → H) :
    ReturnsInHanded {} Try.checked os 11 .any (Rows.storeWholeSpec.pre6 enc Try.prog Try.f11 Rows.storeWholeRow.domain false) (Rows.storeWholeSpec.post enc Try.prog Try.f11 false true false false) := by
  refine returnsInHanded_of_change (C := Try.checked) own_StoreWhole started (by kernel_rfl) Try.func11
    (ChangeSpec.witness6 (enc := enc) (C := Try.checked) false ⟨#[], #[.int .i64 0, .slice none 0 0, .slice none 0 0, .slice none 0 0], []⟩ 8 (by kernel_rfl) (by kernel_rfl) (by kernel_rfl) (by kernel_rfl)) ?_
  intro W base args ds gs before hval0 hW hcnd _
  have hval : ∀ (j : Nat) t v, Try.f11.params[j]? = some t → args[j]? = some v → Value.okWide Try.prog W .any base t v := hval0
  have hW' := hW
  obtain ⟨p, q, hA0, hV, rfl, hfz, hnd⟩ := hW
  have hA : DataW.TrodAll enc Try.prog W 0 (fun _ => true) true Try.f11.params.toList args.toList ds p := hA0
  rw [Try.params11] at hA hval
  obtain ⟨v0, vs0, d0, ds0, p0, q0, hargs, rfl, rfl, h0, r0⟩ := trodAll_cons hA
  obtain ⟨v1, vs1, d1, ds1, p1, q1, rfl, rfl, rfl, h1, r1⟩ := trodAll_cons r0
  obtain ⟨v2, vs2, d2, ds2, p2, q2, rfl, rfl, rfl, h2, r2⟩ := trodAll_cons r1
  obtain ⟨v3, vs3, d3, ds3, p3, q3, rfl, rfl, rfl, h3, r3⟩ := trodAll_cons r2
  obtain ⟨rfl, rfl, rfl⟩ := trodAll_nil r3
  obtain rfl : args = #[v0, v1, v2, v3] := by cases args; simp_all
  obtain ⟨rfl, rfl⟩ := trodVars_none hV
  have k0 := h0
  have lt0 : ∀ x ∈ p0, x.block < W.heap.size := by obtain ⟨m, hm⟩ := k0; exact DataW.trod_lt m _ _ _ hm
  obtain ⟨a0, rfl, lo0, hi0⟩ := arg_i64 Try.underlying3 (hval 0 3 v0 rfl rfl) h0
  have k1 := h1
  have lt1 : ∀ x ∈ p1, x.block < W.heap.size := by obtain ⟨m, hm⟩ := k1; exact DataW.trod_lt m _ _ _ hm
  obtain ⟨l1, hr1, hq1, hl1⟩ := arg_slK (enc := encPL) (k := 1) (q := (fun w (a : PLT) => PlR (blks w) a ∧ PlB a)) Try.underlying68 (opens_slK (enc := encPL) (q := (fun w (a : PLT) => PlR (blks w) a ∧ PlB a)) rfl Try.underlying68 (by kernel_rfl) (opens_pl Try.underlying55 (by kernel_rfl) opens_apair)) (hval 1 68 v1 rfl rfl) h1
  have k2 := h2
  have lt2 : ∀ x ∈ p2, x.block < W.heap.size := by obtain ⟨m, hm⟩ := k2; exact DataW.trod_lt m _ _ _ hm
  obtain ⟨l2, hr2, hq2, hl2⟩ := arg_slK (enc := encP) (k := 3) (q := (fun w (a : PairT) => Rd (blks w) u8 (slv a.val) a.val.2 ∧ (a.key.size ≤ 9223372036854775807 ∧ a.val.2.length ≤ 9223372036854775807))) Try.underlying55 (opens_slK (enc := encP) (q := (fun w (a : PairT) => Rd (blks w) u8 (slv a.val) a.val.2 ∧ (a.key.size ≤ 9223372036854775807 ∧ a.val.2.length ≤ 9223372036854775807))) rfl Try.underlying55 (by kernel_rfl) opens_apair) (hval 2 55 v2 rfl rfl) h2
  have k3 := h3
  have lt3 : ∀ x ∈ p3, x.block < W.heap.size := by obtain ⟨m, hm⟩ := k3; exact DataW.trod_lt m _ _ _ hm
  obtain ⟨l3, hr3, hl3⟩ := arg_sl Try.underlying23 (opens_sl1 (f := u8) Try.underlying23 (by kernel_rfl) (opens_u8 Try.underlying5)) (hval 3 23 v3 rfl rfl) h3
  clear hA0 hval0
  refine Calls.mono (law_swhole a0 v1 l1 v2 l2 v3 l3 W ⟨lo0, hi0⟩ hr1 (fun a ha => (hq1 a ha).1) (fun a ha => (hq1 a ha).2) hl1 hr2 (fun a ha => (hq2 a ha).1) (fun a ha => (hq2 a ha).2) hl2 hr3 hl3) fun e W' ⟨v, he, hv, bel⟩ => ?_
  subst he
  subst hv
  exact ⟨_, rfl, _, _, _, [], _, [], hW', trodAll_mk1 (shut_bool Try.underlying4 _), (trodAll_cons_mk (Below.trod laidOut_StoreWhole (by kernel_rfl) (of_decide_eq_true (by kernel_rfl)) k0 bel lt0) (trodAll_cons_mk (Below.trod laidOut_StoreWhole (by kernel_rfl) (of_decide_eq_true (by kernel_rfl)) k1 bel lt1) (trodAll_cons_mk (Below.trod laidOut_StoreWhole (by kernel_rfl) (of_decide_eq_true (by kernel_rfl)) k2 bel lt2) (trodAll_cons_mk (Below.trod laidOut_StoreWhole (by kernel_rfl) (of_decide_eq_true (by kernel_rfl)) k3 bel lt3) trodAll_mk0)))), rfl, bel.frame _, fun h => by cases h⟩
theorem over_StoreWhole : Rows.storeWholeRow.holds Try.pinned (OpenSpec.ofChange Rows.storeWholeSpec) :=
  OpenClaim.holds_of_wide 11 Try.f11 rfl rfl rfl rfl rfl rfl rfl ⟨rfl, rfl, rfl, rfl, rfl⟩ rfl rfl rfl rfl rfl (by kernel_rfl) Try.func11 (by kernel_rfl)
    (of_decide_eq_true (by kernel_rfl)) (by unfold Func.isWrapper; first | (rw [if_pos (by decide +kernel)]; kernel_rfl) | (rw [if_neg (by decide +kernel)]; exact ⟨rfl, rfl⟩))
    (fun os started H enc _ => lifted_StoreWhole os started H enc)
/-- The statement. -/
theorem storeWhole_holds : Rows.StoreWholeSaid := over_StoreWhole
#print axioms storeWhole_holds
end Go.Proofs.Ytfbnhoolkajebaa
