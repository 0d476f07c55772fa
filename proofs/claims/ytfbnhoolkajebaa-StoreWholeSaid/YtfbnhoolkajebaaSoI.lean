/- The law of the last values: plain law, and its walk. Conditions: none beyond those that each theorem states. -/
import Derived.Test.YtfbnhoolkajebaaSoG
namespace Go.Proofs.Ytfbnhoolkajebaa
section
set_option linter.unusedVariables false
set_option linter.unusedSimpArgs false
theorem encK_le {L : List PairT} (h : ∀ i, i < L.length → (L.getD i pair0).key.size ≤ 1100 ∧ (L.getD i pair0).val.2.length ≤ 2000) : ∀ k, k ≤ L.length → (encK L k).length ≤ 3107 * k
  | 0, _ => Nat.le_refl _
  | k + 1, hk => by
    have h1 := encK_le h k oM
    have h2 := h k oM
    have h3 := recP_len (g := (L.getD k pair0).gone) (k := (L.getD k pair0).key) (v := (L.getD k pair0).val.2)
    rw [← encK_S, List.length_append, h3]
    omega
theorem great_len {L : List PairT} (h : L.length ≤ 20 ∧ ∀ i, i < L.length → (L.getD i pair0).key.size ≤ 1100 ∧ (L.getD i pair0).val.2.length ≤ 2000) : (encK L L.length).length ≤ 62140 ∧ (encV L).length ≤ 62140 := by
  have h1 := encK_le h.2 L.length (Nat.le_refl _)
  have h2 := h.1
  refine ⟨by omega, ?_⟩
  unfold encV
  split
  · omega
  · show (0 : Nat) ≤ _; omega
theorem opens_apair : Opens Try.prog 79 (fun w cs => ∃ a : PairT, cs = encP a ∧ (encP a).length = 3 ∧ (Rd (blks w) u8 (slv a.val) a.val.2 ∧ (a.key.size ≤ 9223372036854775807 ∧ a.val.2.length ≤ 9223372036854775807))) :=
  (opens_sx3 (k0 := 1) (k1 := 1) (k2 := 1) uT79 (by kernel_rfl) rfl ⟨rfl, rfl, rfl⟩ ⟨by kernel_rfl, by kernel_rfl, by kernel_rfl⟩ (opens_str uT9) (opens_bytes1 uT23 (by kernel_rfl) (opens_u8 uT5)) (opens_bool uT4)).mono
    (by rintro w cs ⟨c0, c1, c2, rfl, ⟨s0, rfl, hs⟩, ⟨v, rfl, s, rfl, h1, h2⟩, ⟨g, rfl⟩⟩; exact ⟨⟨s0, s, g⟩, by simp [encP], by simp [encP], h1, hs, h2⟩)
attribute [local irreducible] crashB crashK pushB readB inB errB cutN seenW
attribute [local irreducible] markB putB getB getK partB placeF blkOf rawB writeK blocksN
attribute [local irreducible] mostK newB roomB
attribute [local irreducible] recB recF recN genF badB lastP dataB gOf rOf pOf nOf loopH readH
attribute [local irreducible] okP layK turnL turnP oldB
attribute [local irreducible] openD
attribute [local irreducible] natB tkN tkOk kN vN_ oneOk oneR decF decP decV decE rightB encK recP num2 num4 allR goneB encV encE encL encS doO openK openS okS doK commitF lkA keysB
end --m
section
set_option linter.unusedVariables false
set_option linter.unusedSimpArgs false
/-! One key, put again and again, beside another one. -/
attribute [local irreducible] crashB crashK pushB readB inB errB cutN seenW
attribute [local irreducible] markB putB getB getK partB placeF blkOf rawB writeK blocksN
attribute [local irreducible] mostK newB roomB
attribute [local irreducible] recB recF recN genF badB lastP dataB gOf rOf pOf nOf loopH readH
attribute [local irreducible] okP layK turnL turnP oldB
attribute [local irreducible] openD
attribute [local irreducible] natB tkN tkOk kN vN_ oneOk oneR decF decP decV decE rightB encK recP num2 num4 allR goneB encV encE encL encS doO openK openS okS doK commitF lkA keysB
end --m
end Go.Proofs.Ytfbnhoolkajebaa
