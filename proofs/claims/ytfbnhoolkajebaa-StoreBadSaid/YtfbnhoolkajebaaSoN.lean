/- The law of all calls: its walk. Conditions: none beyond those that each theorem states. -/
import Derived.Test.YtfbnhoolkajebaaSoJ
namespace Go.Proofs.Ytfbnhoolkajebaa
section
set_option linter.unusedVariables false
set_option linter.unusedSimpArgs false
/-! Rows of pairs, one behind the other. -/
abbrev PLT := (Option Addr × Nat × Nat) × List PairT
def plv (t : PLT) : Value := .slice t.1.1 t.1.2.1 t.1.2.2
/-- What a row of rows stands on. -/
def PlR (m : Nat → Option Obj) (a : PLT) : Prop := RdK m encP 3 (plv a) a.2 ∧ (∀ p ∈ a.2, Rd m u8 (slv p.val) p.val.2)
theorem PlR.mono {m m' : Nat → Option Obj} {a : PLT} (h : PlR m a) (hm : ∀ b o, m b = some o → m' b = some o) : PlR m' a := ⟨h.1.mono hm, fun p hp => (h.2 p hp).mono hm⟩
/-- What isn't great. -/
def SmallL (l : List PairT) : Prop := l.length ≤ 20 ∧ ∀ i, i < l.length → (l.getD i pair0).key.size ≤ 1100 ∧ (l.getD i pair0).val.2.length ≤ 2000
/-- Not more than so many keys, none great. -/
def BndK (n : Nat) (S : List KV) : Prop := S.length ≤ n ∧ ∀ p ∈ S, p.1.size ≤ 1100 ∧ p.2.length ≤ 2000
theorem insK_len (S : List KV) (k : ByteArray) (v : List (BitVec 8)) : (insK S k v).length ≤ S.length + 1 := by
  induction S with
  | nil => exact Nat.le_refl _
  | cons p S ih =>
    obtain ⟨a, b⟩ := p
    unfold insK
    split
    · simp only [List.length_cons]; omega
    · split
      · simp only [List.length_cons]; omega
      · simp only [List.length_cons]; omega
theorem delK_len (S : List KV) (k : ByteArray) : (delK S k).length ≤ S.length := by
  induction S with
  | nil => exact Nat.le_refl _
  | cons p S ih =>
    obtain ⟨a, b⟩ := p
    unfold delK
    split
    · simp only [List.length_cons]; omega
    · split
      · simp only [List.length_cons]; omega
      · simp only [List.length_cons]; omega
theorem BndK.doK {n : Nat} {S : List KV} (h : BndK n S) {l : List PairT} (hl : ∀ i, i < l.length → (l.getD i pair0).key.size ≤ 1100 ∧ (l.getD i pair0).val.2.length ≤ 2000) : ∀ k, k ≤ l.length → BndK (n + k) (doK S l k)
  | 0, _ => h
  | k + 1, hk => by
    have ih := BndK.doK h hl k oM
    have hq := hl k oM
    cases hg : (l.getD k pair0).gone with
    | true =>
      rw [doK_d hg]
      exact ⟨by have := delK_len (Proofs.Ytfbnhoolkajebaa.doK S l k) (l.getD k pair0).key; have := ih.1; omega, fun p hp => ih.2 p (delK_mem hp)⟩
    | false =>
      rw [doK_i hg]
      refine ⟨by have := insK_len (Proofs.Ytfbnhoolkajebaa.doK S l k) (l.getD k pair0).key (l.getD k pair0).val.2; have := ih.1; omega, fun p hp => ?_⟩
      rcases insK_mem hp with rfl | hp
      · exact hq
      · exact ih.2 p hp
theorem BndK.nil : BndK 0 [] := ⟨Nat.le_refl _, fun p hp => by cases hp⟩
theorem BndK.do {n : Nat} {S : List KV} (h : BndK n S) {l : List PairT} (hl : SmallL l) : BndK (n + 20) (Proofs.Ytfbnhoolkajebaa.doK S l l.length) := by
  have h1 := h.doK hl.2 l.length (Nat.le_refl _)
  exact ⟨by have := h1.1; have := hl.1; omega, h1.2⟩
theorem BndK.enc {n : Nat} {S : List KV} (h : BndK n S) : (encS S).length ≤ 3107 * n := by
  obtain ⟨h1, h2⟩ := h
  have key : ∀ S : List KV, (∀ p ∈ S, p.1.size ≤ 1100 ∧ p.2.length ≤ 2000) → (encS S).length ≤ 3107 * S.length := by
    intro S hS
    unfold encS encL
    induction S with
    | nil => exact Nat.le_refl _
    | cons p S ih =>
      have ih' := ih (fun q hq => hS q (List.mem_cons_of_mem _ hq))
      have hp := hS p List.mem_cons_self
      simp only [List.map_cons, List.flatten_cons, List.length_append, List.length_cons] at ih' ⊢
      have e : (recP (prOf p).gone (prOf p).key (prOf p).val.2).length = 7 + p.1.size + p.2.length := recP_len
      omega
  have := key S h2
  have : 3107 * S.length ≤ 3107 * n := Nat.mul_le_mul_left _ h1
  omega
theorem SmallL.el {l : List PairT} (h : SmallL l) : ∀ a ∈ l, a.key.size ≤ 1048576 ∧ a.val.2.length ≤ 1048576 := smallP_all h.2
theorem SmallL.len {l : List PairT} (h : SmallL l) : (encK l l.length).length ≤ 62140 ∧ (encV l).length ≤ 62140 := great_len h
/-! Keys that begin with a text. -/
section
variable {l : List ByteArray} {P : ByteArray → Bool}
end
theorem PlR.ofRest {R : Rest} {H : List (Nat × Obj)} {w : World} {a : PLT} (h : PlR R.blk a) (hm : Mem w R H) : PlR (blks w) a := h.mono fun b o e => hm.rest b o e
theorem PlR.addRest {R : Rest} {H H' : List (Nat × Obj)} {w : World} {a : PLT} (hm : Mem w R (H ++ H')) (h : PlR R.blk a) : PlR (R.add H').blk a := h.mono fun b o e => hm.addRest e
attribute [local irreducible] crashB crashK pushB readB inB errB cutN seenW
attribute [local irreducible] markB putB getB getK partB placeF blkOf rawB writeK blocksN
attribute [local irreducible] mostK newB roomB
attribute [local irreducible] recB recF recN genF badB lastP dataB gOf rOf pOf nOf loopH readH
attribute [local irreducible] okP layK turnL turnP oldB
attribute [local irreducible] openD
attribute [local irreducible] natB tkN tkOk kN vN_ oneOk oneR decF decP decV decE rightB encK recP num2 num4 allR goneB encV encE encL encS doO openK openS okS doK commitF lkA keysB
end --m
section
set_option linter.unusedVariables false
set_option linter.unusedSimpArgs false
attribute [local irreducible] crashB crashK pushB readB inB errB cutN seenW
attribute [local irreducible] markB putB getB getK partB placeF blkOf rawB writeK blocksN
attribute [local irreducible] mostK newB roomB
attribute [local irreducible] recB recF recN genF badB lastP dataB gOf rOf pOf nOf loopH readH
attribute [local irreducible] okP layK turnL turnP oldB
attribute [local irreducible] openD
attribute [local irreducible] natB tkN tkOk kN vN_ oneOk oneR decF decP decV decE rightB encK recP num2 num4 allR goneB encV encE encL encS doO openK openS okS doK commitF lkA keysB
end --m
section
set_option linter.unusedVariables false
set_option linter.unusedSimpArgs false
open Go.RowKit
/-! A row that is appended to, and read as it was, too. -/
section
variable {P : Program} {fr : Nat → Value} {w : World} {ty T T' E E' : TypeId} {x y : Operand} {kb : Nat} {R : Rest} {H Hs Hv : List (Nat × Obj)} {v u0 : Value} {ls : List SlT} {l0 : List (BitVec 8)} {m0 : Nat → Option Obj} {α : Type} {f : α → Value} {l : List α}
end
/-! What a commit tells, case by case. -/
section
variable {hh : Nat} {LW : List (List (BitVec 8))} {lp : List PairT}
end
/-- Values of the document: where they stand, and that none is gone. -/
def ValQ (m : Nat → Option Obj) (ps : List PairT) : Prop := ∀ a ∈ ps, Rd m u8 (slv a.val) a.val.2 ∧ a.gone = false
theorem ValQ.nil {m : Nat → Option Obj} : ValQ m [] := fun a h => by cases h
theorem ValQ.step {m : Nat → Option Obj} {ps lp qs : List PairT} (h : ValQ m ps) (hl : ∀ a ∈ lp, Rd m u8 (slv a.val) a.val.2) (hq : ∀ a ∈ qs, (a ∈ ps ∨ a ∈ lp) ∧ a.gone = false) : ValQ m qs := fun a ha => by
  obtain ⟨h1, h2⟩ := hq a ha
  rcases h1 with h1 | h1
  · exact h a h1
  · exact ⟨hl a h1, h2⟩
theorem RdH.empty {m0 : Nat → Option Obj} {b : Nat} {Hv : List (Nat × Obj)} : RdH m0 Hv (slc b 0 0 0) [] := fun _ _ _ => RdK.nil _ _
end --m
section
set_option linter.unusedVariables false
set_option linter.unusedSimpArgs false
attribute [local irreducible] crashB crashK pushB readB inB errB cutN seenW
attribute [local irreducible] markB putB getB getK partB placeF blkOf rawB writeK blocksN
attribute [local irreducible] mostK newB roomB
attribute [local irreducible] recB recF recN genF badB lastP dataB gOf rOf pOf nOf loopH readH
attribute [local irreducible] okP layK turnL turnP oldB
attribute [local irreducible] openD
attribute [local irreducible] natB tkN tkOk kN vN_ oneOk oneR decF decP decV decE rightB encK recP num2 num4 allR goneB encV encE encL encS doO openK openS okS doK commitF lkA keysB
end --m
end Go.Proofs.Ytfbnhoolkajebaa
