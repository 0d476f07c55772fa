/- What the document reads: plain law; contracts. Conditions: none beyond those that each theorem states. -/
import Derived.Test.YtfbnhoolkajebaaJo8
import Derived.Test.YtfbnhoolkajebaaJoB
namespace Go.Proofs.Ytfbnhoolkajebaa
section
set_option linter.unusedVariables false
set_option linter.unusedSimpArgs false
attribute [local irreducible] crashB crashK pushB readB inB errB cutN seenW
attribute [local irreducible] markB putB getB getK partB placeF blkOf rawB writeK blocksN
attribute [local irreducible] mostK newB roomB
attribute [local irreducible] recB recF recN genF badB lastP dataB gOf rOf pOf nOf loopH readH
attribute [local irreducible] okP layK turnL turnP oldB
attribute [local irreducible] openD
attribute [local irreducible] okG okV GB natB fitsB
end --m
section
set_option linter.unusedVariables false
set_option linter.unusedSimpArgs false

attribute [local irreducible] crashB crashK pushB readB inB errB cutN seenW
attribute [local irreducible] markB putB getB getK partB placeF blkOf rawB writeK blocksN
attribute [local irreducible] mostK newB roomB
attribute [local irreducible] recB recF recN genF badB lastP dataB gOf rOf pOf nOf loopH readH
attribute [local irreducible] okP layK turnL turnP oldB
attribute [local irreducible] openD
attribute [local irreducible] okG okV GB natB fitsB
attribute [local irreducible] syncF
end --m
section
set_option linter.unusedVariables false
set_option linter.unusedSimpArgs false
/-! ### What the document reads -/
theorem natB_lt2 {l : List (BitVec 8)} (h : l.length ≤ 2) : natB l < 65536 := by
  have := (getB_nat l oM).2
  have h2 : 256 ^ l.length ≤ 256 ^ 2 := Nat.pow_le_pow_right (by decide) h
  omega
def gY (x : List (BitVec 8)) : Nat := natB ((x.drop 0).take 4)
def rY (x : List (BitVec 8)) : Nat := natB ((x.drop 4).take 4)
def pY (x : List (BitVec 8)) : Nat := natB ((x.drop 8).take 2)
def nY (x : List (BitVec 8)) : Nat := natB ((x.drop 10).take 2)
def wholeY (x : List (BitVec 8)) : Bool := ((x.drop 0).take 10 == (x.drop 54).take 10) && (decide ((nY x : Int) ≤ 42) && ((nY x : Int) == 42 || decide (32768 ≤ (pY x : Int))))
def dY (x : List (BitVec 8)) : List (BitVec 8) := (x.drop 12).take (nY x)
theorem pY_lt (x : List (BitVec 8)) : pY x < 65536 := natB_lt2 (by simp; omega)
def OkY (x : List (BitVec 8)) (g m p : Nat) : Prop := wholeY x = true ∧ gY x = g ∧ rY x = m ∧ pY x % 32768 = p
instance {x : List (BitVec 8)} {g m p : Nat} : Decidable (OkY x g m p) := by unfold OkY; infer_instance
def halfL (g : Nat) : List (List (BitVec 8)) → List (List (BitVec 8)) → List (BitVec 8) → Nat → List (List (BitVec 8))
  | [], out, _, _ => out
  | x :: xs, out, part, p => if OkY x g out.length p then (if 32768 ≤ pY x then halfL g xs (out ++ [part ++ dY x]) [] 0 else halfL g xs out (part ++ dY x) (p + 1)) else out
section
variable {g i p : Nat} {B out F : List (List (BitVec 8))} {part : List (BitVec 8)}
theorem drop_getD (h : i < B.length) : B.drop i = B.getD i [] :: B.drop (i + 1) := by
  rw [List.drop_eq_getElem_cons h]; simp [List.getD_eq_getElem?_getD, h]
theorem half_end (h : ¬ i < B.length) (hF : halfL g (B.drop i) out part p = F) : F = out := by
  rw [← hF, List.drop_of_length_le oM]; rfl
theorem half_no (h : i < B.length) (hn : ¬ OkY (B.getD i []) g out.length p) (hF : halfL g (B.drop i) out part p = F) : F = out := by
  rw [← hF, drop_getD h]; show (if _ then _ else _) = _; rw [if_neg hn]
theorem half_last (h : i < B.length) (hn : OkY (B.getD i []) g out.length p) (hl : 32768 ≤ pY (B.getD i [])) (hF : halfL g (B.drop i) out part p = F) : halfL g (B.drop (i + 1)) (out ++ [part ++ dY (B.getD i [])]) [] 0 = F := by
  rw [← hF, drop_getD h]; symm; show (if _ then _ else _) = _; rw [if_pos hn, if_pos hl]
theorem half_more (h : i < B.length) (hn : OkY (B.getD i []) g out.length p) (hl : ¬ 32768 ≤ pY (B.getD i [])) (hF : halfL g (B.drop i) out part p = F) : halfL g (B.drop (i + 1)) out (part ++ dY (B.getD i [])) (p + 1) = F := by
  rw [← hF, drop_getD h]; symm; show (if _ then _ else _) = _; rw [if_pos hn, if_neg hl]
end
/-- The document's half: its generation, its records. -/
def halfR (B : List (List (BitVec 8))) : Nat × List (List (BitVec 8)) :=
  if B.length = 0 then (0, []) else if wholeY (B.getD 0 []) = false then (0, []) else if gY (B.getD 0 []) = 0 then (0, [])
  else if (halfL (gY (B.getD 0 [])) B [] [] 0).length = 0 then (0, []) else (gY (B.getD 0 []), halfL (gY (B.getD 0 [])) B [] [] 0)
theorem halfR_0 {B : List (List (BitVec 8))} (h : B.length = 0) : halfR B = (0, []) := by unfold halfR; rw [if_pos h]
theorem halfR_1 {B : List (List (BitVec 8))} (h : wholeY (B.getD 0 []) = false) : halfR B = (0, []) := by
  unfold halfR; by_cases e : B.length = 0
  · rw [if_pos e]
  · rw [if_neg e, if_pos h]
theorem halfR_2 {B : List (List (BitVec 8))} (h : gY (B.getD 0 []) = 0) : halfR B = (0, []) := by
  unfold halfR
  by_cases e : B.length = 0
  · rw [if_pos e]
  · rw [if_neg e]
    by_cases e2 : wholeY (B.getD 0 []) = false
    · rw [if_pos e2]
    · rw [if_neg e2, if_pos h]
theorem halfR_3 {B : List (List (BitVec 8))} (h0 : ¬ B.length = 0) (h1 : wholeY (B.getD 0 []) = true) (h2 : ¬ gY (B.getD 0 []) = 0) {out : List (List (BitVec 8))} (h3 : halfL (gY (B.getD 0 [])) B [] [] 0 = out) : halfR B = if out.length = 0 then (0, []) else (gY (B.getD 0 []), out) := by
  unfold halfR; rw [if_neg h0, if_neg (by rw [h1]; simp), if_neg h2, h3]
def diskR (B : List (List (BitVec 8))) : Bool × Nat × List (List (BitVec 8)) :=
  let n : Int := (B.length : Int) / 2
  let a := halfR ((B.drop (0 : Int).toNat).take (n.toNat - (0 : Int).toNat))
  let c := halfR ((B.drop n.toNat).take ((2 * n).toNat - n.toNat))
  if a.1 < c.1 then (true, c.1, c.2) else (false, a.1, a.2)
attribute [local irreducible] crashB crashK pushB readB inB errB cutN seenW
attribute [local irreducible] markB putB getB getK partB placeF blkOf rawB writeK blocksN
attribute [local irreducible] mostK newB roomB
attribute [local irreducible] recB recF recN genF badB lastP dataB gOf rOf pOf nOf loopH readH
attribute [local irreducible] okP layK turnL turnP oldB
attribute [local irreducible] openD
attribute [local irreducible] okG okV GB natB fitsB
attribute [local irreducible] syncF
attribute [local irreducible] gY rY pY nY wholeY dY halfL halfR diskR
end --m
end Go.Proofs.Ytfbnhoolkajebaa
