/- The framework, part c: copies into the midst of an array. Conditions: none. -/
import Derived.Test.YtfbnhoolkajebaaFwa
namespace Go.Proofs.Ytfbnhoolkajebaa
set_option linter.unusedSimpArgs false
set_option linter.unusedVariables false
section
variable {P : Program} {fr : Nat → Value} {w : World} {ty T T' E E' : TypeId} {x y : Operand} {z : Option Value} {n kb b : Nat} {α : Type} {f : α → Value} {u : Value} {l ms : List α} {fz : Nat × Nat}
theorem or_copy_mid {i : Int} (hx : evalF fr x = sla b 0 1 i n n) (h0 : 0 ≤ i) (hi : i < n) (hy : evalF fr y = u) (hr : Rd (blks w) f u ms) (hT : P.underlying T = some (.slice E)) (hti : tinf P E = some (z, 1, kb)) (hf : ∀ a, (f a).oneCell' = true)
    (hb : w.heap[b]? = some (.cells (cl f l) E' fz)) (hl : l.length = n) (hms : i.toNat + ms.length ≤ n) (hfz : fz.2 = 0) :
    OpR P fr w (.call ⟨.builtin .copy, #[x, y], #[T, T']⟩) ty (fun v' w' => v' = i64 (ms.length : Nat) ∧ Upd w b (.cells (cl f (l.take i.toNat ++ (ms ++ l.drop (i.toNat + ms.length)))) E' fz) w') := by
  have hx2 : evalF fr x = slc b i.toNat (n - i.toNat) (n - i.toNat) := by
    rw [hx]
    have h1 : ¬ n = i.toNat := by omega
    simp [sla, h1]
  have hmin : min ms.length (n - i.toNat) = ms.length := by omega
  refine (or_copy (T' := T') hx2 hy hr hT hti hf hb (by rw [size_cl, hmin]; omega) (by omega)).mono ?_
  rintro v' w' ⟨e1, hu⟩
  rw [hmin] at e1 hu
  rw [List.take_of_length_le (Nat.le_refl _)] at hu
  refine ⟨e1, ?_⟩
  have e : ovr (cl f l) i.toNat (ms.map f) = cl f (l.take i.toNat ++ (ms ++ l.drop (i.toNat + ms.length))) := by
    apply Array.ext'
    rw [ovr_toList _ _ _ (by rw [size_cl, List.length_map]; omega)]
    simp [cl, List.map_take, List.map_drop]
  rw [e] at hu
  exact hu
end
end Go.Proofs.Ytfbnhoolkajebaa
