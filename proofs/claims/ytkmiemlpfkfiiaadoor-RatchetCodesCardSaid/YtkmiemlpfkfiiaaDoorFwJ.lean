/- The framework, part J: equality of arrays. Conditions: none. -/
import Derived.Test.YtkmiemlpfkfiiaaDoorFwI
import Derived.Laws.StructEq
namespace Go.Proofs.YtkmiemlpfkfiiaaDoor
set_option linter.unusedSimpArgs false
set_option linter.unusedVariables false
section
variable {P : Program} {fr : Nat → Value} {w : World} {ty T t E t' : TypeId} {x y : Operand} {z : Option Value} {n kb len d : Nat} {α : Type} {f : α → Value} {l m : List α} {dE : TypeDesc}
theorem Lr {i : Nat} {a : α} (hi : Yp P E = some (z, 1, kb)) (hE : P.underlying E = some dE) (hd : Dn dE = false) (hg : l[i]? = some a) : (part E (cl f l) i).run P w = .ok (f a) w := by
  have hc : (cl f l)[i]? = some (f a) := by simp [cl, hg]
  simp [part, Fa hE, hd, hc, Yz hi]
theorem E8 [BEq α] [LawfulBEq α] (hu : P.underlying t = some (.array len E)) (hi : Yp P E = some (z, 1, kb)) (hE : P.underlying E = some dE) (hd : Dn dE = false) (heq : ∀ a b, (Op.equalIn d E (f a) (f b)).run P w = .ok (a == b) w)
    (hl : l.length = len) (hm : m.length = len) : (Op.equalIn (d + 1) t (agg f l) (agg f m)).run P w = .ok (l == m) w := by
  unfold agg
  simp only [Op.equalIn, Sem.run_bind, Y8 hu, Result.andThen_ok, Yz hi, Nat.mul_one, Std.Legacy.Range.forIn_eq_forIn_range', Std.Legacy.Range.size]
  have e : (len - 0 + 1 - 1) / 1 = len := by omega
  rw [e]
  have key : ∀ (k j : Nat), j + k = len → (forIn (m := Sem) (List.range' j k 1) ((none, ⟨⟩) : Option Bool × PUnit) (fun i r => do
      if (!(← Op.equalIn d E (← part E (cl f l) i) (← part E (cl f m) i))) = true then pure (.done (some false, ⟨⟩)) else pure (.yield (none, ⟨⟩)))).run P w
        = .ok (if l.drop j == m.drop j then (none, ⟨⟩) else (some false, ⟨⟩)) w := by
    intro k
    induction k with
    | zero =>
      intro j hj
      rw [List.drop_of_length_le (by omega), List.drop_of_length_le (by omega)]
      simp
    | succ k ih =>
      intro j hj
      have h1 : j < l.length := by omega
      have h2 : j < m.length := by omega
      rw [List.range'_succ, List.forIn_cons, List.drop_eq_getElem_cons h1, List.drop_eq_getElem_cons h2]
      simp only [Sem.run_bind, Lr hi hE hd (List.getElem?_eq_getElem h1), Lr hi hE hd (List.getElem?_eq_getElem h2), Result.andThen_ok, heq]
      rw [List.cons_beq_cons]
      cases hc : l[j] == m[j]
      · simp
      · simp only [Bool.not_true, Bool.false_eq_true, if_false, Sem.run_pure, Result.andThen_ok, Bool.true_and]
        exact ih (j + 1) (by omega)
  have := key len 0 (by omega)
  simp only [List.drop_zero] at this
  refine Eq.trans (congrArg (fun r => Result.andThen r _) this) ?_
  cases l == m <;> simp
end
section
variable {P : Program} {fr : Nat → Value} {w : World} {ty T t E t' : TypeId} {x y : Operand} {z : Option Value} {n kb len d : Nat} {dE : TypeDesc}
theorem Qhy {a b : Array Value} {r : Bool} (hg : P.eqGuardType P.depth t = false) (he : (Op.equalIn (9999 + 1) t (.agg a) (.agg b)).run P w = .ok r w) (hx : Qq fr x = .agg a) (hy : Qq fr y = .agg b) : Ja P fr w (.binOp .eql t x y t') ty (bl r) := by
  unfold Ja U2
  show Sem.run P (do let v ← (do eqGuard .eql t x y (Qq fr x) (Qq fr y); binOp .eql t (Qq fr x) (Qq fr y)); pure (Next.value v)) w = _
  rw [hx, hy]
  have hb : binOp .eql t (.agg a) (.agg b) = (do pure (.bool (← Op.equalIn (9999 + 1) t (.agg a) (.agg b)))) := rfl
  rw [hb]
  have hG : (eqGuard .eql t x y (.agg a) (.agg b)).run P w = .ok () w := by simp [eqGuard, hg]
  simp [hG, he, bl]
theorem Qdz {a b : Array Value} {r : Bool} (hg : P.eqGuardType P.depth t = false) (he : (Op.equalIn (9999 + 1) t (.agg a) (.agg b)).run P w = .ok r w) (hx : Qq fr x = .agg a) (hy : Qq fr y = .agg b) : Ja P fr w (.binOp .neq t x y t') ty (bl (!r)) := by
  unfold Ja U2
  show Sem.run P (do let v ← (do eqGuard .neq t x y (Qq fr x) (Qq fr y); binOp .neq t (Qq fr x) (Qq fr y)); pure (Next.value v)) w = _
  rw [hx, hy]
  have hb : binOp .neq t (.agg a) (.agg b) = (do pure (.bool (!(← Op.equalIn (9999 + 1) t (.agg a) (.agg b))))) := rfl
  rw [hb]
  have hG : (eqGuard .neq t x y (.agg a) (.agg b)).run P w = .ok () w := by simp [eqGuard, hg]
  simp [hG, he, bl]
theorem Qdn {a b : BitVec 8} (hE : P.underlying E = some (.int .u8)) : (Op.equalIn (9998 + 1) E (u8 a) (u8 b)).run P w = .ok (a == b) w := by
  have := run_equalIn_int w 9998 E .u8 .u8 (a.toNat : Int) (b.toNat : Int) hE
  unfold u8; rw [this]; congr 1
  rw [Bool.eq_iff_iff, beq_iff_eq, beq_iff_eq]
  constructor
  · intro h; exact BitVec.eq_of_toNat_eq (by omega)
  · rintro rfl; rfl
theorem Fq {l m : List (BitVec 8)} (hu : P.underlying t = some (.array len E)) (hE : P.underlying E = some (.int .u8)) (hi : Yp P E = some (z, 1, kb)) (hg : P.eqGuardType P.depth t = false) (hx : Qq fr x = agg u8 l) (hy : Qq fr y = agg u8 m) (hl : l.length = len) (hm : m.length = len) :
    Ja P fr w (.binOp .eql t x y t') ty (bl (l == m)) := Qhy hg (E8 hu hi hE rfl (fun a b => Qdn hE) hl hm) hx hy
theorem Vr {l m : List (BitVec 8)} (hu : P.underlying t = some (.array len E)) (hE : P.underlying E = some (.int .u8)) (hi : Yp P E = some (z, 1, kb)) (hg : P.eqGuardType P.depth t = false) (hx : Qq fr x = agg u8 l) (hy : Qq fr y = agg u8 m) (hl : l.length = len) (hm : m.length = len) :
    Ja P fr w (.binOp .neq t x y t') ty (bl (l != m)) := Qdz hg (E8 hu hi hE rfl (fun a b => Qdn hE) hl hm) hx hy
end
section
variable {α : Type} {f : α → Value} {m : Nat → Option Obj} {b len cap E : Nat} {l : List α} {fz : Nat × Nat}
theorem Rd.mkE (hb : m b = some (.cells (cl f l) E fz)) (h : l.length = len) : Rd m f (Jt b 0 len len) l := h ▸ Rd.mkA hb
theorem Xx.ofE (f : α → Value) (E b : Nat) (l : List α) (h : l.length = len) : Xx f E (Jt b 0 len len) l [(b, .cells (cl f l) E (0, 0))] := h ▸ Xx.of f E b l
end
end Go.Proofs.YtkmiemlpfkfiiaaDoor
