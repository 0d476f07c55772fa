/- The framework, part L: what the arguments of a law are. Conditions: none. -/
import Derived.Test.YtkmiemlpfkfiiaaDoorFwR
import Derived.Lib.MakeNoZero
import Derived.Test.YtkmiemlpfkfiiaaDoorFwM
import Derived.WalkKit
import Derived.ProofKit
import Derived.OpenShut
import Derived.ShutString
import Derived.ChangeOld
import Derived.ChangeArms
import Derived.ChangeSlices
import Derived.Below
namespace Go.Proofs.YtkmiemlpfkfiiaaDoor
section
set_option linter.unusedSimpArgs false
set_option linter.unusedVariables false
section
variable {P : Program} {fr : Nat → Value} {w : World} {ty T U E A : TypeId} {x y : Operand} {R : Rest} {H Hs : List (Nat × Obj)}
theorem Qk5 {d : Nat} {a b : BitVec 8} (hE : P.underlying E = some (.int .u8)) : (Op.equalIn (d + 1) E (u8 a) (u8 b)).run P w = .ok (a == b) w := by
 have := run_equalIn_int w d E .u8 .u8 (a.toNat : Int) (b.toNat : Int) hE
 unfold u8; rw [this]; congr 1
 rw [Bool.eq_iff_iff, beq_iff_eq, beq_iff_eq]
 constructor
 ·intro h; exact BitVec.eq_of_toNat_eq (by omega)
 rintro rfl; rfl
theorem Qcy {K : TypeId} {dK : TypeDesc} {z : Option Value} {n kb off : Nat} (L1 L3 : List (List Value)) (l : List (BitVec 8)) (hu : P.underlying K = some dK) (hd : Bv dK = true) (hi : Y1 P K = some (z, n, kb)) (h1 : L1.flatten.length = off) (hl : l.length = n) : (part K (Zl (L1 ++ (l.map u8 :: L3))) off).run P w = .ok (agg u8 l) w := by
 have e := Qcw L1 [l.map u8] L3 h1 (n := n) (by simpa using hl)
 rw [Wi] at e
 simp only [part, Sem.run_bind, Cb hu, hd, Result.andThen_ok, if_true, Ji hi, Sem.run_pure, agg]
 rw [← e]; rfl
end
end --m
section
open Go.ChangeShapes Go.WideShapes Go.ChangeAt Go.RowKit
set_option linter.unusedSimpArgs false
set_option linter.unusedVariables false
structure Opens (P : Program) (t : TypeId) (Q : World → List Value → Prop) : Prop where
 is : ∀ (H : Type) (enc : TypeId × Value → H) (w : World) (fuel : Nat) (cs : List Value) (x : DataW H × List MemPlace), DataW.trod enc P w 0 (fun _ => true) true fuel t cs = some x → Q w cs
section
variable {P : Program} {t e : TypeId} {n : Nat} {Q : World → List Value → Prop} {α : Type} {f : α → Value}
theorem Opens.mono {Q' : World → List Value → Prop} (h : Opens P t Q) (hm : ∀ w cs, Q w cs → Q' w cs) : Opens P t Q' := ⟨fun H enc w fuel cs x hx => hm _ _ (h.is H enc w fuel cs x hx)⟩
theorem Qbf (hu : P.underlying t = some (.int .i64)) : Opens P t (fun _ cs => ∃ n : Int, cs = [i64 n] ∧ -9223372036854775808 ≤ n ∧ n ≤ 9223372036854775807) := by
 refine ⟨fun H enc w fuel cs x h => ?_⟩
 obtain ⟨n, rfl, _, hw⟩ := DataW.trod_int hu h
 simp only [Lit.wf, Bool.and_eq_true, decide_eq_true_eq] at hw
 exact ⟨n, rfl, hw.1, hw.2⟩
theorem Qf4 (hu : P.underlying t = some .bool) : Opens P t (fun _ cs => ∃ b, cs = [bl b]) := by
 refine ⟨fun H enc w fuel cs x h => ?_⟩
 obtain ⟨b, rfl, _⟩ := DataW.trod_bool hu h
 exact ⟨b, rfl⟩
theorem Fv (hu : P.underlying t = some (.int .u8)) : Opens P t (fun _ cs => ∃ a : BitVec 8, cs = [u8 a]) := by
 refine ⟨fun H enc w fuel cs x h => ?_⟩
 obtain ⟨n, rfl, _, hw⟩ := DataW.trod_int hu h
 simp only [Lit.wf, Bool.and_eq_true, decide_eq_true_eq] at hw
 have h0 : 0 ≤ n := hw.1
 have h1 : n ≤ 255 := hw.2
 refine ⟨BitVec.ofNat 8 n.toNat, ?_⟩
 unfold u8
 rw [BitVec.toNat_ofNat, Nat.mod_eq_of_lt (by omega)]
 rw [Int.toNat_of_nonneg h0]
theorem all_map {l : List Value} (h : ∀ i, i < l.length → ∃ a, l[i]? = some (f a)) : ∃ m : List α, l = m.map f := by
 induction l with
 | nil => exact ⟨[], rfl⟩
 | cons v l ih =>
  obtain ⟨a, ha⟩ := h 0 (by simp)
  obtain ⟨m, rfl⟩ := ih fun i hi => by
   obtain ⟨b, hb⟩ := h (i + 1) (by simp; omega)
   exact ⟨b, by simpa using hb⟩
  simp at ha
  exact ⟨a :: m, by simp [ha]⟩
theorem Ul (hu : P.underlying t = some (.array n e)) (hc : P.cellsOf e = 1) (hc' : P.cellsOf t = n) (he : Opens P e (fun _ cs => ∃ a, cs = [f a])) : Opens P t (fun _ cs => ∃ l : List α, cs = l.map f ∧ l.length = n) := by
 refine ⟨fun H enc w fuel cs x h => ?_⟩
 obtain ⟨xs, m, _, _, hl, hx, hi⟩ := DataW.trod_array hu h
 rw [hc'] at hl
 obtain ⟨l, rfl⟩ : ∃ l : List α, cs = l.map f := all_map fun i hlt => by
  have hi' := hi i (by omega)
  have hlt2 : i < xs.length := by omega
  rw [List.getElem?_eq_getElem hlt2, hc] at hi'
  obtain ⟨a, ha⟩ := he.is H enc w m _ _ hi'
  refine ⟨a, ?_⟩
  have hd : (cs.drop (i * 1)).take 1 = [f a] := ha
  rw [Nat.mul_one] at hd
  have := congrArg (fun l => l[0]?) hd
  simpa [List.getElem?_take, List.getElem?_drop] using this
 exact ⟨l, rfl, by simpa using hl⟩
theorem Qi7 {w : World} {a : Addr} {cs : List Value} (h : w.cells? 0 a 1 = some cs) : ∃ v, w.cell? a = some v ∧ cs = [v] := by
 simp only [World.cells?, Nat.zero_le, if_true, List.range_one] at h
 simp only [List.mapM_cons, List.mapM_nil] at h
 have ea : a.add 0 = a := by cases a; simp [Addr.add]
 rw [ea] at h
 cases hv : w.cell? a with
 | none => rw [hv] at h; simp at h
 | some v => rw [hv] at h; simp at h; exact ⟨v, rfl, h.symm⟩
theorem Sr {w : World} {a : Addr} {v : Value} (h : w.cell? a = some v) : a.spot = none ∧ ∃ c E fz, w.heap[a.block]? = some (.cells c E fz) ∧ c[a.off]? = some v := by
 unfold World.cell? at h
 split at h
 ·next c E fz hb =>
  cases hs : a.spot with
  | none => rw [hs] at h; simp at h; exact ⟨rfl, c, E, fz, hb, h⟩
  | some s => rw [hs] at h; simp at h
 simp at h
theorem Qhq (hu : P.underlying t = some (.slice e)) (hc : P.cellsOf e = 1) (he : Opens P e (fun _ cs => ∃ a, cs = [f a])) :
  Opens P t (fun w cs => ∃ (v : Value) (l : List α), cs = [v] ∧ Rd (Yq w) f v l ∧ l.length ≤ 9223372036854775807) := by
 refine ⟨fun H enc w fuel cs x h => ?_⟩
 rcases DataW.trod_slice hu h with ⟨rfl, _⟩ | ⟨a, len, cap, elems, rest, m, _, rfl, _, _, hl, hm, hlen, hel, _, _⟩
 ·exact ⟨_, [], rfl, Rd.nil _ _, by simp⟩
 rw [hc] at hel
 have each : ∀ i, i < len → ∃ b : α, w.cell? (a.add i) = some (f b) := by
  intro i hi
  have h1 := hel i hi
  rw [List.getElem?_eq_getElem (by omega), Nat.mul_one] at h1
  obtain ⟨cs', h2, h3⟩ := Option.bind_eq_some_iff.1 h1
  obtain ⟨v, h4, rfl⟩ := Qi7 h2
  obtain ⟨b, hb⟩ := he.is H enc w m _ _ h3
  exact ⟨b, by rw [h4]; simpa using hb⟩
 obtain ⟨l, hll, hl'⟩ : ∃ l : List α, l.length = len ∧ ∀ i (h : i < l.length), w.cell? (a.add i) = some (f l[i]) := by
  have : ∀ k, k ≤ len → ∃ l : List α, l.length = k ∧ ∀ i (h : i < l.length), w.cell? (a.add i) = some (f l[i]) := by
   intro k
   induction k with
   | zero => intro _; exact ⟨[], rfl, fun i h => by simp at h⟩
   | succ k ih =>
    intro hk
    obtain ⟨l, h1, h2⟩ := ih (by omega)
    obtain ⟨b, hb⟩ := each k (by omega)
    refine ⟨l ++ [b], by simp [h1], fun i h => ?_⟩
    by_cases hi : i < l.length
    ·rw [List.getElem_append_left hi]; exact h2 i hi
    have : i = k := by simp at h; omega
    subst this
    rw [List.getElem_append_right (by omega)]
    simpa [h1] using hb
  exact this len (Nat.le_refl _)
 subst hll
 refine ⟨_, l, rfl, ⟨some a, cap, rfl, hl, fun i hi => ?_⟩, by unfold maxLen at hm; omega⟩
 obtain ⟨b, off, sp⟩ := a
 have h0 := hl' 0 (by omega)
 have ea : (Addr.mk b off sp).add 0 = ⟨b, off, sp⟩ := by simp [Addr.add]
 rw [ea] at h0
 obtain ⟨hs0, _⟩ := Sr h0
 simp only at hs0
 subst hs0
 obtain ⟨hs, c, E, fz, hb, hcc⟩ := Sr (hl' i hi)
 rw [J8] at hb hcc
 exact ⟨b, off, c, E, fz, rfl, hb, hcc⟩
end
section
variable {P : Program} {W : World} {r : Reach} {b0 : Nat} {t e : TypeId} {n : Nat} {α : Type} {f : α → Value} {v : Value} {H : Type} {enc : TypeId × Value → H} {d : DataW H} {ps : List MemPlace} {Q : World → List Value → Prop}
theorem Opens.of (ho : Opens P t Q) (h : DataW.Trod enc P W 0 (fun _ => true) true t v d ps) : Q W v.cells.toList := by
 obtain ⟨fuel, hf⟩ := h
 exact ho.is H enc W fuel _ _ hf
theorem Qja (hu : P.underlying t = some (.array n e)) (ho : Opens P t (fun _ cs => ∃ l : List α, cs = l.map f ∧ l.length = n)) (hval : Value.okWide P W r b0 t v) (h : DataW.Trod enc P W 0 (fun _ => true) true t v d ps) :
  ∃ l : List α, v = agg f l ∧ l.length = n := by
 simp only [Value.okWide, hu] at hval
 obtain ⟨cs, rfl, _⟩ := hval
 obtain ⟨l, hl, hn⟩ := ho.of h
 refine ⟨l, ?_, hn⟩
 have : cs.toList = l.map f := by simpa [Value.cells] using hl
 unfold agg cl
 rw [← this]
theorem one_of {u : Value} {dd : TypeDesc} (hu : P.underlying t = some dd) (ha : Bv dd = false) (hval : Value.okWide P W r b0 t v) (h : v.cells.toList = [u]) : v = u := by
 have hna : ∀ c, v ≠ .agg c := by
  rintro c rfl
  unfold Value.okWide at hval
  rw [hu] at hval
  cases dd <;> simp_all [Cell.okWide, Cell.ok, Bv]
 cases v <;> simp_all [Value.cells]
theorem arg_sl (hu : P.underlying t = some (.slice e)) (ho : Opens P t (fun w cs => ∃ (v : Value) (l : List α), cs = [v] ∧ Rd (Yq w) f v l ∧ l.length ≤ 9223372036854775807)) (hval : Value.okWide P W r b0 t v) (h : DataW.Trod enc P W 0 (fun _ => true) true t v d ps) :
  ∃ l : List α, Rd (Yq W) f v l ∧ l.length ≤ 9223372036854775807 := by
 obtain ⟨u, l, h1, h2, h3⟩ := ho.of h
 obtain rfl := one_of hu rfl hval h1
 exact ⟨l, h2, h3⟩
end
end --m
end Go.Proofs.YtkmiemlpfkfiiaaDoor
