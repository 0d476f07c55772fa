/- The framework, part Y: slices of structs among the arguments; maps from keys to truth values. Conditions: none. -/
import Derived.Test.YtkmiemlpfkfiiaaDoorFwR
import Derived.Lib.MakeNoZero
import Derived.Test.YtkmiemlpfkfiiaaDoorFwM
import Derived.WalkKit
import Derived.ProofKit
import Derived.OpenShut
import Derived.ShutString
import Derived.ChangeOld
import Derived.ChangeArms
import Derived.ChangeSlices
import Derived.Below
import Derived.Test.YtkmiemlpfkfiiaaDoorFwP
import Derived.Laws.BytesArg
import Derived.Laws.Strings
import Derived.WideKeyRuns
namespace Go.Proofs.YtkmiemlpfkfiiaaDoor
open List renaming getD_eq_getElem?_getD → aI, getElem?_eq_getElem → dB
section
set_option linter.unusedSimpArgs false
set_option linter.unusedVariables false
section
variable {P : Program} {fr : Nat → Value} {w : World} {ty T U E A : TypeId} {x y : Operand} {R : Rest} {H Hs : List (Nat × Obj)}
theorem Qp5 {d : Nat} {a b : BitVec 8} (hE : P.underlying E = some (.int .u8)) : (Op.equalIn (d + 1) E (u8 a) (u8 b)).run P w = .ok (a == b) w := by
 have := run_equalIn_int w d E .u8 .u8 (a.toNat : Int) (b.toNat : Int) hE
 unfold u8; rw [this]; congr 1
 rw [Bool.eq_iff_iff, beq_iff_eq, beq_iff_eq]
 constructor
 ·intro h; exact BitVec.eq_of_toNat_eq (by omega)
 rintro rfl; rfl
theorem Qfz {K : TypeId} {dK : TypeDesc} {z : Option Value} {n kb off : Nat} (L1 L3 : List (List Value)) (l : Z4) (hu : P.underlying K = some dK) (hd : Pg dK = true) (hi : Ji P K = some (z, n, kb)) (h1 : L1.flatten.length = off) (hl : l.length = n) : (part K (Qy (L1 ++ (l.map u8 :: L3))) off).run P w = .ok (agg u8 l) w := by
 have e := Qfx L1 [l.map u8] L3 h1 (n := n) (by simpa using hl)
 rw [Gg] at e
 simp only [part, Sem.run_bind, Mc hu, hd, Result.andThen_ok, if_true, J9 hi, Sem.run_pure, agg]
 rw [← e]; rfl
end
end --m
section
open Go.ChangeShapes Go.WideShapes Go.ChangeAt Go.RowKit
set_option linter.unusedSimpArgs false
set_option linter.unusedVariables false
structure Opens (P : Program) (t : TypeId) (Q : World → List Value → Prop) : Prop where
 is : ∀ (H : Type) (enc : TypeId × Value → H) (w : World) (fuel : Nat) (cs : List Value) (x : DataW H × List MemPlace), DataW.trod enc P w 0 (fun _ => true) true fuel t cs = some x → Q w cs
section
variable {P : Program} {t e : TypeId} {n : Nat} {Q : World → List Value → Prop} {α : Type} {f : α → Value}
theorem Opens.mono {Q' : World → List Value → Prop} (h : Opens P t Q) (hm : ∀ w cs, Q w cs → Q' w cs) : Opens P t Q' := ⟨fun H enc w fuel cs x hx => hm _ _ (h.is H enc w fuel cs x hx)⟩
theorem Qtx (hu : P.underlying t = some (.int .i64)) : Opens P t (fun _ cs => ∃ n : Int, cs = [i64 n] ∧ -9223372036854775808 ≤ n ∧ n ≤ 9223372036854775807) := by
 refine ⟨fun H enc w fuel cs x h => ?_⟩
 obtain ⟨n, rfl, _, hw⟩ := DataW.trod_int hu h
 simp only [Lit.wf, Bool.and_eq_true, decide_eq_true_eq] at hw
 exact ⟨n, rfl, hw.1, hw.2⟩
theorem Qbr (hu : P.underlying t = some (.int .u8)) : Opens P t (fun _ cs => ∃ a : BitVec 8, cs = [u8 a]) := by
 refine ⟨fun H enc w fuel cs x h => ?_⟩
 obtain ⟨n, rfl, _, hw⟩ := DataW.trod_int hu h
 simp only [Lit.wf, Bool.and_eq_true, decide_eq_true_eq] at hw
 have h0 : 0 ≤ n := hw.1
 have h1 : n ≤ 255 := hw.2
 refine ⟨BitVec.ofNat 8 n.toNat, ?_⟩
 unfold u8
 rw [BitVec.toNat_ofNat, Nat.mod_eq_of_lt (by omega)]
 rw [Int.toNat_of_nonneg h0]
theorem all_map {l : List Value} (h : ∀ i, i < l.length → ∃ a, l[i]? = some (f a)) : ∃ m : List α, l = m.map f := by
 induction l with
 | nil => exact ⟨[], rfl⟩
 | cons v l ih =>
  obtain ⟨a, ha⟩ := h 0 Ya
  obtain ⟨m, rfl⟩ := ih fun i hi => by
   obtain ⟨b, hb⟩ := h (i + 1) (by simp; omega)
   exact ⟨b, by simpa using hb⟩
  simp at ha
  exact ⟨a :: m, by simp [ha]⟩
theorem Qcc (hu : P.underlying t = some (.array n e)) (hc : P.cellsOf e = 1) (hc' : P.cellsOf t = n) (he : Opens P e (fun _ cs => ∃ a, cs = [f a])) : Opens P t (fun _ cs => ∃ l : List α, cs = l.map f ∧ l.length = n) := by
 refine ⟨fun H enc w fuel cs x h => ?_⟩
 obtain ⟨xs, m, _, _, hl, hx, hi⟩ := DataW.trod_array hu h
 rw [hc'] at hl
 obtain ⟨l, rfl⟩ : ∃ l : List α, cs = l.map f := all_map fun i hlt => by
  have hi' := hi i (by omega)
  have hlt2 : i < xs.length := by omega
  rw [dB hlt2, hc] at hi'
  obtain ⟨a, ha⟩ := he.is H enc w m _ _ hi'
  refine ⟨a, ?_⟩
  have hd : (cs.drop (i * 1)).take 1 = [f a] := ha
  rw [Nat.mul_one] at hd
  have := congrArg (fun l => l[0]?) hd
  simpa [List.getElem?_take, List.getElem?_drop] using this
 exact ⟨l, rfl, by simpa using hl⟩
theorem Qns {w : World} {a : Addr} {cs : List Value} (h : w.cells? 0 a 1 = some cs) : ∃ v, w.cell? a = some v ∧ cs = [v] := by
 simp only [World.cells?, Nat.zero_le, if_true, List.range_one] at h
 simp only [List.mapM_cons, List.mapM_nil] at h
 have ea : a.add 0 = a := by cases a; simp [Addr.add]
 rw [ea] at h
 cases hv : w.cell? a with
 | none => rw [hv] at h; simp at h
 | some v => rw [hv] at h; simp at h; exact ⟨v, rfl, h.symm⟩
theorem Ql8 {w : World} {a : Addr} {v : Value} (h : w.cell? a = some v) : a.spot = none ∧ ∃ c E fz, w.heap[a.block]? = some (.cells c E fz) ∧ c[a.off]? = some v := by
 unfold World.cell? at h
 split at h
 ·next c E fz hb =>
  cases hs : a.spot with
  | none => rw [hs] at h; simp at h; exact ⟨rfl, c, E, fz, hb, h⟩
  | some s => rw [hs] at h; simp at h
 simp at h
theorem Qtw (hu : P.underlying t = some (.slice e)) (hc : P.cellsOf e = 1) (he : Opens P e (fun _ cs => ∃ a, cs = [f a])) :
  Opens P t (fun w cs => ∃ (v : Value) (l : List α), cs = [v] ∧ Rd (Jd w) f v l ∧ l.length ≤ 9223372036854775807) := by
 refine ⟨fun H enc w fuel cs x h => ?_⟩
 rcases DataW.trod_slice hu h with ⟨rfl, _⟩ | ⟨a, len, cap, elems, rest, m, _, rfl, _, _, hl, hm, hlen, hel, _, _⟩
 ·exact ⟨_, [], rfl, Rd.nil _ _, by simp⟩
 rw [hc] at hel
 have each : ∀ i, i < len → ∃ b : α, w.cell? (a.add i) = some (f b) := by
  intro i hi
  have h1 := hel i hi
  rw [dB (by omega), Nat.mul_one] at h1
  obtain ⟨cs', h2, h3⟩ := Option.bind_eq_some_iff.1 h1
  obtain ⟨v, h4, rfl⟩ := Qns h2
  obtain ⟨b, hb⟩ := he.is H enc w m _ _ h3
  exact ⟨b, by rw [h4]; simpa using hb⟩
 obtain ⟨l, hll, hl'⟩ : ∃ l : List α, l.length = len ∧ ∀ i (h : i < l.length), w.cell? (a.add i) = some (f l[i]) := by
  have : ∀ k, k ≤ len → ∃ l : List α, l.length = k ∧ ∀ i (h : i < l.length), w.cell? (a.add i) = some (f l[i]) := by
   intro k
   induction k with
   | zero => intro _; exact ⟨[], rfl, fun i h => by simp at h⟩
   | succ k ih =>
    intro hk
    obtain ⟨l, h1, h2⟩ := ih (by omega)
    obtain ⟨b, hb⟩ := each k (by omega)
    refine ⟨l ++ [b], by simp [h1], fun i h => ?_⟩
    by_cases hi : i < l.length
    ·rw [List.getElem_append_left hi]; exact h2 i hi
    have : i = k := by simp at h; omega
    subst this
    rw [List.getElem_append_right (by omega)]
    simpa [h1] using hb
  exact this len (Nat.le_refl _)
 subst hll
 refine ⟨_, l, rfl, ⟨some a, cap, rfl, hl, fun i hi => ?_⟩, by unfold maxLen at hm; omega⟩
 obtain ⟨b, off, sp⟩ := a
 have h0 := hl' 0 (by omega)
 have ea : (Addr.mk b off sp).add 0 = ⟨b, off, sp⟩ := by simp [Addr.add]
 rw [ea] at h0
 obtain ⟨hs0, _⟩ := Ql8 h0
 simp only at hs0
 subst hs0
 obtain ⟨hs, c, E, fz, hb, hcc⟩ := Ql8 (hl' i hi)
 rw [Vq] at hb hcc
 exact ⟨b, off, c, E, fz, rfl, hb, hcc⟩
end
section
variable {P : Program} {W : World} {r : Reach} {b0 : Nat} {t e : TypeId} {n : Nat} {α : Type} {f : α → Value} {v : Value} {H : Type} {enc : TypeId × Value → H} {d : DataW H} {ps : List MemPlace} {Q : World → List Value → Prop}
theorem Opens.of (ho : Opens P t Q) (h : DataW.Trod enc P W 0 (fun _ => true) true t v d ps) : Q W v.cells.toList := by
 obtain ⟨fuel, hf⟩ := h
 exact ho.is H enc W fuel _ _ hf
theorem Qja (hu : P.underlying t = some (.array n e)) (ho : Opens P t (fun _ cs => ∃ l : List α, cs = l.map f ∧ l.length = n)) (hval : Value.okWide P W r b0 t v) (h : DataW.Trod enc P W 0 (fun _ => true) true t v d ps) :
  ∃ l : List α, v = agg f l ∧ l.length = n := by
 simp only [Value.okWide, hu] at hval
 obtain ⟨cs, rfl, _⟩ := hval
 obtain ⟨l, hl, hn⟩ := ho.of h
 refine ⟨l, ?_, hn⟩
 have : cs.toList = l.map f := by simpa [Value.cells] using hl
 unfold agg cl
 rw [← this]
theorem Qqd {u : Value} {dd : TypeDesc} (hu : P.underlying t = some dd) (ha : Pg dd = false) (hval : Value.okWide P W r b0 t v) (h : v.cells.toList = [u]) : v = u := by
 have hna : ∀ c, v ≠ .agg c := by
  rintro c rfl
  unfold Value.okWide at hval
  rw [hu] at hval
  cases dd <;> simp_all [Cell.okWide, Cell.ok, Pg]
 cases v <;> simp_all [Value.cells]
theorem arg_sl (hu : P.underlying t = some (.slice e)) (ho : Opens P t (fun w cs => ∃ (v : Value) (l : List α), cs = [v] ∧ Rd (Jd w) f v l ∧ l.length ≤ 9223372036854775807)) (hval : Value.okWide P W r b0 t v) (h : DataW.Trod enc P W 0 (fun _ => true) true t v d ps) :
  ∃ l : List α, Rd (Jd W) f v l ∧ l.length ≤ 9223372036854775807 := by
 obtain ⟨u, l, h1, h2, h3⟩ := ho.of h
 obtain rfl := Qqd hu rfl hval h1
 exact ⟨l, h2, h3⟩
theorem arg_i64 (hu : P.underlying t = some (.int .i64)) (hval : Value.okWide P W r b0 t v) (h : DataW.Trod enc P W 0 (fun _ => true) true t v d ps) : ∃ n : Int, v = i64 n ∧ -9223372036854775808 ≤ n ∧ n ≤ 9223372036854775807 := by
 obtain ⟨n, h1, h2, h3⟩ := (Qtx hu).of h
 exact ⟨n, Qqd hu rfl hval h1, h2, h3⟩
theorem arg_u8 (hu : P.underlying t = some (.int .u8)) (hval : Value.okWide P W r b0 t v) (h : DataW.Trod enc P W 0 (fun _ => true) true t v d ps) : ∃ a : BitVec 8, v = u8 a := by
 obtain ⟨n, h1⟩ := (Qbr hu).of h
 exact ⟨n, Qqd hu rfl hval h1⟩
end
end --m
section
open Go.RowKit
set_option linter.unusedVariables false
set_option linter.unusedSimpArgs false
abbrev SlT := (Option Addr × Nat × Nat) × Z4
def slv (t : SlT) : Value := .slice t.1.1 t.1.2.1 t.1.2.2
def sl0 : SlT := ((none, 0, 0), [])
section
variable {α : Type} {f : α → Value} {m : Nat → Option Obj} {v : Value} {l' : List α} {E : TypeId} {Hs He : List (Nat × Obj)}
def ElIn (He : List (Nat × Obj)) (ls : List SlT) : Prop := ∀ p ∈ ls, ∀ m : Nat → Option Obj, (∀ q ∈ He, m q.1 = some q.2) → Rd m u8 (slv p) p.2
theorem ElIn.nil (He : List (Nat × Obj)) : ElIn He [] := fun p hp => by cases hp
theorem ElIn.get {ls : List SlT} {L : List Z4} {k : Nat} (h : ElIn He ls) (hL : ls.map (·.2) = L) (hk : k < ls.length) (hm : ∀ q ∈ He, m q.1 = some q.2) : Rd m u8 (slv (ls.getD k sl0)) (L.getD k []) := by
 subst hL
 have e : ls.getD k sl0 = ls[k] := by simp [aI, hk]
 have e' : (ls.map (·.2)).getD k [] = ls[k].2 := by simp [aI, hk]
 rw [e, e']
 exact h _ (List.getElem_mem hk) m hm
end
section
variable {P : Program} {fr : Nat → Value} {w : World} {ty T T' E E' : TypeId} {x y : Operand} {d : TypeDesc} {z : Option Value} {n kb b off : Nat} {c : Array Value} {fz : Nat × Nat} {R : Rest} {H Hs : List (Nat × Obj)} {α : Type} {f : α → Value} {v : Value} {l : List α}
end
section
variable {P : Program} {fr : Nat → Value} {w : World} {ty T U E : TypeId} {x y : Operand} {v : Value} {l : Z4}
end
end --m
section
open Go.ChangeShapes Go.WideShapes Go.ChangeAt Go.RowKit
set_option linter.unusedVariables false
set_option linter.unusedSimpArgs false
set_option linter.unusedSectionVars false
section
variable {P : Program} {t e : TypeId} {α : Type} {enc : α → List Value} {k : Nat} {q : World → α → Prop}
variable {f0 f1 f2 f3 f4 f5 : Field} {Q0 Q1 Q2 Q3 Q4 Q5 : World → Value → Prop}
end
section
variable {α : Type} [DecidableEq α]
def lkB : List (α × Bool) → α → Bool
 | [], _ => false
 | (a, b) :: l, k => if k = a then b else lkB l k
def insB : List (α × Bool) → α → Bool → List (α × Bool)
 | [], k, v => [(k, v)]
 | (a, b) :: l, k, v => if k = a then (a, v) :: l else (a, b) :: insB l k v
def idxB : List (α × Bool) → α → Nat → Option (Nat × Bool)
 | [], _, _ => none
 | (a, b) :: l, k, i => if k = a then some (i, b) else idxB l k (i + 1)
structure Ents (kf : α → Value) (es : List MapEntry) (l : List (α × Bool)) : Prop where
 is : es.map (fun e => (e.key, e.val)) = l.map fun p => (kf p.1, bl p.2)
theorem Ents.cons_inv {kf : α → Value} {e : MapEntry} {es : List MapEntry} {l : List (α × Bool)} (h : Ents kf (e :: es) l) : ∃ a b l', l = (a, b) :: l' ∧ e.key = kf a ∧ e.val = bl b ∧ Ents kf es l' := by
 match l, h.is with
 | (a, b) :: l', h => simp at h; exact ⟨a, b, l', rfl, h.1.1, h.1.2, ⟨by simpa using h.2⟩⟩
theorem Ents.nil_inv {kf : α → Value} {l : List (α × Bool)} (h : Ents kf [] l) : l = [] := by
 have := congrArg List.length h.is; simpa using this.symm
theorem Ents.put {kf : α → Value} : ∀ {es : List MapEntry} {l : List (α × Bool)} (k : α) (v : Bool) (i : Nat) (c : Nat), Ents kf es l →
  match idxB l k i with
  | some p => i ≤ p.1 ∧ ((es[p.1 - i]?).map (·.key)).getD (kf k) = kf k ∧ Ents kf (es.modify (p.1 - i) fun e => { e with key := kf k, val := bl v }) (insB l k v)
  | none => Ents kf (es ++ [{ key := kf k, val := bl v, born := c }]) (insB l k v)
 | [], l, k, v, i, c, h => by
  obtain rfl := h.nil_inv
  exact ⟨rfl⟩
 | e :: es, l, k, v, i, c, h => by
  obtain ⟨a, b, l', rfl, h1, h2, h3⟩ := h.cons_inv
  unfold idxB insB
  by_cases hk : k = a
  ·subst hk
   rw [if_pos rfl, if_pos rfl]
   refine ⟨Nat.le_refl _, by simp [h1], ⟨?_⟩⟩
   rw [Nat.sub_self]
   simp [h3.is]
  rw [if_neg hk, if_neg hk]
  have ih := Ents.put (kf := kf) k v (i + 1) c h3
  cases hx : idxB l' k (i + 1) with
  | none => rw [hx] at ih; simp only at ih ⊢; exact ⟨by simp [h1, h2, ih.is]⟩
  | some p =>
   rw [hx] at ih
   obtain ⟨h4, h5, h6⟩ := ih
   obtain ⟨j, hj⟩ : ∃ j, p.1 - i = j + 1 := ⟨p.1 - i - 1, by omega⟩
   have hj' : p.1 - (i + 1) = j := by omega
   simp only
   rw [hj'] at h5 h6
   refine ⟨by omega, ?_, ?_⟩
   ·rw [hj]; simpa using h5
   rw [hj]; exact ⟨by simp [h1, h2, h6.is]⟩
end
section
variable {P : Program} {fr : Nat → Value} {w : World} {ty T K V E : TypeId} {x y u : Operand} {R : Rest} {H : List (Nat × Obj)} {α : Type} [DecidableEq α] {kf : α → Value} {b : Nat} {es : Array MapEntry} {c : Nat} {l : List (α × Bool)}
def two (p : ByteArray × ByteArray) : Value := .agg #[.string p.1, .string p.2]
theorem Upd.put {w : World} {b : Nat} {o : Obj} (o' : Obj) (hb : w.heap[b]? = some o) : Upd w b o' { w with heap := w.heap.setIfInBounds b o' } := by
 refine ⟨rfl, rfl, rfl, fun k => ?_⟩
 obtain ⟨hlt, _⟩ := Array.getElem?_eq_some_iff.1 hb
 simp only [Array.getElem?_setIfInBounds]
 by_cases h : k = b
 ·subst h; simp [hlt]
 rw [if_neg h, if_neg (fun e => h e.symm)]
def MapIs (kf : α → Value) (o : Obj) (m : α → Bool) : Prop := ∃ (es : Array MapEntry) (c : Nat) (l : List (α × Bool)), o = .map es c ∧ Ents kf es.toList l ∧ ∀ k, lkB l k = m k
theorem MapIs.cast {kf : α → Value} {o : Obj} {m m' : α → Bool} (h : MapIs kf o m) (e : ∀ k, m k = m' k) : MapIs kf o m' := by
 obtain ⟨es, c, l, h1, h2, h3⟩ := h
 exact ⟨es, c, l, h1, h2, fun k => (h3 k).trans (e k)⟩
end
end --m
end Go.Proofs.YtkmiemlpfkfiiaaDoor
