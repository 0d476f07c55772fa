/- The framework, part f: structs of rows of bytes and of numbers: equality, and as a map's key; parts of elements. Conditions: none. -/
import Derived.Test.YtkmiemlpfkfiiaaDoorFwR
import Derived.Lib.MakeNoZero
import Derived.Test.YtkmiemlpfkfiiaaDoorFwM
import Derived.WalkKit
import Derived.ProofKit
import Derived.OpenShut
import Derived.ShutString
import Derived.ChangeOld
import Derived.ChangeArms
import Derived.ChangeSlices
import Derived.Below
import Derived.Test.YtkmiemlpfkfiiaaDoorFwP
import Derived.Laws.BytesArg
import Derived.Laws.Strings
import Derived.WideKeyRuns
namespace Go.Proofs.YtkmiemlpfkfiiaaDoor
section
set_option linter.unusedSimpArgs false
set_option linter.unusedVariables false
section
variable {P : Program} {fr : Nat → Value} {w : World} {ty T U E A : TypeId} {x y : Operand} {R : Rest} {H Hs : List (Nat × Obj)}
theorem Qoq {d : Nat} {a b : BitVec 8} (hE : P.underlying E = some (.int .u8)) : (Op.equalIn (d + 1) E (u8 a) (u8 b)).run P w = .ok (a == b) w := by
 have := run_equalIn_int w d E .u8 .u8 (a.toNat : Int) (b.toNat : Int) hE
 unfold u8; rw [this]; congr 1
 rw [Bool.eq_iff_iff, beq_iff_eq, beq_iff_eq]
 constructor
 ·intro h; exact BitVec.eq_of_toNat_eq (by omega)
 rintro rfl; rfl
theorem Qfm {K : TypeId} {dK : TypeDesc} {z : Option Value} {n kb off : Nat} (L1 L3 : List (List Value)) (l : Z8) (hu : P.underlying K = some dK) (hd : Pj dK = true) (hi : Jh P K = some (z, n, kb)) (h1 : L1.flatten.length = off) (hl : l.length = n) : (part K (Qz (L1 ++ (l.map u8 :: L3))) off).run P w = .ok (agg u8 l) w := by
 have e := Qfj L1 [l.map u8] L3 h1 (n := n) (by simpa using hl)
 rw [Gj] at e
 simp only [part, Sem.run_bind, Nj hu, hd, Result.andThen_ok, if_true, Ko hi, Sem.run_pure, agg]
 rw [← e]; rfl
end
end --m
section
open Go.ChangeShapes Go.WideShapes Go.ChangeAt Go.RowKit
set_option linter.unusedSimpArgs false
set_option linter.unusedVariables false
structure Opens (P : Program) (t : TypeId) (Q : World → List Value → Prop) : Prop where
 is : ∀ (H : Type) (enc : TypeId × Value → H) (w : World) (fuel : Nat) (cs : List Value) (x : DataW H × List MemPlace), DataW.trod enc P w 0 (fun _ => true) true fuel t cs = some x → Q w cs
section
variable {P : Program} {t e : TypeId} {n : Nat} {Q : World → List Value → Prop} {α : Type} {f : α → Value}
theorem Opens.mono {Q' : World → List Value → Prop} (h : Opens P t Q) (hm : ∀ w cs, Q w cs → Q' w cs) : Opens P t Q' := ⟨fun H enc w fuel cs x hx => hm _ _ (h.is H enc w fuel cs x hx)⟩
theorem Qdv (hu : P.underlying t = some (.int .i64)) : Opens P t (fun _ cs => ∃ n : Int, cs = [i64 n] ∧ -9223372036854775808 ≤ n ∧ n ≤ 9223372036854775807) := by
 refine ⟨fun H enc w fuel cs x h => ?_⟩
 obtain ⟨n, rfl, _, hw⟩ := DataW.trod_int hu h
 simp only [Lit.wf, Bool.and_eq_true, decide_eq_true_eq] at hw
 exact ⟨n, rfl, hw.1, hw.2⟩
theorem Qjb (hu : P.underlying t = some .bool) : Opens P t (fun _ cs => ∃ b, cs = [bl b]) := by
 refine ⟨fun H enc w fuel cs x h => ?_⟩
 obtain ⟨b, rfl, _⟩ := DataW.trod_bool hu h
 exact ⟨b, rfl⟩
theorem Lp (hu : P.underlying t = some (.int .u8)) : Opens P t (fun _ cs => ∃ a : BitVec 8, cs = [u8 a]) := by
 refine ⟨fun H enc w fuel cs x h => ?_⟩
 obtain ⟨n, rfl, _, hw⟩ := DataW.trod_int hu h
 simp only [Lit.wf, Bool.and_eq_true, decide_eq_true_eq] at hw
 have h0 : 0 ≤ n := hw.1
 have h1 : n ≤ 255 := hw.2
 refine ⟨BitVec.ofNat 8 n.toNat, ?_⟩
 unfold u8
 rw [BitVec.toNat_ofNat, Nat.mod_eq_of_lt (by omega)]
 rw [Int.toNat_of_nonneg h0]
theorem all_map {l : List Value} (h : ∀ i, i < l.length → ∃ a, l[i]? = some (f a)) : ∃ m : List α, l = m.map f := by
 induction l with
 | nil => exact ⟨[], rfl⟩
 | cons v l ih =>
  obtain ⟨a, ha⟩ := h 0 Ya
  obtain ⟨m, rfl⟩ := ih fun i hi => by
   obtain ⟨b, hb⟩ := h (i + 1) (by simp; omega)
   exact ⟨b, by simpa using hb⟩
  simp at ha
  exact ⟨a :: m, by simp [ha]⟩
theorem Aj (hu : P.underlying t = some (.array n e)) (hc : P.cellsOf e = 1) (hc' : P.cellsOf t = n) (he : Opens P e (fun _ cs => ∃ a, cs = [f a])) : Opens P t (fun _ cs => ∃ l : List α, cs = l.map f ∧ l.length = n) := by
 refine ⟨fun H enc w fuel cs x h => ?_⟩
 obtain ⟨xs, m, _, _, hl, hx, hi⟩ := DataW.trod_array hu h
 rw [hc'] at hl
 obtain ⟨l, rfl⟩ : ∃ l : List α, cs = l.map f := all_map fun i hlt => by
  have hi' := hi i (by omega)
  have hlt2 : i < xs.length := by omega
  rw [List.getElem?_eq_getElem hlt2, hc] at hi'
  obtain ⟨a, ha⟩ := he.is H enc w m _ _ hi'
  refine ⟨a, ?_⟩
  have hd : (cs.drop (i * 1)).take 1 = [f a] := ha
  rw [Nat.mul_one] at hd
  have := congrArg (fun l => l[0]?) hd
  simpa [List.getElem?_take, List.getElem?_drop] using this
 exact ⟨l, rfl, by simpa using hl⟩
theorem Qmp {w : World} {a : Addr} {cs : List Value} (h : w.cells? 0 a 1 = some cs) : ∃ v, w.cell? a = some v ∧ cs = [v] := by
 simp only [World.cells?, Nat.zero_le, if_true, List.range_one] at h
 simp only [List.mapM_cons, List.mapM_nil] at h
 have ea : a.add 0 = a := by cases a; simp [Addr.add]
 rw [ea] at h
 cases hv : w.cell? a with
 | none => rw [hv] at h; simp at h
 | some v => rw [hv] at h; simp at h; exact ⟨v, rfl, h.symm⟩
theorem Qb8 {w : World} {a : Addr} {v : Value} (h : w.cell? a = some v) : a.spot = none ∧ ∃ c E fz, w.heap[a.block]? = some (.cells c E fz) ∧ c[a.off]? = some v := by
 unfold World.cell? at h
 split at h
 ·next c E fz hb =>
  cases hs : a.spot with
  | none => rw [hs] at h; simp at h; exact ⟨rfl, c, E, fz, hb, h⟩
  | some s => rw [hs] at h; simp at h
 simp at h
theorem Qk4 (hu : P.underlying t = some (.slice e)) (hc : P.cellsOf e = 1) (he : Opens P e (fun _ cs => ∃ a, cs = [f a])) :
  Opens P t (fun w cs => ∃ (v : Value) (l : List α), cs = [v] ∧ Rd (Y8 w) f v l ∧ l.length ≤ 9223372036854775807) := by
 refine ⟨fun H enc w fuel cs x h => ?_⟩
 rcases DataW.trod_slice hu h with ⟨rfl, _⟩ | ⟨a, len, cap, elems, rest, m, _, rfl, _, _, hl, hm, hlen, hel, _, _⟩
 ·exact ⟨_, [], rfl, Rd.nil _ _, by simp⟩
 rw [hc] at hel
 have each : ∀ i, i < len → ∃ b : α, w.cell? (a.add i) = some (f b) := by
  intro i hi
  have h1 := hel i hi
  rw [List.getElem?_eq_getElem (by omega), Nat.mul_one] at h1
  obtain ⟨cs', h2, h3⟩ := Option.bind_eq_some_iff.1 h1
  obtain ⟨v, h4, rfl⟩ := Qmp h2
  obtain ⟨b, hb⟩ := he.is H enc w m _ _ h3
  exact ⟨b, by rw [h4]; simpa using hb⟩
 obtain ⟨l, hll, hl'⟩ : ∃ l : List α, l.length = len ∧ ∀ i (h : i < l.length), w.cell? (a.add i) = some (f l[i]) := by
  have : ∀ k, k ≤ len → ∃ l : List α, l.length = k ∧ ∀ i (h : i < l.length), w.cell? (a.add i) = some (f l[i]) := by
   intro k
   induction k with
   | zero => intro _; exact ⟨[], rfl, fun i h => by simp at h⟩
   | succ k ih =>
    intro hk
    obtain ⟨l, h1, h2⟩ := ih (by omega)
    obtain ⟨b, hb⟩ := each k (by omega)
    refine ⟨l ++ [b], by simp [h1], fun i h => ?_⟩
    by_cases hi : i < l.length
    ·rw [List.getElem_append_left hi]; exact h2 i hi
    have : i = k := by simp at h; omega
    subst this
    rw [List.getElem_append_right (by omega)]
    simpa [h1] using hb
  exact this len (Nat.le_refl _)
 subst hll
 refine ⟨_, l, rfl, ⟨some a, cap, rfl, hl, fun i hi => ?_⟩, by unfold maxLen at hm; omega⟩
 obtain ⟨b, off, sp⟩ := a
 have h0 := hl' 0 (by omega)
 have ea : (Addr.mk b off sp).add 0 = ⟨b, off, sp⟩ := by simp [Addr.add]
 rw [ea] at h0
 obtain ⟨hs0, _⟩ := Qb8 h0
 simp only at hs0
 subst hs0
 obtain ⟨hs, c, E, fz, hb, hcc⟩ := Qb8 (hl' i hi)
 rw [Ws] at hb hcc
 exact ⟨b, off, c, E, fz, rfl, hb, hcc⟩
end
section
variable {P : Program} {W : World} {r : Reach} {b0 : Nat} {t e : TypeId} {n : Nat} {α : Type} {f : α → Value} {v : Value} {H : Type} {enc : TypeId × Value → H} {d : DataW H} {ps : List MemPlace} {Q : World → List Value → Prop}
theorem Opens.of (ho : Opens P t Q) (h : DataW.Trod enc P W 0 (fun _ => true) true t v d ps) : Q W v.cells.toList := by
 obtain ⟨fuel, hf⟩ := h
 exact ho.is H enc W fuel _ _ hf
theorem arg_arr (hu : P.underlying t = some (.array n e)) (ho : Opens P t (fun _ cs => ∃ l : List α, cs = l.map f ∧ l.length = n)) (hval : Value.okWide P W r b0 t v) (h : DataW.Trod enc P W 0 (fun _ => true) true t v d ps) :
  ∃ l : List α, v = agg f l ∧ l.length = n := by
 simp only [Value.okWide, hu] at hval
 obtain ⟨cs, rfl, _⟩ := hval
 obtain ⟨l, hl, hn⟩ := ho.of h
 refine ⟨l, ?_, hn⟩
 have : cs.toList = l.map f := by simpa [Value.cells] using hl
 unfold agg cl
 rw [← this]
theorem one_of {u : Value} {dd : TypeDesc} (hu : P.underlying t = some dd) (ha : Pj dd = false) (hval : Value.okWide P W r b0 t v) (h : v.cells.toList = [u]) : v = u := by
 have hna : ∀ c, v ≠ .agg c := by
  rintro c rfl
  unfold Value.okWide at hval
  rw [hu] at hval
  cases dd <;> simp_all [Cell.okWide, Cell.ok, Pj]
 cases v <;> simp_all [Value.cells]
theorem arg_sl (hu : P.underlying t = some (.slice e)) (ho : Opens P t (fun w cs => ∃ (v : Value) (l : List α), cs = [v] ∧ Rd (Y8 w) f v l ∧ l.length ≤ 9223372036854775807)) (hval : Value.okWide P W r b0 t v) (h : DataW.Trod enc P W 0 (fun _ => true) true t v d ps) :
  ∃ l : List α, Rd (Y8 W) f v l ∧ l.length ≤ 9223372036854775807 := by
 obtain ⟨u, l, h1, h2, h3⟩ := ho.of h
 obtain rfl := one_of hu rfl hval h1
 exact ⟨l, h2, h3⟩
end
end --m
section
open Go.RowKit
set_option linter.unusedVariables false
set_option linter.unusedSimpArgs false
abbrev SlT := (Option Addr × Nat × Nat) × Z8
def slv (t : SlT) : Value := .slice t.1.1 t.1.2.1 t.1.2.2
def sl0 : SlT := ((none, 0, 0), [])
section
variable {α : Type} {f : α → Value} {m : Nat → Option Obj} {v : Value} {l' : List α} {E : TypeId} {Hs He : List (Nat × Obj)}
def ElIn (He : List (Nat × Obj)) (ls : List SlT) : Prop := ∀ p ∈ ls, ∀ m : Nat → Option Obj, (∀ q ∈ He, m q.1 = some q.2) → Rd m u8 (slv p) p.2
theorem ElIn.nil (He : List (Nat × Obj)) : ElIn He [] := fun p hp => by cases hp
theorem ElIn.get {ls : List SlT} {L : List Z8} {k : Nat} (h : ElIn He ls) (hL : ls.map (·.2) = L) (hk : k < ls.length) (hm : ∀ q ∈ He, m q.1 = some q.2) : Rd m u8 (slv (ls.getD k sl0)) (L.getD k []) := by
 subst hL
 have e : ls.getD k sl0 = ls[k] := by simp [List.getD_eq_getElem?_getD, hk]
 have e' : (ls.map (·.2)).getD k [] = ls[k].2 := by simp [List.getD_eq_getElem?_getD, hk]
 rw [e, e']
 exact h _ (List.getElem_mem hk) m hm
end
section
variable {P : Program} {fr : Nat → Value} {w : World} {ty T T' E E' : TypeId} {x y : Operand} {d : TypeDesc} {z : Option Value} {n kb b off : Nat} {c : Array Value} {fz : Nat × Nat} {R : Rest} {H Hs : List (Nat × Obj)} {α : Type} {f : α → Value} {v : Value} {l : List α}
end
section
variable {P : Program} {fr : Nat → Value} {w : World} {ty T U E : TypeId} {x y : Operand} {v : Value} {l : Z8}
end
end --m
section
open Go.ChangeShapes Go.WideShapes Go.ChangeAt Go.RowKit
set_option linter.unusedVariables false
set_option linter.unusedSimpArgs false
set_option linter.unusedSectionVars false
section
variable {P : Program} {t e : TypeId} {α : Type} {enc : α → List Value} {k : Nat} {q : World → α → Prop}
theorem Qma {β γ : Type} {n : Nat} {p : Nat → β → Prop} (h : ∀ i, i < n → ∃ b, p i b) : ∃ l : List β, l.length = n ∧ ∀ i (hi : i < l.length), p i l[i] := by
 induction n with
 | zero => exact ⟨[], rfl, fun i h => by simp at h⟩
 | succ n ih =>
  obtain ⟨l, h1, h2⟩ := ih fun i hi => h i (by omega)
  obtain ⟨b, hb⟩ := h n (by omega)
  refine ⟨l ++ [b], by simp [h1], fun i hi => ?_⟩
  by_cases hl : i < l.length
  ·rw [List.getElem_append_left hl]; exact h2 i hl
  have : i = n := by simp at hi; omega
  subst this
  rw [List.getElem_append_right (by omega)]
  simpa [h1] using hb
theorem Qrv (hk : Nat.blt 0 k = true) (hu : P.underlying t = some (.slice e)) (hc : P.cellsOf e = k) (he : Opens P e (fun w cs => ∃ a, cs = enc a ∧ (enc a).length = k ∧ q w a)) :
  Opens P t (fun w cs => ∃ (v : Value) (l : List α), cs = [v] ∧ RdK (Y8 w) enc k v l ∧ (∀ a ∈ l, q w a) ∧ l.length ≤ 9223372036854775807) := by
 have hk' : 0 < k := Nat.le_of_ble_eq_true hk
 refine ⟨fun H en w fuel cs x h => ?_⟩
 rcases DataW.trod_slice hu h with ⟨rfl, _⟩ | ⟨a, len, cap, elems, rest, m, _, rfl, _, _, hl, hm, hlen, hel, _, _⟩
 ·exact ⟨_, [], rfl, RdK.nil _ _, by simp, by simp⟩
 rw [hc] at hel
 obtain ⟨l, hll, hp⟩ := Qma (γ := Unit) (n := len) (p := fun i b => (∀ j, j < k → w.cell? ((a.add (i * k)).add j) = (enc b)[j]?) ∧ (enc b).length = k ∧ q w b) (by
  intro i hi
  have h1 := hel i hi
  rw [List.getElem?_eq_getElem (by omega)] at h1
  obtain ⟨cs', h2, h3⟩ := Option.bind_eq_some_iff.1 h1
  obtain ⟨b, rfl, hb, hq⟩ := he.is H en w m _ _ h3
  obtain ⟨_, _, h6⟩ := World.cells?_some h2
  exact ⟨b, h6, hb, hq⟩)
 subst hll
 have hmem : ∀ b ∈ l, (enc b).length = k ∧ q w b := by
  intro b hb
  obtain ⟨i, hi, rfl⟩ := List.mem_iff_getElem.1 hb
  exact (hp i hi).2
 refine ⟨_, l, rfl, ⟨fun b hb => (hmem b hb).1, some a, cap, rfl, hl, fun i hi => ?_⟩, fun b hb => (hmem b hb).2, by unfold maxLen at hm; omega⟩
 obtain ⟨b, off, sp⟩ := a
 have h0 := (hp 0 (by omega)).1 0 hk'
 have hx0 : 0 < (enc l[0]).length := by rw [(hp 0 (by omega)).2.1]; exact hk'
 have ea : ((Addr.mk b off sp).add (0 * k)).add 0 = ⟨b, off, sp⟩ := by simp [Addr.add]
 rw [ea, List.getElem?_eq_getElem hx0] at h0
 obtain ⟨hs0, _⟩ := Qb8 h0
 simp only at hs0
 subst hs0
 have hxi : 0 < (enc l[i]).length := by rw [(hp i hi).2.1]; exact hk'
 have h2 := (hp i hi).1 0 hk'
 rw [Ws, Ws, List.getElem?_eq_getElem hxi] at h2
 obtain ⟨_, c, E, fz, hb, _⟩ := Qb8 h2
 refine ⟨b, off, c, E, fz, rfl, hb, fun j hj => ?_⟩
 have h3 := (hp i hi).1 j hj
 rw [Ws, Ws] at h3
 have hjl : j < (enc l[i]).length := by rw [(hp i hi).2.1]; exact hj
 rw [List.getElem?_eq_getElem hjl] at h3 ⊢
 obtain ⟨_, c', E', fz', hb', hc'⟩ := Qb8 h3
 simp only at hb hb' hc'
 rw [hb] at hb'
 cases hb'
 rw [← Nat.add_assoc]; exact hc'
variable {f0 f1 f2 f3 f4 f5 : Field} {Q0 Q1 Q2 Q3 Q4 Q5 : World → Value → Prop}
end
section
variable {α : Type} [DecidableEq α]
def lkB : List (α × Bool) → α → Bool
 | [], _ => false
 | (a, b) :: l, k => if k = a then b else lkB l k
def insB : List (α × Bool) → α → Bool → List (α × Bool)
 | [], k, v => [(k, v)]
 | (a, b) :: l, k, v => if k = a then (a, v) :: l else (a, b) :: insB l k v
def idxB : List (α × Bool) → α → Nat → Option (Nat × Bool)
 | [], _, _ => none
 | (a, b) :: l, k, i => if k = a then some (i, b) else idxB l k (i + 1)
structure Ents (kf : α → Value) (es : List MapEntry) (l : List (α × Bool)) : Prop where
 is : es.map (fun e => (e.key, e.val)) = l.map fun p => (kf p.1, bl p.2)
theorem Ents.cons_inv {kf : α → Value} {e : MapEntry} {es : List MapEntry} {l : List (α × Bool)} (h : Ents kf (e :: es) l) : ∃ a b l', l = (a, b) :: l' ∧ e.key = kf a ∧ e.val = bl b ∧ Ents kf es l' := by
 match l, h.is with
 | (a, b) :: l', h => simp at h; exact ⟨a, b, l', rfl, h.1.1, h.1.2, ⟨by simpa using h.2⟩⟩
theorem Ents.nil_inv {kf : α → Value} {l : List (α × Bool)} (h : Ents kf [] l) : l = [] := by
 have := congrArg List.length h.is; simpa using this.symm
theorem Ents.put {kf : α → Value} : ∀ {es : List MapEntry} {l : List (α × Bool)} (k : α) (v : Bool) (i : Nat) (c : Nat), Ents kf es l →
  match idxB l k i with
  | some p => i ≤ p.1 ∧ ((es[p.1 - i]?).map (·.key)).getD (kf k) = kf k ∧ Ents kf (es.modify (p.1 - i) fun e => { e with key := kf k, val := bl v }) (insB l k v)
  | none => Ents kf (es ++ [{ key := kf k, val := bl v, born := c }]) (insB l k v)
 | [], l, k, v, i, c, h => by
  obtain rfl := h.nil_inv
  exact ⟨rfl⟩
 | e :: es, l, k, v, i, c, h => by
  obtain ⟨a, b, l', rfl, h1, h2, h3⟩ := h.cons_inv
  unfold idxB insB
  by_cases hk : k = a
  ·subst hk
   rw [if_pos rfl, if_pos rfl]
   refine ⟨Nat.le_refl _, by simp [h1], ⟨?_⟩⟩
   rw [Nat.sub_self]
   simp [h3.is]
  rw [if_neg hk, if_neg hk]
  have ih := Ents.put (kf := kf) k v (i + 1) c h3
  cases hx : idxB l' k (i + 1) with
  | none => rw [hx] at ih; simp only at ih ⊢; exact ⟨by simp [h1, h2, ih.is]⟩
  | some p =>
   rw [hx] at ih
   obtain ⟨h4, h5, h6⟩ := ih
   obtain ⟨j, hj⟩ : ∃ j, p.1 - i = j + 1 := ⟨p.1 - i - 1, by omega⟩
   have hj' : p.1 - (i + 1) = j := by omega
   simp only
   rw [hj'] at h5 h6
   refine ⟨by omega, ?_, ?_⟩
   ·rw [hj]; simpa using h5
   rw [hj]; exact ⟨by simp [h1, h2, h6.is]⟩
end
section
variable {P : Program} {fr : Nat → Value} {w : World} {ty T K V E : TypeId} {x y u : Operand} {R : Rest} {H : List (Nat × Obj)} {α : Type} [DecidableEq α] {kf : α → Value} {b : Nat} {es : Array MapEntry} {c : Nat} {l : List (α × Bool)}
def two (p : ByteArray × ByteArray) : Value := .agg #[.string p.1, .string p.2]
theorem Upd.put {w : World} {b : Nat} {o : Obj} (o' : Obj) (hb : w.heap[b]? = some o) : Upd w b o' { w with heap := w.heap.setIfInBounds b o' } := by
 refine ⟨rfl, rfl, rfl, fun k => ?_⟩
 obtain ⟨hlt, _⟩ := Array.getElem?_eq_some_iff.1 hb
 simp only [Array.getElem?_setIfInBounds]
 by_cases h : k = b
 ·subst h; simp [hlt]
 rw [if_neg h, if_neg (fun e => h e.symm)]
def MapIs (kf : α → Value) (o : Obj) (m : α → Bool) : Prop := ∃ (es : Array MapEntry) (c : Nat) (l : List (α × Bool)), o = .map es c ∧ Ents kf es.toList l ∧ ∀ k, lkB l k = m k
theorem MapIs.cast {kf : α → Value} {o : Obj} {m m' : α → Bool} (h : MapIs kf o m) (e : ∀ k, m k = m' k) : MapIs kf o m' := by
 obtain ⟨es, c, l, h1, h2, h3⟩ := h
 exact ⟨es, c, l, h1, h2, fun k => (h3 k).trans (e k)⟩
end
end --m
section
open Go.ChangeShapes Go.WideShapes Go.ChangeAt Go.RowKit
set_option linter.unusedVariables false
set_option linter.unusedSimpArgs false
set_option linter.unusedSectionVars false
section
variable {P : Program} {w : World} {fr : Nat → Value} {ty E : TypeId} {x y : Operand} {m : Nat → Option Obj} {v : Value} {k : Nat}
def slnil (v : Value) : Bool := match v with | .slice a _ _ => a.isNone | _ => false
theorem Qn2 {β : Type} {enc : β → List Value} {l : List β} {t t' : TypeId} (h : RdK m enc k v l) (hu : P.underlying t = some (.slice E)) (hx : Ql fr x = v) (hy : Ql fr y = .slice none 0 0) : Jy P fr w (.binOp .eql t x y t') ty (bl (slnil v)) := by
 obtain ⟨a, cap, rfl, _, _⟩ := h.is
 exact Qhs hu hx hy
theorem Qri {β : Type} {enc : β → List Value} {l : List β} (h : RdK m enc k v l) (hn : slnil v = true) : [] = l := by
 obtain ⟨a, cap, rfl, _, h2⟩ := h.is
 cases l with
 | nil => rfl
 | cons b l =>
  obtain ⟨q, off, c, E, fz, e, _⟩ := h2 0 Ya
  subst e
  simp [slnil] at hn
structure FldEq (P : Program) (w : World) (d : Nat) (f : Field) (xs ys : Array Value) (r : Bool) : Prop where
 name : (f.name == "_") = false
 is : ∃ a b, (part f.type xs f.offset).run P w = .ok a w ∧ (part f.type ys f.offset).run P w = .ok b w ∧ (Op.equalIn d f.type a b).run P w = .ok r w
theorem Qqv {d : Nat} {xs ys : Array Value} : (Op.eqFields d xs ys []).run P w = .ok true w := rfl
theorem Qb6 {d : Nat} {xs ys : Array Value} {f : Field} {fs : List Field} {r q : Bool} (h : FldEq P w d f xs ys r) (h2 : (Op.eqFields d xs ys fs).run P w = .ok q w) : (Op.eqFields d xs ys (f :: fs)).run P w = .ok (r && q) w := by
 obtain ⟨hn, a, b, h3, h4, h5⟩ := h
 have hn' : f.name ≠ "_" := by simpa using hn
 unfold Op.eqFields
 rw [if_pos hn']
 simp only [Sem.run_bind, h3, h4, h5, Result.andThen_ok]
 cases r
 ·simp
 simpa using h2
theorem Qgy {d : Nat} {f : Field} {K : TypeId} {z zK : Option Value} {n kb kbK off : Nat} (L1 L3 M1 M3 : List (List Value)) {l m : Z8} (hn : (f.name == "_") = false) (ht : f.type = K) (ho : f.offset = off) (hu : P.underlying K = some (.array n E)) (hiK : Jh P K = some (zK, n, kbK))
  (hE : P.underlying E = some (.int .u8)) (hi : Jh P E = some (z, 1, kb)) (a1 : l.length = n) (b1 : m.length = n) (h1 : L1.flatten.length = off) (h2 : M1.flatten.length = off) :
  FldEq P w (d + 2) f (Qz (L1 ++ (l.map u8 :: L3))) (Qz (M1 ++ (m.map u8 :: M3))) (l == m) := by
 refine ⟨hn, agg u8 l, agg u8 m, ?_, ?_, ?_⟩
 ·rw [ht, ho]; exact Qfm L1 L3 l hu rfl hiK h1 a1
 ·rw [ht, ho]; exact Qfm M1 M3 m hu rfl hiK h2 b1
 rw [ht]; exact Sz (P := P) (w := w) (d := d + 1) hu hi hE rfl (fun a b => Qoq hE) a1 b1
theorem Qgx {d : Nat} {f : Field} {K : TypeId} {off : Nat} (L1 L3 M1 M3 : List (List Value)) {l m : Int} (hn : (f.name == "_") = false) (ht : f.type = K) (ho : f.offset = off) (hu : P.underlying K = some (.int .i64)) (h1 : L1.flatten.length = off) (h2 : M1.flatten.length = off) :
  FldEq P w (d + 1) f (Qz (L1 ++ ([i64 l] :: L3))) (Qz (M1 ++ ([i64 m] :: M3))) (l == m) := by
 refine ⟨hn, i64 l, i64 m, ?_, ?_, ?_⟩
 ·rw [ht, ho]; exact Qkx hu rfl (Qfi L1 L3 _ h1)
 ·rw [ht, ho]; exact Qkx hu rfl (Qfi M1 M3 _ h2)
 rw [ht]; exact run_equalIn_int w d K .i64 .i64 l m hu
theorem Qqf {t : TypeId} {fs : Array Field} {xs ys : Array Value} {r : Bool} {d : Nat} (ht : P.underlying t = some (.struct fs)) (hp : P.stoodInHeld t = false) (h : (Op.eqFields d xs ys fs.toList).run P w = .ok r w) : (Op.equalIn (d + 1) t (.agg xs) (.agg ys)).run P w = .ok r w := by
 have hf : P.fieldsOf t = fs := by unfold Program.fieldsOf; simp [ht]
 rw [run_equalIn_struct w d t _ _ (by rw [hf]; exact ht) hp, hf]; exact h
theorem run_eq3 {t A I E : TypeId} {f1 f2 f3 : Field} {z zA : Option Value} {kb kbA : Nat} {l1 l3 m1 m3 : Z8} {l2 m2 : Int} (ht : P.underlying t = some (.struct #[f1, f2, f3])) (hp : P.stoodInHeld t = false) (n1 : (f1.name == "_") = false) (n2 : (f2.name == "_") = false) (n3 : (f3.name == "_") = false) (t1 : f1.type = A) (t2 : f2.type = I) (t3 : f3.type = A) (o1 : f1.offset = 0) (o2 : f2.offset = 32) (o3 : f3.offset = 33)
  (hA : P.underlying A = some (.array 32 E)) (hiA : Jh P A = some (zA, 32, kbA)) (hE : P.underlying E = some (.int .u8)) (hiE : Jh P E = some (z, 1, kb)) (hI : P.underlying I = some (.int .i64)) (a1 : l1.length = 32) (a3 : l3.length = 32) (b1 : m1.length = 32) (b3 : m3.length = 32) :
  (Op.equalIn (9999 + 1) t (.agg (Qz [l1.map u8, [i64 l2], l3.map u8])) (.agg (Qz [m1.map u8, [i64 m2], m3.map u8]))).run P w = .ok (l1 == m1 && (l2 == m2 && (l3 == m3 && true))) w := by
 have h1 : FldEq P w 9999 f1 (Qz [l1.map u8, [i64 l2], l3.map u8]) (Qz [m1.map u8, [i64 m2], m3.map u8]) (l1 == m1) := Qgy (d := 9997) [] [[i64 l2], l3.map u8] [] [[i64 m2], m3.map u8] n1 t1 o1 hA hiA hE hiE a1 b1 rfl rfl
 have h2 : FldEq P w 9999 f2 (Qz [l1.map u8, [i64 l2], l3.map u8]) (Qz [m1.map u8, [i64 m2], m3.map u8]) (l2 == m2) := Qgx (d := 9998) [l1.map u8] [l3.map u8] [m1.map u8] [m3.map u8] n2 t2 o2 hI (by simp [a1]) (by simp [b1])
 have h3 : FldEq P w 9999 f3 (Qz [l1.map u8, [i64 l2], l3.map u8]) (Qz [m1.map u8, [i64 m2], m3.map u8]) (l3 == m3) := Qgy (d := 9997) [l1.map u8, [i64 l2]] [] [m1.map u8, [i64 m2]] [] n3 t3 o3 hA hiA hE hiE a3 b3 (by simp [a1]) (by simp [b1])
 exact Qqf (d := 9999) ht hp (Qb6 h1 (Qb6 h2 (Qb6 h3 Qqv)))
theorem Qsd {t t' A I E : TypeId} {f1 f2 f3 : Field} {z zA : Option Value} {kb kbA : Nat} {l1 l3 m1 m3 : Z8} {l2 m2 : Int} (ht : P.underlying t = some (.struct #[f1, f2, f3])) (hp : P.stoodInHeld t = false) (n1 : (f1.name == "_") = false) (n2 : (f2.name == "_") = false) (n3 : (f3.name == "_") = false) (t1 : f1.type = A) (t2 : f2.type = I) (t3 : f3.type = A) (o1 : f1.offset = 0) (o2 : f2.offset = 32) (o3 : f3.offset = 33)
  (hA : P.underlying A = some (.array 32 E)) (hiA : Jh P A = some (zA, 32, kbA)) (hE : P.underlying E = some (.int .u8)) (hiE : Jh P E = some (z, 1, kb)) (hI : P.underlying I = some (.int .i64)) (hg : P.eqGuardType P.depth t = false) (hx : Ql fr x = .agg (Qz [l1.map u8, [i64 l2], l3.map u8])) (hy : Ql fr y = .agg (Qz [m1.map u8, [i64 m2], m3.map u8])) (a1 : l1.length = 32) (a3 : l3.length = 32) (b1 : m1.length = 32) (b3 : m3.length = 32) :
  Jy P fr w (.binOp .neq t x y t') ty (bl (!(l1 == m1 && (l2 == m2 && (l3 == m3 && true))))) := Qg1 hg (run_eq3 ht hp n1 n2 n3 t1 t2 t3 o1 o2 o3 hA hiA hE hiE hI a1 a3 b1 b3) hx hy
structure Pl where
 c : Z8
 n : Int
 h : c.length = 32
theorem Pl.ext' {a b : Pl} (h1 : a.c = b.c) (h2 : a.n = b.n) : a = b := by cases a; cases b; simp at h1 h2; subst h1 h2; rfl
instance : DecidableEq Pl := fun a b => if h : a.c = b.c ∧ a.n = b.n then .isTrue (Pl.ext' h.1 h.2) else .isFalse (fun e => h ⟨by rw [e], by rw [e]⟩)
theorem Qe5 {a q b : Int} (k : Nat) {t t' : TypeId} (hx : Ql fr x = i64 a) (hy : Ql fr y = i64 b) (hq : a = q * (2 ^ k : Nat)) (h0 : 0 ≤ q) (h2 : a < 9223372036854775808) (h1 : 0 ≤ b ∧ b < (2 ^ k : Nat)) (hk : k < 63) : Jy P fr w (.binOp .or t x y t') ty (i64 (a + b)) :=
 V7 rfl hx hy (by
  obtain ⟨m, rfl⟩ : ∃ m : Nat, q = (m : Int) := ⟨q.toNat, by omega⟩
  obtain ⟨n, rfl⟩ : ∃ n : Nat, b = (n : Int) := ⟨b.toNat, by omega⟩
  have hq' : a = ((m * 2 ^ k : Nat) : Int) := by rw [hq]; push_cast; rfl
  have hm : m * 2 ^ k < 9223372036854775808 := by omega
  have hp : 2 ^ k ≤ 2 ^ 62 := Nat.pow_le_pow_right (by omega) (by omega)
  have ha : (BitVec.ofInt 64 a).toNat = m <<< k := by rw [BitVec.toNat_ofInt, Nat.shiftLeft_eq, hq']; omega
  have hb : (BitVec.ofInt 64 (n : Int)).toNat = n := by rw [BitVec.toNat_ofInt]; omega
  have e : Di .or .i64 a (n : Int) = pure (.int .i64 (IntKind.i64.wrap ((BitVec.ofInt 64 a ||| BitVec.ofInt 64 (n : Int)).toNat : Int))) := rfl
  have h : (BitVec.ofInt 64 a ||| BitVec.ofInt 64 (n : Int)).toNat = m * 2 ^ k + n := by
   rw [BitVec.toNat_or, ha, hb, ← Nat.shiftLeft_add_eq_or_of_lt (show n < 2 ^ k by omega), Nat.shiftLeft_eq]
  have hc : ((m * 2 ^ k + n : Nat) : Int) = a + (n : Int) := by rw [hq']; push_cast; rfl
  have hb2 : a + (n : Int) < 9223372036854775808 := by
   have h3 : m * 2 ^ k + n < (m + 1) * 2 ^ k := by rw [Nat.add_mul]; omega
   have h4 : (m + 1) * 2 ^ k ≤ 9223372036854775808 := by
    have h5 : m < 2 ^ (63 - k) := by
     apply Nat.lt_of_mul_lt_mul_right (a := 2 ^ k); rw [← Nat.pow_add, show 63 - k + k = 63 by omega]; exact hm
    have h6 := Nat.mul_le_mul_right (2 ^ k) (show m + 1 ≤ 2 ^ (63 - k) from h5)
    rw [← Nat.pow_add, show 63 - k + k = 63 by omega] at h6; exact h6
   omega
  rw [e, h, hc, Le (by omega) (by omega)]; rfl)
end
end --m
end Go.Proofs.YtkmiemlpfkfiiaaDoor
