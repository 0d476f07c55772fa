/- The framework, part f: structs of rows of bytes and of numbers: equality, and as a map's key; parts of elements. Conditions: none. -/
import Derived.Test.YtkmiemlpfkfiiaaDoorFwR
import Derived.Test.YtkmiemlpfkfiiaaDoorFwP
import Derived.Laws.BytesArg
import Derived.Laws.Strings
import Derived.Test.YtkmiemlpfkfiiaaDoorFwL
import Derived.WideKeyRuns
namespace Go.Proofs.YtkmiemlpfkfiiaaDoor
section
open Go.RowKit
set_option linter.unusedVariables false
set_option linter.unusedSimpArgs false
abbrev SlT := (Option Addr × Nat × Nat) × List (BitVec 8)
def slv (t : SlT) : Value := .slice t.1.1 t.1.2.1 t.1.2.2
def sl0 : SlT := ((none, 0, 0), [])
section
variable {α : Type} {f : α → Value} {m : Nat → Option Obj} {v : Value} {l' : List α} {E : TypeId} {Hs He : List (Nat × Obj)}
def ElIn (He : List (Nat × Obj)) (ls : List SlT) : Prop := ∀ p ∈ ls, ∀ m : Nat → Option Obj, (∀ q ∈ He, m q.1 = some q.2) → Rd m u8 (slv p) p.2
theorem ElIn.nil (He : List (Nat × Obj)) : ElIn He [] := fun p hp => by cases hp
theorem ElIn.get {ls : List SlT} {L : List (List (BitVec 8))} {k : Nat} (h : ElIn He ls) (hL : ls.map (·.2) = L) (hk : k < ls.length) (hm : ∀ q ∈ He, m q.1 = some q.2) : Rd m u8 (slv (ls.getD k sl0)) (L.getD k []) := by
 subst hL
 have e : ls.getD k sl0 = ls[k] := by simp [List.getD_eq_getElem?_getD, hk]
 have e' : (ls.map (·.2)).getD k [] = ls[k].2 := by simp [List.getD_eq_getElem?_getD, hk]
 rw [e, e']
 exact h _ (List.getElem_mem hk) m hm
end
section
variable {P : Program} {fr : Nat → Value} {w : World} {ty T T' E E' : TypeId} {x y : Operand} {d : TypeDesc} {z : Option Value} {n kb b off : Nat} {c : Array Value} {fz : Nat × Nat} {R : Rest} {H Hs : List (Nat × Obj)} {α : Type} {f : α → Value} {v : Value} {l : List α}
end
section
variable {P : Program} {fr : Nat → Value} {w : World} {ty T U E : TypeId} {x y : Operand} {v : Value} {l : List (BitVec 8)}
end
end --m
section
open Go.ChangeShapes Go.WideShapes Go.ChangeAt Go.RowKit
set_option linter.unusedVariables false
set_option linter.unusedSimpArgs false
set_option linter.unusedSectionVars false
section
variable {P : Program} {t e : TypeId} {α : Type} {enc : α → List Value} {k : Nat} {q : World → α → Prop}
theorem Qix {β γ : Type} {n : Nat} {p : Nat → β → Prop} (h : ∀ i, i < n → ∃ b, p i b) : ∃ l : List β, l.length = n ∧ ∀ i (hi : i < l.length), p i l[i] := by
 induction n with
 | zero => exact ⟨[], rfl, fun i h => by simp at h⟩
 | succ n ih =>
  obtain ⟨l, h1, h2⟩ := ih fun i hi => h i (by omega)
  obtain ⟨b, hb⟩ := h n (by omega)
  refine ⟨l ++ [b], by simp [h1], fun i hi => ?_⟩
  by_cases hl : i < l.length
  ·rw [List.getElem_append_left hl]; exact h2 i hl
  have : i = n := by simp at hi; omega
  subst this
  rw [List.getElem_append_right (by omega)]
  simpa [h1] using hb
theorem Qnr (hk : Nat.blt 0 k = true) (hu : P.underlying t = some (.slice e)) (hc : P.cellsOf e = k) (he : Opens P e (fun w cs => ∃ a, cs = enc a ∧ (enc a).length = k ∧ q w a)) :
  Opens P t (fun w cs => ∃ (v : Value) (l : List α), cs = [v] ∧ RdK (Yq w) enc k v l ∧ (∀ a ∈ l, q w a) ∧ l.length ≤ 9223372036854775807) := by
 have hk' : 0 < k := Nat.le_of_ble_eq_true hk
 refine ⟨fun H en w fuel cs x h => ?_⟩
 rcases DataW.trod_slice hu h with ⟨rfl, _⟩ | ⟨a, len, cap, elems, rest, m, _, rfl, _, _, hl, hm, hlen, hel, _, _⟩
 ·exact ⟨_, [], rfl, RdK.nil _ _, by simp, by simp⟩
 rw [hc] at hel
 obtain ⟨l, hll, hp⟩ := Qix (γ := Unit) (n := len) (p := fun i b => (∀ j, j < k → w.cell? ((a.add (i * k)).add j) = (enc b)[j]?) ∧ (enc b).length = k ∧ q w b) (by
  intro i hi
  have h1 := hel i hi
  rw [List.getElem?_eq_getElem (by omega)] at h1
  obtain ⟨cs', h2, h3⟩ := Option.bind_eq_some_iff.1 h1
  obtain ⟨b, rfl, hb, hq⟩ := he.is H en w m _ _ h3
  obtain ⟨_, _, h6⟩ := World.cells?_some h2
  exact ⟨b, h6, hb, hq⟩)
 subst hll
 have hmem : ∀ b ∈ l, (enc b).length = k ∧ q w b := by
  intro b hb
  obtain ⟨i, hi, rfl⟩ := List.mem_iff_getElem.1 hb
  exact (hp i hi).2
 refine ⟨_, l, rfl, ⟨fun b hb => (hmem b hb).1, some a, cap, rfl, hl, fun i hi => ?_⟩, fun b hb => (hmem b hb).2, by unfold maxLen at hm; omega⟩
 obtain ⟨b, off, sp⟩ := a
 have h0 := (hp 0 (by omega)).1 0 hk'
 have hx0 : 0 < (enc l[0]).length := by rw [(hp 0 (by omega)).2.1]; exact hk'
 have ea : ((Addr.mk b off sp).add (0 * k)).add 0 = ⟨b, off, sp⟩ := by simp [Addr.add]
 rw [ea, List.getElem?_eq_getElem hx0] at h0
 obtain ⟨hs0, _⟩ := Sr h0
 simp only at hs0
 subst hs0
 have hxi : 0 < (enc l[i]).length := by rw [(hp i hi).2.1]; exact hk'
 have h2 := (hp i hi).1 0 hk'
 rw [J8, J8, List.getElem?_eq_getElem hxi] at h2
 obtain ⟨_, c, E, fz, hb, _⟩ := Sr h2
 refine ⟨b, off, c, E, fz, rfl, hb, fun j hj => ?_⟩
 have h3 := (hp i hi).1 j hj
 rw [J8, J8] at h3
 have hjl : j < (enc l[i]).length := by rw [(hp i hi).2.1]; exact hj
 rw [List.getElem?_eq_getElem hjl] at h3 ⊢
 obtain ⟨_, c', E', fz', hb', hc'⟩ := Sr h3
 simp only at hb hb' hc'
 rw [hb] at hb'
 cases hb'
 rw [← Nat.add_assoc]; exact hc'
variable {f0 f1 f2 f3 f4 f5 : Field} {Q0 Q1 Q2 Q3 Q4 Q5 : World → Value → Prop}
end
section
variable {α : Type} [DecidableEq α]
def lkB : List (α × Bool) → α → Bool
 | [], _ => false
 | (a, b) :: l, k => if k = a then b else lkB l k
def insB : List (α × Bool) → α → Bool → List (α × Bool)
 | [], k, v => [(k, v)]
 | (a, b) :: l, k, v => if k = a then (a, v) :: l else (a, b) :: insB l k v
def idxB : List (α × Bool) → α → Nat → Option (Nat × Bool)
 | [], _, _ => none
 | (a, b) :: l, k, i => if k = a then some (i, b) else idxB l k (i + 1)
structure Ents (kf : α → Value) (es : List MapEntry) (l : List (α × Bool)) : Prop where
 is : es.map (fun e => (e.key, e.val)) = l.map fun p => (kf p.1, bl p.2)
theorem Ents.cons_inv {kf : α → Value} {e : MapEntry} {es : List MapEntry} {l : List (α × Bool)} (h : Ents kf (e :: es) l) : ∃ a b l', l = (a, b) :: l' ∧ e.key = kf a ∧ e.val = bl b ∧ Ents kf es l' := by
 match l, h.is with
 | (a, b) :: l', h => simp at h; exact ⟨a, b, l', rfl, h.1.1, h.1.2, ⟨by simpa using h.2⟩⟩
theorem Ents.nil_inv {kf : α → Value} {l : List (α × Bool)} (h : Ents kf [] l) : l = [] := by
 have := congrArg List.length h.is; simpa using this.symm
theorem Ents.put {kf : α → Value} : ∀ {es : List MapEntry} {l : List (α × Bool)} (k : α) (v : Bool) (i : Nat) (c : Nat), Ents kf es l →
  match idxB l k i with
  | some p => i ≤ p.1 ∧ ((es[p.1 - i]?).map (·.key)).getD (kf k) = kf k ∧ Ents kf (es.modify (p.1 - i) fun e => { e with key := kf k, val := bl v }) (insB l k v)
  | none => Ents kf (es ++ [{ key := kf k, val := bl v, born := c }]) (insB l k v)
 | [], l, k, v, i, c, h => by
  obtain rfl := h.nil_inv
  exact ⟨rfl⟩
 | e :: es, l, k, v, i, c, h => by
  obtain ⟨a, b, l', rfl, h1, h2, h3⟩ := h.cons_inv
  unfold idxB insB
  by_cases hk : k = a
  ·subst hk
   rw [if_pos rfl, if_pos rfl]
   refine ⟨Nat.le_refl _, by simp [h1], ⟨?_⟩⟩
   rw [Nat.sub_self]
   simp [h3.is]
  rw [if_neg hk, if_neg hk]
  have ih := Ents.put (kf := kf) k v (i + 1) c h3
  cases hx : idxB l' k (i + 1) with
  | none => rw [hx] at ih; simp only at ih ⊢; exact ⟨by simp [h1, h2, ih.is]⟩
  | some p =>
   rw [hx] at ih
   obtain ⟨h4, h5, h6⟩ := ih
   obtain ⟨j, hj⟩ : ∃ j, p.1 - i = j + 1 := ⟨p.1 - i - 1, by omega⟩
   have hj' : p.1 - (i + 1) = j := by omega
   simp only
   rw [hj'] at h5 h6
   refine ⟨by omega, ?_, ?_⟩
   ·rw [hj]; simpa using h5
   rw [hj]; exact ⟨by simp [h1, h2, h6.is]⟩
end
section
variable {P : Program} {fr : Nat → Value} {w : World} {ty T K V E : TypeId} {x y u : Operand} {R : Rest} {H : List (Nat × Obj)} {α : Type} [DecidableEq α] {kf : α → Value} {b : Nat} {es : Array MapEntry} {c : Nat} {l : List (α × Bool)}
def two (p : ByteArray × ByteArray) : Value := .agg #[.string p.1, .string p.2]
theorem Upd.put {w : World} {b : Nat} {o : Obj} (o' : Obj) (hb : w.heap[b]? = some o) : Upd w b o' { w with heap := w.heap.setIfInBounds b o' } := by
 refine ⟨rfl, rfl, rfl, fun k => ?_⟩
 obtain ⟨hlt, _⟩ := Array.getElem?_eq_some_iff.1 hb
 simp only [Array.getElem?_setIfInBounds]
 by_cases h : k = b
 ·subst h; simp [hlt]
 rw [if_neg h, if_neg (fun e => h e.symm)]
def MapIs (kf : α → Value) (o : Obj) (m : α → Bool) : Prop := ∃ (es : Array MapEntry) (c : Nat) (l : List (α × Bool)), o = .map es c ∧ Ents kf es.toList l ∧ ∀ k, lkB l k = m k
theorem MapIs.cast {kf : α → Value} {o : Obj} {m m' : α → Bool} (h : MapIs kf o m) (e : ∀ k, m k = m' k) : MapIs kf o m' := by
 obtain ⟨es, c, l, h1, h2, h3⟩ := h
 exact ⟨es, c, l, h1, h2, fun k => (h3 k).trans (e k)⟩
end
end --m
section
open Go.ChangeShapes Go.WideShapes Go.ChangeAt Go.RowKit
set_option linter.unusedVariables false
set_option linter.unusedSimpArgs false
set_option linter.unusedSectionVars false
section
variable {P : Program} {w : World} {fr : Nat → Value} {ty E : TypeId} {x y : Operand} {m : Nat → Option Obj} {v : Value} {k : Nat}
def slnil (v : Value) : Bool := match v with | .slice a _ _ => a.isNone | _ => false
theorem Qkc {β : Type} {enc : β → List Value} {l : List β} {t t' : TypeId} (h : RdK m enc k v l) (hu : P.underlying t = some (.slice E)) (hx : Qv fr x = v) (hy : Qv fr y = .slice none 0 0) : Jf P fr w (.binOp .eql t x y t') ty (bl (slnil v)) := by
 obtain ⟨a, cap, rfl, _, _⟩ := h.is
 exact Qer hu hx hy
theorem Qnf {β : Type} {enc : β → List Value} {l : List β} (h : RdK m enc k v l) (hn : slnil v = true) : [] = l := by
 obtain ⟨a, cap, rfl, _, h2⟩ := h.is
 cases l with
 | nil => rfl
 | cons b l =>
  obtain ⟨q, off, c, E, fz, e, _⟩ := h2 0 (by simp)
  subst e
  simp [slnil] at hn
structure FldEq (P : Program) (w : World) (d : Nat) (f : Field) (xs ys : Array Value) (r : Bool) : Prop where
 name : (f.name == "_") = false
 is : ∃ a b, (part f.type xs f.offset).run P w = .ok a w ∧ (part f.type ys f.offset).run P w = .ok b w ∧ (Op.equalIn d f.type a b).run P w = .ok r w
theorem eqF_nil {d : Nat} {xs ys : Array Value} : (Op.eqFields d xs ys []).run P w = .ok true w := rfl
theorem Qgi {d : Nat} {xs ys : Array Value} {f : Field} {fs : List Field} {r q : Bool} (h : FldEq P w d f xs ys r) (h2 : (Op.eqFields d xs ys fs).run P w = .ok q w) : (Op.eqFields d xs ys (f :: fs)).run P w = .ok (r && q) w := by
 obtain ⟨hn, a, b, h3, h4, h5⟩ := h
 have hn' : f.name ≠ "_" := by simpa using hn
 unfold Op.eqFields
 rw [if_pos hn']
 simp only [Sem.run_bind, h3, h4, h5, Result.andThen_ok]
 cases r
 ·simp
 simpa using h2
theorem Qhz {d : Nat} {f : Field} {K : TypeId} {z zK : Option Value} {n kb kbK off : Nat} (L1 L3 M1 M3 : List (List Value)) {l m : List (BitVec 8)} (hn : (f.name == "_") = false) (ht : f.type = K) (ho : f.offset = off) (hu : P.underlying K = some (.array n E)) (hiK : Y1 P K = some (zK, n, kbK))
  (hE : P.underlying E = some (.int .u8)) (hi : Y1 P E = some (z, 1, kb)) (a1 : l.length = n) (b1 : m.length = n) (h1 : L1.flatten.length = off) (h2 : M1.flatten.length = off) :
  FldEq P w (d + 2) f (Zl (L1 ++ (l.map u8 :: L3))) (Zl (M1 ++ (m.map u8 :: M3))) (l == m) := by
 refine ⟨hn, agg u8 l, agg u8 m, ?_, ?_, ?_⟩
 ·rw [ht, ho]; exact Qcy L1 L3 l hu rfl hiK h1 a1
 ·rw [ht, ho]; exact Qcy M1 M3 m hu rfl hiK h2 b1
 rw [ht]; exact H6 (P := P) (w := w) (d := d + 1) hu hi hE rfl (fun a b => Qk5 hE) a1 b1
theorem Qn2 {d : Nat} {f : Field} {K : TypeId} {off : Nat} (L1 L3 M1 M3 : List (List Value)) {l m : Int} (hn : (f.name == "_") = false) (ht : f.type = K) (ho : f.offset = off) (hu : P.underlying K = some (.int .i64)) (h1 : L1.flatten.length = off) (h2 : M1.flatten.length = off) :
  FldEq P w (d + 1) f (Zl (L1 ++ ([i64 l] :: L3))) (Zl (M1 ++ ([i64 m] :: M3))) (l == m) := by
 refine ⟨hn, i64 l, i64 m, ?_, ?_, ?_⟩
 ·rw [ht, ho]; exact Qhk hu rfl (Qfr L1 L3 _ h1)
 ·rw [ht, ho]; exact Qhk hu rfl (Qfr M1 M3 _ h2)
 rw [ht]; exact run_equalIn_int w d K .i64 .i64 l m hu
theorem run_eqS {t : TypeId} {fs : Array Field} {xs ys : Array Value} {r : Bool} {d : Nat} (ht : P.underlying t = some (.struct fs)) (hp : P.stoodInHeld t = false) (h : (Op.eqFields d xs ys fs.toList).run P w = .ok r w) : (Op.equalIn (d + 1) t (.agg xs) (.agg ys)).run P w = .ok r w := by
 have hf : P.fieldsOf t = fs := by unfold Program.fieldsOf; simp [ht]
 rw [run_equalIn_struct w d t _ _ (by rw [hf]; exact ht) hp, hf]; exact h
theorem run_eq3 {t A I E : TypeId} {f1 f2 f3 : Field} {z zA : Option Value} {kb kbA : Nat} {l1 l3 m1 m3 : List (BitVec 8)} {l2 m2 : Int} (ht : P.underlying t = some (.struct #[f1, f2, f3])) (hp : P.stoodInHeld t = false) (n1 : (f1.name == "_") = false) (n2 : (f2.name == "_") = false) (n3 : (f3.name == "_") = false) (t1 : f1.type = A) (t2 : f2.type = I) (t3 : f3.type = A) (o1 : f1.offset = 0) (o2 : f2.offset = 32) (o3 : f3.offset = 33)
  (hA : P.underlying A = some (.array 32 E)) (hiA : Y1 P A = some (zA, 32, kbA)) (hE : P.underlying E = some (.int .u8)) (hiE : Y1 P E = some (z, 1, kb)) (hI : P.underlying I = some (.int .i64)) (a1 : l1.length = 32) (a3 : l3.length = 32) (b1 : m1.length = 32) (b3 : m3.length = 32) :
  (Op.equalIn (9999 + 1) t (.agg (Zl [l1.map u8, [i64 l2], l3.map u8])) (.agg (Zl [m1.map u8, [i64 m2], m3.map u8]))).run P w = .ok (l1 == m1 && (l2 == m2 && (l3 == m3 && true))) w := by
 have h1 : FldEq P w 9999 f1 (Zl [l1.map u8, [i64 l2], l3.map u8]) (Zl [m1.map u8, [i64 m2], m3.map u8]) (l1 == m1) := Qhz (d := 9997) [] [[i64 l2], l3.map u8] [] [[i64 m2], m3.map u8] n1 t1 o1 hA hiA hE hiE a1 b1 rfl rfl
 have h2 : FldEq P w 9999 f2 (Zl [l1.map u8, [i64 l2], l3.map u8]) (Zl [m1.map u8, [i64 m2], m3.map u8]) (l2 == m2) := Qn2 (d := 9998) [l1.map u8] [l3.map u8] [m1.map u8] [m3.map u8] n2 t2 o2 hI (by simp [a1]) (by simp [b1])
 have h3 : FldEq P w 9999 f3 (Zl [l1.map u8, [i64 l2], l3.map u8]) (Zl [m1.map u8, [i64 m2], m3.map u8]) (l3 == m3) := Qhz (d := 9997) [l1.map u8, [i64 l2]] [] [m1.map u8, [i64 m2]] [] n3 t3 o3 hA hiA hE hiE a3 b3 (by simp [a1]) (by simp [b1])
 exact run_eqS (d := 9999) ht hp (Qgi h1 (Qgi h2 (Qgi h3 eqF_nil)))
theorem Qn9 {t t' A I E : TypeId} {f1 f2 f3 : Field} {z zA : Option Value} {kb kbA : Nat} {l1 l3 m1 m3 : List (BitVec 8)} {l2 m2 : Int} (ht : P.underlying t = some (.struct #[f1, f2, f3])) (hp : P.stoodInHeld t = false) (n1 : (f1.name == "_") = false) (n2 : (f2.name == "_") = false) (n3 : (f3.name == "_") = false) (t1 : f1.type = A) (t2 : f2.type = I) (t3 : f3.type = A) (o1 : f1.offset = 0) (o2 : f2.offset = 32) (o3 : f3.offset = 33)
  (hA : P.underlying A = some (.array 32 E)) (hiA : Y1 P A = some (zA, 32, kbA)) (hE : P.underlying E = some (.int .u8)) (hiE : Y1 P E = some (z, 1, kb)) (hI : P.underlying I = some (.int .i64)) (hg : P.eqGuardType P.depth t = false) (hx : Qv fr x = .agg (Zl [l1.map u8, [i64 l2], l3.map u8])) (hy : Qv fr y = .agg (Zl [m1.map u8, [i64 m2], m3.map u8])) (a1 : l1.length = 32) (a3 : l3.length = 32) (b1 : m1.length = 32) (b3 : m3.length = 32) :
  Jf P fr w (.binOp .neq t x y t') ty (bl (!(l1 == m1 && (l2 == m2 && (l3 == m3 && true))))) := Qh3 hg (run_eq3 ht hp n1 n2 n3 t1 t2 t3 o1 o2 o3 hA hiA hE hiE hI a1 a3 b1 b3) hx hy
structure Pl where
 c : List (BitVec 8)
 n : Int
 h : c.length = 32
theorem Pl.ext' {a b : Pl} (h1 : a.c = b.c) (h2 : a.n = b.n) : a = b := by cases a; cases b; simp at h1 h2; subst h1 h2; rfl
instance : DecidableEq Pl := fun a b => if h : a.c = b.c ∧ a.n = b.n then .isTrue (Pl.ext' h.1 h.2) else .isFalse (fun e => h ⟨by rw [e], by rw [e]⟩)
end
end --m
end Go.Proofs.YtkmiemlpfkfiiaaDoor
