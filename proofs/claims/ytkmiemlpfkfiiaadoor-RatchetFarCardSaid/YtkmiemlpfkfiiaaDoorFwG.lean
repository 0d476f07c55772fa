/- The framework, part G: append, copy, make, composite literals, lengths. Conditions: none. -/
import Derived.Test.YtkmiemlpfkfiiaaDoorFwF
namespace Go.Proofs.YtkmiemlpfkfiiaaDoor
set_option linter.unusedSimpArgs false
set_option linter.unusedVariables false
section
variable {P : Program} {w : World} {α : Type} {f : α → Value} {u : Value} {ms : List α} {b off : Nat}
theorem Qfg (h : Rd (Yn w) f u ms) : (Builtin.lenOf u).run P w = .ok ms.length w ∧ ∀ d, (Builtin.firstCells 1 ms.length u).run P { w with drawn := d } = .ok (cl f ms) { w with drawn := d } := by
 obtain ⟨a, cap, rfl, hle, h2⟩ := h.is
 refine ⟨by simp [Builtin.lenOf], fun d => ?_⟩
 cases a with
 | none =>
  have : ms = [] := by
   cases ms with
   | nil => rfl
   | cons x ms => obtain ⟨b, off, c, E, fz, h, _⟩ := h2 0 Xk; cases h
  subst this; simp [Builtin.firstCells, cl]
 | some ad =>
  by_cases hz : ms.length = 0
  ·have : ms = [] := List.eq_nil_of_length_eq_zero hz
   subst this
   simp [Builtin.firstCells, loadCells, loadCellsFrom, cl]
  obtain ⟨b, off, c, E, fz, hab, hb, _⟩ := h2 0 (by omega)
  cases hab
  have hall : ∀ i (h : i < ms.length), c[off + i]? = some (f ms[i]) := by
   intro i hi
   obtain ⟨b', off', c', E', fz', hab, hb', hc⟩ := h2 i hi
   cases hab
   simp only [Yn] at hb hb'
   rw [hb] at hb'; cases hb'; exact hc
  have hsz : off + ms.length ≤ c.size := by
   have := hall (ms.length - 1) (by omega)
   have hlt : off + (ms.length - 1) < c.size := by
    rcases Nat.lt_or_ge (off + (ms.length - 1)) c.size with h | h
    ·exact h
    rw [Array.getElem?_eq_none h] at this; cases this
   omega
  simp only [Builtin.firstCells, Nat.mul_one]
  rw [Bi (w := { w with drawn := d }) (n := ms.length) hb hsz]
  congr 1
  apply Array.ext'
  apply List.ext_getElem?
  intro i
  simp only [Array.toList_extract, List.extract_eq_take_drop, cl, List.getElem?_take, List.getElem?_drop, List.getElem?_map]
  by_cases hi : i < ms.length
  ·rw [if_pos (by omega)]
   have := hall i hi
   simp only [Array.getElem?_toList, this]; simp [hi]
  rw [if_neg (by omega)]; simp [List.getElem?_eq_none (Nat.le_of_not_lt hi)]
end
theorem Qny (n c : Nat) : Builtin.growBy n 4 c ≤ 3 * c + 1200 := by
 simp only [Builtin.growBy]
 repeat' split
 all_goals omega
theorem Qei {need old : Nat} (h : old < need) : Builtin.nextslicecap need old ≤ 4 * need + 1024 := by
 unfold Builtin.nextslicecap
 split
 ·omega
 split
 ·omega
 have := Qny need old; omega
section
variable {P : Program} {fr : Nat → Value} {w : World} {ty T T' E E' : TypeId} {x y : Operand} {d : TypeDesc} {z : Option Value} {n kb b off : Nat} {c : Array Value} {fz : Nat × Nat} {R : Rest} {H Hs : List (Nat × Obj)} {α : Type} {f : α → Value} {v : Value} {l : List α}
theorem Gl (bi : Builtin) (xs : Array Operand) (ts : Array TypeId) : Ew (Qg fr) (.call ⟨.builtin bi, xs, ts⟩) ty = builtin bi ts ty (xs.map fun | .const _ => true | _ => false) (xs.map (Qg fr)) := rfl
theorem Qbf {zv u : Value} {ms : List α} {a : Option Addr} {len cap : Nat} (hx : Qg fr x = .slice a len cap) (hy : Qg fr y = u) (hr : Rd (Yn w) f u ms) (hT : P.underlying T = some (.slice E)) (hT' : P.underlying T' = some (.slice E'))
  (hi : X4 P E = some (some zv, 1, kb)) (hc : len + ms.length ≤ cap) {w' : World} (hs : ∀ a', a = some a' → (storeCells (a'.add len) (cl f ms).toList).run P w = .ok () w') (hn : a = none → w' = w) :
  (Ew (Qg fr) (.call ⟨.builtin .append, #[x, y], #[T, T']⟩) ty).run P w = .ok (.value (.slice a (len + ms.length) cap)) w' := by
 obtain ⟨hlen, hcells⟩ := Qfg (P := P) hr
 have hcells0 : (Builtin.firstCells 1 ms.length u).run P w = .ok (cl f ms) w := hcells w.drawn
 rw [Gl]
 simp only [List.map_toArray, List.map_cons, List.map_nil, hx, hy]
 simp only [builtin, Builtin.append_, Sem.run_bind]
 simp only [List.getElem?_toArray, List.getElem?_cons_zero, List.getElem?_cons_succ]
 simp only [Sem.run_bind, Jg hT, Result.andThen_ok, Yo hi, Jg hT', Sem.run_pure, Bool.false_eq_true, if_false, hlen, hc, if_true]
 cases a with
 | none => simp [hcells0, hn]
 | some a' => have := hs a' rfl; simp [hcells0, this]
theorem Qfb {zv u : Value} {ms : List α} {a : Option Addr} {cap : Nat} (hx : Qg fr x = .slice a l.length cap) (hy : Qg fr y = u) (hr : Rd (Yn w) f u ms) (hv : Rd (Yn w) f (.slice a l.length cap) l) (hT : P.underlying T = some (.slice E)) (hT' : P.underlying T' = some (.slice E'))
  (hi : X4 P E = some (some zv, 1, kb)) (hz1 : zv.cells.size = 1) (hc : ¬ l.length + ms.length ≤ cap) (hn : (4 * (l.length + ms.length) + 1024) * kb ≤ 281474976710656) (hn1 : l.length + ms.length ≤ 281474976710656) :
  ∃ nc rest, nc = l.length + ms.length + (Array.size rest) ∧ (Ew (Qg fr) (.call ⟨.builtin .append, #[x, y], #[T, T']⟩) ty).run P w =
   .ok (.value (.slice (some ⟨w.heap.size, 0, none⟩) (l.length + ms.length) nc)) { w with heap := w.heap.push (.cells (cl f l ++ cl f ms ++ rest) E), drawn := w.drawn + 1 } := by
 obtain ⟨hlen, hcells⟩ := Qfg (P := P) hr
 have hnew : (Builtin.firstCells 1 ms.length u).run P w.drew = .ok (cl f ms) w.drew := hcells (w.drawn + 1)
 have hold : (Builtin.firstCells 1 l.length (.slice a l.length cap)).run P w.drew = .ok (cl f l) w.drew := (Qfg (P := P) hv).2 (w.drawn + 1)
 obtain ⟨info, hi1, hi2, hi3, hi4⟩ := Hz (P := P) (w := w) hi
 obtain ⟨info', hi1', hi2', _, _⟩ := Hz (P := P) (w := w.drew) hi
 have h1 : ¬ (9223372036854775807 < (l.length : Int) + (ms.length : Int) ∧ info.bytes = 0) := by omega
 have h2 : ¬ (281474976710656 < Builtin.nextslicecap (l.length + ms.length) cap * info.bytes) := by
  have := Qei (need := l.length + ms.length) (old := cap) (by omega)
  have h3 : Builtin.nextslicecap (l.length + ms.length) cap * kb ≤ (4 * (l.length + ms.length) + 1024) * kb := Nat.mul_le_mul_right _ this
  rw [hi2]; omega
 have hz : (zeroValue E).run P w.drew = .ok zv w.drew := Vt hi
 let t := w.tape w.drawn (.appendCap (l.length + ms.length) cap E)
 refine ⟨l.length + ms.length + t % (2 ^ 63 - (l.length + ms.length)), Builtin.zeroCells zv.cells (t % (2 ^ 63 - (l.length + ms.length))), ?_, ?_⟩
 ·simp [Builtin.zeroCells, hz1]
 rw [Gl]
 simp only [List.map_toArray, List.map_cons, List.map_nil, hx, hy]
 simp only [builtin, Builtin.append_, Sem.run_bind]
 simp only [List.getElem?_toArray, List.getElem?_cons_zero, List.getElem?_cons_succ]
 simp only [Sem.run_bind, Jg hT, Result.andThen_ok, Yo hi, Jg hT', Sem.run_pure, Bool.false_eq_true, if_false, hlen, hc]
 simp [hi1, h1, h2, Question.forced, Question.cut, hold, hnew, hi1', hz, newRow, IntKind.max, IntKind.signed, IntKind.bits]
 exact ⟨rfl, rfl⟩
theorem Yl {zv u : Value} {ms : List α} (hm : Mem w R (Hs ++ H)) (hg : Xl f E v l Hs) (hx : Qg fr x = v) (hy : Qg fr y = u) (hr : Rd (Yn w) f u ms) (hT : P.underlying T = some (.slice E)) (hT' : P.underlying T' = some (.slice E'))
  (hi : X4 P E = some (some zv, 1, kb)) (hz1 : zv.cells.size = 1) (hf : ∀ a, (f a).oneCell' = true) (hn : (4 * (l.length + ms.length) + 1024) * kb ≤ 281474976710656) (hn1 : l.length + ms.length ≤ 281474976710656) :
  J8 P fr w (.call ⟨.builtin .append, #[x, y], #[T, T']⟩) ty (fun v' w' => ∃ Hs', Mem w' R (Hs' ++ H) ∧ Xl f E v' (l ++ ms) Hs') := by
 have hrd := hg.rd hm
 have grow : ∀ a cap, v = .slice a l.length cap → ¬ l.length + ms.length ≤ cap →
   J8 P fr w (.call ⟨.builtin .append, #[x, y], #[T, T']⟩) ty (fun v' w' => ∃ Hs', Mem w' R (Hs' ++ H) ∧ Xl f E v' (l ++ ms) Hs') := by
  intro a cap hv hc
  subst hv
  obtain ⟨nc, rest, hnc, hrun⟩ := Qfb (ty := ty) hx hy hr hrd hT hT' hi hz1 hc hn hn1
  refine .inl ⟨_, _, hrun, [(w.heap.size, .cells (cl f l ++ cl f ms ++ rest) E (0, 0))], ?_, ?_⟩
  ·have h1 := ((hm.drop Hs H).drew).alloc (.cells (cl f l ++ cl f ms ++ rest) E)
   exact h1
  refine .inr ⟨w.heap.size, [], rest.toList, [], ?_, ?_⟩
  ·simp [Kq, hnc]
  congr 3
  apply Array.ext'; simp [cl]
 rcases hg with ⟨⟨a, rfl⟩, rfl, rfl⟩ | ⟨b, pre, sp, post, rfl, rfl⟩
 ·by_cases hms : ms.length = 0
  ·have : ms = [] := List.eq_nil_of_length_eq_zero hms
   subst this
   have hrun := Qbf (ty := ty) (w' := w) hx hy hr hT hT' hi Xk (fun a' _ => by simp [cl, storeCells]) (fun _ => rfl)
   exact .inl ⟨_, _, hrun, [], hm, .inl ⟨⟨_, rfl⟩, rfl, rfl⟩⟩
  exact grow a 0 rfl (by simp only [List.length_nil]; omega)
 by_cases hc : l.length + ms.length ≤ l.length + sp.length
 ·have hb : w.heap[b]? = some (.cells (pre ++ (l.map f ++ (sp ++ post))).toArray E (0, 0)) := hm.own (b, .cells (pre ++ (l.map f ++ (sp ++ post))).toArray E (0, 0)) Xk
  obtain ⟨w', h1, h2⟩ := V4 (P := P) (cl f ms).toList 0 (pre.length + l.length) (pre ++ (l.map f ++ (sp ++ post))).toArray w hb (by simp [cl]; omega) Xk (by simp [cl]; intro a _; exact hf a)
  have hrun := Qbf (ty := ty) (w' := w') hx hy hr hT hT' hi hc (fun a' ha => by cases ha; rw [Wq]; exact h1) (fun h => by cases h)
  refine .inl ⟨_, _, hrun, [(b, .cells (pre ++ ((l ++ ms).map f ++ (sp.drop ms.length ++ post))).toArray E (0, 0))], ?_, .inr ⟨b, pre, sp.drop ms.length, post, ?_, rfl⟩⟩
  ·have h3 := Mem.upd (H1 := []) hm h2
   have e : ovr (pre ++ (l.map f ++ (sp ++ post))).toArray (pre.length + l.length + 0) (cl f ms).toList = (pre ++ ((l ++ ms).map f ++ (sp.drop ms.length ++ post))).toArray := by
    apply Array.ext'
    rw [Cc _ _ _ (by simp [cl]; omega)]
    have e1 : List.drop (ms.length - sp.length) post = post := by rw [Nat.sub_eq_zero_of_le (by omega), List.drop_zero]
    have e2 : List.take (pre.length + l.length) pre = pre := List.take_of_length_le (by omega)
    have e3 : List.drop (pre.length + (l.length + ms.length)) pre = [] := List.drop_of_length_le (by omega)
    have e4 : List.drop (l.length + ms.length) (List.map f l) = [] := List.drop_of_length_le Xk
    simp [cl, List.take_append, List.drop_append, Nat.add_assoc, e1, e2, e3, e4]
   rw [e] at h3
   exact h3
  simp [Kq]; omega
 exact grow (some ⟨b, pre.length, none⟩) (l.length + sp.length) rfl hc
end
end Go.Proofs.YtkmiemlpfkfiiaaDoor
