/- The framework, part P: slices of an element of a slice of rows. Conditions: none. -/
import Derived.Test.YtkmiemlpfkfiiaaDoorFwN
import Derived.Laws.IdiomStrings
namespace Go.Proofs.YtkmiemlpfkfiiaaDoor
section
set_option linter.unusedSimpArgs false
set_option linter.unusedVariables false
section
variable {P : Program} {fr : Nat → Value} {w : World} {ty T U E A : TypeId} {x y : Operand} {d : TypeDesc} {z : Option Value} {n kb : Nat} {R : Rest} {H Hs : List (Nat × Obj)} {α : Type} {f : α → Value} {v : Value} {l : List α} {m : Nat → Option Obj}
def Qdq (v : Value) (i j mx : Int) : Value := match v with | .slice a len cap => .slice (if mx.toNat = i.toNat then a else a.map (·.add (i.toNat * 1))) (j.toNat - i.toNat) (mx.toNat - i.toNat) | _ => undef
theorem Xl.cut {j : Int} (hg : Xl f E v l Hs) (h1 : 0 ≤ j) (h2 : j ≤ l.length) : Xl f E (Qdq v 0 j j) (l.take j.toNat) Hs := by
 have hl : (l.take j.toNat).length = j.toNat := by simp; omega
 rcases hg with ⟨⟨a0, rfl⟩, rfl, rfl⟩ | ⟨b, pre, sp, post, rfl, rfl⟩
 ·simp at h2
  have e1 : j.toNat = 0 := by omega
  exact .inl ⟨⟨a0, by simp [Qdq, e1]⟩, by simp, rfl⟩
 refine .inr ⟨b, pre, [], (l.drop j.toNat).map f ++ (sp ++ post), ?_, ?_⟩
 ·rw [hl]
  by_cases h0 : j.toNat = 0
  ·simp [Qdq, Kq, h0]
  simp [Qdq, Kq, h0, Wq]
 have e : l.map f = (l.take j.toNat).map f ++ (l.drop j.toNat).map f := by rw [← List.map_append, List.take_append_drop]
 rw [e]; simp only [List.append_assoc, List.nil_append]
theorem Qis {hi mx : Operand} {j : Int} (h : Rd m f v l) (hu : P.underlying T = some (.slice E)) (hi' : X4 P E = some (z, 1, kb)) (hx : Qg fr x = v) (hhi : Qg fr hi = i64 j) (hmx : Qg fr mx = i64 j) (h0 : 0 ≤ j) (h1 : j ≤ l.length) :
  Yt P fr w (.slice T x none (some hi) (some mx)) ty (Qdq v 0 j j) := by
 obtain ⟨a, cap, rfl, hle, h4⟩ := h.is
 unfold Yt Ew
 show Sem.run P (do let v ← Instr.sliceAt T (Qg fr x) ((none : Option Operand).map (Qg fr)) ((some hi).map (Qg fr)) ((some mx).map (Qg fr)); pure (Next.value v)) w = _
 rw [hx]
 have hb1 : (Instr.sliceBound (i64 j) cap .slice3Acap).run P w = .ok j.toNat w := Wj h0 (by omega)
 have hb2 : (Instr.sliceBound (i64 j) j.toNat .slice3B).run P w = .ok j.toNat w := Wj h0 (by omega)
 simp [Instr.sliceAt, Instr.slice, Instr.sliceBounds, Jg hu, hhi, hmx, hb1, hb2, Yo hi', Qdq]
def sapv (v : Value) : Value := match v with | .slice a _ _ => .pointer a | _ => undef
theorem ev_sap (h : Rd m f v l) (hu : P.underlying A = some (.array n E)) (hx : Qg fr x = v) (hn : n ≤ l.length) : Yt P fr w (.sliceToArrayPointer A x) ty (sapv v) := by
 obtain ⟨a, cap, rfl, hle, h4⟩ := h.is
 unfold Yt Ew
 show Sem.run P (do let v ← Instr.arrayAt A (Qg fr x); pure (Next.value v)) w = _
 rw [hx]
 have : ¬ l.length < n := by omega
 simp [Instr.arrayAt, Jg hu, this, sapv]
theorem Qd8 (h : Rd (Yn w) f v l) (hu : P.underlying T = some (.array n E)) (hi : X4 P T = some (z, n, kb)) (hx : Qg fr x = sapv v) (hn : n ≤ l.length) (h0 : Nat.blt 0 n = true) : Yt P fr w (.load T x) ty (agg f (l.take n)) := by
 have hn0 := Nat.le_of_ble_eq_true h0
 obtain ⟨a, cap, rfl, hle, h4⟩ := h.is
 obtain ⟨b, off, c, E', fz, rfl, hb, _⟩ := h4 0 (by omega)
 have hall : ∀ i (hi : i < l.length), c[off + i]? = some (f l[i]) := by
  intro i hi
  obtain ⟨b', off', c', E2, fz', hab, hb', hc⟩ := h4 i hi
  cases hab
  simp only [Yn] at hb hb'
  rw [hb] at hb'; cases hb'; exact hc
 have hsz : off + n ≤ c.size := by
  have := hall (n - 1) (by omega)
  have hlt : off + (n - 1) < c.size := by
   rcases Nat.lt_or_ge (off + (n - 1)) c.size with h | h
   ·exact h
   rw [Array.getElem?_eq_none h] at this; cases this
  omega
 have hx' : Qg fr x = ptr b off := hx
 have := Qad (ty := ty) hu rfl hi hx' hb hsz
 have e : c.extract off (off + n) = cl f (l.take n) := by
  apply Array.ext'
  apply List.ext_getElem?
  intro i
  simp only [Array.toList_extract, List.extract_eq_take_drop, cl, List.getElem?_take, List.getElem?_drop, List.getElem?_map, Nat.add_sub_cancel_left]
  by_cases hi : i < n
  ·rw [if_pos hi]
   have h5 := hall i (by omega)
   simp only [Array.getElem?_toList, h5, List.getElem?_take, if_pos hi]; simp [show i < l.length by omega]
  rw [if_neg hi]; simp [List.getElem?_take, hi]
 rw [e] at this
 exact this
def J6 (s : ByteArray) : Zj := s.data.toList.map (·.toBitVec)
@[simp] theorem Qgq (s : ByteArray) : (J6 s).length = s.size := by unfold J6; rw [List.length_map, Array.length_toList]; rfl
theorem Qj1 {s : ByteArray} (hm : Mem w R H) (hT : P.underlying T = some .string) (hU : P.underlying U = some (.slice E)) (hE : P.underlying E = some (.int .u8)) (hx : Qg fr x = .string s) (hn : s.size < 9223372036854775807) :
  J8 P fr w (.convert T U x) ty (fun v w' => ∃ b cap c fz, v = Kq b 0 s.size cap ∧ Ext w w' ∧ Mem w' R ((b, .cells c E fz) :: H) ∧ ∀ m : Nat → Option Obj, m b = some (.cells c E fz) → Rd m u8 v (J6 s)) := by
 have hrun := run_bytes_of_string (P := P) w T U E s hT hU hE
 refine .inl ⟨Kq w.heap.size 0 s.size (grownCap w s.size 0 E), _, ?_, w.heap.size, grownCap w s.size 0 E, bytesRow s (grownCap w s.size 0 E), ((bytesRow s (grownCap w s.size 0 E)).size, (bytesRow s (grownCap w s.size 0 E)).size + 1), rfl, (Ext.drew w).trans (Ext.alloc w.drew _), (hm.drew).alloc _, fun m hb => ?_⟩
 ·unfold Ew
  show Sem.run P (do let v ← convert T U (Qg fr x); pure (Next.value v)) w = _
  rw [hx]
  simp only [Sem.run_bind, hrun, Result.andThen_ok, Sem.run_pure]
  rfl
 have hl := Qgq s
 rw [← hl]
 refine Rd.mk' (by rw [hl]; exact grownCap_ge w s.size 0 E) hb fun i hi => ?_
 rw [hl] at hi
 have hi' : i < s.data.size := hi
 simp only [bytesRow, Nat.zero_add]
 rw [Array.getElem?_append_left (by simpa using hi')]
 simp [J6, hi', u8]
 exact ⟨s.data[i], by rw [Array.getElem?_eq_getElem hi'], rfl⟩
theorem Qdf {f : FuncId} {fn : Func} {g : Operand} {caps vs : Array Value} {xs : Array Operand} {ts : Array TypeId} {Φ : Value → World → Prop} (hv : Qg fr g = .func (.func f) #[] caps)
  (hf : P.funcs[f]? = some fn) (hb : fn.body.isNone = false) (hnm : (fn.name == "runtime.NumGoroutine") = false) (ha : xs.map (Qg fr) = vs) (h : Xm P f (vs ++ caps) w Φ) :
  J8 P fr w (.call ⟨.value g, xs, ts⟩) ty Φ := by
 refine .inr (.inr (.inl ⟨f, vs ++ caps, w, ?_, h⟩))
 subst ha
 have he : Ew (Qg fr) (.call ⟨.value g, xs, ts⟩) ty = (do let d ← resolve (Qg fr) ⟨.value g, xs, ts⟩ ty; invoke d.target d.args) := rfl
 rw [he]
 have hnm' : ¬ fn.name = "runtime.NumGoroutine" := by simpa using hnm
 have hb' : ¬ fn.body = none := by cases h : fn.body <;> simp_all
 simp [resolve, hv, Deferred.ofValue, invoke, callFunc, hf, hb', hnm']
theorem Qd7 {f : FuncId} {captured : List Operand} {cs : Array Value} (hc : captured.toArray.map (Qg fr) = cs) : Yt P fr w (.makeFunc (.func f) #[] captured.toArray) ty (.func (.func f) #[] cs) := by
 subst hc
 unfold Yt Ew
 simp [execOp, Instr.makeFunc]
def Fz {α : Type} (f : α → Value) (l : List α) : List Value := l.map f
theorem Yj {α : Type} {f : α → Value} (hf : ∀ a, (f a).oneCell' = true) (l : List α) : (Fz f l).all (·.oneCell') = true := by
 rw [List.all_eq_true]; intro v hv; obtain ⟨a, _, rfl⟩ := List.mem_map.1 hv; exact hf a
theorem Qn4 {c cs : Array Value} {k : Nat} (h1 : cs.size = k) (h2 : c.size = k) : Nh (fun i => some (i * k, k)) c [(0, cs)] = some cs := by
 have e : (Nat.beq cs.size k && Nat.ble (0 * k + cs.size) c.size) = true := by
  rw [Bool.and_eq_true]
  exact ⟨by rw [h1]; exact Nat.beq_refl k, Nat.ble_eq_true_of_le (by omega)⟩
 simp only [Nh]
 rw [if_pos e]
 congr 1
 have := Qcg (c := c) (vs := cs.toList) (by simp; omega)
 simpa using this
theorem Pj {zv : Value} {kb k : Nat} {cs : Array Value} (hm : Mem w R H) (hu : P.underlying T = some (.slice E)) (hi : X4 P E = some (some zv, k, kb)) (hs : Nat.ble (1 * k) 16777216 = true) (hz : zv.cells.size = k) (hx : Qg fr x = .agg cs) (hl : cs.size = k) :
  J8 P fr w (.buildSlice T 1 [(0, x)].toArray) ty (fun v w' => ∃ b, v = Kq b 0 1 1 ∧ Ext w w' ∧ Mem w' R ((b, .cells cs E) :: H)) := by
 refine Ry hm hu hi hs (Yx hx rfl V5) ?_
 exact Qn4 hl Xk
theorem Nj {k kb : Nat} {vs : List (List α)} {i : Int} (h : RdK (Yn w) (Fz f) k v vs) (hi' : i.toNat < vs.length) (hu : P.underlying T = some (.array k E)) (hi : X4 P T = some (z, k, kb)) (hn0 : Nat.blt 0 k = true) (hx : Qg fr x = Qf6 v i k 0) : Yt P fr w (.load T x) ty (agg f (vs.getD i.toNat [])) := by
 refine Af (dflt := []) h hi' hu rfl hi hn0 hx (by omega) ?_
 have eg : vs.getD i.toNat [] = vs[i.toNat] := by simp [List.getD_eq_getElem?_getD, hi']
 have hlen := h.len vs[i.toNat] Xk
 rw [eg, List.drop_zero, List.take_of_length_le (by omega)]; rfl
theorem Xl.made0 (f : α → Value) (E b : Nat) (zz : α) (n : Nat) : Xl f E (Kq b 0 0 n) [] [(b, .cells (cl f (List.replicate n zz)) E (0, 0))] :=
 .inr ⟨b, [], (List.replicate n zz).map f, [], by simp, by simp [cl]⟩
theorem RdK.ofOne {b E' : Nat} {c : Array Value} {fz : Nat × Nat} {enc : α → List Value} {k : Nat} {a : α} (hb : m b = some (.cells c E' fz)) (hc : c = (enc a).toArray) (hl : (enc a).length = k) : RdK m enc k (Kq b 0 1 1) [a] := by
 subst hc
 refine RdK.mk' (l := [a]) (by simpa using hl) Xk hb fun i hi q hq => ?_
 have : i = 0 := by simp at hi; exact hi
 subst this
 simp
theorem Ux {enc : α → List Value} {k : Nat} (h : RdK m enc k v l) (hT : P.underlying T = some (.slice E)) (hx : Qg fr x = v) : Yt P fr w (.call ⟨.builtin .len, #[x], #[T]⟩) ty (i64 (l.length : Nat)) := by
 obtain ⟨a, cap, rfl, _⟩ := h.is
 exact Qa1 hT hx
end
end --m
section
set_option linter.unusedSimpArgs false
set_option linter.unusedVariables false
section
variable {P : Program} {fr : Nat → Value} {w : World} {ty T U E A : TypeId} {x y : Operand} {d : TypeDesc} {z : Option Value} {n kb k : Nat} {R : Rest} {H Hs : List (Nat × Obj)} {α : Type} {f : α → Value} {v : Value} {l : List α} {vs : List (List α)} {m : Nat → Option Obj}
end
end --m
end Go.Proofs.YtkmiemlpfkfiiaaDoor
