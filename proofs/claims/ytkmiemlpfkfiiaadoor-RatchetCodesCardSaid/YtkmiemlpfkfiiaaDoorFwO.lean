/- The framework, part O: full slices, arrays out of slices, bytes of texts, calls of function values. Conditions: none. -/
import Derived.Test.YtkmiemlpfkfiiaaDoorFwN
import Derived.Laws.IdiomStrings
namespace Go.Proofs.YtkmiemlpfkfiiaaDoor
set_option linter.unusedSimpArgs false
set_option linter.unusedVariables false
section
variable {P : Program} {fr : Nat → Value} {w : World} {ty T U E A : TypeId} {x y : Operand} {d : TypeDesc} {z : Option Value} {n kb : Nat} {R : Rest} {H Hs : List (Nat × Obj)} {α : Type} {f : α → Value} {v : Value} {l : List α} {m : Nat → Option Obj}
def Qbn (v : Value) (i j mx : Int) : Value := match v with | .slice a len cap => .slice (if mx.toNat = i.toNat then a else a.map (·.add (i.toNat * 1))) (j.toNat - i.toNat) (mx.toNat - i.toNat) | _ => undef
theorem Xx.cut {j : Int} (hg : Xx f E v l Hs) (h1 : 0 ≤ j) (h2 : j ≤ l.length) : Xx f E (Qbn v 0 j j) (l.take j.toNat) Hs := by
  have hl : (l.take j.toNat).length = j.toNat := by simp; omega
  rcases hg with ⟨⟨a0, rfl⟩, rfl, rfl⟩ | ⟨b, pre, sp, post, rfl, rfl⟩
  · simp at h2
    have e1 : j.toNat = 0 := by omega
    exact .inl ⟨⟨a0, by simp [Qbn, e1]⟩, by simp, rfl⟩
  · refine .inr ⟨b, pre, [], (l.drop j.toNat).map f ++ (sp ++ post), ?_, ?_⟩
    · rw [hl]
      by_cases h0 : j.toNat = 0
      · simp [Qbn, Jt, h0]
      · simp [Qbn, Jt, h0, Jl]
    · have e : l.map f = (l.take j.toNat).map f ++ (l.drop j.toNat).map f := by rw [← List.map_append, List.take_append_drop]
      rw [e]; simp only [List.append_assoc, List.nil_append]
theorem Qen {hi mx : Operand} {j : Int} (h : Rd m f v l) (hu : P.underlying T = some (.slice E)) (hi' : Yp P E = some (z, 1, kb)) (hx : Qq fr x = v) (hhi : Qq fr hi = i64 j) (hmx : Qq fr mx = i64 j) (h0 : 0 ≤ j) (h1 : j ≤ l.length) :
    Ja P fr w (.slice T x none (some hi) (some mx)) ty (Qbn v 0 j j) := by
  obtain ⟨a, cap, rfl, hle, h4⟩ := h.is
  unfold Ja U2
  show Sem.run P (do let v ← Instr.sliceAt T (Qq fr x) ((none : Option Operand).map (Qq fr)) ((some hi).map (Qq fr)) ((some mx).map (Qq fr)); pure (Next.value v)) w = _
  rw [hx]
  have hb1 : (Instr.sliceBound (i64 j) cap .slice3Acap).run P w = .ok j.toNat w := V9 h0 (by omega)
  have hb2 : (Instr.sliceBound (i64 j) j.toNat .slice3B).run P w = .ok j.toNat w := V9 h0 (by omega)
  simp [Instr.sliceAt, Instr.slice, Instr.sliceBounds, Y8 hu, hhi, hmx, hb1, hb2, Yz hi', Qbn]
def sapv (v : Value) : Value := match v with | .slice a _ _ => .pointer a | _ => undef
theorem ev_sap (h : Rd m f v l) (hu : P.underlying A = some (.array n E)) (hx : Qq fr x = v) (hn : n ≤ l.length) : Ja P fr w (.sliceToArrayPointer A x) ty (sapv v) := by
  obtain ⟨a, cap, rfl, hle, h4⟩ := h.is
  unfold Ja U2
  show Sem.run P (do let v ← Instr.arrayAt A (Qq fr x); pure (Next.value v)) w = _
  rw [hx]
  have : ¬ l.length < n := by omega
  simp [Instr.arrayAt, Y8 hu, this, sapv]
theorem Qbx (h : Rd (Y3 w) f v l) (hu : P.underlying T = some (.array n E)) (hi : Yp P T = some (z, n, kb)) (hx : Qq fr x = sapv v) (hn : n ≤ l.length) (h0 : Nat.blt 0 n = true) : Ja P fr w (.load T x) ty (agg f (l.take n)) := by
  have hn0 := Nat.le_of_ble_eq_true h0
  obtain ⟨a, cap, rfl, hle, h4⟩ := h.is
  obtain ⟨b, off, c, E', fz, rfl, hb, _⟩ := h4 0 (by omega)
  have hall : ∀ i (hi : i < l.length), c[off + i]? = some (f l[i]) := by
    intro i hi
    obtain ⟨b', off', c', E2, fz', hab, hb', hc⟩ := h4 i hi
    cases hab
    simp only [Y3] at hb hb'
    rw [hb] at hb'; cases hb'; exact hc
  have hsz : off + n ≤ c.size := by
    have := hall (n - 1) (by omega)
    have hlt : off + (n - 1) < c.size := by
      rcases Nat.lt_or_ge (off + (n - 1)) c.size with h | h
      · exact h
      · rw [Array.getElem?_eq_none h] at this; cases this
    omega
  have hx' : Qq fr x = ptr b off := hx
  have := Md (ty := ty) hu rfl hi hx' hb hsz
  have e : c.extract off (off + n) = cl f (l.take n) := by
    apply Array.ext'
    apply List.ext_getElem?
    intro i
    simp only [Array.toList_extract, List.extract_eq_take_drop, cl, List.getElem?_take, List.getElem?_drop, List.getElem?_map, Nat.add_sub_cancel_left]
    by_cases hi : i < n
    · rw [if_pos hi]
      have h5 := hall i (by omega)
      simp only [Array.getElem?_toList, h5, List.getElem?_take, if_pos hi]; simp [show i < l.length by omega]
    · rw [if_neg hi]; simp [List.getElem?_take, hi]
  rw [e] at this
  exact this
def J3 (s : ByteArray) : List (BitVec 8) := s.data.toList.map (·.toBitVec)
@[simp] theorem Qdf (s : ByteArray) : (J3 s).length = s.size := by unfold J3; rw [List.length_map, Array.length_toList]; rfl
theorem Qe9 {s : ByteArray} (hm : Mem w R H) (hT : P.underlying T = some .string) (hU : P.underlying U = some (.slice E)) (hE : P.underlying E = some (.int .u8)) (hx : Qq fr x = .string s) (hn : s.size < 9223372036854775807) :
    Jr P fr w (.convert T U x) ty (fun v w' => ∃ b cap c fz, v = Jt b 0 s.size cap ∧ Ext w w' ∧ Mem w' R ((b, .cells c E fz) :: H) ∧ ∀ m : Nat → Option Obj, m b = some (.cells c E fz) → Rd m u8 v (J3 s)) := by
  have hrun := run_bytes_of_string (P := P) w T U E s hT hU hE
  refine .inl ⟨Jt w.heap.size 0 s.size (grownCap w s.size 0 E), _, ?_, w.heap.size, grownCap w s.size 0 E, bytesRow s (grownCap w s.size 0 E), ((bytesRow s (grownCap w s.size 0 E)).size, (bytesRow s (grownCap w s.size 0 E)).size + 1), rfl, (Ext.drew w).trans (Ext.alloc w.drew _), (hm.drew).alloc _, fun m hb => ?_⟩
  · unfold U2
    show Sem.run P (do let v ← convert T U (Qq fr x); pure (Next.value v)) w = _
    rw [hx]
    simp only [Sem.run_bind, hrun, Result.andThen_ok, Sem.run_pure]
    rfl
  · have hl := Qdf s
    rw [← hl]
    refine Rd.mk' (by rw [hl]; exact grownCap_ge w s.size 0 E) hb fun i hi => ?_
    rw [hl] at hi
    have hi' : i < s.data.size := hi
    simp only [bytesRow, Nat.zero_add]
    rw [Array.getElem?_append_left (by simpa using hi')]
    simp [J3, hi', u8]
    exact ⟨s.data[i], by rw [Array.getElem?_eq_getElem hi'], rfl⟩
theorem Uh {f : FuncId} {fn : Func} {g : Operand} {caps vs : Array Value} {xs : Array Operand} {ts : Array TypeId} {Φ : Value → World → Prop} (hv : Qq fr g = .func (.func f) #[] caps)
    (hf : P.funcs[f]? = some fn) (hb : fn.body.isNone = false) (hnm : (fn.name == "runtime.NumGoroutine") = false) (ha : xs.map (Qq fr) = vs) (h : X8 P f (vs ++ caps) w Φ) :
    Jr P fr w (.call ⟨.value g, xs, ts⟩) ty Φ := by
  refine .inr (.inr (.inl ⟨f, vs ++ caps, w, ?_, h⟩))
  subst ha
  have he : U2 (Qq fr) (.call ⟨.value g, xs, ts⟩) ty = (do let d ← resolve (Qq fr) ⟨.value g, xs, ts⟩ ty; invoke d.target d.args) := rfl
  rw [he]
  have hnm' : ¬ fn.name = "runtime.NumGoroutine" := by simpa using hnm
  have hb' : ¬ fn.body = none := by cases h : fn.body <;> simp_all
  simp [resolve, hv, Deferred.ofValue, invoke, callFunc, hf, hb', hnm']
theorem Qbw {f : FuncId} {captured : List Operand} {cs : Array Value} (hc : captured.toArray.map (Qq fr) = cs) : Ja P fr w (.makeFunc (.func f) #[] captured.toArray) ty (.func (.func f) #[] cs) := by
  subst hc
  unfold Ja U2
  simp [execOp, Instr.makeFunc]
def Qc0 {α : Type} (f : α → Value) (l : List α) : List Value := l.map f
theorem Zg {α : Type} {f : α → Value} (hf : ∀ a, (f a).oneCell' = true) (l : List α) : (Qc0 f l).all (·.oneCell') = true := by
  rw [List.all_eq_true]; intro v hv; obtain ⟨a, _, rfl⟩ := List.mem_map.1 hv; exact hf a
theorem Qhs {c cs : Array Value} {k : Nat} (h1 : cs.size = k) (h2 : c.size = k) : Hz (fun i => some (i * k, k)) c [(0, cs)] = some cs := by
  have e : (Nat.beq cs.size k && Nat.ble (0 * k + cs.size) c.size) = true := by
    rw [Bool.and_eq_true]
    exact ⟨by rw [h1]; exact Nat.beq_refl k, Nat.ble_eq_true_of_le (by omega)⟩
  simp only [Hz]
  rw [if_pos e]
  congr 1
  have := Tt (c := c) (vs := cs.toList) (by simp; omega)
  simpa using this
theorem Eb {zv : Value} {kb k : Nat} {cs : Array Value} (hm : Mem w R H) (hu : P.underlying T = some (.slice E)) (hi : Yp P E = some (some zv, k, kb)) (hs : Nat.ble (1 * k) 16777216 = true) (hz : zv.cells.size = k) (hx : Qq fr x = .agg cs) (hl : cs.size = k) :
    Jr P fr w (.buildSlice T 1 [(0, x)].toArray) ty (fun v w' => ∃ b, v = Jt b 0 1 1 ∧ Ext w w' ∧ Mem w' R ((b, .cells cs E) :: H)) := by
  refine Dc hm hu hi hs (Yh hx rfl Wy) ?_
  exact Qhs hl (by simp)
theorem Ci {k kb : Nat} {vs : List (List α)} {i : Int} (h : RdK (Y3 w) (Qc0 f) k v vs) (hi' : i.toNat < vs.length) (hu : P.underlying T = some (.array k E)) (hi : Yp P T = some (z, k, kb)) (hn0 : Nat.blt 0 k = true) (hx : Qq fr x = Qak v i k 0) : Ja P fr w (.load T x) ty (agg f (vs.getD i.toNat [])) := by
  refine Ue (dflt := []) h hi' hu rfl hi hn0 hx (by omega) ?_
  have eg : vs.getD i.toNat [] = vs[i.toNat] := by simp [List.getD_eq_getElem?_getD, hi']
  have hlen := h.len vs[i.toNat] (by simp)
  rw [eg, List.drop_zero, List.take_of_length_le (by omega)]; rfl
theorem Xx.made0 (f : α → Value) (E b : Nat) (zz : α) (n : Nat) : Xx f E (Jt b 0 0 n) [] [(b, .cells (cl f (List.replicate n zz)) E (0, 0))] :=
  .inr ⟨b, [], (List.replicate n zz).map f, [], by simp, by simp [cl]⟩
theorem RdK.ofOne {b E' : Nat} {c : Array Value} {fz : Nat × Nat} {enc : α → List Value} {k : Nat} {a : α} (hb : m b = some (.cells c E' fz)) (hc : c = (enc a).toArray) (hl : (enc a).length = k) : RdK m enc k (Jt b 0 1 1) [a] := by
  subst hc
  refine RdK.mk' (l := [a]) (by simpa using hl) (by simp) hb fun i hi q hq => ?_
  have : i = 0 := by simp at hi; exact hi
  subst this
  simp
theorem Vz {enc : α → List Value} {k : Nat} (h : RdK m enc k v l) (hT : P.underlying T = some (.slice E)) (hx : Qq fr x = v) : Ja P fr w (.call ⟨.builtin .len, #[x], #[T]⟩) ty (i64 (l.length : Nat)) := by
  obtain ⟨a, cap, rfl, _⟩ := h.is
  exact Un hT hx
end
end Go.Proofs.YtkmiemlpfkfiiaaDoor
