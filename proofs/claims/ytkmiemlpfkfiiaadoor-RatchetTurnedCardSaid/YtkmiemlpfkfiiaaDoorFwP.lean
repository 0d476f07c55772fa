/- The framework, part P: slices of an element of a slice of rows. Conditions: none. -/
import Derived.Test.YtkmiemlpfkfiiaaDoorFwN
import Derived.Laws.IdiomStrings
namespace Go.Proofs.YtkmiemlpfkfiiaaDoor
open List renaming getD_eq_getElem?_getD → aI, replicate → aA
section
set_option linter.unusedSimpArgs false
set_option linter.unusedVariables false
section
variable {P : Program} {fr : Nat → Value} {w : World} {ty T U E A : TypeId} {x y : Operand} {d : TypeDesc} {z : Option Value} {n kb : Nat} {R : Rest} {H Hs : List (Nat × Obj)} {α : Type} {f : α → Value} {v : Value} {l : List α} {m : Nat → Option Obj}
def Qhv (v : Value) (i j mx : Int) : Value := match v with | .slice a len cap => .slice (if mx.toNat = i.toNat then a else a.map (·.add (i.toNat * 1))) (j.toNat - i.toNat) (mx.toNat - i.toNat) | _ => undef
theorem Z9.cut {j : Int} (hg : Z9 f E v l Hs) (h1 : 0 ≤ j) (h2 : j ≤ l.length) : Z9 f E (Qhv v 0 j j) (l.take j.toNat) Hs := by
 have hl : (l.take j.toNat).length = j.toNat := by simp; omega
 rcases hg with ⟨⟨a0, rfl⟩, rfl, rfl⟩ | ⟨b, pre, sp, post, rfl, rfl⟩
 ·simp at h2
  have e1 : j.toNat = 0 := by omega
  exact .inl ⟨⟨a0, by simp [Qhv, e1]⟩, by simp, rfl⟩
 refine .inr ⟨b, pre, [], (l.drop j.toNat).map f ++ (sp ++ post), ?_, ?_⟩
 ·rw [hl]
  by_cases h0 : j.toNat = 0
  ·simp [Qhv, Wi, h0]
  simp [Qhv, Wi, h0, Vq]
 have e : l.map f = (l.take j.toNat).map f ++ (l.drop j.toNat).map f := by rw [← List.map_append, List.take_append_drop]
 rw [e]; simp only [List.append_assoc, List.nil_append]
theorem Qnk {hi mx : Operand} {j : Int} (h : Rd m f v l) (hu : P.underlying T = some (.slice E)) (hi' : Ji P E = some (z, 1, kb)) (hx : Ql fr x = v) (hhi : Ql fr hi = i64 j) (hmx : Ql fr mx = i64 j) (h0 : 0 ≤ j) (h1 : j ≤ l.length) :
  Jv P fr w (.slice T x none (some hi) (some mx)) ty (Qhv v 0 j j) := by
 obtain ⟨a, cap, rfl, hle, h4⟩ := h.is
 unfold Jv Lp
 show Sem.run P (do let v ← Instr.sliceAt T (Ql fr x) ((none : Option Operand).map (Ql fr)) ((some hi).map (Ql fr)) ((some mx).map (Ql fr)); pure (Next.value v)) w = _
 rw [hx]
 have hb1 : (Instr.sliceBound (i64 j) cap .slice3Acap).run P w = .ok j.toNat w := Gw h0 (by omega)
 have hb2 : (Instr.sliceBound (i64 j) j.toNat .slice3B).run P w = .ok j.toNat w := Gw h0 (by omega)
 simp [Instr.sliceAt, Instr.slice, Instr.sliceBounds, W9 hu, hhi, hmx, hb1, hb2, J9 hi', Qhv]
def sapv (v : Value) : Value := match v with | .slice a _ _ => .pointer a | _ => undef
theorem ev_sap (h : Rd m f v l) (hu : P.underlying A = some (.array n E)) (hx : Ql fr x = v) (hn : n ≤ l.length) : Jv P fr w (.sliceToArrayPointer A x) ty (sapv v) := by
 obtain ⟨a, cap, rfl, hle, h4⟩ := h.is
 unfold Jv Lp
 show Sem.run P (do let v ← Instr.arrayAt A (Ql fr x); pure (Next.value v)) w = _
 rw [hx]
 have : ¬ l.length < n := by omega
 simp [Instr.arrayAt, W9 hu, this, sapv]
theorem Qif (h : Rd (Jd w) f v l) (hu : P.underlying T = some (.array n E)) (hi : Ji P T = some (z, n, kb)) (hx : Ql fr x = sapv v) (hn : n ≤ l.length) (h0 : Nat.blt 0 n = true) : Jv P fr w (.load T x) ty (agg f (l.take n)) := by
 have hn0 := Nat.le_of_ble_eq_true h0
 obtain ⟨a, cap, rfl, hle, h4⟩ := h.is
 obtain ⟨b, off, c, E', fz, rfl, hb, _⟩ := h4 0 (by omega)
 have hall : ∀ i (hi : i < l.length), c[off + i]? = some (f l[i]) := by
  intro i hi
  obtain ⟨b', off', c', E2, fz', hab, hb', hc⟩ := h4 i hi
  cases hab
  simp only [Jd] at hb hb'
  rw [hb] at hb'; cases hb'; exact hc
 have hsz : off + n ≤ c.size := by
  have := hall (n - 1) (by omega)
  have hlt : off + (n - 1) < c.size := by
   rcases Nat.lt_or_ge (off + (n - 1)) c.size with h | h
   ·exact h
   rw [Array.getElem?_eq_none h] at this; cases this
  omega
 have hx' : Ql fr x = ptr b off := hx
 have := Qdo (ty := ty) hu rfl hi hx' hb hsz
 have e : c.extract off (off + n) = cl f (l.take n) := by
  apply Array.ext'
  apply List.ext_getElem?
  intro i
  simp only [Array.toList_extract, List.extract_eq_take_drop, cl, List.getElem?_take, List.getElem?_drop, List.getElem?_map, Nat.add_sub_cancel_left]
  by_cases hi : i < n
  ·rw [if_pos hi]
   have h5 := hall i (by omega)
   simp only [Array.getElem?_toList, h5, List.getElem?_take, if_pos hi]; simp [show i < l.length by omega]
  rw [if_neg hi]; simp [List.getElem?_take, hi]
 rw [e] at this
 exact this
def J4 (s : ByteArray) : Z4 := s.data.toList.map (·.toBitVec)
@[simp] theorem Qk7 (s : ByteArray) : (J4 s).length = s.size := by unfold J4; rw [List.length_map, Array.length_toList]; rfl
theorem Qh4 {s : ByteArray} (hm : Mem w R H) (hT : P.underlying T = some .string) (hU : P.underlying U = some (.slice E)) (hE : P.underlying E = some (.int .u8)) (hx : Ql fr x = .string s) (hn : s.size < 9223372036854775807) :
  Vf P fr w (.convert T U x) ty (fun v w' => ∃ b cap c fz, v = Wi b 0 s.size cap ∧ Ext w w' ∧ Mem w' R ((b, .cells c E fz) :: H) ∧ ∀ m : Nat → Option Obj, m b = some (.cells c E fz) → Rd m u8 v (J4 s)) := by
 have hrun := run_bytes_of_string (P := P) w T U E s hT hU hE
 refine .inl ⟨Wi w.heap.size 0 s.size (grownCap w s.size 0 E), _, ?_, w.heap.size, grownCap w s.size 0 E, bytesRow s (grownCap w s.size 0 E), ((bytesRow s (grownCap w s.size 0 E)).size, (bytesRow s (grownCap w s.size 0 E)).size + 1), rfl, (Ext.drew w).trans (Ext.alloc w.drew _), (hm.drew).alloc _, fun m hb => ?_⟩
 ·unfold Lp
  show Sem.run P (do let v ← convert T U (Ql fr x); pure (Next.value v)) w = _
  rw [hx]
  simp only [Sem.run_bind, hrun, Result.andThen_ok, Sem.run_pure]
  rfl
 have hl := Qk7 s
 rw [← hl]
 refine Rd.mk' (by rw [hl]; exact grownCap_ge w s.size 0 E) hb fun i hi => ?_
 rw [hl] at hi
 have hi' : i < s.data.size := hi
 simp only [bytesRow, Nat.zero_add]
 rw [Array.getElem?_append_left (by simpa using hi')]
 simp [J4, hi', u8]
 exact ⟨s.data[i], by rw [Array.getElem?_eq_getElem hi'], rfl⟩
theorem Qhd {f : FuncId} {fn : Func} {g : Operand} {caps vs : Array Value} {xs : Array Operand} {ts : Array TypeId} {Φ : Value → World → Prop} (hv : Ql fr g = .func (.func f) #[] caps)
  (hf : P.funcs[f]? = some fn) (hb : fn.body.isNone = false) (hnm : (fn.name == "runtime.NumGoroutine") = false) (ha : xs.map (Ql fr) = vs) (h : Xz P f (vs ++ caps) w Φ) :
  Vf P fr w (.call ⟨.value g, xs, ts⟩) ty Φ := by
 refine .inr (.inr (.inl ⟨f, vs ++ caps, w, ?_, h⟩))
 subst ha
 have he : Lp (Ql fr) (.call ⟨.value g, xs, ts⟩) ty = (do let d ← resolve (Ql fr) ⟨.value g, xs, ts⟩ ty; invoke d.target d.args) := rfl
 rw [he]
 have hnm' : ¬ fn.name = "runtime.NumGoroutine" := by simpa using hnm
 have hb' : ¬ fn.body = none := by cases h : fn.body <;> simp_all
 simp [resolve, hv, Deferred.ofValue, invoke, callFunc, hf, hb', hnm']
theorem Qie {f : FuncId} {captured : List Operand} {cs : Array Value} (hc : captured.toArray.map (Ql fr) = cs) : Jv P fr w (.makeFunc (.func f) #[] captured.toArray) ty (.func (.func f) #[] cs) := by
 subst hc
 unfold Jv Lp
 simp [execOp, Instr.makeFunc]
def F6 {α : Type} (f : α → Value) (l : List α) : List Value := l.map f
theorem Jf {α : Type} {f : α → Value} (hf : ∀ a, (f a).oneCell' = true) (l : List α) : (F6 f l).all (·.oneCell') = true := by
 rw [List.all_eq_true]; intro v hv; obtain ⟨a, _, rfl⟩ := List.mem_map.1 hv; exact hf a
theorem Quc {c cs : Array Value} {k : Nat} (h1 : cs.size = k) (h2 : c.size = k) : Qa5 (fun i => some (i * k, k)) c [(0, cs)] = some cs := by
 have e : (Nat.beq cs.size k && Nat.ble (0 * k + cs.size) c.size) = true := by
  rw [Bool.and_eq_true]
  exact ⟨by rw [h1]; exact Nat.beq_refl k, Nat.ble_eq_true_of_le (by omega)⟩
 simp only [Qa5]
 rw [if_pos e]
 congr 1
 have := Qf6 (c := c) (vs := cs.toList) (by simp; omega)
 simpa using this
theorem Ha {zv : Value} {kb k : Nat} {cs : Array Value} (hm : Mem w R H) (hu : P.underlying T = some (.slice E)) (hi : Ji P E = some (some zv, k, kb)) (hs : Nat.ble (1 * k) 16777216 = true) (hz : zv.cells.size = k) (hx : Ql fr x = .agg cs) (hl : cs.size = k) :
  Vf P fr w (.buildSlice T 1 [(0, x)].toArray) ty (fun v w' => ∃ b, v = Wi b 0 1 1 ∧ Ext w w' ∧ Mem w' R ((b, .cells cs E) :: H)) := by
 refine Cj hm hu hi hs (Jp hx rfl Vt) ?_
 exact Quc hl Ya
theorem D7 {k kb : Nat} {vs : List (List α)} {i : Int} (h : RdK (Jd w) (F6 f) k v vs) (hi' : i.toNat < vs.length) (hu : P.underlying T = some (.array k E)) (hi : Ji P T = some (z, k, kb)) (hn0 : Nat.blt 0 k = true) (hx : Ql fr x = Qgs v i k 0) : Jv P fr w (.load T x) ty (agg f (vs.getD i.toNat [])) := by
 refine Ah (dflt := []) h hi' hu rfl hi hn0 hx (by omega) ?_
 have eg : vs.getD i.toNat [] = vs[i.toNat] := by simp [aI, hi']
 have hlen := h.len vs[i.toNat] Ya
 rw [eg, List.drop_zero, List.take_of_length_le (by omega)]; rfl
theorem Z9.made0 (f : α → Value) (E b : Nat) (zz : α) (n : Nat) : Z9 f E (Wi b 0 0 n) [] [(b, .cells (cl f (aA n zz)) E (0, 0))] :=
 .inr ⟨b, [], (aA n zz).map f, [], by simp, by simp [cl]⟩
theorem RdK.ofOne {b E' : Nat} {c : Array Value} {fz : Nat × Nat} {enc : α → List Value} {k : Nat} {a : α} (hb : m b = some (.cells c E' fz)) (hc : c = (enc a).toArray) (hl : (enc a).length = k) : RdK m enc k (Wi b 0 1 1) [a] := by
 subst hc
 refine RdK.mk' (l := [a]) (by simpa using hl) Ya hb fun i hi q hq => ?_
 have : i = 0 := by simp at hi; exact hi
 subst this
 simp
theorem Bh {enc : α → List Value} {k : Nat} (h : RdK m enc k v l) (hT : P.underlying T = some (.slice E)) (hx : Ql fr x = v) : Jv P fr w (.call ⟨.builtin .len, #[x], #[T]⟩) ty (i64 (l.length : Nat)) := by
 obtain ⟨a, cap, rfl, _⟩ := h.is
 exact Qd9 hT hx
end
end --m
section
set_option linter.unusedSimpArgs false
set_option linter.unusedVariables false
section
variable {P : Program} {fr : Nat → Value} {w : World} {ty T U E A : TypeId} {x y : Operand} {d : TypeDesc} {z : Option Value} {n kb k : Nat} {R : Rest} {H Hs : List (Nat × Obj)} {α : Type} {f : α → Value} {v : Value} {l : List α} {vs : List (List α)} {m : Nat → Option Obj}
def elsl (v : Value) (i : Int) (k : Nat) : Value := match v with | .slice a _ _ => .slice (a.map (·.add (i.toNat * k))) k k | _ => undef
theorem Rd.elsl {i : Int} (h : RdK m (F6 f) k v vs) (hi : i.toNat < vs.length) : Rd m f (Proofs.YtkmiemlpfkfiiaaDoor.elsl v i k) (vs.getD i.toNat []) := by
 have eg : vs.getD i.toNat [] = vs[i.toNat] := by simp [aI, hi]
 have hlen := h.len vs[i.toNat] Ya
 have hlen' : vs[i.toNat].length = k := by simpa [F6] using hlen
 obtain ⟨a, cap, rfl, hle, h4⟩ := h.is
 obtain ⟨b, o, c, E, fz, rfl, hb, hc⟩ := h4 i.toNat hi
 rw [eg]
 refine ⟨some ⟨b, o + i.toNat * k, none⟩, k, by simp [Proofs.YtkmiemlpfkfiiaaDoor.elsl, Vq, hlen'], by omega, fun t ht => ?_⟩
 refine ⟨b, o + i.toNat * k, c, E, fz, rfl, hb, ?_⟩
 have := hc t (by omega)
 have e : o + i.toNat * k + t = o + (i.toNat * k + t) := by omega
 rw [e, this]
 simp [F6, ht]
theorem Qgl {i : Int} (h : RdK m (F6 f) k v vs) (hi : i.toNat < vs.length) (hk : Nat.blt 0 k = true) (hu : P.underlying T = some (.array k E)) (hi' : Ji P E = some (z, 1, kb)) (hx : Ql fr x = Qgs v i k 0) :
  Jv P fr w (.slice T x none none none) ty (Proofs.YtkmiemlpfkfiiaaDoor.elsl v i k) := by
 have h0 := Nat.le_of_ble_eq_true hk
 obtain ⟨a, cap, rfl, hle, h4⟩ := h.is
 obtain ⟨b, o, c, E, fz, rfl, hb, hc⟩ := h4 i.toNat hi
 have hx' : Ql fr x = ptr b (o + i.toNat * k) := by rw [hx]; simp [Qgs, Vq, ptr]
 have := Xj (w := w) (ty := ty) (i := 0) (j := (k : Int)) hu hi' hx' (Zd _ _) (Zd _ _) (by omega) (by omega) (by omega)
 have e : sla b (o + i.toNat * k) 1 0 (k : Int) k = Proofs.YtkmiemlpfkfiiaaDoor.elsl (.slice (some ⟨b, o, none⟩) vs.length cap) i k := by
  have hk0 : ¬ k = 0 := by omega
  simp [sla, Wi, Proofs.YtkmiemlpfkfiiaaDoor.elsl, Vq, hk0]
 rw [← e]; exact this
end
end --m
end Go.Proofs.YtkmiemlpfkfiiaaDoor
