/- The framework, part E: operations that read and write memory. Conditions: none. -/
import Derived.Test.YtkmiemlpfkfiiaaDoorFwD
namespace Go.Proofs.YtkmiemlpfkfiiaaDoor
open List renaming length_cons → au
open Result renaming andThen_ok → bJ
set_option linter.unusedSimpArgs false
def Ji (P : Program) (T : TypeId) : Option (Option Value × Nat × Nat) := (P.info? T).map fun i => (i.zero, i.size, i.bytes)
def Pg : TypeDesc → Bool
 | .struct _ | .array _ _ => true
 | _ => false
section
variable {P : Program} {w : World} {T : TypeId} {d : TypeDesc} {z : Option Value} {n k : Nat}
theorem W9 (h : P.underlying T = some d) : (underlying T).run P w = .ok d w := by simp [underlying, h]
theorem Mc (h : P.underlying T = some d) : (isAgg T).run P w = .ok (Pg d) w := by
 unfold isAgg
 simp only [Sem.run_bind, W9 h, bJ]
 cases d <;> rfl
theorem J9 (h : Ji P T = some (z, n, k)) : (sizeOf T).run P w = .ok n w := by
 unfold Ji at h
 cases hi : P.info? T with
 | none => rw [hi] at h; cases h
 | some i =>
  rw [hi] at h
  simp only [Option.map_some, Option.some.injEq, Prod.mk.injEq] at h
  simp [sizeOf, typeInfo, hi, h.2.1]
theorem Tv (h : Ji P T = some (z, n, k)) : ∃ i, (typeInfo T).run P w = .ok i w ∧ i.bytes = k ∧ i.zero = z ∧ i.size = n := by
 unfold Ji at h
 cases hi : P.info? T with
 | none => rw [hi] at h; cases h
 | some i =>
  rw [hi] at h
  simp only [Option.map_some, Option.some.injEq, Prod.mk.injEq] at h
  exact ⟨i, by simp [typeInfo, hi], h.2.2, h.1, h.2.1⟩
theorem U8 {v : Value} (h : Ji P T = some (some v, n, k)) : (zeroValue T).run P w = .ok v w := by
 obtain ⟨i, h1, h2, h3, h4⟩ := Tv (w := w) h
 simp [zeroValue, h1, h3]
end
theorem Vq (b off i : Nat) : (⟨b, off, none⟩ : Addr).add i = ⟨b, off + i, none⟩ := by
 unfold Addr.add; split
 ·subst_vars; rfl
 rfl
theorem Qnt {w : World} {b off : Nat} {c : Array Value} {E : TypeId} {fz : Nat × Nat} {v : Value} (hb : w.heap[b]? = some (.cells c E fz)) (hc : c[off]? = some v) : w.cell? ⟨b, off, none⟩ = some v := by
 simp [World.cell?, hb, hc]
theorem Qog {P : Program} {w : World} {b off : Nat} {c : Array Value} {E : TypeId} {fz : Nat × Nat} {v : Value} (hb : w.heap[b]? = some (.cells c E fz)) (hc : c[off]? = some v) : (load ⟨b, off, none⟩).run P w = .ok v w := by
 simp [run_load, Qnt hb hc]
theorem Qf0 {P : Program} {w : World} {b off : Nat} {c : Array Value} {E : TypeId} {fz : Nat × Nat} (hb : w.heap[b]? = some (.cells c E fz)) : ∀ (n i : Nat) (acc : Array Value), off + i + n ≤ c.size →
  (loadCellsFrom ⟨b, off, none⟩ i n acc).run P w = .ok (acc ++ c.extract (off + i) (off + i + n)) w := by
 intro n
 induction n with
 | zero => intro i acc h; simp [loadCellsFrom]; omega
 | succ n ih =>
  intro i acc h
  have hc : c[off + i]? = some c[off + i] := by simp
  simp only [loadCellsFrom, Vq, Sem.run_bind, Qog hb hc, bJ]
  rw [ih (i + 1) _ (by omega)]
  congr 1
  apply Array.ext'
  simp only [Array.toList_append, Array.toList_push, Array.toList_extract, List.extract_eq_take_drop, List.append_assoc]
  congr 1
  rw [show off + i + (n + 1) - (off + i) = n + 1 from by omega, show off + (i + 1) + n - (off + (i + 1)) = n from by omega, show off + (i + 1) = off + i + 1 from by omega]
  have hlt : off + i < c.toList.length := by simp; omega
  rw [List.drop_eq_getElem_cons hlt, List.take_succ_cons]
  simp
theorem P9 {P : Program} {w : World} {b off n : Nat} {c : Array Value} {E : TypeId} {fz : Nat × Nat} (hb : w.heap[b]? = some (.cells c E fz)) (h : off + n ≤ c.size) :
  (loadCells ⟨b, off, none⟩ n).run P w = .ok (c.extract off (off + n)) w := by
 unfold loadCells; rw [Qf0 hb n 0 #[] (by omega)]; simp
def ovr (c : Array Value) : Nat → List Value → Array Value
 | _, [] => c
 | off, v :: r => ovr (c.setIfInBounds off v) (off + 1) r
theorem Po (vs : List Value) : ∀ (c : Array Value) (off : Nat), off + vs.length ≤ c.size → (ovr c off vs).toList = c.toList.take off ++ vs ++ c.toList.drop (off + vs.length) := by
 induction vs with
 | nil => intro c off _; simp [ovr]
 | cons v vs ih =>
  intro c off h
  simp only [au] at h
  rw [ovr, ih _ _ (by simp; omega)]
  simp only [Array.toList_setIfInBounds, au]
  have h1 : off < c.toList.length := by simp; omega
  rw [List.take_set, List.drop_set_of_lt (by omega), List.take_succ_eq_append_getElem (by omega), List.set_append_right _ _ (by simp; omega)]
  simp [show min off c.size = off from by omega, show off + (vs.length + 1) = off + 1 + vs.length from by omega]
theorem Qf6 {c : Array Value} {vs : List Value} (h : c.size = vs.length) : ovr c 0 vs = vs.toArray := by
 apply Array.ext'
 rw [Po vs c 0 (by omega)]
 simp only [List.take_zero, List.nil_append, Nat.zero_add]
 rw [List.drop_eq_nil_of_le (by simp; omega)]; simp
theorem ovr_cl {α : Type} (f : α → Value) (l m : List α) (off : Nat) (h : off + m.length ≤ l.length) : ovr (cl f l) off (m.map f) = cl f (l.take off ++ m ++ l.drop (off + m.length)) := by
 apply Array.ext'
 rw [Po _ _ _ (by simp [cl]; omega)]
 simp [cl, List.map_take, List.map_drop]
theorem set_cl {α : Type} (f : α → Value) (l : List α) (i : Nat) (x : α) : (cl f l).setIfInBounds i (f x) = cl f (l.set i x) := by
 simp [cl, List.map_set]
theorem Qqt {α : Type} (f : α → Value) (l : List α) (i : Nat) (h : i < l.length) : (cl f l)[i]? = some (f l[i]) := by
 simp [cl, h]
theorem Qfv {α : Type} (f : α → Value) (l : List α) : (cl f l).size = l.length := by simp [cl]
theorem Qqx {α : Type} (f : α → Value) (l : List α) (i j : Nat) : (cl f l).extract i j = cl f ((l.drop i).take (j - i)) := by
 simp [cl, List.extract_eq_take_drop, List.map_take, List.map_drop]
structure Upd (w : World) (b : Nat) (o : Obj) (w' : World) : Prop where
 os : w'.os = w.os
 tape : w'.tape = w.tape
 output : w'.output = w.output
 blk : ∀ k : Nat, w'.heap[k]? = if k = b then some o else w.heap[k]?
theorem Upd.trans {w w1 w2 : World} {b : Nat} {o o' : Obj} (h : Upd w b o w1) (k : Upd w1 b o' w2) : Upd w b o' w2 :=
 ⟨k.os.trans h.os, k.tape.trans h.tape, k.output.trans h.output, fun j => by rw [k.blk, h.blk]; split <;> rfl⟩
theorem Upd.same {w : World} {b : Nat} {o : Obj} (h : w.heap[b]? = some o) : Upd w b o w := ⟨rfl, rfl, rfl, fun k => by split <;> simp_all⟩
theorem Upd.setCell {w : World} {b off : Nat} {c : Array Value} {E : TypeId} {fz : Nat × Nat} (v : Value) (hb : w.heap[b]? = some (.cells c E fz)) : Upd w b (.cells (c.setIfInBounds off v) E fz) (w.setCell ⟨b, off, none⟩ v) := by
 refine ⟨rfl, rfl, rfl, fun k => ?_⟩
 simp only [World.setCell, Array.getElem?_modify]
 by_cases h : k = b
 ·subst h; simp [hb]
 rw [if_neg h, if_neg (fun e => h e.symm)]
theorem Mem.upd {w w' : World} {R : Rest} {H1 H2 : List (Nat × Obj)} {b : Nat} {o o' : Obj} (h : Mem w R (H1 ++ (b, o) :: H2)) (u : Upd w b o' w') : Mem w' R (H1 ++ (b, o') :: H2) := by
 have := Mem.set (o' := o') (hp := w'.heap) h u.blk
 exact ⟨u.os.trans h.os, u.tape.trans h.tape, u.output.trans h.output, this.rest, this.own, this.disj, this.nodup⟩
theorem Ff {P : Program} {b : Nat} {E : TypeId} {fz : Nat × Nat} : ∀ (vs : List Value) (i off : Nat) (c : Array Value) (w : World), w.heap[b]? = some (.cells c E fz) → off + i + vs.length ≤ c.size → (fz.2 ≤ off + i ∨ off + i + vs.length ≤ fz.1) → (∀ v ∈ vs, v.oneCell' = true) →
  ∃ w', (storeCells ⟨b, off, none⟩ vs i).run P w = .ok () w' ∧ Upd w b (.cells (ovr c (off + i) vs) E fz) w' := by
 intro vs
 induction vs with
 | nil => intro i off c w hb _ _ _; exact ⟨w, by simp [storeCells], Upd.same hb⟩
 | cons v vs ih =>
  intro i off c w hb hs hf ho
  simp only [au] at hs hf
  have hc : c[off + i]? = some c[off + i] := by simp
  have hfz : w.frozen? ⟨b, off + i, none⟩ = false := by
   simp only [World.frozen?, hb]
   obtain ⟨lo, hi⟩ := fz
   simp only [Bool.and_eq_false_iff, decide_eq_false_iff_not]
   simp only at hf; omega
  have hst : (store ⟨b, off + i, none⟩ v).run P w = .ok () (w.setCell ⟨b, off + i, none⟩ v) := by
   rw [run_store P w _ v _ (ho v Ya), Qnt hb hc]; simp [hfz]
  have hu := Upd.setCell (off := off + i) v hb
  obtain ⟨w', h1, h2⟩ := ih (i + 1) off (c.setIfInBounds (off + i) v) _ (by rw [hu.blk]; simp) (by simp; omega) (by omega) (fun u hu => ho u (List.mem_cons_of_mem _ hu))
  refine ⟨w', ?_, ?_⟩
  ·simp only [storeCells, Vq, Sem.run_bind, hst, bJ]; exact h1
  have := hu.trans h2
  rw [show off + (i + 1) = off + i + 1 from by omega] at this
  exact this
section
variable {P : Program} {fr : Nat → Value} {w : World} {ty T E : TypeId} {x y : Operand} {d : TypeDesc} {z : Option Value} {n kb b off : Nat} {c : Array Value} {fz : Nat × Nat} {R : Rest} {H : List (Nat × Obj)}
theorem Qi {v : Value} (hu : P.underlying T = some d) (hd : Pg d = false) (hx : Ql fr x = ptr b off) (hb : w.heap[b]? = some (.cells c E fz)) (hc : c[off]? = some v) : Jv P fr w (.load T x) ty v := by
 unfold Jv Lp
 show Sem.run P (do let v ← Instr.loadAt T (Ql fr x); pure (Next.value v)) w = _
 rw [hx]
 simp [Instr.loadAt, Instr.sureAddr, ptr, loadVar, Mc hu, hd, Qnt hb hc]
theorem Qdo (hu : P.underlying T = some d) (hd : Pg d = true) (hi : Ji P T = some (z, n, kb)) (hx : Ql fr x = ptr b off) (hb : w.heap[b]? = some (.cells c E fz)) (hc : off + n ≤ c.size) :
  Jv P fr w (.load T x) ty (.agg (c.extract off (off + n))) := by
 unfold Jv Lp
 show Sem.run P (do let v ← Instr.loadAt T (Ql fr x); pure (Next.value v)) w = _
 rw [hx]
 simp [Instr.loadAt, Instr.sureAddr, ptr, loadVar, Mc hu, hd, J9 hi, P9 hb hc]
theorem Qn (hu : P.underlying T = some d) (hd : Pg d = true) (hi : Ji P T = some (z, n, kb)) (hx : Ql fr x = ptr b 0) (hb : w.heap[b]? = some (.cells c E fz)) (hc : c.size = n) : Jv P fr w (.load T x) ty (.agg c) := by
 have := Qdo (ty := ty) hu hd hi hx hb (by omega)
 have e : c.extract 0 (0 + n) = c := by rw [← hc]; simp
 rwa [e] at this
theorem Xm {t : TypeId} (hu : P.underlying T = some d) (hd : Pg d = true) (hi : Ji P T = some (z, n, kb)) (hb : w.heap[b]? = some (.cells c t fz)) (hc : c.size = n) : (loadVar T ⟨b, 0, none⟩).run P w = .ok (.agg c) w := by
 have e : c.extract 0 (0 + n) = c := by rw [← hc]; simp
 have := P9 (P := P) (off := 0) (n := n) hb (by omega)
 rw [e] at this
 simp [loadVar, Mc hu, hd, J9 hi, this]
theorem Ui {v : Value} (hi : Ji P T = some (z, 1, kb)) (hx : Ql fr x = ptr b off) (hy : Ql fr y = v) (hv : v.oneCell' = true) (hb : w.heap[b]? = some (.cells c E fz)) (hs : off < c.size) (hf : fz.2 ≤ off ∨ off + 1 ≤ fz.1) :
  Vf P fr w (.store T x y) ty (fun _ w' => Upd w b (.cells (c.setIfInBounds off v) E fz) w') := by
 have hcells : v.cells = #[v] := by cases v <;> first | rfl | (simp [Value.oneCell'] at hv)
 obtain ⟨w', h1, h2⟩ := Ff (P := P) [v] 0 off c w hb (by simp; omega) (by simpa using hf) (by simpa using hv)
 refine .inr (.inl ⟨w', ?_, by simpa [ovr] using h2⟩)
 unfold Lp
 show Sem.run P (do Instr.storeAt T (Ql fr x) (Ql fr y); pure Next.skip) w = _
 rw [hx, hy]
 simp [Instr.storeAt, Instr.sureAddr, ptr, storeVar, hcells, J9 hi, h1]
theorem Qls {cs : Array Value} (hi : Ji P T = some (z, n, kb)) (hx : Ql fr x = ptr b off) (hy : Ql fr y = .agg cs) (hn : cs.size = n) (hv : ∀ v ∈ cs.toList, v.oneCell' = true) (hb : w.heap[b]? = some (.cells c E fz)) (hs : off + n ≤ c.size) (hf : fz.2 ≤ off ∨ off + n ≤ fz.1) :
  Vf P fr w (.store T x y) ty (fun _ w' => Upd w b (.cells (ovr c off cs.toList) E fz) w') := by
 obtain ⟨w', h1, h2⟩ := Ff (P := P) cs.toList 0 off c w hb (by simp; omega) (by simpa [hn] using hf) hv
 refine .inr (.inl ⟨w', ?_, by simpa using h2⟩)
 unfold Lp
 show Sem.run P (do Instr.storeAt T (Ql fr x) (Ql fr y); pure Next.skip) w = _
 rw [hx, hy]
 simp [Instr.storeAt, Instr.sureAddr, ptr, storeVar, Value.cells, J9 hi, hn, h1]
theorem Qhc {cs : Array Value} (hi : Ji P T = some (z, n, kb)) (hx : Ql fr x = ptr b 0) (hy : Ql fr y = .agg cs) (hn : cs.size = n) (hv : ∀ v ∈ cs.toList, v.oneCell' = true) (hb : w.heap[b]? = some (.cells c E fz)) (hs : c.size = n) (hf : fz.2 = 0) :
  Vf P fr w (.store T x y) ty (fun _ w' => Upd w b (.cells cs E fz) w') := by
 refine (Qls hi hx hy hn hv hb (by omega) (.inl (by omega))).mono fun _ w' h => ?_
 rw [Qf6 (by simp; omega)] at h
 simpa using h
theorem Qj1 {v : Value} (hm : Mem w R H) (hi : Ji P T = some (some v, n, kb)) : Vf P fr w (.alloc T) ty (fun p w' => ∃ b, p = ptr b 0 ∧ Ext w w' ∧ Mem w' R ((b, .cells v.cells T) :: H)) := by
 refine .inl ⟨ptr w.heap.size 0, { w with heap := w.heap.push (.cells v.cells T) }, ?_, _, rfl, Ext.alloc _ _, hm.alloc _⟩
 unfold Lp
 show Sem.run P (do let v ← Instr.alloc T true (.tuple #[]); pure (Next.value v)) w = _
 simp [Instr.alloc, U8 hi, newVar, newRow, ptr]
theorem or_box {v : Value} (hm : Mem w R H) (hx : Ql fr x = v) : Vf P fr w (.box T x) ty (fun p w' => ∃ b, p = ptr b 0 ∧ Ext w w' ∧ Mem w' R ((b, .cells v.cells T) :: H)) := by
 refine .inl ⟨ptr w.heap.size 0, { w with heap := w.heap.push (.cells v.cells T) }, ?_, _, rfl, Ext.alloc _ _, hm.alloc _⟩
 unfold Lp
 show Sem.run P (do let v ← Instr.box T (Ql fr x); pure (Next.value v)) w = _
 rw [hx]
 simp [Instr.box, newVar, newRow, ptr]
theorem Zc {b off : Nat} (hx : Ql fr x = ptr b off) : Jv P fr w (.nilCheck x) ty (ptr b off) := by
 unfold Jv Lp
 simp only [execOp, hx, ptr]; rfl
theorem Qgn {fs : Array Field} {i : Nat} {f : Field} (hu : P.underlying T = some (.struct fs)) (hf : fs[i]? = some f) (hi : Ji P f.type = some (z, n, kb)) (hn : Nat.blt 0 n = true) (hx : Ql fr x = ptr b off) :
  Jv P fr w (.fieldAddr T x i) ty (ptr b (off + f.offset)) := by
 have hn' : ¬ n = 0 := by have := Nat.le_of_ble_eq_true hn; omega
 unfold Jv Lp
 show Sem.run P (do let v ← Instr.fieldAt T (Ql fr x) i; pure (Next.value v)) w = _
 rw [hx]
 simp [Instr.fieldAt, W9 hu, hf, Instr.sureAddr, ptr, fieldPlace, J9 hi, hn', Vq]
theorem Qhl {len : Nat} {k : IntKind} {i : Int} (hu : P.underlying T = some (.array len E)) (hi : Ji P E = some (z, n, kb)) (hx : Ql fr x = ptr b off) (hy : Ql fr y = .int k i) (h0 : 0 ≤ i) (h1 : i < len) :
  Jv P fr w (.indexAddr T x y) ty (ptr b (off + i.toNat * n)) := by
 unfold Jv Lp
 show Sem.run P (do let v ← Instr.indexAt T (Ql fr x) (Ql fr y); pure (Next.value v)) w = _
 rw [hx, hy]
 simp [Instr.indexAt, asIntOf, W9 hu, Instr.sureAddr, ptr, h0, h1, J9 hi, Vq]
def elp (a : Option Addr) (k : Nat) : Value := .pointer (a.map (·.add k))
theorem Sr {len cap : Nat} {a : Addr} {k : IntKind} {i : Int} (hu : P.underlying T = some (.slice E)) (hi : Ji P E = some (z, n, kb)) (hx : Ql fr x = .slice (some a) len cap) (hy : Ql fr y = .int k i) (h0 : 0 ≤ i) (h1 : i < len) :
  Jv P fr w (.indexAddr T x y) ty (.pointer (some (a.add (i.toNat * n)))) := by
 unfold Jv Lp
 show Sem.run P (do let v ← Instr.indexAt T (Ql fr x) (Ql fr y); pure (Next.value v)) w = _
 rw [hx, hy]
 simp [Instr.indexAt, asIntOf, W9 hu, h0, h1, J9 hi]
theorem Qhk {len cap : Nat} {k : IntKind} {i : Int} (hu : P.underlying T = some (.slice E)) (hi : Ji P E = some (z, n, kb)) (hx : Ql fr x = Wi b off len cap) (hy : Ql fr y = .int k i) (h0 : 0 ≤ i) (h1 : i < len) :
  Jv P fr w (.indexAddr T x y) ty (ptr b (off + i.toNat * n)) := by
 have := Sr (w := w) (ty := ty) hu hi hx hy h0 h1
 rwa [Vq] at this
theorem Jt {len : Nat} {k : IntKind} {i : Int} {dE : TypeDesc} {v : Value} (hu : P.underlying T = some (.array len E)) (hE : P.underlying E = some dE) (hd : Pg dE = false) (hi : Ji P E = some (z, 1, kb)) (hx : Ql fr x = .agg c) (hy : Ql fr y = .int k i) (h0 : 0 ≤ i) (h1 : i < len) (hc : c[i.toNat]? = some v) :
  Jv P fr w (.index T x y) ty v := by
 unfold Jv Lp
 show Sem.run P (do let v ← Instr.index T (Ql fr x) (Ql fr y); pure (Next.value v)) w = _
 rw [hx, hy]
 simp [Instr.index, asIntOf, W9 hu, h0, h1, J9 hi, part, Mc hE, hd, hc]
theorem Qk3 {len : Nat} {k : IntKind} {i : Int} {dE : TypeDesc} (hu : P.underlying T = some (.array len E)) (hE : P.underlying E = some dE) (hd : Pg dE = true) (hi : Ji P E = some (z, n, kb)) (hx : Ql fr x = .agg c) (hy : Ql fr y = .int k i) (h0 : 0 ≤ i) (h1 : i < len) :
  Jv P fr w (.index T x y) ty (.agg (c.extract (i.toNat * n) (i.toNat * n + n))) := by
 unfold Jv Lp
 show Sem.run P (do let v ← Instr.index T (Ql fr x) (Ql fr y); pure (Next.value v)) w = _
 rw [hx, hy]
 simp [Instr.index, asIntOf, W9 hu, h0, h1, J9 hi, part, Mc hE, hd]
end
end Go.Proofs.YtkmiemlpfkfiiaaDoor
