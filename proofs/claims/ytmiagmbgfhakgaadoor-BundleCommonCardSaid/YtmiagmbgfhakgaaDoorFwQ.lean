/- The framework, part Q: structs and rows as segments; sums with carry; shifts of whole numbers. Conditions: none. -/
import Derived.Test.YtmiagmbgfhakgaaDoorFwP
import Derived.Laws.Externs
namespace Go.Proofs.YtmiagmbgfhakgaaDoor
set_option linter.unusedSimpArgs false
set_option linter.unusedVariables false

/-- Cells in segments. -/
def segs (L : List (List Value)) : Array Value := L.flatten.toArray
theorem segs_size (L : List (List Value)) : (segs L).size = L.flatten.length := by simp [segs]
theorem fl_nil : ([] : List (List Value)).flatten.length = 0 := rfl
theorem fl_cons {S : List Value} {L : List (List Value)} {n m k : Nat} (h : S.length = n) (h' : L.flatten.length = m) (e : n + m = k) : (S :: L).flatten.length = k := by simp [h, h', e]
theorem so_nil : ∀ v ∈ (segs []).toList, v.oneCell' = true := by simp [segs]
theorem so_cons {S : List Value} {L : List (List Value)} (h : S.all (·.oneCell') = true) (h' : ∀ v ∈ (segs L).toList, v.oneCell' = true) : ∀ v ∈ (segs (S :: L)).toList, v.oneCell' = true := by
  intro v hv
  simp only [segs, List.flatten_cons, List.mem_append] at hv
  rcases hv with hv | hv
  · exact List.all_eq_true.1 h v hv
  · exact h' v (by simpa [segs] using hv)
theorem segs_extract (L1 L2 L3 : List (List Value)) {off n : Nat} (h1 : L1.flatten.length = off) (h2 : L2.flatten.length = n) : (segs (L1 ++ (L2 ++ L3))).extract off (off + n) = segs L2 := by
  subst h1 h2
  apply Array.ext'
  simp only [segs, Array.toList_extract, List.extract_eq_take_drop, List.flatten_append, Nat.add_sub_cancel_left]
  rw [List.drop_left, List.take_left]
theorem segs_one1 {α : Type} (f : α → Value) (l : List α) : segs [l.map f] = cl f l := by simp [segs, cl]
theorem segs_ovr (L1 L2 L2' L3 : List (List Value)) {off n : Nat} (h1 : L1.flatten.length = off) (h2 : L2.flatten.length = n) (h3 : L2'.flatten.length = n) : ovr (segs (L1 ++ (L2 ++ L3))) off (segs L2').toList = segs (L1 ++ (L2' ++ L3)) := by
  apply Array.ext'
  rw [ovr_toList _ _ _ (by rw [segs_size]; simp only [segs, List.flatten_append, List.length_append]; omega)]
  subst h1
  simp only [segs, List.flatten_append, h3, ← h2]
  rw [List.take_left, ← List.drop_drop, List.drop_left, List.drop_left, List.append_assoc]

section
variable {P : Program} {fr : Nat → Value} {w : World} {ty T U E A : TypeId} {x y : Operand} {d : TypeDesc} {z : Option Value} {n kb k b off : Nat} {R : Rest} {H Hs : List (Nat × Obj)} {α : Type} {f : α → Value} {v zv : Value} {l : List α} {m : Nat → Option Obj} {fz : Nat × Nat} {c : Array Value}
theorem ev_load_segs (L1 L2 L3 : List (List Value)) (hu : P.underlying T = some d) (hd : aggD d = true) (hi : tinf P T = some (z, n, kb)) (hx : evalF fr x = ptr b off) (hb : w.heap[b]? = some (.cells (segs (L1 ++ (L2 ++ L3))) E fz)) (h1 : L1.flatten.length = off) (h2 : L2.flatten.length = n) :
    EvQ P fr w (.load T x) ty (.agg (segs L2)) := by
  have := ev_loadN (ty := ty) hu hd hi hx hb (by rw [segs_size]; simp only [List.flatten_append, List.length_append]; omega)
  rwa [segs_extract L1 L2 L3 h1 h2] at this
theorem ev_load_seg1 (L1 L3 : List (List Value)) (l : List α) (hu : P.underlying T = some d) (hd : aggD d = true) (hi : tinf P T = some (z, n, kb)) (hx : evalF fr x = ptr b off) (hb : w.heap[b]? = some (.cells (segs (L1 ++ ([l.map f] ++ L3))) E fz)) (h1 : L1.flatten.length = off) (h2 : l.length = n) :
    EvQ P fr w (.load T x) ty (agg f l) := by
  have := ev_load_segs (ty := ty) L1 [l.map f] L3 hu hd hi hx hb h1 (by simpa using h2)
  rwa [segs_one1] at this
theorem loadVar_segs {t : TypeId} (L : List (List Value)) (hu : P.underlying T = some d) (hd : aggD d = true) (hi : tinf P T = some (z, n, kb)) (hb : w.heap[b]? = some (.cells (segs L) t fz)) (h : L.flatten.length = n) : (loadVar T ⟨b, 0, none⟩).run P w = .ok (.agg (segs L)) w :=
  loadVar_run hu hd hi hb (by rw [segs_size]; exact h)
theorem ev_index_clsub {len : Nat} {kk : IntKind} {i : Int} {dE : TypeDesc} (hu : P.underlying T = some (.array len E)) (hE : P.underlying E = some dE) (hd : aggD dE = true) (hi : tinf P E = some (z, n, kb)) (hx : evalF fr x = agg f l) (hy : evalF fr y = .int kk i) (h0 : 0 ≤ i) (h1 : i < len) :
    EvQ P fr w (.index T x y) ty (agg f ((l.drop (i.toNat * n)).take n)) := by
  have := ev_index_aggN (w := w) (ty := ty) hu hE hd hi hx hy h0 h1
  rw [extract_cl, Nat.add_sub_cancel_left] at this
  exact this
theorem drop_two {l : List α} {j : Nat} (dflt : α) (h : j + 2 ≤ l.length) : (l.drop j).take 2 = [l.getD j dflt, l.getD (j + 1) dflt] := by
  refine List.ext_getElem (by simp; omega) fun i h1 h2 => ?_
  simp only [List.length_cons, List.length_nil] at h2
  have : i = 0 ∨ i = 1 := by omega
  rcases this with rfl | rfl <;> simp [List.getD_eq_getElem?_getD] <;> rw [List.getElem?_eq_getElem (by omega)] <;> rfl
theorem ev_index_cl2 {len : Nat} {kk : IntKind} {i : Int} {dE : TypeDesc} (dflt : α) (hu : P.underlying T = some (.array len E)) (hE : P.underlying E = some dE) (hd : aggD dE = true) (hi : tinf P E = some (z, 2, kb)) (hx : evalF fr x = agg f l) (hy : evalF fr y = .int kk i) (h0 : 0 ≤ i) (h1 : i < len) (h2 : i.toNat * 2 + 2 ≤ l.length) :
    EvQ P fr w (.index T x y) ty (agg f [l.getD (i.toNat * 2) dflt, l.getD (i.toNat * 2 + 1) dflt]) := by
  have := ev_index_clsub (w := w) (ty := ty) hu hE hd hi hx hy h0 h1
  rw [drop_two dflt h2] at this
  exact this
/-! fields of what is held -/
/-! stores -/
theorem or_storeW_segs (L : List (List Value)) (hi : tinf P T = some (z, n, kb)) (hx : evalF fr x = ptr b 0) (hy : evalF fr y = .agg (segs L)) (h : L.flatten.length = n) (hv : ∀ v ∈ (segs L).toList, v.oneCell' = true) (hb : w.heap[b]? = some (.cells c E fz)) (hs : c.size = n) (hfz : fz.2 = 0) :
    OpR P fr w (.store T x y) ty (fun _ w' => Upd w b (.cells (segs L) E fz) w') := or_storeA hi hx hy (by rw [segs_size]; exact h) hv hb hs hfz
/-! composites -/
theorem fillA_nil {place : Nat → Option (Nat × Nat)} : fillA place c [] = some c := rfl
theorem fillA_segs {place : Nat → Option (Nat × Nat)} {i : Nat} {cs c' : Array Value} {rest : List (Nat × Array Value)} (L1 L2 L2' L3 : List (List Value)) (hp : place i = some (off, n)) (hc : cs = segs L2') (h1 : L1.flatten.length = off) (h2 : L2.flatten.length = n) (h3 : L2'.flatten.length = n)
    (hr : fillA place (segs (L1 ++ (L2' ++ L3))) rest = some c') : fillA place (segs (L1 ++ (L2 ++ L3))) ((i, cs) :: rest) = some c' := by
  subst hc
  simp only [fillA, hp]
  have e : (Nat.beq (segs L2').size n && Nat.ble (off + (segs L2').size) (segs (L1 ++ (L2 ++ L3))).size) = true := by
    rw [Bool.and_eq_true]
    refine ⟨by rw [segs_size, h3]; exact Nat.beq_refl n, Nat.ble_eq_true_of_le ?_⟩
    rw [segs_size, segs_size, h3]; simp only [List.flatten_append, List.length_append]; omega
  rw [if_pos e, segs_ovr L1 L2 L2' L3 h1 h2 h3]
  exact hr
theorem cells_agg1 (l : List α) : (agg f l).cells = segs [l.map f] := (segs_one1 f l).symm
/-! sums with carry -/
def add64C (a b c : BitVec 64) : BitVec 64 := BitVec.ofNat 64 ((a.toNat + b.toNat + c.toNat) / 18446744073709551616)
theorem ev_add64 {g : FuncId} {fn : Func} {x y q : Operand} {a b c : BitVec 64} {ts : Array TypeId} (hf : P.funcs[g]? = some fn) (hnm : (fn.name == "runtime.NumGoroutine") = false) (hb : fn.body.isNone = true) (hn : Extern.findNext fn = none) (he : Extern.find fn = some add64Entry)
    (hx : evalF fr x = u64 a) (hy : evalF fr y = u64 b) (hq : evalF fr q = u64 c) (hc : c.toNat ≤ 1) : EvQ P fr w (.call ⟨.value (.func g), #[x, y, q], ts⟩) ty (.tuple #[u64 (a + b + c), u64 (add64C a b c)]) := by
  unfold EvQ
  have e : xop (evalF fr) (.call ⟨.value (.func g), #[x, y, q], ts⟩) ty = (do let d ← resolve (evalF fr) ⟨.value (.func g), #[x, y, q], ts⟩ ty; invoke d.target d.args) := rfl
  have h2 := run_callFunc_extern (P := P) hf hnm hb hn he #[u64 a, u64 b, u64 c] w
  have h3 := run_add64 (P := P) (a.toNat : Int) (b.toNat : Int) (c.toNat : Int) (by omega) (by omega) (by omega) (by omega) w
  have e1 : u64 (a + b + c) = .int .u64 (((a.toNat : Int) + b.toNat + c.toNat) % 18446744073709551616) := by
    simp only [u64, BitVec.toNat_add]; congr 1; omega
  have e2 : u64 (add64C a b c) = .int .u64 (((a.toNat : Int) + b.toNat + c.toNat) / 18446744073709551616) := by
    simp only [u64, add64C, BitVec.toNat_ofNat]; congr 1
    have := a.isLt; have := b.isLt
    omega
  rw [e, e1, e2]
  have h4 : (callFunc g #[u64 a, u64 b, u64 c]).run P w = _ := h2
  simp only [u64] at h4
  rw [h3] at h4
  simp only [Result.andThen] at h4
  have hg : evalF fr (.func g) = .func (.func g) #[] #[] := rfl
  simp [resolve, hg, Deferred.ofValue, invoke, hx, hy, hq, u64, h4]
/-! shifts of whole numbers -/
end
/-! A guard that was not reached. -/
section
variable {E : TypeId}
theorem Rd.seg {α : Type} {f : α → Value} {m : Nat → Option Obj} {b off n : Nat} {l : List α} {fz : Nat × Nat} (L1 L2 : List (List Value)) (hb : m b = some (.cells (segs (L1 ++ (l.map f :: L2))) E fz)) (h1 : L1.flatten.length = off) (hl : l.length = n) : Rd m f (slc b off n n) l := by
  subst hl h1
  refine Rd.mk' (Nat.le_refl _) hb fun i hi => ?_
  simp only [segs, List.flatten_append, List.flatten_cons, List.getElem?_toArray]
  rw [List.getElem?_append_right (by omega), Nat.add_sub_cancel_left, List.getElem?_append_left (by simpa using hi)]
  simp [hi]
theorem Rd.segA {α : Type} {f : α → Value} {m : Nat → Option Obj} {b off n : Nat} {j : Int} {l : List α} {fz : Nat × Nat} (L1 L2 : List (List Value)) (hb : m b = some (.cells (segs (L1 ++ (l.map f :: L2))) E fz)) (h1 : L1.flatten.length = off) (hl : l.length = n) (hn : 0 < n) (hj : j.toNat = n) : Rd m f (Proofs.YtmiagmbgfhakgaaDoor.sla b off 1 0 j n) l := by
  have e : Proofs.YtmiagmbgfhakgaaDoor.sla b off 1 0 j n = slc b off n n := by
    unfold Proofs.YtmiagmbgfhakgaaDoor.sla
    have : ¬ n = 0 := by omega
    simp [this, hj]
  rw [e]; exact Rd.seg L1 L2 hb h1 hl
end
end Go.Proofs.YtmiagmbgfhakgaaDoor

