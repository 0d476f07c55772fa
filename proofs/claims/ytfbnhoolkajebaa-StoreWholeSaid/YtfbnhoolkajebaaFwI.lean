/- The framework, part I: parts of slices and arrays as lists, rows of one-cell values, small lists. Conditions: none. -/
import Derived.Test.YtfbnhoolkajebaaFwH
namespace Go.Proofs.Ytfbnhoolkajebaa
set_option linter.unusedSimpArgs false
set_option linter.unusedVariables false

/-- A part of a slice. -/
def subv (v : Value) (i j : Int) : Value := match v with | .slice a len cap => .slice (if cap = i.toNat then a else a.map (·.add (i.toNat * 1))) (j.toNat - i.toNat) (cap - i.toNat) | _ => undef
/-- A part of an array. -/
def sla (b off n : Nat) (i j : Int) (len : Nat) : Value := slc b (if len = i.toNat then off else off + i.toNat * n) (j.toNat - i.toNat) (len - i.toNat)

section
variable {P : Program} {fr : Nat → Value} {w : World} {ty T T' E E' : TypeId} {x y : Operand} {d : TypeDesc} {z : Option Value} {n kb b off : Nat} {c : Array Value} {fz : Nat × Nat} {R : Rest} {H Hs : List (Nat × Obj)} {α : Type} {f : α → Value} {v : Value} {l : List α} {m : Nat → Option Obj}

theorem Rd.sub {i j : Int} (h : Rd m f v l) (h0 : 0 ≤ i) (h1 : i ≤ j) (h2 : j ≤ l.length) : Rd m f (subv v i j) ((l.drop i.toNat).take (j.toNat - i.toNat)) := by
  obtain ⟨a, cap, rfl, hle, h4⟩ := h.is
  exact Rd.slice ⟨a, cap, rfl, hle, h4⟩ h0 h1 h2
theorem ev_slice_rd {lo hi : Option Operand} {i j : Int} (h : Rd m f v l) (hu : P.underlying T = some (.slice E)) (hi' : tinf P E = some (z, 1, kb)) (hx : evalF fr x = v) (hlo : optI lo fr 0 i) (hhi : optI hi fr (l.length : Int) j) (h0 : 0 ≤ i) (h1 : i ≤ j) (h2 : j ≤ l.length) :
    EvQ P fr w (.slice T x lo hi none) ty (subv v i j) := by
  obtain ⟨a, cap, rfl, hle, h4⟩ := h.is
  exact ev_slice_sl hu hi' hx hlo hhi h0 h1 (by omega)
theorem ev_slice_sla {len : Nat} {lo hi : Option Operand} {i j : Int} (hu : P.underlying T = some (.array len E)) (hi' : tinf P E = some (z, n, kb)) (hx : evalF fr x = ptr b off) (hlo : optI lo fr 0 i) (hhi : optI hi fr len j) (h0 : 0 ≤ i) (h1 : i ≤ j) (h2 : j ≤ len) :
    EvQ P fr w (.slice T x lo hi none) ty (sla b off n i j len) := ev_slice_arr hu hi' hx hlo hhi h0 h1 h2
theorem Rd.sla {i j : Int} {len : Nat} (hb : m b = some (.cells (cl f l) E fz)) (hl : l.length = len) (h0 : 0 ≤ i) (h1 : i ≤ j) (h2 : j ≤ len) : Rd m f (Proofs.Ytfbnhoolkajebaa.sla b 0 1 i j len) ((l.drop i.toNat).take (j.toNat - i.toNat)) := by
  have hl' : ((l.drop i.toNat).take (j.toNat - i.toNat)).length = j.toNat - i.toNat := by simp; omega
  refine ⟨_, _, by rw [hl']; rfl, by rw [hl']; omega, fun t ht => ?_⟩
  rw [hl'] at ht
  by_cases hc : len = i.toNat
  · exfalso; omega
  · refine ⟨b, i.toNat, cl f l, E, fz, by rw [if_neg hc]; simp, hb, ?_⟩
    rw [get_cl f l _ (by omega)]; simp
theorem Rd.cast {l' : List α} (h : Rd m f v l) (e : l = l') : Rd m f v l' := e ▸ h
theorem sla_full {n : Nat} (h : 0 < n) : sla b 0 1 0 n n = slc b 0 n n := by
  have : ¬ n = 0 := by omega
  simp [sla, this]
theorem or_buildSlice_ones {len : Nat} {zv : Value} {parts : List (Nat × Operand)} (vs : List Value) (hv : ∀ v ∈ vs, v.oneCell' = true) (hm : Mem w R H) (hu : P.underlying T = some (.slice E)) (hi : tinf P E = some (some zv, 1, kb)) (hs : Nat.ble (len * 1) 16777216 = true)
    (hp : (parts.map fun q => (q.1, evalF fr q.2)) = pairs 0 vs) (hl : vs.length = len) :
    OpR P fr w (.buildSlice T len parts.toArray) ty (fun v w' => ∃ b, v = slc b 0 len len ∧ Ext w w' ∧ Mem w' R ((b, .cells vs.toArray E) :: H)) := by
  refine or_buildSlice hm hu hi hs hp ?_
  rw [fill_ones _ _ _ hv (by simp; omega), ovr_all (by simp; omega)]
/-- Copied into an array of the call's own, from its beginning on. -/
theorem or_copy_cl {u : Value} {ms : List α} {dl dc : Nat} (hx : evalF fr x = slc b 0 dl dc) (hy : evalF fr y = u) (hr : Rd (blks w) f u ms) (hT : P.underlying T = some (.slice E)) (hi : tinf P E = some (z, 1, kb)) (hf : ∀ a, (f a).oneCell' = true)
    (hb : w.heap[b]? = some (.cells (cl f l) E' fz)) (hs : ms.length ≤ dl) (hs2 : dl ≤ l.length) (hfz : fz.2 ≤ 0) :
    OpR P fr w (.call ⟨.builtin .copy, #[x, y], #[T, T']⟩) ty (fun v' w' => v' = i64 (ms.length : Nat) ∧ Upd w b (.cells (cl f (ms ++ l.drop ms.length)) E' fz) w') := by
  have hmin : min ms.length dl = ms.length := by omega
  refine (or_copy (T' := T') hx hy hr hT hi hf hb (by rw [size_cl]; omega) (by omega)).mono ?_
  rintro v' w' ⟨h1, h2⟩
  rw [hmin] at h1 h2
  refine ⟨h1, ?_⟩
  rw [List.take_of_length_le (Nat.le_refl _), ovr_cl _ _ _ _ (by omega)] at h2
  simpa using h2
end
section
variable {P : Program} {fr : Nat → Value} {w : World} {ty T E : TypeId} {x y : Operand} {z : Option Value} {n kb b off : Nat}
theorem ev_fa {r : Nat} {fs : Array Field} {i : Nat} {f : Field} (hu : P.underlying T = some (.struct fs)) (hf : fs[i]? = some f) (hr : off + f.offset = r) (hi : tinf P f.type = some (z, n, kb)) (hn : Nat.blt 0 n = true) (hx : evalF fr x = ptr b off) :
    EvQ P fr w (.fieldAddr T x i) ty (ptr b r) := hr ▸ ev_fieldAddr hu hf hi hn hx
end
section
variable {P : Program} {fr : Nat → Value} {w : World} {ty T E : TypeId} {x y : Operand} {z : Option Value} {n kb b off : Nat} {α : Type} {f : α → Value} {v : Value} {l : List α} {R : Rest} {H Hs : List (Nat × Obj)}
/-- A part of a growing slice grows in its place. -/
theorem Grow.sub {i j : Int} (hg : Grow f E v l Hs) (h0 : 0 ≤ i) (h1 : i ≤ j) (h2 : j ≤ l.length) : Grow f E (subv v i j) ((l.drop i.toNat).take (j.toNat - i.toNat)) Hs := by
  rcases hg with ⟨⟨a0, rfl⟩, rfl, rfl⟩ | ⟨b, pre, sp, post, rfl, rfl⟩
  · simp at h2
    have e0 : i.toNat = 0 := by omega
    have e1 : j.toNat = 0 := by omega
    refine .inl ⟨⟨a0, ?_⟩, by simp, rfl⟩
    simp [subv, e0, e1]
  · have hl : ((l.drop i.toNat).take (j.toNat - i.toNat)).length = j.toNat - i.toNat := by simp; omega
    have hsplit : l = l.take i.toNat ++ ((l.drop i.toNat).take (j.toNat - i.toNat) ++ l.drop j.toNat) := by
      have e : l.drop j.toNat = (l.drop i.toNat).drop (j.toNat - i.toNat) := by rw [List.drop_drop]; congr 1; omega
      rw [e, List.take_append_drop, List.take_append_drop]
    by_cases hcap : l.length + sp.length = i.toNat
    · -- nothing is left of it
      have e1 : j.toNat - i.toNat = 0 := by omega
      have e2 : sp.length = 0 := by omega
      have e3 : sp = [] := List.eq_nil_of_length_eq_zero e2
      refine .inr ⟨b, pre, [], l.map f ++ post, ?_, ?_⟩
      · simp [subv, slc, hcap, e1]
      · simp [e1, e3]
    · refine .inr ⟨b, pre ++ (l.take i.toNat).map f, (l.drop j.toNat).map f ++ sp, post, ?_, ?_⟩
      · simp only [subv, slc, hl, List.length_append, List.length_map, List.length_take, List.length_drop]
        rw [if_neg hcap]
        simp only [Option.map_some, add_none, Nat.mul_one]
        have e4 : min i.toNat l.length = i.toNat := by omega
        rw [e4]
        congr 1; omega
      · have e5 : l.map f = (l.take i.toNat).map f ++ (((l.drop i.toNat).take (j.toNat - i.toNat)).map f ++ (l.drop j.toNat).map f) := by
          rw [← List.map_append, ← List.map_append, ← hsplit]
        rw [e5]
        simp
theorem Grow.cast {l' : List α} (h : Grow f E v l Hs) (e : l = l') : Grow f E v l' Hs := e ▸ h
end
/-- The ways through a test meet again. -/
theorem cw_meet {P : Program} {n : Nat} {x : Code} {N J : (Nat → Value) → World → Prop} {Q : Exit → (Nat → Value) → World → Prop} {fr : Nat → Value} {w : World} (h : CW P n x (kThen J Q) fr w) (k : ∀ fr w, J fr w → N fr w) : CW P n x (kThen N Q) fr w :=
  h.mono fun e fr w q => by cases e <;> first | exact k _ _ q | exact q
theorem cw_meetB {P : Program} {n i : Nat} {x : Code} {N J : (Nat → Value) → World → Prop} {Q : Exit → (Nat → Value) → World → Prop} {fr : Nat → Value} {w : World} (h : CW P n x (kThen J (kBlk i N Q)) fr w) (k : ∀ fr w, J fr w → N fr w) : CW P n x (kBlk i N Q) fr w :=
  h.mono fun e fr w q => by cases e <;> first | exact k _ _ q | exact q
section
variable {P : Program} {fr : Nat → Value} {w w' : World} {ty T E : TypeId} {x y : Operand} {z : Option Value} {n kb b off : Nat} {α : Type} {f : α → Value} {v : Value} {l : List α} {R : Rest} {H Hs : List (Nat × Obj)} {o o' : Obj} {fz : Nat × Nat}
theorem or_alloc_agg (hm : Mem w R H) (hi : tinf P T = some (some (agg f l), n, kb)) : OpR P fr w (.alloc T) ty (fun p w' => ∃ b, p = ptr b 0 ∧ Ext w w' ∧ Mem w' R ((b, .cells (cl f l) T) :: H)) := or_alloc hm hi
theorem or_alloc_1 {v : Value} (hm : Mem w R H) (h1 : v.oneCell' = true) (hi : tinf P T = some (some v, n, kb)) : OpR P fr w (.alloc T) ty (fun p w' => ∃ b, p = ptr b 0 ∧ Ext w w' ∧ Mem w' R ((b, .cells #[v] T) :: H)) := by
  have := or_alloc (fr := fr) (ty := ty) hm hi
  rwa [one_cells h1] at this
theorem or_box_agg (hm : Mem w R H) (hx : evalF fr x = agg f l) : OpR P fr w (.box T x) ty (fun p w' => ∃ b, p = ptr b 0 ∧ Ext w w' ∧ Mem w' R ((b, .cells (cl f l) T) :: H)) := or_box hm hx
theorem or_box_1 {v : Value} (hm : Mem w R H) (h1 : v.oneCell' = true) (hx : evalF fr x = v) : OpR P fr w (.box T x) ty (fun p w' => ∃ b, p = ptr b 0 ∧ Ext w w' ∧ Mem w' R ((b, .cells #[v] T) :: H)) := by
  have := or_box (P := P) (T := T) (ty := ty) hm hx
  rwa [one_cells h1] at this
/-- A whole array written by a value that reads as a list. -/
theorem or_store_agg {c : Array Value} (hf : ∀ a, (f a).oneCell' = true) (hi : tinf P T = some (z, n, kb)) (hx : evalF fr x = ptr b 0) (hy : evalF fr y = agg f l) (hn : l.length = n) (hb : w.heap[b]? = some (.cells c E fz)) (hs : c.size = n) (hfz : fz.2 = 0) :
    OpR P fr w (.store T x y) ty (fun _ w' => Upd w b (.cells (cl f l) E fz) w') := or_storeA hi hx hy (by rw [size_cl]; exact hn) (cl_one hf l) hb hs hfz
theorem Mem.upd0 (h : Mem w R ((b, o) :: H)) (u : Upd w b o' w') : Mem w' R ((b, o') :: H) := Mem.upd (H1 := []) h u
theorem Mem.upd1 {p : Nat × Obj} (h : Mem w R (p :: (b, o) :: H)) (u : Upd w b o' w') : Mem w' R (p :: (b, o') :: H) := Mem.upd (H1 := [p]) h u
theorem Mem.upd2 {p q : Nat × Obj} (h : Mem w R (p :: q :: (b, o) :: H)) (u : Upd w b o' w') : Mem w' R (p :: q :: (b, o') :: H) := Mem.upd (H1 := [p, q]) h u
theorem Mem.upd3 {p q r : Nat × Obj} (h : Mem w R (p :: q :: r :: (b, o) :: H)) (u : Upd w b o' w') : Mem w' R (p :: q :: r :: (b, o') :: H) := Mem.upd (H1 := [p, q, r]) h u
theorem Mem.upd4 {p q r s : Nat × Obj} (h : Mem w R (p :: q :: r :: s :: (b, o) :: H)) (u : Upd w b o' w') : Mem w' R (p :: q :: r :: s :: (b, o') :: H) := Mem.upd (H1 := [p, q, r, s]) h u
theorem Mem.upd5 {p q r s t : Nat × Obj} (h : Mem w R (p :: q :: r :: s :: t :: (b, o) :: H)) (u : Upd w b o' w') : Mem w' R (p :: q :: r :: s :: t :: (b, o') :: H) := Mem.upd (H1 := [p, q, r, s, t]) h u
end
theorem ev_pick_tk {P : Program} {fr : Nat → Value} {w : World} {ty : TypeId} {c x y : Operand} {b : Bool} {u : Value} (hc : evalF fr c = bl b) (hb : b = true) (hx : evalF fr x = u) : EvQ P fr w (.pick c x y) ty u := by subst hb; exact ev_pick_t hc hx
theorem ev_pick_fk {P : Program} {fr : Nat → Value} {w : World} {ty : TypeId} {c x y : Operand} {b : Bool} {u : Value} (hc : evalF fr c = bl b) (hb : b = false) (hy : evalF fr y = u) : EvQ P fr w (.pick c x y) ty u := by subst hb; exact ev_pick_f hc hy
theorem rw_gyq {P : Program} {n : Nat} {ops : Array Oper} {K : (Nat → Value) → World → Prop} {fr : Nat → Value} {w : World} {rest : List Oper} {op : Op} {ty : TypeId} {pos : String} {aft : Array Edge} {d j s : Nat} {b want : Bool} {v : Value} (hj : (ops[j]?).bind (·.dst) = some s) (hs : fr s = .bool b) (hb : b = want) (hd : Nat.blt d n = true) (h : EvQ P fr w op ty v)
    (k : RW P n ops rest K (upd fr d v) w) : RW P n ops (⟨some d, op, ty, pos, aft, some (j, want)⟩ :: rest) K fr w :=
  rw_gy hj hs hb hd (EvQ.opR h) (by rintro v' w' ⟨h1, h2⟩; rw [h1, h2]; exact k)
end Go.Proofs.Ytfbnhoolkajebaa
