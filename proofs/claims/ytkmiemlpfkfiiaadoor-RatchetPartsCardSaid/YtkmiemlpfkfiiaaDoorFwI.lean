/- The framework, part I: parts of slices and arrays as lists, rows of one-cell values, small lists. Conditions: none. -/
import Derived.Test.YtkmiemlpfkfiiaaDoorFwH
namespace Go.Proofs.YtkmiemlpfkfiiaaDoor
set_option linter.unusedSimpArgs false
set_option linter.unusedVariables false
def Ci (v : Value) (i j : Int) : Value := match v with | .slice a len cap => .slice (if cap = i.toNat then a else a.map (·.add (i.toNat * 1))) (j.toNat - i.toNat) (cap - i.toNat) | _ => undef
def sla (b off n : Nat) (i j : Int) (len : Nat) : Value := Wq b (if len = i.toNat then off else off + i.toNat * n) (j.toNat - i.toNat) (len - i.toNat)
section
variable {P : Program} {fr : Nat → Value} {w : World} {ty T T' E E' : TypeId} {x y : Operand} {d : TypeDesc} {z : Option Value} {n kb b off : Nat} {c : Array Value} {fz : Nat × Nat} {R : Rest} {H Hs : List (Nat × Obj)} {α : Type} {f : α → Value} {v : Value} {l : List α} {m : Nat → Option Obj}
theorem Rd.sub {i j : Int} (h : Rd m f v l) (h0 : 0 ≤ i) (h1 : i ≤ j) (h2 : j ≤ l.length) : Rd m f (Ci v i j) ((l.drop i.toNat).take (j.toNat - i.toNat)) := by
 obtain ⟨a, cap, rfl, hle, h4⟩ := h.is
 exact Rd.slice ⟨a, cap, rfl, hle, h4⟩ h0 h1 h2
theorem Jd {lo hi : Option Operand} {i j : Int} (h : Rd m f v l) (hu : P.underlying T = some (.slice E)) (hi' : Jm P E = some (z, 1, kb)) (hx : Qq fr x = v) (hlo : Qc2 lo fr 0 i) (hhi : Qc2 hi fr (l.length : Int) j) (h0 : 0 ≤ i) (h1 : i ≤ j) (h2 : j ≤ l.length) :
  Ko P fr w (.slice T x lo hi none) ty (Ci v i j) := by
 obtain ⟨a, cap, rfl, hle, h4⟩ := h.is
 exact Qdd hu hi' hx hlo hhi h0 h1 (by omega)
theorem Xo {len : Nat} {lo hi : Option Operand} {i j : Int} (hu : P.underlying T = some (.array len E)) (hi' : Jm P E = some (z, n, kb)) (hx : Qq fr x = ptr b off) (hlo : Qc2 lo fr 0 i) (hhi : Qc2 hi fr len j) (h0 : 0 ≤ i) (h1 : i ≤ j) (h2 : j ≤ len) :
  Ko P fr w (.slice T x lo hi none) ty (sla b off n i j len) := Qma hu hi' hx hlo hhi h0 h1 h2
theorem Rd.sla {i j : Int} {len : Nat} (hb : m b = some (.cells (cl f l) E fz)) (hl : l.length = len) (h0 : 0 ≤ i) (h1 : i ≤ j) (h2 : j ≤ len) : Rd m f (Proofs.YtkmiemlpfkfiiaaDoor.sla b 0 1 i j len) ((l.drop i.toNat).take (j.toNat - i.toNat)) := by
 have hl' : ((l.drop i.toNat).take (j.toNat - i.toNat)).length = j.toNat - i.toNat := by simp; omega
 refine ⟨_, _, by rw [hl']; rfl, by rw [hl']; omega, fun t ht => ?_⟩
 rw [hl'] at ht
 by_cases hc : len = i.toNat
 ·exfalso; omega
 refine ⟨b, i.toNat, cl f l, E, fz, by rw [if_neg hc]; simp, hb, ?_⟩
 rw [Qo4 f l _ (by omega)]; simp
theorem Rd.slaAll {len : Nat} (hb : m b = some (.cells (cl f l) E fz)) (hl : l.length = len) : Rd m f (Proofs.YtkmiemlpfkfiiaaDoor.sla b 0 1 0 len len) l := by
 have := Rd.sla (i := 0) (j := len) hb hl (by omega) (by omega) (by omega)
 have e : (l.drop (0 : Int).toNat).take ((len : Int).toNat - (0 : Int).toNat) = l := by simp [← hl]
 rwa [e] at this
theorem Rd.cast {l' : List α} (h : Rd m f v l) (e : l = l') : Rd m f v l' := e ▸ h
theorem Qmx {n : Nat} (h : 0 < n) : sla b 0 1 0 n n = Wq b 0 n n := by
 have : ¬ n = 0 := by omega
 simp [sla, this]
theorem Ku {len : Nat} {zv : Value} {parts : List (Nat × Operand)} (vs : List Value) (hv : ∀ v ∈ vs, v.oneCell' = true) (hm : Mem w R H) (hu : P.underlying T = some (.slice E)) (hi : Jm P E = some (some zv, 1, kb)) (hs : Nat.ble (len * 1) 16777216 = true)
  (hp : (parts.map fun q => (q.1, Qq fr q.2)) = Ac 0 vs) (hl : vs.length = len) :
  Vp P fr w (.buildSlice T len parts.toArray) ty (fun v w' => ∃ b, v = Wq b 0 len len ∧ Ext w w' ∧ Mem w' R ((b, .cells vs.toArray E) :: H)) := by
 refine Qbd hm hu hi hs hp ?_
 rw [Qdt _ _ _ hv (by simp; omega), Qfe (by simp; omega)]
theorem Qep {u : Value} {ms : List α} {dl dc : Nat} (hx : Qq fr x = Wq b 0 dl dc) (hy : Qq fr y = u) (hr : Rd (Jl w) f u ms) (hT : P.underlying T = some (.slice E)) (hi : Jm P E = some (z, 1, kb)) (hf : ∀ a, (f a).oneCell' = true)
  (hb : w.heap[b]? = some (.cells (cl f l) E' fz)) (hs : ms.length ≤ dl) (hs2 : dl ≤ l.length) (hfz : fz.2 ≤ 0) :
  Vp P fr w (.call ⟨.builtin .copy, #[x, y], #[T, T']⟩) ty (fun v' w' => v' = i64 (ms.length : Nat) ∧ Upd w b (.cells (cl f (ms ++ l.drop ms.length)) E' fz) w') := by
 have hmin : min ms.length dl = ms.length := by omega
 refine (or_copy (T' := T') hx hy hr hT hi hf hb (by rw [Qe5]; omega) (by omega)).mono ?_
 rintro v' w' ⟨h1, h2⟩
 rw [hmin] at h1 h2
 refine ⟨h1, ?_⟩
 rw [List.take_of_length_le (Nat.le_refl _), ovr_cl _ _ _ _ (by omega)] at h2
 simpa using h2
end
section
variable {P : Program} {fr : Nat → Value} {w : World} {ty T E : TypeId} {x y : Operand} {z : Option Value} {n kb b off : Nat}
theorem Zo {len r : Nat} {k : IntKind} {i : Int} (hr : off + i.toNat * n = r) (hu : P.underlying T = some (.array len E)) (hi : Jm P E = some (z, n, kb)) (hx : Qq fr x = ptr b off) (hy : Qq fr y = .int k i) (h0 : 0 ≤ i) (h1 : i < len) :
  Ko P fr w (.indexAddr T x y) ty (ptr b r) := hr ▸ Qgs hu hi hx hy h0 h1
theorem Dv {len cap r : Nat} {k : IntKind} {i : Int} (hr : off + i.toNat * n = r) (hu : P.underlying T = some (.slice E)) (hi : Jm P E = some (z, n, kb)) (hx : Qq fr x = Wq b off len cap) (hy : Qq fr y = .int k i) (h0 : 0 ≤ i) (h1 : i < len) :
  Ko P fr w (.indexAddr T x y) ty (ptr b r) := hr ▸ Qgr hu hi hx hy h0 h1
theorem Zr {r : Nat} {fs : Array Field} {i : Nat} {f : Field} (hu : P.underlying T = some (.struct fs)) (hf : fs[i]? = some f) (hr : off + f.offset = r) (hi : Jm P f.type = some (z, n, kb)) (hn : Nat.blt 0 n = true) (hx : Qq fr x = ptr b off) :
  Ko P fr w (.fieldAddr T x i) ty (ptr b r) := hr ▸ Qfq hu hf hi hn hx
end
section
variable {P : Program} {fr : Nat → Value} {w : World} {ty T E : TypeId} {x y : Operand} {z : Option Value} {n kb b off : Nat} {α : Type} {f : α → Value} {v : Value} {l : List α} {R : Rest} {H Hs : List (Nat × Obj)}
theorem Qj6 {a : α} {i : Int} (hm : Mem w R (Hs ++ H)) (hg : Xe f E v l Hs) (hf : ∀ a, (f a).oneCell' = true) (hi : Jm P T = some (z, 1, kb)) (h0 : 0 ≤ i) (h1 : i.toNat < l.length) (hx : Qq fr x = elpv v i) (hy : Qq fr y = f a) :
  Vp P fr w (.store T x y) ty (fun _ w' => ∃ Hs', Mem w' R (Hs' ++ H) ∧ Xe f E v (l.set i.toNat a) Hs') := by
 rcases hg with ⟨⟨a0, rfl⟩, rfl, rfl⟩ | ⟨b, pre, sp, post, rfl, rfl⟩
 ·simp at h1
 have hb : w.heap[b]? = some (.cells (pre ++ (l.map f ++ (sp ++ post))).toArray E (0, 0)) := hm.own (b, .cells (pre ++ (l.map f ++ (sp ++ post))).toArray E (0, 0)) X7
 have hx' : Qq fr x = ptr b (pre.length + i.toNat) := by rw [hx]; simp [elpv, Wq, elp, Vx, ptr]
 refine (Un hi hx' hy (hf a) hb (by simp; omega) (.inl (Nat.zero_le _))).mono fun _ w' hu => ?_
 refine ⟨[(b, .cells (pre ++ ((l.set i.toNat a).map f ++ (sp ++ post))).toArray E (0, 0))], ?_, .inr ⟨b, pre, sp, post, by simp, rfl⟩⟩
 have e : (pre ++ (l.map f ++ (sp ++ post))).toArray.setIfInBounds (pre.length + i.toNat) (f a) = (pre ++ ((l.set i.toNat a).map f ++ (sp ++ post))).toArray := by
  apply Array.ext'
  simp only [Array.toList_setIfInBounds, List.map_set]
  rw [List.set_append_right _ _ (by omega), Nat.add_sub_cancel_left, List.set_append_left _ _ (by simpa using h1)]
 rw [e] at hu
 exact Mem.upd (H1 := []) hm hu
theorem Xe.sub {i j : Int} (hg : Xe f E v l Hs) (h0 : 0 ≤ i) (h1 : i ≤ j) (h2 : j ≤ l.length) : Xe f E (Ci v i j) ((l.drop i.toNat).take (j.toNat - i.toNat)) Hs := by
 rcases hg with ⟨⟨a0, rfl⟩, rfl, rfl⟩ | ⟨b, pre, sp, post, rfl, rfl⟩
 ·simp at h2
  have e0 : i.toNat = 0 := by omega
  have e1 : j.toNat = 0 := by omega
  refine .inl ⟨⟨a0, ?_⟩, by simp, rfl⟩
  simp [Ci, e0, e1]
 have hl : ((l.drop i.toNat).take (j.toNat - i.toNat)).length = j.toNat - i.toNat := by simp; omega
 have hsplit : l = l.take i.toNat ++ ((l.drop i.toNat).take (j.toNat - i.toNat) ++ l.drop j.toNat) := by
  have e : l.drop j.toNat = (l.drop i.toNat).drop (j.toNat - i.toNat) := by rw [List.drop_drop]; congr 1; omega
  rw [e, List.take_append_drop, List.take_append_drop]
 by_cases hcap : l.length + sp.length = i.toNat
 ·
  have e1 : j.toNat - i.toNat = 0 := by omega
  have e2 : sp.length = 0 := by omega
  have e3 : sp = [] := List.eq_nil_of_length_eq_zero e2
  refine .inr ⟨b, pre, [], l.map f ++ post, ?_, ?_⟩
  ·simp [Ci, Wq, hcap, e1]
  simp [e1, e3]
 refine .inr ⟨b, pre ++ (l.take i.toNat).map f, (l.drop j.toNat).map f ++ sp, post, ?_, ?_⟩
 ·simp only [Ci, Wq, hl, List.length_append, List.length_map, List.length_take, List.length_drop]
  rw [if_neg hcap]
  simp only [Option.map_some, Vx, Nat.mul_one]
  have e4 : min i.toNat l.length = i.toNat := by omega
  rw [e4]
  congr 1; omega
 have e5 : l.map f = (l.take i.toNat).map f ++ (((l.drop i.toNat).take (j.toNat - i.toNat)).map f ++ (l.drop j.toNat).map f) := by
  rw [← List.map_append, ← List.map_append, ← hsplit]
 rw [e5]
 simp
theorem Xe.cast {l' : List α} (h : Xe f E v l Hs) (e : l = l') : Xe f E v l' Hs := e ▸ h
end
theorem Bq {P : Program} {n : Nat} {x : Code} {N J : (Nat → Value) → World → Prop} {Q : Exit → (Nat → Value) → World → Prop} {fr : Nat → Value} {w : World} (h : CW P n x (Qcl J Q) fr w) (k : ∀ fr w, J fr w → N fr w) : CW P n x (Qcl N Q) fr w :=
 h.mono fun e fr w q => by cases e <;> first | exact k _ _ q | exact q
section
variable {P : Program} {fr : Nat → Value} {w w' : World} {ty T E : TypeId} {x y : Operand} {z : Option Value} {n kb b off : Nat} {α : Type} {f : α → Value} {v : Value} {l : List α} {R : Rest} {H Hs : List (Nat × Obj)} {o o' : Obj} {fz : Nat × Nat}
theorem Zc (hm : Mem w R H) (hi : Jm P T = some (some (agg f l), n, kb)) : Vp P fr w (.alloc T) ty (fun p w' => ∃ b, p = ptr b 0 ∧ Ext w w' ∧ Mem w' R ((b, .cells (cl f l) T) :: H)) := Qi4 hm hi
theorem Xa (hm : Mem w R H) (hx : Qq fr x = agg f l) : Vp P fr w (.box T x) ty (fun p w' => ∃ b, p = ptr b 0 ∧ Ext w w' ∧ Mem w' R ((b, .cells (cl f l) T) :: H)) := or_box hm hx
theorem Zn {l l' : List α} {a : α} (hl' : l.set off a = l') (hf : ∀ a, (f a).oneCell' = true) (hi : Jm P T = some (z, 1, kb)) (hx : Qq fr x = ptr b off) (hy : Qq fr y = f a) (hb : w.heap[b]? = some (.cells (cl f l) E fz)) (hs : off < l.length) (hfz : fz.2 ≤ off ∨ off + 1 ≤ fz.1) :
  Vp P fr w (.store T x y) ty (fun _ w' => Upd w b (.cells (cl f l') E fz) w') := hl' ▸ Xz hf hi hx hy hb hs hfz
theorem Qj {c : Array Value} (hf : ∀ a, (f a).oneCell' = true) (hi : Jm P T = some (z, n, kb)) (hx : Qq fr x = ptr b 0) (hy : Qq fr y = agg f l) (hn : l.length = n) (hb : w.heap[b]? = some (.cells c E fz)) (hs : c.size = n) (hfz : fz.2 = 0) :
  Vp P fr w (.store T x y) ty (fun _ w' => Upd w b (.cells (cl f l) E fz) w') := Qgg hi hx hy (by rw [Qe5]; exact hn) (cl_one hf l) hb hs hfz
theorem Mem.upd0 (h : Mem w R ((b, o) :: H)) (u : Upd w b o' w') : Mem w' R ((b, o') :: H) := Mem.upd (H1 := []) h u
theorem Mem.upd1 {p : Nat × Obj} (h : Mem w R (p :: (b, o) :: H)) (u : Upd w b o' w') : Mem w' R (p :: (b, o') :: H) := Mem.upd (H1 := [p]) h u
theorem Mem.upd2 {p q : Nat × Obj} (h : Mem w R (p :: q :: (b, o) :: H)) (u : Upd w b o' w') : Mem w' R (p :: q :: (b, o') :: H) := Mem.upd (H1 := [p, q]) h u
theorem Mem.upd3 {p q r : Nat × Obj} (h : Mem w R (p :: q :: r :: (b, o) :: H)) (u : Upd w b o' w') : Mem w' R (p :: q :: r :: (b, o') :: H) := Mem.upd (H1 := [p, q, r]) h u
theorem Mem.upd5 {p q r s t : Nat × Obj} (h : Mem w R (p :: q :: r :: s :: t :: (b, o) :: H)) (u : Upd w b o' w') : Mem w' R (p :: q :: r :: s :: t :: (b, o') :: H) := Mem.upd (H1 := [p, q, r, s, t]) h u
end
theorem Vm {P : Program} {fr : Nat → Value} {w : World} {ty : TypeId} {c x y : Operand} {b : Bool} {u : Value} (hc : Qq fr c = bl b) (hb : b = true) (hx : Qq fr x = u) : Ko P fr w (.pick c x y) ty u := by subst hb; exact Qk9 hc hx
theorem Y4 {P : Program} {fr : Nat → Value} {w : World} {ty : TypeId} {c x y : Operand} {b : Bool} {u : Value} (hc : Qq fr c = bl b) (hb : b = false) (hy : Qq fr y = u) : Ko P fr w (.pick c x y) ty u := by subst hb; exact Qbv hc hy
theorem Z5 {P : Program} {n : Nat} {ops : Array Oper} {K : (Nat → Value) → World → Prop} {fr : Nat → Value} {w : World} {rest : List Oper} {op : Op} {ty : TypeId} {pos : String} {aft : Array Edge} {d j s : Nat} {b want : Bool} {v : Value} (hj : (ops[j]?).bind (·.dst) = some s) (hs : fr s = .bool b) (hb : b = want) (hd : Nat.blt d n = true) (h : Ko P fr w op ty v)
  (k : RW P n ops rest K (upd fr d v) w) : RW P n ops (⟨some d, op, ty, pos, aft, some (j, want)⟩ :: rest) K fr w :=
 Qbm hj hs hb hd (Ko.opR h) (by rintro v' w' ⟨h1, h2⟩; rw [h1, h2]; exact k)
theorem list4r {α : Type} (l : List α) (h : 4 ≤ l.length) : ∃ a b c d r, l = a :: b :: c :: d :: r := by
 match l, h with
 | a :: b :: c :: d :: r, _ => exact ⟨a, b, c, d, r, rfl⟩
 | [], h => simp at h
 | [_], h => simp at h
 | [_, _], h => simp at h
 | [_, _, _], h => simp at h
def Y1 {α : Type} (g : Nat → α) (z : α) (n k : Nat) : List α := (List.range k).map g ++ List.replicate (n - k) z
theorem Em {α : Type} (g : Nat → α) (z : α) (n : Nat) : Y1 g z n 0 = List.replicate n z := by simp [Y1]
theorem Ag {α : Type} (g : Nat → α) (z : α) (n : Nat) : Y1 g z n n = (List.range n).map g := by simp [Y1]
theorem Kz {α : Type} (g : Nat → α) (z : α) (n k : Nat) (h : k ≤ n) : (Y1 g z n k).length = n := by simp [Y1]; omega
theorem Ew {α : Type} (g : Nat → α) (z : α) {n k : Nat} (h : k < n) (x : α) (hx : x = g k) : (Y1 g z n k).set k x = Y1 g z n (k + 1) := by
 subst hx
 unfold Y1
 rw [List.set_append_right _ _ X7, List.range_succ, List.map_append]
 have : n - k = (n - (k + 1)) + 1 := by omega
 rw [this, List.replicate_succ]
 simp
end Go.Proofs.YtkmiemlpfkfiiaaDoor
