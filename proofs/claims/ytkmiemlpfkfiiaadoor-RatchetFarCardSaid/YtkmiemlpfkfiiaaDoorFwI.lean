/- The framework, part I: parts of slices and arrays as lists, rows of one-cell values, small lists. Conditions: none. -/
import Derived.Test.YtkmiemlpfkfiiaaDoorFwH
namespace Go.Proofs.YtkmiemlpfkfiiaaDoor
set_option linter.unusedSimpArgs false
set_option linter.unusedVariables false
def Ai (v : Value) (i j : Int) : Value := match v with | .slice a len cap => .slice (if cap = i.toNat then a else a.map (·.add (i.toNat * 1))) (j.toNat - i.toNat) (cap - i.toNat) | _ => undef
def sla (b off n : Nat) (i j : Int) (len : Nat) : Value := Kq b (if len = i.toNat then off else off + i.toNat * n) (j.toNat - i.toNat) (len - i.toNat)
section
variable {P : Program} {fr : Nat → Value} {w : World} {ty T T' E E' : TypeId} {x y : Operand} {d : TypeDesc} {z : Option Value} {n kb b off : Nat} {c : Array Value} {fz : Nat × Nat} {R : Rest} {H Hs : List (Nat × Obj)} {α : Type} {f : α → Value} {v : Value} {l : List α} {m : Nat → Option Obj}
theorem Rd.sub {i j : Int} (h : Rd m f v l) (h0 : 0 ≤ i) (h1 : i ≤ j) (h2 : j ≤ l.length) : Rd m f (Ai v i j) ((l.drop i.toNat).take (j.toNat - i.toNat)) := by
 obtain ⟨a, cap, rfl, hle, h4⟩ := h.is
 exact Rd.slice ⟨a, cap, rfl, hle, h4⟩ h0 h1 h2
theorem Yv {lo hi : Option Operand} {i j : Int} (h : Rd m f v l) (hu : P.underlying T = some (.slice E)) (hi' : X4 P E = some (z, 1, kb)) (hx : Qg fr x = v) (hlo : Tn lo fr 0 i) (hhi : Tn hi fr (l.length : Int) j) (h0 : 0 ≤ i) (h1 : i ≤ j) (h2 : j ≤ l.length) :
  Yt P fr w (.slice T x lo hi none) ty (Ai v i j) := by
 obtain ⟨a, cap, rfl, hle, h4⟩ := h.is
 exact Qab hu hi' hx hlo hhi h0 h1 (by omega)
theorem Z7 {len : Nat} {lo hi : Option Operand} {i j : Int} (hu : P.underlying T = some (.array len E)) (hi' : X4 P E = some (z, n, kb)) (hx : Qg fr x = ptr b off) (hlo : Tn lo fr 0 i) (hhi : Tn hi fr len j) (h0 : 0 ≤ i) (h1 : i ≤ j) (h2 : j ≤ len) :
  Yt P fr w (.slice T x lo hi none) ty (sla b off n i j len) := Qiq hu hi' hx hlo hhi h0 h1 h2
theorem Rd.sla {i j : Int} {len : Nat} (hb : m b = some (.cells (cl f l) E fz)) (hl : l.length = len) (h0 : 0 ≤ i) (h1 : i ≤ j) (h2 : j ≤ len) : Rd m f (Proofs.YtkmiemlpfkfiiaaDoor.sla b 0 1 i j len) ((l.drop i.toNat).take (j.toNat - i.toNat)) := by
 have hl' : ((l.drop i.toNat).take (j.toNat - i.toNat)).length = j.toNat - i.toNat := by simp; omega
 refine ⟨_, _, by rw [hl']; rfl, by rw [hl']; omega, fun t ht => ?_⟩
 rw [hl'] at ht
 by_cases hc : len = i.toNat
 ·exfalso; omega
 refine ⟨b, i.toNat, cl f l, E, fz, by rw [if_neg hc]; simp, hb, ?_⟩
 rw [Qle f l _ (by omega)]; simp
theorem Rd.slaAll {len : Nat} (hb : m b = some (.cells (cl f l) E fz)) (hl : l.length = len) : Rd m f (Proofs.YtkmiemlpfkfiiaaDoor.sla b 0 1 0 len len) l := by
 have := Rd.sla (i := 0) (j := len) hb hl (by omega) (by omega) (by omega)
 have e : (l.drop (0 : Int).toNat).take ((len : Int).toNat - (0 : Int).toNat) = l := by simp [← hl]
 rwa [e] at this
theorem Rd.cast {l' : List α} (h : Rd m f v l) (e : l = l') : Rd m f v l' := e ▸ h
theorem Qjk {n : Nat} (h : 0 < n) : sla b 0 1 0 n n = Kq b 0 n n := by
 have : ¬ n = 0 := by omega
 simp [sla, this]
theorem Y0 {len : Nat} {zv : Value} {parts : List (Nat × Operand)} (vs : List Value) (hv : ∀ v ∈ vs, v.oneCell' = true) (hm : Mem w R H) (hu : P.underlying T = some (.slice E)) (hi : X4 P E = some (some zv, 1, kb)) (hs : Nat.ble (len * 1) 16777216 = true)
  (hp : (parts.map fun q => (q.1, Qg fr q.2)) = Tm 0 vs) (hl : vs.length = len) :
  J8 P fr w (.buildSlice T len parts.toArray) ty (fun v w' => ∃ b, v = Kq b 0 len len ∧ Ext w w' ∧ Mem w' R ((b, .cells vs.toArray E) :: H)) := by
 refine Nu hm hu hi hs hp ?_
 rw [Qaz _ _ _ hv (by simp; omega), Qcg (by simp; omega)]
theorem Qbo {u : Value} {ms : List α} {dl dc : Nat} (hx : Qg fr x = Kq b 0 dl dc) (hy : Qg fr y = u) (hr : Rd (Yn w) f u ms) (hT : P.underlying T = some (.slice E)) (hi : X4 P E = some (z, 1, kb)) (hf : ∀ a, (f a).oneCell' = true)
  (hb : w.heap[b]? = some (.cells (cl f l) E' fz)) (hs : ms.length ≤ dl) (hs2 : dl ≤ l.length) (hfz : fz.2 ≤ 0) :
  J8 P fr w (.call ⟨.builtin .copy, #[x, y], #[T, T']⟩) ty (fun v' w' => v' = i64 (ms.length : Nat) ∧ Upd w b (.cells (cl f (ms ++ l.drop ms.length)) E' fz) w') := by
 have hmin : min ms.length dl = ms.length := by omega
 refine (or_copy (T' := T') hx hy hr hT hi hf hb (by rw [Qb6]; omega) (by omega)).mono ?_
 rintro v' w' ⟨h1, h2⟩
 rw [hmin] at h1 h2
 refine ⟨h1, ?_⟩
 rw [List.take_of_length_le (Nat.le_refl _), ovr_cl _ _ _ _ (by omega)] at h2
 simpa using h2
end
section
variable {P : Program} {fr : Nat → Value} {w : World} {ty T E : TypeId} {x y : Operand} {z : Option Value} {n kb b off : Nat}
theorem Xc {len r : Nat} {k : IntKind} {i : Int} (hr : off + i.toNat * n = r) (hu : P.underlying T = some (.array len E)) (hi : X4 P E = some (z, n, kb)) (hx : Qg fr x = ptr b off) (hy : Qg fr y = .int k i) (h0 : 0 ≤ i) (h1 : i < len) :
  Yt P fr w (.indexAddr T x y) ty (ptr b r) := hr ▸ Qdm hu hi hx hy h0 h1
theorem Po {len cap r : Nat} {k : IntKind} {i : Int} (hr : off + i.toNat * n = r) (hu : P.underlying T = some (.slice E)) (hi : X4 P E = some (z, n, kb)) (hx : Qg fr x = Kq b off len cap) (hy : Qg fr y = .int k i) (h0 : 0 ≤ i) (h1 : i < len) :
  Yt P fr w (.indexAddr T x y) ty (ptr b r) := hr ▸ Qdl hu hi hx hy h0 h1
theorem Zd {r : Nat} {fs : Array Field} {i : Nat} {f : Field} (hu : P.underlying T = some (.struct fs)) (hf : fs[i]? = some f) (hr : off + f.offset = r) (hi : X4 P f.type = some (z, n, kb)) (hn : Nat.blt 0 n = true) (hx : Qg fr x = ptr b off) :
  Yt P fr w (.fieldAddr T x i) ty (ptr b r) := hr ▸ Qcv hu hf hi hn hx
end
section
variable {P : Program} {fr : Nat → Value} {w : World} {ty T E : TypeId} {x y : Operand} {z : Option Value} {n kb b off : Nat} {α : Type} {f : α → Value} {v : Value} {l : List α} {R : Rest} {H Hs : List (Nat × Obj)}
theorem Xl.sub {i j : Int} (hg : Xl f E v l Hs) (h0 : 0 ≤ i) (h1 : i ≤ j) (h2 : j ≤ l.length) : Xl f E (Ai v i j) ((l.drop i.toNat).take (j.toNat - i.toNat)) Hs := by
 rcases hg with ⟨⟨a0, rfl⟩, rfl, rfl⟩ | ⟨b, pre, sp, post, rfl, rfl⟩
 ·simp at h2
  have e0 : i.toNat = 0 := by omega
  have e1 : j.toNat = 0 := by omega
  refine .inl ⟨⟨a0, ?_⟩, by simp, rfl⟩
  simp [Ai, e0, e1]
 have hl : ((l.drop i.toNat).take (j.toNat - i.toNat)).length = j.toNat - i.toNat := by simp; omega
 have hsplit : l = l.take i.toNat ++ ((l.drop i.toNat).take (j.toNat - i.toNat) ++ l.drop j.toNat) := by
  have e : l.drop j.toNat = (l.drop i.toNat).drop (j.toNat - i.toNat) := by rw [List.drop_drop]; congr 1; omega
  rw [e, List.take_append_drop, List.take_append_drop]
 by_cases hcap : l.length + sp.length = i.toNat
 ·
  have e1 : j.toNat - i.toNat = 0 := by omega
  have e2 : sp.length = 0 := by omega
  have e3 : sp = [] := List.eq_nil_of_length_eq_zero e2
  refine .inr ⟨b, pre, [], l.map f ++ post, ?_, ?_⟩
  ·simp [Ai, Kq, hcap, e1]
  simp [e1, e3]
 refine .inr ⟨b, pre ++ (l.take i.toNat).map f, (l.drop j.toNat).map f ++ sp, post, ?_, ?_⟩
 ·simp only [Ai, Kq, hl, List.length_append, List.length_map, List.length_take, List.length_drop]
  rw [if_neg hcap]
  simp only [Option.map_some, Wq, Nat.mul_one]
  have e4 : min i.toNat l.length = i.toNat := by omega
  rw [e4]
  congr 1; omega
 have e5 : l.map f = (l.take i.toNat).map f ++ (((l.drop i.toNat).take (j.toNat - i.toNat)).map f ++ (l.drop j.toNat).map f) := by
  rw [← List.map_append, ← List.map_append, ← hsplit]
 rw [e5]
 simp
theorem Xl.cast {l' : List α} (h : Xl f E v l Hs) (e : l = l') : Xl f E v l' Hs := e ▸ h
end
theorem Qa2 {P : Program} {n : Nat} {x : Code} {N J : (Nat → Value) → World → Prop} {Q : Exit → (Nat → Value) → World → Prop} {fr : Nat → Value} {w : World} (h : CW P n x (Si J Q) fr w) (k : ∀ fr w, J fr w → N fr w) : CW P n x (Si N Q) fr w :=
 h.mono fun e fr w q => by cases e <;> first | exact k _ _ q | exact q
section
variable {P : Program} {fr : Nat → Value} {w w' : World} {ty T E : TypeId} {x y : Operand} {z : Option Value} {n kb b off : Nat} {α : Type} {f : α → Value} {v : Value} {l : List α} {R : Rest} {H Hs : List (Nat × Obj)} {o o' : Obj} {fz : Nat × Nat}
theorem Zf (hm : Mem w R H) (hi : X4 P T = some (some (agg f l), n, kb)) : J8 P fr w (.alloc T) ty (fun p w' => ∃ b, p = ptr b 0 ∧ Ext w w' ∧ Mem w' R ((b, .cells (cl f l) T) :: H)) := Qfn hm hi
theorem Zw (hm : Mem w R H) (hx : Qg fr x = agg f l) : J8 P fr w (.box T x) ty (fun p w' => ∃ b, p = ptr b 0 ∧ Ext w w' ∧ Mem w' R ((b, .cells (cl f l) T) :: H)) := or_box hm hx
theorem Q8 {l l' : List α} {a : α} (hl' : l.set off a = l') (hf : ∀ a, (f a).oneCell' = true) (hi : X4 P T = some (z, 1, kb)) (hx : Qg fr x = ptr b off) (hy : Qg fr y = f a) (hb : w.heap[b]? = some (.cells (cl f l) E fz)) (hs : off < l.length) (hfz : fz.2 ≤ off ∨ off + 1 ≤ fz.1) :
  J8 P fr w (.store T x y) ty (fun _ w' => Upd w b (.cells (cl f l') E fz) w') := hl' ▸ X9 hf hi hx hy hb hs hfz
theorem Qq {c : Array Value} (hf : ∀ a, (f a).oneCell' = true) (hi : X4 P T = some (z, n, kb)) (hx : Qg fr x = ptr b 0) (hy : Qg fr y = agg f l) (hn : l.length = n) (hb : w.heap[b]? = some (.cells c E fz)) (hs : c.size = n) (hfz : fz.2 = 0) :
  J8 P fr w (.store T x y) ty (fun _ w' => Upd w b (.cells (cl f l) E fz) w') := Qde hi hx hy (by rw [Qb6]; exact hn) (cl_one hf l) hb hs hfz
theorem Mem.upd0 (h : Mem w R ((b, o) :: H)) (u : Upd w b o' w') : Mem w' R ((b, o') :: H) := Mem.upd (H1 := []) h u
theorem Mem.upd1 {p : Nat × Obj} (h : Mem w R (p :: (b, o) :: H)) (u : Upd w b o' w') : Mem w' R (p :: (b, o') :: H) := Mem.upd (H1 := [p]) h u
theorem Mem.upd2 {p q : Nat × Obj} (h : Mem w R (p :: q :: (b, o) :: H)) (u : Upd w b o' w') : Mem w' R (p :: q :: (b, o') :: H) := Mem.upd (H1 := [p, q]) h u
theorem Mem.upd3 {p q r : Nat × Obj} (h : Mem w R (p :: q :: r :: (b, o) :: H)) (u : Upd w b o' w') : Mem w' R (p :: q :: r :: (b, o') :: H) := Mem.upd (H1 := [p, q, r]) h u
end
theorem V7 {P : Program} {fr : Nat → Value} {w : World} {ty : TypeId} {c x y : Operand} {b : Bool} {u : Value} (hc : Qg fr c = bl b) (hb : b = true) (hx : Qg fr x = u) : Yt P fr w (.pick c x y) ty u := by subst hb; exact Qhi hc hx
theorem Js {P : Program} {fr : Nat → Value} {w : World} {ty : TypeId} {c x y : Operand} {b : Bool} {u : Value} (hc : Qg fr c = bl b) (hb : b = false) (hy : Qg fr y = u) : Yt P fr w (.pick c x y) ty u := by subst hb; exact Qn8 hc hy
theorem Zt {P : Program} {n : Nat} {ops : Array Oper} {K : (Nat → Value) → World → Prop} {fr : Nat → Value} {w : World} {rest : List Oper} {op : Op} {ty : TypeId} {pos : String} {aft : Array Edge} {d j s : Nat} {b want : Bool} {v : Value} (hj : (ops[j]?).bind (·.dst) = some s) (hs : fr s = .bool b) (hb : b = want) (hd : Nat.blt d n = true) (h : Yt P fr w op ty v)
  (k : RW P n ops rest K (upd fr d v) w) : RW P n ops (⟨some d, op, ty, pos, aft, some (j, want)⟩ :: rest) K fr w :=
 rw_gy hj hs hb hd (Yt.opR h) (by rintro v' w' ⟨h1, h2⟩; rw [h1, h2]; exact k)
theorem list4r {α : Type} (l : List α) (h : 4 ≤ l.length) : ∃ a b c d r, l = a :: b :: c :: d :: r := by
 match l, h with
 | a :: b :: c :: d :: r, _ => exact ⟨a, b, c, d, r, rfl⟩
 | [], h => simp at h
 | [_], h => simp at h
 | [_, _], h => simp at h
 | [_, _, _], h => simp at h
def Wy {α : Type} (g : Nat → α) (z : α) (n k : Nat) : List α := (List.range k).map g ++ List.replicate (n - k) z
theorem Nc {α : Type} (g : Nat → α) (z : α) (n : Nat) : Wy g z n 0 = List.replicate n z := by simp [Wy]
theorem Qfz {α : Type} (g : Nat → α) (z : α) (n : Nat) : Wy g z n n = (List.range n).map g := by simp [Wy]
theorem Bl {α : Type} (g : Nat → α) (z : α) (n k : Nat) (h : k ≤ n) : (Wy g z n k).length = n := by simp [Wy]; omega
theorem Ri {α : Type} (g : Nat → α) (z : α) {n k : Nat} (h : k < n) (x : α) (hx : x = g k) : (Wy g z n k).set k x = Wy g z n (k + 1) := by
 subst hx
 unfold Wy
 rw [List.set_append_right _ _ Xk, List.range_succ, List.map_append]
 have : n - k = (n - (k + 1)) + 1 := by omega
 rw [this, List.replicate_succ]
 simp
end Go.Proofs.YtkmiemlpfkfiiaaDoor
