/- The framework, part M: structs, parts of aggregates, blocks that a call is lent. Conditions: none. -/
import Derived.Test.YtkmiemlpfkfiiaaDoorFwH
import Derived.Laws.StructEq
namespace Go.Proofs.YtkmiemlpfkfiiaaDoor
open List renaming getElem?_eq_getElem → dB, map_append → dF, range → bP, replicate → aA
open Nat renaming add_sub_cancel_left → dh, eq_of_beq_eq_true → dQ, le_of_ble_eq_true → bQ
open Result renaming andThen_ok → bJ
section
set_option linter.unusedSimpArgs false
set_option linter.unusedVariables false
def Cf (v : Value) (i j : Int) : Value := match v with | .slice a len cap => .slice (if cap = i.toNat then a else a.map (·.add (i.toNat * 1))) (j.toNat - i.toNat) (cap - i.toNat) | _ => undef
def sla (b off n : Nat) (i j : Int) (len : Nat) : Value := Wi b (if len = i.toNat then off else off + i.toNat * n) (j.toNat - i.toNat) (len - i.toNat)
section
variable {P : Program} {fr : Nat → Value} {w : World} {ty T T' E E' : TypeId} {x y : Operand} {d : TypeDesc} {z : Option Value} {n kb b off : Nat} {c : Array Value} {fz : Nat × Nat} {R : Rest} {H Hs : List (Nat × Obj)} {α : Type} {f : α → Value} {v : Value} {l : List α} {m : Nat → Option Obj}
theorem Rd.sub {i j : Int} (h : Rd m f v l) (h0 : 0 ≤ i) (h1 : i ≤ j) (h2 : j ≤ l.length) : Rd m f (Cf v i j) ((l.drop i.toNat).take (j.toNat - i.toNat)) := by
 obtain ⟨a, cap, rfl, hle, h4⟩ := h.is
 exact Rd.slice ⟨a, cap, rfl, hle, h4⟩ h0 h1 h2
theorem Y8 {lo hi : Option Operand} {i j : Int} (h : Rd m f v l) (hu : P.underlying T = some (.slice E)) (hi' : Ji P E = some (z, 1, kb)) (hx : Ql fr x = v) (hlo : Qdc lo fr 0 i) (hhi : Qdc hi fr (l.length : Int) j) (h0 : 0 ≤ i) (h1 : i ≤ j) (h2 : j ≤ l.length) :
  Jv P fr w (.slice T x lo hi none) ty (Cf v i j) := by
 obtain ⟨a, cap, rfl, hle, h4⟩ := h.is
 exact Qdn hu hi' hx hlo hhi h0 h1 (by omega)
theorem Xj {len : Nat} {lo hi : Option Operand} {i j : Int} (hu : P.underlying T = some (.array len E)) (hi' : Ji P E = some (z, n, kb)) (hx : Ql fr x = ptr b off) (hlo : Qdc lo fr 0 i) (hhi : Qdc hi fr len j) (h0 : 0 ≤ i) (h1 : i ≤ j) (h2 : j ≤ len) :
  Jv P fr w (.slice T x lo hi none) ty (sla b off n i j len) := Qni hu hi' hx hlo hhi h0 h1 h2
theorem Rd.sla {i j : Int} {len : Nat} (hb : m b = some (.cells (cl f l) E fz)) (hl : l.length = len) (h0 : 0 ≤ i) (h1 : i ≤ j) (h2 : j ≤ len) : Rd m f (Proofs.YtkmiemlpfkfiiaaDoor.sla b 0 1 i j len) ((l.drop i.toNat).take (j.toNat - i.toNat)) := by
 have hl' : ((l.drop i.toNat).take (j.toNat - i.toNat)).length = j.toNat - i.toNat := by simp; omega
 refine ⟨_, _, by rw [hl']; rfl, by rw [hl']; omega, fun t ht => ?_⟩
 rw [hl'] at ht
 by_cases hc : len = i.toNat
 ·exfalso; omega
 refine ⟨b, i.toNat, cl f l, E, fz, by rw [if_neg hc]; simp, hb, ?_⟩
 rw [Qqt f l _ (by omega)]; simp
theorem Rd.slaAll {len : Nat} (hb : m b = some (.cells (cl f l) E fz)) (hl : l.length = len) : Rd m f (Proofs.YtkmiemlpfkfiiaaDoor.sla b 0 1 0 len len) l := by
 have := Rd.sla (i := 0) (j := len) hb hl (by omega) (by omega) (by omega)
 have e : (l.drop (0 : Int).toNat).take ((len : Int).toNat - (0 : Int).toNat) = l := by simp [← hl]
 rwa [e] at this
theorem Rd.cast {l' : List α} (h : Rd m f v l) (e : l = l') : Rd m f v l' := e ▸ h
theorem Qn8 {n : Nat} (h : 0 < n) : sla b 0 1 0 n n = Wi b 0 n n := by
 have : ¬ n = 0 := by omega
 simp [sla, this]
theorem Kv {len : Nat} {zv : Value} {parts : List (Nat × Operand)} (vs : List Value) (hv : ∀ v ∈ vs, v.oneCell' = true) (hm : Mem w R H) (hu : P.underlying T = some (.slice E)) (hi : Ji P E = some (some zv, 1, kb)) (hs : Nat.ble (len * 1) 16777216 = true)
  (hp : (parts.map fun q => (q.1, Ql fr q.2)) = Bz 0 vs) (hl : vs.length = len) :
  Vf P fr w (.buildSlice T len parts.toArray) ty (fun v w' => ∃ b, v = Wi b 0 len len ∧ Ext w w' ∧ Mem w' R ((b, .cells vs.toArray E) :: H)) := by
 refine Qbe hm hu hi hs hp ?_
 rw [Qd8 _ _ _ hv (by simp; omega), Qf6 (by simp; omega)]
theorem Qe6 {u : Value} {ms : List α} {dl dc : Nat} (hx : Ql fr x = Wi b 0 dl dc) (hy : Ql fr y = u) (hr : Rd (Jd w) f u ms) (hT : P.underlying T = some (.slice E)) (hi : Ji P E = some (z, 1, kb)) (hf : ∀ a, (f a).oneCell' = true)
  (hb : w.heap[b]? = some (.cells (cl f l) E' fz)) (hs : ms.length ≤ dl) (hs2 : dl ≤ l.length) (hfz : fz.2 ≤ 0) :
  Vf P fr w (.call ⟨.builtin .copy, #[x, y], #[T, T']⟩) ty (fun v' w' => v' = i64 (ms.length : Nat) ∧ Upd w b (.cells (cl f (ms ++ l.drop ms.length)) E' fz) w') := by
 have hmin : min ms.length dl = ms.length := by omega
 refine (or_copy (T' := T') hx hy hr hT hi hf hb (by rw [Qfv]; omega) (by omega)).mono ?_
 rintro v' w' ⟨h1, h2⟩
 rw [hmin] at h1 h2
 refine ⟨h1, ?_⟩
 rw [List.take_of_length_le (Nat.le_refl _), ovr_cl _ _ _ _ (by omega)] at h2
 simpa using h2
end
section
variable {P : Program} {fr : Nat → Value} {w : World} {ty T E : TypeId} {x y : Operand} {z : Option Value} {n kb b off : Nat}
theorem Zj {len r : Nat} {k : IntKind} {i : Int} (hr : off + i.toNat * n = r) (hu : P.underlying T = some (.array len E)) (hi : Ji P E = some (z, n, kb)) (hx : Ql fr x = ptr b off) (hy : Ql fr y = .int k i) (h0 : 0 ≤ i) (h1 : i < len) :
  Jv P fr w (.indexAddr T x y) ty (ptr b r) := hr ▸ Qhl hu hi hx hy h0 h1
theorem Qb0 {len cap r : Nat} {k : IntKind} {i : Int} (hr : off + i.toNat * n = r) (hu : P.underlying T = some (.slice E)) (hi : Ji P E = some (z, n, kb)) (hx : Ql fr x = Wi b off len cap) (hy : Ql fr y = .int k i) (h0 : 0 ≤ i) (h1 : i < len) :
  Jv P fr w (.indexAddr T x y) ty (ptr b r) := hr ▸ Qhk hu hi hx hy h0 h1
theorem Zl {r : Nat} {fs : Array Field} {i : Nat} {f : Field} (hu : P.underlying T = some (.struct fs)) (hf : fs[i]? = some f) (hr : off + f.offset = r) (hi : Ji P f.type = some (z, n, kb)) (hn : Nat.blt 0 n = true) (hx : Ql fr x = ptr b off) :
  Jv P fr w (.fieldAddr T x i) ty (ptr b r) := hr ▸ Qgn hu hf hi hn hx
end
section
variable {P : Program} {fr : Nat → Value} {w : World} {ty T E : TypeId} {x y : Operand} {z : Option Value} {n kb b off : Nat} {α : Type} {f : α → Value} {v : Value} {l : List α} {R : Rest} {H Hs : List (Nat × Obj)}
theorem Qet {a : α} {i : Int} (hm : Mem w R (Hs ++ H)) (hg : Z9 f E v l Hs) (hf : ∀ a, (f a).oneCell' = true) (hi : Ji P T = some (z, 1, kb)) (h0 : 0 ≤ i) (h1 : i.toNat < l.length) (hx : Ql fr x = elpv v i) (hy : Ql fr y = f a) :
  Vf P fr w (.store T x y) ty (fun _ w' => ∃ Hs', Mem w' R (Hs' ++ H) ∧ Z9 f E v (l.set i.toNat a) Hs') := by
 rcases hg with ⟨⟨a0, rfl⟩, rfl, rfl⟩ | ⟨b, pre, sp, post, rfl, rfl⟩
 ·simp at h1
 have hb : w.heap[b]? = some (.cells (pre ++ (l.map f ++ (sp ++ post))).toArray E (0, 0)) := hm.own (b, .cells (pre ++ (l.map f ++ (sp ++ post))).toArray E (0, 0)) Ya
 have hx' : Ql fr x = ptr b (pre.length + i.toNat) := by rw [hx]; simp [elpv, Wi, elp, Vq, ptr]
 refine (Ui hi hx' hy (hf a) hb (by simp; omega) (.inl (Nat.zero_le _))).mono fun _ w' hu => ?_
 refine ⟨[(b, .cells (pre ++ ((l.set i.toNat a).map f ++ (sp ++ post))).toArray E (0, 0))], ?_, .inr ⟨b, pre, sp, post, by simp, rfl⟩⟩
 have e : (pre ++ (l.map f ++ (sp ++ post))).toArray.setIfInBounds (pre.length + i.toNat) (f a) = (pre ++ ((l.set i.toNat a).map f ++ (sp ++ post))).toArray := by
  apply Array.ext'
  simp only [Array.toList_setIfInBounds, List.map_set]
  rw [List.set_append_right _ _ (by omega), dh, List.set_append_left _ _ (by simpa using h1)]
 rw [e] at hu
 exact Mem.upd (H1 := []) hm hu
theorem Z9.sub {i j : Int} (hg : Z9 f E v l Hs) (h0 : 0 ≤ i) (h1 : i ≤ j) (h2 : j ≤ l.length) : Z9 f E (Cf v i j) ((l.drop i.toNat).take (j.toNat - i.toNat)) Hs := by
 rcases hg with ⟨⟨a0, rfl⟩, rfl, rfl⟩ | ⟨b, pre, sp, post, rfl, rfl⟩
 ·simp at h2
  have e0 : i.toNat = 0 := by omega
  have e1 : j.toNat = 0 := by omega
  refine .inl ⟨⟨a0, ?_⟩, by simp, rfl⟩
  simp [Cf, e0, e1]
 have hl : ((l.drop i.toNat).take (j.toNat - i.toNat)).length = j.toNat - i.toNat := by simp; omega
 have hsplit : l = l.take i.toNat ++ ((l.drop i.toNat).take (j.toNat - i.toNat) ++ l.drop j.toNat) := by
  have e : l.drop j.toNat = (l.drop i.toNat).drop (j.toNat - i.toNat) := by rw [List.drop_drop]; congr 1; omega
  rw [e, List.take_append_drop, List.take_append_drop]
 by_cases hcap : l.length + sp.length = i.toNat
 ·
  have e1 : j.toNat - i.toNat = 0 := by omega
  have e2 : sp.length = 0 := by omega
  have e3 : sp = [] := List.eq_nil_of_length_eq_zero e2
  refine .inr ⟨b, pre, [], l.map f ++ post, ?_, ?_⟩
  ·simp [Cf, Wi, hcap, e1]
  simp [e1, e3]
 refine .inr ⟨b, pre ++ (l.take i.toNat).map f, (l.drop j.toNat).map f ++ sp, post, ?_, ?_⟩
 ·simp only [Cf, Wi, hl, List.length_append, List.length_map, List.length_take, List.length_drop]
  rw [if_neg hcap]
  simp only [Option.map_some, Vq, Nat.mul_one]
  have e4 : min i.toNat l.length = i.toNat := by omega
  rw [e4]
  congr 1; omega
 have e5 : l.map f = (l.take i.toNat).map f ++ (((l.drop i.toNat).take (j.toNat - i.toNat)).map f ++ (l.drop j.toNat).map f) := by
  rw [← dF, ← dF, ← hsplit]
 rw [e5]
 simp
theorem Z9.cast {l' : List α} (h : Z9 f E v l Hs) (e : l = l') : Z9 f E v l' Hs := e ▸ h
end
theorem Ri {P : Program} {n : Nat} {x : Code} {N J : (Nat → Value) → World → Prop} {Q : Exit → (Nat → Value) → World → Prop} {fr : Nat → Value} {w : World} (h : CW P n x (Qcu J Q) fr w) (k : ∀ fr w, J fr w → N fr w) : CW P n x (Qcu N Q) fr w :=
 h.mono fun e fr w q => by cases e <;> first | exact k _ _ q | exact q
section
variable {P : Program} {fr : Nat → Value} {w w' : World} {ty T E : TypeId} {x y : Operand} {z : Option Value} {n kb b off : Nat} {α : Type} {f : α → Value} {v : Value} {l : List α} {R : Rest} {H Hs : List (Nat × Obj)} {o o' : Obj} {fz : Nat × Nat}
theorem Q7 (hm : Mem w R H) (hi : Ji P T = some (some (agg f l), n, kb)) : Vf P fr w (.alloc T) ty (fun p w' => ∃ b, p = ptr b 0 ∧ Ext w w' ∧ Mem w' R ((b, .cells (cl f l) T) :: H)) := Qj1 hm hi
theorem Z5 (hm : Mem w R H) (hx : Ql fr x = agg f l) : Vf P fr w (.box T x) ty (fun p w' => ∃ b, p = ptr b 0 ∧ Ext w w' ∧ Mem w' R ((b, .cells (cl f l) T) :: H)) := or_box hm hx
theorem Zi {l l' : List α} {a : α} (hl' : l.set off a = l') (hf : ∀ a, (f a).oneCell' = true) (hi : Ji P T = some (z, 1, kb)) (hx : Ql fr x = ptr b off) (hy : Ql fr y = f a) (hb : w.heap[b]? = some (.cells (cl f l) E fz)) (hs : off < l.length) (hfz : fz.2 ≤ off ∨ off + 1 ≤ fz.1) :
  Vf P fr w (.store T x y) ty (fun _ w' => Upd w b (.cells (cl f l') E fz) w') := hl' ▸ Xw hf hi hx hy hb hs hfz
theorem Qg {c : Array Value} (hf : ∀ a, (f a).oneCell' = true) (hi : Ji P T = some (z, n, kb)) (hx : Ql fr x = ptr b 0) (hy : Ql fr y = agg f l) (hn : l.length = n) (hb : w.heap[b]? = some (.cells c E fz)) (hs : c.size = n) (hfz : fz.2 = 0) :
  Vf P fr w (.store T x y) ty (fun _ w' => Upd w b (.cells (cl f l) E fz) w') := Qhc hi hx hy (by rw [Qfv]; exact hn) (cl_one hf l) hb hs hfz
theorem Mem.upd0 (h : Mem w R ((b, o) :: H)) (u : Upd w b o' w') : Mem w' R ((b, o') :: H) := Mem.upd (H1 := []) h u
theorem Mem.upd1 {p : Nat × Obj} (h : Mem w R (p :: (b, o) :: H)) (u : Upd w b o' w') : Mem w' R (p :: (b, o') :: H) := Mem.upd (H1 := [p]) h u
theorem Mem.upd2 {p q : Nat × Obj} (h : Mem w R (p :: q :: (b, o) :: H)) (u : Upd w b o' w') : Mem w' R (p :: q :: (b, o') :: H) := Mem.upd (H1 := [p, q]) h u
theorem Mem.upd3 {p q r : Nat × Obj} (h : Mem w R (p :: q :: r :: (b, o) :: H)) (u : Upd w b o' w') : Mem w' R (p :: q :: r :: (b, o') :: H) := Mem.upd (H1 := [p, q, r]) h u
theorem Mem.upd5 {p q r s t : Nat × Obj} (h : Mem w R (p :: q :: r :: s :: t :: (b, o) :: H)) (u : Upd w b o' w') : Mem w' R (p :: q :: r :: s :: t :: (b, o') :: H) := Mem.upd (H1 := [p, q, r, s, t]) h u
end
theorem G6 {P : Program} {fr : Nat → Value} {w : World} {ty : TypeId} {c x y : Operand} {b : Bool} {u : Value} (hc : Ql fr c = bl b) (hb : b = true) (hx : Ql fr x = u) : Jv P fr w (.pick c x y) ty u := by subst hb; exact Qui hc hx
theorem Wn {P : Program} {fr : Nat → Value} {w : World} {ty : TypeId} {c x y : Operand} {b : Bool} {u : Value} (hc : Ql fr c = bl b) (hb : b = false) (hy : Ql fr y = u) : Jv P fr w (.pick c x y) ty u := by subst hb; exact Ql6 hc hy
theorem Yf {P : Program} {n : Nat} {ops : Array Oper} {K : (Nat → Value) → World → Prop} {fr : Nat → Value} {w : World} {rest : List Oper} {op : Op} {ty : TypeId} {pos : String} {aft : Array Edge} {d j s : Nat} {b want : Bool} {v : Value} (hj : (ops[j]?).bind (·.dst) = some s) (hs : fr s = .bool b) (hb : b = want) (hd : Nat.blt d n = true) (h : Jv P fr w op ty v)
  (k : RW P n ops rest K (upd fr d v) w) : RW P n ops (⟨some d, op, ty, pos, aft, some (j, want)⟩ :: rest) K fr w :=
 rw_gy hj hs hb hd (Jv.opR h) (by rintro v' w' ⟨h1, h2⟩; rw [h1, h2]; exact k)
theorem list4r {α : Type} (l : List α) (h : 4 ≤ l.length) : ∃ a b c d r, l = a :: b :: c :: d :: r := by
 match l, h with
 | a :: b :: c :: d :: r, _ => exact ⟨a, b, c, d, r, rfl⟩
 | [], h => simp at h
 | [_], h => simp at h
 | [_, _], h => simp at h
 | [_, _, _], h => simp at h
def Yv {α : Type} (g : Nat → α) (z : α) (n k : Nat) : List α := (bP k).map g ++ aA (n - k) z
theorem Ei {α : Type} (g : Nat → α) (z : α) (n : Nat) : Yv g z n 0 = aA n z := by simp [Yv]
theorem Af {α : Type} (g : Nat → α) (z : α) (n : Nat) : Yv g z n n = (bP n).map g := by simp [Yv]
theorem J8 {α : Type} (g : Nat → α) (z : α) (n k : Nat) (h : k ≤ n) : (Yv g z n k).length = n := by simp [Yv]; omega
theorem Ep {α : Type} (g : Nat → α) (z : α) {n k : Nat} (h : k < n) (x : α) (hx : x = g k) : (Yv g z n k).set k x = Yv g z n (k + 1) := by
 subst hx
 unfold Yv
 rw [List.set_append_right _ _ Ya, List.range_succ, dF]
 have : n - k = (n - (k + 1)) + 1 := by omega
 rw [this, List.replicate_succ]
 simp
end --m
section
set_option linter.unusedSimpArgs false
set_option linter.unusedVariables false
section
variable {P : Program} {fr : Nat → Value} {w : World} {ty T t E t' : TypeId} {x y : Operand} {z : Option Value} {n kb len d : Nat} {α : Type} {f : α → Value} {l m : List α} {dE : TypeDesc}
theorem Qhz {i : Nat} {a : α} (hi : Ji P E = some (z, 1, kb)) (hE : P.underlying E = some dE) (hd : Pg dE = false) (hg : l[i]? = some a) : (part E (cl f l) i).run P w = .ok (f a) w := by
 have hc : (cl f l)[i]? = some (f a) := by simp [cl, hg]
 simp [part, Mc hE, hd, hc, J9 hi]
theorem Rz [BEq α] [LawfulBEq α] (hu : P.underlying t = some (.array len E)) (hi : Ji P E = some (z, 1, kb)) (hE : P.underlying E = some dE) (hd : Pg dE = false) (heq : ∀ a b, (Op.equalIn d E (f a) (f b)).run P w = .ok (a == b) w)
  (hl : l.length = len) (hm : m.length = len) : (Op.equalIn (d + 1) t (agg f l) (agg f m)).run P w = .ok (l == m) w := by
 unfold agg
 simp only [Op.equalIn, Sem.run_bind, W9 hu, bJ, J9 hi, Nat.mul_one, Std.Legacy.Range.forIn_eq_forIn_range', Std.Legacy.Range.size]
 have e : (len - 0 + 1 - 1) / 1 = len := by omega
 rw [e]
 have key : ∀ (k j : Nat), j + k = len → (forIn (m := Sem) (List.range' j k 1) ((none, ⟨⟩) : Option Bool × PUnit) (fun i r => do
   if (!(← Op.equalIn d E (← part E (cl f l) i) (← part E (cl f m) i))) = true then pure (.done (some false, ⟨⟩)) else pure (.yield (none, ⟨⟩)))).run P w
    = .ok (if l.drop j == m.drop j then (none, ⟨⟩) else (some false, ⟨⟩)) w := by
  intro k
  induction k with
  | zero =>
   intro j hj
   rw [List.drop_of_length_le (by omega), List.drop_of_length_le (by omega)]
   simp
  | succ k ih =>
   intro j hj
   have h1 : j < l.length := by omega
   have h2 : j < m.length := by omega
   rw [List.range'_succ, List.forIn_cons, List.drop_eq_getElem_cons h1, List.drop_eq_getElem_cons h2]
   simp only [Sem.run_bind, Qhz hi hE hd (dB h1), Qhz hi hE hd (dB h2), bJ, heq]
   rw [List.cons_beq_cons]
   cases hc : l[j] == m[j]
   ·simp
   simp only [Bool.not_true, Bool.false_eq_true, if_false, Sem.run_pure, bJ, Bool.true_and]
   exact ih (j + 1) (by omega)
 have := key len 0 (by omega)
 simp only [List.drop_zero] at this
 refine Eq.trans (congrArg (fun r => Result.andThen r _) this) ?_
 cases l == m <;> simp
end
section
variable {P : Program} {fr : Nat → Value} {w : World} {ty T t E t' : TypeId} {x y : Operand} {z : Option Value} {n kb len d : Nat} {dE : TypeDesc}
theorem Quj {a b : Array Value} {r : Bool} (hg : P.eqGuardType P.depth t = false) (he : (Op.equalIn (9999 + 1) t (.agg a) (.agg b)).run P w = .ok r w) (hx : Ql fr x = .agg a) (hy : Ql fr y = .agg b) : Jv P fr w (.binOp .eql t x y t') ty (bl r) := by
 unfold Jv Lp
 show Sem.run P (do let v ← (do eqGuard .eql t x y (Ql fr x) (Ql fr y); binOp .eql t (Ql fr x) (Ql fr y)); pure (Next.value v)) w = _
 rw [hx, hy]
 have hb : binOp .eql t (.agg a) (.agg b) = (do pure (.bool (← Op.equalIn (9999 + 1) t (.agg a) (.agg b)))) := rfl
 rw [hb]
 have hG : (eqGuard .eql t x y (.agg a) (.agg b)).run P w = .ok () w := by simp [eqGuard, hg]
 simp [hG, he, bl]
theorem Ql7 {a b : Array Value} {r : Bool} (hg : P.eqGuardType P.depth t = false) (he : (Op.equalIn (9999 + 1) t (.agg a) (.agg b)).run P w = .ok r w) (hx : Ql fr x = .agg a) (hy : Ql fr y = .agg b) : Jv P fr w (.binOp .neq t x y t') ty (bl (!r)) := by
 unfold Jv Lp
 show Sem.run P (do let v ← (do eqGuard .neq t x y (Ql fr x) (Ql fr y); binOp .neq t (Ql fr x) (Ql fr y)); pure (Next.value v)) w = _
 rw [hx, hy]
 have hb : binOp .neq t (.agg a) (.agg b) = (do pure (.bool (!(← Op.equalIn (9999 + 1) t (.agg a) (.agg b))))) := rfl
 rw [hb]
 have hG : (eqGuard .neq t x y (.agg a) (.agg b)).run P w = .ok () w := by simp [eqGuard, hg]
 simp [hG, he, bl]
theorem Qll {a b : BitVec 8} (hE : P.underlying E = some (.int .u8)) : (Op.equalIn (9998 + 1) E (u8 a) (u8 b)).run P w = .ok (a == b) w := by
 have := run_equalIn_int w 9998 E .u8 .u8 (a.toNat : Int) (b.toNat : Int) hE
 unfold u8; rw [this]; congr 1
 rw [Bool.eq_iff_iff, beq_iff_eq, beq_iff_eq]
 constructor
 ·intro h; exact BitVec.eq_of_toNat_eq (by omega)
 rintro rfl; rfl
theorem Qcl {l m : Z4} (hu : P.underlying t = some (.array len E)) (hE : P.underlying E = some (.int .u8)) (hi : Ji P E = some (z, 1, kb)) (hg : P.eqGuardType P.depth t = false) (hx : Ql fr x = agg u8 l) (hy : Ql fr y = agg u8 m) (hl : l.length = len) (hm : m.length = len) :
  Jv P fr w (.binOp .eql t x y t') ty (bl (l == m)) := Quj hg (Rz hu hi hE rfl (fun a b => Qll hE) hl hm) hx hy
theorem D9 {l m : Z4} (hu : P.underlying t = some (.array len E)) (hE : P.underlying E = some (.int .u8)) (hi : Ji P E = some (z, 1, kb)) (hg : P.eqGuardType P.depth t = false) (hx : Ql fr x = agg u8 l) (hy : Ql fr y = agg u8 m) (hl : l.length = len) (hm : m.length = len) :
  Jv P fr w (.binOp .neq t x y t') ty (bl (l != m)) := Ql7 hg (Rz hu hi hE rfl (fun a b => Qll hE) hl hm) hx hy
end
section
variable {α : Type} {f : α → Value} {m : Nat → Option Obj} {b len cap E : Nat} {l : List α} {fz : Nat × Nat}
theorem Rd.mkE (hb : m b = some (.cells (cl f l) E fz)) (h : l.length = len) : Rd m f (Wi b 0 len len) l := h ▸ Rd.mkA hb
theorem Z9.ofE (f : α → Value) (E b : Nat) (l : List α) (h : l.length = len) : Z9 f E (Wi b 0 len len) l [(b, .cells (cl f l) E (0, 0))] := h ▸ Z9.of f E b l
end
end --m
section
set_option linter.unusedSimpArgs false
set_option linter.unusedVariables false
section
variable {P : Program} {fr : Nat → Value} {w w' : World} {ty T E : TypeId} {x y : Operand} {d : TypeDesc} {z : Option Value} {n kb b off : Nat} {c c' : Array Value} {fz : Nat × Nat} {R : Rest} {H H' Hs : List (Nat × Obj)} {α : Type} {f : α → Value} {v : Value} {l : List α} {o : Obj}
theorem Qpi (hu : P.underlying T = some d) (hd : Pg d = true) (hi : Ji P T = some (z, n, kb)) (hx : Ql fr x = ptr b off) (hb : w.heap[b]? = some (.cells c E fz)) (hs : Nat.ble (off + n) c.size = true) (he : c.extract off (off + n) = c') : Jv P fr w (.load T x) ty (.agg c') := by
 subst he; exact Qdo (ty := ty) hu hd hi hx hb (bQ hs)
theorem Qhb {cs : Array Value} (hi : Ji P T = some (z, n, kb)) (hx : Ql fr x = ptr b 0) (hy : Ql fr y = .agg cs) (hn : Nat.beq cs.size n = true) (hv : cs.toList.all (·.oneCell') = true) (hb : w.heap[b]? = some (.cells c E fz)) (hs : Nat.beq c.size n = true) (hf : fz.2 = 0) :
  Vf P fr w (.store T x y) ty (fun _ w' => Upd w b (.cells cs E fz) w') := Qhc hi hx hy (dQ hn) (List.all_eq_true.1 hv) hb (dQ hs) hf
theorem Fz {cs : Array Value} (hm : Mem w R H) (hx : Ql fr x = .agg cs) : Vf P fr w (.box T x) ty (fun p w' => ∃ b, p = ptr b 0 ∧ Ext w w' ∧ Mem w' R ((b, .cells cs T) :: H)) := or_box hm hx
theorem Ju {cs : Array Value} (hm : Mem w R H) (hi : Ji P T = some (some (.agg cs), n, kb)) : Vf P fr w (.alloc T) ty (fun p w' => ∃ b, p = ptr b 0 ∧ Ext w w' ∧ Mem w' R ((b, .cells cs T) :: H)) := Qj1 hm hi
theorem Mem.addRest (h : Mem w R (H ++ H')) {b : Nat} {o : Obj} (e : R.blk b = some o) : (R.add H').blk b = some o := by
 have hn : H'.lookup b = none := by
  cases hl : H'.lookup b with
  | none => rfl
  | some o' =>
   have hm := Rf hl
   have := h.disj (b, o') (by simp [hm])
   rw [this] at e; cases e
 simp [Rest.add, hn, e]
theorem Mem.addOwn (h : Mem w R (H ++ H')) {b : Nat} {o : Obj} (e : (b, o) ∈ H') : (R.add H').blk b = some o := by
 have hn : (H'.map (·.1)).Nodup := by
  have := h.nodup
  rw [dF] at this
  exact (List.nodup_append.1 this).2.1
 have := Qev hn e
 simp [Rest.add, this]
theorem Rd.addRest (h : Mem w R (H ++ H')) (hr : Rd R.blk f v l) : Rd (R.add H').blk f v l := hr.mono fun b o e => h.addRest e
theorem Z9.rdIn {m : Nat → Option Obj} (h : Z9 f E v l Hs) (hm : ∀ p ∈ Hs, m p.1 = some p.2) : Rd m f v l := by
 rcases h with ⟨⟨a, rfl⟩, rfl, rfl⟩ | ⟨b, pre, sp, post, rfl, rfl⟩
 ·exact Rd.nil _ _
 exact Rd.mk' (by omega) (hm (b, .cells (pre ++ (l.map f ++ (sp ++ post))).toArray E (0, 0)) Ya) (fun i hi => by
  simp only [List.getElem?_toArray]
  rw [List.getElem?_append_right (by omega), dh, List.getElem?_append_left (by simpa using hi)]
  simp [hi])
theorem Z9.rdAdd (h : Z9 f E v l Hs) (hm : Mem w R (H ++ H')) (hsub : ∀ p ∈ Hs, p ∈ H') : Rd (R.add H').blk f v l := h.rdIn fun p hp => hm.addOwn (hsub p hp)
end
def Qa5 (place : Nat → Option (Nat × Nat)) (cells : Array Value) : List (Nat × Array Value) → Option (Array Value)
 | [] => some cells
 | (i, cs) :: rest =>
  match place i with
  | none => none
  | some (off, size) => if Nat.beq cs.size size && Nat.ble (off + cs.size) cells.size then Qa5 place (ovr cells off cs.toList) rest else none
theorem Qlz : ∀ (vs : List Value) (k off : Nat) (c : Array Value), (vs.zipIdx k).foldl (fun cs (p : Value × Nat) => cs.setIfInBounds (off + p.2) p.1) c = ovr c (off + k) vs
 | [], _, _, _ => rfl
 | v :: vs, k, off, c => by
  simp only [List.zipIdx_cons, List.foldl_cons, ovr]
  rw [Qlz vs (k + 1) off]; rfl
theorem Qck (place : Nat → Option (Nat × Nat)) : ∀ (ps : List (Nat × Value)) (c c' : Array Value), Qa5 place c (ps.map fun q => (q.1, q.2.cells)) = some c' → Instr.fill place c ps = some c'
 | [], _, _, h => h
 | (i, v) :: ps, c, c', h => by
  simp only [List.map_cons, Qa5] at h
  simp only [Instr.fill]
  cases hp : place i with
  | none => rw [hp] at h; cases h
  | some q =>
   obtain ⟨off, size⟩ := q
   rw [hp] at h
   simp only at h ⊢
   split at h
   ·next hc =>
    simp only [Bool.and_eq_true] at hc
    have h1 := dQ hc.1
    have h2 := bQ hc.2
    rw [if_neg (by simp; omega)]
    have e : (v.cells.zipIdx.foldl (fun cs (p : Value × Nat) => cs.setIfInBounds (off + p.2) p.1) c) = ovr c off v.cells.toList := by
     rw [← Array.foldl_toList, Array.toList_zipIdx]; exact Qlz _ 0 off c
    have := Qck place ps _ _ h
    rw [← e] at this
    exact this
   cases h
def Qix (P : Program) : List Field → Option (List (Nat × Nat))
 | [] => some []
 | f :: fs => match Ji P f.type with
  | some (_, n, _) => (Qix P fs).map ((f.offset, n) :: ·)
  | none => none
theorem Qh2 {P : Program} {w : World} : ∀ (fs : List Field) (pl : List (Nat × Nat)), Qix P fs = some pl → (fs.mapM (fun f => do pure (f.offset, ← sizeOf f.type)) : Sem (List (Nat × Nat))).run P w = .ok pl w
 | [], pl, h => by cases h; simp
 | f :: fs, pl, h => by
  simp only [Qix] at h
  cases ht : Ji P f.type with
  | none => rw [ht] at h; cases h
  | some q =>
   obtain ⟨z, n, kb⟩ := q
   rw [ht] at h
   simp only [Option.map_eq_some_iff] at h
   obtain ⟨pl', h1, rfl⟩ := h
   have := Qh2 (w := w) fs pl' h1
   simp only [bind_pure_comp] at this
   simp [J9 ht, this]
section
variable {P : Program} {fr : Nat → Value} {w : World} {ty T E : TypeId} {x : Operand} {n kb i : Nat} {c : Array Value} {zv v : Value} {cs : Array Value} {parts : List (Nat × Operand)} {pcs : List (Nat × Array Value)} {R : Rest} {H : List (Nat × Obj)}
theorem Vt : (([] : List (Nat × Operand)).map fun q => (q.1, (Ql fr q.2).cells)) = [] := rfl
theorem Jp (hx : Ql fr x = v) (hc : v.cells = cs) (hr : (parts.map fun q => (q.1, (Ql fr q.2).cells)) = pcs) : (((i, x) :: parts).map fun q => (q.1, (Ql fr q.2).cells)) = (i, cs) :: pcs := by
 subst hx hc hr; rfl
theorem Ws {fs : Array Field} {pl : List (Nat × Nat)} (hz : Ji P T = some (some zv, n, kb)) (hu : P.underlying T = some (.struct fs)) (hpl : Qix P fs.toList = some pl)
  (hp : (parts.map fun q => (q.1, (Ql fr q.2).cells)) = pcs) (hf : Qa5 (fun i : Nat => pl[i]?) zv.cells pcs = some c) : Jv P fr w (.build T parts.toArray) ty (.agg c) := by
 refine Qpj (pl := pl.toArray) hz hu (fun w => ?_) rfl ?_
 ·rw [Array.mapM_eq_mapM_toList]
  have h := Qh2 (w := w) _ _ hpl
  simp only [bind_pure_comp] at h
  simp [h]
 refine Qck _ _ _ _ ?_
 rw [List.map_map]
 have e : (parts.map ((fun q : Nat × Value => (q.1, q.2.cells)) ∘ fun q : Nat × Operand => (q.1, Ql fr q.2))) = pcs := by rw [← hp]; rfl
 rw [e]
 have e2 : (fun i : Nat => pl.toArray[i]?) = fun i : Nat => pl[i]? := by funext i; simp
 rw [e2]; exact hf
theorem Gq {len m kE : Nat} {zE : Option Value} (hz : Ji P T = some (some zv, n, kb)) (hu : P.underlying T = some (.array len E)) (hE : Ji P E = some (zE, m, kE))
  (hp : (parts.map fun q => (q.1, (Ql fr q.2).cells)) = pcs) (hf : Qa5 (fun i => some (i * m, m)) zv.cells pcs = some c) : Jv P fr w (.build T parts.toArray) ty (.agg c) := by
 refine Ve hz hu hE rfl (Qck _ _ _ _ ?_)
 rw [List.map_map]
 have e : (parts.map ((fun q : Nat × Value => (q.1, q.2.cells)) ∘ fun q : Nat × Operand => (q.1, Ql fr q.2))) = pcs := by rw [← hp]; rfl
 rw [e]; exact hf
theorem Cj {len : Nat} (hm : Mem w R H) (hu : P.underlying T = some (.slice E)) (hi : Ji P E = some (some zv, n, kb)) (hs : Nat.ble (len * n) 16777216 = true)
  (hp : (parts.map fun q => (q.1, (Ql fr q.2).cells)) = pcs) (hf : Qa5 (fun i => some (i * n, n)) ((Array.range (len * n)).map (zv.cells[· % zv.cells.size]!)) pcs = some c) :
  Vf P fr w (.buildSlice T len parts.toArray) ty (fun v w' => ∃ b, v = Wi b 0 len len ∧ Ext w w' ∧ Mem w' R ((b, .cells c E) :: H)) := by
 refine Qbe hm hu hi hs rfl (Qck _ _ _ _ ?_)
 rw [List.map_map]
 have e : (parts.map ((fun q : Nat × Value => (q.1, q.2.cells)) ∘ fun q : Nat × Operand => (q.1, Ql fr q.2))) = pcs := by rw [← hp]; rfl
 rw [e]; exact hf
theorem J6 : ([] : List Value).all (·.oneCell') = true := rfl
theorem X0 {l : List Value} (h : v.oneCell' = true) (hr : l.all (·.oneCell') = true) : (v :: l).all (·.oneCell') = true := by simp [h, hr]
theorem Qm6 {l : List Value} (h : l.all (·.oneCell') = true) : l.toArray.toList.all (·.oneCell') = true := h
def sllen : Value → Nat
 | .slice _ n _ => n
 | _ => 0
theorem Z9.sllen {α : Type} {f : α → Value} {l : List α} {Hs : List (Nat × Obj)} (h : Z9 f E v l Hs) : sllen v = l.length := by obtain ⟨a, cap, rfl⟩ := h.len; rfl
theorem Rd.one {α : Type} {f : α → Value} {m : Nat → Option Obj} {l : List α} (h : Rd m f v l) : v.oneCell' = true := by obtain ⟨a, cap, rfl, _⟩ := h.is; rfl
theorem Z9.one {α : Type} {f : α → Value} {l : List α} {Hs : List (Nat × Obj)} (h : Z9 f E v l Hs) : v.oneCell' = true := by obtain ⟨a, cap, rfl⟩ := h.len; rfl
theorem Qf1 (d : Nat) {t : TypeId} {len cap : Nat} {a : Option Addr} (hu : P.underlying t = some (.slice E)) : (Op.equalIn (d + 1) t (.slice a len cap) (.slice none 0 0)).run P w = .ok a.isNone w := by
 cases a with
 | none => simp [Op.equalIn, W9 hu]
 | some a => simp [Op.equalIn, W9 hu]
theorem Qid {t t' : TypeId} {len cap : Nat} {a : Option Addr} {y : Operand} (hu : P.underlying t = some (.slice E)) (hx : Ql fr x = .slice a len cap) (hy : Ql fr y = .slice none 0 0) : Jv P fr w (.binOp .eql t x y t') ty (bl a.isNone) := by
 unfold Jv Lp
 show Sem.run P (do let v ← (do eqGuard .eql t x y (Ql fr x) (Ql fr y); binOp .eql t (Ql fr x) (Ql fr y)); pure (Next.value v)) w = _
 rw [hx, hy]
 have hg : eqGuard .eql t x y (.slice a len cap) (.slice none 0 0) = pure () := rfl
 have hb : binOp .eql t (.slice a len cap) (.slice none 0 0) = (do pure (.bool (← Op.equalIn (9999 + 1) t (.slice a len cap) (.slice none 0 0)))) := rfl
 rw [hg, hb]
 simp [Qf1 9999 hu, bl]
theorem Jv.cast {op : Op} {v' : Value} (e : v = v') (h : Jv P fr w op ty v) : Jv P fr w op ty v' := e ▸ h
theorem Upd.freeze {w : World} {b off k : Nat} {c : Array Value} {E : TypeId} (hb : w.heap[b]? = some (.cells c E (0, 0))) (hk : k ≠ 0) : Upd w b (.cells c E (off, off + k)) (w.freeze ⟨b, off, none⟩ k) := by
 refine ⟨?_, ?_, ?_, fun j => ?_⟩
 ·unfold World.freeze; rw [if_neg hk]
 ·unfold World.freeze; rw [if_neg hk]
 ·unfold World.freeze; rw [if_neg hk]
 unfold World.freeze
 rw [if_neg hk]
 simp only [Array.getElem?_modify]
 by_cases h : b = j
 ·subst h; simp [hb]
 rw [if_neg h, if_neg (Ne.symm h)]
theorem Tj {b off len cap m : Nat} {y : Operand} (hu : P.underlying T = some (.slice E)) (hE : P.underlying E = some (.int .u8)) (hx : Ql fr y = Wi b off len cap) {c : Array Value} {E' : TypeId} (hb : w.heap[b]? = some (.cells c E' (0, 0))) (hn : c.size = m) :
  Vf P fr w (.convert T T y) ty (fun v w' => v = Wi b off len cap ∧ Upd w b (.cells c E' (m, m + 1)) w') := by
 refine .inl ⟨Wi b off len cap, w.freeze ⟨b, m, none⟩ 1, ?_, rfl, Upd.freeze hb (by omega)⟩
 unfold Lp
 show Sem.run P (do let v ← convert T T (Ql fr y); pure (Next.value v)) w = _
 rw [hx]
 have hs : w.shape? b = some (E', c.size) := by simp [World.shape?, hb]
 simp [convert, W9 hu, W9 hE, Wi, markStringish, hs, hn]
theorem Lh {α : Type} {f : α → Value} {m : Nat → Option Obj} : ∀ p ∈ ([] : List (Value × List α)), Rd m f p.1 p.2 := fun p hp => by cases hp
theorem Ee {α : Type} {f : α → Value} {m : Nat → Option Obj} {u : Value} {l : List α} {ps : List (Value × List α)} (h : Rd m f u l) (hr : ∀ p ∈ ps, Rd m f p.1 p.2) : ∀ p ∈ (u, l) :: ps, Rd m f p.1 p.2 := by
 intro p hp
 rcases List.mem_cons.1 hp with rfl | hp
 ·exact h
 exact hr p hp
end
section
variable {P : Program} {fr : Nat → Value} {w : World} {ty T T' E : TypeId} {x y : Operand} {kb : Nat} {R : Rest} {H Hs : List (Nat × Obj)} {α : Type} {f : α → Value} {v : Value} {l : List α} {zv : Value} {z : α} {m : Nat}
end
end --m
end Go.Proofs.YtkmiemlpfkfiiaaDoor
