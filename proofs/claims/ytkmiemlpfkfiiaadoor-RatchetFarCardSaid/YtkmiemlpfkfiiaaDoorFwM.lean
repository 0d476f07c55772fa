/- The framework, part M: structs, parts of aggregates, blocks that a call is lent. Conditions: none. -/
import Derived.Test.YtkmiemlpfkfiiaaDoorFwI
import Derived.Laws.StructEq
namespace Go.Proofs.YtkmiemlpfkfiiaaDoor
section
set_option linter.unusedSimpArgs false
set_option linter.unusedVariables false
section
variable {P : Program} {fr : Nat → Value} {w : World} {ty T t E t' : TypeId} {x y : Operand} {z : Option Value} {n kb len d : Nat} {α : Type} {f : α → Value} {l m : List α} {dE : TypeDesc}
theorem Qdu {i : Nat} {a : α} (hi : X4 P E = some (z, 1, kb)) (hE : P.underlying E = some dE) (hd : Be dE = false) (hg : l[i]? = some a) : (part E (cl f l) i).run P w = .ok (f a) w := by
 have hc : (cl f l)[i]? = some (f a) := by simp [cl, hg]
 simp [part, Ez hE, hd, hc, Yo hi]
theorem Aj [BEq α] [LawfulBEq α] (hu : P.underlying t = some (.array len E)) (hi : X4 P E = some (z, 1, kb)) (hE : P.underlying E = some dE) (hd : Be dE = false) (heq : ∀ a b, (Op.equalIn d E (f a) (f b)).run P w = .ok (a == b) w)
  (hl : l.length = len) (hm : m.length = len) : (Op.equalIn (d + 1) t (agg f l) (agg f m)).run P w = .ok (l == m) w := by
 unfold agg
 simp only [Op.equalIn, Sem.run_bind, Jg hu, Result.andThen_ok, Yo hi, Nat.mul_one, Std.Legacy.Range.forIn_eq_forIn_range', Std.Legacy.Range.size]
 have e : (len - 0 + 1 - 1) / 1 = len := by omega
 rw [e]
 have key : ∀ (k j : Nat), j + k = len → (forIn (m := Sem) (List.range' j k 1) ((none, ⟨⟩) : Option Bool × PUnit) (fun i r => do
   if (!(← Op.equalIn d E (← part E (cl f l) i) (← part E (cl f m) i))) = true then pure (.done (some false, ⟨⟩)) else pure (.yield (none, ⟨⟩)))).run P w
    = .ok (if l.drop j == m.drop j then (none, ⟨⟩) else (some false, ⟨⟩)) w := by
  intro k
  induction k with
  | zero =>
   intro j hj
   rw [List.drop_of_length_le (by omega), List.drop_of_length_le (by omega)]
   simp
  | succ k ih =>
   intro j hj
   have h1 : j < l.length := by omega
   have h2 : j < m.length := by omega
   rw [List.range'_succ, List.forIn_cons, List.drop_eq_getElem_cons h1, List.drop_eq_getElem_cons h2]
   simp only [Sem.run_bind, Qdu hi hE hd (List.getElem?_eq_getElem h1), Qdu hi hE hd (List.getElem?_eq_getElem h2), Result.andThen_ok, heq]
   rw [List.cons_beq_cons]
   cases hc : l[j] == m[j]
   ·simp
   simp only [Bool.not_true, Bool.false_eq_true, if_false, Sem.run_pure, Result.andThen_ok, Bool.true_and]
   exact ih (j + 1) (by omega)
 have := key len 0 (by omega)
 simp only [List.drop_zero] at this
 refine Eq.trans (congrArg (fun r => Result.andThen r _) this) ?_
 cases l == m <;> simp
end
section
variable {P : Program} {fr : Nat → Value} {w : World} {ty T t E t' : TypeId} {x y : Operand} {z : Option Value} {n kb len d : Nat} {dE : TypeDesc}
theorem Qn9 {a b : Array Value} {r : Bool} (hg : P.eqGuardType P.depth t = false) (he : (Op.equalIn (9999 + 1) t (.agg a) (.agg b)).run P w = .ok r w) (hx : Qg fr x = .agg a) (hy : Qg fr y = .agg b) : Yt P fr w (.binOp .eql t x y t') ty (bl r) := by
 unfold Yt Ew
 show Sem.run P (do let v ← (do eqGuard .eql t x y (Qg fr x) (Qg fr y); binOp .eql t (Qg fr x) (Qg fr y)); pure (Next.value v)) w = _
 rw [hx, hy]
 have hb : binOp .eql t (.agg a) (.agg b) = (do pure (.bool (← Op.equalIn (9999 + 1) t (.agg a) (.agg b)))) := rfl
 rw [hb]
 have hG : (eqGuard .eql t x y (.agg a) (.agg b)).run P w = .ok () w := by simp [eqGuard, hg]
 simp [hG, he, bl]
theorem Qhj {a b : Array Value} {r : Bool} (hg : P.eqGuardType P.depth t = false) (he : (Op.equalIn (9999 + 1) t (.agg a) (.agg b)).run P w = .ok r w) (hx : Qg fr x = .agg a) (hy : Qg fr y = .agg b) : Yt P fr w (.binOp .neq t x y t') ty (bl (!r)) := by
 unfold Yt Ew
 show Sem.run P (do let v ← (do eqGuard .neq t x y (Qg fr x) (Qg fr y); binOp .neq t (Qg fr x) (Qg fr y)); pure (Next.value v)) w = _
 rw [hx, hy]
 have hb : binOp .neq t (.agg a) (.agg b) = (do pure (.bool (!(← Op.equalIn (9999 + 1) t (.agg a) (.agg b))))) := rfl
 rw [hb]
 have hG : (eqGuard .neq t x y (.agg a) (.agg b)).run P w = .ok () w := by simp [eqGuard, hg]
 simp [hG, he, bl]
theorem Qg2 {a b : BitVec 8} (hE : P.underlying E = some (.int .u8)) : (Op.equalIn (9998 + 1) E (u8 a) (u8 b)).run P w = .ok (a == b) w := by
 have := run_equalIn_int w 9998 E .u8 .u8 (a.toNat : Int) (b.toNat : Int) hE
 unfold u8; rw [this]; congr 1
 rw [Bool.eq_iff_iff, beq_iff_eq, beq_iff_eq]
 constructor
 ·intro h; exact BitVec.eq_of_toNat_eq (by omega)
 rintro rfl; rfl
theorem Qcr {l m : Zj} (hu : P.underlying t = some (.array len E)) (hE : P.underlying E = some (.int .u8)) (hi : X4 P E = some (z, 1, kb)) (hg : P.eqGuardType P.depth t = false) (hx : Qg fr x = agg u8 l) (hy : Qg fr y = agg u8 m) (hl : l.length = len) (hm : m.length = len) :
  Yt P fr w (.binOp .eql t x y t') ty (bl (l == m)) := Qn9 hg (Aj hu hi hE rfl (fun a b => Qg2 hE) hl hm) hx hy
theorem Fg {l m : Zj} (hu : P.underlying t = some (.array len E)) (hE : P.underlying E = some (.int .u8)) (hi : X4 P E = some (z, 1, kb)) (hg : P.eqGuardType P.depth t = false) (hx : Qg fr x = agg u8 l) (hy : Qg fr y = agg u8 m) (hl : l.length = len) (hm : m.length = len) :
  Yt P fr w (.binOp .neq t x y t') ty (bl (l != m)) := Qhj hg (Aj hu hi hE rfl (fun a b => Qg2 hE) hl hm) hx hy
end
section
variable {α : Type} {f : α → Value} {m : Nat → Option Obj} {b len cap E : Nat} {l : List α} {fz : Nat × Nat}
theorem Rd.mkE (hb : m b = some (.cells (cl f l) E fz)) (h : l.length = len) : Rd m f (Kq b 0 len len) l := h ▸ Rd.mkA hb
theorem Xl.ofE (f : α → Value) (E b : Nat) (l : List α) (h : l.length = len) : Xl f E (Kq b 0 len len) l [(b, .cells (cl f l) E (0, 0))] := h ▸ Xl.of f E b l
end
end --m
section
set_option linter.unusedSimpArgs false
set_option linter.unusedVariables false
section
variable {P : Program} {fr : Nat → Value} {w w' : World} {ty T E : TypeId} {x y : Operand} {d : TypeDesc} {z : Option Value} {n kb b off : Nat} {c c' : Array Value} {fz : Nat × Nat} {R : Rest} {H H' Hs : List (Nat × Obj)} {α : Type} {f : α → Value} {v : Value} {l : List α} {o : Obj}
theorem Qko (hu : P.underlying T = some d) (hd : Be d = true) (hi : X4 P T = some (z, n, kb)) (hx : Qg fr x = ptr b off) (hb : w.heap[b]? = some (.cells c E fz)) (hs : Nat.ble (off + n) c.size = true) (he : c.extract off (off + n) = c') : Yt P fr w (.load T x) ty (.agg c') := by
 subst he; exact Qad (ty := ty) hu hd hi hx hb (Nat.le_of_ble_eq_true hs)
theorem Qdd {cs : Array Value} (hi : X4 P T = some (z, n, kb)) (hx : Qg fr x = ptr b 0) (hy : Qg fr y = .agg cs) (hn : Nat.beq cs.size n = true) (hv : cs.toList.all (·.oneCell') = true) (hb : w.heap[b]? = some (.cells c E fz)) (hs : Nat.beq c.size n = true) (hf : fz.2 = 0) :
  J8 P fr w (.store T x y) ty (fun _ w' => Upd w b (.cells cs E fz) w') := Qde hi hx hy (Nat.eq_of_beq_eq_true hn) (List.all_eq_true.1 hv) hb (Nat.eq_of_beq_eq_true hs) hf
theorem Uk {cs : Array Value} (hm : Mem w R H) (hx : Qg fr x = .agg cs) : J8 P fr w (.box T x) ty (fun p w' => ∃ b, p = ptr b 0 ∧ Ext w w' ∧ Mem w' R ((b, .cells cs T) :: H)) := or_box hm hx
theorem Yu {cs : Array Value} (hm : Mem w R H) (hi : X4 P T = some (some (.agg cs), n, kb)) : J8 P fr w (.alloc T) ty (fun p w' => ∃ b, p = ptr b 0 ∧ Ext w w' ∧ Mem w' R ((b, .cells cs T) :: H)) := Qfn hm hi
theorem Mem.addRest (h : Mem w R (H ++ H')) {b : Nat} {o : Obj} (e : R.blk b = some o) : (R.add H').blk b = some o := by
 have hn : H'.lookup b = none := by
  cases hl : H'.lookup b with
  | none => rfl
  | some o' =>
   have hm := Bj hl
   have := h.disj (b, o') (by simp [hm])
   rw [this] at e; cases e
 simp [Rest.add, hn, e]
theorem Mem.addOwn (h : Mem w R (H ++ H')) {b : Nat} {o : Obj} (e : (b, o) ∈ H') : (R.add H').blk b = some o := by
 have hn : (H'.map (·.1)).Nodup := by
  have := h.nodup
  rw [List.map_append] at this
  exact (List.nodup_append.1 this).2.1
 have := Qbh hn e
 simp [Rest.add, this]
theorem Rd.addRest (h : Mem w R (H ++ H')) (hr : Rd R.blk f v l) : Rd (R.add H').blk f v l := hr.mono fun b o e => h.addRest e
theorem Xl.rdIn {m : Nat → Option Obj} (h : Xl f E v l Hs) (hm : ∀ p ∈ Hs, m p.1 = some p.2) : Rd m f v l := by
 rcases h with ⟨⟨a, rfl⟩, rfl, rfl⟩ | ⟨b, pre, sp, post, rfl, rfl⟩
 ·exact Rd.nil _ _
 exact Rd.mk' (by omega) (hm (b, .cells (pre ++ (l.map f ++ (sp ++ post))).toArray E (0, 0)) Xk) (fun i hi => by
  simp only [List.getElem?_toArray]
  rw [List.getElem?_append_right (by omega), Nat.add_sub_cancel_left, List.getElem?_append_left (by simpa using hi)]
  simp [hi])
theorem Xl.rdAdd (h : Xl f E v l Hs) (hm : Mem w R (H ++ H')) (hsub : ∀ p ∈ Hs, p ∈ H') : Rd (R.add H').blk f v l := h.rdIn fun p hp => hm.addOwn (hsub p hp)
end
def Nh (place : Nat → Option (Nat × Nat)) (cells : Array Value) : List (Nat × Array Value) → Option (Array Value)
 | [] => some cells
 | (i, cs) :: rest =>
  match place i with
  | none => none
  | some (off, size) => if Nat.beq cs.size size && Nat.ble (off + cs.size) cells.size then Nh place (ovr cells off cs.toList) rest else none
theorem Qhc : ∀ (vs : List Value) (k off : Nat) (c : Array Value), (vs.zipIdx k).foldl (fun cs (p : Value × Nat) => cs.setIfInBounds (off + p.2) p.1) c = ovr c (off + k) vs
 | [], _, _, _ => rfl
 | v :: vs, k, off, c => by
  simp only [List.zipIdx_cons, List.foldl_cons, ovr]
  rw [Qhc vs (k + 1) off]; rfl
theorem Rj (place : Nat → Option (Nat × Nat)) : ∀ (ps : List (Nat × Value)) (c c' : Array Value), Nh place c (ps.map fun q => (q.1, q.2.cells)) = some c' → Instr.fill place c ps = some c'
 | [], _, _, h => h
 | (i, v) :: ps, c, c', h => by
  simp only [List.map_cons, Nh] at h
  simp only [Instr.fill]
  cases hp : place i with
  | none => rw [hp] at h; cases h
  | some q =>
   obtain ⟨off, size⟩ := q
   rw [hp] at h
   simp only at h ⊢
   split at h
   ·next hc =>
    simp only [Bool.and_eq_true] at hc
    have h1 := Nat.eq_of_beq_eq_true hc.1
    have h2 := Nat.le_of_ble_eq_true hc.2
    rw [if_neg (by simp; omega)]
    have e : (v.cells.zipIdx.foldl (fun cs (p : Value × Nat) => cs.setIfInBounds (off + p.2) p.1) c) = ovr c off v.cells.toList := by
     rw [← Array.foldl_toList, Array.toList_zipIdx]; exact Qhc _ 0 off c
    have := Rj place ps _ _ h
    rw [← e] at this
    exact this
   cases h
def Qer (P : Program) : List Field → Option (List (Nat × Nat))
 | [] => some []
 | f :: fs => match X4 P f.type with
  | some (_, n, _) => (Qer P fs).map ((f.offset, n) :: ·)
  | none => none
theorem Qdx {P : Program} {w : World} : ∀ (fs : List Field) (pl : List (Nat × Nat)), Qer P fs = some pl → (fs.mapM (fun f => do pure (f.offset, ← sizeOf f.type)) : Sem (List (Nat × Nat))).run P w = .ok pl w
 | [], pl, h => by cases h; simp
 | f :: fs, pl, h => by
  simp only [Qer] at h
  cases ht : X4 P f.type with
  | none => rw [ht] at h; cases h
  | some q =>
   obtain ⟨z, n, kb⟩ := q
   rw [ht] at h
   simp only [Option.map_eq_some_iff] at h
   obtain ⟨pl', h1, rfl⟩ := h
   have := Qdx (w := w) fs pl' h1
   simp only [bind_pure_comp] at this
   simp [Yo ht, this]
section
variable {P : Program} {fr : Nat → Value} {w : World} {ty T E : TypeId} {x : Operand} {n kb i : Nat} {c : Array Value} {zv v : Value} {cs : Array Value} {parts : List (Nat × Operand)} {pcs : List (Nat × Array Value)} {R : Rest} {H : List (Nat × Obj)}
theorem V5 : (([] : List (Nat × Operand)).map fun q => (q.1, (Qg fr q.2).cells)) = [] := rfl
theorem Yx (hx : Qg fr x = v) (hc : v.cells = cs) (hr : (parts.map fun q => (q.1, (Qg fr q.2).cells)) = pcs) : (((i, x) :: parts).map fun q => (q.1, (Qg fr q.2).cells)) = (i, cs) :: pcs := by
 subst hx hc hr; rfl
theorem Ky {fs : Array Field} {pl : List (Nat × Nat)} (hz : X4 P T = some (some zv, n, kb)) (hu : P.underlying T = some (.struct fs)) (hpl : Qer P fs.toList = some pl)
  (hp : (parts.map fun q => (q.1, (Qg fr q.2).cells)) = pcs) (hf : Nh (fun i : Nat => pl[i]?) zv.cells pcs = some c) : Yt P fr w (.build T parts.toArray) ty (.agg c) := by
 refine Qkp (pl := pl.toArray) hz hu (fun w => ?_) rfl ?_
 ·rw [Array.mapM_eq_mapM_toList]
  have h := Qdx (w := w) _ _ hpl
  simp only [bind_pure_comp] at h
  simp [h]
 refine Rj _ _ _ _ ?_
 rw [List.map_map]
 have e : (parts.map ((fun q : Nat × Value => (q.1, q.2.cells)) ∘ fun q : Nat × Operand => (q.1, Qg fr q.2))) = pcs := by rw [← hp]; rfl
 rw [e]
 have e2 : (fun i : Nat => pl.toArray[i]?) = fun i : Nat => pl[i]? := by funext i; simp
 rw [e2]; exact hf
theorem Uf {len m kE : Nat} {zE : Option Value} (hz : X4 P T = some (some zv, n, kb)) (hu : P.underlying T = some (.array len E)) (hE : X4 P E = some (zE, m, kE))
  (hp : (parts.map fun q => (q.1, (Qg fr q.2).cells)) = pcs) (hf : Nh (fun i => some (i * m, m)) zv.cells pcs = some c) : Yt P fr w (.build T parts.toArray) ty (.agg c) := by
 refine Hu hz hu hE rfl (Rj _ _ _ _ ?_)
 rw [List.map_map]
 have e : (parts.map ((fun q : Nat × Value => (q.1, q.2.cells)) ∘ fun q : Nat × Operand => (q.1, Qg fr q.2))) = pcs := by rw [← hp]; rfl
 rw [e]; exact hf
theorem Ry {len : Nat} (hm : Mem w R H) (hu : P.underlying T = some (.slice E)) (hi : X4 P E = some (some zv, n, kb)) (hs : Nat.ble (len * n) 16777216 = true)
  (hp : (parts.map fun q => (q.1, (Qg fr q.2).cells)) = pcs) (hf : Nh (fun i => some (i * n, n)) ((Array.range (len * n)).map (zv.cells[· % zv.cells.size]!)) pcs = some c) :
  J8 P fr w (.buildSlice T len parts.toArray) ty (fun v w' => ∃ b, v = Kq b 0 len len ∧ Ext w w' ∧ Mem w' R ((b, .cells c E) :: H)) := by
 refine Nu hm hu hi hs rfl (Rj _ _ _ _ ?_)
 rw [List.map_map]
 have e : (parts.map ((fun q : Nat × Value => (q.1, q.2.cells)) ∘ fun q : Nat × Operand => (q.1, Qg fr q.2))) = pcs := by rw [← hp]; rfl
 rw [e]; exact hf
theorem Jm : ([] : List Value).all (·.oneCell') = true := rfl
theorem Zz {l : List Value} (h : v.oneCell' = true) (hr : l.all (·.oneCell') = true) : (v :: l).all (·.oneCell') = true := by simp [h, hr]
theorem Qig {l : List Value} (h : l.all (·.oneCell') = true) : l.toArray.toList.all (·.oneCell') = true := h
def sllen : Value → Nat
 | .slice _ n _ => n
 | _ => 0
theorem Xl.sllen {α : Type} {f : α → Value} {l : List α} {Hs : List (Nat × Obj)} (h : Xl f E v l Hs) : sllen v = l.length := by obtain ⟨a, cap, rfl⟩ := h.len; rfl
theorem Rd.one {α : Type} {f : α → Value} {m : Nat → Option Obj} {l : List α} (h : Rd m f v l) : v.oneCell' = true := by obtain ⟨a, cap, rfl, _⟩ := h.is; rfl
theorem Xl.one {α : Type} {f : α → Value} {l : List α} {Hs : List (Nat × Obj)} (h : Xl f E v l Hs) : v.oneCell' = true := by obtain ⟨a, cap, rfl⟩ := h.len; rfl
theorem Qcc (d : Nat) {t : TypeId} {len cap : Nat} {a : Option Addr} (hu : P.underlying t = some (.slice E)) : (Op.equalIn (d + 1) t (.slice a len cap) (.slice none 0 0)).run P w = .ok a.isNone w := by
 cases a with
 | none => simp [Op.equalIn, Jg hu]
 | some a => simp [Op.equalIn, Jg hu]
theorem Qd5 {t t' : TypeId} {len cap : Nat} {a : Option Addr} {y : Operand} (hu : P.underlying t = some (.slice E)) (hx : Qg fr x = .slice a len cap) (hy : Qg fr y = .slice none 0 0) : Yt P fr w (.binOp .eql t x y t') ty (bl a.isNone) := by
 unfold Yt Ew
 show Sem.run P (do let v ← (do eqGuard .eql t x y (Qg fr x) (Qg fr y); binOp .eql t (Qg fr x) (Qg fr y)); pure (Next.value v)) w = _
 rw [hx, hy]
 have hg : eqGuard .eql t x y (.slice a len cap) (.slice none 0 0) = pure () := rfl
 have hb : binOp .eql t (.slice a len cap) (.slice none 0 0) = (do pure (.bool (← Op.equalIn (9999 + 1) t (.slice a len cap) (.slice none 0 0)))) := rfl
 rw [hg, hb]
 simp [Qcc 9999 hu, bl]
theorem Yt.cast {op : Op} {v' : Value} (e : v = v') (h : Yt P fr w op ty v) : Yt P fr w op ty v' := e ▸ h
theorem Ei {α : Type} {f : α → Value} {m : Nat → Option Obj} : ∀ p ∈ ([] : List (Value × List α)), Rd m f p.1 p.2 := fun p hp => by cases hp
theorem Gj {α : Type} {f : α → Value} {m : Nat → Option Obj} {u : Value} {l : List α} {ps : List (Value × List α)} (h : Rd m f u l) (hr : ∀ p ∈ ps, Rd m f p.1 p.2) : ∀ p ∈ (u, l) :: ps, Rd m f p.1 p.2 := by
 intro p hp
 rcases List.mem_cons.1 hp with rfl | hp
 ·exact h
 exact hr p hp
end
section
variable {P : Program} {fr : Nat → Value} {w : World} {ty T T' E : TypeId} {x y : Operand} {kb : Nat} {R : Rest} {H Hs : List (Nat × Obj)} {α : Type} {f : α → Value} {v : Value} {l : List α} {zv : Value} {z : α} {m : Nat}
end
end --m
end Go.Proofs.YtkmiemlpfkfiiaaDoor
