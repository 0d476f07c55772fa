/- The framework, part M: structs, parts of aggregates, blocks that a call is lent. Conditions: none. -/
import Derived.Test.YtkmiemlpfkfiiaaDoorFwJ
namespace Go.Proofs.YtkmiemlpfkfiiaaDoor
set_option linter.unusedSimpArgs false
set_option linter.unusedVariables false
section
variable {P : Program} {fr : Nat → Value} {w w' : World} {ty T E : TypeId} {x y : Operand} {d : TypeDesc} {z : Option Value} {n kb b off : Nat} {c c' : Array Value} {fz : Nat × Nat} {R : Rest} {H H' Hs : List (Nat × Obj)} {α : Type} {f : α → Value} {v : Value} {l : List α} {o : Obj}
theorem Qfm (hu : P.underlying T = some d) (hd : Dn d = true) (hi : Yp P T = some (z, n, kb)) (hx : Qq fr x = ptr b off) (hb : w.heap[b]? = some (.cells c E fz)) (hs : Nat.ble (off + n) c.size = true) (he : c.extract off (off + n) = c') : Ja P fr w (.load T x) ty (.agg c') := by
  subst he; exact Md (ty := ty) hu hd hi hx hb (Nat.le_of_ble_eq_true hs)
theorem Qa1 {cs : Array Value} (hi : Yp P T = some (z, n, kb)) (hx : Qq fr x = ptr b 0) (hy : Qq fr y = .agg cs) (hn : Nat.beq cs.size n = true) (hv : cs.toList.all (·.oneCell') = true) (hb : w.heap[b]? = some (.cells c E fz)) (hs : Nat.beq c.size n = true) (hf : fz.2 = 0) :
    Jr P fr w (.store T x y) ty (fun _ w' => Upd w b (.cells cs E fz) w') := Qa2 hi hx hy (Nat.eq_of_beq_eq_true hn) (List.all_eq_true.1 hv) hb (Nat.eq_of_beq_eq_true hs) hf
theorem V6 {cs : Array Value} (hm : Mem w R H) (hx : Qq fr x = .agg cs) : Jr P fr w (.box T x) ty (fun p w' => ∃ b, p = ptr b 0 ∧ Ext w w' ∧ Mem w' R ((b, .cells cs T) :: H)) := Qf2 hm hx
theorem Jc {cs : Array Value} (hm : Mem w R H) (hi : Yp P T = some (some (.agg cs), n, kb)) : Jr P fr w (.alloc T) ty (fun p w' => ∃ b, p = ptr b 0 ∧ Ext w w' ∧ Mem w' R ((b, .cells cs T) :: H)) := Qcr hm hi
theorem Mem.addRest (h : Mem w R (H ++ H')) {b : Nat} {o : Obj} (e : R.blk b = some o) : (R.add H').blk b = some o := by
  have hn : H'.lookup b = none := by
    cases hl : H'.lookup b with
    | none => rfl
    | some o' =>
      have hm := Ei hl
      have := h.disj (b, o') (by simp [hm])
      rw [this] at e; cases e
  simp [Rest.add, hn, e]
theorem Mem.addOwn (h : Mem w R (H ++ H')) {b : Nat} {o : Obj} (e : (b, o) ∈ H') : (R.add H').blk b = some o := by
  have hn : (H'.map (·.1)).Nodup := by
    have := h.nodup
    rw [List.map_append] at this
    exact (List.nodup_append.1 this).2.1
  have := Py hn e
  simp [Rest.add, this]
theorem Rd.addRest (h : Mem w R (H ++ H')) (hr : Rd R.blk f v l) : Rd (R.add H').blk f v l := hr.mono fun b o e => h.addRest e
theorem Xx.rdIn {m : Nat → Option Obj} (h : Xx f E v l Hs) (hm : ∀ p ∈ Hs, m p.1 = some p.2) : Rd m f v l := by
  rcases h with ⟨⟨a, rfl⟩, rfl, rfl⟩ | ⟨b, pre, sp, post, rfl, rfl⟩
  · exact Rd.nil _ _
  · exact Rd.mk' (by omega) (hm (b, .cells (pre ++ (l.map f ++ (sp ++ post))).toArray E (0, 0)) (by simp)) (fun i hi => by
      simp only [List.getElem?_toArray]
      rw [List.getElem?_append_right (by omega), Nat.add_sub_cancel_left, List.getElem?_append_left (by simpa using hi)]
      simp [hi])
theorem Xx.rdAdd (h : Xx f E v l Hs) (hm : Mem w R (H ++ H')) (hsub : ∀ p ∈ Hs, p ∈ H') : Rd (R.add H').blk f v l := h.rdIn fun p hp => hm.addOwn (hsub p hp)
end
def Hz (place : Nat → Option (Nat × Nat)) (cells : Array Value) : List (Nat × Array Value) → Option (Array Value)
  | [] => some cells
  | (i, cs) :: rest =>
    match place i with
    | none => none
    | some (off, size) => if Nat.beq cs.size size && Nat.ble (off + cs.size) cells.size then Hz place (ovr cells off cs.toList) rest else none
theorem Qdt : ∀ (vs : List Value) (k off : Nat) (c : Array Value), (vs.zipIdx k).foldl (fun cs (p : Value × Nat) => cs.setIfInBounds (off + p.2) p.1) c = ovr c (off + k) vs
  | [], _, _, _ => rfl
  | v :: vs, k, off, c => by
    simp only [List.zipIdx_cons, List.foldl_cons, ovr]
    rw [Qdt vs (k + 1) off]; rfl
theorem Au (place : Nat → Option (Nat × Nat)) : ∀ (ps : List (Nat × Value)) (c c' : Array Value), Hz place c (ps.map fun q => (q.1, q.2.cells)) = some c' → Instr.fill place c ps = some c'
  | [], _, _, h => h
  | (i, v) :: ps, c, c', h => by
    simp only [List.map_cons, Hz] at h
    simp only [Instr.fill]
    cases hp : place i with
    | none => rw [hp] at h; cases h
    | some q =>
      obtain ⟨off, size⟩ := q
      rw [hp] at h
      simp only at h ⊢
      split at h
      · next hc =>
        simp only [Bool.and_eq_true] at hc
        have h1 := Nat.eq_of_beq_eq_true hc.1
        have h2 := Nat.le_of_ble_eq_true hc.2
        rw [if_neg (by simp; omega)]
        have e : (v.cells.zipIdx.foldl (fun cs (p : Value × Nat) => cs.setIfInBounds (off + p.2) p.1) c) = ovr c off v.cells.toList := by
          rw [← Array.foldl_toList, Array.toList_zipIdx]; exact Qdt _ 0 off c
        have := Au place ps _ _ h
        rw [← e] at this
        exact this
      · cases h
def Qb7 (P : Program) : List Field → Option (List (Nat × Nat))
  | [] => some []
  | f :: fs => match Yp P f.type with
    | some (_, n, _) => (Qb7 P fs).map ((f.offset, n) :: ·)
    | none => none
theorem Qbq {P : Program} {w : World} : ∀ (fs : List Field) (pl : List (Nat × Nat)), Qb7 P fs = some pl → (fs.mapM (fun f => do pure (f.offset, ← sizeOf f.type)) : Sem (List (Nat × Nat))).run P w = .ok pl w
  | [], pl, h => by cases h; simp
  | f :: fs, pl, h => by
    simp only [Qb7] at h
    cases ht : Yp P f.type with
    | none => rw [ht] at h; cases h
    | some q =>
      obtain ⟨z, n, kb⟩ := q
      rw [ht] at h
      simp only [Option.map_eq_some_iff] at h
      obtain ⟨pl', h1, rfl⟩ := h
      have := Qbq (w := w) fs pl' h1
      simp only [bind_pure_comp] at this
      simp [Yz ht, this]
section
variable {P : Program} {fr : Nat → Value} {w : World} {ty T E : TypeId} {x : Operand} {n kb i : Nat} {c : Array Value} {zv v : Value} {cs : Array Value} {parts : List (Nat × Operand)} {pcs : List (Nat × Array Value)} {R : Rest} {H : List (Nat × Obj)}
theorem Wy : (([] : List (Nat × Operand)).map fun q => (q.1, (Qq fr q.2).cells)) = [] := rfl
theorem Yh (hx : Qq fr x = v) (hc : v.cells = cs) (hr : (parts.map fun q => (q.1, (Qq fr q.2).cells)) = pcs) : (((i, x) :: parts).map fun q => (q.1, (Qq fr q.2).cells)) = (i, cs) :: pcs := by
  subst hx hc hr; rfl
theorem Jh {fs : Array Field} {pl : List (Nat × Nat)} (hz : Yp P T = some (some zv, n, kb)) (hu : P.underlying T = some (.struct fs)) (hpl : Qb7 P fs.toList = some pl)
    (hp : (parts.map fun q => (q.1, (Qq fr q.2).cells)) = pcs) (hf : Hz (fun i : Nat => pl[i]?) zv.cells pcs = some c) : Ja P fr w (.build T parts.toArray) ty (.agg c) := by
  refine Qfn (pl := pl.toArray) hz hu (fun w => ?_) rfl ?_
  · rw [Array.mapM_eq_mapM_toList]
    have h := Qbq (w := w) _ _ hpl
    simp only [bind_pure_comp] at h
    simp [h]
  · refine Au _ _ _ _ ?_
    rw [List.map_map]
    have e : (parts.map ((fun q : Nat × Value => (q.1, q.2.cells)) ∘ fun q : Nat × Operand => (q.1, Qq fr q.2))) = pcs := by rw [← hp]; rfl
    rw [e]
    have e2 : (fun i : Nat => pl.toArray[i]?) = fun i : Nat => pl[i]? := by funext i; simp
    rw [e2]; exact hf
theorem Gn {len m kE : Nat} {zE : Option Value} (hz : Yp P T = some (some zv, n, kb)) (hu : P.underlying T = some (.array len E)) (hE : Yp P E = some (zE, m, kE))
    (hp : (parts.map fun q => (q.1, (Qq fr q.2).cells)) = pcs) (hf : Hz (fun i => some (i * m, m)) zv.cells pcs = some c) : Ja P fr w (.build T parts.toArray) ty (.agg c) := by
  refine Kq hz hu hE rfl (Au _ _ _ _ ?_)
  rw [List.map_map]
  have e : (parts.map ((fun q : Nat × Value => (q.1, q.2.cells)) ∘ fun q : Nat × Operand => (q.1, Qq fr q.2))) = pcs := by rw [← hp]; rfl
  rw [e]; exact hf
theorem Dc {len : Nat} (hm : Mem w R H) (hu : P.underlying T = some (.slice E)) (hi : Yp P E = some (some zv, n, kb)) (hs : Nat.ble (len * n) 16777216 = true)
    (hp : (parts.map fun q => (q.1, (Qq fr q.2).cells)) = pcs) (hf : Hz (fun i => some (i * n, n)) ((Array.range (len * n)).map (zv.cells[· % zv.cells.size]!)) pcs = some c) :
    Jr P fr w (.buildSlice T len parts.toArray) ty (fun v w' => ∃ b, v = Jt b 0 len len ∧ Ext w w' ∧ Mem w' R ((b, .cells c E) :: H)) := by
  refine Bd hm hu hi hs rfl (Au _ _ _ _ ?_)
  rw [List.map_map]
  have e : (parts.map ((fun q : Nat × Value => (q.1, q.2.cells)) ∘ fun q : Nat × Operand => (q.1, Qq fr q.2))) = pcs := by rw [← hp]; rfl
  rw [e]; exact hf
theorem Zq : ([] : List Value).all (·.oneCell') = true := rfl
theorem Q9 {l : List Value} (h : v.oneCell' = true) (hr : l.all (·.oneCell') = true) : (v :: l).all (·.oneCell') = true := by simp [h, hr]
theorem Qej {l : List Value} (h : l.all (·.oneCell') = true) : l.toArray.toList.all (·.oneCell') = true := h
def sllen : Value → Nat
  | .slice _ n _ => n
  | _ => 0
theorem Xx.sllen {α : Type} {f : α → Value} {l : List α} {Hs : List (Nat × Obj)} (h : Xx f E v l Hs) : sllen v = l.length := by obtain ⟨a, cap, rfl⟩ := h.len; rfl
theorem Rd.one {α : Type} {f : α → Value} {m : Nat → Option Obj} {l : List α} (h : Rd m f v l) : v.oneCell' = true := by obtain ⟨a, cap, rfl, _⟩ := h.is; rfl
theorem Xx.one {α : Type} {f : α → Value} {l : List α} {Hs : List (Nat × Obj)} (h : Xx f E v l Hs) : v.oneCell' = true := by obtain ⟨a, cap, rfl⟩ := h.len; rfl
theorem Tj (d : Nat) {t : TypeId} {len cap : Nat} {a : Option Addr} (hu : P.underlying t = some (.slice E)) : (Op.equalIn (d + 1) t (.slice a len cap) (.slice none 0 0)).run P w = .ok a.isNone w := by
  cases a with
  | none => simp [Op.equalIn, Y8 hu]
  | some a => simp [Op.equalIn, Y8 hu]
theorem Qbv {t t' : TypeId} {len cap : Nat} {a : Option Addr} {y : Operand} (hu : P.underlying t = some (.slice E)) (hx : Qq fr x = .slice a len cap) (hy : Qq fr y = .slice none 0 0) : Ja P fr w (.binOp .eql t x y t') ty (bl a.isNone) := by
  unfold Ja U2
  show Sem.run P (do let v ← (do eqGuard .eql t x y (Qq fr x) (Qq fr y); binOp .eql t (Qq fr x) (Qq fr y)); pure (Next.value v)) w = _
  rw [hx, hy]
  have hg : eqGuard .eql t x y (.slice a len cap) (.slice none 0 0) = pure () := rfl
  have hb : binOp .eql t (.slice a len cap) (.slice none 0 0) = (do pure (.bool (← Op.equalIn (9999 + 1) t (.slice a len cap) (.slice none 0 0)))) := rfl
  rw [hg, hb]
  simp [Tj 9999 hu, bl]
theorem Ja.cast {op : Op} {v' : Value} (e : v = v') (h : Ja P fr w op ty v) : Ja P fr w op ty v' := e ▸ h
theorem D9 {α : Type} {f : α → Value} {m : Nat → Option Obj} : ∀ p ∈ ([] : List (Value × List α)), Rd m f p.1 p.2 := fun p hp => by cases hp
theorem Ur {α : Type} {f : α → Value} {m : Nat → Option Obj} {u : Value} {l : List α} {ps : List (Value × List α)} (h : Rd m f u l) (hr : ∀ p ∈ ps, Rd m f p.1 p.2) : ∀ p ∈ (u, l) :: ps, Rd m f p.1 p.2 := by
  intro p hp
  rcases List.mem_cons.1 hp with rfl | hp
  · exact h
  · exact hr p hp
end
section
variable {P : Program} {fr : Nat → Value} {w : World} {ty T T' E : TypeId} {x y : Operand} {kb : Nat} {R : Rest} {H Hs : List (Nat × Obj)} {α : Type} {f : α → Value} {v : Value} {l : List α} {zv : Value} {z : α} {m : Nat}
end
end Go.Proofs.YtkmiemlpfkfiiaaDoor
