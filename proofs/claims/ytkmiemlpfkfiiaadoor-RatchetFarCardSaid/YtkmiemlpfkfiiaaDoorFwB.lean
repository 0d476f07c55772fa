/- The framework, part B: calls and results, memory as a list of blocks beside a rest. Conditions: none. -/
import Derived.Test.YtkmiemlpfkfiiaaDoorFwA
import Derived.Below
namespace Go.Proofs.YtkmiemlpfkfiiaaDoor
def Qc1 (P : Program) (w : World) (fr : Nat → Value) : List ResultVar → List Value → Prop
 | [], [] => True
 | .tmp t :: rs, v :: vs => fr t = v ∧ Qc1 P w fr rs vs
 | .cell t T :: rs, v :: vs => (∃ a, fr t = .pointer (some a) ∧ (loadVar T a).run P w = .ok v w) ∧ Qc1 P w fr rs vs
 | _, _ => False
def Pz : List Value → Value
 | [v] => v
 | vs => .tuple vs.toArray
def Qh8 (tmps : Array Value) : ResultVar → Sem Value
 | .tmp t => pure (tmps.getD t undef)
 | .cell a t => do loadVar t (← asAddr (tmps.getD a undef))
theorem Qfc (fn : Func) (tmps : Array Value) : results fn tmps = (do let vs ← fn.results.mapM (Qh8 tmps); pure (if h : vs.size = 1 then vs[0] else .tuple vs)) := by
 unfold results
 congr 1
theorem Qbe {α β : Type} (P : Program) (w : World) (f : α → Sem β) (x : α) (l : List α) (v : β) (vs : List β) (h0 : (f x).run P w = .ok v w) (h : (l.mapM f).run P w = .ok vs w) :
  ((x :: l).mapM f).run P w = .ok (v :: vs) w := by
 simp [List.mapM_cons, h0, h]
theorem Qc1.mapM {P : Program} {w : World} {fr : Nat → Value} {tmps : Array Value} (hg : ∀ t, tmps.getD t undef = fr t) : ∀ (rs : List ResultVar) (vs : List Value), Qc1 P w fr rs vs →
  (rs.mapM (Qh8 tmps)).run P w = .ok vs w
 | [], [], _ => by simp
 | .tmp t :: rs, v :: vs, h => Qbe P w _ _ _ _ _ (by simp [Qh8, hg, h.1]) (Qc1.mapM hg rs vs h.2)
 | .cell t T :: rs, v :: vs, h => Qbe P w _ _ _ _ _ (by obtain ⟨⟨a, h1, h3⟩, _⟩ := h; simp [Qh8, hg, h1, asAddr, h3]) (Qc1.mapM hg rs vs h.2)
 | [], _ :: _, h => h.elim
 | .tmp _ :: _, [], h => h.elim
 | .cell _ _ :: _, [], h => h.elim
theorem Qc1.run {P : Program} {w : World} {fr : Nat → Value} {fn : Func} {tmps : Array Value} (hg : ∀ t, tmps.getD t undef = fr t) {vs : List Value} (h : Qc1 P w fr fn.results.toList vs) :
  (results fn tmps).run P w = .ok (Pz vs) w := by
 have hk := Qc1.mapM hg _ _ h
 rw [Qfc, Array.mapM_eq_mapM_toList]
 simp only [Sem.run_bind, Sem.run_map, hk, Result.andThen_ok, Sem.run_pure]
 match vs with
 | [] => simp [Pz]
 | [v] => simp [Pz]
 | v :: v' :: vs => simp [Pz]
def Xm (P : Program) (f : FuncId) (args : Array Value) (w : World) (Φ : Value → World → Prop) : Prop :=
 Calls P f args w fun e w' => ∃ v, e = .returned v ∧ Φ v w'
theorem Xm.mono {P : Program} {f : FuncId} {args : Array Value} {w : World} {Φ Φ' : Value → World → Prop} (h : Xm P f args w Φ) (hm : ∀ v w', Φ v w' → Φ' v w') : Xm P f args w Φ' :=
 Calls.mono h fun _ _ ⟨v, he, hp⟩ => ⟨v, he, hm _ _ hp⟩
def Qlg (P : Program) (rs : List ResultVar) (Φ : Value → World → Prop) : Exit → (Nat → Value) → World → Prop
 | .normal, fr, w | .ret, fr, w => ∃ vs, Qc1 P w fr rs vs ∧ Φ (Pz vs) w
 | _, _, _ => False
theorem Qs {P : Program} {rs : List ResultVar} {Φ : Value → World → Prop} {fr : Nat → Value} {w : World} (vs : List Value) (h : Qc1 P w fr rs vs) (hp : Φ (Pz vs) w) : Qlg P rs Φ .ret fr w := ⟨vs, h, hp⟩
theorem Ec {P : Program} {rs : List ResultVar} {Φ : Value → World → Prop} {fr : Nat → Value} {w : World} (vs : List Value) (h : Qc1 P w fr rs vs) (hp : Φ (Pz vs) w) : Qlg P rs Φ .normal fr w := ⟨vs, h, hp⟩
theorem Su (l : List Value) (k t : Nat) : (l.toArray ++ Array.replicate k undef).getD t undef = l.getD t undef := by
 simp only [Array.getD_eq_getD_getElem?, Array.getElem?_append, List.size_toArray, List.getElem?_toArray, Array.getElem?_replicate]
 by_cases h : t < l.length
 ·simp [h]
 simp only [h, if_false]
 have : l[t]? = none := by simp; omega
 simp only [List.getD_eq_getElem?_getD, this]
 split <;> rfl
theorem Qy {P : Program} {f : FuncId} {fn : Func} {c : Code} {n : Nat} {rs : List ResultVar} {args : List Value} {w : World} {Φ : Value → World → Prop}
  (hf : P.funcs[f]? = some fn) (hb : fn.body = some c) (hn : fn.ntmps = n) (hr : fn.results = rs.toArray) (hs : Nat.ble args.length n = true)
  (h : CW P n c (Qlg P rs Φ) (initF args) w) : Xm P f args.toArray w Φ := by
 have hs' : args.length ≤ n := Nat.le_of_ble_eq_true hs
 refine calls_of_wp hf hb (Code.wp_mono ?_ (wpIn_wide.1 (h none [] _ ⟨rfl, ?_, ?_⟩)))
 ·rintro e a w' ⟨fr', hfr, q⟩
  cases e with
  | normal => obtain ⟨vs, h1, h2⟩ := q; exact ⟨hfr.defers, _, Qc1.run hfr.get (by rw [hr]; exact h1), _, rfl, h2⟩
  | ret => obtain ⟨vs, h1, h2⟩ := q; exact ⟨hfr.defers, _, Qc1.run hfr.get (by rw [hr]; exact h1), _, rfl, h2⟩
  | _ => exact q.elim
 ·simp [hn]; omega
 intro t; rw [Su]; rfl
theorem Z8 {P : Program} {fr : Nat → Value} {w : World} {f : FuncId} {fn : Func} {xs : Array Operand} {vs : Array Value} {ts : Array TypeId} {ty : TypeId} {Φ : Value → World → Prop}
  (hf : P.funcs[f]? = some fn) (hb : fn.body.isNone = false) (hnm : (fn.name == "runtime.NumGoroutine") = false) (ha : xs.map (Qg fr) = vs) (h : Xm P f vs w Φ) :
  J8 P fr w (.call ⟨.value (.func f), xs, ts⟩) ty Φ := by
 refine .inr (.inr (.inl ⟨f, vs, w, ?_, h⟩))
 subst ha
 have he : Ew (Qg fr) (.call ⟨.value (.func f), xs, ts⟩) ty = (do let d ← resolve (Qg fr) ⟨.value (.func f), xs, ts⟩ ty; invoke d.target d.args) := rfl
 rw [he]
 have hnm' : ¬ fn.name = "runtime.NumGoroutine" := by simpa using hnm
 have hb' : ¬ fn.body = none := by cases h : fn.body <;> simp_all
 simp [resolve, Qg, Deferred.ofValue, invoke, callFunc, hf, hb', hnm']
structure Rest where
 blk : Nat → Option Obj
 os : Os
 tape : Nat → Question → Nat
 output : Array (Nat × ByteArray)
def Qu (w : World) : Rest := ⟨fun b => w.heap[b]?, w.os, w.tape, w.output⟩
structure Ext (w w' : World) : Prop where
 os : w'.os = w.os
 tape : w'.tape = w.tape
 output : w'.output = w.output
 blk : ∀ (b : Nat) (o : Obj), w.heap[b]? = some o → w'.heap[b]? = some o
theorem Ext.refl (w : World) : Ext w w := ⟨rfl, rfl, rfl, fun _ _ h => h⟩
theorem Ext.trans {a b c : World} (h : Ext a b) (k : Ext b c) : Ext a c := ⟨k.os.trans h.os, k.tape.trans h.tape, k.output.trans h.output, fun _ _ e => k.blk _ _ (h.blk _ _ e)⟩
structure Mem (w : World) (R : Rest) (H : List (Nat × Obj)) : Prop where
 os : w.os = R.os
 tape : w.tape = R.tape
 output : w.output = R.output
 rest : ∀ (b : Nat) (o : Obj), R.blk b = some o → w.heap[b]? = some o
 own : ∀ p ∈ H, w.heap[p.1]? = some p.2
 disj : ∀ p ∈ H, R.blk p.1 = none
 nodup : (H.map (·.1)).Nodup
def Rest.add (R : Rest) (H : List (Nat × Obj)) : Rest := { R with blk := fun b => (H.lookup b).or (R.blk b) }
theorem Qbh : ∀ {H : List (Nat × Obj)} {b : Nat} {o : Obj}, (H.map (·.1)).Nodup → (b, o) ∈ H → H.lookup b = some o := by
 intro H
 induction H with
 | nil => intro b o _ h; simp at h
 | cons p H ih =>
  obtain ⟨c, q⟩ := p
  intro b o hn h
  simp only [List.map_cons, List.nodup_cons] at hn
  rcases List.mem_cons.1 h with h' | h'
  ·cases h'; simp [List.lookup]
  have hne : b ≠ c := by intro hbc; subst hbc; exact hn.1 (List.mem_map.2 ⟨(b, o), h', rfl⟩)
  have : (b == c) = false := by simpa using hne
  simp [List.lookup, this, ih hn.2 h']
theorem Bj : ∀ {H : List (Nat × Obj)} {b : Nat} {o : Obj}, H.lookup b = some o → (b, o) ∈ H := by
 intro H
 induction H with
 | nil => intro b o h; simp [List.lookup] at h
 | cons p H ih =>
  obtain ⟨c, q⟩ := p
  intro b o h
  by_cases hb : b = c
  ·subst hb; simp [List.lookup] at h; subst h; simp
  have : (b == c) = false := by simpa using hb
  simp only [List.lookup, this] at h
  exact List.mem_cons_of_mem _ (ih h)
section
variable {w w' : World} {R : Rest} {H H' : List (Nat × Obj)}
theorem Mem.of_world (w : World) : Mem w (Qu w) [] := ⟨rfl, rfl, rfl, fun _ _ h => h, by simp, by simp, by simp⟩
theorem Mem.below (w0 : World) (h : Mem w (Qu w0) H) : RowKit.Below w0.heap.size w0 w := by
 have hb : ∀ k, k < w0.heap.size → w.heap[k]? = w0.heap[k]? := by
  intro k hk
  have : w0.heap[k]? = some w0.heap[k] := by simp [hk]
  rw [this]; exact h.rest k _ this
 refine ⟨h.os, h.tape, h.output, ?_, hb⟩
 rcases Nat.lt_or_ge w.heap.size w0.heap.size with hlt | hge
 ·have h1 := hb w.heap.size hlt
  simp [hlt] at h1
 exact hge
theorem Mem.ext (h : Mem w R H) (e : Ext w w') : Mem w' R H :=
 ⟨e.os.trans h.os, e.tape.trans h.tape, e.output.trans h.output, fun b o k => e.blk _ _ (h.rest b o k), fun p k => e.blk _ _ (h.own p k), h.disj, h.nodup⟩
theorem Mem.weak (h : Mem w R (H ++ H')) : Mem w R H :=
 ⟨h.os, h.tape, h.output, h.rest, fun p k => h.own p (List.mem_append_left _ k), fun p k => h.disj p (List.mem_append_left _ k), by
  have := h.nodup; rw [List.map_append] at this; exact (List.nodup_append.1 this).1⟩
theorem Mem.perm (h : Mem w R H) (p : H'.Perm H) : Mem w R H' :=
 ⟨h.os, h.tape, h.output, h.rest, fun q k => h.own q (p.mem_iff.1 k), fun q k => h.disj q (p.mem_iff.1 k), ((p.map _).nodup_iff).2 h.nodup⟩
theorem Mem.sub (h : Mem w R H) (p : H'.Sublist H) : Mem w R H' :=
 ⟨h.os, h.tape, h.output, h.rest, fun q k => h.own q (p.mem k), fun q k => h.disj q (p.mem k), h.nodup.sublist (p.map _)⟩
theorem Mem.drew (h : Mem w R H) : Mem { w with drawn := w.drawn + 1 } R H := ⟨h.os, h.tape, h.output, h.rest, h.own, h.disj, h.nodup⟩
theorem Ext.drew (w : World) : Ext w { w with drawn := w.drawn + 1 } := ⟨rfl, rfl, rfl, fun _ _ h => h⟩
theorem Mem.give (h : Mem w R (H ++ H')) : Mem w (R.add H') H := by
 have hn := h.nodup
 rw [List.map_append, List.nodup_append] at hn
 refine ⟨h.os, h.tape, h.output, ?_, fun p k => h.own p (List.mem_append_left _ k), ?_, hn.1⟩
 ·intro b o k
  simp only [Rest.add] at k
  cases hl : H'.lookup b with
  | some o' =>
   rw [hl] at k
   simp at k; subst k
   exact h.own _ (List.mem_append_right _ (Bj hl))
  | none => rw [hl] at k; exact h.rest b o (by simpa using k)
 intro p k
 simp only [Rest.add]
 cases hl : H'.lookup p.1 with
 | some o' =>
  have := Bj hl
  exact absurd rfl (hn.2.2 p.1 (List.mem_map.2 ⟨p, k, rfl⟩) p.1 (List.mem_map.2 ⟨(p.1, o'), this, rfl⟩))
 | none => simp [h.disj p (List.mem_append_left _ k)]
theorem Mem.back {w0 : World} {H0 : List (Nat × Obj)} (h0 : Mem w0 R (H0 ++ H')) (h : Mem w' (R.add H') H) : Mem w' R (H ++ H') := by
 have hn := h0.nodup
 rw [List.map_append, List.nodup_append] at hn
 have hlk : ∀ p ∈ H', H'.lookup p.1 = some p.2 := fun p k => Qbh hn.2.1 k
 have hno : ∀ p ∈ H, H'.lookup p.1 = none ∧ R.blk p.1 = none := by
  intro p k
  have := h.disj p k
  simp only [Rest.add] at this
  cases hl : H'.lookup p.1 with
  | some o => rw [hl] at this; simp at this
  | none => rw [hl] at this; simpa using this
 refine ⟨h.os, h.tape, h.output, ?_, ?_, ?_, ?_⟩
 ·intro b o k
  refine h.rest b o ?_
  simp only [Rest.add]
  cases hl : H'.lookup b with
  | some o' => exact absurd k (by rw [h0.disj _ (List.mem_append_right _ (Bj hl))]; simp)
  | none => simpa using k
 ·intro p k
  rcases List.mem_append.1 k with k | k
  ·exact h.own p k
  refine h.rest p.1 p.2 ?_
  simp [Rest.add, hlk p k]
 ·intro p k
  rcases List.mem_append.1 k with k | k
  ·exact (hno p k).2
  exact h0.disj p (List.mem_append_right _ k)
 rw [List.map_append, List.nodup_append]
 refine ⟨h.nodup, hn.2.1, ?_⟩
 intro x hx y hy e
 subst e
 obtain ⟨p, hp, rfl⟩ := List.mem_map.1 hx
 obtain ⟨q, hq, hpq⟩ := List.mem_map.1 hy
 have h1 := (hno p hp).1
 have h2 := hlk q hq
 rw [hpq, h1] at h2
 cases h2
theorem Mem.alloc (h : Mem w R H) (o : Obj) : Mem { w with heap := w.heap.push o } R ((w.heap.size, o) :: H) := by
 have hsz : ∀ (b : Nat) (o : Obj), w.heap[b]? = some o → b < w.heap.size := by
  intro b o hb
  rcases Nat.lt_or_ge b w.heap.size with hlt | hge
  ·exact hlt
  rw [Array.getElem?_eq_none hge] at hb; cases hb
 have hkeep : ∀ (b : Nat) (o' : Obj), w.heap[b]? = some o' → (w.heap.push o)[b]? = some o' := by
  intro b o' hb
  rw [Array.getElem?_push, if_neg (by have := hsz _ _ hb; omega)]; exact hb
 refine ⟨h.os, h.tape, h.output, fun b o' k => hkeep _ _ (h.rest b o' k), ?_, ?_, ?_⟩
 ·intro p k
  rcases List.mem_cons.1 k with k | k
  ·subst k; simp
  exact hkeep _ _ (h.own p k)
 ·intro p k
  rcases List.mem_cons.1 k with k | k
  ·subst k
   cases hr : R.blk w.heap.size with
   | none => rfl
   | some o' => exact absurd (hsz _ _ (h.rest _ _ hr)) (by omega)
  exact h.disj p k
 rw [List.map_cons, List.nodup_cons]
 refine ⟨fun hm => ?_, h.nodup⟩
 obtain ⟨q, hq, he⟩ := List.mem_map.1 hm
 exact absurd (hsz _ _ (h.own q hq)) (by simp only at he; omega)
theorem Ext.alloc (w : World) (o : Obj) : Ext w { w with heap := w.heap.push o } := by
 refine ⟨rfl, rfl, rfl, fun b o' hb => ?_⟩
 have hlt : b < w.heap.size := by
  rcases Nat.lt_or_ge b w.heap.size with hlt | hge
  ·exact hlt
  rw [Array.getElem?_eq_none hge] at hb; cases hb
 show (w.heap.push o)[b]? = some o'
 rw [Array.getElem?_push, if_neg (by omega)]; exact hb
theorem Mem.set {H1 H2 : List (Nat × Obj)} {b : Nat} {o o' : Obj} {hp : Array Obj} (h : Mem w R (H1 ++ (b, o) :: H2)) (he : ∀ k, hp[k]? = if k = b then some o' else w.heap[k]?) :
  Mem { w with heap := hp } R (H1 ++ (b, o') :: H2) := by
 have hn := h.nodup
 have hkeys : (H1 ++ (b, o') :: H2).map (·.1) = (H1 ++ (b, o) :: H2).map (·.1) := by simp
 refine ⟨h.os, h.tape, h.output, ?_, ?_, ?_, by rw [hkeys]; exact hn⟩
 ·intro c q k
  show hp[c]? = some q
  rw [he, if_neg]
  ·exact h.rest c q k
  rintro rfl
  have hd := h.disj (c, o) Xk
  simp only at hd; rw [hd] at k; cases k
 ·intro p k
  show hp[p.1]? = some p.2
  rw [List.map_append, List.map_cons] at hn
  rcases List.mem_append.1 k with k' | k
  ·have hne : p.1 ≠ b := by
    rintro rfl
    exact (List.nodup_append.1 hn).2.2 p.1 (List.mem_map.2 ⟨p, k', rfl⟩) p.1 Xk rfl
   rw [he, if_neg hne]; exact h.own p (List.mem_append_left _ k')
  rcases List.mem_cons.1 k with k | k'
  ·subst k; rw [he, if_pos rfl]
  have hne : p.1 ≠ b := by
   rintro rfl
   have := (List.nodup_append.1 hn).2.1
   rw [List.nodup_cons] at this
   exact this.1 (List.mem_map.2 ⟨p, k', rfl⟩)
  rw [he, if_neg hne]; exact h.own p (List.mem_append_right _ (List.mem_cons_of_mem _ k'))
 intro p k
 rcases List.mem_append.1 k with k | k
 ·exact h.disj p (List.mem_append_left _ k)
 rcases List.mem_cons.1 k with k | k
 ·subst k; exact h.disj (b, o) Xk
 exact h.disj p (List.mem_append_right _ (List.mem_cons_of_mem _ k))
theorem Mem.h0 {p : Nat × Obj} (h : Mem w R (p :: H)) : w.heap[p.1]? = some p.2 := h.own p Xk
theorem Mem.h1 {p q : Nat × Obj} (h : Mem w R (q :: p :: H)) : w.heap[p.1]? = some p.2 := h.own p Xk
theorem Mem.h2 {p q r : Nat × Obj} (h : Mem w R (q :: r :: p :: H)) : w.heap[p.1]? = some p.2 := h.own p Xk
theorem Mem.h3 {p q r s : Nat × Obj} (h : Mem w R (q :: r :: s :: p :: H)) : w.heap[p.1]? = some p.2 := h.own p Xk
theorem Mem.h4 {p q r s t : Nat × Obj} (h : Mem w R (q :: r :: s :: t :: p :: H)) : w.heap[p.1]? = some p.2 := h.own p Xk
theorem Mem.h5 {p q r s t u : Nat × Obj} (h : Mem w R (q :: r :: s :: t :: u :: p :: H)) : w.heap[p.1]? = some p.2 := h.own p Xk
end
end Go.Proofs.YtkmiemlpfkfiiaaDoor
