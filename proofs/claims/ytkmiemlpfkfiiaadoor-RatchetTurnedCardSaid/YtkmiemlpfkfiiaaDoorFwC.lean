/- The framework, part C: a region that draws its order is walked in one order. Conditions: a closed check of its edges. -/
import Derived.Test.YtkmiemlpfkfiiaaDoorFwB
namespace Go.Proofs.YtkmiemlpfkfiiaaDoor
open _root_.Array renaming getD_eq_getD_getElem? → ax
open Bool renaming and_eq_true → bF, not_eq_true' → dm
open List renaming all_eq_true → bz, getD_eq_getElem?_getD → aI, getElem?_toArray → dN, mem_cons_of_mem → az, range → bP
open Nat renaming blt → dL, eq_of_beq_eq_true → dQ, le_of_ble_eq_true → bQ, lt_or_ge → ay
open Option renaming map_some → dZ
theorem Qaw {α β : Type} {f g : α → β} {xs : Array α} (h : ∀ x ∈ xs, f x = g x) : xs.map f = xs.map g := Array.map_congr_left h
theorem Qan {α β : Type} {f g : α → β} {x : Option α} (h : ∀ y, x = some y → f y = g y) : x.map f = x.map g := by
 cases x with
 | none => rfl
 | some y => simp [h y rfl]
theorem Qbc {ρ ρ' : Operand → Value} {c : Call} {ty : TypeId} (h : ∀ x ∈ c.operands, ρ x = ρ' x) : resolve ρ c ty = resolve ρ' c ty := by
 obtain ⟨callee, args, ts⟩ := c
 have ha : args.map ρ = args.map ρ' := Qaw fun x hx => h x (by cases callee <;> simp [Call.operands, hx])
 cases callee with
 | builtin b => simp only [resolve, ha]
 | invoke r m => simp only [resolve, ha, h r (by simp [Call.operands])]
 | value f => simp only [resolve, ha, h f (by simp [Call.operands])]
theorem Qlb {ρ ρ' : Operand → Value} {op : Op} {ty : TypeId} (h : ∀ x ∈ op.operands, ρ x = ρ' x) : Lp ρ op ty = Lp ρ' op ty := by
 cases op with
 | build t ps =>
  have : (ps.map fun (i, x) => (i, ρ x)) = ps.map fun (i, x) => (i, ρ' x) := Qaw fun x hx => by
   have := h x.2 (by simp only [Op.operands, List.mem_toArray, List.mem_map]; exact ⟨x, by simpa using hx, rfl⟩)
   simp [this]
  simp only [Lp, execOp, this]
 | buildSlice t n ps =>
  have : (ps.map fun (i, x) => (i, ρ x)) = ps.map fun (i, x) => (i, ρ' x) := Qaw fun x hx => by
   have := h x.2 (by simp only [Op.operands, List.mem_toArray, List.mem_map]; exact ⟨x, by simpa using hx, rfl⟩)
   simp [this]
  simp only [Lp, execOp, this]
 | call c => simp only [Lp, execOp, Qbc (ρ := ρ) (ρ' := ρ') h]
 | go c => simp only [Lp, execOp, Qbc (ρ := ρ) (ρ' := ρ') h]
 | defer c => simp only [Lp, execOp, Qbc (ρ := ρ) (ρ' := ρ') h]
 | makeFunc fn a b =>
  have h1 : a.map ρ = a.map ρ' := Qaw fun x hx => h x (by simp [Op.operands, hx])
  have h2 : b.map ρ = b.map ρ' := Qaw fun x hx => h x (by simp [Op.operands, hx])
  simp only [Lp, execOp, h1, h2]
 | makeMap t r =>
  have h1 : r.map ρ = r.map ρ' := Qan fun x hx => h x (by simp [Op.operands, hx])
  simp only [Lp, execOp, h1]
 | slice t x lo hi mx =>
  have h0 := h x (by simp [Op.operands])
  have h1 : lo.map ρ = lo.map ρ' := Qan fun x hx => h x (by simp [Op.operands, hx])
  have h2 : hi.map ρ = hi.map ρ' := Qan fun x hx => h x (by simp [Op.operands, hx])
  have h3 : mx.map ρ = mx.map ρ' := Qan fun x hx => h x (by simp [Op.operands, hx])
  simp only [Lp, execOp, h0, h1, h2, h3]
 | select cs b =>
  have key : ∀ s ∈ cs, ρ s.chan = ρ' s.chan ∧ s.send.map ρ = s.send.map ρ' := fun s hs =>
   ⟨h _ (by simp only [Op.operands, Array.mem_flatMap]; exact ⟨s, hs, by simp⟩), Qan fun x hx => h x (by simp only [Op.operands, Array.mem_flatMap]; exact ⟨s, hs, by simp [hx]⟩)⟩
  simp only [Lp, execOp]
  congr 1
  rw [Array.mapM_eq_mapM_toList, Array.mapM_eq_mapM_toList]
  congr 1
  have : ∀ l : List SelectCase, (∀ s ∈ l, ρ s.chan = ρ' s.chan ∧ s.send.map ρ = s.send.map ρ') →
    l.mapM (fun s => (do pure { chan := ρ s.chan, send := s.send.map ρ, zero := ← zeroValue s.elem : CommCase } : Sem CommCase)) =
    l.mapM (fun s => (do pure { chan := ρ' s.chan, send := s.send.map ρ', zero := ← zeroValue s.elem : CommCase } : Sem CommCase)) := by
   intro l
   induction l with
   | nil => intro _; rfl
   | cons s l ih =>
    intro hl
    obtain ⟨h1, h2⟩ := hl s Ya
    simp only [List.mapM_cons, h1, h2, ih fun s hs => hl s (az _ hs)]
  exact this _ fun s hs => key s (by simpa using hs)
 | _ => (first | rfl | simp_all [Lp, execOp, Op.operands])
theorem Qio : ∀ (l : List Nat) (n : Nat), l.Nodup → (∀ i ∈ l, i < n) → l.length ≤ n := by
 intro l n
 induction n generalizing l with
 | zero => intro _ h; cases l with
  | nil => simp
  | cons x l => exact absurd (h x Ya) (by omega)
 | succ n ih =>
  intro hn h
  have h1 := ih (l.erase n) (hn.erase n) (fun i hi => by
   have := h i (List.mem_of_mem_erase hi)
   have hne : i ≠ n := fun e => by subst e; exact (List.Nodup.not_mem_erase hn) hi
   omega)
  rw [List.length_erase] at h1
  split at h1 <;> omega
theorem Qhg : ∀ (l : List Nat) (n : Nat), (∀ i, i < n → i ∈ l) → n ≤ l.length := by
 intro l n
 induction n generalizing l with
 | zero => intro _; omega
 | succ n ih =>
  intro h
  have hm := h n (by omega)
  have h1 := ih (l.erase n) (fun i hi => (List.mem_erase_of_ne (by omega)).2 (h i (by omega)))
  rw [List.length_erase_of_mem hm] at h1
  have : 0 < l.length := List.length_pos_of_mem hm
  omega
def Nv (m : Region.Mode) (l : List Oper) (i : Nat) (D : Nat → Prop) : Prop := ∀ o, l[i]? = some o → ∀ e ∈ o.after.toList, Region.binds m e = true → D e.on
def Nj (m : Region.Mode) (l : List Oper) : List Nat → List Nat → Prop
 | done, [] => ∀ i, i < l.length → i ∈ done
 | done, i :: σ => i < l.length ∧ i ∉ done ∧ Nv m l i (· ∈ done) ∧ Nj m l (i :: done) σ
def Qb8 (m : Region.Mode) (l : List Oper) : List Nat → List Nat → Bool
 | done, [] => (bP l.length).all fun i => done.contains i
 | done, i :: σ => dL i l.length && ((l[i]?).map fun o => o.after.toList.all fun e => !Region.binds m e || done.contains e.on).getD false && Qb8 m l (i :: done) σ
theorem Qmo {m : Region.Mode} {l : List Oper} : ∀ (σ done have_ : List Nat), Qb8 m l done σ = true → (∀ i ∈ done, i ∈ have_) → (∃ i, i < l.length ∧ i ∉ have_) →
  ∃ i, i < l.length ∧ i ∉ have_ ∧ ∃ o, l[i]? = some o ∧ ∀ e ∈ o.after.toList, Region.binds m e = true → e.on ∈ have_ := by
 intro σ
 induction σ with
 | nil =>
  rintro done have_ h hd ⟨i, hi, hn⟩
  simp only [Qb8, bz, List.mem_range, List.contains_iff_mem] at h
  exact absurd (hd i (h i hi)) hn
 | cons j σ ih =>
  intro done have_ h hd hex
  simp only [Qb8, bF] at h
  obtain ⟨⟨hj, ho⟩, hr⟩ := h
  by_cases hm : j ∈ have_
  ·exact ih (j :: done) have_ hr (by simpa [hm] using hd) hex
  have hj' : j < l.length := bQ hj
  have hoj : l[j]? = some l[j] := by simp [hj']
  refine ⟨j, hj', hm, l[j], hoj, fun e he hb => ?_⟩
  rw [hoj] at ho
  simp only [dZ, Option.getD_some, bz] at ho
  have := ho e he
  simp only [hb, Bool.not_true, Bool.false_or, List.contains_iff_mem] at this
  exact hd _ this
theorem Qe8 {m : Region.Mode} {l : List Oper} {wit : List Nat} (hw : Qb8 m l [] wit = true) : ∀ (fuel t : Nat) (listed : Array Bool) (acc : List Nat), listed.size = l.length →
  (∀ i, i < l.length → (listed.getD i true = true ↔ i ∈ acc)) → (∀ i ∈ acc, i < l.length) → acc.Nodup → fuel + acc.length = l.length →
  ∃ σ, Region.linearise.go m l.toArray fuel t listed acc = acc.reverse ++ σ ∧ Nj m l acc σ := by
 intro fuel
 induction fuel with
 | zero =>
  intro t listed acc hs hl hlt hnd hf
  refine ⟨[], by simp [Region.linearise.go], fun i hi => ?_⟩
  by_cases hm : i ∈ acc
  ·exact hm
  exfalso
  have hsub : (i :: acc).Nodup := List.nodup_cons.2 ⟨hm, hnd⟩
  have hle : (i :: acc).length ≤ l.length := Qio (i :: acc) l.length hsub (by simpa [hi] using hlt)
  simp at hle; omega
 | succ fuel ih =>
  intro t listed acc hs hl hlt hnd hf
  simp only [Region.linearise.go]
  generalize hrs : (bP l.toArray.size).filter (fun i => !listed.getD i true && ((l.toArray[i]?).map (fun o => o.after.all fun e => !Region.binds m e || listed.getD e.on false)).getD false) = rs
  have hex : ∃ i, i < l.length ∧ i ∉ acc := by
   by_cases h : ∀ i, i < l.length → i ∈ acc
   ·exfalso
    have := Qhg acc l.length h
    omega
   obtain ⟨i, hi⟩ := Classical.not_forall.1 h
   exact ⟨i, Classical.not_imp.1 hi⟩
  have hget : ∀ j, j ∈ acc → listed.getD j false = true := by
   intro j hj
   have h1 := hlt j hj
   have := (hl j h1).2 hj
   simp only [ax] at this ⊢
   have h2 : listed[j]? = some listed[j] := by simp [hs, h1]
   rw [h2] at this ⊢; simpa using this
  have hget' : ∀ j, listed.getD j false = true → j ∈ acc := by
   intro j hj
   simp only [ax] at hj
   rcases ay j l.length with h1 | h1
   ·refine (hl j h1).1 ?_
    have h2 : listed[j]? = some listed[j] := by simp [hs, h1]
    simp only [ax]
    rw [h2] at hj ⊢; simpa using hj
   have h2 : listed[j]? = none := by simp [hs, h1]
   rw [h2] at hj; simp at hj
  obtain ⟨i0, hi0, hni0, o0, ho0, he0⟩ := Qmo wit [] acc hw Ya hex
  have hmem : ∀ i, i ∈ rs → i < l.length ∧ i ∉ acc ∧ Nv m l i (· ∈ acc) := by
   intro i hi
   rw [← hrs] at hi
   simp only [List.mem_filter, List.mem_range, List.size_toArray, bF, dm, dN] at hi
   obtain ⟨h1, h2, h3⟩ := hi
   refine ⟨h1, fun hm => ?_, fun o ho e he hb => ?_⟩
   ·rw [(hl i h1).2 hm] at h2; cases h2
   rw [ho] at h3
   simp only [dZ, Option.getD_some, ← Array.all_toList, bz] at h3
   have := h3 e he
   simp only [hb, Bool.not_true, Bool.false_or] at this
   exact hget' _ this
  have hi0rs : i0 ∈ rs := by
   rw [← hrs]
   simp only [List.mem_filter, List.mem_range, List.size_toArray, bF, dm, dN]
   refine ⟨hi0, ?_, ?_⟩
   ·cases h : listed.getD i0 true with
    | false => rfl
    | true => exact absurd ((hl i0 hi0).1 h) hni0
   rw [ho0]
   simp only [dZ, Option.getD_some, ← Array.all_toList, bz]
   intro e he
   cases hb : Region.binds m e with
   | false => rfl
   | true => simpa using hget _ (he0 e he hb)
  have hpos : 0 < rs.length := List.length_pos_of_mem hi0rs
  have hlt2 : t % rs.length < rs.length := Nat.mod_lt _ hpos
  have hsome : rs[t % rs.length]? = some rs[t % rs.length] := by simp [hlt2]
  rw [hsome]
  simp only
  generalize hi : rs[t % rs.length] = i
  have himem : i ∈ rs := by rw [← hi]; exact List.getElem_mem _
  obtain ⟨h1, h2, h3⟩ := hmem i himem
  obtain ⟨σ, hσ, hsch⟩ := ih (t / rs.length) (listed.setIfInBounds i true) (i :: acc) (by simpa using hs) (fun j hj => by
    simp only [ax, Array.getElem?_setIfInBounds, List.mem_cons]
    by_cases hij : i = j
    ·subst hij; simp [hs, h1]
    have := hl j hj
    simp only [ax] at this
    rw [if_neg hij, this]
    exact ⟨Or.inr, fun h => h.resolve_left (fun e => hij e.symm)⟩) (by simpa [h1] using hlt) (List.nodup_cons.2 ⟨h2, hnd⟩) (by simp; omega)
  exact ⟨i :: σ, by rw [hσ]; simp, h1, h2, h3, hsch⟩
theorem Sj {m : Region.Mode} {l : List Oper} {wit : List Nat} (hw : Qb8 m l [] wit = true) (t : Nat) : Nj m l [] (Region.linearise m l.toArray t) := by
 obtain ⟨σ, h1, h2⟩ := Qe8 hw l.length t (Array.replicate l.length false) [] Ya
  (fun i hi => by simp [ax, hi]) Ya Ya Ya
 have : Region.linearise m l.toArray t = σ := by simpa [Region.linearise] using h1
 rw [this]; exact h2
theorem Nj.toAny {m : Region.Mode} {l : List Oper} : ∀ {σ done : List Nat}, Nj m l done σ → Nj .any l done σ
 | [], _, h => h
 | _ :: _, _, ⟨h1, h2, h3, h4⟩ => ⟨h1, h2, fun o ho e he hb => h3 o ho e he (by
   cases m <;> simp only [Region.binds] at hb ⊢ <;> split at hb <;> simp_all), h4.toAny⟩
def Qi3 (l : List Oper) : Bool :=
 Qb8 .any l [] (bP l.length) && (!Region.departs l.toArray || (Qb8 .text l [] (bP l.length) && Qb8 .gc l [] (Region.linearise .gc l.toArray 0)))
theorem Qjj {l : List Oper} (h : Qi3 l = true) (mixed : Bool) (t : Nat) : Nj .any l [] (Region.schedule mixed l.toArray t) := by
 simp only [Qi3, bF, Bool.or_eq_true, dm] at h
 obtain ⟨h1, h2⟩ := h
 unfold Region.schedule
 split
 ·exact Sj h1 t
 rename_i hm
 rcases h2 with h2 | h2
 ·simp [h2] at hm
 split
 ·exact (Sj h2.1 _).toAny
 exact (Sj h2.2 _).toAny
def Qgy (acc : List Nat) (o : Oper) : Nat := o.after.toList.foldl (fun s e => if Region.binds .any e then s ||| 2 ^ e.on ||| acc.getD e.on 0 else s) 0
def Qrw (acc : List Nat) : List Oper → List Nat
 | [] => acc
 | o :: r => Qrw (acc ++ [Qgy acc o]) r
def Qb2 (l : List Oper) : List Nat := Qrw [] l
theorem Qpw {acc : List Nat} {o : Oper} {D : Nat → Prop} (he : ∀ e ∈ o.after.toList, Region.binds .any e = true → D e.on ∧ ∀ j, (acc.getD e.on 0).testBit j = true → D j) :
  ∀ j, (Qgy acc o).testBit j = true → D j := by
 unfold Qgy
 have key : ∀ (es : List Edge) (s : Nat), (∀ e ∈ es, Region.binds .any e = true → D e.on ∧ ∀ j, (acc.getD e.on 0).testBit j = true → D j) → (∀ j, s.testBit j = true → D j) →
   ∀ j, (es.foldl (fun s e => if Region.binds .any e then s ||| 2 ^ e.on ||| acc.getD e.on 0 else s) s).testBit j = true → D j := by
  intro es
  induction es with
  | nil => intro s _ hs j hj; exact hs j hj
  | cons e es ih =>
   intro s hes hs j hj
   simp only [List.foldl_cons] at hj
   refine ih _ (fun e he => hes e (az _ he)) ?_ j hj
   intro k hk
   split at hk
   ·rename_i hb
    obtain ⟨h1, h2⟩ := hes e Ya hb
    simp only [Nat.testBit_or, Bool.or_eq_true, Nat.testBit_two_pow, decide_eq_true_eq] at hk
    rcases hk with (hk | hk) | hk
    ·exact hs k hk
    ·subst hk; exact h1
    exact h2 k hk
   exact hs k hk
 exact key _ 0 he Ya
theorem Qkq {l : List Oper} {D : Nat → Prop} (hc : ∀ i, D i → Nv .any l i D) : ∀ i, i < l.length → Nv .any l i D → ∀ j, ((Qb2 l).getD i 0).testBit j = true → D j := by
 have key : ∀ (r : List Oper) (acc : List Nat), acc.length + r.length = l.length → (∀ k, r[k]? = l[acc.length + k]?) →
   (∀ i, i < acc.length → Nv .any l i D → ∀ j, (acc.getD i 0).testBit j = true → D j) →
   ∀ i, i < l.length → Nv .any l i D → ∀ j, ((Qrw acc r).getD i 0).testBit j = true → D j := by
  intro r
  induction r with
  | nil => intro acc hl _ h i hi; exact h i (by simp at hl; omega)
  | cons o r ih =>
   intro acc hl hr h
   refine ih (acc ++ [Qgy acc o]) (by simp at hl ⊢; omega) (fun k => ?_) ?_
   ·have := hr (k + 1)
    simp only [List.getElem?_cons_succ] at this
    rw [this]; congr 1; simp; omega
   intro i hi hed j hj
   simp only [List.length_append, List.length_cons, List.length_nil] at hi
   by_cases hlt : i < acc.length
   ·refine h i hlt hed j ?_
    simpa [aI, List.getElem?_append_left hlt] using hj
   obtain rfl : i = acc.length := by omega
   have ho : l[acc.length]? = some o := by have := hr 0; simpa using this.symm
   have hj' : (Qgy acc o).testBit j = true := by simpa [aI] using hj
   refine Qpw (fun e he hb => ?_) j hj'
   have hD := hed o ho e he hb
   refine ⟨hD, fun j hj => ?_⟩
   rcases ay e.on acc.length with h1 | h1
   ·exact h e.on h1 (hc _ hD) j hj
   rw [aI, List.getElem?_eq_none h1] at hj
   simp at hj
 exact key l [] Ya Ya Ya
def Qg6 (l : List Oper) (j : Nat) : Option Tmp := (l[j]?).bind (·.dst)
def F5 (l : List Oper) (o : Oper) : List Nat :=
 (o.op.operands.toList.filterMap fun | .tmp t => some t | _ => none) ++ (match o.guard with | some (j, _) => (Qg6 l j).toList | none => [])
def Qny (l : List Oper) (p q : Nat) : Bool :=
 match l[p]?, l[q]? with
 | some a, some b => (a.dst.toList.all fun d => !(F5 l b).contains d && !b.dst.toList.contains d) && (b.dst.toList.all fun d => !(F5 l a).contains d)
 | _, _ => false
def Nr (l : List Oper) (bs : List Nat) (p q : Nat × Bool) : Bool :=
 !(Nat.beq p.1 q.1) && !((bs.getD p.1 0).testBit q.1) && ((bs.getD q.1 0).testBit p.1 || (!p.2 && Qny l p.1 q.1))
def Qf4 (l : List Oper) (bs : List Nat) : List (Nat × Bool) → Bool
 | [] => true
 | p :: r => r.all (Nr l bs p) && Qf4 l bs r
def planOk (l : List Oper) (plan : List (Nat × Bool)) (k : Nat) : Bool :=
 Qi3 l && Qf4 l (Qb2 l) plan && (bP k).all (fun i => plan.any fun p => Nat.beq p.1 i) && plan.all (fun p => dL p.1 k) &&
 (bP l.length).all (fun j => dL j k || (bP j).all fun i => ((Qb2 l).getD j 0).testBit i)
def gval : Option Bool → Value
 | some b => .bool b
 | none => undef
def Ut (l : List Oper) (fr : Nat → Value) (o : Oper) (yes no : Prop) : Prop :=
 match o.guard with
 | none => yes
 | some (j, want) => ∃ s b, Qg6 l j = some s ∧ fr s = gval b ∧ (b = some want → yes) ∧ (b ≠ some want → no)
def Gs (K : World → Prop) : Prop := ∀ w w', K w → Ext w w' → K w'
def DW (P : Program) (n : Nat) (l : List Oper) (tail : List Oper) (N : (Nat → Value) → World → Prop) : (World → Prop) → List (Nat × Bool) → (Nat → Value) → World → Prop
 | _, [], fr, w0 => ∀ w, Ext w0 w → RW P n l.toArray tail N fr w
 | K, (i, false) :: r, fr, w0 => ∃ o, l[i]? = some o ∧ (∀ d, o.dst = some d → d < n) ∧
   Ut l fr o (∃ v, (∀ w, K w → Vf P fr w o.op o.type fun v' w' => v' = v ∧ Ext w w') ∧ DW P n l tail N K r (N9 fr o.dst v) w0) (DW P n l tail N K r (N9 fr o.dst undef) w0)
 | K, (i, true) :: r, fr, w0 => ∃ o, l[i]? = some o ∧ (∀ d, o.dst = some d → d < n) ∧
   ∀ w, Ext w0 w → Ut l fr o (Vf P fr w o.op o.type fun v w' => ∃ K', K' w' ∧ Gs K' ∧ (∀ u, K' u → K u) ∧ DW P n l tail N K' r (N9 fr o.dst v) w')
    (∃ K', K' w ∧ Gs K' ∧ (∀ u, K' u → K u) ∧ DW P n l tail N K' r (N9 fr o.dst undef) w)
def Qmd (P : Program) (l : List Oper) (fr : Nat → Value) (w : World) (i : Nat) (n : Nat) (F : (Nat → Value) → World → Prop) : Prop :=
 ∃ o, l[i]? = some o ∧ (∀ d, o.dst = some d → d < n) ∧ Ut l fr o (Vf P fr w o.op o.type fun v w' => F (N9 fr o.dst v) w') (F (N9 fr o.dst undef) w)
theorem Ut.mono {l : List Oper} {fr : Nat → Value} {o : Oper} {yes no yes' no' : Prop} (h : Ut l fr o yes no) (hy : yes → yes') (hn : no → no') : Ut l fr o yes' no' := by
 unfold Ut at h ⊢
 split at h
 ·exact hy h
 obtain ⟨s, b, h1, h2, h3, h4⟩ := h
 exact ⟨s, b, h1, h2, fun e => hy (h3 e), fun e => hn (h4 e)⟩
theorem Ut.frame {l : List Oper} {fr fr' : Nat → Value} {o : Oper} {yes no : Prop} (h : Ut l fr o yes no) (he : ∀ s ∈ F5 l o, fr s = fr' s) : Ut l fr' o yes no := by
 unfold Ut at h ⊢
 split at h
 ·exact h
 rename_i j want hg
 obtain ⟨s, b, h1, h2, h3⟩ := h
 exact ⟨s, b, h1, by rw [← he s (by simp [F5, hg, h1])]; exact h2, h3⟩
theorem Qic {l : List Oper} {fr fr' : Nat → Value} {o : Oper} (he : ∀ s ∈ F5 l o, fr s = fr' s) : ∀ x ∈ o.op.operands, Ql fr x = Ql fr' x := by
 intro x hx
 cases x with
 | tmp t => exact he t (by simp only [F5, List.mem_append, List.mem_filterMap]; exact .inl ⟨.tmp t, by simpa using hx, rfl⟩)
 | _ => rfl
theorem Jv.frame {P : Program} {l : List Oper} {fr fr' : Nat → Value} {w : World} {o : Oper} {v : Value} (h : Jv P fr w o.op o.type v) (he : ∀ s ∈ F5 l o, fr s = fr' s) : Jv P fr' w o.op o.type v := by
 unfold Jv at h ⊢; rw [← Qlb (Qic he)]; exact h
theorem Vf.frame {P : Program} {l : List Oper} {fr fr' : Nat → Value} {w : World} {o : Oper} {Φ : Value → World → Prop} (h : Vf P fr w o.op o.type Φ) (he : ∀ s ∈ F5 l o, fr s = fr' s) : Vf P fr' w o.op o.type Φ := by
 unfold Vf at h ⊢; rw [← Qlb (Qic he)]; exact h
theorem Qdv {fr : Nat → Value} {d d' : Option Nat} {v v' : Value} (h : ∀ x, d = some x → d' ≠ some x) : N9 (N9 fr d v) d' v' = N9 (N9 fr d' v') d v := by
 cases d with
 | none => rfl
 | some d =>
  cases d' with
  | none => rfl
  | some d' =>
   have hne : d ≠ d' := fun e => h d rfl (by rw [e])
   funext t
   simp only [N9]
   by_cases h1 : t = d
   ·subst h1; rw [Qaf _ _ hne, Qae, Qae]
   by_cases h2 : t = d'
   ·subst h2; rw [Qae, Qaf _ _ h1, Qae]
   rw [Qaf _ _ h2, Qaf _ _ h1, Qaf _ _ h1, Qaf _ _ h2]
theorem Qb6 {fr : Nat → Value} {d : Option Nat} {v : Value} {ns : List Nat} (h : ∀ x, d = some x → x ∉ ns) : ∀ s ∈ ns, N9 fr d v s = fr s := by
 intro s hs
 cases d with
 | none => rfl
 | some d => exact Qaf _ _ (fun e => h d rfl (e ▸ hs))
theorem DW.ext {P : Program} {n : Nat} {l tail : List Oper} {N : (Nat → Value) → World → Prop} {K : World → Prop} : ∀ {r : List (Nat × Bool)} {fr : Nat → Value} {w0 w : World}, DW P n l tail N K r fr w0 → Ext w0 w → DW P n l tail N K r fr w
 | [], _, _, _, h, e => fun w' e' => h w' (e.trans e')
 | (_, false) :: _, _, _, _, ⟨o, ho, hd, h⟩, e => ⟨o, ho, hd, h.mono (fun ⟨v, hv, hk⟩ => ⟨v, hv, hk.ext e⟩) (fun hk => hk.ext e)⟩
 | (_, true) :: _, _, _, _, ⟨o, ho, hd, h⟩, e => ⟨o, ho, hd, fun w' e' => h w' (e.trans e')⟩
theorem Tu {l : List Oper} {p q : Nat} {a b : Oper} (h : Qny l p q = true) (ha : l[p]? = some a) (hb : l[q]? = some b) :
  (∀ x, a.dst = some x → x ∉ F5 l b) ∧ (∀ x, b.dst = some x → x ∉ F5 l a) ∧ (∀ x, a.dst = some x → b.dst ≠ some x) := by
 simp only [Qny, ha, hb, bF, bz, Option.mem_toList, dm, List.contains_eq_mem, decide_eq_false_iff_not] at h
 exact ⟨fun x hx => (h.1 x hx).1, fun x hx => h.2 x hx, fun x hx => (h.1 x hx).2⟩
theorem DW.take {P : Program} {n : Nat} {l tail : List Oper} {N : (Nat → Value) → World → Prop} {K : World → Prop} (hK : Gs K) {bs : List Nat} {i : Nat} {e : Bool} {r2 : List (Nat × Bool)} :
  ∀ (r1 : List (Nat × Bool)) (fr : Nat → Value) (w0 w : World), DW P n l tail N K (r1 ++ (i, e) :: r2) fr w0 → Ext w0 w → K w → (∀ p ∈ r1, Nr l bs p (i, e) = true ∧ (bs.getD i 0).testBit p.1 = false) →
   Qmd P l fr w i n fun fr' w' => ∃ K', K' w' ∧ Gs K' ∧ (∀ u, K' u → K u) ∧ DW P n l tail N K' (r1 ++ r2) fr' w' := by
 intro r1
 induction r1 with
 | nil =>
  intro fr w0 w h he hw _
  cases e with
  | false =>
   obtain ⟨o, ho, hd, h⟩ := h
   exact ⟨o, ho, hd, h.mono (fun ⟨v, hv, hk⟩ => (hv w hw).mono (by rintro _ _ ⟨rfl, e⟩; exact ⟨K, hK _ _ hw e, hK, fun _ h => h, hk.ext (he.trans e)⟩)) (fun hk => ⟨K, hw, hK, fun _ h => h, hk.ext he⟩)⟩
  | true =>
   obtain ⟨o, ho, hd, h⟩ := h
   exact ⟨o, ho, hd, h w he⟩
 | cons p r1 ih =>
  intro fr w0 w h he hw hp
  obtain ⟨j, k⟩ := p
  obtain ⟨hpo, hnb⟩ := hp (j, k) Ya
  simp only [Nr, bF, Bool.or_eq_true, dm] at hpo
  rw [hnb] at hpo
  obtain ⟨_, hor⟩ := hpo
  obtain ⟨hk, hap⟩ := hor.resolve_left Ya
  subst hk
  obtain ⟨a, ha, hda, hg⟩ := h
  have both : ∀ u, DW P n l tail N K (r1 ++ (i, e) :: r2) (N9 fr a.dst u) w0 →
    Qmd P l fr w i n fun fr' w' => ∃ K', (K' w' ∧ Gs K' ∧ (∀ u, K' u → K u)) ∧ ∃ b, l[i]? = some b ∧ (∃ v', fr' = N9 fr b.dst v') ∧ DW P n l tail N K' (r1 ++ r2) (N9 fr' a.dst u) w' := by
   intro u hu
   obtain ⟨b, hb, hdb, hs⟩ := ih _ _ _ hu he hw (fun p hp' => hp p (az _ hp'))
   obtain ⟨h1, h2, h3⟩ := Tu hap ha hb
   have hag : ∀ s ∈ F5 l b, N9 fr a.dst u s = fr s := Qb6 h1
   refine ⟨b, hb, hdb, (hs.frame hag).mono (fun ho => (ho.frame hag).mono ?_) ?_⟩
   ·rintro v w' ⟨K', e1, e2, e3, hk⟩
    refine ⟨K', ⟨e1, e2, e3⟩, b, hb, ⟨v, rfl⟩, ?_⟩
    rw [← Qdv h3]; exact hk
   rintro ⟨K', e1, e2, e3, hk⟩
   refine ⟨K', ⟨e1, e2, e3⟩, b, hb, ⟨_, rfl⟩, ?_⟩
   rw [← Qdv h3]; exact hk
  have fin : ∀ b, l[i]? = some b → ∀ s ∈ F5 l a, ∀ v', N9 fr b.dst v' s = fr s := by
   intro b hb s hs v'
   exact Qb6 (Tu hap ha hb).2.1 s hs
  unfold Ut at hg
  cases hgu : a.guard with
  | none =>
   rw [hgu] at hg
   obtain ⟨u, hev, hk⟩ := hg
   obtain ⟨b, hb, hdb, hs⟩ := both u hk
   refine ⟨b, hb, hdb, hs.mono (fun ho => ho.mono ?_) ?_⟩
   all_goals
    intros
    rename_i hh
    obtain ⟨K', ⟨e1, e2, e3⟩, b', hb', ⟨v', hv'⟩, hk'⟩ := hh
    refine ⟨K', e1, e2, e3, a, ha, hda, ?_⟩
    simp only [Ut, hgu]
    refine ⟨u, fun w2 hw2 => (hev w2 (e3 w2 hw2)).frame (l := l) fun s hs => ?_, hk'⟩
    rw [hv']; exact (fin b' hb' s hs v').symm
  | some g =>
   obtain ⟨jj, want⟩ := g
   rw [hgu] at hg
   obtain ⟨s, bb, hs1, hs2, hyes, hno⟩ := hg
   have hmem : s ∈ F5 l a := by simp [F5, hgu, hs1]
   by_cases hbw : bb = some want
   ·obtain ⟨u, hev, hk⟩ := hyes hbw
    obtain ⟨b, hb, hdb, hs⟩ := both u hk
    refine ⟨b, hb, hdb, hs.mono (fun ho => ho.mono ?_) ?_⟩
    all_goals
     intros
     rename_i hh
     obtain ⟨K', ⟨e1, e2, e3⟩, b', hb', ⟨v', hv'⟩, hk'⟩ := hh
     refine ⟨K', e1, e2, e3, a, ha, hda, ?_⟩
     simp only [Ut, hgu]
     refine ⟨s, bb, hs1, by rw [hv', fin b' hb' s hmem v']; exact hs2, fun _ => ⟨u, fun w2 hw2 => (hev w2 (e3 w2 hw2)).frame (l := l) fun s hs => ?_, hk'⟩, fun hne => absurd hbw hne⟩
     rw [hv']; exact (fin b' hb' s hs v').symm
   have hk := hno hbw
   obtain ⟨b, hb, hdb, hs⟩ := both _ hk
   refine ⟨b, hb, hdb, hs.mono (fun ho => ho.mono ?_) ?_⟩
   all_goals
    intros
    rename_i hh
    obtain ⟨K', ⟨e1, e2, e3⟩, b', hb', ⟨v', hv'⟩, hk'⟩ := hh
    refine ⟨K', e1, e2, e3, a, ha, hda, ?_⟩
    simp only [Ut, hgu]
    exact ⟨s, bb, hs1, by rw [hv', fin b' hb' s hmem v']; exact hs2, fun heq => absurd heq hbw, fun _ => hk'⟩
theorem Qmd.wpOps {P : Program} {l : List Oper} {fr : Nat → Value} {w : World} {i n : Nat} {F : (Nat → Value) → World → Prop} (h : Qmd P l fr w i n F) {rd : Option Nat} {ds : List Deferred} {a : Act} (ha : Frm ds a n fr) {Q : Exit → Act → World → Prop} {σ : List Nat}
  (k : ∀ a' fr' w', Frm ds a' n fr' → F fr' w' → wpOpsIn (FR rd) 0 P l.toArray Q σ a' w') : wpOpsIn (FR rd) 0 P l.toArray Q (i :: σ) a w := by
 obtain ⟨⟨d, op, ty, pos, aft, g⟩, ho, hd, hg⟩ := h
 have ho' : l.toArray[i]? = some ⟨d, op, ty, pos, aft, g⟩ := by simpa using ho
 simp only [Go.wpOpsIn, ho']
 cases g with
 | none =>
  rw [if_pos (by simp [Region.wanted])]
  exact (Vf.wp hg ha fun v w' hp => k _ _ _ (ha.put hd v) hp)
 | some g =>
  obtain ⟨j, want⟩ := g
  obtain ⟨s, b, h1, h2, hy, hn⟩ := hg
  cases b with
  | some b =>
   have hyl : yielded l.toArray a.tmps j = some b := Qey ha (by simpa [Qg6] using h1) h2
   by_cases hb : b = want
   ·rw [if_pos (by simp [Region.wanted, hyl, hb])]
    exact (Vf.wp (hy (congrArg some hb)) ha fun v w' hp => k _ _ _ (ha.put hd v) hp)
   rw [if_neg (by simp [Region.wanted, hyl, hb])]
   exact ⟨fun _ _ => trivial, k _ _ _ (ha.put hd _) (hn (fun e => hb (by injection e)))⟩
  | none =>
   have hyl : yielded l.toArray a.tmps j = none := by
    have hg := ha.get s
    have h2' : fr s = undef := h2
    rw [h2', ax] at hg
    unfold yielded
    have h1' : (l.toArray[j]?).bind (·.dst) = some s := by simpa [Qg6] using h1
    rw [h1']
    simp only [Option.bind_some]
    cases hx : a.tmps[s]? with
    | none => rfl
    | some v => rw [hx] at hg; simp at hg; subst hg; rfl
   rw [if_neg (by simp [Region.wanted, hyl])]
   exact ⟨fun _ _ => trivial, k _ _ _ (ha.put hd _) (hn (fun e => by cases e))⟩
theorem Pn {l : List Oper} {bs : List Nat} : ∀ {r : List (Nat × Bool)}, Qf4 l bs r = true → r.Pairwise (fun p q => Nr l bs p q = true)
 | [], _ => .nil
 | p :: r, h => by
  simp only [Qf4, bF, bz] at h
  exact .cons h.1 (Pn h.2)
theorem Qjk {l : List Oper} {k : Nat} (ht : ∀ j, k ≤ j → j < l.length → ∀ i, i < j → ((Qb2 l).getD j 0).testBit i = true) :
  ∀ (σ done : List Nat) (m : Nat), k ≤ m → m ≤ l.length → (∀ i, i ∈ done ↔ i < m) → (∀ i ∈ done, Nv .any l i (· ∈ done)) → Nj .any l done σ → σ = List.range' m (l.length - m) := by
 intro σ
 induction σ with
 | nil =>
  intro done m _ hml hd _ h
  have : l.length ≤ m := by
   rcases ay m l.length with hlt | hge
   ·exact absurd ((hd m).1 (h m hlt)) (by omega)
   exact hge
  have : l.length - m = 0 := by omega
  rw [this]; rfl
 | cons i σ ih =>
  intro done m hkm hml hd hc ⟨h1, h2, h3, h4⟩
  have him : m ≤ i := by
   rcases ay i m with hlt | hge
   ·exact absurd ((hd i).2 hlt) h2
   exact hge
  have hall : ∀ j, j < i → j ∈ done := fun j hj => Qkq (D := (· ∈ done)) hc i h1 h3 j (ht i (by omega) h1 j hj)
  obtain rfl : i = m := by
   rcases ay m i with hlt | hge
   ·exact absurd ((hd m).1 (hall m hlt)) (by omega)
   omega
  have := ih (i :: done) (i + 1) (by omega) (by omega) (fun j => by rw [List.mem_cons, hd]; omega) (by
   intro j hj
   rcases List.mem_cons.1 hj with rfl | hj
   ·exact fun o ho e he hb => az _ (h3 o ho e he hb)
   exact fun o ho e he hb => az _ (hc j hj o ho e he hb)) h4
  rw [this, show l.length - i = (l.length - (i + 1)) + 1 from by omega, List.range'_succ]
def Bq (l le : List Oper) (plan : List (Nat × Bool)) (k : Nat) : Bool :=
 Qf4 l (Qb2 le) plan && (bP k).all (fun i => plan.any fun p => Nat.beq p.1 i) && plan.all (fun p => dL p.1 k) &&
 (bP l.length).all (fun j => dL j k || (bP j).all fun i => ((Qb2 le).getD j 0).testBit i)
theorem dw_run {P : Program} {n : Nat} {l le : List Oper} {N : (Nat → Value) → World → Prop} {plan : List (Nat × Bool)} {k : Nat} (hll : le.length = l.length) (hp : Bq l le plan k = true) {rd : Option Nat} {ds : List Deferred} {Q : Exit → Act → World → Prop}
  (hQ : ∀ a' fr' w', Frm ds a' n fr' → N fr' w' → Q .normal a' w') :
  ∀ (σ done : List Nat) (K : World → Prop) (r : List (Nat × Bool)) (fr : Nat → Value) (w0 w : World) (a : Act), Gs K → K w → Nj .any le done σ → (∀ i ∈ done, Nv .any le i (· ∈ done)) → r.Sublist plan →
   (∀ p ∈ plan, p ∈ r ∨ p.1 ∈ done) → (∀ p ∈ r, p.1 ∉ done) → (∀ i ∈ done, i < k) → DW P n l (l.drop k) N K r fr w0 → Ext w0 w → Frm ds a n fr → wpOpsIn (FR rd) 0 P l.toArray Q σ a w := by
 simp only [Bq, bF, bz, List.mem_range, List.any_eq_true] at hp
 obtain ⟨⟨⟨hpairs, hcov⟩, hlt⟩, htail⟩ := hp
 have htail' : ∀ j, k ≤ j → j < l.length → ∀ i, i < j → ((Qb2 le).getD j 0).testBit i = true := by
  intro j hj hjl i hi
  have := htail j hjl
  simp only [Bool.or_eq_true, bz, List.mem_range] at this
  rcases this with h | h
  ·have : j < k := bQ h
   omega
  exact h i hi
 have hpw := Pn hpairs
 intro σ
 induction σ with
 | nil =>
  intro done K r fr w0 w a hK hw hs hc hsub hcv hnd hdk hdw he ha
  cases r with
  | cons p r =>
   exfalso
   obtain ⟨i, e⟩ := p
   have : ∃ o, l[i]? = some o := by cases e <;> exact ⟨hdw.choose, hdw.choose_spec.1⟩
   obtain ⟨o, ho⟩ := this
   have hi : i < l.length := by
    rcases ay i l.length with h | h
    ·exact h
    rw [List.getElem?_eq_none h] at ho; cases ho
   exact hnd (i, e) Ya (hs i (by omega))
  | nil =>
   have hkl : l.length ≤ k := by
    rcases ay k l.length with h | h
    ·exact absurd (hdk k (hs k (by omega))) (by omega)
    exact h
   have := hdw w he rd ds a ha Q hQ
   rw [List.drop_eq_nil_of_le hkl] at this
   exact this
 | cons i σ ih =>
  intro done K r fr w0 w a hK hw hs hc hsub hcv hnd hdk hdw he ha
  cases r with
  | nil =>
   have hdone : ∀ i, i ∈ done ↔ i < k := by
    intro i
    refine ⟨hdk i, fun h => ?_⟩
    obtain ⟨p, hp1, hp2⟩ := hcov i h
    have := (hcv p hp1).resolve_left Ya
    rwa [dQ hp2] at this
   have hkl : k ≤ l.length := by
    rcases ay l.length k with h | h
    ·exfalso
     obtain ⟨h1, h2, _, _⟩ := hs
     exact h2 ((hdone i).2 (by omega))
    exact h
   have hσ := Qjk (fun j hj hjl => htail' j hj (by omega)) _ _ k (Nat.le_refl _) (by omega) hdone hc hs
   rw [hσ, hll]
   have hlen : l.length - k = (l.drop k).length := by simp
   rw [hlen, wpOpsIn_eq_wpListIn (l.drop k) k (by intro j; simp)]
   exact hdw w he rd ds a ha Q hQ
  | cons p0 r0 =>
   obtain ⟨h1, h2, h3, h4⟩ := hs
   have hbef : ∀ j, ((Qb2 le).getD i 0).testBit j = true → j ∈ done := Qkq (D := (· ∈ done)) hc i h1 h3
   have hik : i < k := by
    rcases ay i k with h | h
    ·exact h
    exfalso
    have hp0 : p0 ∈ plan := hsub.subset Ya
    have hb : p0.1 < k := bQ (hlt p0 hp0)
    exact hnd p0 Ya (hbef _ (htail' i h (by omega) p0.1 (by omega)))
   obtain ⟨q, hq1, hq2⟩ := hcov i hik
   obtain ⟨qi, e⟩ := q
   have hqi : qi = i := dQ hq2
   subst hqi
   have hqr : (qi, e) ∈ p0 :: r0 := (hcv _ hq1).resolve_right h2
   obtain ⟨r1, r2, hr⟩ := List.append_of_mem hqr
   rw [hr] at hdw hsub hnd hcv
   have hpwr := hpw.sublist hsub
   rw [List.pairwise_append] at hpwr
   obtain ⟨_, hpw2, hpw12⟩ := hpwr
   rw [List.pairwise_cons] at hpw2
   have hstep := DW.take hK (bs := Qb2 le) r1 fr w0 w hdw he hw (fun p hp => ⟨hpw12 p hp _ Ya, by
    cases hb : ((Qb2 le).getD qi 0).testBit p.1 with
    | false => rfl
    | true => exact absurd (hbef _ hb) (hnd p (by simp [hp]))⟩)
   refine hstep.wpOps ha fun a' fr' w' hf ⟨K', e1, e2, _, hdw'⟩ => ?_
   have hne : ∀ p, Nr l (Qb2 le) p (qi, e) = true ∨ Nr l (Qb2 le) (qi, e) p = true → p.1 ≠ qi := by
    intro p h heq
    rcases h with h | h <;>
     ·simp only [Nr, heq, Nat.beq_refl, Bool.not_true, Bool.false_and] at h; cases h
   refine ih (qi :: done) K' (r1 ++ r2) fr' w' w' a' e2 e1 h4 ?_ ?_ ?_ ?_ ?_ hdw' (Ext.refl _) hf
   ·intro j hj
    rcases List.mem_cons.1 hj with rfl | hj
    ·exact fun o ho e he hb => az _ (h3 o ho e he hb)
    exact fun o ho e he hb => az _ (hc j hj o ho e he hb)
   ·exact (List.Sublist.append (List.Sublist.refl r1) (List.sublist_cons_self _ _)).trans hsub
   ·intro p hp
    rcases hcv p hp with h | h
    ·rcases List.mem_append.1 h with h | h
     ·exact .inl (by simp [h])
     rcases List.mem_cons.1 h with rfl | h
     ·exact .inr Ya
     exact .inl (by simp [h])
    exact .inr (by simp [h])
   ·intro p hp
    rcases List.mem_append.1 hp with h | h
    ·rw [List.mem_cons]
     rintro (h' | h')
     ·exact hne p (.inl (hpw12 p h _ Ya)) h'
     exact hnd p (by simp [h]) h'
    rw [List.mem_cons]
    rintro (h' | h')
    ·exact hne p (.inr (hpw2.1 p h)) h'
    exact hnd p (by simp [h]) h'
   intro j hj
   rcases List.mem_cons.1 hj with rfl | hj
   ·exact hik
   exact hdk j hj
def Lm (a : Nat) : List Oper → Nat → List Oper
 | [], _ => []
 | o :: r, 0 => { o with after := o.after.push ⟨a, .chain⟩ } :: r
 | o :: r, i + 1 => o :: Lm a r i
theorem Ak (a : Nat) : ∀ (l : List Oper) (i : Nat), (Lm a l i).length = l.length
 | [], _ => rfl
 | _ :: _, 0 => rfl
 | _ :: r, i + 1 => by simp [Lm, Ak a r i]
theorem Qkt (a : Nat) : ∀ (l : List Oper) (i j : Nat), j ≠ i → (Lm a l i)[j]? = l[j]?
 | [], _, _, _ => rfl
 | _ :: _, 0, 0, h => absurd rfl h
 | _ :: _, 0, j + 1, _ => rfl
 | _ :: _, _ + 1, 0, _ => rfl
 | _ :: r, i + 1, j + 1, h => by simpa [Lm] using Qkt a r i j (by omega)
theorem Qku (a : Nat) : ∀ (l : List Oper) (i : Nat), (Lm a l i)[i]? = (l[i]?).map fun o => { o with after := o.after.push ⟨a, .chain⟩ }
 | [], _ => rfl
 | _ :: _, 0 => rfl
 | _ :: r, i + 1 => by simpa [Lm] using Qku a r i
def Qme (a b : Nat) : List Nat → Prop
 | [] => False
 | i :: r => i = a ∨ (i ≠ b ∧ Qme a b r)
theorem Qpm {le : List Oper} {a b i : Nat} {D : Nat → Prop} (h : Nv .any le i D) (hab : i = b → D a) : Nv .any (Lm a le b) i D := by
 by_cases hi : i = b
 ·subst hi
  intro o ho e he hb
  rw [Qku] at ho
  cases hl : le[i]? with
  | none => rw [hl] at ho; cases ho
  | some o' =>
   rw [hl] at ho
   simp only [dZ, Option.some.injEq] at ho
   subst ho
   simp only [Array.toList_push, List.mem_append, List.mem_singleton] at he
   rcases he with he | he
   ·exact h o' hl e he hb
   subst he; exact hab rfl
 intro o ho e he hb
 rw [Qkt a le b i hi] at ho
 exact h o ho e he hb
theorem Qg7 {le : List Oper} {a b : Nat} (hab : a ≠ b) : ∀ (σ done : List Nat), Nj .any le done σ → (b ∈ done ∨ a ∈ done ∨ Qme a b σ) → Nj .any (Lm a le b) done σ := by
 intro σ
 induction σ with
 | nil => intro done h _ i hi; exact h i (by rwa [Ak] at hi)
 | cons i σ ih =>
  rintro done ⟨h1, h2, h3, h4⟩ ho
  refine ⟨by rw [Ak]; exact h1, h2, Qpm h3 ?_, ih _ h4 ?_⟩
  ·rintro rfl
   rcases ho with h | h | h
   ·exact absurd h h2
   ·exact h
   rcases h with h | h
   ·exact absurd h.symm hab
   exact absurd rfl h.1
  rcases ho with h | h | h
  ·exact .inl (az _ h)
  ·exact .inr (.inl (az _ h))
  rcases h with rfl | h
  ·exact .inr (.inl Ya)
  exact .inr (.inr h.2)
theorem Qms {le : List Oper} {a b : Nat} (hal : a < le.length) : ∀ (σ done : List Nat), Nj .any le done σ → a ∉ done → Qme a b σ ∨ Qme b a σ := by
 intro σ
 induction σ with
 | nil => intro done h ha; exact absurd (h a hal) ha
 | cons i σ ih =>
  rintro done ⟨h1, h2, h3, h4⟩ ha
  by_cases hia : i = a
  ·exact .inl (.inl hia)
  by_cases hib : i = b
  ·exact .inr (.inl hib)
  rcases ih _ h4 (by simp [ha, Ne.symm hia]) with h | h
  ·exact .inl (.inr ⟨hib, h⟩)
  exact .inr (.inr ⟨hia, h⟩)
def Qax (P : Program) (n : Nat) (l le : List Oper) (K : (Nat → Value) → World → Prop) (fr : Nat → Value) (w : World) : Prop :=
 le.length = l.length ∧ ∀ (rd : Option Nat) (ds : List Deferred) (σ : List Nat), Nj .any le [] σ → ∀ (Q : Exit → Act → World → Prop), (∀ a' fr' w', Frm ds a' n fr' → K fr' w' → Q .normal a' w') → ∀ a w1, Ext w w1 → Frm ds a n fr → wpOpsIn (FR rd) 0 P l.toArray Q σ a w1
theorem Qjq {P : Program} {n : Nat} {l le : List Oper} {N : (Nat → Value) → World → Prop} {fr : Nat → Value} {w : World} (K : World → Prop) (hK : Gs K) (hw : K w) (plan : List (Nat × Bool)) (k : Nat) (hll : le.length = l.length) (hp : Bq l le plan k = true)
  (h : DW P n l (l.drop k) N K plan fr w) : Qax P n l le N fr w :=
 ⟨hll, fun rd ds σ hs Q hQ a w1 he ha => dw_run hll hp hQ σ [] K plan fr w w1 a hK (hK _ _ hw he) hs Ya (List.Sublist.refl _) (fun p h => .inl h) Ya Ya h he ha⟩
theorem Lc (w : World) : Gs (Ext w) := fun _ _ h e => h.trans e
theorem Au {P : Program} {n : Nat} {l le : List Oper} {N : (Nat → Value) → World → Prop} {fr : Nat → Value} {w : World} (plan : List (Nat × Bool)) (k : Nat) (hll : le.length = l.length) (hp : Bq l le plan k = true)
  (h : DW P n l (l.drop k) N (Ext w) plan fr w) : Qax P n l le N fr w := Qjq (Ext w) (Lc w) (Ext.refl w) plan k hll hp h
theorem Qjr {P : Program} {n : Nat} {l le : List Oper} {K : (Nat → Value) → World → Prop} {fr : Nat → Value} {w : World} (a b : Nat) (hab : Nat.beq a b = false) (hal : dL a le.length = true)
  (h1 : Qax P n l (Lm a le b) K fr w) (h2 : Qax P n l (Lm b le a) K fr w) : Qax P n l le K fr w := by
 have hne : a ≠ b := fun h => by rw [h, Nat.beq_refl] at hab; cases hab
 refine ⟨by have := h1.1; rwa [Ak] at this, fun rd ds σ hs Q hQ a' w1 he ha => ?_⟩
 rcases Qms (b := b) (bQ hal) σ [] hs Ya with h | h
 ·exact h1.2 rd ds σ (Qg7 hne σ [] hs (.inr (.inr h))) Q hQ a' w1 he ha
 exact h2.2 rd ds σ (Qg7 hne.symm σ [] hs (.inr (.inr h))) Q hQ a' w1 he ha
theorem Jy {P : Program} {n id : Nat} {l : List Oper} {fr : Nat → Value} {w : World} {Q : Exit → (Nat → Value) → World → Prop} (he : Qi3 l = true)
  (h : Qax P n l l (fun fr w => Q .normal fr w) fr w) : CW P n (.region id l.toArray true) Q fr w := by
 intro rd ds a ha
 refine wpIn_region_draw fun t => ?_
 have hs := Qjj (l := l) he (P.follows .mixedOrders) t
 exact h.2 rd ds _ hs _ (fun a' fr' w' hf hq => ⟨fr', hf, hq⟩) a _ (Ext.drew w) ha
theorem Xi {P : Program} {n id : Nat} {l : List Oper} {fr : Nat → Value} {w : World} {Q : Exit → (Nat → Value) → World → Prop} (plan : List (Nat × Bool)) (k : Nat) (hp : planOk l plan k = true)
  (h : DW P n l (l.drop k) (fun fr w => Q .normal fr w) (Ext w) plan fr w) : CW P n (.region id l.toArray true) Q fr w := by
 have hp' := hp
 simp only [planOk, bF] at hp
 refine Jy hp.1.1.1.1 (Au plan k rfl ?_ h)
 simp only [Bq, bF]
 exact ⟨⟨⟨hp.1.1.1.2, hp.1.1.2⟩, hp.1.2⟩, hp.2⟩
def dlGo : Nat → Nat → List (Nat × Bool)
 | _, 0 => []
 | i, k + 1 => (i, false) :: dlGo (i + 1) k
abbrev dl (k : Nat) : List (Nat × Bool) := dlGo 0 k
end Go.Proofs.YtkmiemlpfkfiiaaDoor
