/- The framework, part C: a region that draws its order is walked in one order. Conditions: a closed check of its edges. -/
import Derived.Test.YtkmiemlpfkfiiaaDoorFwB
namespace Go.Proofs.YtkmiemlpfkfiiaaDoor
theorem L6 {α β : Type} {f g : α → β} {xs : Array α} (h : ∀ x ∈ xs, f x = g x) : xs.map f = xs.map g := Array.map_congr_left h
theorem Lj {α β : Type} {f g : α → β} {x : Option α} (h : ∀ y, x = some y → f y = g y) : x.map f = x.map g := by
 cases x with
 | none => rfl
 | some y => simp [h y rfl]
theorem Nr {ρ ρ' : Operand → Value} {c : Call} {ty : TypeId} (h : ∀ x ∈ c.operands, ρ x = ρ' x) : resolve ρ c ty = resolve ρ' c ty := by
 obtain ⟨callee, args, ts⟩ := c
 have ha : args.map ρ = args.map ρ' := L6 fun x hx => h x (by cases callee <;> simp [Call.operands, hx])
 cases callee with
 | builtin b => simp only [resolve, ha]
 | invoke r m => simp only [resolve, ha, h r (by simp [Call.operands])]
 | value f => simp only [resolve, ha, h f (by simp [Call.operands])]
theorem Qgt {ρ ρ' : Operand → Value} {op : Op} {ty : TypeId} (h : ∀ x ∈ op.operands, ρ x = ρ' x) : Ew ρ op ty = Ew ρ' op ty := by
 cases op with
 | build t ps =>
  have : (ps.map fun (i, x) => (i, ρ x)) = ps.map fun (i, x) => (i, ρ' x) := L6 fun x hx => by
   have := h x.2 (by simp only [Op.operands, List.mem_toArray, List.mem_map]; exact ⟨x, by simpa using hx, rfl⟩)
   simp [this]
  simp only [Ew, execOp, this]
 | buildSlice t n ps =>
  have : (ps.map fun (i, x) => (i, ρ x)) = ps.map fun (i, x) => (i, ρ' x) := L6 fun x hx => by
   have := h x.2 (by simp only [Op.operands, List.mem_toArray, List.mem_map]; exact ⟨x, by simpa using hx, rfl⟩)
   simp [this]
  simp only [Ew, execOp, this]
 | call c => simp only [Ew, execOp, Nr (ρ := ρ) (ρ' := ρ') h]
 | go c => simp only [Ew, execOp, Nr (ρ := ρ) (ρ' := ρ') h]
 | defer c => simp only [Ew, execOp, Nr (ρ := ρ) (ρ' := ρ') h]
 | makeFunc fn a b =>
  have h1 : a.map ρ = a.map ρ' := L6 fun x hx => h x (by simp [Op.operands, hx])
  have h2 : b.map ρ = b.map ρ' := L6 fun x hx => h x (by simp [Op.operands, hx])
  simp only [Ew, execOp, h1, h2]
 | makeMap t r =>
  have h1 : r.map ρ = r.map ρ' := Lj fun x hx => h x (by simp [Op.operands, hx])
  simp only [Ew, execOp, h1]
 | slice t x lo hi mx =>
  have h0 := h x (by simp [Op.operands])
  have h1 : lo.map ρ = lo.map ρ' := Lj fun x hx => h x (by simp [Op.operands, hx])
  have h2 : hi.map ρ = hi.map ρ' := Lj fun x hx => h x (by simp [Op.operands, hx])
  have h3 : mx.map ρ = mx.map ρ' := Lj fun x hx => h x (by simp [Op.operands, hx])
  simp only [Ew, execOp, h0, h1, h2, h3]
 | select cs b =>
  have key : ∀ s ∈ cs, ρ s.chan = ρ' s.chan ∧ s.send.map ρ = s.send.map ρ' := fun s hs =>
   ⟨h _ (by simp only [Op.operands, Array.mem_flatMap]; exact ⟨s, hs, by simp⟩), Lj fun x hx => h x (by simp only [Op.operands, Array.mem_flatMap]; exact ⟨s, hs, by simp [hx]⟩)⟩
  simp only [Ew, execOp]
  congr 1
  rw [Array.mapM_eq_mapM_toList, Array.mapM_eq_mapM_toList]
  congr 1
  have : ∀ l : List SelectCase, (∀ s ∈ l, ρ s.chan = ρ' s.chan ∧ s.send.map ρ = s.send.map ρ') →
    l.mapM (fun s => (do pure { chan := ρ s.chan, send := s.send.map ρ, zero := ← zeroValue s.elem : CommCase } : Sem CommCase)) =
    l.mapM (fun s => (do pure { chan := ρ' s.chan, send := s.send.map ρ', zero := ← zeroValue s.elem : CommCase } : Sem CommCase)) := by
   intro l
   induction l with
   | nil => intro _; rfl
   | cons s l ih =>
    intro hl
    obtain ⟨h1, h2⟩ := hl s Xk
    simp only [List.mapM_cons, h1, h2, ih fun s hs => hl s (List.mem_cons_of_mem _ hs)]
  exact this _ fun s hs => key s (by simpa using hs)
 | _ => (first | rfl | simp_all [Ew, execOp, Op.operands])
theorem Qeh : ∀ (l : List Nat) (n : Nat), l.Nodup → (∀ i ∈ l, i < n) → l.length ≤ n := by
 intro l n
 induction n generalizing l with
 | zero => intro _ h; cases l with
  | nil => simp
  | cons x l => exact absurd (h x Xk) (by omega)
 | succ n ih =>
  intro hn h
  have h1 := ih (l.erase n) (hn.erase n) (fun i hi => by
   have := h i (List.mem_of_mem_erase hi)
   have hne : i ≠ n := fun e => by subst e; exact (List.Nodup.not_mem_erase hn) hi
   omega)
  rw [List.length_erase] at h1
  split at h1 <;> omega
theorem Qdi : ∀ (l : List Nat) (n : Nat), (∀ i, i < n → i ∈ l) → n ≤ l.length := by
 intro l n
 induction n generalizing l with
 | zero => intro _; omega
 | succ n ih =>
  intro h
  have hm := h n (by omega)
  have h1 := ih (l.erase n) (fun i hi => (List.mem_erase_of_ne (by omega)).2 (h i (by omega)))
  rw [List.length_erase_of_mem hm] at h1
  have : 0 < l.length := List.length_pos_of_mem hm
  omega
def Dv (m : Region.Mode) (l : List Oper) (i : Nat) (D : Nat → Prop) : Prop := ∀ o, l[i]? = some o → ∀ e ∈ o.after.toList, Region.binds m e = true → D e.on
def Dh (m : Region.Mode) (l : List Oper) : List Nat → List Nat → Prop
 | done, [] => ∀ i, i < l.length → i ∈ done
 | done, i :: σ => i < l.length ∧ i ∉ done ∧ Dv m l i (· ∈ done) ∧ Dh m l (i :: done) σ
def P5 (m : Region.Mode) (l : List Oper) : List Nat → List Nat → Bool
 | done, [] => (List.range l.length).all fun i => done.contains i
 | done, i :: σ => Nat.blt i l.length && ((l[i]?).map fun o => o.after.toList.all fun e => !Region.binds m e || done.contains e.on).getD false && P5 m l (i :: done) σ
theorem Qh0 {m : Region.Mode} {l : List Oper} : ∀ (σ done have_ : List Nat), P5 m l done σ = true → (∀ i ∈ done, i ∈ have_) → (∃ i, i < l.length ∧ i ∉ have_) →
  ∃ i, i < l.length ∧ i ∉ have_ ∧ ∃ o, l[i]? = some o ∧ ∀ e ∈ o.after.toList, Region.binds m e = true → e.on ∈ have_ := by
 intro σ
 induction σ with
 | nil =>
  rintro done have_ h hd ⟨i, hi, hn⟩
  simp only [P5, List.all_eq_true, List.mem_range, List.contains_iff_mem] at h
  exact absurd (hd i (h i hi)) hn
 | cons j σ ih =>
  intro done have_ h hd hex
  simp only [P5, Bool.and_eq_true] at h
  obtain ⟨⟨hj, ho⟩, hr⟩ := h
  by_cases hm : j ∈ have_
  ·exact ih (j :: done) have_ hr (by simpa [hm] using hd) hex
  have hj' : j < l.length := Nat.le_of_ble_eq_true hj
  have hoj : l[j]? = some l[j] := by simp [hj']
  refine ⟨j, hj', hm, l[j], hoj, fun e he hb => ?_⟩
  rw [hoj] at ho
  simp only [Option.map_some, Option.getD_some, List.all_eq_true] at ho
  have := ho e he
  simp only [hb, Bool.not_true, Bool.false_or, List.contains_iff_mem] at this
  exact hd _ this
theorem Qbr {m : Region.Mode} {l : List Oper} {wit : List Nat} (hw : P5 m l [] wit = true) : ∀ (fuel t : Nat) (listed : Array Bool) (acc : List Nat), listed.size = l.length →
  (∀ i, i < l.length → (listed.getD i true = true ↔ i ∈ acc)) → (∀ i ∈ acc, i < l.length) → acc.Nodup → fuel + acc.length = l.length →
  ∃ σ, Region.linearise.go m l.toArray fuel t listed acc = acc.reverse ++ σ ∧ Dh m l acc σ := by
 intro fuel
 induction fuel with
 | zero =>
  intro t listed acc hs hl hlt hnd hf
  refine ⟨[], by simp [Region.linearise.go], fun i hi => ?_⟩
  by_cases hm : i ∈ acc
  ·exact hm
  exfalso
  have hsub : (i :: acc).Nodup := List.nodup_cons.2 ⟨hm, hnd⟩
  have hle : (i :: acc).length ≤ l.length := Qeh (i :: acc) l.length hsub (by simpa [hi] using hlt)
  simp at hle; omega
 | succ fuel ih =>
  intro t listed acc hs hl hlt hnd hf
  simp only [Region.linearise.go]
  generalize hrs : (List.range l.toArray.size).filter (fun i => !listed.getD i true && ((l.toArray[i]?).map (fun o => o.after.all fun e => !Region.binds m e || listed.getD e.on false)).getD false) = rs
  have hex : ∃ i, i < l.length ∧ i ∉ acc := by
   by_cases h : ∀ i, i < l.length → i ∈ acc
   ·exfalso
    have := Qdi acc l.length h
    omega
   obtain ⟨i, hi⟩ := Classical.not_forall.1 h
   exact ⟨i, Classical.not_imp.1 hi⟩
  have hget : ∀ j, j ∈ acc → listed.getD j false = true := by
   intro j hj
   have h1 := hlt j hj
   have := (hl j h1).2 hj
   simp only [Array.getD_eq_getD_getElem?] at this ⊢
   have h2 : listed[j]? = some listed[j] := by simp [hs, h1]
   rw [h2] at this ⊢; simpa using this
  have hget' : ∀ j, listed.getD j false = true → j ∈ acc := by
   intro j hj
   simp only [Array.getD_eq_getD_getElem?] at hj
   rcases Nat.lt_or_ge j l.length with h1 | h1
   ·refine (hl j h1).1 ?_
    have h2 : listed[j]? = some listed[j] := by simp [hs, h1]
    simp only [Array.getD_eq_getD_getElem?]
    rw [h2] at hj ⊢; simpa using hj
   have h2 : listed[j]? = none := by simp [hs, h1]
   rw [h2] at hj; simp at hj
  obtain ⟨i0, hi0, hni0, o0, ho0, he0⟩ := Qh0 wit [] acc hw Xk hex
  have hmem : ∀ i, i ∈ rs → i < l.length ∧ i ∉ acc ∧ Dv m l i (· ∈ acc) := by
   intro i hi
   rw [← hrs] at hi
   simp only [List.mem_filter, List.mem_range, List.size_toArray, Bool.and_eq_true, Bool.not_eq_true', List.getElem?_toArray] at hi
   obtain ⟨h1, h2, h3⟩ := hi
   refine ⟨h1, fun hm => ?_, fun o ho e he hb => ?_⟩
   ·rw [(hl i h1).2 hm] at h2; cases h2
   rw [ho] at h3
   simp only [Option.map_some, Option.getD_some, ← Array.all_toList, List.all_eq_true] at h3
   have := h3 e he
   simp only [hb, Bool.not_true, Bool.false_or] at this
   exact hget' _ this
  have hi0rs : i0 ∈ rs := by
   rw [← hrs]
   simp only [List.mem_filter, List.mem_range, List.size_toArray, Bool.and_eq_true, Bool.not_eq_true', List.getElem?_toArray]
   refine ⟨hi0, ?_, ?_⟩
   ·cases h : listed.getD i0 true with
    | false => rfl
    | true => exact absurd ((hl i0 hi0).1 h) hni0
   rw [ho0]
   simp only [Option.map_some, Option.getD_some, ← Array.all_toList, List.all_eq_true]
   intro e he
   cases hb : Region.binds m e with
   | false => rfl
   | true => simpa using hget _ (he0 e he hb)
  have hpos : 0 < rs.length := List.length_pos_of_mem hi0rs
  have hlt2 : t % rs.length < rs.length := Nat.mod_lt _ hpos
  have hsome : rs[t % rs.length]? = some rs[t % rs.length] := by simp [hlt2]
  rw [hsome]
  simp only
  generalize hi : rs[t % rs.length] = i
  have himem : i ∈ rs := by rw [← hi]; exact List.getElem_mem _
  obtain ⟨h1, h2, h3⟩ := hmem i himem
  obtain ⟨σ, hσ, hsch⟩ := ih (t / rs.length) (listed.setIfInBounds i true) (i :: acc) (by simpa using hs) (fun j hj => by
    simp only [Array.getD_eq_getD_getElem?, Array.getElem?_setIfInBounds, List.mem_cons]
    by_cases hij : i = j
    ·subst hij; simp [hs, h1]
    have := hl j hj
    simp only [Array.getD_eq_getD_getElem?] at this
    rw [if_neg hij, this]
    exact ⟨Or.inr, fun h => h.resolve_left (fun e => hij e.symm)⟩) (by simpa [h1] using hlt) (List.nodup_cons.2 ⟨h2, hnd⟩) (by simp; omega)
  exact ⟨i :: σ, by rw [hσ]; simp, h1, h2, h3, hsch⟩
theorem Ap {m : Region.Mode} {l : List Oper} {wit : List Nat} (hw : P5 m l [] wit = true) (t : Nat) : Dh m l [] (Region.linearise m l.toArray t) := by
 obtain ⟨σ, h1, h2⟩ := Qbr hw l.length t (Array.replicate l.length false) [] Xk
  (fun i hi => by simp [Array.getD_eq_getD_getElem?, hi]) Xk Xk Xk
 have : Region.linearise m l.toArray t = σ := by simpa [Region.linearise] using h1
 rw [this]; exact h2
theorem Dh.toAny {m : Region.Mode} {l : List Oper} : ∀ {σ done : List Nat}, Dh m l done σ → Dh .any l done σ
 | [], _, h => h
 | _ :: _, _, ⟨h1, h2, h3, h4⟩ => ⟨h1, h2, fun o ho e he hb => h3 o ho e he (by
   cases m <;> simp only [Region.binds] at hb ⊢ <;> split at hb <;> simp_all), h4.toAny⟩
def Qev (l : List Oper) : Bool :=
 P5 .any l [] (List.range l.length) && (!Region.departs l.toArray || (P5 .text l [] (List.range l.length) && P5 .gc l [] (Region.linearise .gc l.toArray 0)))
theorem Qe9 {l : List Oper} (h : Qev l = true) (mixed : Bool) (t : Nat) : Dh .any l [] (Region.schedule mixed l.toArray t) := by
 simp only [Qev, Bool.and_eq_true, Bool.or_eq_true, Bool.not_eq_true'] at h
 obtain ⟨h1, h2⟩ := h
 unfold Region.schedule
 split
 ·exact Ap h1 t
 rename_i hm
 rcases h2 with h2 | h2
 ·simp [h2] at hm
 split
 ·exact (Ap h2.1 _).toAny
 exact (Ap h2.2 _).toAny
def Qcz (acc : List Nat) (o : Oper) : Nat := o.after.toList.foldl (fun s e => if Region.binds .any e then s ||| 2 ^ e.on ||| acc.getD e.on 0 else s) 0
def Ql5 (acc : List Nat) : List Oper → List Nat
 | [] => acc
 | o :: r => Ql5 (acc ++ [Qcz acc o]) r
def Pq (l : List Oper) : List Nat := Ql5 [] l
theorem Qk0 {acc : List Nat} {o : Oper} {D : Nat → Prop} (he : ∀ e ∈ o.after.toList, Region.binds .any e = true → D e.on ∧ ∀ j, (acc.getD e.on 0).testBit j = true → D j) :
  ∀ j, (Qcz acc o).testBit j = true → D j := by
 unfold Qcz
 have key : ∀ (es : List Edge) (s : Nat), (∀ e ∈ es, Region.binds .any e = true → D e.on ∧ ∀ j, (acc.getD e.on 0).testBit j = true → D j) → (∀ j, s.testBit j = true → D j) →
   ∀ j, (es.foldl (fun s e => if Region.binds .any e then s ||| 2 ^ e.on ||| acc.getD e.on 0 else s) s).testBit j = true → D j := by
  intro es
  induction es with
  | nil => intro s _ hs j hj; exact hs j hj
  | cons e es ih =>
   intro s hes hs j hj
   simp only [List.foldl_cons] at hj
   refine ih _ (fun e he => hes e (List.mem_cons_of_mem _ he)) ?_ j hj
   intro k hk
   split at hk
   ·rename_i hb
    obtain ⟨h1, h2⟩ := hes e Xk hb
    simp only [Nat.testBit_or, Bool.or_eq_true, Nat.testBit_two_pow, decide_eq_true_eq] at hk
    rcases hk with (hk | hk) | hk
    ·exact hs k hk
    ·subst hk; exact h1
    exact h2 k hk
   exact hs k hk
 exact key _ 0 he Xk
theorem Qge {l : List Oper} {D : Nat → Prop} (hc : ∀ i, D i → Dv .any l i D) : ∀ i, i < l.length → Dv .any l i D → ∀ j, ((Pq l).getD i 0).testBit j = true → D j := by
 have key : ∀ (r : List Oper) (acc : List Nat), acc.length + r.length = l.length → (∀ k, r[k]? = l[acc.length + k]?) →
   (∀ i, i < acc.length → Dv .any l i D → ∀ j, (acc.getD i 0).testBit j = true → D j) →
   ∀ i, i < l.length → Dv .any l i D → ∀ j, ((Ql5 acc r).getD i 0).testBit j = true → D j := by
  intro r
  induction r with
  | nil => intro acc hl _ h i hi; exact h i (by simp at hl; omega)
  | cons o r ih =>
   intro acc hl hr h
   refine ih (acc ++ [Qcz acc o]) (by simp at hl ⊢; omega) (fun k => ?_) ?_
   ·have := hr (k + 1)
    simp only [List.getElem?_cons_succ] at this
    rw [this]; congr 1; simp; omega
   intro i hi hed j hj
   simp only [List.length_append, List.length_cons, List.length_nil] at hi
   by_cases hlt : i < acc.length
   ·refine h i hlt hed j ?_
    simpa [List.getD_eq_getElem?_getD, List.getElem?_append_left hlt] using hj
   obtain rfl : i = acc.length := by omega
   have ho : l[acc.length]? = some o := by have := hr 0; simpa using this.symm
   have hj' : (Qcz acc o).testBit j = true := by simpa [List.getD_eq_getElem?_getD] using hj
   refine Qk0 (fun e he hb => ?_) j hj'
   have hD := hed o ho e he hb
   refine ⟨hD, fun j hj => ?_⟩
   rcases Nat.lt_or_ge e.on acc.length with h1 | h1
   ·exact h e.on h1 (hc _ hD) j hj
   rw [List.getD_eq_getElem?_getD, List.getElem?_eq_none h1] at hj
   simp at hj
 exact key l [] Xk Xk Xk
def Qh6 (l : List Oper) (j : Nat) : Option Tmp := (l[j]?).bind (·.dst)
def V9 (l : List Oper) (o : Oper) : List Nat :=
 (o.op.operands.toList.filterMap fun | .tmp t => some t | _ => none) ++ (match o.guard with | some (j, _) => (Qh6 l j).toList | none => [])
def Qja (l : List Oper) (p q : Nat) : Bool :=
 match l[p]?, l[q]? with
 | some a, some b => (a.dst.toList.all fun d => !(V9 l b).contains d && !b.dst.toList.contains d) && (b.dst.toList.all fun d => !(V9 l a).contains d)
 | _, _ => false
def Dl (l : List Oper) (bs : List Nat) (p q : Nat × Bool) : Bool :=
 !(Nat.beq p.1 q.1) && !((bs.getD p.1 0).testBit q.1) && ((bs.getD q.1 0).testBit p.1 || (!p.2 && Qja l p.1 q.1))
def Qcf (l : List Oper) (bs : List Nat) : List (Nat × Bool) → Bool
 | [] => true
 | p :: r => r.all (Dl l bs p) && Qcf l bs r
def planOk (l : List Oper) (plan : List (Nat × Bool)) (k : Nat) : Bool :=
 Qev l && Qcf l (Pq l) plan && (List.range k).all (fun i => plan.any fun p => Nat.beq p.1 i) && plan.all (fun p => Nat.blt p.1 k) &&
 (List.range l.length).all (fun j => Nat.blt j k || (List.range j).all fun i => ((Pq l).getD j 0).testBit i)
def gval : Option Bool → Value
 | some b => .bool b
 | none => undef
def Vf (l : List Oper) (fr : Nat → Value) (o : Oper) (yes no : Prop) : Prop :=
 match o.guard with
 | none => yes
 | some (j, want) => ∃ s b, Qh6 l j = some s ∧ fr s = gval b ∧ (b = some want → yes) ∧ (b ≠ some want → no)
def Kz (K : World → Prop) : Prop := ∀ w w', K w → Ext w w' → K w'
def DW (P : Program) (n : Nat) (l : List Oper) (tail : List Oper) (N : (Nat → Value) → World → Prop) : (World → Prop) → List (Nat × Bool) → (Nat → Value) → World → Prop
 | _, [], fr, w0 => ∀ w, Ext w0 w → RW P n l.toArray tail N fr w
 | K, (i, false) :: r, fr, w0 => ∃ o, l[i]? = some o ∧ (∀ d, o.dst = some d → d < n) ∧
   Vf l fr o (∃ v, (∀ w, K w → J8 P fr w o.op o.type fun v' w' => v' = v ∧ Ext w w') ∧ DW P n l tail N K r (Dy fr o.dst v) w0) (DW P n l tail N K r (Dy fr o.dst undef) w0)
 | K, (i, true) :: r, fr, w0 => ∃ o, l[i]? = some o ∧ (∀ d, o.dst = some d → d < n) ∧
   ∀ w, Ext w0 w → Vf l fr o (J8 P fr w o.op o.type fun v w' => ∃ K', K' w' ∧ Kz K' ∧ (∀ u, K' u → K u) ∧ DW P n l tail N K' r (Dy fr o.dst v) w')
    (∃ K', K' w ∧ Kz K' ∧ (∀ u, K' u → K u) ∧ DW P n l tail N K' r (Dy fr o.dst undef) w)
def Qhq (P : Program) (l : List Oper) (fr : Nat → Value) (w : World) (i : Nat) (n : Nat) (F : (Nat → Value) → World → Prop) : Prop :=
 ∃ o, l[i]? = some o ∧ (∀ d, o.dst = some d → d < n) ∧ Vf l fr o (J8 P fr w o.op o.type fun v w' => F (Dy fr o.dst v) w') (F (Dy fr o.dst undef) w)
theorem Vf.mono {l : List Oper} {fr : Nat → Value} {o : Oper} {yes no yes' no' : Prop} (h : Vf l fr o yes no) (hy : yes → yes') (hn : no → no') : Vf l fr o yes' no' := by
 unfold Vf at h ⊢
 split at h
 ·exact hy h
 obtain ⟨s, b, h1, h2, h3, h4⟩ := h
 exact ⟨s, b, h1, h2, fun e => hy (h3 e), fun e => hn (h4 e)⟩
theorem Vf.frame {l : List Oper} {fr fr' : Nat → Value} {o : Oper} {yes no : Prop} (h : Vf l fr o yes no) (he : ∀ s ∈ V9 l o, fr s = fr' s) : Vf l fr' o yes no := by
 unfold Vf at h ⊢
 split at h
 ·exact h
 rename_i j want hg
 obtain ⟨s, b, h1, h2, h3⟩ := h
 exact ⟨s, b, h1, by rw [← he s (by simp [V9, hg, h1])]; exact h2, h3⟩
theorem Qd4 {l : List Oper} {fr fr' : Nat → Value} {o : Oper} (he : ∀ s ∈ V9 l o, fr s = fr' s) : ∀ x ∈ o.op.operands, Qg fr x = Qg fr' x := by
 intro x hx
 cases x with
 | tmp t => exact he t (by simp only [V9, List.mem_append, List.mem_filterMap]; exact .inl ⟨.tmp t, by simpa using hx, rfl⟩)
 | _ => rfl
theorem Yt.frame {P : Program} {l : List Oper} {fr fr' : Nat → Value} {w : World} {o : Oper} {v : Value} (h : Yt P fr w o.op o.type v) (he : ∀ s ∈ V9 l o, fr s = fr' s) : Yt P fr' w o.op o.type v := by
 unfold Yt at h ⊢; rw [← Qgt (Qd4 he)]; exact h
theorem J8.frame {P : Program} {l : List Oper} {fr fr' : Nat → Value} {w : World} {o : Oper} {Φ : Value → World → Prop} (h : J8 P fr w o.op o.type Φ) (he : ∀ s ∈ V9 l o, fr s = fr' s) : J8 P fr' w o.op o.type Φ := by
 unfold J8 at h ⊢; rw [← Qgt (Qd4 he)]; exact h
theorem Qap {fr : Nat → Value} {d d' : Option Nat} {v v' : Value} (h : ∀ x, d = some x → d' ≠ some x) : Dy (Dy fr d v) d' v' = Dy (Dy fr d' v') d v := by
 cases d with
 | none => rfl
 | some d =>
  cases d' with
  | none => rfl
  | some d' =>
   have hne : d ≠ d' := fun e => h d rfl (by rw [e])
   funext t
   simp only [Dy]
   by_cases h1 : t = d
   ·subst h1; rw [H9 _ _ hne, H8, H8]
   by_cases h2 : t = d'
   ·subst h2; rw [H8, H9 _ _ h1, H8]
   rw [H9 _ _ h2, H9 _ _ h1, H9 _ _ h1, H9 _ _ h2]
theorem Py {fr : Nat → Value} {d : Option Nat} {v : Value} {ns : List Nat} (h : ∀ x, d = some x → x ∉ ns) : ∀ s ∈ ns, Dy fr d v s = fr s := by
 intro s hs
 cases d with
 | none => rfl
 | some d => exact H9 _ _ (fun e => h d rfl (e ▸ hs))
theorem DW.ext {P : Program} {n : Nat} {l tail : List Oper} {N : (Nat → Value) → World → Prop} {K : World → Prop} : ∀ {r : List (Nat × Bool)} {fr : Nat → Value} {w0 w : World}, DW P n l tail N K r fr w0 → Ext w0 w → DW P n l tail N K r fr w
 | [], _, _, _, h, e => fun w' e' => h w' (e.trans e')
 | (_, false) :: _, _, _, _, ⟨o, ho, hd, h⟩, e => ⟨o, ho, hd, h.mono (fun ⟨v, hv, hk⟩ => ⟨v, hv, hk.ext e⟩) (fun hk => hk.ext e)⟩
 | (_, true) :: _, _, _, _, ⟨o, ho, hd, h⟩, e => ⟨o, ho, hd, fun w' e' => h w' (e.trans e')⟩
theorem Hw {l : List Oper} {p q : Nat} {a b : Oper} (h : Qja l p q = true) (ha : l[p]? = some a) (hb : l[q]? = some b) :
  (∀ x, a.dst = some x → x ∉ V9 l b) ∧ (∀ x, b.dst = some x → x ∉ V9 l a) ∧ (∀ x, a.dst = some x → b.dst ≠ some x) := by
 simp only [Qja, ha, hb, Bool.and_eq_true, List.all_eq_true, Option.mem_toList, Bool.not_eq_true', List.contains_eq_mem, decide_eq_false_iff_not] at h
 exact ⟨fun x hx => (h.1 x hx).1, fun x hx => h.2 x hx, fun x hx => (h.1 x hx).2⟩
theorem DW.take {P : Program} {n : Nat} {l tail : List Oper} {N : (Nat → Value) → World → Prop} {K : World → Prop} (hK : Kz K) {bs : List Nat} {i : Nat} {e : Bool} {r2 : List (Nat × Bool)} :
  ∀ (r1 : List (Nat × Bool)) (fr : Nat → Value) (w0 w : World), DW P n l tail N K (r1 ++ (i, e) :: r2) fr w0 → Ext w0 w → K w → (∀ p ∈ r1, Dl l bs p (i, e) = true ∧ (bs.getD i 0).testBit p.1 = false) →
   Qhq P l fr w i n fun fr' w' => ∃ K', K' w' ∧ Kz K' ∧ (∀ u, K' u → K u) ∧ DW P n l tail N K' (r1 ++ r2) fr' w' := by
 intro r1
 induction r1 with
 | nil =>
  intro fr w0 w h he hw _
  cases e with
  | false =>
   obtain ⟨o, ho, hd, h⟩ := h
   exact ⟨o, ho, hd, h.mono (fun ⟨v, hv, hk⟩ => (hv w hw).mono (by rintro _ _ ⟨rfl, e⟩; exact ⟨K, hK _ _ hw e, hK, fun _ h => h, hk.ext (he.trans e)⟩)) (fun hk => ⟨K, hw, hK, fun _ h => h, hk.ext he⟩)⟩
  | true =>
   obtain ⟨o, ho, hd, h⟩ := h
   exact ⟨o, ho, hd, h w he⟩
 | cons p r1 ih =>
  intro fr w0 w h he hw hp
  obtain ⟨j, k⟩ := p
  obtain ⟨hpo, hnb⟩ := hp (j, k) Xk
  simp only [Dl, Bool.and_eq_true, Bool.or_eq_true, Bool.not_eq_true'] at hpo
  rw [hnb] at hpo
  obtain ⟨_, hor⟩ := hpo
  obtain ⟨hk, hap⟩ := hor.resolve_left Xk
  subst hk
  obtain ⟨a, ha, hda, hg⟩ := h
  have both : ∀ u, DW P n l tail N K (r1 ++ (i, e) :: r2) (Dy fr a.dst u) w0 →
    Qhq P l fr w i n fun fr' w' => ∃ K', (K' w' ∧ Kz K' ∧ (∀ u, K' u → K u)) ∧ ∃ b, l[i]? = some b ∧ (∃ v', fr' = Dy fr b.dst v') ∧ DW P n l tail N K' (r1 ++ r2) (Dy fr' a.dst u) w' := by
   intro u hu
   obtain ⟨b, hb, hdb, hs⟩ := ih _ _ _ hu he hw (fun p hp' => hp p (List.mem_cons_of_mem _ hp'))
   obtain ⟨h1, h2, h3⟩ := Hw hap ha hb
   have hag : ∀ s ∈ V9 l b, Dy fr a.dst u s = fr s := Py h1
   refine ⟨b, hb, hdb, (hs.frame hag).mono (fun ho => (ho.frame hag).mono ?_) ?_⟩
   ·rintro v w' ⟨K', e1, e2, e3, hk⟩
    refine ⟨K', ⟨e1, e2, e3⟩, b, hb, ⟨v, rfl⟩, ?_⟩
    rw [← Qap h3]; exact hk
   rintro ⟨K', e1, e2, e3, hk⟩
   refine ⟨K', ⟨e1, e2, e3⟩, b, hb, ⟨_, rfl⟩, ?_⟩
   rw [← Qap h3]; exact hk
  have fin : ∀ b, l[i]? = some b → ∀ s ∈ V9 l a, ∀ v', Dy fr b.dst v' s = fr s := by
   intro b hb s hs v'
   exact Py (Hw hap ha hb).2.1 s hs
  unfold Vf at hg
  cases hgu : a.guard with
  | none =>
   rw [hgu] at hg
   obtain ⟨u, hev, hk⟩ := hg
   obtain ⟨b, hb, hdb, hs⟩ := both u hk
   refine ⟨b, hb, hdb, hs.mono (fun ho => ho.mono ?_) ?_⟩
   all_goals
    intros
    rename_i hh
    obtain ⟨K', ⟨e1, e2, e3⟩, b', hb', ⟨v', hv'⟩, hk'⟩ := hh
    refine ⟨K', e1, e2, e3, a, ha, hda, ?_⟩
    simp only [Vf, hgu]
    refine ⟨u, fun w2 hw2 => (hev w2 (e3 w2 hw2)).frame (l := l) fun s hs => ?_, hk'⟩
    rw [hv']; exact (fin b' hb' s hs v').symm
  | some g =>
   obtain ⟨jj, want⟩ := g
   rw [hgu] at hg
   obtain ⟨s, bb, hs1, hs2, hyes, hno⟩ := hg
   have hmem : s ∈ V9 l a := by simp [V9, hgu, hs1]
   by_cases hbw : bb = some want
   ·obtain ⟨u, hev, hk⟩ := hyes hbw
    obtain ⟨b, hb, hdb, hs⟩ := both u hk
    refine ⟨b, hb, hdb, hs.mono (fun ho => ho.mono ?_) ?_⟩
    all_goals
     intros
     rename_i hh
     obtain ⟨K', ⟨e1, e2, e3⟩, b', hb', ⟨v', hv'⟩, hk'⟩ := hh
     refine ⟨K', e1, e2, e3, a, ha, hda, ?_⟩
     simp only [Vf, hgu]
     refine ⟨s, bb, hs1, by rw [hv', fin b' hb' s hmem v']; exact hs2, fun _ => ⟨u, fun w2 hw2 => (hev w2 (e3 w2 hw2)).frame (l := l) fun s hs => ?_, hk'⟩, fun hne => absurd hbw hne⟩
     rw [hv']; exact (fin b' hb' s hs v').symm
   have hk := hno hbw
   obtain ⟨b, hb, hdb, hs⟩ := both _ hk
   refine ⟨b, hb, hdb, hs.mono (fun ho => ho.mono ?_) ?_⟩
   all_goals
    intros
    rename_i hh
    obtain ⟨K', ⟨e1, e2, e3⟩, b', hb', ⟨v', hv'⟩, hk'⟩ := hh
    refine ⟨K', e1, e2, e3, a, ha, hda, ?_⟩
    simp only [Vf, hgu]
    exact ⟨s, bb, hs1, by rw [hv', fin b' hb' s hmem v']; exact hs2, fun heq => absurd heq hbw, fun _ => hk'⟩
theorem Qhq.wpOps {P : Program} {l : List Oper} {fr : Nat → Value} {w : World} {i n : Nat} {F : (Nat → Value) → World → Prop} (h : Qhq P l fr w i n F) {rd : Option Nat} {ds : List Deferred} {a : Act} (ha : Frm ds a n fr) {Q : Exit → Act → World → Prop} {σ : List Nat}
  (k : ∀ a' fr' w', Frm ds a' n fr' → F fr' w' → wpOpsIn (FR rd) 0 P l.toArray Q σ a' w') : wpOpsIn (FR rd) 0 P l.toArray Q (i :: σ) a w := by
 obtain ⟨⟨d, op, ty, pos, aft, g⟩, ho, hd, hg⟩ := h
 have ho' : l.toArray[i]? = some ⟨d, op, ty, pos, aft, g⟩ := by simpa using ho
 simp only [Go.wpOpsIn, ho']
 cases g with
 | none =>
  rw [if_pos (by simp [Region.wanted])]
  exact (J8.wp hg ha fun v w' hp => k _ _ _ (ha.put hd v) hp)
 | some g =>
  obtain ⟨j, want⟩ := g
  obtain ⟨s, b, h1, h2, hy, hn⟩ := hg
  cases b with
  | some b =>
   have hyl : yielded l.toArray a.tmps j = some b := Qbm ha (by simpa [Qh6] using h1) h2
   by_cases hb : b = want
   ·rw [if_pos (by simp [Region.wanted, hyl, hb])]
    exact (J8.wp (hy (congrArg some hb)) ha fun v w' hp => k _ _ _ (ha.put hd v) hp)
   rw [if_neg (by simp [Region.wanted, hyl, hb])]
   exact ⟨fun _ _ => trivial, k _ _ _ (ha.put hd _) (hn (fun e => hb (by injection e)))⟩
  | none =>
   have hyl : yielded l.toArray a.tmps j = none := by
    have hg := ha.get s
    have h2' : fr s = undef := h2
    rw [h2', Array.getD_eq_getD_getElem?] at hg
    unfold yielded
    have h1' : (l.toArray[j]?).bind (·.dst) = some s := by simpa [Qh6] using h1
    rw [h1']
    simp only [Option.bind_some]
    cases hx : a.tmps[s]? with
    | none => rfl
    | some v => rw [hx] at hg; simp at hg; subst hg; rfl
   rw [if_neg (by simp [Region.wanted, hyl])]
   exact ⟨fun _ _ => trivial, k _ _ _ (ha.put hd _) (hn (fun e => by cases e))⟩
theorem Cb {l : List Oper} {bs : List Nat} : ∀ {r : List (Nat × Bool)}, Qcf l bs r = true → r.Pairwise (fun p q => Dl l bs p q = true)
 | [], _ => .nil
 | p :: r, h => by
  simp only [Qcf, Bool.and_eq_true, List.all_eq_true] at h
  exact .cons h.1 (Cb h.2)
theorem Qfa {l : List Oper} {k : Nat} (ht : ∀ j, k ≤ j → j < l.length → ∀ i, i < j → ((Pq l).getD j 0).testBit i = true) :
  ∀ (σ done : List Nat) (m : Nat), k ≤ m → m ≤ l.length → (∀ i, i ∈ done ↔ i < m) → (∀ i ∈ done, Dv .any l i (· ∈ done)) → Dh .any l done σ → σ = List.range' m (l.length - m) := by
 intro σ
 induction σ with
 | nil =>
  intro done m _ hml hd _ h
  have : l.length ≤ m := by
   rcases Nat.lt_or_ge m l.length with hlt | hge
   ·exact absurd ((hd m).1 (h m hlt)) (by omega)
   exact hge
  have : l.length - m = 0 := by omega
  rw [this]; rfl
 | cons i σ ih =>
  intro done m hkm hml hd hc ⟨h1, h2, h3, h4⟩
  have him : m ≤ i := by
   rcases Nat.lt_or_ge i m with hlt | hge
   ·exact absurd ((hd i).2 hlt) h2
   exact hge
  have hall : ∀ j, j < i → j ∈ done := fun j hj => Qge (D := (· ∈ done)) hc i h1 h3 j (ht i (by omega) h1 j hj)
  obtain rfl : i = m := by
   rcases Nat.lt_or_ge m i with hlt | hge
   ·exact absurd ((hd m).1 (hall m hlt)) (by omega)
   omega
  have := ih (i :: done) (i + 1) (by omega) (by omega) (fun j => by rw [List.mem_cons, hd]; omega) (by
   intro j hj
   rcases List.mem_cons.1 hj with rfl | hj
   ·exact fun o ho e he hb => List.mem_cons_of_mem _ (h3 o ho e he hb)
   exact fun o ho e he hb => List.mem_cons_of_mem _ (hc j hj o ho e he hb)) h4
  rw [this, show l.length - i = (l.length - (i + 1)) + 1 from by omega, List.range'_succ]
def U0 (l le : List Oper) (plan : List (Nat × Bool)) (k : Nat) : Bool :=
 Qcf l (Pq le) plan && (List.range k).all (fun i => plan.any fun p => Nat.beq p.1 i) && plan.all (fun p => Nat.blt p.1 k) &&
 (List.range l.length).all (fun j => Nat.blt j k || (List.range j).all fun i => ((Pq le).getD j 0).testBit i)
theorem dw_run {P : Program} {n : Nat} {l le : List Oper} {N : (Nat → Value) → World → Prop} {plan : List (Nat × Bool)} {k : Nat} (hll : le.length = l.length) (hp : U0 l le plan k = true) {rd : Option Nat} {ds : List Deferred} {Q : Exit → Act → World → Prop}
  (hQ : ∀ a' fr' w', Frm ds a' n fr' → N fr' w' → Q .normal a' w') :
  ∀ (σ done : List Nat) (K : World → Prop) (r : List (Nat × Bool)) (fr : Nat → Value) (w0 w : World) (a : Act), Kz K → K w → Dh .any le done σ → (∀ i ∈ done, Dv .any le i (· ∈ done)) → r.Sublist plan →
   (∀ p ∈ plan, p ∈ r ∨ p.1 ∈ done) → (∀ p ∈ r, p.1 ∉ done) → (∀ i ∈ done, i < k) → DW P n l (l.drop k) N K r fr w0 → Ext w0 w → Frm ds a n fr → wpOpsIn (FR rd) 0 P l.toArray Q σ a w := by
 simp only [U0, Bool.and_eq_true, List.all_eq_true, List.mem_range, List.any_eq_true] at hp
 obtain ⟨⟨⟨hpairs, hcov⟩, hlt⟩, htail⟩ := hp
 have htail' : ∀ j, k ≤ j → j < l.length → ∀ i, i < j → ((Pq le).getD j 0).testBit i = true := by
  intro j hj hjl i hi
  have := htail j hjl
  simp only [Bool.or_eq_true, List.all_eq_true, List.mem_range] at this
  rcases this with h | h
  ·have : j < k := Nat.le_of_ble_eq_true h
   omega
  exact h i hi
 have hpw := Cb hpairs
 intro σ
 induction σ with
 | nil =>
  intro done K r fr w0 w a hK hw hs hc hsub hcv hnd hdk hdw he ha
  cases r with
  | cons p r =>
   exfalso
   obtain ⟨i, e⟩ := p
   have : ∃ o, l[i]? = some o := by cases e <;> exact ⟨hdw.choose, hdw.choose_spec.1⟩
   obtain ⟨o, ho⟩ := this
   have hi : i < l.length := by
    rcases Nat.lt_or_ge i l.length with h | h
    ·exact h
    rw [List.getElem?_eq_none h] at ho; cases ho
   exact hnd (i, e) Xk (hs i (by omega))
  | nil =>
   have hkl : l.length ≤ k := by
    rcases Nat.lt_or_ge k l.length with h | h
    ·exact absurd (hdk k (hs k (by omega))) (by omega)
    exact h
   have := hdw w he rd ds a ha Q hQ
   rw [List.drop_eq_nil_of_le hkl] at this
   exact this
 | cons i σ ih =>
  intro done K r fr w0 w a hK hw hs hc hsub hcv hnd hdk hdw he ha
  cases r with
  | nil =>
   have hdone : ∀ i, i ∈ done ↔ i < k := by
    intro i
    refine ⟨hdk i, fun h => ?_⟩
    obtain ⟨p, hp1, hp2⟩ := hcov i h
    have := (hcv p hp1).resolve_left Xk
    rwa [Nat.eq_of_beq_eq_true hp2] at this
   have hkl : k ≤ l.length := by
    rcases Nat.lt_or_ge l.length k with h | h
    ·exfalso
     obtain ⟨h1, h2, _, _⟩ := hs
     exact h2 ((hdone i).2 (by omega))
    exact h
   have hσ := Qfa (fun j hj hjl => htail' j hj (by omega)) _ _ k (Nat.le_refl _) (by omega) hdone hc hs
   rw [hσ, hll]
   have hlen : l.length - k = (l.drop k).length := by simp
   rw [hlen, wpOpsIn_eq_wpListIn (l.drop k) k (by intro j; simp)]
   exact hdw w he rd ds a ha Q hQ
  | cons p0 r0 =>
   obtain ⟨h1, h2, h3, h4⟩ := hs
   have hbef : ∀ j, ((Pq le).getD i 0).testBit j = true → j ∈ done := Qge (D := (· ∈ done)) hc i h1 h3
   have hik : i < k := by
    rcases Nat.lt_or_ge i k with h | h
    ·exact h
    exfalso
    have hp0 : p0 ∈ plan := hsub.subset Xk
    have hb : p0.1 < k := Nat.le_of_ble_eq_true (hlt p0 hp0)
    exact hnd p0 Xk (hbef _ (htail' i h (by omega) p0.1 (by omega)))
   obtain ⟨q, hq1, hq2⟩ := hcov i hik
   obtain ⟨qi, e⟩ := q
   have hqi : qi = i := Nat.eq_of_beq_eq_true hq2
   subst hqi
   have hqr : (qi, e) ∈ p0 :: r0 := (hcv _ hq1).resolve_right h2
   obtain ⟨r1, r2, hr⟩ := List.append_of_mem hqr
   rw [hr] at hdw hsub hnd hcv
   have hpwr := hpw.sublist hsub
   rw [List.pairwise_append] at hpwr
   obtain ⟨_, hpw2, hpw12⟩ := hpwr
   rw [List.pairwise_cons] at hpw2
   have hstep := DW.take hK (bs := Pq le) r1 fr w0 w hdw he hw (fun p hp => ⟨hpw12 p hp _ Xk, by
    cases hb : ((Pq le).getD qi 0).testBit p.1 with
    | false => rfl
    | true => exact absurd (hbef _ hb) (hnd p (by simp [hp]))⟩)
   refine hstep.wpOps ha fun a' fr' w' hf ⟨K', e1, e2, _, hdw'⟩ => ?_
   have hne : ∀ p, Dl l (Pq le) p (qi, e) = true ∨ Dl l (Pq le) (qi, e) p = true → p.1 ≠ qi := by
    intro p h heq
    rcases h with h | h <;>
     ·simp only [Dl, heq, Nat.beq_refl, Bool.not_true, Bool.false_and] at h; cases h
   refine ih (qi :: done) K' (r1 ++ r2) fr' w' w' a' e2 e1 h4 ?_ ?_ ?_ ?_ ?_ hdw' (Ext.refl _) hf
   ·intro j hj
    rcases List.mem_cons.1 hj with rfl | hj
    ·exact fun o ho e he hb => List.mem_cons_of_mem _ (h3 o ho e he hb)
    exact fun o ho e he hb => List.mem_cons_of_mem _ (hc j hj o ho e he hb)
   ·exact (List.Sublist.append (List.Sublist.refl r1) (List.sublist_cons_self _ _)).trans hsub
   ·intro p hp
    rcases hcv p hp with h | h
    ·rcases List.mem_append.1 h with h | h
     ·exact .inl (by simp [h])
     rcases List.mem_cons.1 h with rfl | h
     ·exact .inr Xk
     exact .inl (by simp [h])
    exact .inr (by simp [h])
   ·intro p hp
    rcases List.mem_append.1 hp with h | h
    ·rw [List.mem_cons]
     rintro (h' | h')
     ·exact hne p (.inl (hpw12 p h _ Xk)) h'
     exact hnd p (by simp [h]) h'
    rw [List.mem_cons]
    rintro (h' | h')
    ·exact hne p (.inr (hpw2.1 p h)) h'
    exact hnd p (by simp [h]) h'
   intro j hj
   rcases List.mem_cons.1 hj with rfl | hj
   ·exact hik
   exact hdk j hj
def En (a : Nat) : List Oper → Nat → List Oper
 | [], _ => []
 | o :: r, 0 => { o with after := o.after.push ⟨a, .chain⟩ } :: r
 | o :: r, i + 1 => o :: En a r i
theorem Fa (a : Nat) : ∀ (l : List Oper) (i : Nat), (En a l i).length = l.length
 | [], _ => rfl
 | _ :: _, 0 => rfl
 | _ :: r, i + 1 => by simp [En, Fa a r i]
theorem Qgf (a : Nat) : ∀ (l : List Oper) (i j : Nat), j ≠ i → (En a l i)[j]? = l[j]?
 | [], _, _, _ => rfl
 | _ :: _, 0, 0, h => absurd rfl h
 | _ :: _, 0, j + 1, _ => rfl
 | _ :: _, _ + 1, 0, _ => rfl
 | _ :: r, i + 1, j + 1, h => by simpa [En] using Qgf a r i j (by omega)
theorem Qgg (a : Nat) : ∀ (l : List Oper) (i : Nat), (En a l i)[i]? = (l[i]?).map fun o => { o with after := o.after.push ⟨a, .chain⟩ }
 | [], _ => rfl
 | _ :: _, 0 => rfl
 | _ :: r, i + 1 => by simpa [En] using Qgg a r i
def Qhr (a b : Nat) : List Nat → Prop
 | [] => False
 | i :: r => i = a ∨ (i ≠ b ∧ Qhr a b r)
theorem Qks {le : List Oper} {a b i : Nat} {D : Nat → Prop} (h : Dv .any le i D) (hab : i = b → D a) : Dv .any (En a le b) i D := by
 by_cases hi : i = b
 ·subst hi
  intro o ho e he hb
  rw [Qgg] at ho
  cases hl : le[i]? with
  | none => rw [hl] at ho; cases ho
  | some o' =>
   rw [hl] at ho
   simp only [Option.map_some, Option.some.injEq] at ho
   subst ho
   simp only [Array.toList_push, List.mem_append, List.mem_singleton] at he
   rcases he with he | he
   ·exact h o' hl e he hb
   subst he; exact hab rfl
 intro o ho e he hb
 rw [Qgf a le b i hi] at ho
 exact h o ho e he hb
theorem Qc6 {le : List Oper} {a b : Nat} (hab : a ≠ b) : ∀ (σ done : List Nat), Dh .any le done σ → (b ∈ done ∨ a ∈ done ∨ Qhr a b σ) → Dh .any (En a le b) done σ := by
 intro σ
 induction σ with
 | nil => intro done h _ i hi; exact h i (by rwa [Fa] at hi)
 | cons i σ ih =>
  rintro done ⟨h1, h2, h3, h4⟩ ho
  refine ⟨by rw [Fa]; exact h1, h2, Qks h3 ?_, ih _ h4 ?_⟩
  ·rintro rfl
   rcases ho with h | h | h
   ·exact absurd h h2
   ·exact h
   rcases h with h | h
   ·exact absurd h.symm hab
   exact absurd rfl h.1
  rcases ho with h | h | h
  ·exact .inl (List.mem_cons_of_mem _ h)
  ·exact .inr (.inl (List.mem_cons_of_mem _ h))
  rcases h with rfl | h
  ·exact .inr (.inl Xk)
  exact .inr (.inr h.2)
theorem Qh7 {le : List Oper} {a b : Nat} (hal : a < le.length) : ∀ (σ done : List Nat), Dh .any le done σ → a ∉ done → Qhr a b σ ∨ Qhr b a σ := by
 intro σ
 induction σ with
 | nil => intro done h ha; exact absurd (h a hal) ha
 | cons i σ ih =>
  rintro done ⟨h1, h2, h3, h4⟩ ha
  by_cases hia : i = a
  ·exact .inl (.inl hia)
  by_cases hib : i = b
  ·exact .inr (.inl hib)
  rcases ih _ h4 (by simp [ha, Ne.symm hia]) with h | h
  ·exact .inl (.inr ⟨hib, h⟩)
  exact .inr (.inr ⟨hia, h⟩)
def L8 (P : Program) (n : Nat) (l le : List Oper) (K : (Nat → Value) → World → Prop) (fr : Nat → Value) (w : World) : Prop :=
 le.length = l.length ∧ ∀ (rd : Option Nat) (ds : List Deferred) (σ : List Nat), Dh .any le [] σ → ∀ (Q : Exit → Act → World → Prop), (∀ a' fr' w', Frm ds a' n fr' → K fr' w' → Q .normal a' w') → ∀ a w1, Ext w w1 → Frm ds a n fr → wpOpsIn (FR rd) 0 P l.toArray Q σ a w1
theorem Qfe {P : Program} {n : Nat} {l le : List Oper} {N : (Nat → Value) → World → Prop} {fr : Nat → Value} {w : World} (K : World → Prop) (hK : Kz K) (hw : K w) (plan : List (Nat × Bool)) (k : Nat) (hll : le.length = l.length) (hp : U0 l le plan k = true)
  (h : DW P n l (l.drop k) N K plan fr w) : L8 P n l le N fr w :=
 ⟨hll, fun rd ds σ hs Q hQ a w1 he ha => dw_run hll hp hQ σ [] K plan fr w w1 a hK (hK _ _ hw he) hs Xk (List.Sublist.refl _) (fun p h => .inl h) Xk Xk h he ha⟩
theorem Ef (w : World) : Kz (Ext w) := fun _ _ h e => h.trans e
theorem Hg {P : Program} {n : Nat} {l le : List Oper} {N : (Nat → Value) → World → Prop} {fr : Nat → Value} {w : World} (plan : List (Nat × Bool)) (k : Nat) (hll : le.length = l.length) (hp : U0 l le plan k = true)
  (h : DW P n l (l.drop k) N (Ext w) plan fr w) : L8 P n l le N fr w := Qfe (Ext w) (Ef w) (Ext.refl w) plan k hll hp h
theorem Qju {P : Program} {n : Nat} {l le : List Oper} {K : (Nat → Value) → World → Prop} {fr : Nat → Value} {w : World} (a b : Nat) (hab : Nat.beq a b = false) (hal : Nat.blt a le.length = true)
  (h1 : L8 P n l (En a le b) K fr w) (h2 : L8 P n l (En b le a) K fr w) : L8 P n l le K fr w := by
 have hne : a ≠ b := fun h => by rw [h, Nat.beq_refl] at hab; cases hab
 refine ⟨by have := h1.1; rwa [Fa] at this, fun rd ds σ hs Q hQ a' w1 he ha => ?_⟩
 rcases Qh7 (b := b) (Nat.le_of_ble_eq_true hal) σ [] hs Xk with h | h
 ·exact h1.2 rd ds σ (Qc6 hne σ [] hs (.inr (.inr h))) Q hQ a' w1 he ha
 exact h2.2 rd ds σ (Qc6 hne.symm σ [] hs (.inr (.inr h))) Q hQ a' w1 he ha
theorem Ju {P : Program} {n id : Nat} {l : List Oper} {fr : Nat → Value} {w : World} {Q : Exit → (Nat → Value) → World → Prop} (he : Qev l = true)
  (h : L8 P n l l (fun fr w => Q .normal fr w) fr w) : CW P n (.region id l.toArray true) Q fr w := by
 intro rd ds a ha
 refine wpIn_region_draw fun t => ?_
 have hs := Qe9 (l := l) he (P.follows .mixedOrders) t
 exact h.2 rd ds _ hs _ (fun a' fr' w' hf hq => ⟨fr', hf, hq⟩) a _ (Ext.drew w) ha
theorem Xj {P : Program} {n id : Nat} {l : List Oper} {fr : Nat → Value} {w : World} {Q : Exit → (Nat → Value) → World → Prop} (plan : List (Nat × Bool)) (k : Nat) (hp : planOk l plan k = true)
  (h : DW P n l (l.drop k) (fun fr w => Q .normal fr w) (Ext w) plan fr w) : CW P n (.region id l.toArray true) Q fr w := by
 have hp' := hp
 simp only [planOk, Bool.and_eq_true] at hp
 refine Ju hp.1.1.1.1 (Hg plan k rfl ?_ h)
 simp only [U0, Bool.and_eq_true]
 exact ⟨⟨⟨hp.1.1.1.2, hp.1.1.2⟩, hp.1.2⟩, hp.2⟩
def dlGo : Nat → Nat → List (Nat × Bool)
 | _, 0 => []
 | i, k + 1 => (i, false) :: dlGo (i + 1) k
abbrev dl (k : Nat) : List (Nat × Bool) := dlGo 0 k
end Go.Proofs.YtkmiemlpfkfiiaaDoor
