/- The framework, part d: slices of slices of bytes as one, with all their blocks; the greatest of three numbers. Conditions: none. -/
import Derived.Test.YtfbnhoolkajebaaFwL
import Derived.Test.YtfbnhoolkajebaaFwV
import Derived.WideKeyRuns
import Derived.Test.YtfbnhoolkajebaaFwR
namespace Go.Proofs.Ytfbnhoolkajebaa
section
open Go.ChangeShapes Go.WideShapes Go.ChangeAt Go.RowKit
set_option linter.unusedVariables false
set_option linter.unusedSimpArgs false
set_option linter.unusedSectionVars false
/-! ### Arguments: slices of structs -/
section
variable {P : Program} {t e : TypeId} {α : Type} {enc : α → List Value} {k : Nat} {q : World → α → Prop}
variable {f0 f1 f2 f3 f4 f5 : Field} {Q0 Q1 Q2 Q3 Q4 Q5 : World → Value → Prop}
theorem opens_bytes1 (hu : P.underlying t = some (.slice e)) (hc : P.cellsOf e = 1) (he : Opens P e (fun _ cs => ∃ a, cs = [u8 a])) : Opens P t (fun w cs => ∃ v, cs = [v] ∧ ∃ s : SlT, v = slv s ∧ Rd (blks w) u8 (slv s) s.2 ∧ s.2.length ≤ 9223372036854775807) :=
  (opens_sl1 (f := u8) hu hc he).mono fun w cs ⟨v, l, h1, h2, h3⟩ => by
    have e := h2.toSl l
    exact ⟨v, h1, toSl v l, e.symm, by rw [e, toSl_snd]; exact h2, by rw [toSl_snd]; exact h3⟩
end
/-! ### Maps to truth values -/
section
variable {α : Type} [DecidableEq α]
def lkB : List (α × Bool) → α → Bool
  | [], _ => false
  | (a, b) :: l, k => if k = a then b else lkB l k
def insB : List (α × Bool) → α → Bool → List (α × Bool)
  | [], k, v => [(k, v)]
  | (a, b) :: l, k, v => if k = a then (a, v) :: l else (a, b) :: insB l k v
def idxB : List (α × Bool) → α → Nat → Option (Nat × Bool)
  | [], _, _ => none
  | (a, b) :: l, k, i => if k = a then some (i, b) else idxB l k (i + 1)
structure Ents (kf : α → Value) (es : List MapEntry) (l : List (α × Bool)) : Prop where
  is : es.map (fun e => (e.key, e.val)) = l.map fun p => (kf p.1, bl p.2)
theorem Ents.cons_inv {kf : α → Value} {e : MapEntry} {es : List MapEntry} {l : List (α × Bool)} (h : Ents kf (e :: es) l) : ∃ a b l', l = (a, b) :: l' ∧ e.key = kf a ∧ e.val = bl b ∧ Ents kf es l' := by
  match l, h.is with
  | (a, b) :: l', h => simp at h; exact ⟨a, b, l', rfl, h.1.1, h.1.2, ⟨by simpa using h.2⟩⟩
theorem Ents.nil_inv {kf : α → Value} {l : List (α × Bool)} (h : Ents kf [] l) : l = [] := by
  have := congrArg List.length h.is; simpa using this.symm
theorem Ents.put {kf : α → Value} : ∀ {es : List MapEntry} {l : List (α × Bool)} (k : α) (v : Bool) (i : Nat) (c : Nat), Ents kf es l →
    match idxB l k i with
    | some p => i ≤ p.1 ∧ ((es[p.1 - i]?).map (·.key)).getD (kf k) = kf k ∧ Ents kf (es.modify (p.1 - i) fun e => { e with key := kf k, val := bl v }) (insB l k v)
    | none => Ents kf (es ++ [{ key := kf k, val := bl v, born := c }]) (insB l k v)
  | [], l, k, v, i, c, h => by
    obtain rfl := h.nil_inv
    exact ⟨rfl⟩
  | e :: es, l, k, v, i, c, h => by
    obtain ⟨a, b, l', rfl, h1, h2, h3⟩ := h.cons_inv
    unfold idxB insB
    by_cases hk : k = a
    · subst hk
      rw [if_pos rfl, if_pos rfl]
      refine ⟨Nat.le_refl _, by simp [h1], ⟨?_⟩⟩
      rw [Nat.sub_self]
      simp [h3.is]
    · rw [if_neg hk, if_neg hk]
      have ih := Ents.put (kf := kf) k v (i + 1) c h3
      cases hx : idxB l' k (i + 1) with
      | none => rw [hx] at ih; simp only at ih ⊢; exact ⟨by simp [h1, h2, ih.is]⟩
      | some p =>
        rw [hx] at ih
        obtain ⟨h4, h5, h6⟩ := ih
        obtain ⟨j, hj⟩ : ∃ j, p.1 - i = j + 1 := ⟨p.1 - i - 1, by omega⟩
        have hj' : p.1 - (i + 1) = j := by omega
        simp only
        rw [hj'] at h5 h6
        refine ⟨by omega, ?_, ?_⟩
        · rw [hj]; simpa using h5
        · rw [hj]; exact ⟨by simp [h1, h2, h6.is]⟩
end
section
variable {P : Program} {fr : Nat → Value} {w : World} {ty T K V E : TypeId} {x y u : Operand} {R : Rest} {H : List (Nat × Obj)} {α : Type} [DecidableEq α] {kf : α → Value} {b : Nat} {es : Array MapEntry} {c : Nat} {l : List (α × Bool)}
theorem bytes_beq (s t : ByteArray) : (s == t) = true ↔ s = t := by
  obtain ⟨a⟩ := s
  obtain ⟨b⟩ := t
  show (a == b) = true ↔ _
  simp
/-- A struct of two texts. -/
def two (p : ByteArray × ByteArray) : Value := .agg #[.string p.1, .string p.2]
theorem Upd.put {w : World} {b : Nat} {o : Obj} (o' : Obj) (hb : w.heap[b]? = some o) : Upd w b o' { w with heap := w.heap.setIfInBounds b o' } := by
  refine ⟨rfl, rfl, rfl, fun k => ?_⟩
  obtain ⟨hlt, _⟩ := Array.getElem?_eq_some_iff.1 hb
  simp only [Array.getElem?_setIfInBounds]
  by_cases h : k = b
  · subst h; simp [hlt]
  · rw [if_neg h, if_neg (fun e => h e.symm)]
/-- A map to truth values, as a function. -/
def MapIs (kf : α → Value) (o : Obj) (m : α → Bool) : Prop := ∃ (es : Array MapEntry) (c : Nat) (l : List (α × Bool)), o = .map es c ∧ Ents kf es.toList l ∧ ∀ k, lkB l k = m k
theorem MapIs.cast {kf : α → Value} {o : Obj} {m m' : α → Bool} (h : MapIs kf o m) (e : ∀ k, m k = m' k) : MapIs kf o m' := by
  obtain ⟨es, c, l, h1, h2, h3⟩ := h
  exact ⟨es, c, l, h1, h2, fun k => (h3 k).trans (e k)⟩
end
end --m
section
open Go.ChangeShapes Go.WideShapes Go.ChangeAt Go.RowKit
set_option linter.unusedSimpArgs false
set_option linter.unusedVariables false
section
variable {P : Program} {t : TypeId} {f0 f1 f2 f3 : Field} {k0 k1 k2 k3 n : Nat} {C0 C1 C2 C3 : World → List Value → Prop}
end
end --m
section
set_option linter.unusedSimpArgs false
set_option linter.unusedVariables false
section
variable {P : Program} {fr : Nat → Value} {w : World} {ty T T' E E' : TypeId} {x y : Operand} {z : Option Value} {n kb b : Nat} {α : Type} {f : α → Value} {u : Value} {l ms : List α} {fz : Nat × Nat}
theorem or_copy_mid {i : Int} (hx : evalF fr x = sla b 0 1 i n n) (h0 : 0 ≤ i) (hi : i < n) (hy : evalF fr y = u) (hr : Rd (blks w) f u ms) (hT : P.underlying T = some (.slice E)) (hti : tinf P E = some (z, 1, kb)) (hf : ∀ a, (f a).oneCell' = true)
    (hb : w.heap[b]? = some (.cells (cl f l) E' fz)) (hl : l.length = n) (hms : i.toNat + ms.length ≤ n) (hfz : fz.2 = 0) :
    OpR P fr w (.call ⟨.builtin .copy, #[x, y], #[T, T']⟩) ty (fun v' w' => v' = i64 (ms.length : Nat) ∧ Upd w b (.cells (cl f (l.take i.toNat ++ (ms ++ l.drop (i.toNat + ms.length)))) E' fz) w') := by
  have hx2 : evalF fr x = slc b i.toNat (n - i.toNat) (n - i.toNat) := by
    rw [hx]
    have h1 : ¬ n = i.toNat := by omega
    simp [sla, h1]
  have hmin : min ms.length (n - i.toNat) = ms.length := by omega
  refine (or_copy (T' := T') hx2 hy hr hT hti hf hb (by rw [size_cl, hmin]; omega) (by omega)).mono ?_
  rintro v' w' ⟨e1, hu⟩
  rw [hmin] at e1 hu
  rw [List.take_of_length_le (Nat.le_refl _)] at hu
  refine ⟨e1, ?_⟩
  have e : ovr (cl f l) i.toNat (ms.map f) = cl f (l.take i.toNat ++ (ms ++ l.drop (i.toNat + ms.length))) := by
    apply Array.ext'
    rw [ovr_toList _ _ _ (by rw [size_cl, List.length_map]; omega)]
    simp [cl, List.map_take, List.map_drop]
  rw [e] at hu
  exact hu
end
end --m
section
open Go.ChangeShapes Go.WideShapes Go.ChangeAt Go.RowKit
set_option linter.unusedVariables false
set_option linter.unusedSimpArgs false
/-- A slice of slices of bytes that reads as a list. -/
structure RdL (m : Nat → Option Obj) (v : Value) (ls : List SlT) : Prop where
  row : Rd m slv v ls
  el : ∀ p ∈ ls, Rd m u8 (slv p) p.2
section
variable {m m' : Nat → Option Obj} {v u0 : Value} {ls : List SlT} {l0 : List (BitVec 8)} {w : World} {R : Rest} {H H' Hs Hv : List (Nat × Obj)} {E : TypeId}
theorem RdL.mono (h : RdL m v ls) (hm : ∀ b o, m b = some o → m' b = some o) : RdL m' v ls := ⟨h.row.mono hm, fun p hp => (h.el p hp).mono hm⟩
theorem RdL.ofRest (h : RdL R.blk v ls) (hm : Mem w R H) : RdL (blks w) v ls := h.mono fun b o hb => hm.rest b o hb
theorem RdL.addRest (h : Mem w R (H ++ H')) (hr : RdL R.blk v ls) : RdL (R.add H').blk v ls := hr.mono fun b o e => h.addRest e
theorem RdL.get {k : Nat} (h : RdL m v ls) (hk : k < ls.length) : Rd m u8 (slv (ls.getD k sl0)) (ls.getD k sl0).2 := by
  have e : ls.getD k sl0 = ls[k] := by simp [List.getD_eq_getElem?_getD, hk]
  rw [e]; exact h.el _ (List.getElem_mem hk)
theorem RdL.one1 {b : Nat} {fz : Nat × Nat} (hb : m b = some (.cells #[u0] E fz)) (hr : Rd m u8 u0 l0) : RdL m (slc b 0 1 1) [toSl u0 l0] :=
  ⟨Rd.oneS hb (hr.toSl l0), fun p hp => by
    obtain rfl : p = toSl u0 l0 := by simpa using hp
    rw [hr.toSl, toSl_snd]; exact hr⟩
theorem RdL.nil (a : Option Addr) (cap : Nat) : RdL m (.slice a 0 cap) [] := ⟨Rd.nil a cap, fun p hp => by cases hp⟩
theorem RdL.tail (h : RdL m v ls) (h1 : 1 ≤ ls.length) : RdL m (subv v 1 (ls.length : Int)) (ls.drop 1) :=
  ⟨Rd.cast (Rd.sub (i := 1) (j := (ls.length : Int)) h.row (by omega) (by omega) (by omega)) (drop_one ls), fun p hp => h.el p (List.mem_of_mem_drop hp)⟩
theorem snd_getD {L : List (List (BitVec 8))} {k : Nat} (h : ls.map (·.2) = L) (hk : k < ls.length) : (ls.getD k sl0).2 = L.getD k [] := by
  subst h; simp [List.getD_eq_getElem?_getD, hk]
/-- No block. -/
def mN : Nat → Option Obj := fun _ => none
theorem nN : ∀ b o, mN b = some o → m b = some o := fun _ _ h => by cases h
/-- A slice of slices of bytes that may grow, with all its blocks; elements may stand in m0's, too. -/
def GrowL (m0 : Nat → Option Obj) (E : TypeId) (v : Value) (ls : List SlT) (Hs : List (Nat × Obj)) : Prop :=
  ∃ H1 He, Hs = H1 ++ He ∧ Grow slv E v ls H1 ∧ ∀ p ∈ ls, ∀ m : Nat → Option Obj, (∀ q ∈ He, m q.1 = some q.2) → (∀ b o, m0 b = some o → m b = some o) → Rd m u8 (slv p) p.2
variable {m0 : Nat → Option Obj}
theorem GrowL.none (m0 : Nat → Option Obj) (E : TypeId) : GrowL m0 E (.slice none 0 0) [] [] := ⟨[], [], rfl, Grow.none _ _, fun p hp => by cases hp⟩
theorem GrowL.empty (m0 : Nat → Option Obj) (E b : Nat) : GrowL m0 E (slc b 0 0 0) [] [(b, .cells #[] E (0, 0))] := ⟨[(b, .cells #[] E (0, 0))], [], rfl, Grow.of slv E b [], fun p hp => by cases hp⟩
theorem GrowL.rdIn (h : GrowL m0 E v ls Hs) (hm : ∀ p ∈ Hs, m p.1 = some p.2) (h0 : ∀ b o, m0 b = some o → m b = some o) : RdL m v ls := by
  obtain ⟨H1, He, rfl, g, hel⟩ := h
  exact ⟨g.rdIn fun p hp => hm p (List.mem_append_left _ hp), fun p hp => hel p hp m (fun q hq => hm q (List.mem_append_right _ hq)) h0⟩
theorem GrowL.rd (h : GrowL m0 E v ls Hs) (hm : Mem w R (Hs ++ H)) (h0 : ∀ b o, m0 b = some o → blks w b = some o) : RdL (blks w) v ls := h.rdIn (fun p hp => hm.own p (List.mem_append_left _ hp)) h0
theorem GrowL.rdAdd (h : GrowL m0 E v ls Hs) (hm : Mem w R (H ++ H')) (hsub : ∀ p ∈ Hs, p ∈ H') (h0 : ∀ b o, m0 b = some o → (R.add H').blk b = some o) : RdL (R.add H').blk v ls := h.rdIn (fun p hp => hm.addOwn (hsub p hp)) h0
theorem GrowL.one (h : GrowL m0 E v ls Hs) : v.oneCell' = true := by obtain ⟨H1, He, _, g, _⟩ := h; exact g.one
theorem GrowL.is (h : GrowL m0 E v ls Hs) : ∃ a cap, v = .slice a ls.length cap := by obtain ⟨H1, He, _, g, _⟩ := h; exact g.len
/-- One element, that is in blocks of its own. -/
theorem GrowL.of1 {b : Nat} (e : slv (toSl u0 l0) = u0) (hel : ∀ m : Nat → Option Obj, (∀ q ∈ Hv, m q.1 = some q.2) → (∀ b o, m0 b = some o → m b = some o) → Rd m u8 u0 l0) :
    GrowL m0 E (slc b 0 1 1) [toSl u0 l0] ([(b, .cells #[u0] E (0, 0))] ++ Hv) := by
  refine ⟨[(b, .cells #[u0] E (0, 0))], Hv, rfl, ?_, fun p hp m hm h0 => ?_⟩
  · have := Grow.of slv E b [toSl u0 l0]
    have e2 : cl slv [toSl u0 l0] = #[u0] := by simp [cl, e]
    rw [e2] at this; exact this
  · obtain rfl : p = toSl u0 l0 := by simpa using hp
    rw [e, toSl_snd]; exact hel m hm h0
theorem el_grow {F : TypeId} (g : Grow u8 F u0 l0 Hv) : ∀ m : Nat → Option Obj, (∀ q ∈ Hv, m q.1 = some q.2) → (∀ b o, m0 b = some o → m b = some o) → Rd m u8 u0 l0 := fun m hm _ => g.rdIn hm
theorem el_nil : ∀ m : Nat → Option Obj, (∀ q ∈ ([] : List (Nat × Obj)), m q.1 = some q.2) → (∀ b o, m0 b = some o → m b = some o) → Rd m u8 (.slice none 0 0) [] := fun m _ _ => Rd.nil _ _
theorem slv_nil : slv (toSl (.slice none 0 0) []) = .slice none 0 0 := rfl
end
section
variable {P : Program} {fr : Nat → Value} {w : World} {ty T T' E E' : TypeId} {x y : Operand} {kb : Nat} {R : Rest} {H Hs Hv : List (Nat × Obj)} {v u0 : Value} {ls : List SlT} {l0 : List (BitVec 8)} {m0 : Nat → Option Obj}
theorem or_appendL {zv u : Value} (hm : Mem w R (Hs ++ (Hv ++ H))) (hg : GrowL m0 E v ls Hs) (hx : evalF fr x = v) (hy : evalF fr y = u) (hr : Rd (blks w) slv u [toSl u0 l0]) (e : slv (toSl u0 l0) = u0)
    (hel : ∀ m : Nat → Option Obj, (∀ q ∈ Hv, m q.1 = some q.2) → (∀ b o, m0 b = some o → m b = some o) → Rd m u8 u0 l0) (hT : P.underlying T = some (.slice E)) (hT' : P.underlying T' = some (.slice E'))
    (hi : tinf P E = some (some zv, 1, kb)) (hz1 : zv.cells.size = 1) (hn : (4 * (ls.length + 1) + 1024) * kb ≤ 281474976710656) (hn1 : ls.length + 1 ≤ 281474976710656) :
    OpR P fr w (.call ⟨.builtin .append, #[x, y], #[T, T']⟩) ty (fun v' w' => ∃ ls' Hs', ls'.map (·.2) = ls.map (·.2) ++ [l0] ∧ ls'.length = ls.length + 1 ∧ Mem w' R (Hs' ++ H) ∧ GrowL m0 E v' ls' Hs') := by
  obtain ⟨H1, He, rfl, g, hels⟩ := hg
  have hm' : Mem w R (H1 ++ (He ++ (Hv ++ H))) := by rw [List.append_assoc] at hm; exact hm
  refine (or_append (f := slv) (ty := ty) hm' g hx hy hr hT hT' hi hz1 slv_one (by simpa using hn) (by simpa using hn1)).mono ?_
  rintro v' w' ⟨Hs', hm2, g2⟩
  refine ⟨_, Hs' ++ (He ++ Hv), map_snd_snoc rfl u0 l0, by simp, ?_, Hs', He ++ Hv, rfl, g2, ?_⟩
  · simpa [List.append_assoc] using hm2
  · intro p hp m hm h0
    rcases List.mem_append.1 hp with hp | hp
    · exact hels p hp m (fun q hq => hm q (List.mem_append_left _ hq)) h0
    · obtain rfl : p = toSl u0 l0 := by simpa using hp
      rw [e, toSl_snd]; exact hel m (fun q hq => hm q (List.mem_append_right _ hq)) h0
/-- The greater one. -/
def maxU (a b : BitVec 64) : BitVec 64 := if b.toNat > a.toNat then b else a
theorem maxU_nat (a b : BitVec 64) : (maxU a b).toNat = max a.toNat b.toNat := by unfold maxU; split <;> omega
theorem ev_max3_u64 {a b c : BitVec 64} {z : Operand} {ts : Array TypeId} (hx : evalF fr x = u64 a) (hy : evalF fr y = u64 b) (hz : evalF fr z = u64 c) : EvQ P fr w (.call ⟨.builtin .max, #[x, y, z], ts⟩) ty (u64 (maxU (maxU a b) c)) := by
  unfold EvQ; rw [xop_builtin]
  unfold maxU
  by_cases h1 : b.toNat > a.toNat
  · by_cases h2 : c.toNat > b.toNat <;> simp [builtin, Builtin.max_, Builtin.max2, hx, hy, hz, u64, h1, h2]
  · by_cases h2 : c.toNat > a.toNat <;> simp [builtin, Builtin.max_, Builtin.max2, hx, hy, hz, u64, h1, h2]
/-- Slices of bytes among the elements of an argument. -/
theorem opens_sls {t e : TypeId} (hu : P.underlying t = some (.slice e)) (hc : P.cellsOf e = 1) (he : Opens P e (fun _ cs => ∃ a, cs = [u8 a])) : Opens P t (fun w cs => ∃ a : SlT, cs = [slv a] ∧ (Rd (blks w) u8 (slv a) a.2 ∧ a.2.length ≤ 9223372036854775807)) :=
  (opens_bytes1 hu hc he).mono fun w cs ⟨v, h1, s, h2, h3, h4⟩ => ⟨s, by rw [h1, h2], h3, h4⟩
end
end --m
end Go.Proofs.Ytfbnhoolkajebaa
