/- The framework, part F: slices, rows of a call's own, append, copy, aggregates. Conditions: none. -/
import Derived.Test.YtkmiemlpfkfiiaaDoorFwE
namespace Go.Proofs.YtkmiemlpfkfiiaaDoor
set_option linter.unusedSimpArgs false
section
variable {w w' : World} {R : Rest} {H H' : List (Nat × Obj)}
theorem Mem.pick (A B C : List (Nat × Obj)) (h : Mem w R (A ++ (B ++ C))) : Mem w R (B ++ (A ++ C)) :=
 h.perm (by rw [← List.append_assoc, ← List.append_assoc]; exact List.Perm.append_right _ List.perm_append_comm)
theorem Mem.pick2 (A0 A1 B C : List (Nat × Obj)) (h : Mem w R (A0 ++ (A1 ++ (B ++ (C))))) : Mem w R (B ++ (A0 ++ (A1 ++ (C)))) :=
 h.perm (by
  have e : ∀ X Y Z : List (Nat × Obj), (X ++ (Y ++ Z)).Perm (Y ++ (X ++ Z)) := fun X Y Z => by rw [← List.append_assoc, ← List.append_assoc]; exact List.Perm.append_right _ List.perm_append_comm
  refine (e _ _ _).trans <| List.Perm.append_left _ <| (e _ _ _).trans ?_
  exact List.Perm.refl _)
theorem Mem.pick3 (A0 A1 A2 B C : List (Nat × Obj)) (h : Mem w R (A0 ++ (A1 ++ (A2 ++ (B ++ (C)))))) : Mem w R (B ++ (A0 ++ (A1 ++ (A2 ++ (C))))) :=
 h.perm (by
  have e : ∀ X Y Z : List (Nat × Obj), (X ++ (Y ++ Z)).Perm (Y ++ (X ++ Z)) := fun X Y Z => by rw [← List.append_assoc, ← List.append_assoc]; exact List.Perm.append_right _ List.perm_append_comm
  refine (e _ _ _).trans <| List.Perm.append_left _ <| (e _ _ _).trans <| List.Perm.append_left _ <| (e _ _ _).trans ?_
  exact List.Perm.refl _)
theorem Mem.pick4 (A0 A1 A2 A3 B C : List (Nat × Obj)) (h : Mem w R (A0 ++ (A1 ++ (A2 ++ (A3 ++ (B ++ (C))))))) : Mem w R (B ++ (A0 ++ (A1 ++ (A2 ++ (A3 ++ (C)))))) :=
 h.perm (by
  have e : ∀ X Y Z : List (Nat × Obj), (X ++ (Y ++ Z)).Perm (Y ++ (X ++ Z)) := fun X Y Z => by rw [← List.append_assoc, ← List.append_assoc]; exact List.Perm.append_right _ List.perm_append_comm
  refine (e _ _ _).trans <| List.Perm.append_left _ <| (e _ _ _).trans <| List.Perm.append_left _ <| (e _ _ _).trans <| List.Perm.append_left _ <| (e _ _ _).trans ?_
  exact List.Perm.refl _)
theorem Mem.pick5 (A0 A1 A2 A3 A4 B C : List (Nat × Obj)) (h : Mem w R (A0 ++ (A1 ++ (A2 ++ (A3 ++ (A4 ++ (B ++ (C)))))))) : Mem w R (B ++ (A0 ++ (A1 ++ (A2 ++ (A3 ++ (A4 ++ (C))))))) :=
 h.perm (by
  have e : ∀ X Y Z : List (Nat × Obj), (X ++ (Y ++ Z)).Perm (Y ++ (X ++ Z)) := fun X Y Z => by rw [← List.append_assoc, ← List.append_assoc]; exact List.Perm.append_right _ List.perm_append_comm
  refine (e _ _ _).trans <| List.Perm.append_left _ <| (e _ _ _).trans <| List.Perm.append_left _ <| (e _ _ _).trans <| List.Perm.append_left _ <| (e _ _ _).trans <| List.Perm.append_left _ <| (e _ _ _).trans ?_
  exact List.Perm.refl _)
theorem Mem.pick6 (A0 A1 A2 A3 A4 A5 B C : List (Nat × Obj)) (h : Mem w R (A0 ++ (A1 ++ (A2 ++ (A3 ++ (A4 ++ (A5 ++ (B ++ (C))))))))) : Mem w R (B ++ (A0 ++ (A1 ++ (A2 ++ (A3 ++ (A4 ++ (A5 ++ (C)))))))) :=
 h.perm (by
  have e : ∀ X Y Z : List (Nat × Obj), (X ++ (Y ++ Z)).Perm (Y ++ (X ++ Z)) := fun X Y Z => by rw [← List.append_assoc, ← List.append_assoc]; exact List.Perm.append_right _ List.perm_append_comm
  refine (e _ _ _).trans <| List.Perm.append_left _ <| (e _ _ _).trans <| List.Perm.append_left _ <| (e _ _ _).trans <| List.Perm.append_left _ <| (e _ _ _).trans <| List.Perm.append_left _ <| (e _ _ _).trans <| List.Perm.append_left _ <| (e _ _ _).trans ?_
  exact List.Perm.refl _)
theorem Mem.pick7 (A0 A1 A2 A3 A4 A5 A6 B C : List (Nat × Obj)) (h : Mem w R (A0 ++ (A1 ++ (A2 ++ (A3 ++ (A4 ++ (A5 ++ (A6 ++ (B ++ (C)))))))))) : Mem w R (B ++ (A0 ++ (A1 ++ (A2 ++ (A3 ++ (A4 ++ (A5 ++ (A6 ++ (C))))))))) :=
 h.perm (by
  have e : ∀ X Y Z : List (Nat × Obj), (X ++ (Y ++ Z)).Perm (Y ++ (X ++ Z)) := fun X Y Z => by rw [← List.append_assoc, ← List.append_assoc]; exact List.Perm.append_right _ List.perm_append_comm
  refine (e _ _ _).trans <| List.Perm.append_left _ <| (e _ _ _).trans <| List.Perm.append_left _ <| (e _ _ _).trans <| List.Perm.append_left _ <| (e _ _ _).trans <| List.Perm.append_left _ <| (e _ _ _).trans <| List.Perm.append_left _ <| (e _ _ _).trans <| List.Perm.append_left _ ?_
  refine (e _ _ _).trans ?_
  exact List.Perm.refl _)
theorem Mem.drop (A B : List (Nat × Obj)) (h : Mem w R (A ++ B)) : Mem w R B := h.sub (List.sublist_append_right A B)
theorem Mem.new (h : Mem w R H) (k : Mem w' (Qu w) H') : Mem w' R (H' ++ H) := by
 have hk : ∀ b o, w.heap[b]? = some o → w'.heap[b]? = some o := fun b o e => k.rest b o e
 refine ⟨k.os.trans h.os, k.tape.trans h.tape, k.output.trans h.output, fun b o e => hk _ _ (h.rest b o e), ?_, ?_, ?_⟩
 ·intro p hp
  rcases List.mem_append.1 hp with hp | hp
  ·exact k.own p hp
  exact hk _ _ (h.own p hp)
 ·intro p hp
  rcases List.mem_append.1 hp with hp | hp
  ·cases hr : R.blk p.1 with
   | none => rfl
   | some o => exact absurd (h.rest _ _ hr) (by have := k.disj p hp; simp only [Qu] at this; rw [this]; simp)
  exact h.disj p hp
 rw [List.map_append, List.nodup_append]
 refine ⟨k.nodup, h.nodup, ?_⟩
 intro x hx y hy e
 subst e
 obtain ⟨p, hp, rfl⟩ := List.mem_map.1 hx
 obtain ⟨q, hq, hpq⟩ := List.mem_map.1 hy
 have h1 := k.disj p hp
 have h2 := h.own q hq
 simp only [Qu] at h1
 rw [hpq, h1] at h2; cases h2
theorem Mem.toExt {w0 : World} (k : Mem w (Qu w0) H) : Ext w0 w := ⟨k.os, k.tape, k.output, fun b o e => k.rest b o e⟩
theorem Mem.only (h : Mem w R H) : Mem w R [] := h.sub (List.nil_sublist _)
end
def elpv (v : Value) (i : Int) : Value := match v with | .slice a _ _ => elp a i.toNat | _ => undef
structure Rd {α : Type} (m : Nat → Option Obj) (f : α → Value) (v : Value) (l : List α) : Prop where
 is : ∃ a cap, v = .slice a l.length cap ∧ l.length ≤ cap ∧ ∀ i (h : i < l.length), ∃ b off c E fz, a = some ⟨b, off, none⟩ ∧ m b = some (.cells c E fz) ∧ c[off + i]? = some (f l[i])
theorem Rd.mono {α : Type} {m m' : Nat → Option Obj} {f : α → Value} {v : Value} {l : List α} (h : Rd m f v l) (hm : ∀ b o, m b = some o → m' b = some o) : Rd m' f v l := by
 obtain ⟨a, cap, h1, hle, h2⟩ := h.is
 exact ⟨a, cap, h1, hle, fun i hi => let ⟨b, off, c, E, fz, e1, e2, e3⟩ := h2 i hi; ⟨b, off, c, E, fz, e1, hm _ _ e2, e3⟩⟩
theorem Rd.nil {α : Type} {m : Nat → Option Obj} {f : α → Value} (a : Option Addr) (cap : Nat) : Rd m f (.slice a 0 cap) ([] : List α) := ⟨a, cap, rfl, Nat.zero_le _, fun i h => by simp at h⟩
theorem Rd.mk' {α : Type} {m : Nat → Option Obj} {f : α → Value} {b off cap : Nat} {c : Array Value} {E : TypeId} {fz : Nat × Nat} {l : List α} (hle : l.length ≤ cap) (hb : m b = some (.cells c E fz)) (h : ∀ i (h : i < l.length), c[off + i]? = some (f l[i])) :
  Rd m f (Kq b off l.length cap) l := ⟨some ⟨b, off, none⟩, cap, rfl, hle, fun i hi => ⟨b, off, c, E, fz, rfl, hb, h i hi⟩⟩
def Yn (w : World) : Nat → Option Obj := fun b => w.heap[b]?
theorem Rd.ext {α : Type} {w w' : World} {f : α → Value} {v : Value} {l : List α} (h : Rd (Yn w) f v l) (e : Ext w w') : Rd (Yn w') f v l := h.mono fun b o hb => e.blk b o hb
theorem Rd.ofRest {α : Type} {w : World} {R : Rest} {H : List (Nat × Obj)} {f : α → Value} {v : Value} {l : List α} (h : Rd R.blk f v l) (hm : Mem w R H) : Rd (Yn w) f v l := h.mono fun b o hb => hm.rest b o hb
def Xl {α : Type} (f : α → Value) (E : TypeId) (v : Value) (l : List α) (Hs : List (Nat × Obj)) : Prop :=
 ((∃ a, v = .slice a 0 0) ∧ l = [] ∧ Hs = []) ∨ ∃ (b : Nat) (pre sp post : List Value), v = Kq b pre.length l.length (l.length + sp.length) ∧ Hs = [(b, .cells (pre ++ (l.map f ++ (sp ++ post))).toArray E (0, 0))]
theorem Xl.none {α : Type} (f : α → Value) (E : TypeId) : Xl f E (.slice none 0 0) ([] : List α) [] := .inl ⟨⟨_, rfl⟩, rfl, rfl⟩
theorem Xl.empty {α : Type} (f : α → Value) (E : TypeId) (a : Option Addr) : Xl f E (.slice a 0 0) ([] : List α) [] := .inl ⟨⟨_, rfl⟩, rfl, rfl⟩
theorem Xl.of {α : Type} (f : α → Value) (E : TypeId) (b : Nat) (l : List α) : Xl f E (Kq b 0 l.length l.length) l [(b, .cells (cl f l) E (0, 0))] := .inr ⟨b, [], [], [], by simp, by simp [cl]⟩
theorem Xl.made {α : Type} (f : α → Value) (E : TypeId) (b : Nat) (l : List α) (n : Nat) (h : n ≤ l.length) : Xl f E (Kq b 0 n l.length) (l.take n) [(b, .cells (cl f l) E (0, 0))] :=
 .inr ⟨b, [], (l.drop n).map f, [], by simp [Nat.min_eq_left h]; congr 1; omega, by
  have : l.map f = (l.take n).map f ++ (l.drop n).map f := by rw [← List.map_append, List.take_append_drop]
  rw [cl, this]; simp only [List.nil_append, List.append_nil]⟩
theorem Xl.rd {α : Type} {f : α → Value} {E : TypeId} {v : Value} {l : List α} {Hs H : List (Nat × Obj)} {w : World} {R : Rest} (h : Xl f E v l Hs) (hm : Mem w R (Hs ++ H)) : Rd (Yn w) f v l := by
 rcases h with ⟨⟨a, rfl⟩, rfl, rfl⟩ | ⟨b, pre, sp, post, rfl, rfl⟩
 ·exact Rd.nil _ _
 exact Rd.mk' (by omega) (hm.own (b, .cells (pre ++ (l.map f ++ (sp ++ post))).toArray E (0, 0)) Xk) (fun i hi => by
  simp only [List.getElem?_toArray]
  rw [List.getElem?_append_right (by omega), Nat.add_sub_cancel_left, List.getElem?_append_left (by simpa using hi)]
  simp [hi])
theorem Xl.len {α : Type} {f : α → Value} {E : TypeId} {v : Value} {l : List α} {Hs : List (Nat × Obj)} (h : Xl f E v l Hs) : ∃ a cap, v = .slice a l.length cap := by
 rcases h with ⟨⟨a, rfl⟩, rfl, rfl⟩ | ⟨b, pre, sp, post, rfl, rfl⟩
 ·exact ⟨_, _, rfl⟩
 exact ⟨_, _, rfl⟩
section
variable {P : Program} {fr : Nat → Value} {w : World} {ty T E : TypeId} {x y : Operand} {d : TypeDesc} {z : Option Value} {n kb b off : Nat} {c : Array Value} {fz : Nat × Nat} {R : Rest} {H Hs : List (Nat × Obj)} {α : Type} {f : α → Value} {v : Value} {l : List α}
theorem Qel {m : Nat → Option Obj} {k : IntKind} {i : Int} (h : Rd m f v l) (hu : P.underlying T = some (.slice E)) (hi : X4 P E = some (z, 1, kb)) (hx : Qg fr x = v) (hy : Qg fr y = .int k i) (h0 : 0 ≤ i) (h1 : i < l.length) :
  Yt P fr w (.indexAddr T x y) ty (elpv v i) := by
 obtain ⟨a, cap, rfl, _, h2⟩ := h.is
 obtain ⟨b, off, c, E', fz, rfl, _, _⟩ := h2 i.toNat (by omega)
 have := Aq (w := w) (ty := ty) hu hi hx hy h0 h1
 simpa [elpv, elp] using this
theorem Qlo {k : Int} {a : Option Addr} {len cap : Nat} (hv : v = .slice a len cap) (h : Rd (Yn w) f v l) (hu : P.underlying T = some d) (hd : Be d = false) (_h0 : 0 ≤ k) (h1 : k.toNat < l.length) (hx : Qg fr x = elp a k.toNat) : Yt P fr w (.load T x) ty (f l[k.toNat]) := by
 obtain ⟨a', cap', h3, _, h2⟩ := h.is
 subst hv
 cases h3
 obtain ⟨b, off, c, E', fz, rfl, hb, hc⟩ := h2 k.toNat h1
 have hx' : Qg fr x = ptr b (off + k.toNat) := by rw [hx]; simp [elp, Wq, ptr]
 exact Ql hu hd hx' hb hc
theorem Wj {k : IntKind} {i : Int} {m : Nat} {code : BoundsCode} (h0 : 0 ≤ i) (h1 : i ≤ m) : (Instr.sliceBound (.int k i) m code).run P w = .ok i.toNat w := by
 simp [Instr.sliceBound, asIntOf, h0, h1]
def Tn (o : Option Operand) (fr : Nat → Value) (dflt : Int) (i : Int) : Prop :=
 match o with | none => i = dflt | some x => ∃ k, Qg fr x = .int k i
theorem Zc (fr : Nat → Value) (i : Int) : Tn none fr i i := rfl
theorem Xv {fr : Nat → Value} {dflt i : Int} {k : IntKind} {x : Operand} (h : Qg fr x = .int k i) : Tn (some x) fr dflt i := ⟨k, h⟩
theorem Rw {isSl : Bool} {len cap : Nat} {lo hi : Option Operand} {i j : Int} (hlo : Tn lo fr 0 i) (hhi : Tn hi fr len j) (h0 : 0 ≤ i) (h1 : i ≤ j) (h2 : j ≤ cap) :
  (Instr.sliceBounds isSl len cap (lo.map (Qg fr)) (hi.map (Qg fr)) none).run P w = .ok (i.toNat, j.toNat, cap) w := by
 have hj0 : 0 ≤ j := by omega
 unfold Instr.sliceBounds
 cases hi with
 | none =>
  simp only [Tn] at hhi
  subst hhi
  cases lo with
  | none => simp only [Tn] at hlo; subst hlo; simp
  | some x => obtain ⟨k, hx⟩ := hlo; simp [hx, Wj h0 h1]
 | some y =>
  obtain ⟨k', hy⟩ := hhi
  cases lo with
  | none => simp only [Tn] at hlo; subst hlo; simp [hy, Wj hj0 h2]
  | some x =>
   obtain ⟨k, hx⟩ := hlo
   have h1' : i ≤ (j.toNat : Nat) := by omega
   simp [hx, hy, Wj hj0 h2, Wj h0 h1']
theorem Qiq {len : Nat} {lo hi : Option Operand} {i j : Int} (hu : P.underlying T = some (.array len E)) (hi' : X4 P E = some (z, n, kb)) (hx : Qg fr x = ptr b off) (hlo : Tn lo fr 0 i) (hhi : Tn hi fr len j) (h0 : 0 ≤ i) (h1 : i ≤ j) (h2 : j ≤ len) :
  Yt P fr w (.slice T x lo hi none) ty (Kq b (if len = i.toNat then off else off + i.toNat * n) (j.toNat - i.toNat) (len - i.toNat)) := by
 unfold Yt Ew
 show Sem.run P (do let v ← Instr.sliceAt T (Qg fr x) (lo.map (Qg fr)) (hi.map (Qg fr)) ((none : Option Operand).map (Qg fr)); pure (Next.value v)) w = _
 rw [hx]
 simp [Instr.sliceAt, Jg hu, Instr.sureAddr, ptr, Rw hlo hhi h0 h1 h2, Yo hi', Wq, Kq]
 split <;> rfl
theorem Qab {len cap : Nat} {a : Option Addr} {lo hi : Option Operand} {i j : Int} (hu : P.underlying T = some (.slice E)) (hi' : X4 P E = some (z, n, kb)) (hx : Qg fr x = .slice a len cap) (hlo : Tn lo fr 0 i) (hhi : Tn hi fr len j) (h0 : 0 ≤ i) (h1 : i ≤ j) (h2 : j ≤ cap) :
  Yt P fr w (.slice T x lo hi none) ty (.slice (if cap = i.toNat then a else a.map (·.add (i.toNat * n))) (j.toNat - i.toNat) (cap - i.toNat)) := by
 unfold Yt Ew
 show Sem.run P (do let v ← Instr.sliceAt T (Qg fr x) (lo.map (Qg fr)) (hi.map (Qg fr)) ((none : Option Operand).map (Qg fr)); pure (Next.value v)) w = _
 rw [hx]
 simp [Instr.sliceAt, Instr.slice, Jg hu, Rw hlo hhi h0 h1 h2, Yo hi']
theorem Rd.slice {m : Nat → Option Obj} {a : Option Addr} {len cap : Nat} {i j : Int} (h : Rd m f (.slice a len cap) l) (h0 : 0 ≤ i) (h1 : i ≤ j) (h2 : j ≤ len) :
  Rd m f (.slice (if cap = i.toNat then a else a.map (·.add (i.toNat * 1))) (j.toNat - i.toNat) (cap - i.toNat)) ((l.drop i.toNat).take (j.toNat - i.toNat)) := by
 obtain ⟨a', cap', h3, hle, h4⟩ := h.is
 cases h3
 have hl : ((l.drop i.toNat).take (j.toNat - i.toNat)).length = j.toNat - i.toNat := by simp; omega
 refine ⟨_, _, by rw [hl], by rw [hl]; omega, fun t ht => ?_⟩
 rw [hl] at ht
 obtain ⟨b, off, c, E', fz, rfl, hb, hc⟩ := h4 (i.toNat + t) (by omega)
 have hc' : c[off + (i.toNat + t)]? = some (f ((l.drop i.toNat).take (j.toNat - i.toNat))[t]) := by rw [hc]; simp
 by_cases hcap : cap = i.toNat
 ·
  exfalso; omega
 exact ⟨b, off + i.toNat, c, E', fz, by rw [if_neg hcap]; simp [Wq], hb, by rw [Nat.add_assoc]; exact hc'⟩
end
end Go.Proofs.YtkmiemlpfkfiiaaDoor
