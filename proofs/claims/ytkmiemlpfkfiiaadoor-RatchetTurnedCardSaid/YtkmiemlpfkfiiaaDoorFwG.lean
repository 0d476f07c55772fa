/- The framework, part G: append, copy, make, composite literals, lengths. Conditions: none. -/
import Derived.Test.YtkmiemlpfkfiiaaDoorFwE
namespace Go.Proofs.YtkmiemlpfkfiiaaDoor
open Builtin renaming firstCells → bI, nextslicecap → dW, zeroCells → cZ
open List renaming append_assoc → aQ, eq_nil_of_length_eq_zero → dR, getElem?_toArray → dN, map_append → dF, perm_append_comm → bn
section
set_option linter.unusedSimpArgs false
section
variable {w w' : World} {R : Rest} {H H' : List (Nat × Obj)}
theorem Mem.pick (A B C : List (Nat × Obj)) (h : Mem w R (A ++ (B ++ C))) : Mem w R (B ++ (A ++ C)) :=
 h.perm (by rw [← aQ, ← aQ]; exact List.Perm.append_right _ bn)
theorem Mem.pick2 (A0 A1 B C : List (Nat × Obj)) (h : Mem w R (A0 ++ (A1 ++ (B ++ (C))))) : Mem w R (B ++ (A0 ++ (A1 ++ (C)))) :=
 h.perm (by
  have e : ∀ X Y Z : List (Nat × Obj), (X ++ (Y ++ Z)).Perm (Y ++ (X ++ Z)) := fun X Y Z => by rw [← aQ, ← aQ]; exact List.Perm.append_right _ bn
  refine (e _ _ _).trans <| List.Perm.append_left _ <| (e _ _ _).trans ?_
  exact List.Perm.refl _)
theorem Mem.pick3 (A0 A1 A2 B C : List (Nat × Obj)) (h : Mem w R (A0 ++ (A1 ++ (A2 ++ (B ++ (C)))))) : Mem w R (B ++ (A0 ++ (A1 ++ (A2 ++ (C))))) :=
 h.perm (by
  have e : ∀ X Y Z : List (Nat × Obj), (X ++ (Y ++ Z)).Perm (Y ++ (X ++ Z)) := fun X Y Z => by rw [← aQ, ← aQ]; exact List.Perm.append_right _ bn
  refine (e _ _ _).trans <| List.Perm.append_left _ <| (e _ _ _).trans <| List.Perm.append_left _ <| (e _ _ _).trans ?_
  exact List.Perm.refl _)
theorem Mem.pick4 (A0 A1 A2 A3 B C : List (Nat × Obj)) (h : Mem w R (A0 ++ (A1 ++ (A2 ++ (A3 ++ (B ++ (C))))))) : Mem w R (B ++ (A0 ++ (A1 ++ (A2 ++ (A3 ++ (C)))))) :=
 h.perm (by
  have e : ∀ X Y Z : List (Nat × Obj), (X ++ (Y ++ Z)).Perm (Y ++ (X ++ Z)) := fun X Y Z => by rw [← aQ, ← aQ]; exact List.Perm.append_right _ bn
  refine (e _ _ _).trans <| List.Perm.append_left _ <| (e _ _ _).trans <| List.Perm.append_left _ <| (e _ _ _).trans <| List.Perm.append_left _ <| (e _ _ _).trans ?_
  exact List.Perm.refl _)
theorem Mem.pick5 (A0 A1 A2 A3 A4 B C : List (Nat × Obj)) (h : Mem w R (A0 ++ (A1 ++ (A2 ++ (A3 ++ (A4 ++ (B ++ (C)))))))) : Mem w R (B ++ (A0 ++ (A1 ++ (A2 ++ (A3 ++ (A4 ++ (C))))))) :=
 h.perm (by
  have e : ∀ X Y Z : List (Nat × Obj), (X ++ (Y ++ Z)).Perm (Y ++ (X ++ Z)) := fun X Y Z => by rw [← aQ, ← aQ]; exact List.Perm.append_right _ bn
  refine (e _ _ _).trans <| List.Perm.append_left _ <| (e _ _ _).trans <| List.Perm.append_left _ <| (e _ _ _).trans <| List.Perm.append_left _ <| (e _ _ _).trans <| List.Perm.append_left _ <| (e _ _ _).trans ?_
  exact List.Perm.refl _)
theorem Mem.pick6 (A0 A1 A2 A3 A4 A5 B C : List (Nat × Obj)) (h : Mem w R (A0 ++ (A1 ++ (A2 ++ (A3 ++ (A4 ++ (A5 ++ (B ++ (C))))))))) : Mem w R (B ++ (A0 ++ (A1 ++ (A2 ++ (A3 ++ (A4 ++ (A5 ++ (C)))))))) :=
 h.perm (by
  have e : ∀ X Y Z : List (Nat × Obj), (X ++ (Y ++ Z)).Perm (Y ++ (X ++ Z)) := fun X Y Z => by rw [← aQ, ← aQ]; exact List.Perm.append_right _ bn
  refine (e _ _ _).trans <| List.Perm.append_left _ <| (e _ _ _).trans <| List.Perm.append_left _ <| (e _ _ _).trans <| List.Perm.append_left _ <| (e _ _ _).trans <| List.Perm.append_left _ <| (e _ _ _).trans <| List.Perm.append_left _ <| (e _ _ _).trans ?_
  exact List.Perm.refl _)
theorem Mem.pick7 (A0 A1 A2 A3 A4 A5 A6 B C : List (Nat × Obj)) (h : Mem w R (A0 ++ (A1 ++ (A2 ++ (A3 ++ (A4 ++ (A5 ++ (A6 ++ (B ++ (C)))))))))) : Mem w R (B ++ (A0 ++ (A1 ++ (A2 ++ (A3 ++ (A4 ++ (A5 ++ (A6 ++ (C))))))))) :=
 h.perm (by
  have e : ∀ X Y Z : List (Nat × Obj), (X ++ (Y ++ Z)).Perm (Y ++ (X ++ Z)) := fun X Y Z => by rw [← aQ, ← aQ]; exact List.Perm.append_right _ bn
  refine (e _ _ _).trans <| List.Perm.append_left _ <| (e _ _ _).trans <| List.Perm.append_left _ <| (e _ _ _).trans <| List.Perm.append_left _ <| (e _ _ _).trans <| List.Perm.append_left _ <| (e _ _ _).trans <| List.Perm.append_left _ <| (e _ _ _).trans <| List.Perm.append_left _ ?_
  refine (e _ _ _).trans ?_
  exact List.Perm.refl _)
theorem Mem.drop (A B : List (Nat × Obj)) (h : Mem w R (A ++ B)) : Mem w R B := h.sub (List.sublist_append_right A B)
theorem Mem.new (h : Mem w R H) (k : Mem w' (Qs w) H') : Mem w' R (H' ++ H) := by
 have hk : ∀ b o, w.heap[b]? = some o → w'.heap[b]? = some o := fun b o e => k.rest b o e
 refine ⟨k.os.trans h.os, k.tape.trans h.tape, k.output.trans h.output, fun b o e => hk _ _ (h.rest b o e), ?_, ?_, ?_⟩
 ·intro p hp
  rcases List.mem_append.1 hp with hp | hp
  ·exact k.own p hp
  exact hk _ _ (h.own p hp)
 ·intro p hp
  rcases List.mem_append.1 hp with hp | hp
  ·cases hr : R.blk p.1 with
   | none => rfl
   | some o => exact absurd (h.rest _ _ hr) (by have := k.disj p hp; simp only [Qs] at this; rw [this]; simp)
  exact h.disj p hp
 rw [dF, List.nodup_append]
 refine ⟨k.nodup, h.nodup, ?_⟩
 intro x hx y hy e
 subst e
 obtain ⟨p, hp, rfl⟩ := List.mem_map.1 hx
 obtain ⟨q, hq, hpq⟩ := List.mem_map.1 hy
 have h1 := k.disj p hp
 have h2 := h.own q hq
 simp only [Qs] at h1
 rw [hpq, h1] at h2; cases h2
theorem Mem.toExt {w0 : World} (k : Mem w (Qs w0) H) : Ext w0 w := ⟨k.os, k.tape, k.output, fun b o e => k.rest b o e⟩
theorem Mem.only (h : Mem w R H) : Mem w R [] := h.sub (List.nil_sublist _)
end
def elpv (v : Value) (i : Int) : Value := match v with | .slice a _ _ => elp a i.toNat | _ => undef
structure Rd {α : Type} (m : Nat → Option Obj) (f : α → Value) (v : Value) (l : List α) : Prop where
 is : ∃ a cap, v = .slice a l.length cap ∧ l.length ≤ cap ∧ ∀ i (h : i < l.length), ∃ b off c E fz, a = some ⟨b, off, none⟩ ∧ m b = some (.cells c E fz) ∧ c[off + i]? = some (f l[i])
theorem Rd.mono {α : Type} {m m' : Nat → Option Obj} {f : α → Value} {v : Value} {l : List α} (h : Rd m f v l) (hm : ∀ b o, m b = some o → m' b = some o) : Rd m' f v l := by
 obtain ⟨a, cap, h1, hle, h2⟩ := h.is
 exact ⟨a, cap, h1, hle, fun i hi => let ⟨b, off, c, E, fz, e1, e2, e3⟩ := h2 i hi; ⟨b, off, c, E, fz, e1, hm _ _ e2, e3⟩⟩
theorem Rd.nil {α : Type} {m : Nat → Option Obj} {f : α → Value} (a : Option Addr) (cap : Nat) : Rd m f (.slice a 0 cap) ([] : List α) := ⟨a, cap, rfl, Nat.zero_le _, fun i h => by simp at h⟩
theorem Rd.mk' {α : Type} {m : Nat → Option Obj} {f : α → Value} {b off cap : Nat} {c : Array Value} {E : TypeId} {fz : Nat × Nat} {l : List α} (hle : l.length ≤ cap) (hb : m b = some (.cells c E fz)) (h : ∀ i (h : i < l.length), c[off + i]? = some (f l[i])) :
  Rd m f (Wi b off l.length cap) l := ⟨some ⟨b, off, none⟩, cap, rfl, hle, fun i hi => ⟨b, off, c, E, fz, rfl, hb, h i hi⟩⟩
def Jd (w : World) : Nat → Option Obj := fun b => w.heap[b]?
theorem Rd.ext {α : Type} {w w' : World} {f : α → Value} {v : Value} {l : List α} (h : Rd (Jd w) f v l) (e : Ext w w') : Rd (Jd w') f v l := h.mono fun b o hb => e.blk b o hb
theorem Rd.ofRest {α : Type} {w : World} {R : Rest} {H : List (Nat × Obj)} {f : α → Value} {v : Value} {l : List α} (h : Rd R.blk f v l) (hm : Mem w R H) : Rd (Jd w) f v l := h.mono fun b o hb => hm.rest b o hb
def Z9 {α : Type} (f : α → Value) (E : TypeId) (v : Value) (l : List α) (Hs : List (Nat × Obj)) : Prop :=
 ((∃ a, v = .slice a 0 0) ∧ l = [] ∧ Hs = []) ∨ ∃ (b : Nat) (pre sp post : List Value), v = Wi b pre.length l.length (l.length + sp.length) ∧ Hs = [(b, .cells (pre ++ (l.map f ++ (sp ++ post))).toArray E (0, 0))]
theorem Z9.none {α : Type} (f : α → Value) (E : TypeId) : Z9 f E (.slice none 0 0) ([] : List α) [] := .inl ⟨⟨_, rfl⟩, rfl, rfl⟩
theorem Z9.empty {α : Type} (f : α → Value) (E : TypeId) (a : Option Addr) : Z9 f E (.slice a 0 0) ([] : List α) [] := .inl ⟨⟨_, rfl⟩, rfl, rfl⟩
theorem Z9.of {α : Type} (f : α → Value) (E : TypeId) (b : Nat) (l : List α) : Z9 f E (Wi b 0 l.length l.length) l [(b, .cells (cl f l) E (0, 0))] := .inr ⟨b, [], [], [], by simp, by simp [cl]⟩
theorem Z9.made {α : Type} (f : α → Value) (E : TypeId) (b : Nat) (l : List α) (n : Nat) (h : n ≤ l.length) : Z9 f E (Wi b 0 n l.length) (l.take n) [(b, .cells (cl f l) E (0, 0))] :=
 .inr ⟨b, [], (l.drop n).map f, [], by simp [Nat.min_eq_left h]; congr 1; omega, by
  have : l.map f = (l.take n).map f ++ (l.drop n).map f := by rw [← dF, List.take_append_drop]
  rw [cl, this]; simp only [List.nil_append, List.append_nil]⟩
theorem Z9.rd {α : Type} {f : α → Value} {E : TypeId} {v : Value} {l : List α} {Hs H : List (Nat × Obj)} {w : World} {R : Rest} (h : Z9 f E v l Hs) (hm : Mem w R (Hs ++ H)) : Rd (Jd w) f v l := by
 rcases h with ⟨⟨a, rfl⟩, rfl, rfl⟩ | ⟨b, pre, sp, post, rfl, rfl⟩
 ·exact Rd.nil _ _
 exact Rd.mk' (by omega) (hm.own (b, .cells (pre ++ (l.map f ++ (sp ++ post))).toArray E (0, 0)) Ya) (fun i hi => by
  simp only [dN]
  rw [List.getElem?_append_right (by omega), Nat.add_sub_cancel_left, List.getElem?_append_left (by simpa using hi)]
  simp [hi])
theorem Z9.len {α : Type} {f : α → Value} {E : TypeId} {v : Value} {l : List α} {Hs : List (Nat × Obj)} (h : Z9 f E v l Hs) : ∃ a cap, v = .slice a l.length cap := by
 rcases h with ⟨⟨a, rfl⟩, rfl, rfl⟩ | ⟨b, pre, sp, post, rfl, rfl⟩
 ·exact ⟨_, _, rfl⟩
 exact ⟨_, _, rfl⟩
section
variable {P : Program} {fr : Nat → Value} {w : World} {ty T E : TypeId} {x y : Operand} {d : TypeDesc} {z : Option Value} {n kb b off : Nat} {c : Array Value} {fz : Nat × Nat} {R : Rest} {H Hs : List (Nat × Obj)} {α : Type} {f : α → Value} {v : Value} {l : List α}
theorem Qir {m : Nat → Option Obj} {k : IntKind} {i : Int} (h : Rd m f v l) (hu : P.underlying T = some (.slice E)) (hi : Ji P E = some (z, 1, kb)) (hx : Ql fr x = v) (hy : Ql fr y = .int k i) (h0 : 0 ≤ i) (h1 : i < l.length) :
  Jv P fr w (.indexAddr T x y) ty (elpv v i) := by
 obtain ⟨a, cap, rfl, _, h2⟩ := h.is
 obtain ⟨b, off, c, E', fz, rfl, _, _⟩ := h2 i.toNat (by omega)
 have := Sr (w := w) (ty := ty) hu hi hx hy h0 h1
 simpa [elpv, elp] using this
theorem Qq2 {k : Int} {a : Option Addr} {len cap : Nat} (hv : v = .slice a len cap) (h : Rd (Jd w) f v l) (hu : P.underlying T = some d) (hd : Pg d = false) (_h0 : 0 ≤ k) (h1 : k.toNat < l.length) (hx : Ql fr x = elp a k.toNat) : Jv P fr w (.load T x) ty (f l[k.toNat]) := by
 obtain ⟨a', cap', h3, _, h2⟩ := h.is
 subst hv
 cases h3
 obtain ⟨b, off, c, E', fz, rfl, hb, hc⟩ := h2 k.toNat h1
 have hx' : Ql fr x = ptr b (off + k.toNat) := by rw [hx]; simp [elp, Vq, ptr]
 exact Qi hu hd hx' hb hc
theorem Gw {k : IntKind} {i : Int} {m : Nat} {code : BoundsCode} (h0 : 0 ≤ i) (h1 : i ≤ m) : (Instr.sliceBound (.int k i) m code).run P w = .ok i.toNat w := by
 simp [Instr.sliceBound, asIntOf, h0, h1]
def Qdc (o : Option Operand) (fr : Nat → Value) (dflt : Int) (i : Int) : Prop :=
 match o with | none => i = dflt | some x => ∃ k, Ql fr x = .int k i
theorem Zd (fr : Nat → Value) (i : Int) : Qdc none fr i i := rfl
theorem Yb {fr : Nat → Value} {dflt i : Int} {k : IntKind} {x : Operand} (h : Ql fr x = .int k i) : Qdc (some x) fr dflt i := ⟨k, h⟩
theorem Qcs {isSl : Bool} {len cap : Nat} {lo hi : Option Operand} {i j : Int} (hlo : Qdc lo fr 0 i) (hhi : Qdc hi fr len j) (h0 : 0 ≤ i) (h1 : i ≤ j) (h2 : j ≤ cap) :
  (Instr.sliceBounds isSl len cap (lo.map (Ql fr)) (hi.map (Ql fr)) none).run P w = .ok (i.toNat, j.toNat, cap) w := by
 have hj0 : 0 ≤ j := by omega
 unfold Instr.sliceBounds
 cases hi with
 | none =>
  simp only [Qdc] at hhi
  subst hhi
  cases lo with
  | none => simp only [Qdc] at hlo; subst hlo; simp
  | some x => obtain ⟨k, hx⟩ := hlo; simp [hx, Gw h0 h1]
 | some y =>
  obtain ⟨k', hy⟩ := hhi
  cases lo with
  | none => simp only [Qdc] at hlo; subst hlo; simp [hy, Gw hj0 h2]
  | some x =>
   obtain ⟨k, hx⟩ := hlo
   have h1' : i ≤ (j.toNat : Nat) := by omega
   simp [hx, hy, Gw hj0 h2, Gw h0 h1']
theorem Qni {len : Nat} {lo hi : Option Operand} {i j : Int} (hu : P.underlying T = some (.array len E)) (hi' : Ji P E = some (z, n, kb)) (hx : Ql fr x = ptr b off) (hlo : Qdc lo fr 0 i) (hhi : Qdc hi fr len j) (h0 : 0 ≤ i) (h1 : i ≤ j) (h2 : j ≤ len) :
  Jv P fr w (.slice T x lo hi none) ty (Wi b (if len = i.toNat then off else off + i.toNat * n) (j.toNat - i.toNat) (len - i.toNat)) := by
 unfold Jv Lp
 show Sem.run P (do let v ← Instr.sliceAt T (Ql fr x) (lo.map (Ql fr)) (hi.map (Ql fr)) ((none : Option Operand).map (Ql fr)); pure (Next.value v)) w = _
 rw [hx]
 simp [Instr.sliceAt, W9 hu, Instr.sureAddr, ptr, Qcs hlo hhi h0 h1 h2, J9 hi', Vq, Wi]
 split <;> rfl
theorem Qdn {len cap : Nat} {a : Option Addr} {lo hi : Option Operand} {i j : Int} (hu : P.underlying T = some (.slice E)) (hi' : Ji P E = some (z, n, kb)) (hx : Ql fr x = .slice a len cap) (hlo : Qdc lo fr 0 i) (hhi : Qdc hi fr len j) (h0 : 0 ≤ i) (h1 : i ≤ j) (h2 : j ≤ cap) :
  Jv P fr w (.slice T x lo hi none) ty (.slice (if cap = i.toNat then a else a.map (·.add (i.toNat * n))) (j.toNat - i.toNat) (cap - i.toNat)) := by
 unfold Jv Lp
 show Sem.run P (do let v ← Instr.sliceAt T (Ql fr x) (lo.map (Ql fr)) (hi.map (Ql fr)) ((none : Option Operand).map (Ql fr)); pure (Next.value v)) w = _
 rw [hx]
 simp [Instr.sliceAt, Instr.slice, W9 hu, Qcs hlo hhi h0 h1 h2, J9 hi']
theorem Rd.slice {m : Nat → Option Obj} {a : Option Addr} {len cap : Nat} {i j : Int} (h : Rd m f (.slice a len cap) l) (h0 : 0 ≤ i) (h1 : i ≤ j) (h2 : j ≤ len) :
  Rd m f (.slice (if cap = i.toNat then a else a.map (·.add (i.toNat * 1))) (j.toNat - i.toNat) (cap - i.toNat)) ((l.drop i.toNat).take (j.toNat - i.toNat)) := by
 obtain ⟨a', cap', h3, hle, h4⟩ := h.is
 cases h3
 have hl : ((l.drop i.toNat).take (j.toNat - i.toNat)).length = j.toNat - i.toNat := by simp; omega
 refine ⟨_, _, by rw [hl], by rw [hl]; omega, fun t ht => ?_⟩
 rw [hl] at ht
 obtain ⟨b, off, c, E', fz, rfl, hb, hc⟩ := h4 (i.toNat + t) (by omega)
 have hc' : c[off + (i.toNat + t)]? = some (f ((l.drop i.toNat).take (j.toNat - i.toNat))[t]) := by rw [hc]; simp
 by_cases hcap : cap = i.toNat
 ·
  exfalso; omega
 exact ⟨b, off + i.toNat, c, E', fz, by rw [if_neg hcap]; simp [Vq], hb, by rw [Nat.add_assoc]; exact hc'⟩
end
end --m
section
set_option linter.unusedSimpArgs false
set_option linter.unusedVariables false
section
variable {P : Program} {w : World} {α : Type} {f : α → Value} {u : Value} {ms : List α} {b off : Nat}
theorem Qjt (h : Rd (Jd w) f u ms) : (Builtin.lenOf u).run P w = .ok ms.length w ∧ ∀ d, (bI 1 ms.length u).run P { w with drawn := d } = .ok (cl f ms) { w with drawn := d } := by
 obtain ⟨a, cap, rfl, hle, h2⟩ := h.is
 refine ⟨by simp [Builtin.lenOf], fun d => ?_⟩
 cases a with
 | none =>
  have : ms = [] := by
   cases ms with
   | nil => rfl
   | cons x ms => obtain ⟨b, off, c, E, fz, h, _⟩ := h2 0 Ya; cases h
  subst this; simp [bI, cl]
 | some ad =>
  by_cases hz : ms.length = 0
  ·have : ms = [] := dR hz
   subst this
   simp [bI, loadCells, loadCellsFrom, cl]
  obtain ⟨b, off, c, E, fz, hab, hb, _⟩ := h2 0 (by omega)
  cases hab
  have hall : ∀ i (h : i < ms.length), c[off + i]? = some (f ms[i]) := by
   intro i hi
   obtain ⟨b', off', c', E', fz', hab, hb', hc⟩ := h2 i hi
   cases hab
   simp only [Jd] at hb hb'
   rw [hb] at hb'; cases hb'; exact hc
  have hsz : off + ms.length ≤ c.size := by
   have := hall (ms.length - 1) (by omega)
   have hlt : off + (ms.length - 1) < c.size := by
    rcases Nat.lt_or_ge (off + (ms.length - 1)) c.size with h | h
    ·exact h
    rw [Array.getElem?_eq_none h] at this; cases this
   omega
  simp only [bI, Nat.mul_one]
  rw [P9 (w := { w with drawn := d }) (n := ms.length) hb hsz]
  congr 1
  apply Array.ext'
  apply List.ext_getElem?
  intro i
  simp only [Array.toList_extract, List.extract_eq_take_drop, cl, List.getElem?_take, List.getElem?_drop, List.getElem?_map]
  by_cases hi : i < ms.length
  ·rw [if_pos (by omega)]
   have := hall i hi
   simp only [Array.getElem?_toList, this]; simp [hi]
  rw [if_neg (by omega)]; simp [List.getElem?_eq_none (Nat.le_of_not_lt hi)]
end
theorem Qt7 (n c : Nat) : Builtin.growBy n 4 c ≤ 3 * c + 1200 := by
 simp only [Builtin.growBy]
 repeat' split
 all_goals omega
theorem Qip {need old : Nat} (h : old < need) : dW need old ≤ 4 * need + 1024 := by
 unfold dW
 split
 ·omega
 split
 ·omega
 have := Qt7 need old; omega
section
variable {P : Program} {fr : Nat → Value} {w : World} {ty T T' E E' : TypeId} {x y : Operand} {d : TypeDesc} {z : Option Value} {n kb b off : Nat} {c : Array Value} {fz : Nat × Nat} {R : Rest} {H Hs : List (Nat × Obj)} {α : Type} {f : α → Value} {v : Value} {l : List α}
theorem Ef (bi : Builtin) (xs : Array Operand) (ts : Array TypeId) : Lp (Ql fr) (.call ⟨.builtin bi, xs, ts⟩) ty = builtin bi ts ty (xs.map fun | .const _ => true | _ => false) (xs.map (Ql fr)) := rfl
theorem Qep {zv u : Value} {ms : List α} {a : Option Addr} {len cap : Nat} (hx : Ql fr x = .slice a len cap) (hy : Ql fr y = u) (hr : Rd (Jd w) f u ms) (hT : P.underlying T = some (.slice E)) (hT' : P.underlying T' = some (.slice E'))
  (hi : Ji P E = some (some zv, 1, kb)) (hc : len + ms.length ≤ cap) {w' : World} (hs : ∀ a', a = some a' → (storeCells (a'.add len) (cl f ms).toList).run P w = .ok () w') (hn : a = none → w' = w) :
  (Lp (Ql fr) (.call ⟨.builtin .append, #[x, y], #[T, T']⟩) ty).run P w = .ok (.value (.slice a (len + ms.length) cap)) w' := by
 obtain ⟨hlen, hcells⟩ := Qjt (P := P) hr
 have hcells0 : (bI 1 ms.length u).run P w = .ok (cl f ms) w := hcells w.drawn
 rw [Ef]
 simp only [List.map_toArray, List.map_cons, List.map_nil, hx, hy]
 simp only [builtin, Builtin.append_, Sem.run_bind]
 simp only [dN, List.getElem?_cons_zero, List.getElem?_cons_succ]
 simp only [Sem.run_bind, W9 hT, Result.andThen_ok, J9 hi, W9 hT', Sem.run_pure, Bool.false_eq_true, if_false, hlen, hc, if_true]
 cases a with
 | none => simp [hcells0, hn]
 | some a' => have := hs a' rfl; simp [hcells0, this]
theorem Qjl {zv u : Value} {ms : List α} {a : Option Addr} {cap : Nat} (hx : Ql fr x = .slice a l.length cap) (hy : Ql fr y = u) (hr : Rd (Jd w) f u ms) (hv : Rd (Jd w) f (.slice a l.length cap) l) (hT : P.underlying T = some (.slice E)) (hT' : P.underlying T' = some (.slice E'))
  (hi : Ji P E = some (some zv, 1, kb)) (hz1 : zv.cells.size = 1) (hc : ¬ l.length + ms.length ≤ cap) (hn : (4 * (l.length + ms.length) + 1024) * kb ≤ 281474976710656) (hn1 : l.length + ms.length ≤ 281474976710656) :
  ∃ nc rest, nc = l.length + ms.length + (Array.size rest) ∧ (Lp (Ql fr) (.call ⟨.builtin .append, #[x, y], #[T, T']⟩) ty).run P w =
   .ok (.value (.slice (some ⟨w.heap.size, 0, none⟩) (l.length + ms.length) nc)) { w with heap := w.heap.push (.cells (cl f l ++ cl f ms ++ rest) E), drawn := w.drawn + 1 } := by
 obtain ⟨hlen, hcells⟩ := Qjt (P := P) hr
 have hnew : (bI 1 ms.length u).run P w.drew = .ok (cl f ms) w.drew := hcells (w.drawn + 1)
 have hold : (bI 1 l.length (.slice a l.length cap)).run P w.drew = .ok (cl f l) w.drew := (Qjt (P := P) hv).2 (w.drawn + 1)
 obtain ⟨info, hi1, hi2, hi3, hi4⟩ := Tv (P := P) (w := w) hi
 obtain ⟨info', hi1', hi2', _, _⟩ := Tv (P := P) (w := w.drew) hi
 have h1 : ¬ (9223372036854775807 < (l.length : Int) + (ms.length : Int) ∧ info.bytes = 0) := by omega
 have h2 : ¬ (281474976710656 < dW (l.length + ms.length) cap * info.bytes) := by
  have := Qip (need := l.length + ms.length) (old := cap) (by omega)
  have h3 : dW (l.length + ms.length) cap * kb ≤ (4 * (l.length + ms.length) + 1024) * kb := Nat.mul_le_mul_right _ this
  rw [hi2]; omega
 have hz : (zeroValue E).run P w.drew = .ok zv w.drew := U8 hi
 let t := w.tape w.drawn (.appendCap (l.length + ms.length) cap E)
 refine ⟨l.length + ms.length + t % (2 ^ 63 - (l.length + ms.length)), cZ zv.cells (t % (2 ^ 63 - (l.length + ms.length))), ?_, ?_⟩
 ·simp [cZ, hz1]
 rw [Ef]
 simp only [List.map_toArray, List.map_cons, List.map_nil, hx, hy]
 simp only [builtin, Builtin.append_, Sem.run_bind]
 simp only [dN, List.getElem?_cons_zero, List.getElem?_cons_succ]
 simp only [Sem.run_bind, W9 hT, Result.andThen_ok, J9 hi, W9 hT', Sem.run_pure, Bool.false_eq_true, if_false, hlen, hc]
 simp [hi1, h1, h2, Question.forced, Question.cut, hold, hnew, hi1', hz, newRow, IntKind.max, IntKind.signed, IntKind.bits]
 exact ⟨rfl, rfl⟩
theorem Xh {zv u : Value} {ms : List α} (hm : Mem w R (Hs ++ H)) (hg : Z9 f E v l Hs) (hx : Ql fr x = v) (hy : Ql fr y = u) (hr : Rd (Jd w) f u ms) (hT : P.underlying T = some (.slice E)) (hT' : P.underlying T' = some (.slice E'))
  (hi : Ji P E = some (some zv, 1, kb)) (hz1 : zv.cells.size = 1) (hf : ∀ a, (f a).oneCell' = true) (hn : (4 * (l.length + ms.length) + 1024) * kb ≤ 281474976710656) (hn1 : l.length + ms.length ≤ 281474976710656) :
  Vf P fr w (.call ⟨.builtin .append, #[x, y], #[T, T']⟩) ty (fun v' w' => ∃ Hs', Mem w' R (Hs' ++ H) ∧ Z9 f E v' (l ++ ms) Hs') := by
 have hrd := hg.rd hm
 have grow : ∀ a cap, v = .slice a l.length cap → ¬ l.length + ms.length ≤ cap →
   Vf P fr w (.call ⟨.builtin .append, #[x, y], #[T, T']⟩) ty (fun v' w' => ∃ Hs', Mem w' R (Hs' ++ H) ∧ Z9 f E v' (l ++ ms) Hs') := by
  intro a cap hv hc
  subst hv
  obtain ⟨nc, rest, hnc, hrun⟩ := Qjl (ty := ty) hx hy hr hrd hT hT' hi hz1 hc hn hn1
  refine .inl ⟨_, _, hrun, [(w.heap.size, .cells (cl f l ++ cl f ms ++ rest) E (0, 0))], ?_, ?_⟩
  ·have h1 := ((hm.drop Hs H).drew).alloc (.cells (cl f l ++ cl f ms ++ rest) E)
   exact h1
  refine .inr ⟨w.heap.size, [], rest.toList, [], ?_, ?_⟩
  ·simp [Wi, hnc]
  congr 3
  apply Array.ext'; simp [cl]
 rcases hg with ⟨⟨a, rfl⟩, rfl, rfl⟩ | ⟨b, pre, sp, post, rfl, rfl⟩
 ·by_cases hms : ms.length = 0
  ·have : ms = [] := dR hms
   subst this
   have hrun := Qep (ty := ty) (w' := w) hx hy hr hT hT' hi Ya (fun a' _ => by simp [cl, storeCells]) (fun _ => rfl)
   exact .inl ⟨_, _, hrun, [], hm, .inl ⟨⟨_, rfl⟩, rfl, rfl⟩⟩
  exact grow a 0 rfl (by simp only [List.length_nil]; omega)
 by_cases hc : l.length + ms.length ≤ l.length + sp.length
 ·have hb : w.heap[b]? = some (.cells (pre ++ (l.map f ++ (sp ++ post))).toArray E (0, 0)) := hm.own (b, .cells (pre ++ (l.map f ++ (sp ++ post))).toArray E (0, 0)) Ya
  obtain ⟨w', h1, h2⟩ := Ff (P := P) (cl f ms).toList 0 (pre.length + l.length) (pre ++ (l.map f ++ (sp ++ post))).toArray w hb (by simp [cl]; omega) Ya (by simp [cl]; intro a _; exact hf a)
  have hrun := Qep (ty := ty) (w' := w') hx hy hr hT hT' hi hc (fun a' ha => by cases ha; rw [Vq]; exact h1) (fun h => by cases h)
  refine .inl ⟨_, _, hrun, [(b, .cells (pre ++ ((l ++ ms).map f ++ (sp.drop ms.length ++ post))).toArray E (0, 0))], ?_, .inr ⟨b, pre, sp.drop ms.length, post, ?_, rfl⟩⟩
  ·have h3 := Mem.upd (H1 := []) hm h2
   have e : ovr (pre ++ (l.map f ++ (sp ++ post))).toArray (pre.length + l.length + 0) (cl f ms).toList = (pre ++ ((l ++ ms).map f ++ (sp.drop ms.length ++ post))).toArray := by
    apply Array.ext'
    rw [Po _ _ _ (by simp [cl]; omega)]
    have e1 : List.drop (ms.length - sp.length) post = post := by rw [Nat.sub_eq_zero_of_le (by omega), List.drop_zero]
    have e2 : List.take (pre.length + l.length) pre = pre := List.take_of_length_le (by omega)
    have e3 : List.drop (pre.length + (l.length + ms.length)) pre = [] := List.drop_of_length_le (by omega)
    have e4 : List.drop (l.length + ms.length) (List.map f l) = [] := List.drop_of_length_le Ya
    simp [cl, List.take_append, List.drop_append, Nat.add_assoc, e1, e2, e3, e4]
   rw [e] at h3
   exact h3
  simp [Wi]; omega
 exact grow (some ⟨b, pre.length, none⟩) (l.length + sp.length) rfl hc
end
end --m
end Go.Proofs.YtkmiemlpfkfiiaaDoor
