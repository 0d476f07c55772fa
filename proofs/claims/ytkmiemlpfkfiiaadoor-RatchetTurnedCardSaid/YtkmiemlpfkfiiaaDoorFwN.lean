/- The framework, part N: slices whose elements take more cells than one. Conditions: none. -/
import Derived.Deep.DeepAppendWide
import Derived.Test.YtkmiemlpfkfiiaaDoorFwM
namespace Go.Proofs.YtkmiemlpfkfiiaaDoor
open Builtin renaming firstCells → bI, nextslicecap → dW, zeroCells → cZ
open List renaming eq_nil_of_length_eq_zero → dR, getD_eq_getElem?_getD → aI, getElem?_eq_getElem → dB, getElem?_toArray → dN, length_append → ag
open Nat renaming add_sub_cancel_left → dh, blt → dL, le_of_ble_eq_true → bQ, lt_or_ge → ay, mul_le_mul_right → dC
set_option linter.unusedSimpArgs false
set_option linter.unusedVariables false
section
variable {α : Type} {enc : α → List Value} {k : Nat}
theorem U0 {l : List α} (h : ∀ a ∈ l, (enc a).length = k) : (l.flatMap enc).length = l.length * k := by
 induction l with
 | nil => simp
 | cons a l ih =>
  rw [List.flatMap_cons, ag, h a Ya, ih fun b hb => h b (by simp [hb]), List.length_cons, Nat.add_mul]; omega
theorem Qpe {l : List α} (h : ∀ a ∈ l, (enc a).length = k) : ∀ (i : Nat) (hi : i < l.length) (q : Nat), q < k → (l.flatMap enc)[i * k + q]? = (enc l[i])[q]? := by
 induction l with
 | nil => intro i hi; simp at hi
 | cons a l ih =>
  intro i hi q hq
  have ha : (enc a).length = k := h a Ya
  rw [List.flatMap_cons]
  cases i with
  | zero => rw [List.getElem?_append_left (by omega)]; simp
  | succ i =>
   rw [List.getElem?_append_right (by rw [ha, Nat.add_mul]; omega)]
   have e : (i + 1) * k + q - (enc a).length = i * k + q := by rw [ha, Nat.add_mul]; omega
   rw [e]
   simpa using ih (fun b hb => h b (by simp [hb])) i (by simpa using hi) q hq
structure RdK (m : Nat → Option Obj) (enc : α → List Value) (k : Nat) (v : Value) (l : List α) : Prop where
 len : ∀ a ∈ l, (enc a).length = k
 is : ∃ a cap, v = .slice a l.length cap ∧ l.length ≤ cap ∧ ∀ i (h : i < l.length), ∃ b off c E fz, a = some ⟨b, off, none⟩ ∧ m b = some (.cells c E fz) ∧ ∀ q, q < k → c[off + (i * k + q)]? = (enc l[i])[q]?
variable {m m' : Nat → Option Obj} {v : Value} {l : List α}
theorem RdK.mono (h : RdK m enc k v l) (hm : ∀ b o, m b = some o → m' b = some o) : RdK m' enc k v l := by
 obtain ⟨a, cap, h1, hle, h2⟩ := h.is
 exact ⟨h.len, a, cap, h1, hle, fun i hi => let ⟨b, off, c, E, fz, e1, e2, e3⟩ := h2 i hi; ⟨b, off, c, E, fz, e1, hm _ _ e2, e3⟩⟩
theorem RdK.nil (a : Option Addr) (cap : Nat) : RdK m enc k (.slice a 0 cap) ([] : List α) := ⟨by simp, a, cap, rfl, Nat.zero_le _, fun i h => by simp at h⟩
theorem RdK.mk' {b off cap : Nat} {c : Array Value} {E : TypeId} {fz : Nat × Nat} (hl : ∀ a ∈ l, (enc a).length = k) (hle : l.length ≤ cap) (hb : m b = some (.cells c E fz)) (h : ∀ i (h : i < l.length), ∀ q, q < k → c[off + (i * k + q)]? = (enc l[i])[q]?) :
  RdK m enc k (Wi b off l.length cap) l := ⟨hl, some ⟨b, off, none⟩, cap, rfl, hle, fun i hi => ⟨b, off, c, E, fz, rfl, hb, h i hi⟩⟩
theorem RdK.ofRest {w : World} {R : Rest} {H : List (Nat × Obj)} (h : RdK R.blk enc k v l) (hm : Mem w R H) : RdK (Jd w) enc k v l := h.mono fun b o hb => hm.rest b o hb
theorem RdK.addRest {w : World} {R : Rest} {H H' : List (Nat × Obj)} (h : Mem w R (H ++ H')) (hr : RdK R.blk enc k v l) : RdK (R.add H').blk enc k v l := hr.mono fun b o e => h.addRest e
theorem RdK.one (h : RdK m enc k v l) : v.oneCell' = true := by obtain ⟨a, cap, rfl, _⟩ := h.is; rfl
theorem RdK.cast {l' : List α} (h : RdK m enc k v l) (e : l = l') : RdK m enc k v l' := e ▸ h
def Pi (v : Value) (i j : Int) (k : Nat) : Value := match v with | .slice a len cap => .slice (if cap = i.toNat then a else a.map (·.add (i.toNat * k))) (j.toNat - i.toNat) (cap - i.toNat) | _ => undef
theorem RdK.sub {i j : Int} (h : RdK m enc k v l) (h0 : 0 ≤ i) (h1 : i ≤ j) (h2 : j ≤ l.length) : RdK m enc k (Pi v i j k) ((l.drop i.toNat).take (j.toNat - i.toNat)) := by
 obtain ⟨a, cap, rfl, hle, h4⟩ := h.is
 have hl : ((l.drop i.toNat).take (j.toNat - i.toNat)).length = j.toNat - i.toNat := by simp; omega
 refine ⟨fun a ha => h.len a (List.mem_of_mem_drop (List.mem_of_mem_take ha)), _, _, by rw [hl]; rfl, by rw [hl]; omega, fun t ht => ?_⟩
 rw [hl] at ht
 obtain ⟨b, off, c, E', fz, rfl, hb, hc⟩ := h4 (i.toNat + t) (by omega)
 by_cases hcap : cap = i.toNat
 ·exfalso; omega
 refine ⟨b, off + i.toNat * k, c, E', fz, by rw [if_neg hcap]; simp [Vq], hb, fun q hq => ?_⟩
 have := hc q hq
 have e : off + i.toNat * k + (t * k + q) = off + ((i.toNat + t) * k + q) := by rw [Nat.add_mul]; omega
 rw [e, this]; simp
def Qgs (v : Value) (i : Int) (k off : Nat) : Value := match v with | .slice a _ _ => .pointer (a.map (·.add (i.toNat * k + off))) | _ => undef
theorem Qgr {i : Int} {off : Nat} (h : RdK m enc k v l) (hi : i.toNat < l.length) : ∃ b o c E fz, Qgs v i k off = ptr b (o + (i.toNat * k + off)) ∧ m b = some (.cells c E fz) ∧ ∀ q, q < k → c[o + (i.toNat * k + q)]? = (enc l[i.toNat])[q]? := by
 obtain ⟨a, cap, rfl, hle, h4⟩ := h.is
 obtain ⟨b, o, c, E, fz, rfl, hb, hc⟩ := h4 i.toNat hi
 exact ⟨b, o, c, E, fz, by simp [Qgs, Vq, ptr], hb, hc⟩
end
section
variable {P : Program} {fr : Nat → Value} {w : World} {ty T E : TypeId} {x y : Operand} {d : TypeDesc} {z : Option Value} {n k kb off : Nat} {R : Rest} {H Hs : List (Nat × Obj)} {α : Type} {enc : α → List Value} {v : Value} {l : List α} {m : Nat → Option Obj}
theorem Y4 {kk : IntKind} {i : Int} (h : RdK m enc k v l) (hu : P.underlying T = some (.slice E)) (hi : Ji P E = some (z, k, kb)) (hx : Ql fr x = v) (hy : Ql fr y = .int kk i) (h0 : 0 ≤ i) (h1 : i < l.length) :
  Jv P fr w (.indexAddr T x y) ty (Qgs v i k 0) := by
 obtain ⟨a, cap, rfl, _, h2⟩ := h.is
 obtain ⟨b, o, c, E', fz, rfl, _, _⟩ := h2 i.toNat (by omega)
 have := Sr (w := w) (ty := ty) hu hi hx hy h0 h1
 simpa [Qgs] using this
theorem Qgo {fs : Array Field} {j r : Nat} {f : Field} {i : Int} (h : RdK m enc k v l) (hi' : i.toNat < l.length) (hu : P.underlying T = some (.struct fs)) (hf : fs[j]? = some f) (hr : off + f.offset = r) (hi : Ji P f.type = some (z, n, kb)) (hn : dL 0 n = true) (hx : Ql fr x = Qgs v i k off) :
  Jv P fr w (.fieldAddr T x j) ty (Qgs v i k r) := by
 obtain ⟨b, o, c, E, fz, e, _, _⟩ := Qgr (off := off) h hi'
 obtain ⟨b', o', c', E', fz', e', _, _⟩ := Qgr (off := r) h hi'
 have hbb : b' = b ∧ o' = o := by
  obtain ⟨a, cap, rfl, _, h2⟩ := h.is
  obtain ⟨b2, o2, _, _, _, rfl, _, _⟩ := h2 i.toNat hi'
  simp only [Qgs, Option.map_some, Vq, ptr, Value.pointer.injEq, Option.some.injEq, Addr.mk.injEq] at e e'
  omega
 rw [e] at hx
 have := Qgn (w := w) (ty := ty) hu hf hi hn hx
 rw [e', hbb.1, hbb.2, ← hr]
 have e2 : o + (i.toNat * k + off) + f.offset = o + (i.toNat * k + (off + f.offset)) := by omega
 rwa [e2] at this
theorem Nc {i : Int} {dflt : α} {u : Value} (h : RdK (Jd w) enc k v l) (hi' : i.toNat < l.length) (hu : P.underlying T = some d) (hd : Pg d = false) (hx : Ql fr x = Qgs v i k off) (ho : off < k) (he : (enc (l.getD i.toNat dflt))[off]? = some u) : Jv P fr w (.load T x) ty u := by
 obtain ⟨b, o, c, E, fz, e, hb, hc⟩ := Qgr (off := off) h hi'
 rw [e] at hx
 have eg : l.getD i.toNat dflt = l[i.toNat] := by simp [aI, hi']
 rw [eg] at he
 exact Qi hu hd hx hb (by rw [hc off ho]; exact he)
theorem Ah {i : Int} {dflt : α} {cs : Array Value} (h : RdK (Jd w) enc k v l) (hi' : i.toNat < l.length) (hu : P.underlying T = some d) (hd : Pg d = true) (hi : Ji P T = some (z, n, kb)) (hn0 : dL 0 n = true) (hx : Ql fr x = Qgs v i k off) (ho : off + n ≤ k) (he : (((enc (l.getD i.toNat dflt)).drop off).take n).toArray = cs) : Jv P fr w (.load T x) ty (.agg cs) := by
 obtain ⟨b, o, c, E, fz, e, hb, hc⟩ := Qgr (off := off) h hi'
 rw [e] at hx
 have eg : l.getD i.toNat dflt = l[i.toNat] := by simp [aI, hi']
 rw [eg] at he
 have hlen := h.len l[i.toNat] Ya
 have hsz : o + (i.toNat * k + off) + n ≤ c.size := by
  have h0 := bQ hn0
  have := hc (off + n - 1) (by omega)
  have hs : (enc l[i.toNat])[off + n - 1]? ≠ none := by rw [dB (by omega)]; simp
  rw [← this] at hs
  have : o + (i.toNat * k + (off + n - 1)) < c.size := by
   rcases ay (o + (i.toNat * k + (off + n - 1))) c.size with h | h
   ·exact h
   exact absurd (Array.getElem?_eq_none h) hs
  omega
 have := Qdo (ty := ty) hu hd hi hx hb hsz
 have e2 : c.extract (o + (i.toNat * k + off)) (o + (i.toNat * k + off) + n) = cs := by
  rw [← he]
  apply Array.ext'
  apply List.ext_getElem?
  intro j
  simp only [Array.toList_extract, List.extract_eq_take_drop, List.getElem?_take, List.getElem?_drop, dh]
  by_cases hj : j < n
  ·rw [if_pos hj, if_pos hj]
   have := hc (off + j) (by omega)
   rw [← this]
   simp [Nat.add_assoc]
  rw [if_neg hj, if_neg hj]
 rwa [e2] at this
end
section
variable {P : Program} {w : World} {α : Type} {enc : α → List Value} {k : Nat} {u : Value} {ms : List α}
theorem Qmx (hk : 0 < k) (h : RdK (Jd w) enc k u ms) : (Builtin.lenOf u).run P w = .ok ms.length w ∧ ∀ d, (bI k ms.length u).run P { w with drawn := d } = .ok (ms.flatMap enc).toArray { w with drawn := d } := by
 obtain ⟨a, cap, rfl, hle, h2⟩ := h.is
 refine ⟨by simp [Builtin.lenOf], fun d => ?_⟩
 cases a with
 | none =>
  have : ms = [] := by
   cases ms with
   | nil => rfl
   | cons x ms => obtain ⟨b, off, c, E, fz, h, _⟩ := h2 0 Ya; cases h
  subst this; simp [bI]
 | some ad =>
  by_cases hz : ms.length = 0
  ·have : ms = [] := dR hz
   subst this
   simp [bI, loadCells, loadCellsFrom]
  obtain ⟨b, off, c, E, fz, hab, hb, _⟩ := h2 0 (by omega)
  cases hab
  have hall : ∀ i (h : i < ms.length) q, q < k → c[off + (i * k + q)]? = (enc ms[i])[q]? := by
   intro i hi
   obtain ⟨b', off', c', E', fz', hab, hb', hc⟩ := h2 i hi
   cases hab
   simp only [Jd] at hb hb'
   rw [hb] at hb'; cases hb'; exact hc
  have hl := U0 h.len
  have hsz : off + ms.length * k ≤ c.size := by
   have h3 := hall (ms.length - 1) (by omega) (k - 1) (by omega)
   have hs : (enc ms[ms.length - 1])[k - 1]? ≠ none := by
    rw [dB (by rw [h.len _ Ya]; omega)]; simp
   rw [← h3] at hs
   have h4 : off + ((ms.length - 1) * k + (k - 1)) < c.size := by
    rcases ay (off + ((ms.length - 1) * k + (k - 1))) c.size with h | h
    ·exact h
    exact absurd (Array.getElem?_eq_none h) hs
   have h5 : (ms.length - 1) * k + k = ms.length * k := by
    have : ms.length = (ms.length - 1) + 1 := by omega
    conv => rhs; rw [this, Nat.add_mul]
    omega
   omega
  simp only [bI]
  rw [P9 (w := { w with drawn := d }) (n := ms.length * k) hb hsz]
  congr 1
  apply Array.ext'
  apply List.ext_getElem?
  intro j
  simp only [Array.toList_extract, List.extract_eq_take_drop, List.getElem?_take, List.getElem?_drop]
  by_cases hj : j < ms.length * k
  ·rw [if_pos (by omega)]
   have hq : j % k < k := Nat.mod_lt _ hk
   have hi : j / k < ms.length := by rw [Nat.div_lt_iff_lt_mul hk]; exact hj
   have e : j / k * k + j % k = j := by rw [Nat.mul_comm]; exact Nat.div_add_mod j k
   have h3 := hall (j / k) hi (j % k) hq
   have h4 := Qpe h.len (j / k) hi (j % k) hq
   rw [e] at h3 h4
   rw [h4, ← h3]; simp
  rw [if_neg (by omega), List.getElem?_eq_none (by rw [hl]; omega)]
end
def Yu {α : Type} (enc : α → List Value) (k : Nat) (E : TypeId) (v : Value) (l : List α) (Hs : List (Nat × Obj)) : Prop :=
 (∀ a ∈ l, (enc a).length = k) ∧ (((∃ a, v = .slice a 0 0) ∧ l = [] ∧ Hs = []) ∨
  ∃ (b : Nat) (pre sp post : List Value) (ns : Nat), sp.length = ns * k ∧ v = Wi b pre.length l.length (l.length + ns) ∧ Hs = [(b, .cells (pre ++ (l.flatMap enc ++ (sp ++ post))).toArray E (0, 0))])
section
variable {α : Type} {enc : α → List Value} {k E : Nat} {v : Value} {l : List α} {Hs H H' : List (Nat × Obj)} {w : World} {R : Rest}
theorem Yu.none (enc : α → List Value) (k E : Nat) : Yu enc k E (.slice none 0 0) ([] : List α) [] := ⟨by simp, .inl ⟨⟨_, rfl⟩, rfl, rfl⟩⟩
theorem Yu.of (enc : α → List Value) (k E b : Nat) (l : List α) {n : Nat} (hn : l.length = n) (hl : ∀ a ∈ l, (enc a).length = k) : Yu enc k E (Wi b 0 n n) l [(b, .cells (l.flatMap enc).toArray E (0, 0))] :=
 ⟨hl, .inr ⟨b, [], [], [], 0, by simp, by simp [hn], by simp⟩⟩
theorem Yu.cast {l' : List α} (h : Yu enc k E v l Hs) (e : l = l') : Yu enc k E v l' Hs := e ▸ h
theorem Yu.rdIn {m : Nat → Option Obj} (h : Yu enc k E v l Hs) (hm : ∀ p ∈ Hs, m p.1 = some p.2) : RdK m enc k v l := by
 obtain ⟨hl, ⟨⟨a, rfl⟩, rfl, rfl⟩ | ⟨b, pre, sp, post, ns, hsp, rfl, rfl⟩⟩ := h
 ·exact RdK.nil _ _
 refine RdK.mk' hl (by omega) (hm (b, .cells (pre ++ (l.flatMap enc ++ (sp ++ post))).toArray E (0, 0)) Ya) (fun i hi q hq => ?_)
 have hlt : i * k + q < (l.flatMap enc).length := by
  rw [U0 hl]
  have : i * k + k ≤ l.length * k := by rw [← Nat.succ_mul]; exact dC k hi
  omega
 simp only [dN]
 rw [List.getElem?_append_right (by omega), dh, List.getElem?_append_left hlt]
 exact Qpe hl i hi q hq
theorem Yu.rd (h : Yu enc k E v l Hs) (hm : Mem w R (Hs ++ H)) : RdK (Jd w) enc k v l := h.rdIn fun p hp => hm.own p (List.mem_append_left _ hp)
theorem Yu.rdAdd (h : Yu enc k E v l Hs) (hm : Mem w R (H ++ H')) (hsub : ∀ p ∈ Hs, p ∈ H') : RdK (R.add H').blk enc k v l := h.rdIn fun p hp => hm.addOwn (hsub p hp)
theorem Yu.lenv (h : Yu enc k E v l Hs) : ∃ a cap, v = .slice a l.length cap := by
 obtain ⟨hl, ⟨⟨a, rfl⟩, rfl, rfl⟩ | ⟨b, pre, sp, post, ns, hsp, rfl, rfl⟩⟩ := h
 ·exact ⟨_, _, rfl⟩
 exact ⟨_, _, rfl⟩
theorem Yu.one (h : Yu enc k E v l Hs) : v.oneCell' = true := by obtain ⟨a, cap, rfl⟩ := h.lenv; rfl
theorem Yu.sllen (h : Yu enc k E v l Hs) : sllen v = l.length := by obtain ⟨a, cap, rfl⟩ := h.lenv; rfl
theorem Yu.sub {i j : Int} (hg : Yu enc k E v l Hs) (h0 : 0 ≤ i) (h1 : i ≤ j) (h2 : j ≤ l.length) : Yu enc k E (Pi v i j k) ((l.drop i.toNat).take (j.toNat - i.toNat)) Hs := by
 obtain ⟨hlen, ⟨⟨a0, rfl⟩, rfl, rfl⟩ | ⟨b, pre, sp, post, ns, hsp, rfl, rfl⟩⟩ := hg
 ·simp at h2
  have e0 : i.toNat = 0 := by omega
  have e1 : j.toNat = 0 := by omega
  refine ⟨by simp, .inl ⟨⟨a0, ?_⟩, by simp, rfl⟩⟩
  simp [Pi, e0, e1]
 have hl : ((l.drop i.toNat).take (j.toNat - i.toNat)).length = j.toNat - i.toNat := by simp; omega
 have hsplit : l = l.take i.toNat ++ ((l.drop i.toNat).take (j.toNat - i.toNat) ++ l.drop j.toNat) := by
  have e : l.drop j.toNat = (l.drop i.toNat).drop (j.toNat - i.toNat) := by rw [List.drop_drop]; congr 1; omega
  rw [e, List.take_append_drop, List.take_append_drop]
 refine ⟨fun a ha => hlen a (List.mem_of_mem_drop (List.mem_of_mem_take ha)), .inr ?_⟩
 by_cases hcap : l.length + ns = i.toNat
 ·have e1 : j.toNat - i.toNat = 0 := by omega
  have e2 : ns = 0 := by omega
  subst e2
  have e3 : sp = [] := dR (by simpa using hsp)
  refine ⟨b, pre, [], l.flatMap enc ++ post, 0, by simp, ?_, ?_⟩
  ·simp [Pi, Wi, hcap, e1]
  simp [e1, e3]
 have hd : ((l.take i.toNat).flatMap enc).length = i.toNat * k := by
  rw [U0 fun a ha => hlen a (List.mem_of_mem_take ha)]; congr 1; simp; omega
 have hd2 : ((l.drop j.toNat).flatMap enc).length = (l.length - j.toNat) * k := by
  rw [U0 fun a ha => hlen a (List.mem_of_mem_drop ha)]; simp
 refine ⟨b, pre ++ (l.take i.toNat).flatMap enc, (l.drop j.toNat).flatMap enc ++ sp, post, (l.length - j.toNat) + ns, ?_, ?_, ?_⟩
 ·rw [ag, hd2, hsp, Nat.add_mul]
 ·simp only [Pi, Wi, hl, ag, hd]
  rw [if_neg hcap]
  simp only [Option.map_some, Vq]
  congr 1; omega
 have e5 : l.flatMap enc = (l.take i.toNat).flatMap enc ++ (((l.drop i.toNat).take (j.toNat - i.toNat)).flatMap enc ++ (l.drop j.toNat).flatMap enc) := by
  rw [← List.flatMap_append, ← List.flatMap_append, ← hsplit]
 rw [e5]; simp
end
section
variable {P : Program} {fr : Nat → Value} {w : World} {ty T T' E E' : TypeId} {x y : Operand} {kb k : Nat} {R : Rest} {H Hs : List (Nat × Obj)} {α : Type} {enc : α → List Value} {v : Value} {l : List α}
theorem Qak {zv u : Value} {ms : List α} {a : Option Addr} {len cap : Nat} (hk : 0 < k) (hx : Ql fr x = .slice a len cap) (hy : Ql fr y = u) (hr : RdK (Jd w) enc k u ms) (hT : P.underlying T = some (.slice E)) (hT' : P.underlying T' = some (.slice E'))
  (hi : Ji P E = some (some zv, k, kb)) (hc : len + ms.length ≤ cap) {w' : World} (hs : ∀ a', a = some a' → (storeCells (a'.add (len * k)) (ms.flatMap enc)).run P w = .ok () w') (hn : a = none → w' = w) :
  (Lp (Ql fr) (.call ⟨.builtin .append, #[x, y], #[T, T']⟩) ty).run P w = .ok (.value (.slice a (len + ms.length) cap)) w' := by
 obtain ⟨hlen, hcells⟩ := Qmx (P := P) hk hr
 have hcells0 : (bI k ms.length u).run P w = .ok (ms.flatMap enc).toArray w := hcells w.drawn
 rw [Ef]
 simp only [List.map_toArray, List.map_cons, List.map_nil, hx, hy]
 simp only [builtin, Builtin.append_, Sem.run_bind]
 simp only [dN, List.getElem?_cons_zero, List.getElem?_cons_succ]
 simp only [Sem.run_bind, W9 hT, Result.andThen_ok, J9 hi, W9 hT', Sem.run_pure, Bool.false_eq_true, if_false, hlen, hc, if_true]
 cases a with
 | none => simp [hcells0, hn]
 | some a' => have := hs a' rfl; simp [hcells0, this]
theorem Qin {zv u : Value} {ms : List α} {a : Option Addr} {cap : Nat} (hk : 0 < k) (hx : Ql fr x = .slice a l.length cap) (hy : Ql fr y = u) (hr : RdK (Jd w) enc k u ms) (hv : RdK (Jd w) enc k (.slice a l.length cap) l) (hT : P.underlying T = some (.slice E)) (hT' : P.underlying T' = some (.slice E'))
  (hi : Ji P E = some (some zv, k, kb)) (hz1 : zv.cells.size = k) (hc : ¬ l.length + ms.length ≤ cap) (hn : (l.length + ms.length + (l.length + ms.length) / 4 + 192) * kb ≤ 281474976710656) (hn1 : l.length + ms.length ≤ 281474976710656) :
  ∃ nc rest ns, nc = l.length + ms.length + ns ∧ Array.size rest = ns * k ∧ (Lp (Ql fr) (.call ⟨.builtin .append, #[x, y], #[T, T']⟩) ty).run P w =
   .ok (.value (.slice (some ⟨w.heap.size, 0, none⟩) (l.length + ms.length) nc)) { w with heap := w.heap.push (.cells ((l.flatMap enc).toArray ++ ((ms.flatMap enc).toArray ++ rest)) E), drawn := w.drawn + 1 } := by
 obtain ⟨hlen, hcells⟩ := Qmx (P := P) hk hr
 have hnew : (bI k ms.length u).run P w.drew = .ok (ms.flatMap enc).toArray w.drew := hcells (w.drawn + 1)
 have hold : (bI k l.length (.slice a l.length cap)).run P w.drew = .ok (l.flatMap enc).toArray w.drew := (Qmx (P := P) hk hv).2 (w.drawn + 1)
 obtain ⟨info, hi1, hi2, hi3, hi4⟩ := Tv (P := P) (w := w) hi
 obtain ⟨info', hi1', hi2', _, _⟩ := Tv (P := P) (w := w.drew) hi
 have h1 : ¬ (9223372036854775807 < (l.length : Int) + (ms.length : Int) ∧ info.bytes = 0) := by omega
 have h2 : ¬ (281474976710656 < dW (l.length + ms.length) cap * info.bytes) := by
  have := nextslicecap_le_wide (need := l.length + ms.length) (old := cap) (by omega)
  have h3 : dW (l.length + ms.length) cap * kb ≤ (l.length + ms.length + (l.length + ms.length) / 4 + 192) * kb := dC _ this
  rw [hi2]; omega
 have hz : (zeroValue E).run P w.drew = .ok zv w.drew := U8 hi
 let t := w.tape w.drawn (.appendCap (l.length + ms.length) cap E)
 refine ⟨l.length + ms.length + t % (2 ^ 63 - (l.length + ms.length)), cZ zv.cells (t % (2 ^ 63 - (l.length + ms.length))), t % (2 ^ 63 - (l.length + ms.length)), rfl, ?_, ?_⟩
 ·simp [cZ, hz1]
 rw [Ef]
 simp only [List.map_toArray, List.map_cons, List.map_nil, hx, hy]
 simp only [builtin, Builtin.append_, Sem.run_bind]
 simp only [dN, List.getElem?_cons_zero, List.getElem?_cons_succ]
 simp only [Sem.run_bind, W9 hT, Result.andThen_ok, J9 hi, W9 hT', Sem.run_pure, Bool.false_eq_true, if_false, hlen, hc]
 simp [hi1, h1, h2, Question.forced, Question.cut, hold, hnew, hi1', hz, newRow, IntKind.max, IntKind.signed, IntKind.bits]
 exact ⟨rfl, rfl⟩
theorem Ae {zv u : Value} {ms : List α} (hm : Mem w R (Hs ++ H)) (hg : Yu enc k E v l Hs) (hx : Ql fr x = v) (hy : Ql fr y = u) (hr : RdK (Jd w) enc k u ms) (hT : P.underlying T = some (.slice E)) (hT' : P.underlying T' = some (.slice E'))
  (hi : Ji P E = some (some zv, k, kb)) (hk0 : dL 0 k = true) (hz1 : zv.cells.size = k) (hf : ∀ a ∈ ms, (enc a).all (·.oneCell') = true) (hn : (l.length + ms.length + (l.length + ms.length) / 4 + 192) * kb ≤ 281474976710656) (hn1 : l.length + ms.length ≤ 281474976710656) :
  Vf P fr w (.call ⟨.builtin .append, #[x, y], #[T, T']⟩) ty (fun v' w' => ∃ Hs', Mem w' R (Hs' ++ H) ∧ Yu enc k E v' (l ++ ms) Hs') := by
 have hk := bQ hk0
 have hrd := hg.rd hm
 have hall : ∀ a ∈ l ++ ms, (enc a).length = k := fun a ha => by
  rcases List.mem_append.1 ha with h | h
  ·exact hg.1 a h
  exact hr.len a h
 have grow : ∀ a cap, v = .slice a l.length cap → ¬ l.length + ms.length ≤ cap →
   Vf P fr w (.call ⟨.builtin .append, #[x, y], #[T, T']⟩) ty (fun v' w' => ∃ Hs', Mem w' R (Hs' ++ H) ∧ Yu enc k E v' (l ++ ms) Hs') := by
  intro a cap hv hc
  subst hv
  obtain ⟨nc, rest, ns, hnc, hrs, hrun⟩ := Qin (ty := ty) hk hx hy hr hrd hT hT' hi hz1 hc hn hn1
  refine .inl ⟨_, _, hrun, [(w.heap.size, .cells ((l.flatMap enc).toArray ++ ((ms.flatMap enc).toArray ++ rest)) E (0, 0))], ?_, ?_⟩
  ·exact ((hm.drop Hs H).drew).alloc (.cells ((l.flatMap enc).toArray ++ ((ms.flatMap enc).toArray ++ rest)) E)
  refine ⟨hall, .inr ⟨w.heap.size, [], rest.toList, [], ns, by simpa using hrs, ?_, ?_⟩⟩
  ·simp [Wi, hnc]
  congr 3
  apply Array.ext'; simp
 obtain ⟨hl, ⟨⟨a, rfl⟩, rfl, rfl⟩ | ⟨b, pre, sp, post, ns, hsp, rfl, rfl⟩⟩ := hg
 ·by_cases hms : ms.length = 0
  ·have : ms = [] := dR hms
   subst this
   have hrun := Qak (ty := ty) (w' := w) hk hx hy hr hT hT' hi Ya (fun a' _ => by simp [storeCells]) (fun _ => rfl)
   exact .inl ⟨_, _, hrun, [], hm, by simp, .inl ⟨⟨_, rfl⟩, rfl, rfl⟩⟩
  exact grow a 0 rfl (by simp only [List.length_nil]; omega)
 by_cases hc : l.length + ms.length ≤ l.length + ns
 ·have hml := U0 hr.len
  have hll := U0 hl
  have hle : ms.length * k ≤ ns * k := dC k (by omega)
  have hb : w.heap[b]? = some (.cells (pre ++ (l.flatMap enc ++ (sp ++ post))).toArray E (0, 0)) := hm.own (b, .cells (pre ++ (l.flatMap enc ++ (sp ++ post))).toArray E (0, 0)) Ya
  obtain ⟨w', h1, h2⟩ := Ff (P := P) (ms.flatMap enc) 0 (pre.length + l.length * k) (pre ++ (l.flatMap enc ++ (sp ++ post))).toArray w hb (by simp [hll, hml, hsp]; omega) Ya (by
   intro u hu
   obtain ⟨a, ha0, ha⟩ := List.mem_flatMap.1 hu
   exact List.all_eq_true.1 (hf a ha0) u ha)
  have hrun := Qak (ty := ty) (w' := w') hk hx hy hr hT hT' hi hc (fun a' ha => by cases ha; rw [Vq]; exact h1) (fun h => by cases h)
  refine .inl ⟨_, _, hrun, [(b, .cells (pre ++ ((l ++ ms).flatMap enc ++ (sp.drop (ms.length * k) ++ post))).toArray E (0, 0))], ?_, hall, .inr ⟨b, pre, sp.drop (ms.length * k), post, ns - ms.length, ?_, ?_, rfl⟩⟩
  ·have h3 := Mem.upd (H1 := []) hm h2
   have e : ovr (pre ++ (l.flatMap enc ++ (sp ++ post))).toArray (pre.length + l.length * k + 0) (ms.flatMap enc) = (pre ++ ((l ++ ms).flatMap enc ++ (sp.drop (ms.length * k) ++ post))).toArray := by
    apply Array.ext'
    rw [Po _ _ _ (by simp [hll, hml, hsp]; omega)]
    have e0 : List.take (pre.length + l.length * k + 0) (pre ++ (l.flatMap enc ++ (sp ++ post))) = pre ++ l.flatMap enc := by
     rw [← List.append_assoc]; exact List.take_left' (by simp [hll])
    have e1 : List.drop (pre.length + l.length * k + 0 + (ms.flatMap enc).length) (pre ++ (l.flatMap enc ++ (sp ++ post))) = sp.drop (ms.length * k) ++ post := by
     have e2 : pre ++ (l.flatMap enc ++ (sp ++ post)) = (pre ++ l.flatMap enc) ++ (sp ++ post) := by simp
     have e3 : pre.length + l.length * k + 0 + (ms.flatMap enc).length = (pre ++ l.flatMap enc).length + ms.length * k := by simp [hll, hml]
     have e4 : ∀ (A B : List Value) (q : Nat), List.drop (A.length + q) (A ++ B) = List.drop q B := fun A B q => by rw [← List.drop_drop, List.drop_left]
     rw [e2, e3, e4, List.drop_append_of_le_length (by omega)]
    rw [e0, e1]; simp
   rw [e] at h3
   exact h3
  ·rw [List.length_drop, hsp, Nat.sub_mul]
  simp [Wi]; omega
 exact grow (some ⟨b, pre.length, none⟩) (l.length + ns) rfl hc
end
section
variable {α : Type} {enc : α → List Value} {k : Nat}
end
section
variable {P : Program} {fr : Nat → Value} {w : World} {ty T E : TypeId} {x y : Operand} {z : Option Value} {n k kb off : Nat} {R : Rest} {H Hs : List (Nat × Obj)} {α : Type} {enc : α → List Value} {v : Value} {l : List α}
theorem Yu.place {i : Int} (hg : Yu enc k E v l Hs) (h1 : i.toNat < l.length) (off : Nat) : ∃ (b : Nat) (pre rest : List Value), Qgs v i k off = ptr b (pre.length + (i.toNat * k + off)) ∧ Hs = [(b, .cells (pre ++ (l.flatMap enc ++ rest)).toArray E (0, 0))] ∧
  ∀ l', l'.length = l.length → (∀ a ∈ l', (enc a).length = k) → Yu enc k E v l' [(b, .cells (pre ++ (l'.flatMap enc ++ rest)).toArray E (0, 0))] := by
 obtain ⟨hlen, ⟨⟨a0, rfl⟩, rfl, rfl⟩ | ⟨b, pre, sp, post, ns, hsp, rfl, rfl⟩⟩ := hg
 ·simp at h1
 refine ⟨b, pre, sp ++ post, by simp [Qgs, Wi, Vq, ptr], rfl, fun l' h2 h3 => ⟨h3, .inr ⟨b, pre, sp, post, ns, hsp, by rw [h2], rfl⟩⟩⟩
end
end Go.Proofs.YtkmiemlpfkfiiaaDoor
