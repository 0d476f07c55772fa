/- The framework, part a: rows of arrays that are written, and of structs that hold arrays. Conditions: none. -/
import Derived.Test.YtfbnhoolkajebaaFwR
import Derived.Test.YtfbnhoolkajebaaFwQ
import Derived.Test.YtfbnhoolkajebaaFwK
namespace Go.Proofs.Ytfbnhoolkajebaa
set_option linter.unusedSimpArgs false
set_option linter.unusedVariables false
section
variable {P : Program} {fr : Nat → Value} {w : World} {ty T T' U E E' A : TypeId} {x y : Operand} {d : TypeDesc} {z : Option Value} {n kb k : Nat} {R : Rest} {H Hs : List (Nat × Obj)} {α : Type} {f : α → Value} {v u : Value} {m : Nat → Option Obj}
/-- A whole element is read. -/
theorem ev_load_rkW {β : Type} {enc : β → List Value} {l : List β} {i : Int} {dflt : β} {cs : Array Value} (h : RdK (blks w) enc k v l) (hi' : i.toNat < l.length) (hu : P.underlying T = some d) (hd : aggD d = true) (hi : tinf P T = some (z, k, kb)) (hn0 : Nat.blt 0 k = true) (hx : evalF fr x = elpK v i k 0) (he : (enc (l.getD i.toNat dflt)).toArray = cs) : EvQ P fr w (.load T x) ty (.agg cs) := by
  refine ev_load_rkA (dflt := dflt) h hi' hu hd hi hn0 hx (by omega) ?_
  have eg : l.getD i.toNat dflt = l[i.toNat] := by simp [List.getD_eq_getElem?_getD, hi']
  rw [eg] at he ⊢
  have hl := h.len l[i.toNat] (by simp)
  rw [List.drop_zero, List.take_of_length_le (by omega)]; exact he
/-- A slice of an element's first cells. -/
def elslP (v : Value) (i : Int) (k : Nat) (j : Int) : Value := match v with | .slice a _ _ => .slice (a.map (·.add (i.toNat * k))) j.toNat k | _ => undef
theorem ev_slice_elkP {vs : List (List α)} {i j : Int} (h : RdK m (encA f) k v vs) (hi : i.toNat < vs.length) (hk : Nat.blt 0 k = true) (hu : P.underlying T = some (.array k E)) (hi' : tinf P E = some (z, 1, kb)) (hx : evalF fr x = elpK v i k 0) (hy : evalF fr y = i64 j) (h0 : 0 ≤ j) (h1 : j ≤ k) :
    EvQ P fr w (.slice T x none (some y) none) ty (elslP v i k j) := by
  have hk0 := Nat.le_of_ble_eq_true hk
  obtain ⟨a, cap, rfl, hle, h4⟩ := h.is
  obtain ⟨b, o, c, E, fz, rfl, hb, hc⟩ := h4 i.toNat hi
  have hx' : evalF fr x = ptr b (o + i.toNat * k) := by rw [hx]; simp [elpK, add_none, ptr]
  have := ev_slice_sla (w := w) (ty := ty) (i := 0) (j := j) hu hi' hx' (optI_none _ _) (optI_some (k := .i64) hy) (by omega) h0 h1
  have e : sla b (o + i.toNat * k) 1 0 j k = elslP (.slice (some ⟨b, o, none⟩) vs.length cap) i k j := by
    have hk0 : ¬ k = 0 := by omega
    simp [sla, slc, elslP, add_none, hk0]
  rw [← e]; exact this
/-- A copy into an element's first cells. -/
theorem or_copy_elk {l : List (List α)} {ms : List α} {i j : Int} (hm : Mem w R (Hs ++ H)) (hg : GrowK (encA f) k E' v l Hs) (hi : i.toNat < l.length) (hx : evalF fr x = elslP v i k j) (hy : evalF fr y = u) (hr : Rd (blks w) f u ms) (hms : ms.length = k) (h0 : 0 ≤ j) (h1 : j ≤ k)
    (hT : P.underlying T = some (.slice E)) (hti : tinf P E = some (z, 1, kb)) (hf : ∀ a, (f a).oneCell' = true) :
    OpR P fr w (.call ⟨.builtin .copy, #[x, y], #[T, T']⟩) ty (fun v' w' => v' = i64 j ∧ ∃ Hs', Mem w' R (Hs' ++ H) ∧ GrowK (encA f) k E' v (l.set i.toNat (ms.take j.toNat ++ (l.getD i.toNat []).drop j.toNat)) Hs') := by
  obtain ⟨b, pre, rest, hp, rfl, hgrow⟩ := hg.place hi 0
  have eg : l.getD i.toNat [] = l[i.toNat] := by simp [List.getD_eq_getElem?_getD, hi]
  rw [eg]
  have hl := hg.1
  have hli : (encA f l[i.toNat]).length = k := hl _ (by simp)
  have hli' : l[i.toNat].length = k := by simpa [encA] using hli
  have hb : w.heap[b]? = some (.cells (pre ++ (l.flatMap (encA f) ++ rest)).toArray E' (0, 0)) := hm.own (b, .cells (pre ++ (l.flatMap (encA f) ++ rest)).toArray E' (0, 0)) (by simp)
  have hik : i.toNat * k + k ≤ l.length * k := by rw [← Nat.succ_mul]; exact Nat.mul_le_mul_right k hi
  have hlen := flat_length hl
  have hx2 : evalF fr x = slc b (pre.length + (i.toNat * k + 0)) j.toNat k := by
    obtain ⟨a, cap, rfl⟩ := hg.lenv
    rw [hx]
    simp only [elpK, ptr, Value.pointer.injEq, Nat.add_zero] at hp
    simp only [elslP, slc, Nat.add_zero, hp]
  have hmin : min ms.length j.toNat = j.toNat := by omega
  refine (or_copy (T' := T') hx2 hy hr hT hti hf hb (by simp [hlen]; omega) (by simp)).mono ?_
  rintro v' w' ⟨e1, hu⟩
  rw [hmin] at e1 hu
  have ht : (ms.take j.toNat).length = j.toNat := by simp; omega
  refine ⟨by rw [e1, Int.toNat_of_nonneg h0], _, ?_, hgrow (l.set i.toNat (ms.take j.toNat ++ l[i.toNat].drop j.toNat)) (by simp) (set_len hl (by simp [encA, hli']; omega))⟩
  rw [flat_ovr hl pre rest ((ms.take j.toNat).map f) i.toNat 0 (ms.take j.toNat ++ l[i.toNat].drop j.toNat) hi (by rw [List.length_map, ht]; omega) (by simp only [encA, List.take_zero, List.nil_append, List.map_append, List.length_map, ht, Nat.zero_add, List.map_drop])] at hu
  exact Mem.upd (H1 := []) hm hu
/-- Noughts, row by row. -/
theorem rep_cellsK {N : Nat} {zv : Value} {a : α} (hz : zv.cells = cl f (List.replicate k a)) (hk : 0 < k) : ((Array.range (N * k)).map (zv.cells[· % zv.cells.size]!)) = ((List.replicate N (List.replicate k a)).flatMap (encA f)).toArray := by
  apply Array.ext'
  have h1 : ((List.replicate N (List.replicate k a)).flatMap (encA f)) = List.replicate (N * k) (f a) := by
    rw [List.eq_replicate_iff]
    constructor
    · rw [flat_length (k := k) fun b hb => by rw [List.eq_of_mem_replicate hb]; simp [encA]]; simp
    · intro b hb
      obtain ⟨c, h1, h2⟩ := List.mem_flatMap.1 hb
      rw [List.eq_of_mem_replicate h1] at h2
      simp only [encA, List.map_replicate] at h2
      exact List.eq_of_mem_replicate h2
  rw [h1]
  simp only [Array.toList_map, Array.toList_range]
  rw [List.eq_replicate_iff]
  constructor
  · simp
  · intro b hb
    obtain ⟨i, _, rfl⟩ := List.mem_map.1 hb
    rw [hz]
    have hs : (cl f (List.replicate k a)).size = k := by rw [size_cl]; simp
    rw [hs]
    have hlt : i % k < (cl f (List.replicate k a)).size := by rw [hs]; exact Nat.mod_lt _ hk
    rw [getElem!_pos (cl f (List.replicate k a)) (i % k) hlt]
    simp [cl]
theorem GrowK.made {b N : Nat} {a : α} : GrowK (encA f) k E (slc b 0 N N) (List.replicate N (List.replicate k a)) [(b, .cells ((List.replicate N (List.replicate k a)).flatMap (encA f)).toArray E (0, 0))] :=
  GrowK.of (encA f) k E b _ (by simp) fun c hc => by rw [List.eq_of_mem_replicate hc]; simp [encA]
theorem Mem.pick8 (A0 A1 A2 A3 A4 A5 A6 A7 B C : List (Nat × Obj)) (h : Mem w R (A0 ++ (A1 ++ (A2 ++ (A3 ++ (A4 ++ (A5 ++ (A6 ++ (A7 ++ (B ++ (C))))))))))) : Mem w R (B ++ (A0 ++ (A1 ++ (A2 ++ (A3 ++ (A4 ++ (A5 ++ (A6 ++ (A7 ++ (C)))))))))) :=
  h.perm (by
    have e : ∀ X Y Z : List (Nat × Obj), (X ++ (Y ++ Z)).Perm (Y ++ (X ++ Z)) := fun X Y Z => by rw [← List.append_assoc, ← List.append_assoc]; exact List.Perm.append_right _ List.perm_append_comm
    refine (e _ _ _).trans ?_
    refine List.Perm.append_left _ ?_
    refine (e _ _ _).trans ?_
    refine List.Perm.append_left _ ?_
    refine (e _ _ _).trans ?_
    refine List.Perm.append_left _ ?_
    refine (e _ _ _).trans ?_
    refine List.Perm.append_left _ ?_
    refine (e _ _ _).trans ?_
    refine List.Perm.append_left _ ?_
    refine (e _ _ _).trans ?_
    refine List.Perm.append_left _ ?_
    refine (e _ _ _).trans ?_
    refine List.Perm.append_left _ ?_
    refine (e _ _ _).trans ?_
    exact List.Perm.refl _)
theorem Mem.pick9 (A0 A1 A2 A3 A4 A5 A6 A7 A8 B C : List (Nat × Obj)) (h : Mem w R (A0 ++ (A1 ++ (A2 ++ (A3 ++ (A4 ++ (A5 ++ (A6 ++ (A7 ++ (A8 ++ (B ++ (C)))))))))))) : Mem w R (B ++ (A0 ++ (A1 ++ (A2 ++ (A3 ++ (A4 ++ (A5 ++ (A6 ++ (A7 ++ (A8 ++ (C))))))))))) :=
  h.perm (by
    have e : ∀ X Y Z : List (Nat × Obj), (X ++ (Y ++ Z)).Perm (Y ++ (X ++ Z)) := fun X Y Z => by rw [← List.append_assoc, ← List.append_assoc]; exact List.Perm.append_right _ List.perm_append_comm
    refine (e _ _ _).trans ?_
    refine List.Perm.append_left _ ?_
    refine (e _ _ _).trans ?_
    refine List.Perm.append_left _ ?_
    refine (e _ _ _).trans ?_
    refine List.Perm.append_left _ ?_
    refine (e _ _ _).trans ?_
    refine List.Perm.append_left _ ?_
    refine (e _ _ _).trans ?_
    refine List.Perm.append_left _ ?_
    refine (e _ _ _).trans ?_
    refine List.Perm.append_left _ ?_
    refine (e _ _ _).trans ?_
    refine List.Perm.append_left _ ?_
    refine (e _ _ _).trans ?_
    refine List.Perm.append_left _ ?_
    refine (e _ _ _).trans ?_
    exact List.Perm.refl _)
end
end Go.Proofs.Ytfbnhoolkajebaa
