/- The framework, part L: what the arguments of a law are. Conditions: none. -/
import Derived.Test.YtfbnhoolkajebaaFwR
import Derived.Test.YtfbnhoolkajebaaFwQ
import Derived.Test.YtfbnhoolkajebaaFwK
import Derived.Test.YtfbnhoolkajebaaFwM
import Derived.WalkKit
import Derived.ProofKit
import Derived.OpenShut
import Derived.ShutString
import Derived.ChangeOld
import Derived.ChangeArms
import Derived.ChangeSlices
import Derived.Below
namespace Go.Proofs.Ytfbnhoolkajebaa
section
set_option linter.unusedSimpArgs false
set_option linter.unusedVariables false
section
variable {P : Program} {fr : Nat → Value} {w : World} {ty T T' U E E' A : TypeId} {x y : Operand} {d : TypeDesc} {z : Option Value} {n kb k : Nat} {R : Rest} {H Hs : List (Nat × Obj)} {α : Type} {f : α → Value} {v u : Value} {m : Nat → Option Obj}
/-- A whole element is read. -/
theorem ev_load_rkW {β : Type} {enc : β → List Value} {l : List β} {i : Int} {dflt : β} {cs : Array Value} (h : RdK (blks w) enc k v l) (hi' : i.toNat < l.length) (hu : P.underlying T = some d) (hd : aggD d = true) (hi : tinf P T = some (z, k, kb)) (hn0 : Nat.blt 0 k = true) (hx : evalF fr x = elpK v i k 0) (he : (enc (l.getD i.toNat dflt)).toArray = cs) : EvQ P fr w (.load T x) ty (.agg cs) := by
  refine ev_load_rkA (dflt := dflt) h hi' hu hd hi hn0 hx (by omega) ?_
  have eg : l.getD i.toNat dflt = l[i.toNat] := by simp [List.getD_eq_getElem?_getD, hi']
  rw [eg] at he ⊢
  have hl := h.len l[i.toNat] (by simp)
  rw [List.drop_zero, List.take_of_length_le (by omega)]; exact he
/-- A slice of an element's first cells. -/
def elslP (v : Value) (i : Int) (k : Nat) (j : Int) : Value := match v with | .slice a _ _ => .slice (a.map (·.add (i.toNat * k))) j.toNat k | _ => undef
theorem ev_slice_elkP {vs : List (List α)} {i j : Int} (h : RdK m (encA f) k v vs) (hi : i.toNat < vs.length) (hk : Nat.blt 0 k = true) (hu : P.underlying T = some (.array k E)) (hi' : tinf P E = some (z, 1, kb)) (hx : evalF fr x = elpK v i k 0) (hy : evalF fr y = i64 j) (h0 : 0 ≤ j) (h1 : j ≤ k) :
    EvQ P fr w (.slice T x none (some y) none) ty (elslP v i k j) := by
  have hk0 := Nat.le_of_ble_eq_true hk
  obtain ⟨a, cap, rfl, hle, h4⟩ := h.is
  obtain ⟨b, o, c, E, fz, rfl, hb, hc⟩ := h4 i.toNat hi
  have hx' : evalF fr x = ptr b (o + i.toNat * k) := by rw [hx]; simp [elpK, add_none, ptr]
  have := ev_slice_sla (w := w) (ty := ty) (i := 0) (j := j) hu hi' hx' (optI_none _ _) (optI_some (k := .i64) hy) (by omega) h0 h1
  have e : sla b (o + i.toNat * k) 1 0 j k = elslP (.slice (some ⟨b, o, none⟩) vs.length cap) i k j := by
    have hk0 : ¬ k = 0 := by omega
    simp [sla, slc, elslP, add_none, hk0]
  rw [← e]; exact this
/-- A copy into an element's first cells. -/
theorem or_copy_elk {l : List (List α)} {ms : List α} {i j : Int} (hm : Mem w R (Hs ++ H)) (hg : GrowK (encA f) k E' v l Hs) (hi : i.toNat < l.length) (hx : evalF fr x = elslP v i k j) (hy : evalF fr y = u) (hr : Rd (blks w) f u ms) (hms : ms.length = k) (h0 : 0 ≤ j) (h1 : j ≤ k)
    (hT : P.underlying T = some (.slice E)) (hti : tinf P E = some (z, 1, kb)) (hf : ∀ a, (f a).oneCell' = true) :
    OpR P fr w (.call ⟨.builtin .copy, #[x, y], #[T, T']⟩) ty (fun v' w' => v' = i64 j ∧ ∃ Hs', Mem w' R (Hs' ++ H) ∧ GrowK (encA f) k E' v (l.set i.toNat (ms.take j.toNat ++ (l.getD i.toNat []).drop j.toNat)) Hs') := by
  obtain ⟨b, pre, rest, hp, rfl, hgrow⟩ := hg.place hi 0
  have eg : l.getD i.toNat [] = l[i.toNat] := by simp [List.getD_eq_getElem?_getD, hi]
  rw [eg]
  have hl := hg.1
  have hli : (encA f l[i.toNat]).length = k := hl _ (by simp)
  have hli' : l[i.toNat].length = k := by simpa [encA] using hli
  have hb : w.heap[b]? = some (.cells (pre ++ (l.flatMap (encA f) ++ rest)).toArray E' (0, 0)) := hm.own (b, .cells (pre ++ (l.flatMap (encA f) ++ rest)).toArray E' (0, 0)) (by simp)
  have hik : i.toNat * k + k ≤ l.length * k := by rw [← Nat.succ_mul]; exact Nat.mul_le_mul_right k hi
  have hlen := flat_length hl
  have hx2 : evalF fr x = slc b (pre.length + (i.toNat * k + 0)) j.toNat k := by
    obtain ⟨a, cap, rfl⟩ := hg.lenv
    rw [hx]
    simp only [elpK, ptr, Value.pointer.injEq, Nat.add_zero] at hp
    simp only [elslP, slc, Nat.add_zero, hp]
  have hmin : min ms.length j.toNat = j.toNat := by omega
  refine (or_copy (T' := T') hx2 hy hr hT hti hf hb (by simp [hlen]; omega) (by simp)).mono ?_
  rintro v' w' ⟨e1, hu⟩
  rw [hmin] at e1 hu
  have ht : (ms.take j.toNat).length = j.toNat := by simp; omega
  refine ⟨by rw [e1, Int.toNat_of_nonneg h0], _, ?_, hgrow (l.set i.toNat (ms.take j.toNat ++ l[i.toNat].drop j.toNat)) (by simp) (set_len hl (by simp [encA, hli']; omega))⟩
  rw [flat_ovr hl pre rest ((ms.take j.toNat).map f) i.toNat 0 (ms.take j.toNat ++ l[i.toNat].drop j.toNat) hi (by rw [List.length_map, ht]; omega) (by simp only [encA, List.take_zero, List.nil_append, List.map_append, List.length_map, ht, Nat.zero_add, List.map_drop])] at hu
  exact Mem.upd (H1 := []) hm hu
/-- Noughts, row by row. -/
theorem rep_cellsK {N : Nat} {zv : Value} {a : α} (hz : zv.cells = cl f (List.replicate k a)) (hk : 0 < k) : ((Array.range (N * k)).map (zv.cells[· % zv.cells.size]!)) = ((List.replicate N (List.replicate k a)).flatMap (encA f)).toArray := by
  apply Array.ext'
  have h1 : ((List.replicate N (List.replicate k a)).flatMap (encA f)) = List.replicate (N * k) (f a) := by
    rw [List.eq_replicate_iff]
    constructor
    · rw [flat_length (k := k) fun b hb => by rw [List.eq_of_mem_replicate hb]; simp [encA]]; simp
    · intro b hb
      obtain ⟨c, h1, h2⟩ := List.mem_flatMap.1 hb
      rw [List.eq_of_mem_replicate h1] at h2
      simp only [encA, List.map_replicate] at h2
      exact List.eq_of_mem_replicate h2
  rw [h1]
  simp only [Array.toList_map, Array.toList_range]
  rw [List.eq_replicate_iff]
  constructor
  · simp
  · intro b hb
    obtain ⟨i, _, rfl⟩ := List.mem_map.1 hb
    rw [hz]
    have hs : (cl f (List.replicate k a)).size = k := by rw [size_cl]; simp
    rw [hs]
    have hlt : i % k < (cl f (List.replicate k a)).size := by rw [hs]; exact Nat.mod_lt _ hk
    rw [getElem!_pos (cl f (List.replicate k a)) (i % k) hlt]
    simp [cl]
theorem GrowK.made {b N : Nat} {a : α} : GrowK (encA f) k E (slc b 0 N N) (List.replicate N (List.replicate k a)) [(b, .cells ((List.replicate N (List.replicate k a)).flatMap (encA f)).toArray E (0, 0))] :=
  GrowK.of (encA f) k E b _ (by simp) fun c hc => by rw [List.eq_of_mem_replicate hc]; simp [encA]
/-- Whether a slice is nil. -/
def slnil (v : Value) : Bool := match v with | .slice a _ _ => a.isNone | _ => false
theorem ev_slnil_rk {β : Type} {enc : β → List Value} {l : List β} {t t' : TypeId} (h : RdK m enc k v l) (hu : P.underlying t = some (.slice E)) (hx : evalF fr x = v) (hy : evalF fr y = .slice none 0 0) : EvQ P fr w (.binOp .eql t x y t') ty (bl (slnil v)) := by
  obtain ⟨a, cap, rfl, _, _⟩ := h.is
  exact ev_slnil_of hu hx hy
theorem slnil_nil {β : Type} {enc : β → List Value} {l : List β} (h : RdK m enc k v l) (hn : slnil v = true) : [] = l := by
  obtain ⟨a, cap, rfl, _, h2⟩ := h.is
  cases l with
  | nil => rfl
  | cons b l =>
    obtain ⟨q, off, c, E, fz, e, _⟩ := h2 0 (by simp)
    subst e
    simp [slnil] at hn
theorem Mem.pick8 (A0 A1 A2 A3 A4 A5 A6 A7 B C : List (Nat × Obj)) (h : Mem w R (A0 ++ (A1 ++ (A2 ++ (A3 ++ (A4 ++ (A5 ++ (A6 ++ (A7 ++ (B ++ (C))))))))))) : Mem w R (B ++ (A0 ++ (A1 ++ (A2 ++ (A3 ++ (A4 ++ (A5 ++ (A6 ++ (A7 ++ (C)))))))))) :=
  h.perm (by
    have e : ∀ X Y Z : List (Nat × Obj), (X ++ (Y ++ Z)).Perm (Y ++ (X ++ Z)) := fun X Y Z => by rw [← List.append_assoc, ← List.append_assoc]; exact List.Perm.append_right _ List.perm_append_comm
    refine (e _ _ _).trans ?_
    refine List.Perm.append_left _ ?_
    refine (e _ _ _).trans ?_
    refine List.Perm.append_left _ ?_
    refine (e _ _ _).trans ?_
    refine List.Perm.append_left _ ?_
    refine (e _ _ _).trans ?_
    refine List.Perm.append_left _ ?_
    refine (e _ _ _).trans ?_
    refine List.Perm.append_left _ ?_
    refine (e _ _ _).trans ?_
    refine List.Perm.append_left _ ?_
    refine (e _ _ _).trans ?_
    refine List.Perm.append_left _ ?_
    refine (e _ _ _).trans ?_
    exact List.Perm.refl _)
theorem Mem.pick9 (A0 A1 A2 A3 A4 A5 A6 A7 A8 B C : List (Nat × Obj)) (h : Mem w R (A0 ++ (A1 ++ (A2 ++ (A3 ++ (A4 ++ (A5 ++ (A6 ++ (A7 ++ (A8 ++ (B ++ (C)))))))))))) : Mem w R (B ++ (A0 ++ (A1 ++ (A2 ++ (A3 ++ (A4 ++ (A5 ++ (A6 ++ (A7 ++ (A8 ++ (C))))))))))) :=
  h.perm (by
    have e : ∀ X Y Z : List (Nat × Obj), (X ++ (Y ++ Z)).Perm (Y ++ (X ++ Z)) := fun X Y Z => by rw [← List.append_assoc, ← List.append_assoc]; exact List.Perm.append_right _ List.perm_append_comm
    refine (e _ _ _).trans ?_
    refine List.Perm.append_left _ ?_
    refine (e _ _ _).trans ?_
    refine List.Perm.append_left _ ?_
    refine (e _ _ _).trans ?_
    refine List.Perm.append_left _ ?_
    refine (e _ _ _).trans ?_
    refine List.Perm.append_left _ ?_
    refine (e _ _ _).trans ?_
    refine List.Perm.append_left _ ?_
    refine (e _ _ _).trans ?_
    refine List.Perm.append_left _ ?_
    refine (e _ _ _).trans ?_
    refine List.Perm.append_left _ ?_
    refine (e _ _ _).trans ?_
    refine List.Perm.append_left _ ?_
    refine (e _ _ _).trans ?_
    exact List.Perm.refl _)
end
end --m
section
open Go.ChangeShapes Go.WideShapes Go.ChangeAt Go.RowKit
set_option linter.unusedSimpArgs false
set_option linter.unusedVariables false

/-- Whatever is read at a type is of this form. -/
structure Opens (P : Program) (t : TypeId) (Q : World → List Value → Prop) : Prop where
  is : ∀ (H : Type) (enc : TypeId × Value → H) (w : World) (fuel : Nat) (cs : List Value) (x : DataW H × List MemPlace), DataW.trod enc P w 0 (fun _ => true) true fuel t cs = some x → Q w cs
section
variable {P : Program} {t e : TypeId} {n : Nat} {Q : World → List Value → Prop} {α : Type} {f : α → Value}
theorem Opens.mono {Q' : World → List Value → Prop} (h : Opens P t Q) (hm : ∀ w cs, Q w cs → Q' w cs) : Opens P t Q' := ⟨fun H enc w fuel cs x hx => hm _ _ (h.is H enc w fuel cs x hx)⟩
theorem opens_i64 (hu : P.underlying t = some (.int .i64)) : Opens P t (fun _ cs => ∃ n : Int, cs = [i64 n] ∧ -9223372036854775808 ≤ n ∧ n ≤ 9223372036854775807) := by
  refine ⟨fun H enc w fuel cs x h => ?_⟩
  obtain ⟨n, rfl, _, hw⟩ := DataW.trod_int hu h
  simp only [Lit.wf, Bool.and_eq_true, decide_eq_true_eq] at hw
  exact ⟨n, rfl, hw.1, hw.2⟩
theorem opens_bool (hu : P.underlying t = some .bool) : Opens P t (fun _ cs => ∃ b, cs = [bl b]) := by
  refine ⟨fun H enc w fuel cs x h => ?_⟩
  obtain ⟨b, rfl, _⟩ := DataW.trod_bool hu h
  exact ⟨b, rfl⟩
theorem opens_str (hu : P.underlying t = some .string) : Opens P t (fun _ cs => ∃ s : ByteArray, cs = [.string s] ∧ s.size ≤ 9223372036854775807) := by
  refine ⟨fun H enc w fuel cs x h => ?_⟩
  obtain ⟨s, rfl, _, hs⟩ := DataW.trod_string hu h
  exact ⟨s, rfl, hs⟩

theorem opens_u8 (hu : P.underlying t = some (.int .u8)) : Opens P t (fun _ cs => ∃ a : BitVec 8, cs = [u8 a]) := by
  refine ⟨fun H enc w fuel cs x h => ?_⟩
  obtain ⟨n, rfl, _, hw⟩ := DataW.trod_int hu h
  simp only [Lit.wf, Bool.and_eq_true, decide_eq_true_eq] at hw
  have h0 : 0 ≤ n := hw.1
  have h1 : n ≤ 255 := hw.2
  refine ⟨BitVec.ofNat 8 n.toNat, ?_⟩
  unfold u8
  rw [BitVec.toNat_ofNat, Nat.mod_eq_of_lt (by omega)]
  rw [Int.toNat_of_nonneg h0]

theorem cells_of_one {w : World} {a : Addr} {cs : List Value} (h : w.cells? 0 a 1 = some cs) : ∃ v, w.cell? a = some v ∧ cs = [v] := by
  simp only [World.cells?, Nat.zero_le, if_true, List.range_one] at h
  simp only [List.mapM_cons, List.mapM_nil] at h
  have ea : a.add 0 = a := by cases a; simp [Addr.add]
  rw [ea] at h
  cases hv : w.cell? a with
  | none => rw [hv] at h; simp at h
  | some v => rw [hv] at h; simp at h; exact ⟨v, rfl, h.symm⟩
theorem cell_some {w : World} {a : Addr} {v : Value} (h : w.cell? a = some v) : a.spot = none ∧ ∃ c E fz, w.heap[a.block]? = some (.cells c E fz) ∧ c[a.off]? = some v := by
  unfold World.cell? at h
  split at h
  · next c E fz hb =>
    cases hs : a.spot with
    | none => rw [hs] at h; simp at h; exact ⟨rfl, c, E, fz, hb, h⟩
    | some s => rw [hs] at h; simp at h
  · simp at h
theorem opens_sl1 (hu : P.underlying t = some (.slice e)) (hc : P.cellsOf e = 1) (he : Opens P e (fun _ cs => ∃ a, cs = [f a])) :
    Opens P t (fun w cs => ∃ (v : Value) (l : List α), cs = [v] ∧ Rd (blks w) f v l ∧ l.length ≤ 9223372036854775807) := by
  refine ⟨fun H enc w fuel cs x h => ?_⟩
  rcases DataW.trod_slice hu h with ⟨rfl, _⟩ | ⟨a, len, cap, elems, rest, m, _, rfl, _, _, hl, hm, hlen, hel, _, _⟩
  · exact ⟨_, [], rfl, Rd.nil _ _, by simp⟩
  · rw [hc] at hel
    have each : ∀ i, i < len → ∃ b : α, w.cell? (a.add i) = some (f b) := by
      intro i hi
      have h1 := hel i hi
      rw [List.getElem?_eq_getElem (by omega), Nat.mul_one] at h1
      obtain ⟨cs', h2, h3⟩ := Option.bind_eq_some_iff.1 h1
      obtain ⟨v, h4, rfl⟩ := cells_of_one h2
      obtain ⟨b, hb⟩ := he.is H enc w m _ _ h3
      exact ⟨b, by rw [h4]; simpa using hb⟩
    obtain ⟨l, hll, hl'⟩ : ∃ l : List α, l.length = len ∧ ∀ i (h : i < l.length), w.cell? (a.add i) = some (f l[i]) := by
      have : ∀ k, k ≤ len → ∃ l : List α, l.length = k ∧ ∀ i (h : i < l.length), w.cell? (a.add i) = some (f l[i]) := by
        intro k
        induction k with
        | zero => intro _; exact ⟨[], rfl, fun i h => by simp at h⟩
        | succ k ih =>
          intro hk
          obtain ⟨l, h1, h2⟩ := ih (by omega)
          obtain ⟨b, hb⟩ := each k (by omega)
          refine ⟨l ++ [b], by simp [h1], fun i h => ?_⟩
          by_cases hi : i < l.length
          · rw [List.getElem_append_left hi]; exact h2 i hi
          · have : i = k := by simp at h; omega
            subst this
            rw [List.getElem_append_right (by omega)]
            simpa [h1] using hb
      exact this len (Nat.le_refl _)
    subst hll
    refine ⟨_, l, rfl, ⟨some a, cap, rfl, hl, fun i hi => ?_⟩, by unfold maxLen at hm; omega⟩
    obtain ⟨b, off, sp⟩ := a
    have h0 := hl' 0 (by omega)
    have ea : (Addr.mk b off sp).add 0 = ⟨b, off, sp⟩ := by simp [Addr.add]
    rw [ea] at h0
    obtain ⟨hs0, _⟩ := cell_some h0
    simp only at hs0
    subst hs0
    obtain ⟨hs, c, E, fz, hb, hcc⟩ := cell_some (hl' i hi)
    rw [add_none] at hb hcc
    exact ⟨b, off, c, E, fz, rfl, hb, hcc⟩
end
/-! The arguments themselves. -/
section
variable {P : Program} {W : World} {r : Reach} {b0 : Nat} {t e : TypeId} {n : Nat} {α : Type} {f : α → Value} {v : Value} {H : Type} {enc : TypeId × Value → H} {d : DataW H} {ps : List MemPlace} {Q : World → List Value → Prop}
theorem Opens.of (ho : Opens P t Q) (h : DataW.Trod enc P W 0 (fun _ => true) true t v d ps) : Q W v.cells.toList := by
  obtain ⟨fuel, hf⟩ := h
  exact ho.is H enc W fuel _ _ hf
theorem one_of {u : Value} {dd : TypeDesc} (hu : P.underlying t = some dd) (ha : aggD dd = false) (hval : Value.okWide P W r b0 t v) (h : v.cells.toList = [u]) : v = u := by
  have hna : ∀ c, v ≠ .agg c := by
    rintro c rfl
    unfold Value.okWide at hval
    rw [hu] at hval
    cases dd <;> simp_all [Cell.okWide, Cell.ok, aggD]
  cases v <;> simp_all [Value.cells]
theorem arg_sl (hu : P.underlying t = some (.slice e)) (ho : Opens P t (fun w cs => ∃ (v : Value) (l : List α), cs = [v] ∧ Rd (blks w) f v l ∧ l.length ≤ 9223372036854775807)) (hval : Value.okWide P W r b0 t v) (h : DataW.Trod enc P W 0 (fun _ => true) true t v d ps) :
    ∃ l : List α, Rd (blks W) f v l ∧ l.length ≤ 9223372036854775807 := by
  obtain ⟨u, l, h1, h2, h3⟩ := ho.of h
  obtain rfl := one_of hu rfl hval h1
  exact ⟨l, h2, h3⟩
theorem arg_i64 (hu : P.underlying t = some (.int .i64)) (hval : Value.okWide P W r b0 t v) (h : DataW.Trod enc P W 0 (fun _ => true) true t v d ps) : ∃ n : Int, v = i64 n ∧ -9223372036854775808 ≤ n ∧ n ≤ 9223372036854775807 := by
  obtain ⟨n, h1, h2, h3⟩ := (opens_i64 hu).of h
  exact ⟨n, one_of hu rfl hval h1, h2, h3⟩
end
end --m
end Go.Proofs.Ytfbnhoolkajebaa
