/- The framework, part Q: structs and rows as segments; sums with carry; shifts of whole numbers. Conditions: none. -/
import Derived.Test.YtfbnhoolkajebaaFwN
import Derived.Laws.IdiomStrings
import Derived.Laws.Externs
namespace Go.Proofs.Ytfbnhoolkajebaa
section
set_option linter.unusedSimpArgs false
set_option linter.unusedVariables false

section
variable {P : Program} {fr : Nat → Value} {w : World} {ty T U E A : TypeId} {x y : Operand} {d : TypeDesc} {z : Option Value} {n kb : Nat} {R : Rest} {H Hs : List (Nat × Obj)} {α : Type} {f : α → Value} {v : Value} {l : List α} {m : Nat → Option Obj}
def sub3v (v : Value) (i j mx : Int) : Value := match v with | .slice a len cap => .slice (if mx.toNat = i.toNat then a else a.map (·.add (i.toNat * 1))) (j.toNat - i.toNat) (mx.toNat - i.toNat) | _ => undef
theorem Grow.cut {j : Int} (hg : Grow f E v l Hs) (h1 : 0 ≤ j) (h2 : j ≤ l.length) : Grow f E (sub3v v 0 j j) (l.take j.toNat) Hs := by
  have hl : (l.take j.toNat).length = j.toNat := by simp; omega
  rcases hg with ⟨⟨a0, rfl⟩, rfl, rfl⟩ | ⟨b, pre, sp, post, rfl, rfl⟩
  · simp at h2
    have e1 : j.toNat = 0 := by omega
    exact .inl ⟨⟨a0, by simp [sub3v, e1]⟩, by simp, rfl⟩
  · refine .inr ⟨b, pre, [], (l.drop j.toNat).map f ++ (sp ++ post), ?_, ?_⟩
    · rw [hl]
      by_cases h0 : j.toNat = 0
      · simp [sub3v, slc, h0]
      · simp [sub3v, slc, h0, add_none]
    · have e : l.map f = (l.take j.toNat).map f ++ (l.drop j.toNat).map f := by rw [← List.map_append, List.take_append_drop]
      rw [e]; simp only [List.append_assoc, List.nil_append]
/-- The bytes of a text. -/
def bytesL (s : ByteArray) : List (BitVec 8) := s.data.toList.map (·.toBitVec)
@[simp] theorem bytesL_length (s : ByteArray) : (bytesL s).length = s.size := by unfold bytesL; rw [List.length_map, Array.length_toList]; rfl
theorem ev_makeFunc {f : FuncId} {captured : List Operand} {cs : Array Value} (hc : captured.toArray.map (evalF fr) = cs) : EvQ P fr w (.makeFunc (.func f) #[] captured.toArray) ty (.func (.func f) #[] cs) := by
  subst hc
  unfold EvQ xop
  simp [execOp, Instr.makeFunc]
/-- Rows as elements. -/
def encA {α : Type} (f : α → Value) (l : List α) : List Value := l.map f
theorem encA_one {α : Type} {f : α → Value} (hf : ∀ a, (f a).oneCell' = true) (l : List α) : (encA f l).all (·.oneCell') = true := by
  rw [List.all_eq_true]; intro v hv; obtain ⟨a, _, rfl⟩ := List.mem_map.1 hv; exact hf a
theorem fillA_one {c cs : Array Value} {k : Nat} (h1 : cs.size = k) (h2 : c.size = k) : fillA (fun i => some (i * k, k)) c [(0, cs)] = some cs := by
  have e : (Nat.beq cs.size k && Nat.ble (0 * k + cs.size) c.size) = true := by
    rw [Bool.and_eq_true]
    exact ⟨by rw [h1]; exact Nat.beq_refl k, Nat.ble_eq_true_of_le (by omega)⟩
  simp only [fillA]
  rw [if_pos e]
  congr 1
  have := ovr_all (c := c) (vs := cs.toList) (by simp; omega)
  simpa using this
/-- A slice of one element of several cells. -/
theorem or_buildSlice_k1 {zv : Value} {kb k : Nat} {cs : Array Value} (hm : Mem w R H) (hu : P.underlying T = some (.slice E)) (hi : tinf P E = some (some zv, k, kb)) (hs : Nat.ble (1 * k) 16777216 = true) (hz : zv.cells.size = k) (hx : evalF fr x = .agg cs) (hl : cs.size = k) :
    OpR P fr w (.buildSlice T 1 [(0, x)].toArray) ty (fun v w' => ∃ b, v = slc b 0 1 1 ∧ Ext w w' ∧ Mem w' R ((b, .cells cs E) :: H)) := by
  refine or_buildSlice_p hm hu hi hs (pm_cons hx rfl pm_nil) ?_
  exact fillA_one hl (by simp)
theorem ev_load_rka {k kb : Nat} {vs : List (List α)} {i : Int} (h : RdK (blks w) (encA f) k v vs) (hi' : i.toNat < vs.length) (hu : P.underlying T = some (.array k E)) (hi : tinf P T = some (z, k, kb)) (hn0 : Nat.blt 0 k = true) (hx : evalF fr x = elpK v i k 0) : EvQ P fr w (.load T x) ty (agg f (vs.getD i.toNat [])) := by
  refine ev_load_rkA (dflt := []) h hi' hu rfl hi hn0 hx (by omega) ?_
  have eg : vs.getD i.toNat [] = vs[i.toNat] := by simp [List.getD_eq_getElem?_getD, hi']
  have hlen := h.len vs[i.toNat] (by simp)
  rw [eg, List.drop_zero, List.take_of_length_le (by omega)]; rfl
theorem RdK.ofOne {b E' : Nat} {c : Array Value} {fz : Nat × Nat} {enc : α → List Value} {k : Nat} {a : α} (hb : m b = some (.cells c E' fz)) (hc : c = (enc a).toArray) (hl : (enc a).length = k) : RdK m enc k (slc b 0 1 1) [a] := by
  subst hc
  refine RdK.mk' (l := [a]) (by simpa using hl) (by simp) hb fun i hi q hq => ?_
  have : i = 0 := by simp at hi; exact hi
  subst this
  simp
theorem ev_len_rk {enc : α → List Value} {k : Nat} (h : RdK m enc k v l) (hT : P.underlying T = some (.slice E)) (hx : evalF fr x = v) : EvQ P fr w (.call ⟨.builtin .len, #[x], #[T]⟩) ty (i64 (l.length : Nat)) := by
  obtain ⟨a, cap, rfl, _⟩ := h.is
  exact ev_len_sl hT hx
end
end --m
section
set_option linter.unusedSimpArgs false
set_option linter.unusedVariables false

section
variable {P : Program} {fr : Nat → Value} {w : World} {ty T U E A : TypeId} {x y : Operand} {d : TypeDesc} {z : Option Value} {n kb k : Nat} {R : Rest} {H Hs : List (Nat × Obj)} {α : Type} {f : α → Value} {v : Value} {l : List α} {vs : List (List α)} {m : Nat → Option Obj}
end
end --m
section
set_option linter.unusedSimpArgs false
set_option linter.unusedVariables false

/-- Cells in segments. -/
def segs (L : List (List Value)) : Array Value := L.flatten.toArray
theorem segs_size (L : List (List Value)) : (segs L).size = L.flatten.length := by simp [segs]
theorem fl_nil : ([] : List (List Value)).flatten.length = 0 := rfl
theorem fl_cons {S : List Value} {L : List (List Value)} {n m k : Nat} (h : S.length = n) (h' : L.flatten.length = m) (e : n + m = k) : (S :: L).flatten.length = k := by simp [h, h', e]
theorem so_nil : ∀ v ∈ (segs []).toList, v.oneCell' = true := by simp [segs]
theorem so_cons {S : List Value} {L : List (List Value)} (h : S.all (·.oneCell') = true) (h' : ∀ v ∈ (segs L).toList, v.oneCell' = true) : ∀ v ∈ (segs (S :: L)).toList, v.oneCell' = true := by
  intro v hv
  simp only [segs, List.flatten_cons, List.mem_append] at hv
  rcases hv with hv | hv
  · exact List.all_eq_true.1 h v hv
  · exact h' v (by simpa [segs] using hv)
theorem segs_extract (L1 L2 L3 : List (List Value)) {off n : Nat} (h1 : L1.flatten.length = off) (h2 : L2.flatten.length = n) : (segs (L1 ++ (L2 ++ L3))).extract off (off + n) = segs L2 := by
  subst h1 h2
  apply Array.ext'
  simp only [segs, Array.toList_extract, List.extract_eq_take_drop, List.flatten_append, Nat.add_sub_cancel_left]
  rw [List.drop_left, List.take_left]
theorem segs_one1 {α : Type} (f : α → Value) (l : List α) : segs [l.map f] = cl f l := by simp [segs, cl]
theorem segs_get (L1 L3 : List (List Value)) (v : Value) {off : Nat} (h1 : L1.flatten.length = off) : (segs (L1 ++ ([v] :: L3)))[off]? = some v := by
  subst h1; simp [segs]
theorem segs_ovr (L1 L2 L2' L3 : List (List Value)) {off n : Nat} (h1 : L1.flatten.length = off) (h2 : L2.flatten.length = n) (h3 : L2'.flatten.length = n) : ovr (segs (L1 ++ (L2 ++ L3))) off (segs L2').toList = segs (L1 ++ (L2' ++ L3)) := by
  apply Array.ext'
  rw [ovr_toList _ _ _ (by rw [segs_size]; simp only [segs, List.flatten_append, List.length_append]; omega)]
  subst h1
  simp only [segs, List.flatten_append, h3, ← h2]
  rw [List.take_left, ← List.drop_drop, List.drop_left, List.drop_left, List.append_assoc]

section
variable {P : Program} {fr : Nat → Value} {w : World} {ty T U E A : TypeId} {x y : Operand} {d : TypeDesc} {z : Option Value} {n kb k b off : Nat} {R : Rest} {H Hs : List (Nat × Obj)} {α : Type} {f : α → Value} {v zv : Value} {l : List α} {m : Nat → Option Obj} {fz : Nat × Nat} {c : Array Value}
theorem ev_load_segs (L1 L2 L3 : List (List Value)) (hu : P.underlying T = some d) (hd : aggD d = true) (hi : tinf P T = some (z, n, kb)) (hx : evalF fr x = ptr b off) (hb : w.heap[b]? = some (.cells (segs (L1 ++ (L2 ++ L3))) E fz)) (h1 : L1.flatten.length = off) (h2 : L2.flatten.length = n) :
    EvQ P fr w (.load T x) ty (.agg (segs L2)) := by
  have := ev_loadN (ty := ty) hu hd hi hx hb (by rw [segs_size]; simp only [List.flatten_append, List.length_append]; omega)
  rwa [segs_extract L1 L2 L3 h1 h2] at this
theorem ev_load_seg1 (L1 L3 : List (List Value)) (l : List α) (hu : P.underlying T = some d) (hd : aggD d = true) (hi : tinf P T = some (z, n, kb)) (hx : evalF fr x = ptr b off) (hb : w.heap[b]? = some (.cells (segs (L1 ++ ([l.map f] ++ L3))) E fz)) (h1 : L1.flatten.length = off) (h2 : l.length = n) :
    EvQ P fr w (.load T x) ty (agg f l) := by
  have := ev_load_segs (ty := ty) L1 [l.map f] L3 hu hd hi hx hb h1 (by simpa using h2)
  rwa [segs_one1] at this
theorem ev_load_segv (L1 L3 : List (List Value)) (hu : P.underlying T = some d) (hd : aggD d = false) (hx : evalF fr x = ptr b off) (hb : w.heap[b]? = some (.cells (segs (L1 ++ ([v] :: L3))) E fz)) (h1 : L1.flatten.length = off) : EvQ P fr w (.load T x) ty v :=
  ev_load1 hu hd hx hb (segs_get L1 L3 v h1)
/-! fields of what is held -/
/-! stores -/
theorem or_storeW_segs (L : List (List Value)) (hi : tinf P T = some (z, n, kb)) (hx : evalF fr x = ptr b 0) (hy : evalF fr y = .agg (segs L)) (h : L.flatten.length = n) (hv : ∀ v ∈ (segs L).toList, v.oneCell' = true) (hb : w.heap[b]? = some (.cells c E fz)) (hs : c.size = n) (hfz : fz.2 = 0) :
    OpR P fr w (.store T x y) ty (fun _ w' => Upd w b (.cells (segs L) E fz) w') := or_storeA hi hx hy (by rw [segs_size]; exact h) hv hb hs hfz
/-! composites -/
theorem fillA_nil {place : Nat → Option (Nat × Nat)} : fillA place c [] = some c := rfl
theorem fillA_segs {place : Nat → Option (Nat × Nat)} {i : Nat} {cs c' : Array Value} {rest : List (Nat × Array Value)} (L1 L2 L2' L3 : List (List Value)) (hp : place i = some (off, n)) (hc : cs = segs L2') (h1 : L1.flatten.length = off) (h2 : L2.flatten.length = n) (h3 : L2'.flatten.length = n)
    (hr : fillA place (segs (L1 ++ (L2' ++ L3))) rest = some c') : fillA place (segs (L1 ++ (L2 ++ L3))) ((i, cs) :: rest) = some c' := by
  subst hc
  simp only [fillA, hp]
  have e : (Nat.beq (segs L2').size n && Nat.ble (off + (segs L2').size) (segs (L1 ++ (L2 ++ L3))).size) = true := by
    rw [Bool.and_eq_true]
    refine ⟨by rw [segs_size, h3]; exact Nat.beq_refl n, Nat.ble_eq_true_of_le ?_⟩
    rw [segs_size, segs_size, h3]; simp only [List.flatten_append, List.length_append]; omega
  rw [if_pos e, segs_ovr L1 L2 L2' L3 h1 h2 h3]
  exact hr
/-! sums with carry -/
/-! shifts of whole numbers -/
theorem ev_i64_shr {a : Int} {ky : IntKind} {b : Int} {t t' : TypeId} (hx : evalF fr x = i64 a) (hy : evalF fr y = .int ky b) (hb : 0 ≤ b) (hb' : b ≤ 62) : EvQ P fr w (.binOp .shr t x y t') ty (i64 (a / 2 ^ b.toNat)) :=
  ev_shift (.inr rfl) hx hy hb (by
    have e : min b.toNat IntKind.i64.bits = b.toNat := by simp only [IntKind.bits]; omega
    rw [e]
    simp only [i64, reduceCtorEq, if_false]
    congr 1
    rw [Int.fdiv_eq_ediv_of_nonneg _ (Int.pow_nonneg (by decide))])
theorem ev_i64_shrK {a p : Int} {ky : IntKind} {b : Int} {t t' : TypeId} (hp : (2 : Int) ^ b.toNat = p) (hx : evalF fr x = i64 a) (hy : evalF fr y = .int ky b) (hb : 0 ≤ b) (hb' : b ≤ 62) : EvQ P fr w (.binOp .shr t x y t') ty (i64 (a / p)) := hp ▸ ev_i64_shr hx hy hb hb'
theorem ev_i64_shl {a : Int} {ky : IntKind} {b : Int} {t t' : TypeId} (hx : evalF fr x = i64 a) (hy : evalF fr y = .int ky b) (hb : 0 ≤ b) (hb' : b ≤ 62) (h0 : -9223372036854775808 ≤ a * 2 ^ b.toNat) (h1 : a * 2 ^ b.toNat < 9223372036854775808) : EvQ P fr w (.binOp .shl t x y t') ty (i64 (a * 2 ^ b.toNat)) :=
  ev_shift (.inl rfl) hx hy hb (by
    have e : min b.toNat IntKind.i64.bits = b.toNat := by simp only [IntKind.bits]; omega
    rw [e]
    simp only [i64, if_true]
    rw [wrap_i64 h0 h1])
theorem ev_i64_shlK {a p : Int} {ky : IntKind} {b : Int} {t t' : TypeId} (hp : (2 : Int) ^ b.toNat = p) (hx : evalF fr x = i64 a) (hy : evalF fr y = .int ky b) (hb : 0 ≤ b) (hb' : b ≤ 62) (h0 : -9223372036854775808 ≤ a * p) (h1 : a * p < 9223372036854775808) : EvQ P fr w (.binOp .shl t x y t') ty (i64 (a * p)) := by
  subst hp; exact ev_i64_shl hx hy hb hb' h0 h1
end
/-! A guard that was not reached. -/
theorem rw_gu {P : Program} {n : Nat} {ops : Array Oper} {rest : List Oper} {K : (Nat → Value) → World → Prop} {fr : Nat → Value} {w : World} {op : Op} {ty : TypeId} {pos : String} {aft : Array Edge} {d j s : Nat} {want : Bool} (hj : (ops[j]?).bind (·.dst) = some s) (hs : fr s = undef) (hd : Nat.blt d n = true)
    (k : RW P n ops rest K (upd fr d undef) w) : RW P n ops (⟨some d, op, ty, pos, aft, some (j, want)⟩ :: rest) K fr w := by
  intro rd ds a ha Q hQ
  unfold wpListIn
  have hy : yielded ops a.tmps j = none := by
    have hg := ha.get s
    rw [hs, Array.getD_eq_getD_getElem?] at hg
    unfold yielded
    rw [hj]
    cases h : a.tmps[s]? with
    | none => simp [h]
    | some v => rw [h] at hg; simp at hg; subst hg; simp [h, undef]
  rw [if_neg (by simp [Region.wanted, hy])]
  exact ⟨fun _ _ => trivial, k rd ds _ (ha.put (d := some d) (dst_lt hd) _) Q hQ⟩
section
variable {E : TypeId}
theorem Rd.seg {α : Type} {f : α → Value} {m : Nat → Option Obj} {b off n : Nat} {l : List α} {fz : Nat × Nat} (L1 L2 : List (List Value)) (hb : m b = some (.cells (segs (L1 ++ (l.map f :: L2))) E fz)) (h1 : L1.flatten.length = off) (hl : l.length = n) : Rd m f (slc b off n n) l := by
  subst hl h1
  refine Rd.mk' (Nat.le_refl _) hb fun i hi => ?_
  simp only [segs, List.flatten_append, List.flatten_cons, List.getElem?_toArray]
  rw [List.getElem?_append_right (by omega), Nat.add_sub_cancel_left, List.getElem?_append_left (by simpa using hi)]
  simp [hi]
theorem Rd.segA {α : Type} {f : α → Value} {m : Nat → Option Obj} {b off n : Nat} {j : Int} {l : List α} {fz : Nat × Nat} (L1 L2 : List (List Value)) (hb : m b = some (.cells (segs (L1 ++ (l.map f :: L2))) E fz)) (h1 : L1.flatten.length = off) (hl : l.length = n) (hn : 0 < n) (hj : j.toNat = n) : Rd m f (Proofs.Ytfbnhoolkajebaa.sla b off 1 0 j n) l := by
  have e : Proofs.Ytfbnhoolkajebaa.sla b off 1 0 j n = slc b off n n := by
    unfold Proofs.Ytfbnhoolkajebaa.sla
    have : ¬ n = 0 := by omega
    simp [this, hj]
  rw [e]; exact Rd.seg L1 L2 hb h1 hl
end
end --m
end Go.Proofs.Ytfbnhoolkajebaa
