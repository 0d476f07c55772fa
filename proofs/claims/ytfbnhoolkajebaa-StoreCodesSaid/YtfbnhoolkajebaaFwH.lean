/- The framework, part H: composite literals, make, lengths, copy, minimum, equality of rows. Conditions: none. -/
import Derived.Test.YtfbnhoolkajebaaFwG
namespace Go.Proofs.Ytfbnhoolkajebaa
set_option linter.unusedSimpArgs false
set_option linter.unusedVariables false

section
variable {P : Program} {fr : Nat → Value} {w : World} {ty T T' E E' : TypeId} {x y : Operand} {d : TypeDesc} {z : Option Value} {n kb b off : Nat} {c : Array Value} {fz : Nat × Nat} {R : Rest} {H Hs : List (Nat × Obj)} {α : Type} {f : α → Value} {v : Value} {l : List α}

theorem ev_build_arr {len m kE : Nat} {zv : Value} {zE : Option Value} {parts : List (Nat × Operand)} {ps : List (Nat × Value)} (hz : tinf P T = some (some zv, n, kb)) (hu : P.underlying T = some (.array len E)) (hE : tinf P E = some (zE, m, kE))
    (hp : (parts.map fun q => (q.1, evalF fr q.2)) = ps) (hf : Instr.fill (fun i => some (i * m, m)) zv.cells ps = some c) : EvQ P fr w (.build T parts.toArray) ty (.agg c) := by
  have hp' : (parts.toArray.map fun ((i, x) : Nat × Operand) => (i, evalF fr x)).toList = ps := by rw [← hp]; simp
  unfold EvQ xop
  show Sem.run P (do let v ← Instr.build T (parts.toArray.map fun (i, x) => (i, evalF fr x)); pure (Next.value v)) w = _
  simp [Instr.build, run_zeroValue hz, run_und hu, run_sizeOf hE]
  rw [hp, hf]
  rfl
theorem ev_build_st {fs : Array Field} {zv : Value} {parts : List (Nat × Operand)} {ps : List (Nat × Value)} {pl : Array (Nat × Nat)} (hz : tinf P T = some (some zv, n, kb)) (hu : P.underlying T = some (.struct fs))
    (hpl : ∀ w, Sem.run P (fs.mapM fun f => do pure (f.offset, ← sizeOf f.type)) w = .ok pl w)
    (hp : (parts.map fun q => (q.1, evalF fr q.2)) = ps) (hf : Instr.fill (pl[·]?) zv.cells ps = some c) : EvQ P fr w (.build T parts.toArray) ty (.agg c) := by
  have hp' : (parts.toArray.map fun ((i, x) : Nat × Operand) => (i, evalF fr x)).toList = ps := by rw [← hp]; simp
  unfold EvQ xop
  show Sem.run P (do let v ← Instr.build T (parts.toArray.map fun (i, x) => (i, evalF fr x)); pure (Next.value v)) w = _
  simp only [Instr.build, Sem.run_bind, run_zeroValue hz, Result.andThen_ok, run_und hu, hpl w]
  rw [hp', hf]
  rfl
theorem or_buildSlice {len : Nat} {zv : Value} {parts : List (Nat × Operand)} {ps : List (Nat × Value)} (hm : Mem w R H) (hu : P.underlying T = some (.slice E)) (hi : tinf P E = some (some zv, n, kb)) (hs : Nat.ble (len * n) 16777216 = true)
    (hp : (parts.map fun q => (q.1, evalF fr q.2)) = ps) (hf : Instr.fill (fun i => some (i * n, n)) ((Array.range (len * n)).map (zv.cells[· % zv.cells.size]!)) ps = some c) :
    OpR P fr w (.buildSlice T len parts.toArray) ty (fun v w' => ∃ b, v = slc b 0 len len ∧ Ext w w' ∧ Mem w' R ((b, .cells c E) :: H)) := by
  have hp' : (parts.toArray.map fun ((i, x) : Nat × Operand) => (i, evalF fr x)).toList = ps := by rw [← hp]; simp
  have hs' : ¬ (len * n > 2 ^ 24) := by have := Nat.le_of_ble_eq_true hs; omega
  refine .inl ⟨slc w.heap.size 0 len len, { w with heap := w.heap.push (.cells c E) }, ?_, _, rfl, Ext.alloc _ _, hm.alloc _⟩
  unfold xop
  show Sem.run P (do let v ← Instr.buildSlice T len (parts.toArray.map fun (i, x) => (i, evalF fr x)); pure (Next.value v)) w = _
  simp only [Instr.buildSlice, Sem.run_bind, run_und hu, Result.andThen_ok, run_sizeOf hi, hs', if_false, Sem.run_pure]
  rw [hp']
  by_cases h0 : len * n = 0
  · simp only [h0, if_true, Sem.run_pure, Result.andThen_ok]
    rw [h0] at hf
    have e : ∀ g : Nat → Value, (Array.range 0).map g = #[] := fun g => Array.eq_empty_of_size_eq_zero (by simp)
    rw [e] at hf
    simp only [e, Sem.run_bind, Sem.run_pure, Result.andThen_ok, hf]; rfl
  · simp only [h0, if_false, Sem.run_bind, run_zeroValue hi, Result.andThen_ok, Sem.run_pure]
    rw [hf]; rfl
theorem or_makeSlice {zv : Value} {i j : Int} (hm : Mem w R H) (hu : P.underlying T = some (.slice E)) (hi : tinf P E = some (some zv, n, kb)) (hx : evalF fr x = i64 i) (hy : evalF fr y = i64 j) (h0 : 0 ≤ i) (h1 : i ≤ j) (h2 : kb * j.toNat ≤ 281474976710656) (h3 : j < 9223372036854775808)
    : OpR P fr w (.makeSlice T x y) ty (fun v w' => ∃ b, v = slc b 0 i.toNat j.toNat ∧ Ext w w' ∧ Mem w' R ((b, .cells ((Array.range (j.toNat * n)).map (zv.cells[· % zv.cells.size]!)) E) :: H)) := by
  refine .inl ⟨slc w.heap.size 0 i.toNat j.toNat, { w with heap := w.heap.push (.cells ((Array.range (j.toNat * n)).map (zv.cells[· % zv.cells.size]!)) E) }, ?_, _, rfl, Ext.alloc _ _, hm.alloc _⟩
  unfold xop
  show Sem.run P (do let v ← Instr.makeSlice T (evalF fr x) (evalF fr y); pure (Next.value v)) w = _
  rw [hx, hy]
  obtain ⟨info, hi1, hi2, hi3, hi4⟩ := run_bytes (P := P) (w := w) hi
  have e1 : IntKind.i64.wrap i = i := wrap_i64 (by omega) (by omega)
  have e2 : IntKind.i64.wrap j = j := wrap_i64 (by omega) (by omega)
  have h4 : ((kb : Int) * j) ≤ 281474976710656 := by
    have : ((kb * j.toNat : Nat) : Int) = (kb : Int) * j := by rw [Int.natCast_mul, Int.toNat_of_nonneg (by omega)]
    omega
  have h5 : (decide (j < 0) || decide ((kb : Int) * j > 2 ^ 48)) = false := by
    simp only [Bool.or_eq_false_iff, decide_eq_false_iff_not]
    omega
  have h6 : ¬ (i < 0) := by omega
  have h7 : ¬ (i > j) := by omega
  simp only [Instr.makeSlice, Sem.run_bind, run_und hu, Result.andThen_ok, i64, asInt, asIntOf, Sem.run_pure, hi1, hi2, e1, e2, h5, h6, h7, decide_false, Bool.or_self, Bool.false_eq_true, if_false, run_askRoom, run_sizeOf hi]
  by_cases hn : j.toNat * n = 0
  · rw [if_pos hn]
    have e : ∀ g : Nat → Value, (Array.range 0).map g = #[] := fun g => Array.eq_empty_of_size_eq_zero (by simp)
    simp [hn, e, newRow, slc, run_newObj]
  · rw [if_neg hn]
    simp [run_zeroValue hi, newRow, slc, run_newObj]
/-- Parts one behind the other. -/
def pairs : Nat → List Value → List (Nat × Value)
  | _, [] => []
  | k, v :: r => (k, v) :: pairs (k + 1) r
theorem one_cells {v : Value} (h : v.oneCell' = true) : v.cells = #[v] := by cases v <;> first | rfl | (simp [Value.oneCell'] at h)
theorem fill_ones : ∀ (vs : List Value) (k : Nat) (c : Array Value), (∀ v ∈ vs, v.oneCell' = true) → k + vs.length ≤ c.size → Instr.fill (fun i => some (i * 1, 1)) c (pairs k vs) = some (ovr c k vs)
  | [], k, c, _, _ => rfl
  | v :: vs, k, c, ho, hs => by
    have h1 := one_cells (ho v (by simp))
    simp only [List.length_cons] at hs
    have h2 : ¬ (k + 1 > c.size) := by omega
    simp only [pairs, Instr.fill, h1, Nat.mul_one]
    simp only [List.size_toArray, List.length_cons, List.length_nil, Nat.zero_add, ne_eq, not_true, decide_false, Bool.false_or, decide_eq_true_eq, h2, if_false, bne_self_eq_false]
    have := fill_ones vs (k + 1) (c.setIfInBounds k v) (fun u hu => ho u (List.mem_cons_of_mem _ hu)) (by simp; omega)
    simpa [ovr] using this
theorem map_ones {f : α → Value} (hf : ∀ a, (f a).oneCell' = true) (l : List α) : ∀ v ∈ l.map f, v.oneCell' = true := by
  simp only [List.mem_map]; rintro _ ⟨q, _, rfl⟩; exact hf q
theorem or_buildSlice_cl {len : Nat} {zv : Value} {parts : List (Nat × Operand)} (f : α → Value) (l : List α) (hf : ∀ a, (f a).oneCell' = true) (hm : Mem w R H) (hu : P.underlying T = some (.slice E)) (hi : tinf P E = some (some zv, 1, kb)) (hs : Nat.ble (len * 1) 16777216 = true)
    (hp : (parts.map fun q => (q.1, evalF fr q.2)) = pairs 0 (l.map f)) (hl : l.length = len) :
    OpR P fr w (.buildSlice T len parts.toArray) ty (fun v w' => ∃ b, v = slc b 0 len len ∧ Ext w w' ∧ Mem w' R ((b, .cells (cl f l) E) :: H)) := by
  refine or_buildSlice hm hu hi hs hp ?_
  rw [fill_ones _ _ _ (map_ones hf l) (by simp; omega), ovr_all (by simp; omega)]; rfl

theorem ev_len_sl {a : Option Addr} {len cap : Nat} (hu : P.underlying T = some (.slice E)) (hx : evalF fr x = .slice a len cap) : EvQ P fr w (.call ⟨.builtin .len, #[x], #[T]⟩) ty (i64 (len : Int)) := by
  unfold EvQ; rw [xop_builtin]
  simp [builtin, Builtin.len_, hx, run_und hu, goInt, i64]
theorem ev_len_str {s : ByteArray} (hu : P.underlying T = some .string) (hx : evalF fr x = .string s) : EvQ P fr w (.call ⟨.builtin .len, #[x], #[T]⟩) ty (i64 (s.size : Int)) := by
  unfold EvQ; rw [xop_builtin]
  simp [builtin, Builtin.len_, hx, run_und hu, goInt, i64]
theorem ev_len_rd {m : Nat → Option Obj} (h : Rd m f v l) (hu : P.underlying T = some (.slice E)) (hx : evalF fr x = v) : EvQ P fr w (.call ⟨.builtin .len, #[x], #[T]⟩) ty (i64 (l.length : Int)) := by
  obtain ⟨a, cap, rfl, _, _⟩ := h.is
  exact ev_len_sl hu hx
theorem ev_min_i64 {i j : Int} {ts : Array TypeId} (hx : evalF fr x = i64 i) (hy : evalF fr y = i64 j) : EvQ P fr w (.call ⟨.builtin .min, #[x, y], ts⟩) ty (i64 (if j < i then j else i)) := by
  unfold EvQ; rw [xop_builtin]
  simp [builtin, Builtin.min_, Builtin.min2, hx, hy, i64]
theorem ev_max_i64 {i j : Int} {ts : Array TypeId} (hx : evalF fr x = i64 i) (hy : evalF fr y = i64 j) : EvQ P fr w (.call ⟨.builtin .max, #[x, y], ts⟩) ty (i64 (if j > i then j else i)) := by
  unfold EvQ; rw [xop_builtin]
  simp [builtin, Builtin.max_, Builtin.max2, hx, hy, i64]
theorem ev_extract {vs : Array Value} {i : Nat} (hx : evalF fr x = .tuple vs) (hi : vs[i]? = some v) : EvQ P fr w (.extract x i) ty v := by
  unfold EvQ xop
  simp [execOp, hx, Instr.extract, hi]

/-- Copied into a row of the call's own. -/
theorem or_copy {u : Value} {ms : List α} {dl dc : Nat} (hx : evalF fr x = slc b off dl dc) (hy : evalF fr y = u) (hr : Rd (blks w) f u ms) (hT : P.underlying T = some (.slice E)) (hi : tinf P E = some (z, 1, kb)) (hf : ∀ a, (f a).oneCell' = true)
    (hb : w.heap[b]? = some (.cells c E' fz)) (hs : off + min ms.length dl ≤ c.size) (hfz : fz.2 ≤ off) :
    OpR P fr w (.call ⟨.builtin .copy, #[x, y], #[T, T']⟩) ty (fun v' w' => v' = i64 (min ms.length dl : Nat) ∧ Upd w b (.cells (ovr c off ((ms.take (min ms.length dl)).map f)) E' fz) w') := by
  have hlen := (rd_run (P := P) hr).1
  obtain ⟨a, cap, rfl, hle, h2⟩ := hr.is
  have hl2 : (ms.take (min ms.length dl)).length = min ms.length dl := by simp
  have hr' : Rd (blks w) f (.slice a (min ms.length dl) cap) (ms.take (min ms.length dl)) := by
    refine ⟨a, cap, by rw [hl2], by rw [hl2]; omega, fun i hi => ?_⟩
    rw [hl2] at hi
    obtain ⟨b, off, c, E, fz, h3, h4, h5⟩ := h2 i (by omega)
    exact ⟨b, off, c, E, fz, h3, h4, by rw [h5]; simp⟩
  have hcells := (rd_run (P := P) hr').2 w.drawn
  rw [hl2] at hcells
  have hfc : (Builtin.firstCells 1 (min ms.length dl) (.slice a ms.length cap)).run P w = .ok (cl f (ms.take (min ms.length dl))) w := by
    cases a <;> exact hcells
  obtain ⟨w', h1, h2⟩ := run_storeCells (P := P) (cl f (ms.take (min ms.length dl))).toList 0 off c w hb (by simp [cl]; omega) (.inl (by omega)) (by simp only [cl, List.mem_map]; rintro _ ⟨q, _, rfl⟩; exact hf q)
  refine .inl ⟨i64 (min ms.length dl : Nat), w', ?_, rfl, ?_⟩
  · rw [xop_builtin]
    simp only [builtin, List.map_toArray, List.map_cons, List.map_nil, hx, hy, slc, Builtin.copy_, List.getElem?_toArray, List.getElem?_cons_zero, List.getElem?_cons_succ, Sem.run_bind, run_und hT, Result.andThen_ok, hlen, run_sizeOf hi]
    have e : Nat.min ms.length dl = min ms.length dl := rfl
    rw [e, hfc]
    simp only [Result.andThen_ok]
    rw [h1]
    rfl
  · simpa [cl] using h2

/-! ### Equality of rows of numbers -/
end

/-! ### Words for the walk's text -/
section
variable {P : Program} {n : Nat} {c : Code} {Q : Exit → (Nat → Value) → World → Prop} {fr : Nat → Value} {w : World}
/-- What is kept of a frame. -/
theorem CW.abs (p : (Nat → Value) → Prop) (h : p fr) (k : ∀ g, p g → CW P n c Q g w) : CW P n c Q fr w := k fr h
theorem args0 : (#[] : Array Operand).map (evalF fr) = #[] := by simp
theorem args1 {x : Operand} {v : Value} (h : evalF fr x = v) : #[x].map (evalF fr) = #[v] := by simp [h]
theorem args2 {x1 x2 : Operand} {v1 v2 : Value} (h1 : evalF fr x1 = v1) (h2 : evalF fr x2 = v2) : #[x1, x2].map (evalF fr) = #[v1, v2] := by simp [h1, h2]
theorem args3 {x1 x2 x3 : Operand} {v1 v2 v3 : Value} (h1 : evalF fr x1 = v1) (h2 : evalF fr x2 = v2) (h3 : evalF fr x3 = v3) : #[x1, x2, x3].map (evalF fr) = #[v1, v2, v3] := by simp [h1, h2, h3]
theorem args4 {x1 x2 x3 x4 : Operand} {v1 v2 v3 v4 : Value} (h1 : evalF fr x1 = v1) (h2 : evalF fr x2 = v2) (h3 : evalF fr x3 = v3) (h4 : evalF fr x4 = v4) : #[x1, x2, x3, x4].map (evalF fr) = #[v1, v2, v3, v4] := by simp [h1, h2, h3, h4]
theorem args5 {x1 x2 x3 x4 x5 : Operand} {v1 v2 v3 v4 v5 : Value} (h1 : evalF fr x1 = v1) (h2 : evalF fr x2 = v2) (h3 : evalF fr x3 = v3) (h4 : evalF fr x4 = v4) (h5 : evalF fr x5 = v5) : #[x1, x2, x3, x4, x5].map (evalF fr) = #[v1, v2, v3, v4, v5] := by simp [h1, h2, h3, h4, h5]
end

section
variable {P : Program} {n : Nat} {l tail : List Oper} {N : (Nat → Value) → World → Prop} {K : World → Prop} {r : List (Nat × Bool)} {fr : Nat → Value} {w0 : World} {i : Nat} {op : Op} {ty : TypeId} {pos : String} {aft : Array Edge} {R : Rest}
theorem dw_nil (h : ∀ w, Ext w0 w → RW P n l.toArray tail N fr w) : DW P n l tail N K [] fr w0 := h
theorem dw_q {d : Nat} {v : Value} (ho : l[i]? = some ⟨some d, op, ty, pos, aft, none⟩) (hd : Nat.blt d n = true) (h : ∀ w, Ext w0 w → EvQ P fr w op ty v) (k : DW P n l tail N (Ext w0) r (upd fr d v) w0) :
    DW P n l tail N (Ext w0) ((i, false) :: r) fr w0 := ⟨_, ho, dst_lt hd, v, fun w hw => (h w hw).opR.mono (by rintro _ _ ⟨rfl, rfl⟩; exact ⟨rfl, Ext.refl _⟩), k⟩
theorem dw_x {d : Nat} {v : Value} (ho : l[i]? = some ⟨some d, op, ty, pos, aft, none⟩) (hd : Nat.blt d n = true) (h : ∀ w, Ext w0 w → OpR P fr w op ty fun v' w' => v' = v ∧ Ext w w') (k : DW P n l tail N (Ext w0) r (upd fr d v) w0) :
    DW P n l tail N (Ext w0) ((i, false) :: r) fr w0 := ⟨_, ho, dst_lt hd, v, fun w hw => h w hw, k⟩
theorem dw_gxy {d j s : Nat} {b want : Bool} {v : Value} (ho : l[i]? = some ⟨some d, op, ty, pos, aft, some (j, want)⟩) (hj : slotOf l j = some s) (hs : fr s = bl b) (hb : b = want) (hd : Nat.blt d n = true) (h : ∀ w, Ext w0 w → OpR P fr w op ty fun v' w' => v' = v ∧ Ext w w') (k : DW P n l tail N (Ext w0) r (upd fr d v) w0) :
    DW P n l tail N (Ext w0) ((i, false) :: r) fr w0 := ⟨_, ho, dst_lt hd, s, some b, hj, hs, fun _ => ⟨v, fun w hw => h w hw, k⟩, fun h => absurd (congrArg some hb) h⟩
theorem dw_gqy {d j s : Nat} {b want : Bool} {v : Value} (ho : l[i]? = some ⟨some d, op, ty, pos, aft, some (j, want)⟩) (hj : slotOf l j = some s) (hs : fr s = bl b) (hb : b = want) (hd : Nat.blt d n = true) (h : ∀ w, Ext w0 w → EvQ P fr w op ty v) (k : DW P n l tail N (Ext w0) r (upd fr d v) w0) :
    DW P n l tail N (Ext w0) ((i, false) :: r) fr w0 := ⟨_, ho, dst_lt hd, s, some b, hj, hs, fun _ => ⟨v, fun w hw => (h w hw).opR.mono (by rintro _ _ ⟨rfl, rfl⟩; exact ⟨rfl, Ext.refl _⟩), k⟩, fun h => absurd (congrArg some hb) h⟩
theorem dw_gqn {d j s : Nat} {b want : Bool} (ho : l[i]? = some ⟨some d, op, ty, pos, aft, some (j, want)⟩) (hj : slotOf l j = some s) (hs : fr s = bl b) (hb : b = !want) (hd : Nat.blt d n = true) (k : DW P n l tail N (Ext w0) r (upd fr d undef) w0) :
    DW P n l tail N (Ext w0) ((i, false) :: r) fr w0 := ⟨_, ho, dst_lt hd, s, some b, hj, hs, fun h => (by subst hb; cases want <;> cases h), fun _ => k⟩
theorem dw_c {d : Nat} (ho : l[i]? = some ⟨some d, op, ty, pos, aft, none⟩) (hd : Nat.blt d n = true) (h : ∀ w, Ext w0 w → OpR P fr w op ty fun v w' => Ext w w' ∧ DW P n l tail N (Ext w') r (upd fr d v) w') :
    DW P n l tail N (Ext w0) ((i, true) :: r) fr w0 := ⟨_, ho, dst_lt hd, fun w e => (h w e).mono fun v w' ⟨e1, hk⟩ => ⟨Ext w', Ext.refl _, extClosed_ext _, fun u hu => e.trans (e1.trans hu), hk⟩⟩
/-- The worlds that hold the rest. -/
def KR (R : Rest) (w : World) : Prop := ∃ H, Mem w R H
theorem kr_closed (R : Rest) : ExtClosed (KR R) := fun _ _ ⟨H, h⟩ e => ⟨H, h.ext e⟩
theorem dk_q {d : Nat} {v : Value} (ho : l[i]? = some ⟨some d, op, ty, pos, aft, none⟩) (hd : Nat.blt d n = true) (h : ∀ w H, Mem w R H → EvQ P fr w op ty v) (k : DW P n l tail N (KR R) r (upd fr d v) w0) :
    DW P n l tail N (KR R) ((i, false) :: r) fr w0 := ⟨_, ho, dst_lt hd, v, fun w hw => (h w hw.choose hw.choose_spec).opR.mono (by rintro _ _ ⟨rfl, rfl⟩; exact ⟨rfl, Ext.refl _⟩), k⟩
theorem dk_x {d : Nat} {v : Value} (ho : l[i]? = some ⟨some d, op, ty, pos, aft, none⟩) (hd : Nat.blt d n = true) (h : ∀ w H, Mem w R H → OpR P fr w op ty fun v' w' => v' = v ∧ Ext w w') (k : DW P n l tail N (KR R) r (upd fr d v) w0) :
    DW P n l tail N (KR R) ((i, false) :: r) fr w0 := ⟨_, ho, dst_lt hd, v, fun w hw => h w hw.choose hw.choose_spec, k⟩
theorem dk_c {d : Nat} (ho : l[i]? = some ⟨some d, op, ty, pos, aft, none⟩) (hd : Nat.blt d n = true) (h : ∀ w, Ext w0 w → OpR P fr w op ty fun v w' => KR R w' ∧ DW P n l tail N (KR R) r (upd fr d v) w') :
    DW P n l tail N (KR R) ((i, true) :: r) fr w0 := ⟨_, ho, dst_lt hd, fun w e => (h w e).mono fun v w' ⟨e1, hk⟩ => ⟨KR R, e1, kr_closed R, fun u hu => hu, hk⟩⟩
theorem dk_n (ho : l[i]? = some ⟨none, op, ty, pos, aft, none⟩) (h : ∀ w, Ext w0 w → OpR P fr w op ty fun v w' => KR R w' ∧ DW P n l tail N (KR R) r fr w') :
    DW P n l tail N (KR R) ((i, true) :: r) fr w0 := ⟨⟨none, op, ty, pos, aft, none⟩, ho, (fun (d : Tmp) (hd : (none : Option Tmp) = some d) => by cases hd), fun w e => (h w e).mono fun v w' ⟨e1, hk⟩ => ⟨KR R, e1, kr_closed R, fun u hu => hu, hk⟩⟩
theorem re_planM {le : List Oper} {H : List (Nat × Obj)} (hm : Mem w0 R H) (plan : List (Nat × Bool)) (k : Nat) (hll : le.length = l.length) (hp : planOk2 l le plan k = true)
    (h : DW P n l (l.drop k) N (KR R) plan fr w0) : RunsE P n l le N fr w0 := re_planK (KR R) (kr_closed R) ⟨H, hm⟩ plan k hll hp h
end

open RowKit in
theorem meas {fr fr' : Nat → Value} {t : Nat} {a a' n : Int} {k k' : IntKind} (h' : fr' t = .int k' a') (h : fr t = .int k a) (hlt : a < a') (hn : a < n) : (n - intOf (fr' t)).toNat < (n - intOf (fr t)).toNat := by
  rw [h, h']; simp only [intOf]; omega
open RowKit in
theorem measD {fr fr' : Nat → Value} {t : Nat} {a a' n : Int} {k k' : IntKind} (h' : fr' t = .int k' a') (h : fr t = .int k a) (hlt : a' < a) (hn : n < a) : (intOf (fr' t) - n).toNat < (intOf (fr t) - n).toNat := by
  rw [h, h']; simp only [intOf]; omega
theorem u8_one (x : BitVec 8) : (u8 x).oneCell' = true := rfl
theorem u64_one (x : BitVec 64) : (u64 x).oneCell' = true := rfl
theorem i64_one (x : Int) : (i64 x).oneCell' = true := rfl
theorem cl_one {α : Type} {f : α → Value} (hf : ∀ a, (f a).oneCell' = true) (l : List α) : ∀ v ∈ (cl f l).toList, v.oneCell' = true := by
  simp only [cl, List.mem_map]; rintro _ ⟨q, _, rfl⟩; exact hf q

section
variable {P : Program} {fr : Nat → Value} {w : World} {ty T E : TypeId} {x y : Operand} {z : Option Value} {kb b off : Nat} {fz : Nat × Nat} {α : Type}
end
section
variable {P : Program} {n : Nat} {c : Code} {Q : Exit → (Nat → Value) → World → Prop} {fr : Nat → Value} {w : World}
theorem CR.abs {k : Nat} (p : (Nat → Value) → Prop) (h : p fr) (q : ∀ g, p g → CR P n c Q k g w) : CR P n c Q k fr w := q fr h
theorem cw_cond_t {o : Operand} {x y : Code} {b : Bool} (hc : evalF fr o = bl b) (hb : b = true) (h : CW P n x Q fr w) : CW P n (.cond o x y) Q fr w := cw_cond hc (fun _ => h) (fun e => by subst hb; cases e)
theorem cw_cond_f {o : Operand} {x y : Code} {b : Bool} (hc : evalF fr o = bl b) (hb : b = false) (h : CW P n y Q fr w) : CW P n (.cond o x y) Q fr w := cw_cond hc (fun e => by subst hb; cases e) (fun _ => h)
theorem eq_of_bne_false {α : Type} [BEq α] [LawfulBEq α] {a b : α} (h : (a != b) = false) : a = b := by simpa using h
end
section
variable {P : Program} {fr : Nat → Value} {w : World} {ty T E : TypeId} {x y : Operand} {d : TypeDesc} {z : Option Value} {n kb : Nat} {α : Type} {f : α → Value} {v : Value} {l : List α}
theorem ev_indexAddr_rdv {m : Nat → Option Obj} {k : IntKind} {i : Int} (h : Rd m f v l) (hu : P.underlying T = some (.slice E)) (hi : tinf P E = some (z, 1, kb)) (hx : evalF fr x = v) (hy : evalF fr y = .int k i) (h0 : 0 ≤ i) (h1 : i < l.length) :
    EvQ P fr w (.indexAddr T x y) ty (elpv v i) := ev_indexAddr_rd h hu hi hx hy h0 h1
theorem ev_load_rdD {i : Int} {dflt : α} (h : Rd (blks w) f v l) (hu : P.underlying T = some d) (hd : aggD d = false) (h0 : 0 ≤ i) (h1 : i.toNat < l.length) (hx : evalF fr x = elpv v i) : EvQ P fr w (.load T x) ty (f (l.getD i.toNat dflt)) := by
  obtain ⟨a, cap, hv, _⟩ := h.is
  have hx' : evalF fr x = elp a i.toNat := by rw [hx, hv]; rfl
  have := ev_load_rd (ty := ty) hv h hu hd h0 h1 hx'
  rwa [show l.getD i.toNat dflt = l[i.toNat] from by simp [List.getD_eq_getElem?_getD, h1]]
theorem Rd.mkA {m : Nat → Option Obj} {b : Nat} {E : TypeId} {fz : Nat × Nat} {l : List α} (hb : m b = some (.cells (cl f l) E fz)) : Rd m f (slc b 0 l.length l.length) l :=
  Rd.mk' (Nat.le_refl _) hb (fun i hi => by rw [Nat.zero_add]; exact get_cl f l i hi)
end
end Go.Proofs.Ytfbnhoolkajebaa
