/- The framework, part V: slices whose elements are slices of bytes, each in blocks of its own. Conditions: none. -/
import Derived.Test.YtfbnhoolkajebaaFwR
import Derived.Test.YtfbnhoolkajebaaFwQ
import Derived.Laws.BytesArg
import Derived.Laws.Strings
namespace Go.Proofs.Ytfbnhoolkajebaa
open Go.RowKit
set_option linter.unusedVariables false
set_option linter.unusedSimpArgs false
/-- A slice's parts, and the bytes that it reads as. -/
abbrev SlT := (Option Addr × Nat × Nat) × List (BitVec 8)
def slv (t : SlT) : Value := .slice t.1.1 t.1.2.1 t.1.2.2
theorem slv_one (t : SlT) : (slv t).oneCell' = true := rfl
def sl0 : SlT := ((none, 0, 0), [])
def toSl (v : Value) (l : List (BitVec 8)) : SlT := match v with | .slice a n c => ((a, n, c), l) | _ => ((none, 0, 0), l)
theorem toSl_snd (v : Value) (l : List (BitVec 8)) : (toSl v l).2 = l := by cases v <;> rfl
section
variable {α : Type} {f : α → Value} {m : Nat → Option Obj} {v : Value} {l' : List α} {E : TypeId} {Hs He : List (Nat × Obj)}
theorem Rd.toSl (l : List (BitVec 8)) (h : Rd m f v l') : slv (Proofs.Ytfbnhoolkajebaa.toSl v l) = v := by obtain ⟨a, cap, rfl, _⟩ := h.is; rfl
theorem Grow.toSl (l : List (BitVec 8)) (h : Grow f E v l' Hs) : slv (Proofs.Ytfbnhoolkajebaa.toSl v l) = v := by obtain ⟨a, cap, rfl⟩ := h.len; rfl
theorem Rd.oneS {b : Nat} {fz : Nat × Nat} {l : List (BitVec 8)} (hb : m b = some (.cells #[v] E fz)) (e : slv (Proofs.Ytfbnhoolkajebaa.toSl v l) = v) : Rd m slv (slc b 0 1 1) [Proofs.Ytfbnhoolkajebaa.toSl v l] := by
  refine Rd.mkA (f := slv) (l := [Proofs.Ytfbnhoolkajebaa.toSl v l]) (E := E) (fz := fz) ?_
  rw [hb]; simp [cl, e]
/-- The elements' blocks. -/
def ElIn (He : List (Nat × Obj)) (ls : List SlT) : Prop := ∀ p ∈ ls, ∀ m : Nat → Option Obj, (∀ q ∈ He, m q.1 = some q.2) → Rd m u8 (slv p) p.2
theorem ElIn.nil (He : List (Nat × Obj)) : ElIn He [] := fun p hp => by cases hp
theorem Grow.rdOf {l : List (BitVec 8)} (h : Grow u8 E v l Hs) : ∀ m : Nat → Option Obj, (∀ q ∈ Hs, m q.1 = some q.2) → Rd m u8 v l := fun m hm => h.rdIn hm
theorem ElIn.snocR {ls : List SlT} {l : List (BitVec 8)} (h : ElIn He ls) (g : ∀ m : Nat → Option Obj, (∀ q ∈ Hs, m q.1 = some q.2) → Rd m u8 v l) (e : slv (Proofs.Ytfbnhoolkajebaa.toSl v l) = v) : ElIn (Hs ++ He) (ls ++ [Proofs.Ytfbnhoolkajebaa.toSl v l]) := by
  intro p hp m hm
  rcases List.mem_append.1 hp with hp | hp
  · exact h p hp m fun q hq => hm q (List.mem_append_right _ hq)
  · obtain rfl : p = Proofs.Ytfbnhoolkajebaa.toSl v l := by simpa using hp
    rw [e, toSl_snd]
    exact g m fun q hq => hm q (List.mem_append_left _ hq)
theorem ElIn.snoc {ls : List SlT} {l : List (BitVec 8)} (h : ElIn He ls) (g : Grow u8 E v l Hs) : ElIn (Hs ++ He) (ls ++ [Proofs.Ytfbnhoolkajebaa.toSl v l]) := h.snocR g.rdOf (g.toSl l)
theorem ElIn.get {ls : List SlT} {L : List (List (BitVec 8))} {k : Nat} (h : ElIn He ls) (hL : ls.map (·.2) = L) (hk : k < ls.length) (hm : ∀ q ∈ He, m q.1 = some q.2) : Rd m u8 (slv (ls.getD k sl0)) (L.getD k []) := by
  subst hL
  have e : ls.getD k sl0 = ls[k] := by simp [List.getD_eq_getElem?_getD, hk]
  have e' : (ls.map (·.2)).getD k [] = ls[k].2 := by simp [List.getD_eq_getElem?_getD, hk]
  rw [e, e']
  exact h _ (List.getElem_mem hk) m hm
theorem map_snd_snoc {ls : List SlT} {L : List (List (BitVec 8))} (h : ls.map (·.2) = L) (v : Value) (l : List (BitVec 8)) : (ls ++ [Proofs.Ytfbnhoolkajebaa.toSl v l]).map (·.2) = L ++ [l] := by simp [h, toSl_snd]
end
section
variable {P : Program} {fr : Nat → Value} {w : World} {ty T T' E E' : TypeId} {x y : Operand} {d : TypeDesc} {z : Option Value} {n kb b off : Nat} {c : Array Value} {fz : Nat × Nat} {R : Rest} {H Hs : List (Nat × Obj)} {α : Type} {f : α → Value} {v : Value} {l : List α}
/-! ### A text's bytes behind others -/
theorem run_append_inS {zv u : Value} {ms : List α} {a : Option Addr} {len cap : Nat} (hx : evalF fr x = .slice a len cap) (hy : evalF fr y = u) (hr : ∀ w : World, (Builtin.lenOf u).run P w = .ok ms.length w ∧ (Builtin.firstCells 1 ms.length u).run P w = .ok (cl f ms) w) (hT : P.underlying T = some (.slice E)) (hT' : P.underlying T' = some .string)
    (hi : tinf P E = some (some zv, 1, kb)) (hc : len + ms.length ≤ cap) {w' : World} (hs : ∀ a', a = some a' → (storeCells (a'.add len) (cl f ms).toList).run P w = .ok () w') (hn : a = none → w' = w) :
    (xop (evalF fr) (.call ⟨.builtin .append, #[x, y], #[T, T']⟩) ty).run P w = .ok (.value (.slice a (len + ms.length) cap)) w' := by
  obtain ⟨hlen, hcells0⟩ := hr w
  rw [xop_builtin]
  simp only [List.map_toArray, List.map_cons, List.map_nil, hx, hy]
  simp only [builtin, Builtin.append_, Sem.run_bind]
  simp only [List.getElem?_toArray, List.getElem?_cons_zero, List.getElem?_cons_succ]
  simp only [Sem.run_bind, run_und hT, Result.andThen_ok, run_sizeOf hi, run_und hT', Sem.run_pure, Bool.false_eq_true, if_false, hlen, hc, if_true]
  cases a with
  | none => simp [hcells0, hn]
  | some a' => have := hs a' rfl; simp [hcells0, this]
theorem run_append_newS {zv u : Value} {ms : List α} {a : Option Addr} {cap : Nat} (hx : evalF fr x = .slice a l.length cap) (hy : evalF fr y = u) (hr : ∀ w : World, (Builtin.lenOf u).run P w = .ok ms.length w ∧ (Builtin.firstCells 1 ms.length u).run P w = .ok (cl f ms) w) (hv : Rd (blks w) f (.slice a l.length cap) l) (hT : P.underlying T = some (.slice E)) (hT' : P.underlying T' = some .string)
    (hi : tinf P E = some (some zv, 1, kb)) (hz1 : zv.cells.size = 1) (hc : ¬ l.length + ms.length ≤ cap) (hn : (4 * (l.length + ms.length) + 1024) * kb ≤ 281474976710656) (hn1 : l.length + ms.length ≤ 281474976710656) :
    ∃ nc rest, nc = l.length + ms.length + (Array.size rest) ∧ (xop (evalF fr) (.call ⟨.builtin .append, #[x, y], #[T, T']⟩) ty).run P w =
      .ok (.value (.slice (some ⟨w.heap.size, 0, none⟩) (l.length + ms.length) nc)) { w with heap := w.heap.push (.cells (cl f l ++ cl f ms ++ rest) E), drawn := w.drawn + 1 } := by
  have hlen := (hr w).1
  have hnew : (Builtin.firstCells 1 ms.length u).run P w.drew = .ok (cl f ms) w.drew := (hr w.drew).2
  have hold : (Builtin.firstCells 1 l.length (.slice a l.length cap)).run P w.drew = .ok (cl f l) w.drew := (rd_run (P := P) hv).2 (w.drawn + 1)
  obtain ⟨info, hi1, hi2, hi3, hi4⟩ := run_bytes (P := P) (w := w) hi
  obtain ⟨info', hi1', hi2', _, _⟩ := run_bytes (P := P) (w := w.drew) hi
  have h1 : ¬ (9223372036854775807 < (l.length : Int) + (ms.length : Int) ∧ info.bytes = 0) := by omega
  have h2 : ¬ (281474976710656 < Builtin.nextslicecap (l.length + ms.length) cap * info.bytes) := by
    have := nextslicecap_le (need := l.length + ms.length) (old := cap) (by omega)
    have h3 : Builtin.nextslicecap (l.length + ms.length) cap * kb ≤ (4 * (l.length + ms.length) + 1024) * kb := Nat.mul_le_mul_right _ this
    rw [hi2]; omega
  have hz : (zeroValue E).run P w.drew = .ok zv w.drew := run_zeroValue hi
  let t := w.tape w.drawn (.appendCap (l.length + ms.length) cap E)
  refine ⟨l.length + ms.length + t % (2 ^ 63 - (l.length + ms.length)), Builtin.zeroCells zv.cells (t % (2 ^ 63 - (l.length + ms.length))), ?_, ?_⟩
  · simp [Builtin.zeroCells, hz1]
  rw [xop_builtin]
  simp only [List.map_toArray, List.map_cons, List.map_nil, hx, hy]
  simp only [builtin, Builtin.append_, Sem.run_bind]
  simp only [List.getElem?_toArray, List.getElem?_cons_zero, List.getElem?_cons_succ]
  simp only [Sem.run_bind, run_und hT, Result.andThen_ok, run_sizeOf hi, run_und hT', Sem.run_pure, Bool.false_eq_true, if_false, hlen, hc]
  simp [hi1, h1, h2, Question.forced, Question.cut, hold, hnew, hi1', hz, newRow, IntKind.max, IntKind.signed, IntKind.bits]
  exact ⟨rfl, rfl⟩

theorem or_appendS {zv u : Value} {ms : List α} (hm : Mem w R (Hs ++ H)) (hg : Grow f E v l Hs) (hx : evalF fr x = v) (hy : evalF fr y = u) (hr : ∀ w : World, (Builtin.lenOf u).run P w = .ok ms.length w ∧ (Builtin.firstCells 1 ms.length u).run P w = .ok (cl f ms) w) (hT : P.underlying T = some (.slice E)) (hT' : P.underlying T' = some .string)
    (hi : tinf P E = some (some zv, 1, kb)) (hz1 : zv.cells.size = 1) (hf : ∀ a, (f a).oneCell' = true) (hn : (4 * (l.length + ms.length) + 1024) * kb ≤ 281474976710656) (hn1 : l.length + ms.length ≤ 281474976710656) :
    OpR P fr w (.call ⟨.builtin .append, #[x, y], #[T, T']⟩) ty (fun v' w' => ∃ Hs', Mem w' R (Hs' ++ H) ∧ Grow f E v' (l ++ ms) Hs') := by
  have hrd := hg.rd hm
  -- a new row
  have grow : ∀ a cap, v = .slice a l.length cap → ¬ l.length + ms.length ≤ cap →
      OpR P fr w (.call ⟨.builtin .append, #[x, y], #[T, T']⟩) ty (fun v' w' => ∃ Hs', Mem w' R (Hs' ++ H) ∧ Grow f E v' (l ++ ms) Hs') := by
    intro a cap hv hc
    subst hv
    obtain ⟨nc, rest, hnc, hrun⟩ := run_append_newS (ty := ty) hx hy hr hrd hT hT' hi hz1 hc hn hn1
    refine .inl ⟨_, _, hrun, [(w.heap.size, .cells (cl f l ++ cl f ms ++ rest) E (0, 0))], ?_, ?_⟩
    · have h1 := ((hm.drop Hs H).drew).alloc (.cells (cl f l ++ cl f ms ++ rest) E)
      exact h1
    · refine .inr ⟨w.heap.size, [], rest.toList, [], ?_, ?_⟩
      · simp [slc, hnc]
      · congr 3
        apply Array.ext'; simp [cl]
  rcases hg with ⟨⟨a, rfl⟩, rfl, rfl⟩ | ⟨b, pre, sp, post, rfl, rfl⟩
  · by_cases hms : ms.length = 0
    · have : ms = [] := List.eq_nil_of_length_eq_zero hms
      subst this
      have hrun := run_append_inS (ty := ty) (w' := w) hx hy hr hT hT' hi (by simp) (fun a' _ => by simp [cl, storeCells]) (fun _ => rfl)
      exact .inl ⟨_, _, hrun, [], hm, .inl ⟨⟨_, rfl⟩, rfl, rfl⟩⟩
    · exact grow a 0 rfl (by simp only [List.length_nil]; omega)
  · by_cases hc : l.length + ms.length ≤ l.length + sp.length
    · have hb : w.heap[b]? = some (.cells (pre ++ (l.map f ++ (sp ++ post))).toArray E (0, 0)) := hm.own (b, .cells (pre ++ (l.map f ++ (sp ++ post))).toArray E (0, 0)) (by simp)
      obtain ⟨w', h1, h2⟩ := run_storeCells (P := P) (cl f ms).toList 0 (pre.length + l.length) (pre ++ (l.map f ++ (sp ++ post))).toArray w hb (by simp [cl]; omega) (by simp) (by simp [cl]; intro a _; exact hf a)
      have hrun := run_append_inS (ty := ty) (w' := w') hx hy hr hT hT' hi hc (fun a' ha => by cases ha; rw [add_none]; exact h1) (fun h => by cases h)
      · refine .inl ⟨_, _, hrun, [(b, .cells (pre ++ ((l ++ ms).map f ++ (sp.drop ms.length ++ post))).toArray E (0, 0))], ?_, .inr ⟨b, pre, sp.drop ms.length, post, ?_, rfl⟩⟩
        · have h3 := Mem.upd (H1 := []) hm h2
          have e : ovr (pre ++ (l.map f ++ (sp ++ post))).toArray (pre.length + l.length + 0) (cl f ms).toList = (pre ++ ((l ++ ms).map f ++ (sp.drop ms.length ++ post))).toArray := by
            apply Array.ext'
            rw [ovr_toList _ _ _ (by simp [cl]; omega)]
            have e1 : List.drop (ms.length - sp.length) post = post := by rw [Nat.sub_eq_zero_of_le (by omega), List.drop_zero]
            have e2 : List.take (pre.length + l.length) pre = pre := List.take_of_length_le (by omega)
            have e3 : List.drop (pre.length + (l.length + ms.length)) pre = [] := List.drop_of_length_le (by omega)
            have e4 : List.drop (l.length + ms.length) (List.map f l) = [] := List.drop_of_length_le (by simp)
            simp [cl, List.take_append, List.drop_append, Nat.add_assoc, e1, e2, e3, e4]
          rw [e] at h3
          exact h3
        · simp [slc]; omega
    · exact grow (some ⟨b, pre.length, none⟩) (l.length + sp.length) rfl hc
theorem str_run {s : ByteArray} (w : World) : (Builtin.lenOf (.string s)).run P w = .ok (bytesL s).length w ∧ (Builtin.firstCells 1 (bytesL s).length (.string s)).run P w = .ok (cl u8 (bytesL s)) w := by
  have hl : (bytesL s).length = s.size := by simp [bytesL]
  refine ⟨by rw [hl]; rfl, ?_⟩
  rw [hl]
  show Result.ok ((s.extract 0 s.size).data.map fun b => Value.int .u8 b.toNat) w = _
  congr 1
  have e : s.extract 0 s.size = s := by simp
  rw [e]
  apply Array.ext'
  simp [cl, bytesL, u8]
end
section
variable {P : Program} {fr : Nat → Value} {w : World} {ty T U E : TypeId} {x y : Operand} {v : Value} {l : List (BitVec 8)}
/-! ### Texts -/
def strOf (l : List (BitVec 8)) : ByteArray := ⟨(l.map UInt8.ofBitVec).toArray⟩
theorem str_eq_dec (s t : ByteArray) : (s.toList == t.toList) = decide (s = t) := by
  rw [Bool.eq_iff_iff, beq_iff_eq, decide_eq_true_eq, ByteArray.toList_eq, ByteArray.toList_eq]
  constructor
  · intro h
    obtain ⟨⟨a⟩⟩ := s
    obtain ⟨⟨b⟩⟩ := t
    simp only at h
    rw [h]
  · intro h; rw [h]
theorem ev_str_eql {s t : ByteArray} {t' : TypeId} (hx : evalF fr x = .string s) (hy : evalF fr y = .string t) : EvQ P fr w (.binOp .eql T x y t') ty (bl (decide (s = t))) := by
  unfold EvQ xop
  show Sem.run P (do let v ← (do eqGuard .eql T x y (evalF fr x) (evalF fr y); binOp .eql T (evalF fr x) (evalF fr y)); pure (Next.value v)) w = _
  rw [hx, hy]
  have hg : eqGuard .eql T x y (.string s) (.string t) = pure () := rfl
  have hb : binOp .eql T (.string s) (.string t) = pure (.bool (s.toList == t.toList)) := binOp_string_eql _ _ _
  rw [hg, hb, str_eq_dec]
  rfl
theorem ev_str_neq {s t : ByteArray} {t' : TypeId} (hx : evalF fr x = .string s) (hy : evalF fr y = .string t) : EvQ P fr w (.binOp .neq T x y t') ty (bl (!decide (s = t))) := by
  unfold EvQ xop
  show Sem.run P (do let v ← (do eqGuard .neq T x y (evalF fr x) (evalF fr y); binOp .neq T (evalF fr x) (evalF fr y)); pure (Next.value v)) w = _
  rw [hx, hy]
  have hg : eqGuard .neq T x y (.string s) (.string t) = pure () := rfl
  have hb : binOp .neq T (.string s) (.string t) = pure (.bool !(s.toList == t.toList)) := binOp_string_neq _ _ _
  rw [hg, hb, str_eq_dec]
  rfl
theorem ev_b2s (h : Rd (blks w) u8 v l) (hT : P.underlying T = some (.slice E)) (hE : P.underlying E = some (.int .u8)) (hU : P.underlying U = some .string) (hx : evalF fr x = v) :
    EvQ P fr w (.convert T U x) ty (.string (strOf l)) := by
  have key : (convert T U v).run P w = .ok (.string (strOf l)) w := by
    obtain ⟨a, cap, rfl, hle, hc⟩ := h.is
    match l, hc with
    | [], hc =>
      rw [run_convert_bytes_string w T U E a _ cap hT hE hU]
      cases a with
      | none => rfl
      | some a => rfl
    | c0 :: l', hc =>
      obtain ⟨b, off, c, E', fz, rfl, hb, _⟩ := hc 0 (by simp)
      have := run_convert_bytes_arg (P := P) w T E hT hE b off (c0 :: l').length cap ((c0 :: l').map fun x => (x.toNat : Int)) (by simp) (fun i hi => by
        obtain ⟨b', off', c', E2, fz', e, hb', hc'⟩ := hc i hi
        injection e with e
        injection e with e1 e2
        subst e1; subst e2
        have hb'' : w.heap[b]? = some (.cells c' E2 fz') := hb'
        have : ((c0 :: l').map fun x => (x.toNat : Int)).getD i 0 = ((c0 :: l')[i].toNat : Int) := by
          rw [List.getD_eq_getElem?_getD, List.getElem?_map, List.getElem?_eq_getElem hi]; rfl
        rw [this]
        simp [World.cell?, hb'', hc', u8]) U hU
      rw [this]
      have e : strOfNums ((c0 :: l').map fun x => (x.toNat : Int)) = strOf (c0 :: l') := by
        unfold strOfNums strOf
        congr 2
        rw [List.map_map]
        refine List.map_congr_left fun y _ => ?_
        apply UInt8.toBitVec_inj.1
        simp
      rw [e]
  unfold EvQ xop
  show Sem.run P (do let v ← convert T U (evalF fr x); pure (Next.value v)) w = _
  rw [hx]
  simp only [Sem.run_bind, key, Result.andThen_ok, Sem.run_pure]
end
end Go.Proofs.Ytfbnhoolkajebaa
