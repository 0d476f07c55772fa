/- Maps that are read, ranged over; keys sorted: rules. Conditions: none beyond those that each theorem states. -/
import Derived.Test.YtfbnhoolkajebaaSo7
namespace Go.Proofs.Ytfbnhoolkajebaa
set_option linter.unusedVariables false
set_option linter.unusedSimpArgs false
open Go.ChangeShapes Go.WideShapes Go.ChangeAt Go.RowKit
/-! A map that reads as values by keys. -/
def MapR (m : Nat → Option Obj) (b : Nat) (S : List KV) : Prop :=
  ∃ o l, m b = some o ∧ MapS o l ∧ (∀ p ∈ l, Rd m u8 (slv p.2) p.2.2) ∧ SortK S ∧ ∀ k, (lkA l k).map (·.2) = lkA S k
section
variable {P : Program} {fr : Nat → Value} {w : World} {ty T K V E : TypeId} {x y u : Operand} {R : Rest} {H Hs H' : List (Nat × Obj)} {b : Nat} {S : List KV} {k : ByteArray} {m m0 m1 : Nat → Option Obj}
theorem MapR.mono (h : MapR m b S) (hm : ∀ b o, m b = some o → m1 b = some o) : MapR m1 b S := by
  obtain ⟨o, l, h1, h2, h3, h4⟩ := h
  exact ⟨o, l, hm _ _ h1, h2, fun p hp => (h3 p hp).mono hm, h4⟩
theorem MapR.ofRest (h : MapR R.blk b S) (hm : Mem w R H) : MapR (blks w) b S := h.mono fun b o hb => hm.rest b o hb
theorem MapR.addRest (h : Mem w R (H ++ H')) (hr : MapR R.blk b S) : MapR (R.add H').blk b S := hr.mono fun b o e => h.addRest e
theorem MapR.sort (h : MapR m b S) : SortK S := by obtain ⟨_, _, _, _, _, h, _⟩ := h; exact h
theorem MapG.rdIn (h : MapG m0 b S Hs) (hm : ∀ q ∈ Hs, m q.1 = some q.2) (h0 : ∀ b o, m0 b = some o → m b = some o) : MapR m b S := by
  obtain ⟨o, He, l, rfl, h2, h3, h4⟩ := h
  exact ⟨o, l, hm (b, o) List.mem_cons_self, h2, fun p hp => h3 p hp m (fun q hq => hm q (List.mem_cons_of_mem _ hq)) h0, h4⟩
theorem MapG.rd (h : MapG m0 b S Hs) (hm : Mem w R (Hs ++ H)) (h0 : ∀ b o, m0 b = some o → blks w b = some o) : MapR (blks w) b S := h.rdIn (fun p hp => hm.own p (List.mem_append_left _ hp)) h0
theorem MapG.rdAdd (h : MapG m0 b S Hs) (hm : Mem w R (H ++ H')) (hsub : ∀ p ∈ Hs, p ∈ H') (h0 : ∀ b o, m0 b = some o → (R.add H').blk b = some o) : MapR (R.add H').blk b S := h.rdIn (fun p hp => hm.addOwn (hsub p hp)) h0
theorem MapR.lk (h : MapR m b S) (hm : ∀ b o, m b = some o → w.heap[b]? = some o) (k : ByteArray) (ok : Bool) (hT : P.underlying T = some (.map K V)) (hK : P.underlying K = some .string) {n kb : Nat} (hz : tinf P V = some (some (.slice none 0 0), n, kb)) :
    ∃ s : SlT, (Instr.lookup T (.map (some b)) (.string k) ok).run P w = .ok (if ok then .tuple #[slv s, bl (lkA S k).isSome] else slv s) w ∧ s.2 = (lkA S k).getD [] ∧ Rd m u8 (slv s) s.2 := by
  obtain ⟨o, l, h1, h2, h3, h4, h5⟩ := h
  refine ⟨(lkA l k).getD sl0, ?_, ?_, ?_⟩
  · rw [look_str hT hK hz (hm _ _ h1) h2 ok, ← h5 k, Option.isSome_map]
  · rw [← h5 k]; cases lkA l k <;> rfl
  · cases hx : lkA l k with
    | none => exact Rd.nil _ _
    | some s => exact h3 (k, s) (lkA_mem hx)
theorem or_lookupR (h : MapR R.blk b S) (hm : Mem w R H) (hT : P.underlying T = some (.map K V)) (hK : P.underlying K = some .string) {n kb : Nat} (hz : tinf P V = some (some (.slice none 0 0), n, kb))
    (hx : evalF fr x = .map (some b)) (hy : evalF fr y = .string k) : OpR P fr w (.lookup T x y false) ty (fun v w' => Ext w w' ∧ Mem w' R H ∧ Rd R.blk u8 v ((lkA S k).getD [])) := by
  obtain ⟨s, h1, h2, h3⟩ := h.lk (fun b o e => hm.rest b o e) k false hT hK hz
  refine .inl ⟨slv s, w, ?_, Ext.refl w, hm, h2 ▸ h3⟩
  unfold xop
  show Sem.run P (do let v ← Instr.lookup T (evalF fr x) (evalF fr y) false; pure (Next.value v)) w = _
  rw [hx, hy]
  simp [Sem.run_bind, h1]
theorem or_lookupRt (h : MapR R.blk b S) (hm : Mem w R H) (hT : P.underlying T = some (.map K V)) (hK : P.underlying K = some .string) {n kb : Nat} (hz : tinf P V = some (some (.slice none 0 0), n, kb))
    (hx : evalF fr x = .map (some b)) (hy : evalF fr y = .string k) : OpR P fr w (.lookup T x y true) ty (fun v w' => ∃ v0, v = .tuple #[v0, bl (lkA S k).isSome] ∧ Ext w w' ∧ Mem w' R H ∧ Rd R.blk u8 v0 ((lkA S k).getD [])) := by
  obtain ⟨s, h1, h2, h3⟩ := h.lk (fun b o e => hm.rest b o e) k true hT hK hz
  refine .inl ⟨_, w, ?_, slv s, rfl, Ext.refl w, hm, h2 ▸ h3⟩
  unfold xop
  show Sem.run P (do let v ← Instr.lookup T (evalF fr x) (evalF fr y) true; pure (Next.value v)) w = _
  rw [hx, hy]
  simp [Sem.run_bind, h1]
/-! Its entries, one after the other, in whatever order. -/
def IterO (m : Nat → Option Obj) (b : Nat) (S : List KV) (done : List ByteArray) (oi : Obj) : Prop :=
  ∃ (es : Array MapEntry) (c c0 : Nat) (l : List (ByteArray × SlT)) (seen : Array Nat) (ds : List MapEntry), m b = some (.map es c) ∧
    es.toList.map (fun e => (e.key, e.val)) = l.map (fun p => (Value.string p.1, slv p.2)) ∧ (es.toList.map (·.born)).Nodup ∧ (∀ e ∈ es.toList, e.born < c) ∧ (l.map (·.1)).Nodup ∧ SortK S ∧ (∀ k, (lkA l k).map (·.2) = lkA S k) ∧
    oi = .mapIter (some b) c seen c0 ∧ c ≤ c0 ∧ (done ≠ [] → c0 = c) ∧ (∀ e ∈ ds, e ∈ es.toList) ∧ ds.map (·.born) = seen.toList ∧ ds.map (·.key) = done.map Value.string ∧ (ds.map (·.born)).Nodup
theorem IterO.start (h : MapR m b S) : ∃ es c, m b = some (.map es c) ∧ IterO m b S [] (.mapIter (some b) c #[] c) := by
  obtain ⟨o, l, h1, h2, _, h4, h5⟩ := h
  obtain ⟨es, c, rfl, h6, h7, h8⟩ := h2.ex
  exact ⟨es, c, h1, es, c, c, l, #[], [], h1, h6, h7, h8, h2.nd, h4, h5, rfl, Nat.le_refl _, (fun e => absurd rfl e), (by intro e he; cases he), rfl, rfl, (by simp)⟩
def nextV (n : Bool) (k : ByteArray) (s : SlT) : Value := if n then .tuple #[bl true, .string k, slv s] else .tuple #[bl false]
theorem or_rangeR (h : MapR R.blk b S) (hm : Mem w R H) (hT : P.underlying T = some (.map K V)) (hx : evalF fr x = .map (some b)) :
    OpR P fr w (.range T x) ty (fun v w' => ∃ it oi, v = ptr it 0 ∧ Ext w w' ∧ Mem w' R ((it, oi) :: H) ∧ IterO R.blk b S [] oi) := by
  obtain ⟨es, c, hb, hi⟩ := IterO.start h
  refine .inl ⟨ptr w.heap.size 0, { w with heap := w.heap.push (.mapIter (some b) c #[] c) }, ?_, w.heap.size, _, rfl, Ext.alloc w _, hm.alloc _, hi⟩
  have hg : (getObj b).run P w = .ok (.map es c) w := by simp only [getObj, Sem.run, hm.rest _ _ hb]
  unfold xop
  show Sem.run P (do let v ← Instr.range T (evalF fr x); pure (Next.value v)) w = _
  rw [hx]
  simp [Instr.range, run_und hT, Sem.run_bind, hg, ptr]
theorem key_str {es : Array MapEntry} {l : List (ByteArray × SlT)} {e : MapEntry} (h : es.toList.map (fun e => (e.key, e.val)) = l.map (fun p => (Value.string p.1, slv p.2))) (he : e ∈ es.toList) : ∃ p ∈ l, e.key = .string p.1 ∧ e.val = slv p.2 := by
  have : (e.key, e.val) ∈ l.map (fun p => (Value.string p.1, slv p.2)) := by rw [← h]; exact List.mem_map.2 ⟨e, he, rfl⟩
  obtain ⟨p, hp, e1⟩ := List.mem_map.1 this
  simp only [Prod.mk.injEq] at e1
  exact ⟨p, hp, e1.1.symm, e1.2.symm⟩
theorem map_inj_mem {α β : Type} {f : α → β} {l : List α} (h : (l.map f).Nodup) {a b : α} (ha : a ∈ l) (hb : b ∈ l) (e : f a = f b) : a = b := by
  induction l with
  | nil => cases ha
  | cons c l ih =>
    rw [List.map_cons, List.nodup_cons] at h
    rcases List.mem_cons.1 ha with h1 | h1 <;> rcases List.mem_cons.1 hb with h2 | h2
    · rw [h1, h2]
    · subst h1; exact absurd (List.mem_map.2 ⟨b, h2, e.symm⟩) h.1
    · subst h2; exact absurd (List.mem_map.2 ⟨a, h1, e⟩) h.1
    · exact ih h.2 h1 h2
theorem keys_es {es : List MapEntry} {l : List (ByteArray × SlT)} (h : es.map (fun e => (e.key, e.val)) = l.map (fun p => (Value.string p.1, slv p.2))) : es.map (·.key) = (l.map (·.1)).map Value.string := by
  have := congrArg (List.map Prod.fst) h
  rw [List.map_map, List.map_map] at this
  rw [List.map_map]
  exact this
theorem perm_of {α : Type} [DecidableEq α] {l m : List α} (hl : l.Nodup) (hm : m.Nodup) (h : ∀ a, a ∈ l ↔ a ∈ m) : l.Perm m := (List.perm_ext_iff_of_nodup hl hm).2 h
theorem str_nodup {l : List ByteArray} (h : l.Nodup) : (l.map Value.string).Nodup := by
  rw [List.Nodup, List.pairwise_map]
  exact List.Pairwise.imp (fun hab e => hab (Value.string.inj e)) h
theorem IterO.nodup {done : List ByteArray} {oi : Obj} (h : IterO m b S done oi) : done.Nodup ∧ (∀ k ∈ done, k ∈ S.map (·.1)) := by
  obtain ⟨es, c, c0, l, seen, ds, h1, h2, h3, h4, h5, h6, h7, rfl, h9, h10, h11, h12, h13, h14⟩ := h
  have hk : ∀ k, k ∈ l.map (·.1) ↔ k ∈ S.map (·.1) := keys_same fun k => by rw [← h7 k, Option.isSome_map]
  have hkn : (es.toList.map (·.key)).Nodup := by rw [keys_es h2]; exact str_nodup h5
  have hdn : ds.Nodup := List.Pairwise.imp (fun {a b} (hab : a.born ≠ b.born) e => hab (by rw [e])) (List.pairwise_map.1 h14)
  constructor
  · have : (done.map Value.string).Nodup := by
      rw [← h13, List.Nodup, List.pairwise_map]
      refine List.Pairwise.imp_of_mem ?_ hdn
      intro a b ha hb hab e
      exact hab (map_inj_mem hkn (h11 a ha) (h11 b hb) e)
    rw [List.Nodup, List.pairwise_map] at this
    exact List.Pairwise.imp (fun hab e => hab (by rw [e])) this
  · intro k hk2
    have : Value.string k ∈ ds.map (·.key) := by rw [h13]; exact List.mem_map.2 ⟨k, hk2, rfl⟩
    obtain ⟨e, he, e1⟩ := List.mem_map.1 this
    obtain ⟨p, hp, e2, _⟩ := key_str h2 (h11 e he)
    rw [e1] at e2
    rw [← hk]
    exact List.mem_map.2 ⟨p, hp, (Value.string.inj e2).symm⟩
theorem or_nextR {done : List ByteArray} {it : Nat} {oi : Obj} (h : IterO R.blk b S done oi) (hm : Mem w R ((it, oi) :: H)) (hx : evalF fr x = ptr it 0) :
    OpR P fr w (.next x false) ty (fun v w' => ∃ (n : Bool) (k : ByteArray) (s : SlT) (oi' : Obj), v = nextV n k s ∧ Mem w' R ((it, oi') :: H) ∧ IterO R.blk b S (if n then done ++ [k] else done) oi' ∧ (n = false → done.Perm (S.map (·.1)))) := by
  have hI := h
  obtain ⟨es, c, c0, l, seen, ds, h1, h2, h3, h4, h5, h6, h7, rfl, h9, h10, h11, h12, h13, h14⟩ := h
  have hr : w.heap[it]? = some (.mapIter (some b) c seen c0) := hm.own (it, _) List.mem_cons_self
  have hb : w.heap[b]? = some (.map es c) := hm.rest _ _ h1
  have e0 : ∀ v w', (Instr.next (.pointer (some ⟨it, 0, none⟩)) false ty).run P w = .ok v w' → (xop (evalF fr) (.next x false) ty).run P w = .ok (.value v) w' := by
    intro v w' hv
    unfold xop
    show Sem.run P (do let v ← Instr.next (evalF fr x) false ty; pure (Next.value v)) w = _
    rw [hx]
    simp [Sem.run_bind, ptr, hv]
  rcases run_next_at (P := P) w ty it b c c0 seen es c hr hb h4 h9 with ⟨hz, hv⟩ | ⟨e, he, w1, hw1, hv⟩
  · refine .inl ⟨_, w, e0 _ _ hv, false, ByteArray.empty, sl0, _, rfl, hm, ?_, fun _ => ?_⟩
    · exact hI
    · obtain ⟨hn, hs⟩ := hI.nodup
      refine perm_of hn h6.nodup fun k => ⟨hs k, fun hk => ?_⟩
      rw [← keys_same (l := l) (m := S) (fun k => by rw [← h7 k, Option.isSome_map])] at hk
      have : Value.string k ∈ es.toList.map (·.key) := by rw [keys_es h2]; exact List.mem_map.2 ⟨k, hk, rfl⟩
      obtain ⟨e, he, e1⟩ := List.mem_map.1 this
      have hin : seen.contains e.born = true := by
        cases hc : seen.contains e.born with
        | true => rfl
        | false =>
          have hmem : e ∈ (leftOf es seen) := by
            unfold leftOf; rw [Array.mem_filter]; exact ⟨by simpa using he, by simp only [hc, Bool.not_false]⟩
          rw [Array.eq_empty_of_size_eq_zero hz] at hmem
          simp at hmem
      have hin2 : e.born ∈ ds.map (·.born) := by rw [h12]; simpa using hin
      obtain ⟨d, hd, e2⟩ := List.mem_map.1 hin2
      obtain rfl := map_inj_mem h3 (h11 d hd) he e2
      have : Value.string k ∈ done.map Value.string := by rw [← h13, ← e1]; exact List.mem_map.2 ⟨d, hd, rfl⟩
      obtain ⟨k', hk', e3⟩ := List.mem_map.1 this
      rw [← Value.string.inj e3]; exact hk'
  · have he2 : e ∈ es ∧ (!seen.contains e.born) = true := by
      have : e ∈ leftOf es seen := by simpa using he
      unfold leftOf at this; rw [Array.mem_filter] at this; exact this
    have hees : e ∈ es.toList := by simpa using he2.1
    obtain ⟨p, hp, e1, e3⟩ := key_str h2 hees
    have hm1 : Mem w1 R ((it, .mapIter (some b) c seen c0) :: H) := by
      rcases hw1 with rfl | rfl
      · exact hm
      · exact hm.drew
    have hm2 : Mem (ChangeMaps.setBlock w1 it (.mapIter (some b) c (seen.push e.born) c)) R ((it, .mapIter (some b) c (seen.push e.born) c) :: H) := Mem.upd0 hm1 (Upd.put _ (hm1.own (it, _) List.mem_cons_self))
    refine .inl ⟨_, _, e0 _ _ hv, true, p.1, p.2, _, by rw [e1, e3]; rfl, hm2, ?_, fun h => by cases h⟩
    rw [if_pos rfl]
    refine ⟨es, c, c, l, seen.push e.born, ds ++ [e], h1, h2, h3, h4, h5, h6, h7, rfl, Nat.le_refl _, fun _ => rfl, ?_, by simp [h12], by simp [h13, e1], ?_⟩
    · intro d hd
      rcases List.mem_append.1 hd with hd | hd
      · exact h11 d hd
      · rw [List.mem_singleton.1 hd]; exact hees
    · rw [List.map_append, List.nodup_append]
      refine ⟨h14, by simp, fun a ha b' hb' e5 => ?_⟩
      simp at hb'; subst hb'; subst e5
      rw [h12] at ha
      have := he2.2
      simp at this ha
      exact this ha
theorem or_entryR {done : List ByteArray} {it : Nat} {oi : Obj} (h : IterO R.blk b S (done ++ [k]) oi) (hm : Mem w R ((it, oi) :: H)) (hx : evalF fr x = ptr it 0) :
    OpR P fr w (.entry x) ty (fun v w' => ∃ s : SlT, v = .tuple #[.string k, slv s] ∧ Ext w w' ∧ Mem w' R ((it, oi) :: H)) := by
  obtain ⟨es, c, c0, l, seen, ds, h1, h2, h3, h4, h5, h6, h7, rfl, h9, h10, h11, h12, h13, h14⟩ := h
  obtain rfl := h10 (by simp)
  obtain ⟨ds', e, rfl⟩ : ∃ ds' e, ds = ds' ++ [e] := by
    cases hd : ds.reverse with
    | nil => have := congrArg List.length h13; rw [List.reverse_eq_nil_iff.1 hd] at this; simp at this
    | cons e r => exact ⟨r.reverse, e, by rw [← List.reverse_reverse ds, hd, List.reverse_cons]⟩
  rw [List.map_append, List.map_append, List.map_singleton, List.map_singleton] at h13
  have hk : e.key = .string k := by have := (List.append_inj' h13 rfl).2; simpa using this
  rw [List.map_append, List.map_singleton] at h12
  have hs : seen = (ds'.map (·.born)).toArray.push e.born := by
    apply Array.ext'
    rw [Array.toList_push, ← h12]
  have he : e ∈ es.toList := h11 e (by simp)
  obtain ⟨p, hp, e1, e3⟩ := key_str h2 he
  have hr : w.heap[it]? = some (.mapIter (some b) c0 ((ds'.map (·.born)).toArray.push e.born) c0) := by rw [← hs]; exact hm.own (it, _) List.mem_cons_self
  have hv := run_entry_at (P := P) w it b c0 _ es c0 e hr (hm.rest _ _ h1) he h3
  refine .inl ⟨_, w, ?_, p.2, rfl, Ext.refl w, hm⟩
  unfold xop
  show Sem.run P (do let v ← Instr.entry (evalF fr x); pure (Next.value v)) w = _
  rw [hx, ← hk, ← e3]
  simp [Sem.run_bind, ptr, hv]
theorem ev_extract_next {n : Bool} {s : SlT} (hx : evalF fr x = nextV n k s) : EvQ P fr w (.extract x 0) ty (bl n) := by
  unfold EvQ xop
  show Sem.run P (do let v ← Instr.extract (evalF fr x) 0; pure (Next.value v)) w = _
  rw [hx]; cases n <;> simp [nextV, Instr.extract]
end
/-! Keys, sorted. -/
def sortS (l : List ByteArray) : List ByteArray := l.mergeSort fun a b => decide (kl a ≤ kl b)
def toB (l : List UInt8) : ByteArray := ⟨l.toArray⟩
theorem toB_kl (s : ByteArray) : toB (kl s) = s := rfl
theorem le_total_b (a b : List UInt8) : (decide (a ≤ b) || decide (b ≤ a)) = true := by
  rcases List.le_total a b with h | h <;> simp [h]
theorem le_trans_b (a b c : List UInt8) (h : decide (a ≤ b) = true) (k : decide (b ≤ c) = true) : decide (a ≤ c) = true := decide_eq_true (List.le_trans (of_decide_eq_true h) (of_decide_eq_true k))
theorem sorted_unique {l m : List (List UInt8)} (hp : l.Perm m) (hl : l.Pairwise fun a b => decide (a ≤ b) = true) (hm : m.Pairwise fun a b => decide (a ≤ b) = true) : l = m :=
  List.Perm.eq_of_pairwise (fun a b _ _ h k => List.le_antisymm (of_decide_eq_true h) (of_decide_eq_true k)) hl hm hp
theorem sortS_eq (l : List ByteArray) : (l.map kl).mergeSort (fun x y => decide (x ≤ y)) = (sortS l).map kl := by
  refine sorted_unique ?_ (List.pairwise_mergeSort (fun a b c => le_trans_b a b c) (fun a b => le_total_b a b) _) ?_
  · exact (List.mergeSort_perm _ _).trans ((List.mergeSort_perm l _).map kl).symm
  · rw [List.pairwise_map]
    exact List.pairwise_mergeSort (le := fun a b => decide (kl a ≤ kl b)) (fun a b c => le_trans_b (kl a) (kl b) (kl c)) (fun a b => le_total_b (kl a) (kl b)) l
theorem sortS_of {l m : List ByteArray} (hp : l.Perm m) (hm : m.Pairwise fun a b => kl a < kl b) : sortS l = m := by
  have e : (sortS l).map kl = m.map kl := by
    refine sorted_unique (((List.mergeSort_perm l _).trans hp).map kl) ?_ ?_
    · rw [List.pairwise_map]
      exact List.pairwise_mergeSort (le := fun a b => decide (kl a ≤ kl b)) (fun a b c => le_trans_b (kl a) (kl b) (kl c)) (fun a b => le_total_b (kl a) (kl b)) l
    · rw [List.pairwise_map]
      exact List.Pairwise.imp (fun h => decide_eq_true (List.le_of_lt h)) hm
  have := congrArg (List.map toB) e
  simpa [List.map_map, Function.comp_def, toB_kl] using this
/-- The blocks of a group. -/
def hB (H : List (Nat × Obj)) : Nat → Option Obj := fun b => H.lookup b
theorem hB_sub {H : List (Nat × Obj)} {m : Nat → Option Obj} (h : ∀ p ∈ H, m p.1 = some p.2) : ∀ b o, hB H b = some o → m b = some o := fun b o e => h (b, o) (mem_of_lookup e)
theorem MapG.toB {b : Nat} {S : List KV} {Hs H : List (Nat × Obj)} {w : World} {R : Rest} (h : MapG mN b S Hs) (hm : Mem w R (Hs ++ H)) : MapR (hB Hs) b S :=
  h.rdIn (fun q hq => lookup_of_mem (List.map_append ▸ hm.nodup |> fun h => (List.nodup_append.1 h).1) hq) nN
/-- A map that shares values with another one's blocks takes them over. -/
theorem MapG.take {b : Nat} {S : List KV} {Hs Hm : List (Nat × Obj)} (h : MapG (hB Hm) b S Hs) : MapG mN b S (Hs ++ Hm) := by
  obtain ⟨o, He, l, h1, h2, h3, h4, h5⟩ := h
  exact ⟨o, He ++ Hm, l, by rw [h1]; rfl, h2, fun p hp m q1 q2 => h3 p hp m (fun q hq => q1 q (List.mem_append_left _ hq)) (hB_sub fun q hq => q1 q (List.mem_append_right _ hq)), h4, h5⟩
/-! Does a text begin with another one? -/
def preB (p s : ByteArray) : Bool := if decide ((p.size : Int) ≤ (s.size : Int)) = true then decide (s.extract 0 p.size = p) else false
section
variable {P : Program} {fr : Nat → Value} {w : World} {ty T T' : TypeId} {x y : Operand} {s u : ByteArray}
theorem ev_slice_strh {n : Int} (h : P.underlying T = some .string) (hx : evalF fr x = .string s) (hy : evalF fr y = i64 n) (h0 : 0 ≤ n) (h1 : n ≤ (s.size : Int)) : EvQ P fr w (.slice T x none (some y) none) ty (.string (s.extract 0 n.toNat)) := by
  have hr := run_slice_string_h (P := P) (w := w) (t := T) (s := s) h .i64 n h0 h1
  unfold EvQ xop
  show Sem.run P (do let v ← Instr.sliceAt T (evalF fr x) none (some (evalF fr y)) none; pure (Next.value v)) w = _
  rw [hx, hy, Sem.run_bind, run_sliceAt_string (h := h), show i64 n = Value.int .i64 n from rfl, hr]; rfl
theorem ev_str_lss (hx : evalF fr x = .string s) (hy : evalF fr y = .string u) : EvQ P fr w (.binOp .lss T x y T') ty (bl (klt s u)) := by
  unfold EvQ xop
  show Sem.run P (do let v ← (do eqGuard .lss T x y (evalF fr x) (evalF fr y); binOp .lss T (evalF fr x) (evalF fr y)); pure (Next.value v)) w = _
  rw [hx, hy]
  have hg : eqGuard .lss T x y (.string s) (.string u) = pure () := rfl
  have hb : binOp .lss T (.string s) (.string u) = pure (.bool (Op.bytesLess s.toList u.toList)) := by simp [binOp, Op.stringOp]
  rw [hg, hb, bytesLess_eq, Lib.toList_data, Lib.toList_data]
  rfl
end


end Go.Proofs.Ytfbnhoolkajebaa
