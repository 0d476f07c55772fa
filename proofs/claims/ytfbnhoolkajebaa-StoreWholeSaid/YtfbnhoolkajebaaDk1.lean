/- Writes: plain law. Conditions: none beyond those that each theorem states. -/
import Derived.Test.YtfbnhoolkajebaaFwY
import Derived.Test.YtfbnhoolkajebaaFwL
import Derived.Test.YtfbnhoolkajebaaFwV
import Derived.Test.YtfbnhoolkajebaaFwR
import Derived.Test.YtfbnhoolkajebaaTab
import Derived.Test.YtfbnhoolkajebaaFwM
namespace Go.Proofs.Ytfbnhoolkajebaa
section
open Go.ChangeShapes Go.WideShapes Go.ChangeAt Go.RowKit
set_option linter.unusedSimpArgs false
set_option linter.unusedVariables false
section
variable {P : Program} {t : TypeId} {f0 f1 f2 f3 : Field} {k0 k1 k2 k3 n : Nat} {C0 C1 C2 C3 : World → List Value → Prop}
end
end --m
section
set_option linter.unusedSimpArgs false
set_option linter.unusedVariables false
section
variable {P : Program} {fr : Nat → Value} {w : World} {ty T T' E E' : TypeId} {x y : Operand} {z : Option Value} {n kb b : Nat} {α : Type} {f : α → Value} {u : Value} {l ms : List α} {fz : Nat × Nat}
theorem or_copy_mid {i : Int} (hx : evalF fr x = sla b 0 1 i n n) (h0 : 0 ≤ i) (hi : i < n) (hy : evalF fr y = u) (hr : Rd (blks w) f u ms) (hT : P.underlying T = some (.slice E)) (hti : tinf P E = some (z, 1, kb)) (hf : ∀ a, (f a).oneCell' = true)
    (hb : w.heap[b]? = some (.cells (cl f l) E' fz)) (hl : l.length = n) (hms : i.toNat + ms.length ≤ n) (hfz : fz.2 = 0) :
    OpR P fr w (.call ⟨.builtin .copy, #[x, y], #[T, T']⟩) ty (fun v' w' => v' = i64 (ms.length : Nat) ∧ Upd w b (.cells (cl f (l.take i.toNat ++ (ms ++ l.drop (i.toNat + ms.length)))) E' fz) w') := by
  have hx2 : evalF fr x = slc b i.toNat (n - i.toNat) (n - i.toNat) := by
    rw [hx]
    have h1 : ¬ n = i.toNat := by omega
    simp [sla, h1]
  have hmin : min ms.length (n - i.toNat) = ms.length := by omega
  refine (or_copy (T' := T') hx2 hy hr hT hti hf hb (by rw [size_cl, hmin]; omega) (by omega)).mono ?_
  rintro v' w' ⟨e1, hu⟩
  rw [hmin] at e1 hu
  rw [List.take_of_length_le (Nat.le_refl _)] at hu
  refine ⟨e1, ?_⟩
  have e : ovr (cl f l) i.toNat (ms.map f) = cl f (l.take i.toNat ++ (ms ++ l.drop (i.toNat + ms.length))) := by
    apply Array.ext'
    rw [ovr_toList _ _ _ (by rw [size_cl, List.length_map]; omega)]
    simp [cl, List.map_take, List.map_drop]
  rw [e] at hu
  exact hu
end
end --m
section
open Go.ChangeShapes Go.WideShapes Go.ChangeAt Go.RowKit
set_option linter.unusedVariables false
set_option linter.unusedSimpArgs false
/-- A slice of slices of bytes that reads as a list. -/
structure RdL (m : Nat → Option Obj) (v : Value) (ls : List SlT) : Prop where
  row : Rd m slv v ls
  el : ∀ p ∈ ls, Rd m u8 (slv p) p.2
section
variable {m m' : Nat → Option Obj} {v u0 : Value} {ls : List SlT} {l0 : List (BitVec 8)} {w : World} {R : Rest} {H H' Hs Hv : List (Nat × Obj)} {E : TypeId}
theorem RdL.mono (h : RdL m v ls) (hm : ∀ b o, m b = some o → m' b = some o) : RdL m' v ls := ⟨h.row.mono hm, fun p hp => (h.el p hp).mono hm⟩
theorem RdL.ofRest (h : RdL R.blk v ls) (hm : Mem w R H) : RdL (blks w) v ls := h.mono fun b o hb => hm.rest b o hb
theorem RdL.addRest (h : Mem w R (H ++ H')) (hr : RdL R.blk v ls) : RdL (R.add H').blk v ls := hr.mono fun b o e => h.addRest e
theorem RdL.get {k : Nat} (h : RdL m v ls) (hk : k < ls.length) : Rd m u8 (slv (ls.getD k sl0)) (ls.getD k sl0).2 := by
  have e : ls.getD k sl0 = ls[k] := by simp [List.getD_eq_getElem?_getD, hk]
  rw [e]; exact h.el _ (List.getElem_mem hk)
theorem RdL.one1 {b : Nat} {fz : Nat × Nat} (hb : m b = some (.cells #[u0] E fz)) (hr : Rd m u8 u0 l0) : RdL m (slc b 0 1 1) [toSl u0 l0] :=
  ⟨Rd.oneS hb (hr.toSl l0), fun p hp => by
    obtain rfl : p = toSl u0 l0 := by simpa using hp
    rw [hr.toSl, toSl_snd]; exact hr⟩
theorem RdL.nil (a : Option Addr) (cap : Nat) : RdL m (.slice a 0 cap) [] := ⟨Rd.nil a cap, fun p hp => by cases hp⟩
theorem RdL.tail (h : RdL m v ls) (h1 : 1 ≤ ls.length) : RdL m (subv v 1 (ls.length : Int)) (ls.drop 1) :=
  ⟨Rd.cast (Rd.sub (i := 1) (j := (ls.length : Int)) h.row (by omega) (by omega) (by omega)) (drop_one ls), fun p hp => h.el p (List.mem_of_mem_drop hp)⟩
theorem snd_getD {L : List (List (BitVec 8))} {k : Nat} (h : ls.map (·.2) = L) (hk : k < ls.length) : (ls.getD k sl0).2 = L.getD k [] := by
  subst h; simp [List.getD_eq_getElem?_getD, hk]
/-- No block. -/
def mN : Nat → Option Obj := fun _ => none
theorem nN : ∀ b o, mN b = some o → m b = some o := fun _ _ h => by cases h
/-- A slice of slices of bytes that may grow, with all its blocks; elements may stand in m0's, too. -/
def GrowL (m0 : Nat → Option Obj) (E : TypeId) (v : Value) (ls : List SlT) (Hs : List (Nat × Obj)) : Prop :=
  ∃ H1 He, Hs = H1 ++ He ∧ Grow slv E v ls H1 ∧ ∀ p ∈ ls, ∀ m : Nat → Option Obj, (∀ q ∈ He, m q.1 = some q.2) → (∀ b o, m0 b = some o → m b = some o) → Rd m u8 (slv p) p.2
variable {m0 : Nat → Option Obj}
theorem GrowL.none (m0 : Nat → Option Obj) (E : TypeId) : GrowL m0 E (.slice none 0 0) [] [] := ⟨[], [], rfl, Grow.none _ _, fun p hp => by cases hp⟩
theorem GrowL.empty (m0 : Nat → Option Obj) (E b : Nat) : GrowL m0 E (slc b 0 0 0) [] [(b, .cells #[] E (0, 0))] := ⟨[(b, .cells #[] E (0, 0))], [], rfl, Grow.of slv E b [], fun p hp => by cases hp⟩
theorem GrowL.rdIn (h : GrowL m0 E v ls Hs) (hm : ∀ p ∈ Hs, m p.1 = some p.2) (h0 : ∀ b o, m0 b = some o → m b = some o) : RdL m v ls := by
  obtain ⟨H1, He, rfl, g, hel⟩ := h
  exact ⟨g.rdIn fun p hp => hm p (List.mem_append_left _ hp), fun p hp => hel p hp m (fun q hq => hm q (List.mem_append_right _ hq)) h0⟩
theorem GrowL.rd (h : GrowL m0 E v ls Hs) (hm : Mem w R (Hs ++ H)) (h0 : ∀ b o, m0 b = some o → blks w b = some o) : RdL (blks w) v ls := h.rdIn (fun p hp => hm.own p (List.mem_append_left _ hp)) h0
theorem GrowL.rdAdd (h : GrowL m0 E v ls Hs) (hm : Mem w R (H ++ H')) (hsub : ∀ p ∈ Hs, p ∈ H') (h0 : ∀ b o, m0 b = some o → (R.add H').blk b = some o) : RdL (R.add H').blk v ls := h.rdIn (fun p hp => hm.addOwn (hsub p hp)) h0
theorem GrowL.one (h : GrowL m0 E v ls Hs) : v.oneCell' = true := by obtain ⟨H1, He, _, g, _⟩ := h; exact g.one
theorem GrowL.is (h : GrowL m0 E v ls Hs) : ∃ a cap, v = .slice a ls.length cap := by obtain ⟨H1, He, _, g, _⟩ := h; exact g.len
/-- One element, that is in blocks of its own. -/
theorem GrowL.of1 {b : Nat} (e : slv (toSl u0 l0) = u0) (hel : ∀ m : Nat → Option Obj, (∀ q ∈ Hv, m q.1 = some q.2) → (∀ b o, m0 b = some o → m b = some o) → Rd m u8 u0 l0) :
    GrowL m0 E (slc b 0 1 1) [toSl u0 l0] ([(b, .cells #[u0] E (0, 0))] ++ Hv) := by
  refine ⟨[(b, .cells #[u0] E (0, 0))], Hv, rfl, ?_, fun p hp m hm h0 => ?_⟩
  · have := Grow.of slv E b [toSl u0 l0]
    have e2 : cl slv [toSl u0 l0] = #[u0] := by simp [cl, e]
    rw [e2] at this; exact this
  · obtain rfl : p = toSl u0 l0 := by simpa using hp
    rw [e, toSl_snd]; exact hel m hm h0
theorem el_grow {F : TypeId} (g : Grow u8 F u0 l0 Hv) : ∀ m : Nat → Option Obj, (∀ q ∈ Hv, m q.1 = some q.2) → (∀ b o, m0 b = some o → m b = some o) → Rd m u8 u0 l0 := fun m hm _ => g.rdIn hm
theorem el_nil : ∀ m : Nat → Option Obj, (∀ q ∈ ([] : List (Nat × Obj)), m q.1 = some q.2) → (∀ b o, m0 b = some o → m b = some o) → Rd m u8 (.slice none 0 0) [] := fun m _ _ => Rd.nil _ _
theorem slv_nil : slv (toSl (.slice none 0 0) []) = .slice none 0 0 := rfl
end
section
variable {P : Program} {fr : Nat → Value} {w : World} {ty T T' E E' : TypeId} {x y : Operand} {kb : Nat} {R : Rest} {H Hs Hv : List (Nat × Obj)} {v u0 : Value} {ls : List SlT} {l0 : List (BitVec 8)} {m0 : Nat → Option Obj}
theorem or_appendL {zv u : Value} (hm : Mem w R (Hs ++ (Hv ++ H))) (hg : GrowL m0 E v ls Hs) (hx : evalF fr x = v) (hy : evalF fr y = u) (hr : Rd (blks w) slv u [toSl u0 l0]) (e : slv (toSl u0 l0) = u0)
    (hel : ∀ m : Nat → Option Obj, (∀ q ∈ Hv, m q.1 = some q.2) → (∀ b o, m0 b = some o → m b = some o) → Rd m u8 u0 l0) (hT : P.underlying T = some (.slice E)) (hT' : P.underlying T' = some (.slice E'))
    (hi : tinf P E = some (some zv, 1, kb)) (hz1 : zv.cells.size = 1) (hn : (4 * (ls.length + 1) + 1024) * kb ≤ 281474976710656) (hn1 : ls.length + 1 ≤ 281474976710656) :
    OpR P fr w (.call ⟨.builtin .append, #[x, y], #[T, T']⟩) ty (fun v' w' => ∃ ls' Hs', ls'.map (·.2) = ls.map (·.2) ++ [l0] ∧ ls'.length = ls.length + 1 ∧ Mem w' R (Hs' ++ H) ∧ GrowL m0 E v' ls' Hs') := by
  obtain ⟨H1, He, rfl, g, hels⟩ := hg
  have hm' : Mem w R (H1 ++ (He ++ (Hv ++ H))) := by rw [List.append_assoc] at hm; exact hm
  refine (or_append (f := slv) (ty := ty) hm' g hx hy hr hT hT' hi hz1 slv_one (by simpa using hn) (by simpa using hn1)).mono ?_
  rintro v' w' ⟨Hs', hm2, g2⟩
  refine ⟨_, Hs' ++ (He ++ Hv), map_snd_snoc rfl u0 l0, by simp, ?_, Hs', He ++ Hv, rfl, g2, ?_⟩
  · simpa [List.append_assoc] using hm2
  · intro p hp m hm h0
    rcases List.mem_append.1 hp with hp | hp
    · exact hels p hp m (fun q hq => hm q (List.mem_append_left _ hq)) h0
    · obtain rfl : p = toSl u0 l0 := by simpa using hp
      rw [e, toSl_snd]; exact hel m (fun q hq => hm q (List.mem_append_right _ hq)) h0
/-- The greater one. -/
def maxU (a b : BitVec 64) : BitVec 64 := if b.toNat > a.toNat then b else a
theorem maxU_nat (a b : BitVec 64) : (maxU a b).toNat = max a.toNat b.toNat := by unfold maxU; split <;> omega
theorem ev_max3_u64 {a b c : BitVec 64} {z : Operand} {ts : Array TypeId} (hx : evalF fr x = u64 a) (hy : evalF fr y = u64 b) (hz : evalF fr z = u64 c) : EvQ P fr w (.call ⟨.builtin .max, #[x, y, z], ts⟩) ty (u64 (maxU (maxU a b) c)) := by
  unfold EvQ; rw [xop_builtin]
  unfold maxU
  by_cases h1 : b.toNat > a.toNat
  · by_cases h2 : c.toNat > b.toNat <;> simp [builtin, Builtin.max_, Builtin.max2, hx, hy, hz, u64, h1, h2]
  · by_cases h2 : c.toNat > a.toNat <;> simp [builtin, Builtin.max_, Builtin.max2, hx, hy, hz, u64, h1, h2]
end
end --m
section
set_option linter.unusedVariables false
set_option linter.unusedSimpArgs false
/-! ### Writes, plainly -/
structure WriteT where
  at_ : Int
  b : List (BitVec 8)
def encW (w : WriteT) : List Value := ([[i64 w.at_], w.b.map u8] : List (List Value)).flatten
def write0 : WriteT := ⟨0, []⟩
theorem encW_len {w : WriteT} (h : w.b.length = 64) : (encW w).length = 65 := by simp [encW, h]
theorem encW_one (w : WriteT) : (encW w).all (·.oneCell') = true := by
  simp only [encW, List.flatten_cons, List.flatten_nil, List.append_nil, List.all_append, List.all_cons, List.all_nil, Bool.and_true]
  rw [Bool.and_eq_true]
  refine ⟨rfl, ?_⟩
  rw [List.all_eq_true]; intro v hv; obtain ⟨a, _, rfl⟩ := List.mem_map.1 hv; rfl
theorem encW_b {m : Nat → Option Obj} {v : Value} {ps : List WriteT} (h : RdK m encW 65 v ps) {i : Nat} (hi : i < ps.length) : (ps.getD i write0).b.length = 64 := by
  have e : ps.getD i write0 = ps[i] := by simp [List.getD_eq_getElem?_getD, hi]
  rw [e]
  have := h.len ps[i] (by simp)
  simpa [encW] using this
theorem encA_b {m : Nat → Option Obj} {v : Value} {ls : List (List (BitVec 8))} (h : RdK m (encA u8) 64 v ls) {i : Nat} (hi : i < ls.length) : (ls.getD i []).length = 64 := by
  have e : ls.getD i [] = ls[i] := by simp [List.getD_eq_getElem?_getD, hi]
  rw [e]
  have := h.len ls[i] (by simp)
  simpa [encA] using this
def inB (ls : List (List (BitVec 8))) (n : Int) : Bool := decide (0 ≤ n) && decide (n < (ls.length : Int))
def errB (ls : List (List (BitVec 8))) (n : Int) : Int := if inB ls n then 0 else 2
def pushB (ls : List (List (BitVec 8))) (ps : List WriteT) (n : Int) (b : List (BitVec 8)) : List WriteT := if inB ls n then ps ++ [⟨n, b⟩] else ps
/-- How many of a block's first bytes are new. -/
def cutN (p : BitVec 8) : Nat := if p.toNat % 3 = 1 then 64 else if p.toNat % 3 = 2 then p.toNat / 3 % 64 else 0
def putW (ls : List (List (BitVec 8))) (w : WriteT) (c : Nat) : List (List (BitVec 8)) := ls.set w.at_.toNat (w.b.take c ++ (ls.getD w.at_.toNat []).drop c)
def picksB (q : List (BitVec 8)) : List (BitVec 8) := if q.length = 0 then [0] else q
def crashK (ls : List (List (BitVec 8))) (ps : List WriteT) (q : List (BitVec 8)) : Nat → List (List (BitVec 8))
  | 0 => ls
  | k + 1 => putW (crashK ls ps q k) (ps.getD k write0) (cutN (q.getD (k % q.length) 0))
theorem crashK_len {ls : List (List (BitVec 8))} {ps : List WriteT} {q : List (BitVec 8)} : ∀ k, (crashK ls ps q k).length = ls.length
  | 0 => rfl
  | k + 1 => by show (putW _ _ _).length = _; unfold putW; rw [List.length_set, crashK_len k]
def crashB (ls : List (List (BitVec 8))) (ps : List WriteT) (q : List (BitVec 8)) : List (List (BitVec 8)) := crashK ls ps (picksB q) ps.length
/-- The block that is seen. -/
def seenW (ps : List WriteT) (n : Int) (d : List (BitVec 8)) : List (BitVec 8) := match ps.reverse.find? (fun w => w.at_ == n) with | some w => w.b | none => d
def readB (ls : List (List (BitVec 8))) (ps : List WriteT) (n : Int) : List (BitVec 8) := if inB ls n then seenW ps n (ls.getD n.toNat []) else List.replicate 64 0
theorem seen_none {ps : List WriteT} {n : Int} {d : List (BitVec 8)} (h : ∀ i, i < ps.length → (ps.getD i write0).at_ ≠ n) : seenW ps n d = d := by
  have : ps.reverse.find? (fun w => w.at_ == n) = none := by
    rw [List.find?_eq_none]
    intro x hx
    obtain ⟨i, hi, rfl⟩ := List.mem_iff_getElem.1 (List.mem_reverse.1 hx)
    have := h i hi
    simpa [List.getD_eq_getElem?_getD, hi] using this
  unfold seenW; rw [this]
theorem seen_hit {ps : List WriteT} {n : Int} {d : List (BitVec 8)} {i : Nat} (hi : i < ps.length) (h : (ps.getD i write0).at_ = n) (h2 : ∀ j, i < j → j < ps.length → (ps.getD j write0).at_ ≠ n) : seenW ps n d = (ps.getD i write0).b := by
  have e : ps.getD i write0 = ps[i] := by simp [List.getD_eq_getElem?_getD, hi]
  have hs : ps = ps.take i ++ (ps[i] :: ps.drop (i + 1)) := by rw [← List.drop_eq_getElem_cons hi, List.take_append_drop]
  have hn : (ps.drop (i + 1)).reverse.find? (fun w => w.at_ == n) = none := by
    rw [List.find?_eq_none]
    intro x hx
    obtain ⟨j, hj, rfl⟩ := List.mem_iff_getElem.1 (List.mem_reverse.1 hx)
    rw [List.length_drop] at hj
    have := h2 (i + 1 + j) oM oM
    rw [List.getElem_drop]
    simpa [List.getD_eq_getElem?_getD, show i + 1 + j < ps.length by omega] using this
  have : ps.reverse.find? (fun w => w.at_ == n) = some ps[i] := by
    conv => lhs; rw [hs]
    rw [List.reverse_append, List.reverse_cons, List.find?_append, List.find?_append, hn, List.find?_cons_of_pos (by simpa using e ▸ h)]; rfl
  unfold seenW; rw [this, e]
theorem encW_b2 {ps : List WriteT} (h : ∀ a ∈ ps, (encW a).length = 65) {i : Nat} (hi : i < ps.length) : (ps.getD i write0).b.length = 64 := by
  have e : ps.getD i write0 = ps[i] := by simp [List.getD_eq_getElem?_getD, hi]
  rw [e]
  have := h ps[i] (by simp)
  simpa [encW] using this
theorem picks_0 {q : List (BitVec 8)} (h : q.length = 0) : [0#8] = picksB q := by unfold picksB; rw [if_pos h]; rfl
theorem picks_n {q : List (BitVec 8)} (h : q.length ≠ 0) : q = picksB q := by unfold picksB; rw [if_neg h]
theorem picks_pos (q : List (BitVec 8)) : 0 < (picksB q).length ∧ (picksB q).length ≤ q.length + 1 := by
  unfold picksB
  by_cases h : q.length = 0
  · rw [if_pos h]; simp
  · rw [if_neg h]; omega
theorem rem3 (p : BitVec 8) : (p % 3#8).toNat = p.toNat % 3 := by rw [BitVec.toNat_umod]; rfl
theorem quo3 (p : BitVec 8) : (p / 3#8).toNat = p.toNat / 3 := by rw [BitVec.toNat_udiv]; rfl
theorem rem_t {p : BitVec 8} {c : BitVec 8} (h : (p % 3#8 == c) = true) : p.toNat % 3 = c.toNat := by
  rw [← rem3]; exact congrArg BitVec.toNat (by simpa using h)
theorem rem_f {p : BitVec 8} {c : BitVec 8} (h : (p % 3#8 == c) = false) : p.toNat % 3 ≠ c.toNat := by
  rw [← rem3]; intro e; exact absurd (BitVec.eq_of_toNat_eq e) (by simpa using h)
theorem cut_1 {p : BitVec 8} (h : (p % 3#8 == 1#8) = true) : (64 : Int).toNat = cutN p := by
  have := rem_t h; unfold cutN; rw [if_pos (by simpa using this)]; rfl
theorem cut_2 {p : BitVec 8} (h1 : (p % 3#8 == 1#8) = false) (h : (p % 3#8 == 2#8) = true) : ((((p / 3#8).toNat : Int) % 64 : Int)).toNat = cutN p := by
  have e := rem_t h; have e1 := rem_f h1
  unfold cutN
  rw [if_neg (by simpa using e1), if_pos (by simpa using e), quo3]; omega
theorem cut_0 {p : BitVec 8} (h1 : (p % 3#8 == 1#8) = false) (h : (p % 3#8 == 2#8) = false) : (0 : Int).toNat = cutN p := by
  have e := rem_f h; have e1 := rem_f h1
  unfold cutN
  rw [if_neg (by simpa using e1), if_neg (by simpa using e)]; rfl
theorem crash_step {ls : List (List (BitVec 8))} {ps : List WriteT} {qs : List (BitVec 8)} {k n : Nat} {c : Int} (hn : (k : Int) % (qs.length : Int) = (n : Int)) (hc : c.toNat = cutN (qs.getD n 0)) :
    (crashK ls ps qs k).set ((ps.getD k write0).at_).toNat (((ps.getD k write0).b).take c.toNat ++ ((crashK ls ps qs k).getD ((ps.getD k write0).at_).toNat []).drop c.toNat) = crashK ls ps qs (k + 1) := by
  have e : k % qs.length = n := by
    have : ((k % qs.length : Nat) : Int) = (n : Int) := by rw [← hn]; rfl
    exact Int.ofNat.inj this
  show _ = putW (crashK ls ps qs k) (ps.getD k write0) (cutN (qs.getD (k % qs.length) 0))
  unfold putW
  rw [e, hc]
theorem inB_t {ls : List (List (BitVec 8))} {n : Int} (h : inB ls n = true) : 0 ≤ n ∧ n < (ls.length : Int) := by
  unfold inB at h
  rw [Bool.and_eq_true] at h
  exact ⟨of_decide_eq_true h.1, of_decide_eq_true h.2⟩
theorem ok_step {ok : Nat → Prop} {k k1 n : Nat} (hok : ∀ j, k ≤ j → j < n → ok j) (hk1 : (k : Int) - 1 = (k1 : Int)) (h : ok k1) : ∀ j, k1 ≤ j → j < n → ok j := fun j h1 h2 => by
  rcases Nat.lt_or_ge k1 j with h3 | h3
  · exact hok j oM h2
  · have : j = k1 := by omega
    rw [this]; exact h
theorem inB_of {ls : List (List (BitVec 8))} {n : Int} (h0 : 0 ≤ n) (h1 : n < (ls.length : Int)) : inB ls n = true := by unfold inB; rw [decide_eq_true h0, decide_eq_true h1]; rfl
theorem told_true {α : Type} [BEq α] [LawfulBEq α] {a b : α} (h : a = b) : (a == b) = true := by rw [h]; exact beq_self_eq_true b
theorem told_ne {α : Type} [BEq α] [LawfulBEq α] {a b : α} (h : a = b) : (a != b) = false := by rw [h]; simp
theorem crashB_len {ls : List (List (BitVec 8))} {ps : List WriteT} {q : List (BitVec 8)} : (crashB ls ps q).length = ls.length := crashK_len _


end --m
end Go.Proofs.Ytfbnhoolkajebaa
