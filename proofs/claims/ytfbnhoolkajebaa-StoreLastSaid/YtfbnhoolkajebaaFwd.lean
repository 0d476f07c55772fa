/- The framework, part d: slices of slices of bytes as one, with all their blocks; the greatest of three numbers. Conditions: none. -/
import Derived.Test.YtfbnhoolkajebaaFwV
import Derived.Test.YtfbnhoolkajebaaFwR
import Derived.Test.YtfbnhoolkajebaaFwc
namespace Go.Proofs.Ytfbnhoolkajebaa
open Go.ChangeShapes Go.WideShapes Go.ChangeAt Go.RowKit
set_option linter.unusedVariables false
set_option linter.unusedSimpArgs false
/-- A slice of slices of bytes that reads as a list. -/
structure RdL (m : Nat → Option Obj) (v : Value) (ls : List SlT) : Prop where
  row : Rd m slv v ls
  el : ∀ p ∈ ls, Rd m u8 (slv p) p.2
section
variable {m m' : Nat → Option Obj} {v u0 : Value} {ls : List SlT} {l0 : List (BitVec 8)} {w : World} {R : Rest} {H H' Hs Hv : List (Nat × Obj)} {E : TypeId}
theorem RdL.mono (h : RdL m v ls) (hm : ∀ b o, m b = some o → m' b = some o) : RdL m' v ls := ⟨h.row.mono hm, fun p hp => (h.el p hp).mono hm⟩
theorem RdL.ofRest (h : RdL R.blk v ls) (hm : Mem w R H) : RdL (blks w) v ls := h.mono fun b o hb => hm.rest b o hb
theorem RdL.addRest (h : Mem w R (H ++ H')) (hr : RdL R.blk v ls) : RdL (R.add H').blk v ls := hr.mono fun b o e => h.addRest e
theorem RdL.get {k : Nat} (h : RdL m v ls) (hk : k < ls.length) : Rd m u8 (slv (ls.getD k sl0)) (ls.getD k sl0).2 := by
  have e : ls.getD k sl0 = ls[k] := by simp [List.getD_eq_getElem?_getD, hk]
  rw [e]; exact h.el _ (List.getElem_mem hk)
theorem RdL.one1 {b : Nat} {fz : Nat × Nat} (hb : m b = some (.cells #[u0] E fz)) (hr : Rd m u8 u0 l0) : RdL m (slc b 0 1 1) [toSl u0 l0] :=
  ⟨Rd.oneS hb (hr.toSl l0), fun p hp => by
    obtain rfl : p = toSl u0 l0 := by simpa using hp
    rw [hr.toSl, toSl_snd]; exact hr⟩
theorem RdL.nil (a : Option Addr) (cap : Nat) : RdL m (.slice a 0 cap) [] := ⟨Rd.nil a cap, fun p hp => by cases hp⟩
theorem RdL.tail (h : RdL m v ls) (h1 : 1 ≤ ls.length) : RdL m (subv v 1 (ls.length : Int)) (ls.drop 1) :=
  ⟨Rd.cast (Rd.sub (i := 1) (j := (ls.length : Int)) h.row (by omega) (by omega) (by omega)) (drop_one ls), fun p hp => h.el p (List.mem_of_mem_drop hp)⟩
theorem snd_getD {L : List (List (BitVec 8))} {k : Nat} (h : ls.map (·.2) = L) (hk : k < ls.length) : (ls.getD k sl0).2 = L.getD k [] := by
  subst h; simp [List.getD_eq_getElem?_getD, hk]
/-- No block. -/
def mN : Nat → Option Obj := fun _ => none
theorem nN : ∀ b o, mN b = some o → m b = some o := fun _ _ h => by cases h
/-- A slice of slices of bytes that may grow, with all its blocks; elements may stand in m0's, too. -/
def GrowL (m0 : Nat → Option Obj) (E : TypeId) (v : Value) (ls : List SlT) (Hs : List (Nat × Obj)) : Prop :=
  ∃ H1 He, Hs = H1 ++ He ∧ Grow slv E v ls H1 ∧ ∀ p ∈ ls, ∀ m : Nat → Option Obj, (∀ q ∈ He, m q.1 = some q.2) → (∀ b o, m0 b = some o → m b = some o) → Rd m u8 (slv p) p.2
variable {m0 : Nat → Option Obj}
theorem GrowL.none (m0 : Nat → Option Obj) (E : TypeId) : GrowL m0 E (.slice none 0 0) [] [] := ⟨[], [], rfl, Grow.none _ _, fun p hp => by cases hp⟩
theorem GrowL.empty (m0 : Nat → Option Obj) (E b : Nat) : GrowL m0 E (slc b 0 0 0) [] [(b, .cells #[] E (0, 0))] := ⟨[(b, .cells #[] E (0, 0))], [], rfl, Grow.of slv E b [], fun p hp => by cases hp⟩
theorem GrowL.rdIn (h : GrowL m0 E v ls Hs) (hm : ∀ p ∈ Hs, m p.1 = some p.2) (h0 : ∀ b o, m0 b = some o → m b = some o) : RdL m v ls := by
  obtain ⟨H1, He, rfl, g, hel⟩ := h
  exact ⟨g.rdIn fun p hp => hm p (List.mem_append_left _ hp), fun p hp => hel p hp m (fun q hq => hm q (List.mem_append_right _ hq)) h0⟩
theorem GrowL.rd (h : GrowL m0 E v ls Hs) (hm : Mem w R (Hs ++ H)) (h0 : ∀ b o, m0 b = some o → blks w b = some o) : RdL (blks w) v ls := h.rdIn (fun p hp => hm.own p (List.mem_append_left _ hp)) h0
theorem GrowL.rdAdd (h : GrowL m0 E v ls Hs) (hm : Mem w R (H ++ H')) (hsub : ∀ p ∈ Hs, p ∈ H') (h0 : ∀ b o, m0 b = some o → (R.add H').blk b = some o) : RdL (R.add H').blk v ls := h.rdIn (fun p hp => hm.addOwn (hsub p hp)) h0
theorem GrowL.one (h : GrowL m0 E v ls Hs) : v.oneCell' = true := by obtain ⟨H1, He, _, g, _⟩ := h; exact g.one
theorem GrowL.is (h : GrowL m0 E v ls Hs) : ∃ a cap, v = .slice a ls.length cap := by obtain ⟨H1, He, _, g, _⟩ := h; exact g.len
/-- One element, that is in blocks of its own. -/
theorem GrowL.of1 {b : Nat} (e : slv (toSl u0 l0) = u0) (hel : ∀ m : Nat → Option Obj, (∀ q ∈ Hv, m q.1 = some q.2) → (∀ b o, m0 b = some o → m b = some o) → Rd m u8 u0 l0) :
    GrowL m0 E (slc b 0 1 1) [toSl u0 l0] ([(b, .cells #[u0] E (0, 0))] ++ Hv) := by
  refine ⟨[(b, .cells #[u0] E (0, 0))], Hv, rfl, ?_, fun p hp m hm h0 => ?_⟩
  · have := Grow.of slv E b [toSl u0 l0]
    have e2 : cl slv [toSl u0 l0] = #[u0] := by simp [cl, e]
    rw [e2] at this; exact this
  · obtain rfl : p = toSl u0 l0 := by simpa using hp
    rw [e, toSl_snd]; exact hel m hm h0
theorem el_grow {F : TypeId} (g : Grow u8 F u0 l0 Hv) : ∀ m : Nat → Option Obj, (∀ q ∈ Hv, m q.1 = some q.2) → (∀ b o, m0 b = some o → m b = some o) → Rd m u8 u0 l0 := fun m hm _ => g.rdIn hm
theorem el_nil : ∀ m : Nat → Option Obj, (∀ q ∈ ([] : List (Nat × Obj)), m q.1 = some q.2) → (∀ b o, m0 b = some o → m b = some o) → Rd m u8 (.slice none 0 0) [] := fun m _ _ => Rd.nil _ _
theorem slv_nil : slv (toSl (.slice none 0 0) []) = .slice none 0 0 := rfl
end
section
variable {P : Program} {fr : Nat → Value} {w : World} {ty T T' E E' : TypeId} {x y : Operand} {kb : Nat} {R : Rest} {H Hs Hv : List (Nat × Obj)} {v u0 : Value} {ls : List SlT} {l0 : List (BitVec 8)} {m0 : Nat → Option Obj}
theorem or_appendL {zv u : Value} (hm : Mem w R (Hs ++ (Hv ++ H))) (hg : GrowL m0 E v ls Hs) (hx : evalF fr x = v) (hy : evalF fr y = u) (hr : Rd (blks w) slv u [toSl u0 l0]) (e : slv (toSl u0 l0) = u0)
    (hel : ∀ m : Nat → Option Obj, (∀ q ∈ Hv, m q.1 = some q.2) → (∀ b o, m0 b = some o → m b = some o) → Rd m u8 u0 l0) (hT : P.underlying T = some (.slice E)) (hT' : P.underlying T' = some (.slice E'))
    (hi : tinf P E = some (some zv, 1, kb)) (hz1 : zv.cells.size = 1) (hn : (4 * (ls.length + 1) + 1024) * kb ≤ 281474976710656) (hn1 : ls.length + 1 ≤ 281474976710656) :
    OpR P fr w (.call ⟨.builtin .append, #[x, y], #[T, T']⟩) ty (fun v' w' => ∃ ls' Hs', ls'.map (·.2) = ls.map (·.2) ++ [l0] ∧ ls'.length = ls.length + 1 ∧ Mem w' R (Hs' ++ H) ∧ GrowL m0 E v' ls' Hs') := by
  obtain ⟨H1, He, rfl, g, hels⟩ := hg
  have hm' : Mem w R (H1 ++ (He ++ (Hv ++ H))) := by rw [List.append_assoc] at hm; exact hm
  refine (or_append (f := slv) (ty := ty) hm' g hx hy hr hT hT' hi hz1 slv_one (by simpa using hn) (by simpa using hn1)).mono ?_
  rintro v' w' ⟨Hs', hm2, g2⟩
  refine ⟨_, Hs' ++ (He ++ Hv), map_snd_snoc rfl u0 l0, by simp, ?_, Hs', He ++ Hv, rfl, g2, ?_⟩
  · simpa [List.append_assoc] using hm2
  · intro p hp m hm h0
    rcases List.mem_append.1 hp with hp | hp
    · exact hels p hp m (fun q hq => hm q (List.mem_append_left _ hq)) h0
    · obtain rfl : p = toSl u0 l0 := by simpa using hp
      rw [e, toSl_snd]; exact hel m (fun q hq => hm q (List.mem_append_right _ hq)) h0
/-- The greater one. -/
def maxU (a b : BitVec 64) : BitVec 64 := if b.toNat > a.toNat then b else a
theorem maxU_nat (a b : BitVec 64) : (maxU a b).toNat = max a.toNat b.toNat := by unfold maxU; split <;> omega
theorem ev_max3_u64 {a b c : BitVec 64} {z : Operand} {ts : Array TypeId} (hx : evalF fr x = u64 a) (hy : evalF fr y = u64 b) (hz : evalF fr z = u64 c) : EvQ P fr w (.call ⟨.builtin .max, #[x, y, z], ts⟩) ty (u64 (maxU (maxU a b) c)) := by
  unfold EvQ; rw [xop_builtin]
  unfold maxU
  by_cases h1 : b.toNat > a.toNat
  · by_cases h2 : c.toNat > b.toNat <;> simp [builtin, Builtin.max_, Builtin.max2, hx, hy, hz, u64, h1, h2]
  · by_cases h2 : c.toNat > a.toNat <;> simp [builtin, Builtin.max_, Builtin.max2, hx, hy, hz, u64, h1, h2]
/-- Slices of bytes among the elements of an argument. -/
theorem opens_sls {t e : TypeId} (hu : P.underlying t = some (.slice e)) (hc : P.cellsOf e = 1) (he : Opens P e (fun _ cs => ∃ a, cs = [u8 a])) : Opens P t (fun w cs => ∃ a : SlT, cs = [slv a] ∧ (Rd (blks w) u8 (slv a) a.2 ∧ a.2.length ≤ 9223372036854775807)) :=
  (opens_bytes1 hu hc he).mono fun w cs ⟨v, h1, s, h2, h3, h4⟩ => ⟨s, by rw [h1, h2], h3, h4⟩
end
end Go.Proofs.Ytfbnhoolkajebaa
