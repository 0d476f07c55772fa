/- The framework, part D: values of numbers and booleans, and the operations on them. Conditions: none. -/
import Derived.Test.YtfbnhoolkajebaaFwC
namespace Go.Proofs.Ytfbnhoolkajebaa
set_option linter.unusedSimpArgs false

def i64 (n : Int) : Value := .int .i64 n
def bl (b : Bool) : Value := .bool b
def ptr (b off : Nat) : Value := .pointer (some ⟨b, off, none⟩)
def slc (b off len cap : Nat) : Value := .slice (some ⟨b, off, none⟩) len cap
def cl {α : Type} (f : α → Value) (l : List α) : Array Value := (l.map f).toArray
def agg {α : Type} (f : α → Value) (l : List α) : Value := .agg (cl f l)

theorem wrap_i64 {n : Int} (h0 : -9223372036854775808 ≤ n) (h1 : n < 9223372036854775808) : IntKind.i64.wrap n = n := by
  simp only [IntKind.wrap, IntKind.bits, IntKind.signed, Bool.true_and, decide_eq_true_eq, Nat.reduceSub, Int.reducePow, ge_iff_le]
  split <;> omega
/-- Operations on two numbers of one kind, shifts aside. -/
def intOp (op : BinOp) (k : IntKind) (a b : Int) : Sem Value :=
  match op with | .add | .sub | .mul => Op.intArith op k a b | .quo | .rem => Op.intDiv op k a b | .and | .or | .xor | .andNot => Op.intBits op k a b | _ => Op.intCmp op a b
theorem binOp_int {op : BinOp} (hop : (op == .shl || op == .shr) = false) (t : TypeId) (k : IntKind) (a b : Int) : binOp op t (.int k a) (.int k b) = intOp op k a b := by
  cases op <;> first | (cases hop; done) | simp [binOp, intOp]
section
variable {P : Program} {fr : Nat → Value} {w : World} {ty : TypeId} {x y : Operand}
theorem ev_move {v : Value} (hx : evalF fr x = v) : EvQ P fr w (.move x) ty v := by subst hx; rfl
theorem ev_assign {v : Value} (hx : evalF fr x = v) : EvQ P fr w (.assign x) ty v := by subst hx; rfl
theorem ev_pick {c : Operand} {b : Bool} {u v : Value} (hc : evalF fr c = bl b) (hx : evalF fr x = u) (hy : evalF fr y = v) : EvQ P fr w (.pick c x y) ty (if b then u else v) := by
  subst hx hy
  unfold EvQ xop
  simp only [execOp, hc, bl, asBool]
  cases b <;> rfl
theorem ev_pick_t {c : Operand} {u : Value} (hc : evalF fr c = bl true) (hx : evalF fr x = u) : EvQ P fr w (.pick c x y) ty u := ev_pick (v := _) hc hx rfl
theorem ev_pick_f {c : Operand} {v : Value} (hc : evalF fr c = bl false) (hy : evalF fr y = v) : EvQ P fr w (.pick c x y) ty v := ev_pick (u := evalF fr x) hc rfl hy
theorem ev_not {b : Bool} {t : TypeId} (hx : evalF fr x = bl b) : EvQ P fr w (.unOp .not t x) ty (bl (!b)) := by
  unfold EvQ xop; simp [execOp, hx, bl, Op.unary]
/-! int -/
theorem ev_int {op : BinOp} {k : IntKind} {a b : Int} {v : Value} {t t' : TypeId} (hop : (op == .shl || op == .shr) = false) (hx : evalF fr x = .int k a) (hy : evalF fr y = .int k b)
    (h : (intOp op k a b).run P w = .ok v w) : EvQ P fr w (.binOp op t x y t') ty v := by
  have hg : eqGuard op t x y (.int k a) (.int k b) = pure () := by
    unfold eqGuard
    split <;> rfl
  unfold EvQ xop
  show Sem.run P (do let v ← (do eqGuard op t x y (evalF fr x) (evalF fr y); binOp op t (evalF fr x) (evalF fr y)); pure (Next.value v)) w = _
  rw [hx, hy, hg, binOp_int hop]
  simp [h]
theorem ev_i64_add {a b : Int} {t t' : TypeId} (hx : evalF fr x = i64 a) (hy : evalF fr y = i64 b) (h0 : -9223372036854775808 ≤ a + b) (h1 : a + b < 9223372036854775808) : EvQ P fr w (.binOp .add t x y t') ty (i64 (a + b)) :=
  ev_int rfl hx hy (by simp [intOp, Op.intArith, wrap_i64 h0 h1, i64])
theorem ev_i64_sub {a b : Int} {t t' : TypeId} (hx : evalF fr x = i64 a) (hy : evalF fr y = i64 b) (h0 : -9223372036854775808 ≤ a - b) (h1 : a - b < 9223372036854775808) : EvQ P fr w (.binOp .sub t x y t') ty (i64 (a - b)) :=
  ev_int rfl hx hy (by simp [intOp, Op.intArith, wrap_i64 h0 h1, i64])
theorem ev_i64_mul {a b : Int} {t t' : TypeId} (hx : evalF fr x = i64 a) (hy : evalF fr y = i64 b) (h0 : -9223372036854775808 ≤ a * b) (h1 : a * b < 9223372036854775808) : EvQ P fr w (.binOp .mul t x y t') ty (i64 (a * b)) :=
  ev_int rfl hx hy (by simp [intOp, Op.intArith, wrap_i64 h0 h1, i64])
theorem ev_i64_quo {a b : Int} {t t' : TypeId} (hx : evalF fr x = i64 a) (hy : evalF fr y = i64 b) (h0 : 0 ≤ a) (h1 : a < 9223372036854775808) (hb : 0 < b) : EvQ P fr w (.binOp .quo t x y t') ty (i64 (a / b)) :=
  ev_int rfl hx hy (by
    have hne : ¬ b = 0 := by omega
    have e : a.tdiv b = a / b := by rw [Int.tdiv_eq_ediv_of_nonneg h0]
    have h2 : 0 ≤ a / b := Int.ediv_nonneg h0 (by omega)
    have h3 : a / b ≤ a := Int.ediv_le_self _ h0
    simp [intOp, Op.intDiv, hne, e, i64]; exact wrap_i64 (by omega) (by omega))
theorem ev_i64_rem {a b : Int} {t t' : TypeId} (hx : evalF fr x = i64 a) (hy : evalF fr y = i64 b) (h0 : 0 ≤ a) (_h1 : a < 9223372036854775808) (hb : 0 < b) : EvQ P fr w (.binOp .rem t x y t') ty (i64 (a % b)) :=
  ev_int rfl hx hy (by
    have hne : ¬ b = 0 := by omega
    have e : a.tmod b = a % b := by rw [Int.tmod_eq_emod_of_nonneg h0]
    have h2 : 0 ≤ a / b := Int.ediv_nonneg h0 (by omega)
    have h3 : a / b ≤ a := Int.ediv_le_self _ h0
    simp [intOp, Op.intDiv, hne, e, i64])
theorem ev_i64_eql {a b : Int} {t t' : TypeId} (hx : evalF fr x = i64 a) (hy : evalF fr y = i64 b) : EvQ P fr w (.binOp .eql t x y t') ty (bl (a == b)) :=
  ev_int rfl hx hy (by simp [intOp, Op.intCmp, bl])
theorem ev_i64_neq {a b : Int} {t t' : TypeId} (hx : evalF fr x = i64 a) (hy : evalF fr y = i64 b) : EvQ P fr w (.binOp .neq t x y t') ty (bl (a != b)) :=
  ev_int rfl hx hy (by simp [intOp, Op.intCmp, bl])
theorem ev_i64_lss {a b : Int} {t t' : TypeId} (hx : evalF fr x = i64 a) (hy : evalF fr y = i64 b) : EvQ P fr w (.binOp .lss t x y t') ty (bl (decide (a < b))) :=
  ev_int rfl hx hy (by simp [intOp, Op.intCmp, bl])
theorem ev_i64_leq {a b : Int} {t t' : TypeId} (hx : evalF fr x = i64 a) (hy : evalF fr y = i64 b) : EvQ P fr w (.binOp .leq t x y t') ty (bl (decide (a ≤ b))) :=
  ev_int rfl hx hy (by simp [intOp, Op.intCmp, bl])
theorem ev_i64_gtr {a b : Int} {t t' : TypeId} (hx : evalF fr x = i64 a) (hy : evalF fr y = i64 b) : EvQ P fr w (.binOp .gtr t x y t') ty (bl (decide (b < a))) :=
  ev_int rfl hx hy (by simp [intOp, Op.intCmp, bl])
theorem ev_i64_geq {a b : Int} {t t' : TypeId} (hx : evalF fr x = i64 a) (hy : evalF fr y = i64 b) : EvQ P fr w (.binOp .geq t x y t') ty (bl (decide (b ≤ a))) :=
  ev_int rfl hx hy (by simp [intOp, Op.intCmp, bl])
theorem ev_shift {op : BinOp} {k ky : IntKind} {a b : Int} {v : Value} {t t' : TypeId} (hop : op = .shl ∨ op = .shr) (hx : evalF fr x = .int k a) (hy : evalF fr y = .int ky b) (hb : 0 ≤ b)
    (h : v = .int k (if op = .shl then k.wrap (a * 2 ^ (min b.toNat k.bits)) else a.fdiv (2 ^ (min b.toNat k.bits)))) : EvQ P fr w (.binOp op t x y t') ty v := by
  subst h
  have hn : ¬ b < 0 := by omega
  unfold EvQ xop
  rcases hop with rfl | rfl
  · simp [execOp, hx, hy, eqGuard, binOp, Op.shift, hn]
  · simp [execOp, hx, hy, eqGuard, binOp, Op.shift, hn]
end

/-! u8 -/
def u8 (x : BitVec 8) : Value := .int .u8 (x.toNat : Int)
theorem wrap_u8 (m : Nat) : IntKind.u8.wrap (m : Int) = ((m % 256 : Nat) : Int) := by
  simp only [IntKind.wrap, IntKind.bits, IntKind.signed, Bool.false_and, Bool.false_eq_true, if_false]
  omega
theorem wrap_u8_int (m : Int) : IntKind.u8.wrap m = ((BitVec.ofInt 8 m).toNat : Int) := by
  simp only [IntKind.wrap, IntKind.bits, IntKind.signed, Bool.false_and, Bool.false_eq_true, if_false, BitVec.toNat_ofInt]
  omega
theorem wrap_u8_of_lt {m : Nat} (h : m < 256) : IntKind.u8.wrap (m : Int) = (m : Int) := by
  rw [wrap_u8]; omega
section
variable {P : Program} {fr : Nat → Value} {w : World} {ty : TypeId} {x y : Operand}
theorem ev_u8_quo {a b : BitVec 8} {t t' : TypeId} (hx : evalF fr x = u8 a) (hy : evalF fr y = u8 b) (hb : 0 < b.toNat) : EvQ P fr w (.binOp .quo t x y t') ty (u8 (a / b)) :=
  ev_int rfl hx hy (by
    have hne : ¬ ((b.toNat : Int) = 0) := by omega
    have e : (a.toNat : Int).tdiv (b.toNat : Int) = ((a.toNat / b.toNat : Nat) : Int) := by
      rw [Int.tdiv_eq_ediv_of_nonneg (by omega)]; simp
    have h1 := a.isLt
    have h2 : a.toNat / b.toNat ≤ a.toNat := Nat.div_le_self _ _
    simp only [intOp, Op.intDiv, hne, if_false, e, u8, BitVec.toNat_udiv]
    rw [wrap_u8_of_lt (by omega)]; rfl)
theorem ev_u8_rem {a b : BitVec 8} {t t' : TypeId} (hx : evalF fr x = u8 a) (hy : evalF fr y = u8 b) (hb : 0 < b.toNat) : EvQ P fr w (.binOp .rem t x y t') ty (u8 (a % b)) :=
  ev_int rfl hx hy (by
    have hne : ¬ ((b.toNat : Int) = 0) := by omega
    have e : (a.toNat : Int).tmod (b.toNat : Int) = ((a.toNat % b.toNat : Nat) : Int) := by
      rw [Int.tmod_eq_emod_of_nonneg (by omega)]; simp
    have h1 := a.isLt
    have h2 : a.toNat / b.toNat ≤ a.toNat := Nat.div_le_self _ _
    simp only [intOp, Op.intDiv, hne, if_false, e, u8, BitVec.toNat_umod]
    rfl)
theorem ev_u8_eql {a b : BitVec 8} {t t' : TypeId} (hx : evalF fr x = u8 a) (hy : evalF fr y = u8 b) : EvQ P fr w (.binOp .eql t x y t') ty (bl (a == b)) :=
  ev_int rfl hx hy (by
    have e : ((a.toNat : Int) == (b.toNat : Int)) = (a == b) := by
      rw [Bool.eq_iff_iff]; simp only [beq_iff_eq]
      exact ⟨fun h => BitVec.eq_of_toNat_eq (by omega), fun h => by rw [h]⟩
    simp [intOp, Op.intCmp, bl, bne, e])
theorem ev_u8_neq {a b : BitVec 8} {t t' : TypeId} (hx : evalF fr x = u8 a) (hy : evalF fr y = u8 b) : EvQ P fr w (.binOp .neq t x y t') ty (bl (a != b)) :=
  ev_int rfl hx hy (by
    have e : ((a.toNat : Int) == (b.toNat : Int)) = (a == b) := by
      rw [Bool.eq_iff_iff]; simp only [beq_iff_eq]
      exact ⟨fun h => BitVec.eq_of_toNat_eq (by omega), fun h => by rw [h]⟩
    simp [intOp, Op.intCmp, bl, bne, e])
theorem ev_u8_gtr {a b : BitVec 8} {t t' : TypeId} (hx : evalF fr x = u8 a) (hy : evalF fr y = u8 b) : EvQ P fr w (.binOp .gtr t x y t') ty (bl (decide (b.toNat < a.toNat))) :=
  ev_int rfl hx hy (by simp [intOp, Op.intCmp, bl])
end

/-! u32 -/
def u32 (x : BitVec 32) : Value := .int .u32 (x.toNat : Int)
section
variable {P : Program} {fr : Nat → Value} {w : World} {ty : TypeId} {x y : Operand}
end

/-! u64 -/
def u64 (x : BitVec 64) : Value := .int .u64 (x.toNat : Int)
theorem wrap_u64 (m : Nat) : IntKind.u64.wrap (m : Int) = ((m % 18446744073709551616 : Nat) : Int) := by
  simp only [IntKind.wrap, IntKind.bits, IntKind.signed, Bool.false_and, Bool.false_eq_true, if_false]
  omega
theorem wrap_u64_int (m : Int) : IntKind.u64.wrap m = ((BitVec.ofInt 64 m).toNat : Int) := by
  simp only [IntKind.wrap, IntKind.bits, IntKind.signed, Bool.false_and, Bool.false_eq_true, if_false, BitVec.toNat_ofInt]
  omega
theorem wrap_u64_of_lt {m : Nat} (h : m < 18446744073709551616) : IntKind.u64.wrap (m : Int) = (m : Int) := by
  rw [wrap_u64]; omega
section
variable {P : Program} {fr : Nat → Value} {w : World} {ty : TypeId} {x y : Operand}
theorem ofInt_u64 (a : BitVec 64) : BitVec.ofInt 64 (a.toNat : Int) = a := by
  apply BitVec.eq_of_toNat_eq; rw [BitVec.toNat_ofInt]; have := a.isLt; omega
theorem ev_u64_add {a b : BitVec 64} {t t' : TypeId} (hx : evalF fr x = u64 a) (hy : evalF fr y = u64 b) : EvQ P fr w (.binOp .add t x y t') ty (u64 (a + b)) :=
  ev_int rfl hx hy (by
    have e : ((a.toNat : Int) + (b.toNat : Int)) = ((a.toNat + b.toNat : Nat) : Int) := by simp
    simp only [intOp, Op.intArith, e, wrap_u64, u64, BitVec.toNat_add]; rfl)
theorem ev_u64_and {a b : BitVec 64} {t t' : TypeId} (hx : evalF fr x = u64 a) (hy : evalF fr y = u64 b) : EvQ P fr w (.binOp .and t x y t') ty (u64 (a &&& b)) :=
  ev_int rfl hx hy (by
    have e : ∀ c : BitVec 64, IntKind.u64.wrap (c.toNat : Int) = (c.toNat : Int) := fun c => wrap_u64_of_lt c.isLt
    show (Op.intBits .and .u64 (a.toNat : Int) (b.toNat : Int)).run P w = _
    have h1 := ofInt_u64 a; have h2 := ofInt_u64 b
    unfold Op.intBits
    simp only [IntKind.bits] at *
    simp only [h1, h2, e, u64]; rfl)
theorem ev_u64_or {a b : BitVec 64} {t t' : TypeId} (hx : evalF fr x = u64 a) (hy : evalF fr y = u64 b) : EvQ P fr w (.binOp .or t x y t') ty (u64 (a ||| b)) :=
  ev_int rfl hx hy (by
    have e : ∀ c : BitVec 64, IntKind.u64.wrap (c.toNat : Int) = (c.toNat : Int) := fun c => wrap_u64_of_lt c.isLt
    show (Op.intBits .or .u64 (a.toNat : Int) (b.toNat : Int)).run P w = _
    have h1 := ofInt_u64 a; have h2 := ofInt_u64 b
    unfold Op.intBits
    simp only [IntKind.bits] at *
    simp only [h1, h2, e, u64]; rfl)
theorem ev_u64_andNot {a b : BitVec 64} {t t' : TypeId} (hx : evalF fr x = u64 a) (hy : evalF fr y = u64 b) : EvQ P fr w (.binOp .andNot t x y t') ty (u64 (a &&& ~~~b)) :=
  ev_int rfl hx hy (by
    have e : ∀ c : BitVec 64, IntKind.u64.wrap (c.toNat : Int) = (c.toNat : Int) := fun c => wrap_u64_of_lt c.isLt
    show (Op.intBits .andNot .u64 (a.toNat : Int) (b.toNat : Int)).run P w = _
    have h1 := ofInt_u64 a; have h2 := ofInt_u64 b
    unfold Op.intBits
    simp only [IntKind.bits] at *
    simp only [h1, h2, e, u64]; rfl)
theorem ev_u64_eql {a b : BitVec 64} {t t' : TypeId} (hx : evalF fr x = u64 a) (hy : evalF fr y = u64 b) : EvQ P fr w (.binOp .eql t x y t') ty (bl (a == b)) :=
  ev_int rfl hx hy (by
    have e : ((a.toNat : Int) == (b.toNat : Int)) = (a == b) := by
      rw [Bool.eq_iff_iff]; simp only [beq_iff_eq]
      exact ⟨fun h => BitVec.eq_of_toNat_eq (by omega), fun h => by rw [h]⟩
    simp [intOp, Op.intCmp, bl, bne, e])
theorem ev_u64_neq {a b : BitVec 64} {t t' : TypeId} (hx : evalF fr x = u64 a) (hy : evalF fr y = u64 b) : EvQ P fr w (.binOp .neq t x y t') ty (bl (a != b)) :=
  ev_int rfl hx hy (by
    have e : ((a.toNat : Int) == (b.toNat : Int)) = (a == b) := by
      rw [Bool.eq_iff_iff]; simp only [beq_iff_eq]
      exact ⟨fun h => BitVec.eq_of_toNat_eq (by omega), fun h => by rw [h]⟩
    simp [intOp, Op.intCmp, bl, bne, e])
theorem ev_u64_gtr {a b : BitVec 64} {t t' : TypeId} (hx : evalF fr x = u64 a) (hy : evalF fr y = u64 b) : EvQ P fr w (.binOp .gtr t x y t') ty (bl (decide (b.toNat < a.toNat))) :=
  ev_int rfl hx hy (by simp [intOp, Op.intCmp, bl])
theorem ev_u64_geq {a b : BitVec 64} {t t' : TypeId} (hx : evalF fr x = u64 a) (hy : evalF fr y = u64 b) : EvQ P fr w (.binOp .geq t x y t') ty (bl (decide (b.toNat ≤ a.toNat))) :=
  ev_int rfl hx hy (by simp [intOp, Op.intCmp, bl])
theorem ev_u64_shl {a : BitVec 64} {ky : IntKind} {b : Int} {t t' : TypeId} (hx : evalF fr x = u64 a) (hy : evalF fr y = .int ky b) (hb : 0 ≤ b) : EvQ P fr w (.binOp .shl t x y t') ty (u64 (a <<< b.toNat)) :=
  ev_shift (.inl rfl) hx hy hb (by
    simp only [if_true, u64, IntKind.bits]
    congr 1
    have e : ((a.toNat : Int) * 2 ^ (min b.toNat 64)) = ((a.toNat * 2 ^ (min b.toNat 64) : Nat) : Int) := by simp
    rw [e, wrap_u64, BitVec.toNat_shiftLeft, Nat.shiftLeft_eq]
    rcases Nat.lt_or_ge b.toNat 64 with h | h
    · rw [Nat.min_eq_left (by omega)]
    · rw [Nat.min_eq_right h]
      obtain ⟨c, hc⟩ := Nat.exists_eq_add_of_le h
      rw [hc, Nat.pow_add, ← Nat.mul_assoc, Nat.mul_assoc, Nat.mul_comm (2 ^ 64), ← Nat.mul_assoc]
      simp)
theorem ev_u64_shr {a : BitVec 64} {ky : IntKind} {b : Int} {t t' : TypeId} (hx : evalF fr x = u64 a) (hy : evalF fr y = .int ky b) (hb : 0 ≤ b) : EvQ P fr w (.binOp .shr t x y t') ty (u64 (a >>> b.toNat)) :=
  ev_shift (.inr rfl) hx hy hb (by
    simp only [u64, IntKind.bits]
    rw [if_neg (by decide)]
    congr 1
    have e : ((a.toNat : Int).fdiv (2 ^ (min b.toNat 64))) = ((a.toNat / 2 ^ (min b.toNat 64) : Nat) : Int) := by
      rw [Int.fdiv_eq_ediv_of_nonneg _ (by exact Int.le_of_lt (Int.pow_pos (by decide)))]; simp
    rw [e, BitVec.toNat_ushiftRight, Nat.shiftRight_eq_div_pow]
    rcases Nat.lt_or_ge b.toNat 64 with h | h
    · rw [Nat.min_eq_left (by omega)]
    · rw [Nat.min_eq_right h]
      have h1 := a.isLt
      have h2 : 2 ^ 64 ≤ 2 ^ b.toNat := Nat.pow_le_pow_right (by decide) h
      rw [Nat.div_eq_of_lt (by omega), Nat.div_eq_of_lt (by omega)])
end

/-! conversions -/
section
variable {P : Program} {fr : Nat → Value} {w : World} {ty s t : TypeId} {x : Operand}
theorem ev_conv {k k' : IntKind} {n : Int} {v : Value} (hs : ∃ d, P.underlying s = some d) (ht : P.underlying t = some (.int k)) (hx : evalF fr x = .int k' n) (hv : v = .int k (k.wrap n)) : EvQ P fr w (.convert s t x) ty v := by
  obtain ⟨d, hs⟩ := hs
  subst hv
  unfold EvQ xop
  simp only [execOp, hx]
  simp [convert, underlying, hs, ht, Conv.intToInt]
theorem ev_conv_i64_u8 {a : Int} (hs : ∃ d, P.underlying s = some d) (ht : P.underlying t = some (.int .u8)) (hx : evalF fr x = i64 a) : EvQ P fr w (.convert s t x) ty (u8 (BitVec.ofInt 8 a)) :=
  ev_conv hs ht hx (by rw [wrap_u8_int]; rfl)
theorem ev_conv_u8_i64 {a : BitVec 8} (hs : ∃ d, P.underlying s = some d) (ht : P.underlying t = some (.int .i64)) (hx : evalF fr x = u8 a) : EvQ P fr w (.convert s t x) ty (i64 (a.toNat : Int)) :=
  ev_conv hs ht hx (by have := a.isLt; rw [wrap_i64 (by omega) (by omega)]; rfl)
theorem ev_conv_u8_u64 {a : BitVec 8} (hs : ∃ d, P.underlying s = some d) (ht : P.underlying t = some (.int .u64)) (hx : evalF fr x = u8 a) : EvQ P fr w (.convert s t x) ty (u64 (a.setWidth 64)) :=
  ev_conv hs ht hx (by rw [wrap_u64]; simp [u64, BitVec.toNat_setWidth])
theorem ev_conv_i64_u64 {a : Int} (hs : ∃ d, P.underlying s = some d) (ht : P.underlying t = some (.int .u64)) (hx : evalF fr x = i64 a) : EvQ P fr w (.convert s t x) ty (u64 (BitVec.ofInt 64 a)) :=
  ev_conv hs ht hx (by rw [wrap_u64_int]; rfl)
theorem ev_conv_u64_i64 {a : BitVec 64} (hs : ∃ d, P.underlying s = some d) (ht : P.underlying t = some (.int .i64)) (hx : evalF fr x = u64 a) (hlt : a.toNat < 9223372036854775808) : EvQ P fr w (.convert s t x) ty (i64 (a.toNat : Int)) :=
  ev_conv hs ht hx (by rw [wrap_i64 (by omega) (by omega)]; rfl)
theorem ev_conv_u64_u8 {a : BitVec 64} (hs : ∃ d, P.underlying s = some d) (ht : P.underlying t = some (.int .u8)) (hx : evalF fr x = u64 a) : EvQ P fr w (.convert s t x) ty (u8 (a.setWidth 8)) :=
  ev_conv hs ht hx (by rw [wrap_u8]; simp [u8, BitVec.toNat_setWidth])
end
end Go.Proofs.Ytfbnhoolkajebaa
