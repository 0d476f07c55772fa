/- The framework, part D: values of numbers and booleans, and the operations on them. Conditions: none. -/
import Derived.Test.YtkmiemlpfkfiiaaDoorFwC
namespace Go.Proofs.YtkmiemlpfkfiiaaDoor
set_option linter.unusedSimpArgs false
def i64 (n : Int) : Value := .int .i64 n
def bl (b : Bool) : Value := .bool b
def ptr (b off : Nat) : Value := .pointer (some ⟨b, off, none⟩)
def Wq (b off len cap : Nat) : Value := .slice (some ⟨b, off, none⟩) len cap
def cl {α : Type} (f : α → Value) (l : List α) : Array Value := (l.map f).toArray
def agg {α : Type} (f : α → Value) (l : List α) : Value := .agg (cl f l)
theorem Hy {n : Int} (h0 : -9223372036854775808 ≤ n) (h1 : n < 9223372036854775808) : IntKind.i64.wrap n = n := by
 simp only [IntKind.wrap, IntKind.bits, IntKind.signed, Bool.true_and, decide_eq_true_eq, Nat.reduceSub, Int.reducePow, ge_iff_le]
 split <;> omega
def Dc (op : BinOp) (k : IntKind) (a b : Int) : Sem Value :=
 match op with | .add | .sub | .mul => Op.intArith op k a b | .quo | .rem => Op.intDiv op k a b | .and | .or | .xor | .andNot => Op.intBits op k a b | _ => Op.intCmp op a b
theorem Qsf {op : BinOp} (hop : (op == .shl || op == .shr) = false) (t : TypeId) (k : IntKind) (a b : Int) : binOp op t (.int k a) (.int k b) = Dc op k a b := by
 cases op <;> first | (cases hop; done) | simp [binOp, Dc]
theorem Qgb (P : Program) (w : World) (d : Nat) {t : TypeId} (hu : P.underlying t = some .bool) (a b : Bool) : (Op.equalIn (d + 1) t (.bool a) (.bool b)).run P w = .ok (a == b) w := by
 simp [Op.equalIn, underlying, hu]
section
variable {P : Program} {fr : Nat → Value} {w : World} {ty : TypeId} {x y : Operand}
theorem Yp {v : Value} (hx : Qq fr x = v) : Ko P fr w (.move x) ty v := by subst hx; rfl
theorem Uw {v : Value} (hx : Qq fr x = v) : Ko P fr w (.assign x) ty v := by subst hx; rfl
theorem Qqo {c : Operand} {b : Bool} {u v : Value} (hc : Qq fr c = bl b) (hx : Qq fr x = u) (hy : Qq fr y = v) : Ko P fr w (.pick c x y) ty (if b then u else v) := by
 subst hx hy
 unfold Ko L6
 simp only [execOp, hc, bl, asBool]
 cases b <;> rfl
theorem Qk9 {c : Operand} {u : Value} (hc : Qq fr c = bl true) (hx : Qq fr x = u) : Ko P fr w (.pick c x y) ty u := Qqo (v := _) hc hx rfl
theorem Qbv {c : Operand} {v : Value} (hc : Qq fr c = bl false) (hy : Qq fr y = v) : Ko P fr w (.pick c x y) ty v := Qqo (u := Qq fr x) hc rfl hy
theorem Ut {b : Bool} {t : TypeId} (hx : Qq fr x = bl b) : Ko P fr w (.unOp .not t x) ty (bl (!b)) := by
 unfold Ko L6; simp [execOp, hx, bl, Op.unary]
theorem Gj {op : BinOp} {k : IntKind} {a b : Int} {v : Value} {t t' : TypeId} (hop : (op == .shl || op == .shr) = false) (hx : Qq fr x = .int k a) (hy : Qq fr y = .int k b)
  (h : (Dc op k a b).run P w = .ok v w) : Ko P fr w (.binOp op t x y t') ty v := by
 have hg : eqGuard op t x y (.int k a) (.int k b) = pure () := by
  unfold eqGuard
  split <;> rfl
 unfold Ko L6
 show Sem.run P (do let v ← (do eqGuard op t x y (Qq fr x) (Qq fr y); binOp op t (Qq fr x) (Qq fr y)); pure (Next.value v)) w = _
 rw [hx, hy, hg, Qsf hop]
 simp [h]
theorem Zg {a b : Int} {t t' : TypeId} (hx : Qq fr x = i64 a) (hy : Qq fr y = i64 b) (h0 : -9223372036854775808 ≤ a + b) (h1 : a + b < 9223372036854775808) : Ko P fr w (.binOp .add t x y t') ty (i64 (a + b)) :=
 Gj rfl hx hy (by simp [Dc, Op.intArith, Hy h0 h1, i64])
theorem Yk {a b : Int} {t t' : TypeId} (hx : Qq fr x = i64 a) (hy : Qq fr y = i64 b) (h0 : -9223372036854775808 ≤ a - b) (h1 : a - b < 9223372036854775808) : Ko P fr w (.binOp .sub t x y t') ty (i64 (a - b)) :=
 Gj rfl hx hy (by simp [Dc, Op.intArith, Hy h0 h1, i64])
theorem Wl {a b : Int} {t t' : TypeId} (hx : Qq fr x = i64 a) (hy : Qq fr y = i64 b) (h0 : -9223372036854775808 ≤ a * b) (h1 : a * b < 9223372036854775808) : Ko P fr w (.binOp .mul t x y t') ty (i64 (a * b)) :=
 Gj rfl hx hy (by simp [Dc, Op.intArith, Hy h0 h1, i64])
theorem Uu {a b : Int} {t t' : TypeId} (hx : Qq fr x = i64 a) (hy : Qq fr y = i64 b) (h0 : 0 ≤ a) (h1 : a < 9223372036854775808) (hb : 0 < b) : Ko P fr w (.binOp .quo t x y t') ty (i64 (a / b)) :=
 Gj rfl hx hy (by
  have hne : ¬ b = 0 := by omega
  have e : a.tdiv b = a / b := by rw [Int.tdiv_eq_ediv_of_nonneg h0]
  have h2 : 0 ≤ a / b := Int.ediv_nonneg h0 (by omega)
  have h3 : a / b ≤ a := Int.ediv_le_self _ h0
  simp [Dc, Op.intDiv, hne, e, i64]; exact Hy (by omega) (by omega))
theorem Vf {a b : Int} {t t' : TypeId} (hx : Qq fr x = i64 a) (hy : Qq fr y = i64 b) (h0 : 0 ≤ a) (_h1 : a < 9223372036854775808) (hb : 0 < b) : Ko P fr w (.binOp .rem t x y t') ty (i64 (a % b)) :=
 Gj rfl hx hy (by
  have hne : ¬ b = 0 := by omega
  have e : a.tmod b = a % b := by rw [Int.tmod_eq_emod_of_nonneg h0]
  have h2 : 0 ≤ a / b := Int.ediv_nonneg h0 (by omega)
  have h3 : a / b ≤ a := Int.ediv_le_self _ h0
  simp [Dc, Op.intDiv, hne, e, i64])
theorem Fb {a b : Int} {t t' : TypeId} (hx : Qq fr x = i64 a) (hy : Qq fr y = i64 b) : Ko P fr w (.binOp .eql t x y t') ty (bl (a == b)) :=
 Gj rfl hx hy (by simp [Dc, Op.intCmp, bl])
theorem Jw {a b : Int} {t t' : TypeId} (hx : Qq fr x = i64 a) (hy : Qq fr y = i64 b) : Ko P fr w (.binOp .neq t x y t') ty (bl (a != b)) :=
 Gj rfl hx hy (by simp [Dc, Op.intCmp, bl])
theorem Z9 {a b : Int} {t t' : TypeId} (hx : Qq fr x = i64 a) (hy : Qq fr y = i64 b) : Ko P fr w (.binOp .lss t x y t') ty (bl (decide (a < b))) :=
 Gj rfl hx hy (by simp [Dc, Op.intCmp, bl])
theorem Qpf {a b : Int} {t t' : TypeId} (hx : Qq fr x = i64 a) (hy : Qq fr y = i64 b) : Ko P fr w (.binOp .leq t x y t') ty (bl (decide (a ≤ b))) :=
 Gj rfl hx hy (by simp [Dc, Op.intCmp, bl])
theorem Gm {a b : Int} {t t' : TypeId} (hx : Qq fr x = i64 a) (hy : Qq fr y = i64 b) : Ko P fr w (.binOp .gtr t x y t') ty (bl (decide (b < a))) :=
 Gj rfl hx hy (by simp [Dc, Op.intCmp, bl])
theorem E8 {a b : Int} {t t' : TypeId} (hx : Qq fr x = i64 a) (hy : Qq fr y = i64 b) : Ko P fr w (.binOp .geq t x y t') ty (bl (decide (b ≤ a))) :=
 Gj rfl hx hy (by simp [Dc, Op.intCmp, bl])
theorem Gn {a b : Int} {t t' : TypeId} (hx : Qq fr x = i64 a) (hy : Qq fr y = i64 b) (h0 : 0 ≤ b) (h1 : b < 9223372036854775808) : Ko P fr w (.binOp .and t x y t') ty (i64 (((BitVec.ofInt 64 a).toNat &&& b.toNat : Nat) : Int)) :=
 Gj rfl hx hy (by
  have hb : (BitVec.ofInt 64 b).toNat = b.toNat := by
   rw [BitVec.toNat_ofInt]; omega
  have hle : (BitVec.ofInt 64 a).toNat &&& b.toNat ≤ b.toNat := Nat.and_le_right
  have e : Dc .and .i64 a b = pure (.int .i64 (IntKind.i64.wrap ((BitVec.ofInt 64 a &&& BitVec.ofInt 64 b).toNat : Int))) := rfl
  rw [e, BitVec.toNat_and, hb, Hy (by omega) (by omega)]; rfl)
theorem Ry {op : BinOp} {k ky : IntKind} {a b : Int} {v : Value} {t t' : TypeId} (hop : op = .shl ∨ op = .shr) (hx : Qq fr x = .int k a) (hy : Qq fr y = .int ky b) (hb : 0 ≤ b)
  (h : v = .int k (if op = .shl then k.wrap (a * 2 ^ (min b.toNat k.bits)) else a.fdiv (2 ^ (min b.toNat k.bits)))) : Ko P fr w (.binOp op t x y t') ty v := by
 subst h
 have hn : ¬ b < 0 := by omega
 unfold Ko L6
 rcases hop with rfl | rfl
 ·simp [execOp, hx, hy, eqGuard, binOp, Op.shift, hn]
 simp [execOp, hx, hy, eqGuard, binOp, Op.shift, hn]
theorem Qhl {a b : Bool} {t t' : TypeId} (hu : P.underlying t = some .bool) (hx : Qq fr x = bl a) (hy : Qq fr y = bl b) : Ko P fr w (.binOp .neq t x y t') ty (bl (a != b)) := by
 unfold Ko L6
 show Sem.run P (do let v ← (do eqGuard .neq t x y (Qq fr x) (Qq fr y); binOp .neq t (Qq fr x) (Qq fr y)); pure (Next.value v)) w = _
 rw [hx, hy]
 have hg : eqGuard .neq t x y (bl a) (bl b) = pure () := rfl
 have hb : binOp .neq t (bl a) (bl b) = (do pure (.bool (!(← Op.equalIn (9999 + 1) t (.bool a) (.bool b))))) := rfl
 rw [hg, hb]
 simp [Qgb P w 9999 hu, bl, bne]
end
def u8 (x : BitVec 8) : Value := .int .u8 (x.toNat : Int)
theorem Qdi (m : Nat) : IntKind.u8.wrap (m : Int) = ((m % 256 : Nat) : Int) := by
 simp only [IntKind.wrap, IntKind.bits, IntKind.signed, Bool.false_and, Bool.false_eq_true, if_false]
 omega
theorem Qmo (m : Int) : IntKind.u8.wrap m = ((BitVec.ofInt 8 m).toNat : Int) := by
 simp only [IntKind.wrap, IntKind.bits, IntKind.signed, Bool.false_and, Bool.false_eq_true, if_false, BitVec.toNat_ofInt]
 omega
theorem Hw {m : Nat} (h : m < 256) : IntKind.u8.wrap (m : Int) = (m : Int) := by
 rw [Qdi]; omega
section
variable {P : Program} {fr : Nat → Value} {w : World} {ty : TypeId} {x y : Operand}
theorem Ru (a : BitVec 8) : BitVec.ofInt 8 (a.toNat : Int) = a := by
 apply BitVec.eq_of_toNat_eq; rw [BitVec.toNat_ofInt]; have := a.isLt; omega
theorem Qk7 {a b : BitVec 8} {t t' : TypeId} (hx : Qq fr x = u8 a) (hy : Qq fr y = u8 b) : Ko P fr w (.binOp .add t x y t') ty (u8 (a + b)) :=
 Gj rfl hx hy (by
  have e : ((a.toNat : Int) + (b.toNat : Int)) = ((a.toNat + b.toNat : Nat) : Int) := by simp
  simp only [Dc, Op.intArith, e, Qdi, u8, BitVec.toNat_add]; rfl)
theorem Qrz {a b : BitVec 8} {t t' : TypeId} (hx : Qq fr x = u8 a) (hy : Qq fr y = u8 b) : Ko P fr w (.binOp .mul t x y t') ty (u8 (a * b)) :=
 Gj rfl hx hy (by
  have e : ((a.toNat : Int) * (b.toNat : Int)) = ((a.toNat * b.toNat : Nat) : Int) := by simp
  simp only [Dc, Op.intArith, e, Qdi, u8, BitVec.toNat_mul]; rfl)
theorem Qgq {a b : BitVec 8} {t t' : TypeId} (hx : Qq fr x = u8 a) (hy : Qq fr y = u8 b) : Ko P fr w (.binOp .and t x y t') ty (u8 (a &&& b)) :=
 Gj rfl hx hy (by
  have e : ∀ c : BitVec 8, IntKind.u8.wrap (c.toNat : Int) = (c.toNat : Int) := fun c => Hw c.isLt
  show (Op.intBits .and .u8 (a.toNat : Int) (b.toNat : Int)).run P w = _
  have h1 := Ru a; have h2 := Ru b
  unfold Op.intBits
  simp only [IntKind.bits] at *
  simp only [h1, h2, e, u8]; rfl)
theorem Qfn {a b : BitVec 8} {t t' : TypeId} (hx : Qq fr x = u8 a) (hy : Qq fr y = u8 b) : Ko P fr w (.binOp .or t x y t') ty (u8 (a ||| b)) :=
 Gj rfl hx hy (by
  have e : ∀ c : BitVec 8, IntKind.u8.wrap (c.toNat : Int) = (c.toNat : Int) := fun c => Hw c.isLt
  show (Op.intBits .or .u8 (a.toNat : Int) (b.toNat : Int)).run P w = _
  have h1 := Ru a; have h2 := Ru b
  unfold Op.intBits
  simp only [IntKind.bits] at *
  simp only [h1, h2, e, u8]; rfl)
theorem Pz {a b : BitVec 8} {t t' : TypeId} (hx : Qq fr x = u8 a) (hy : Qq fr y = u8 b) : Ko P fr w (.binOp .xor t x y t') ty (u8 (a ^^^ b)) :=
 Gj rfl hx hy (by
  have e : ∀ c : BitVec 8, IntKind.u8.wrap (c.toNat : Int) = (c.toNat : Int) := fun c => Hw c.isLt
  show (Op.intBits .xor .u8 (a.toNat : Int) (b.toNat : Int)).run P w = _
  have h1 := Ru a; have h2 := Ru b
  unfold Op.intBits
  simp only [IntKind.bits] at *
  simp only [h1, h2, e, u8]; rfl)
theorem Qfo {a b : BitVec 8} {t t' : TypeId} (hx : Qq fr x = u8 a) (hy : Qq fr y = u8 b) : Ko P fr w (.binOp .andNot t x y t') ty (u8 (a &&& ~~~b)) :=
 Gj rfl hx hy (by
  have e : ∀ c : BitVec 8, IntKind.u8.wrap (c.toNat : Int) = (c.toNat : Int) := fun c => Hw c.isLt
  show (Op.intBits .andNot .u8 (a.toNat : Int) (b.toNat : Int)).run P w = _
  have h1 := Ru a; have h2 := Ru b
  unfold Op.intBits
  simp only [IntKind.bits] at *
  simp only [h1, h2, e, u8]; rfl)
theorem Qrx {a b : BitVec 8} {t t' : TypeId} (hx : Qq fr x = u8 a) (hy : Qq fr y = u8 b) (hb : 0 < b.toNat) : Ko P fr w (.binOp .quo t x y t') ty (u8 (a / b)) :=
 Gj rfl hx hy (by
  have hne : ¬ ((b.toNat : Int) = 0) := by omega
  have e : (a.toNat : Int).tdiv (b.toNat : Int) = ((a.toNat / b.toNat : Nat) : Int) := by
   rw [Int.tdiv_eq_ediv_of_nonneg (by omega)]; simp
  have h1 := a.isLt
  have h2 : a.toNat / b.toNat ≤ a.toNat := Nat.div_le_self _ _
  simp only [Dc, Op.intDiv, hne, if_false, e, u8, BitVec.toNat_udiv]
  rw [Hw (by omega)]; rfl)
theorem Qrw {a b : BitVec 8} {t t' : TypeId} (hx : Qq fr x = u8 a) (hy : Qq fr y = u8 b) (hb : 0 < b.toNat) : Ko P fr w (.binOp .rem t x y t') ty (u8 (a % b)) :=
 Gj rfl hx hy (by
  have hne : ¬ ((b.toNat : Int) = 0) := by omega
  have e : (a.toNat : Int).tmod (b.toNat : Int) = ((a.toNat % b.toNat : Nat) : Int) := by
   rw [Int.tmod_eq_emod_of_nonneg (by omega)]; simp
  have h1 := a.isLt
  have h2 : a.toNat / b.toNat ≤ a.toNat := Nat.div_le_self _ _
  simp only [Dc, Op.intDiv, hne, if_false, e, u8, BitVec.toNat_umod]
  rfl)
theorem Qbu {a b : BitVec 8} {t t' : TypeId} (hx : Qq fr x = u8 a) (hy : Qq fr y = u8 b) : Ko P fr w (.binOp .eql t x y t') ty (bl (a == b)) :=
 Gj rfl hx hy (by
  have e : ((a.toNat : Int) == (b.toNat : Int)) = (a == b) := by
   rw [Bool.eq_iff_iff]; simp only [beq_iff_eq]
   exact ⟨fun h => BitVec.eq_of_toNat_eq (by omega), fun h => by rw [h]⟩
  simp [Dc, Op.intCmp, bl, bne, e])
theorem Qry {a b : BitVec 8} {t t' : TypeId} (hx : Qq fr x = u8 a) (hy : Qq fr y = u8 b) : Ko P fr w (.binOp .neq t x y t') ty (bl (a != b)) :=
 Gj rfl hx hy (by
  have e : ((a.toNat : Int) == (b.toNat : Int)) = (a == b) := by
   rw [Bool.eq_iff_iff]; simp only [beq_iff_eq]
   exact ⟨fun h => BitVec.eq_of_toNat_eq (by omega), fun h => by rw [h]⟩
  simp [Dc, Op.intCmp, bl, bne, e])
theorem Qk6 {a : BitVec 8} {ky : IntKind} {b : Int} {t t' : TypeId} (hx : Qq fr x = u8 a) (hy : Qq fr y = .int ky b) (hb : 0 ≤ b) : Ko P fr w (.binOp .shl t x y t') ty (u8 (a <<< b.toNat)) :=
 Ry (.inl rfl) hx hy hb (by
  simp only [if_true, u8, IntKind.bits]
  congr 1
  have e : ((a.toNat : Int) * 2 ^ (min b.toNat 8)) = ((a.toNat * 2 ^ (min b.toNat 8) : Nat) : Int) := by simp
  rw [e, Qdi, BitVec.toNat_shiftLeft, Nat.shiftLeft_eq]
  rcases Nat.lt_or_ge b.toNat 8 with h | h
  ·rw [Nat.min_eq_left (by omega)]
  rw [Nat.min_eq_right h]
  obtain ⟨c, hc⟩ := Nat.exists_eq_add_of_le h
  rw [hc, Nat.pow_add, ← Nat.mul_assoc, Nat.mul_assoc, Nat.mul_comm (2 ^ 8), ← Nat.mul_assoc]
  simp)
theorem Qgp {a : BitVec 8} {ky : IntKind} {b : Int} {t t' : TypeId} (hx : Qq fr x = u8 a) (hy : Qq fr y = .int ky b) (hb : 0 ≤ b) : Ko P fr w (.binOp .shr t x y t') ty (u8 (a >>> b.toNat)) :=
 Ry (.inr rfl) hx hy hb (by
  simp only [u8, IntKind.bits]
  rw [if_neg Jg]
  congr 1
  have e : ((a.toNat : Int).fdiv (2 ^ (min b.toNat 8))) = ((a.toNat / 2 ^ (min b.toNat 8) : Nat) : Int) := by
   rw [Int.fdiv_eq_ediv_of_nonneg _ (by exact Int.le_of_lt (Int.pow_pos Jg))]; simp
  rw [e, BitVec.toNat_ushiftRight, Nat.shiftRight_eq_div_pow]
  rcases Nat.lt_or_ge b.toNat 8 with h | h
  ·rw [Nat.min_eq_left (by omega)]
  rw [Nat.min_eq_right h]
  have h1 := a.isLt
  have h2 : 2 ^ 8 ≤ 2 ^ b.toNat := Nat.pow_le_pow_right Jg h
  rw [Nat.div_eq_of_lt (by omega), Nat.div_eq_of_lt (by omega)])
end
def u32 (x : BitVec 32) : Value := .int .u32 (x.toNat : Int)
theorem Qcv (m : Nat) : IntKind.u32.wrap (m : Int) = ((m % 4294967296 : Nat) : Int) := by
 simp only [IntKind.wrap, IntKind.bits, IntKind.signed, Bool.false_and, Bool.false_eq_true, if_false]
 omega
theorem Qlj (m : Int) : IntKind.u32.wrap m = ((BitVec.ofInt 32 m).toNat : Int) := by
 simp only [IntKind.wrap, IntKind.bits, IntKind.signed, Bool.false_and, Bool.false_eq_true, if_false, BitVec.toNat_ofInt]
 omega
theorem Nl {m : Nat} (h : m < 4294967296) : IntKind.u32.wrap (m : Int) = (m : Int) := by
 rw [Qcv]; omega
section
variable {P : Program} {fr : Nat → Value} {w : World} {ty : TypeId} {x y : Operand}
theorem Po (a : BitVec 32) : BitVec.ofInt 32 (a.toNat : Int) = a := by
 apply BitVec.eq_of_toNat_eq; rw [BitVec.toNat_ofInt]; have := a.isLt; omega
theorem X5 {a b : BitVec 32} {t t' : TypeId} (hx : Qq fr x = u32 a) (hy : Qq fr y = u32 b) : Ko P fr w (.binOp .add t x y t') ty (u32 (a + b)) :=
 Gj rfl hx hy (by
  have e : ((a.toNat : Int) + (b.toNat : Int)) = ((a.toNat + b.toNat : Nat) : Int) := by simp
  simp only [Dc, Op.intArith, e, Qcv, u32, BitVec.toNat_add]; rfl)
theorem Ls {a b : BitVec 32} {t t' : TypeId} (hx : Qq fr x = u32 a) (hy : Qq fr y = u32 b) : Ko P fr w (.binOp .mul t x y t') ty (u32 (a * b)) :=
 Gj rfl hx hy (by
  have e : ((a.toNat : Int) * (b.toNat : Int)) = ((a.toNat * b.toNat : Nat) : Int) := by simp
  simp only [Dc, Op.intArith, e, Qcv, u32, BitVec.toNat_mul]; rfl)
theorem E5 {a b : BitVec 32} {t t' : TypeId} (hx : Qq fr x = u32 a) (hy : Qq fr y = u32 b) : Ko P fr w (.binOp .and t x y t') ty (u32 (a &&& b)) :=
 Gj rfl hx hy (by
  have e : ∀ c : BitVec 32, IntKind.u32.wrap (c.toNat : Int) = (c.toNat : Int) := fun c => Nl c.isLt
  show (Op.intBits .and .u32 (a.toNat : Int) (b.toNat : Int)).run P w = _
  have h1 := Po a; have h2 := Po b
  unfold Op.intBits
  simp only [IntKind.bits] at *
  simp only [h1, h2, e, u32]; rfl)
theorem Du {a b : BitVec 32} {t t' : TypeId} (hx : Qq fr x = u32 a) (hy : Qq fr y = u32 b) : Ko P fr w (.binOp .or t x y t') ty (u32 (a ||| b)) :=
 Gj rfl hx hy (by
  have e : ∀ c : BitVec 32, IntKind.u32.wrap (c.toNat : Int) = (c.toNat : Int) := fun c => Nl c.isLt
  show (Op.intBits .or .u32 (a.toNat : Int) (b.toNat : Int)).run P w = _
  have h1 := Po a; have h2 := Po b
  unfold Op.intBits
  simp only [IntKind.bits] at *
  simp only [h1, h2, e, u32]; rfl)
theorem Ju {a b : BitVec 32} {t t' : TypeId} (hx : Qq fr x = u32 a) (hy : Qq fr y = u32 b) : Ko P fr w (.binOp .xor t x y t') ty (u32 (a ^^^ b)) :=
 Gj rfl hx hy (by
  have e : ∀ c : BitVec 32, IntKind.u32.wrap (c.toNat : Int) = (c.toNat : Int) := fun c => Nl c.isLt
  show (Op.intBits .xor .u32 (a.toNat : Int) (b.toNat : Int)).run P w = _
  have h1 := Po a; have h2 := Po b
  unfold Op.intBits
  simp only [IntKind.bits] at *
  simp only [h1, h2, e, u32]; rfl)
theorem Fv {a : BitVec 32} {ky : IntKind} {b : Int} {t t' : TypeId} (hx : Qq fr x = u32 a) (hy : Qq fr y = .int ky b) (hb : 0 ≤ b) : Ko P fr w (.binOp .shl t x y t') ty (u32 (a <<< b.toNat)) :=
 Ry (.inl rfl) hx hy hb (by
  simp only [if_true, u32, IntKind.bits]
  congr 1
  have e : ((a.toNat : Int) * 2 ^ (min b.toNat 32)) = ((a.toNat * 2 ^ (min b.toNat 32) : Nat) : Int) := by simp
  rw [e, Qcv, BitVec.toNat_shiftLeft, Nat.shiftLeft_eq]
  rcases Nat.lt_or_ge b.toNat 32 with h | h
  ·rw [Nat.min_eq_left (by omega)]
  rw [Nat.min_eq_right h]
  obtain ⟨c, hc⟩ := Nat.exists_eq_add_of_le h
  rw [hc, Nat.pow_add, ← Nat.mul_assoc, Nat.mul_assoc, Nat.mul_comm (2 ^ 32), ← Nat.mul_assoc]
  simp)
theorem Us {a : BitVec 32} {ky : IntKind} {b : Int} {t t' : TypeId} (hx : Qq fr x = u32 a) (hy : Qq fr y = .int ky b) (hb : 0 ≤ b) : Ko P fr w (.binOp .shr t x y t') ty (u32 (a >>> b.toNat)) :=
 Ry (.inr rfl) hx hy hb (by
  simp only [u32, IntKind.bits]
  rw [if_neg Jg]
  congr 1
  have e : ((a.toNat : Int).fdiv (2 ^ (min b.toNat 32))) = ((a.toNat / 2 ^ (min b.toNat 32) : Nat) : Int) := by
   rw [Int.fdiv_eq_ediv_of_nonneg _ (by exact Int.le_of_lt (Int.pow_pos Jg))]; simp
  rw [e, BitVec.toNat_ushiftRight, Nat.shiftRight_eq_div_pow]
  rcases Nat.lt_or_ge b.toNat 32 with h | h
  ·rw [Nat.min_eq_left (by omega)]
  rw [Nat.min_eq_right h]
  have h1 := a.isLt
  have h2 : 2 ^ 32 ≤ 2 ^ b.toNat := Nat.pow_le_pow_right Jg h
  rw [Nat.div_eq_of_lt (by omega), Nat.div_eq_of_lt (by omega)])
theorem Qjf {a : BitVec 32} {t : TypeId} (hx : Qq fr x = u32 a) : Ko P fr w (.unOp .xor t x) ty (u32 (~~~a)) := by
 have e : ∀ c : BitVec 32, IntKind.u32.wrap (c.toNat : Int) = (c.toNat : Int) := fun c => Nl c.isLt
 have h1 := Po a
 have h2 : BitVec.ofInt 32 (IntKind.u32.max) = BitVec.allOnes 32 := by decide
 unfold Ko L6
 simp only [execOp, hx, u32, Op.unary]
 rw [show (if IntKind.u32.signed then (-1 : Int) else IntKind.u32.max) = IntKind.u32.max from rfl]
 unfold Op.intBits
 simp only [IntKind.bits] at *
 simp only [h1, h2, e, BitVec.allOnes_xor]; rfl
end
def u64 (x : BitVec 64) : Value := .int .u64 (x.toNat : Int)
theorem Qcu (m : Nat) : IntKind.u64.wrap (m : Int) = ((m % 18446744073709551616 : Nat) : Int) := by
 simp only [IntKind.wrap, IntKind.bits, IntKind.signed, Bool.false_and, Bool.false_eq_true, if_false]
 omega
theorem Qli (m : Int) : IntKind.u64.wrap m = ((BitVec.ofInt 64 m).toNat : Int) := by
 simp only [IntKind.wrap, IntKind.bits, IntKind.signed, Bool.false_and, Bool.false_eq_true, if_false, BitVec.toNat_ofInt]
 omega
theorem Qct {m : Nat} (h : m < 18446744073709551616) : IntKind.u64.wrap (m : Int) = (m : Int) := by
 rw [Qcu]; omega
section
variable {P : Program} {fr : Nat → Value} {w : World} {ty : TypeId} {x y : Operand}
theorem Qdn (a : BitVec 64) : BitVec.ofInt 64 (a.toNat : Int) = a := by
 apply BitVec.eq_of_toNat_eq; rw [BitVec.toNat_ofInt]; have := a.isLt; omega
theorem J6 {a b : BitVec 64} {t t' : TypeId} (hx : Qq fr x = u64 a) (hy : Qq fr y = u64 b) : Ko P fr w (.binOp .add t x y t') ty (u64 (a + b)) :=
 Gj rfl hx hy (by
  have e : ((a.toNat : Int) + (b.toNat : Int)) = ((a.toNat + b.toNat : Nat) : Int) := by simp
  simp only [Dc, Op.intArith, e, Qcu, u64, BitVec.toNat_add]; rfl)
theorem Ez {a b : BitVec 64} {t t' : TypeId} (hx : Qq fr x = u64 a) (hy : Qq fr y = u64 b) : Ko P fr w (.binOp .mul t x y t') ty (u64 (a * b)) :=
 Gj rfl hx hy (by
  have e : ((a.toNat : Int) * (b.toNat : Int)) = ((a.toNat * b.toNat : Nat) : Int) := by simp
  simp only [Dc, Op.intArith, e, Qcu, u64, BitVec.toNat_mul]; rfl)
theorem Lr {a b : BitVec 64} {t t' : TypeId} (hx : Qq fr x = u64 a) (hy : Qq fr y = u64 b) : Ko P fr w (.binOp .sub t x y t') ty (u64 (a - b)) :=
 Gj rfl hx hy (by
  have e : IntKind.u64.wrap ((a.toNat : Int) - (b.toNat : Int)) = (((a - b).toNat : Nat) : Int) := by
   have h1 := a.isLt; have h2 := b.isLt
   simp only [IntKind.wrap, IntKind.bits, IntKind.signed, Bool.false_and, Bool.false_eq_true, if_false, BitVec.toNat_sub]
   omega
  simp only [Dc, Op.intArith, e, u64]; rfl)
theorem Vw {a b : BitVec 64} {t t' : TypeId} (hx : Qq fr x = u64 a) (hy : Qq fr y = u64 b) : Ko P fr w (.binOp .and t x y t') ty (u64 (a &&& b)) :=
 Gj rfl hx hy (by
  have e : ∀ c : BitVec 64, IntKind.u64.wrap (c.toNat : Int) = (c.toNat : Int) := fun c => Qct c.isLt
  show (Op.intBits .and .u64 (a.toNat : Int) (b.toNat : Int)).run P w = _
  have h1 := Qdn a; have h2 := Qdn b
  unfold Op.intBits
  simp only [IntKind.bits] at *
  simp only [h1, h2, e, u64]; rfl)
theorem Qk8 {a b : BitVec 64} {t t' : TypeId} (hx : Qq fr x = u64 a) (hy : Qq fr y = u64 b) : Ko P fr w (.binOp .or t x y t') ty (u64 (a ||| b)) :=
 Gj rfl hx hy (by
  have e : ∀ c : BitVec 64, IntKind.u64.wrap (c.toNat : Int) = (c.toNat : Int) := fun c => Qct c.isLt
  show (Op.intBits .or .u64 (a.toNat : Int) (b.toNat : Int)).run P w = _
  have h1 := Qdn a; have h2 := Qdn b
  unfold Op.intBits
  simp only [IntKind.bits] at *
  simp only [h1, h2, e, u64]; rfl)
theorem Qo9 {a b : BitVec 64} {t t' : TypeId} (hx : Qq fr x = u64 a) (hy : Qq fr y = u64 b) : Ko P fr w (.binOp .gtr t x y t') ty (bl (decide (b.toNat < a.toNat))) :=
 Gj rfl hx hy (by simp [Dc, Op.intCmp, bl])
theorem Ey {a : BitVec 64} {ky : IntKind} {b : Int} {t t' : TypeId} (hx : Qq fr x = u64 a) (hy : Qq fr y = .int ky b) (hb : 0 ≤ b) : Ko P fr w (.binOp .shl t x y t') ty (u64 (a <<< b.toNat)) :=
 Ry (.inl rfl) hx hy hb (by
  simp only [if_true, u64, IntKind.bits]
  congr 1
  have e : ((a.toNat : Int) * 2 ^ (min b.toNat 64)) = ((a.toNat * 2 ^ (min b.toNat 64) : Nat) : Int) := by simp
  rw [e, Qcu, BitVec.toNat_shiftLeft, Nat.shiftLeft_eq]
  rcases Nat.lt_or_ge b.toNat 64 with h | h
  ·rw [Nat.min_eq_left (by omega)]
  rw [Nat.min_eq_right h]
  obtain ⟨c, hc⟩ := Nat.exists_eq_add_of_le h
  rw [hc, Nat.pow_add, ← Nat.mul_assoc, Nat.mul_assoc, Nat.mul_comm (2 ^ 64), ← Nat.mul_assoc]
  simp)
theorem Yf {a : BitVec 64} {ky : IntKind} {b : Int} {t t' : TypeId} (hx : Qq fr x = u64 a) (hy : Qq fr y = .int ky b) (hb : 0 ≤ b) : Ko P fr w (.binOp .shr t x y t') ty (u64 (a >>> b.toNat)) :=
 Ry (.inr rfl) hx hy hb (by
  simp only [u64, IntKind.bits]
  rw [if_neg Jg]
  congr 1
  have e : ((a.toNat : Int).fdiv (2 ^ (min b.toNat 64))) = ((a.toNat / 2 ^ (min b.toNat 64) : Nat) : Int) := by
   rw [Int.fdiv_eq_ediv_of_nonneg _ (by exact Int.le_of_lt (Int.pow_pos Jg))]; simp
  rw [e, BitVec.toNat_ushiftRight, Nat.shiftRight_eq_div_pow]
  rcases Nat.lt_or_ge b.toNat 64 with h | h
  ·rw [Nat.min_eq_left (by omega)]
  rw [Nat.min_eq_right h]
  have h1 := a.isLt
  have h2 : 2 ^ 64 ≤ 2 ^ b.toNat := Nat.pow_le_pow_right Jg h
  rw [Nat.div_eq_of_lt (by omega), Nat.div_eq_of_lt (by omega)])
end
section
variable {P : Program} {fr : Nat → Value} {w : World} {ty s t : TypeId} {x : Operand}
theorem Qa6 {k k' : IntKind} {n : Int} {v : Value} (hs : ∃ d, P.underlying s = some d) (ht : P.underlying t = some (.int k)) (hx : Qq fr x = .int k' n) (hv : v = .int k (k.wrap n)) : Ko P fr w (.convert s t x) ty v := by
 obtain ⟨d, hs⟩ := hs
 subst hv
 unfold Ko L6
 simp only [execOp, hx]
 simp [convert, underlying, hs, ht, Conv.intToInt]
theorem F5 {a : Int} (hs : ∃ d, P.underlying s = some d) (ht : P.underlying t = some (.int .u8)) (hx : Qq fr x = i64 a) : Ko P fr w (.convert s t x) ty (u8 (BitVec.ofInt 8 a)) :=
 Qa6 hs ht hx (by rw [Qmo]; rfl)
theorem Gy {a : BitVec 8} (hs : ∃ d, P.underlying s = some d) (ht : P.underlying t = some (.int .i64)) (hx : Qq fr x = u8 a) : Ko P fr w (.convert s t x) ty (i64 (a.toNat : Int)) :=
 Qa6 hs ht hx (by have := a.isLt; rw [Hy (by omega) (by omega)]; rfl)
theorem Wj {a : BitVec 8} (hs : ∃ d, P.underlying s = some d) (ht : P.underlying t = some (.int .u32)) (hx : Qq fr x = u8 a) : Ko P fr w (.convert s t x) ty (u32 (a.setWidth 32)) :=
 Qa6 hs ht hx (by rw [Qcv]; simp [u32, BitVec.toNat_setWidth])
theorem Qjh {a : BitVec 8} (hs : ∃ d, P.underlying s = some d) (ht : P.underlying t = some (.int .u64)) (hx : Qq fr x = u8 a) : Ko P fr w (.convert s t x) ty (u64 (a.setWidth 64)) :=
 Qa6 hs ht hx (by rw [Qcu]; simp [u64, BitVec.toNat_setWidth])
theorem Qhx {a : Int} (hs : ∃ d, P.underlying s = some d) (ht : P.underlying t = some (.int .u32)) (hx : Qq fr x = i64 a) : Ko P fr w (.convert s t x) ty (u32 (BitVec.ofInt 32 a)) :=
 Qa6 hs ht hx (by rw [Qlj]; rfl)
theorem Fz {a : BitVec 32} (hs : ∃ d, P.underlying s = some d) (ht : P.underlying t = some (.int .u8)) (hx : Qq fr x = u32 a) : Ko P fr w (.convert s t x) ty (u8 (a.setWidth 8)) :=
 Qa6 hs ht hx (by rw [Qdi]; simp [u8, BitVec.toNat_setWidth])
theorem Jp {a : Int} (hs : ∃ d, P.underlying s = some d) (ht : P.underlying t = some (.int .u64)) (hx : Qq fr x = i64 a) : Ko P fr w (.convert s t x) ty (u64 (BitVec.ofInt 64 a)) :=
 Qa6 hs ht hx (by rw [Qli]; rfl)
theorem Yc {a : BitVec 64} (hs : ∃ d, P.underlying s = some d) (ht : P.underlying t = some (.int .u8)) (hx : Qq fr x = u64 a) : Ko P fr w (.convert s t x) ty (u8 (a.setWidth 8)) :=
 Qa6 hs ht hx (by rw [Qdi]; simp [u8, BitVec.toNat_setWidth])
end
end Go.Proofs.YtkmiemlpfkfiiaaDoor
