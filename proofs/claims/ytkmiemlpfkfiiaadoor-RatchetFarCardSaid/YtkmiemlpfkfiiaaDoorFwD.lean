/- The framework, part D: values of numbers and booleans, and the operations on them. Conditions: none. -/
import Derived.Test.YtkmiemlpfkfiiaaDoorFwC
namespace Go.Proofs.YtkmiemlpfkfiiaaDoor
set_option linter.unusedSimpArgs false
def i64 (n : Int) : Value := .int .i64 n
def bl (b : Bool) : Value := .bool b
def ptr (b off : Nat) : Value := .pointer (some ⟨b, off, none⟩)
def Kq (b off len cap : Nat) : Value := .slice (some ⟨b, off, none⟩) len cap
def cl {α : Type} (f : α → Value) (l : List α) : Array Value := (l.map f).toArray
def agg {α : Type} (f : α → Value) (l : List α) : Value := .agg (cl f l)
theorem F6 {n : Int} (h0 : -9223372036854775808 ≤ n) (h1 : n < 9223372036854775808) : IntKind.i64.wrap n = n := by
 simp only [IntKind.wrap, IntKind.bits, IntKind.signed, Bool.true_and, decide_eq_true_eq, Nat.reduceSub, Int.reducePow, ge_iff_le]
 split <;> omega
def U1 (op : BinOp) (k : IntKind) (a b : Int) : Sem Value :=
 match op with | .add | .sub | .mul => Op.intArith op k a b | .quo | .rem => Op.intDiv op k a b | .and | .or | .xor | .andNot => Op.intBits op k a b | _ => Op.intCmp op a b
theorem Qoi {op : BinOp} (hop : (op == .shl || op == .shr) = false) (t : TypeId) (k : IntKind) (a b : Int) : binOp op t (.int k a) (.int k b) = U1 op k a b := by
 cases op <;> first | (cases hop; done) | simp [binOp, U1]
theorem Qc8 (P : Program) (w : World) (d : Nat) {t : TypeId} (hu : P.underlying t = some .bool) (a b : Bool) : (Op.equalIn (d + 1) t (.bool a) (.bool b)).run P w = .ok (a == b) w := by
 simp [Op.equalIn, underlying, hu]
section
variable {P : Program} {fr : Nat → Value} {w : World} {ty : TypeId} {x y : Operand}
theorem Ye {v : Value} (hx : Qg fr x = v) : Yt P fr w (.move x) ty v := by subst hx; rfl
theorem Gi {v : Value} (hx : Qg fr x = v) : Yt P fr w (.assign x) ty v := by subst hx; rfl
theorem Qmu {c : Operand} {b : Bool} {u v : Value} (hc : Qg fr c = bl b) (hx : Qg fr x = u) (hy : Qg fr y = v) : Yt P fr w (.pick c x y) ty (if b then u else v) := by
 subst hx hy
 unfold Yt Ew
 simp only [execOp, hc, bl, asBool]
 cases b <;> rfl
theorem Qhi {c : Operand} {u : Value} (hc : Qg fr c = bl true) (hx : Qg fr x = u) : Yt P fr w (.pick c x y) ty u := Qmu (v := _) hc hx rfl
theorem Qn8 {c : Operand} {v : Value} (hc : Qg fr c = bl false) (hy : Qg fr y = v) : Yt P fr w (.pick c x y) ty v := Qmu (u := Qg fr x) hc rfl hy
theorem Qac {b : Bool} {t : TypeId} (hx : Qg fr x = bl b) : Yt P fr w (.unOp .not t x) ty (bl (!b)) := by
 unfold Yt Ew; simp [execOp, hx, bl, Op.unary]
theorem Wh {op : BinOp} {k : IntKind} {a b : Int} {v : Value} {t t' : TypeId} (hop : (op == .shl || op == .shr) = false) (hx : Qg fr x = .int k a) (hy : Qg fr y = .int k b)
  (h : (U1 op k a b).run P w = .ok v w) : Yt P fr w (.binOp op t x y t') ty v := by
 have hg : eqGuard op t x y (.int k a) (.int k b) = pure () := by
  unfold eqGuard
  split <;> rfl
 unfold Yt Ew
 show Sem.run P (do let v ← (do eqGuard op t x y (Qg fr x) (Qg fr y); binOp op t (Qg fr x) (Qg fr y)); pure (Next.value v)) w = _
 rw [hx, hy, hg, Qoi hop]
 simp [h]
theorem Z9 {a b : Int} {t t' : TypeId} (hx : Qg fr x = i64 a) (hy : Qg fr y = i64 b) (h0 : -9223372036854775808 ≤ a + b) (h1 : a + b < 9223372036854775808) : Yt P fr w (.binOp .add t x y t') ty (i64 (a + b)) :=
 Wh rfl hx hy (by simp [U1, Op.intArith, F6 h0 h1, i64])
theorem Kw {a b : Int} {t t' : TypeId} (hx : Qg fr x = i64 a) (hy : Qg fr y = i64 b) (h0 : -9223372036854775808 ≤ a - b) (h1 : a - b < 9223372036854775808) : Yt P fr w (.binOp .sub t x y t') ty (i64 (a - b)) :=
 Wh rfl hx hy (by simp [U1, Op.intArith, F6 h0 h1, i64])
theorem Cj {a b : Int} {t t' : TypeId} (hx : Qg fr x = i64 a) (hy : Qg fr y = i64 b) (h0 : -9223372036854775808 ≤ a * b) (h1 : a * b < 9223372036854775808) : Yt P fr w (.binOp .mul t x y t') ty (i64 (a * b)) :=
 Wh rfl hx hy (by simp [U1, Op.intArith, F6 h0 h1, i64])
theorem Gw {a b : Int} {t t' : TypeId} (hx : Qg fr x = i64 a) (hy : Qg fr y = i64 b) (h0 : 0 ≤ a) (h1 : a < 9223372036854775808) (hb : 0 < b) : Yt P fr w (.binOp .quo t x y t') ty (i64 (a / b)) :=
 Wh rfl hx hy (by
  have hne : ¬ b = 0 := by omega
  have e : a.tdiv b = a / b := by rw [Int.tdiv_eq_ediv_of_nonneg h0]
  have h2 : 0 ≤ a / b := Int.ediv_nonneg h0 (by omega)
  have h3 : a / b ≤ a := Int.ediv_le_self _ h0
  simp [U1, Op.intDiv, hne, e, i64]; exact F6 (by omega) (by omega))
theorem J4 {a b : Int} {t t' : TypeId} (hx : Qg fr x = i64 a) (hy : Qg fr y = i64 b) (h0 : 0 ≤ a) (_h1 : a < 9223372036854775808) (hb : 0 < b) : Yt P fr w (.binOp .rem t x y t') ty (i64 (a % b)) :=
 Wh rfl hx hy (by
  have hne : ¬ b = 0 := by omega
  have e : a.tmod b = a % b := by rw [Int.tmod_eq_emod_of_nonneg h0]
  have h2 : 0 ≤ a / b := Int.ediv_nonneg h0 (by omega)
  have h3 : a / b ≤ a := Int.ediv_le_self _ h0
  simp [U1, Op.intDiv, hne, e, i64])
theorem J5 {a b : Int} {t t' : TypeId} (hx : Qg fr x = i64 a) (hy : Qg fr y = i64 b) : Yt P fr w (.binOp .eql t x y t') ty (bl (a == b)) :=
 Wh rfl hx hy (by simp [U1, Op.intCmp, bl])
theorem Je {a b : Int} {t t' : TypeId} (hx : Qg fr x = i64 a) (hy : Qg fr y = i64 b) : Yt P fr w (.binOp .neq t x y t') ty (bl (a != b)) :=
 Wh rfl hx hy (by simp [U1, Op.intCmp, bl])
theorem Xy {a b : Int} {t t' : TypeId} (hx : Qg fr x = i64 a) (hy : Qg fr y = i64 b) : Yt P fr w (.binOp .lss t x y t') ty (bl (decide (a < b))) :=
 Wh rfl hx hy (by simp [U1, Op.intCmp, bl])
theorem Qf1 {a b : Int} {t t' : TypeId} (hx : Qg fr x = i64 a) (hy : Qg fr y = i64 b) : Yt P fr w (.binOp .leq t x y t') ty (bl (decide (a ≤ b))) :=
 Wh rfl hx hy (by simp [U1, Op.intCmp, bl])
theorem Cm {a b : Int} {t t' : TypeId} (hx : Qg fr x = i64 a) (hy : Qg fr y = i64 b) : Yt P fr w (.binOp .gtr t x y t') ty (bl (decide (b < a))) :=
 Wh rfl hx hy (by simp [U1, Op.intCmp, bl])
theorem Eu {a b : Int} {t t' : TypeId} (hx : Qg fr x = i64 a) (hy : Qg fr y = i64 b) : Yt P fr w (.binOp .geq t x y t') ty (bl (decide (b ≤ a))) :=
 Wh rfl hx hy (by simp [U1, Op.intCmp, bl])
theorem Vd {a b : Int} {t t' : TypeId} (hx : Qg fr x = i64 a) (hy : Qg fr y = i64 b) (h0 : 0 ≤ b) (h1 : b < 9223372036854775808) : Yt P fr w (.binOp .and t x y t') ty (i64 (((BitVec.ofInt 64 a).toNat &&& b.toNat : Nat) : Int)) :=
 Wh rfl hx hy (by
  have hb : (BitVec.ofInt 64 b).toNat = b.toNat := by
   rw [BitVec.toNat_ofInt]; omega
  have hle : (BitVec.ofInt 64 a).toNat &&& b.toNat ≤ b.toNat := Nat.and_le_right
  have e : U1 .and .i64 a b = pure (.int .i64 (IntKind.i64.wrap ((BitVec.ofInt 64 a &&& BitVec.ofInt 64 b).toNat : Int))) := rfl
  rw [e, BitVec.toNat_and, hb, F6 (by omega) (by omega)]; rfl)
theorem Ae {op : BinOp} {k ky : IntKind} {a b : Int} {v : Value} {t t' : TypeId} (hop : op = .shl ∨ op = .shr) (hx : Qg fr x = .int k a) (hy : Qg fr y = .int ky b) (hb : 0 ≤ b)
  (h : v = .int k (if op = .shl then k.wrap (a * 2 ^ (min b.toNat k.bits)) else a.fdiv (2 ^ (min b.toNat k.bits)))) : Yt P fr w (.binOp op t x y t') ty v := by
 subst h
 have hn : ¬ b < 0 := by omega
 unfold Yt Ew
 rcases hop with rfl | rfl
 ·simp [execOp, hx, hy, eqGuard, binOp, Op.shift, hn]
 simp [execOp, hx, hy, eqGuard, binOp, Op.shift, hn]
theorem Qd9 {a b : Bool} {t t' : TypeId} (hu : P.underlying t = some .bool) (hx : Qg fr x = bl a) (hy : Qg fr y = bl b) : Yt P fr w (.binOp .neq t x y t') ty (bl (a != b)) := by
 unfold Yt Ew
 show Sem.run P (do let v ← (do eqGuard .neq t x y (Qg fr x) (Qg fr y); binOp .neq t (Qg fr x) (Qg fr y)); pure (Next.value v)) w = _
 rw [hx, hy]
 have hg : eqGuard .neq t x y (bl a) (bl b) = pure () := rfl
 have hb : binOp .neq t (bl a) (bl b) = (do pure (.bool (!(← Op.equalIn (9999 + 1) t (.bool a) (.bool b))))) := rfl
 rw [hg, hb]
 simp [Qc8 P w 9999 hu, bl, bne]
end
def u8 (x : BitVec 8) : Value := .int .u8 (x.toNat : Int)
theorem Qby (m : Nat) : IntKind.u8.wrap (m : Int) = ((m % 256 : Nat) : Int) := by
 simp only [IntKind.wrap, IntKind.bits, IntKind.signed, Bool.false_and, Bool.false_eq_true, if_false]
 omega
theorem Qjb (m : Int) : IntKind.u8.wrap m = ((BitVec.ofInt 8 m).toNat : Int) := by
 simp only [IntKind.wrap, IntKind.bits, IntKind.signed, Bool.false_and, Bool.false_eq_true, if_false, BitVec.toNat_ofInt]
 omega
theorem Bf {m : Nat} (h : m < 256) : IntKind.u8.wrap (m : Int) = (m : Int) := by
 rw [Qby]; omega
section
variable {P : Program} {fr : Nat → Value} {w : World} {ty : TypeId} {x y : Operand}
theorem Ad (a : BitVec 8) : BitVec.ofInt 8 (a.toNat : Int) = a := by
 apply BitVec.eq_of_toNat_eq; rw [BitVec.toNat_ofInt]; have := a.isLt; omega
theorem Qn6 {a b : BitVec 8} {t t' : TypeId} (hx : Qg fr x = u8 a) (hy : Qg fr y = u8 b) : Yt P fr w (.binOp .add t x y t') ty (u8 (a + b)) :=
 Wh rfl hx hy (by
  have e : ((a.toNat : Int) + (b.toNat : Int)) = ((a.toNat + b.toNat : Nat) : Int) := by simp
  simp only [U1, Op.intArith, e, Qby, u8, BitVec.toNat_add]; rfl)
theorem Qhg {a b : BitVec 8} {t t' : TypeId} (hx : Qg fr x = u8 a) (hy : Qg fr y = u8 b) : Yt P fr w (.binOp .and t x y t') ty (u8 (a &&& b)) :=
 Wh rfl hx hy (by
  have e : ∀ c : BitVec 8, IntKind.u8.wrap (c.toNat : Int) = (c.toNat : Int) := fun c => Bf c.isLt
  show (Op.intBits .and .u8 (a.toNat : Int) (b.toNat : Int)).run P w = _
  have h1 := Ad a; have h2 := Ad b
  unfold Op.intBits
  simp only [IntKind.bits] at *
  simp only [h1, h2, e, u8]; rfl)
theorem Qcs {a b : BitVec 8} {t t' : TypeId} (hx : Qg fr x = u8 a) (hy : Qg fr y = u8 b) : Yt P fr w (.binOp .or t x y t') ty (u8 (a ||| b)) :=
 Wh rfl hx hy (by
  have e : ∀ c : BitVec 8, IntKind.u8.wrap (c.toNat : Int) = (c.toNat : Int) := fun c => Bf c.isLt
  show (Op.intBits .or .u8 (a.toNat : Int) (b.toNat : Int)).run P w = _
  have h1 := Ad a; have h2 := Ad b
  unfold Op.intBits
  simp only [IntKind.bits] at *
  simp only [h1, h2, e, u8]; rfl)
theorem Qa0 {a b : BitVec 8} {t t' : TypeId} (hx : Qg fr x = u8 a) (hy : Qg fr y = u8 b) : Yt P fr w (.binOp .xor t x y t') ty (u8 (a ^^^ b)) :=
 Wh rfl hx hy (by
  have e : ∀ c : BitVec 8, IntKind.u8.wrap (c.toNat : Int) = (c.toNat : Int) := fun c => Bf c.isLt
  show (Op.intBits .xor .u8 (a.toNat : Int) (b.toNat : Int)).run P w = _
  have h1 := Ad a; have h2 := Ad b
  unfold Op.intBits
  simp only [IntKind.bits] at *
  simp only [h1, h2, e, u8]; rfl)
theorem Qct {a b : BitVec 8} {t t' : TypeId} (hx : Qg fr x = u8 a) (hy : Qg fr y = u8 b) : Yt P fr w (.binOp .andNot t x y t') ty (u8 (a &&& ~~~b)) :=
 Wh rfl hx hy (by
  have e : ∀ c : BitVec 8, IntKind.u8.wrap (c.toNat : Int) = (c.toNat : Int) := fun c => Bf c.isLt
  show (Op.intBits .andNot .u8 (a.toNat : Int) (b.toNat : Int)).run P w = _
  have h1 := Ad a; have h2 := Ad b
  unfold Op.intBits
  simp only [IntKind.bits] at *
  simp only [h1, h2, e, u8]; rfl)
theorem Qdk {a b : BitVec 8} {t t' : TypeId} (hx : Qg fr x = u8 a) (hy : Qg fr y = u8 b) : Yt P fr w (.binOp .eql t x y t') ty (bl (a == b)) :=
 Wh rfl hx hy (by
  have e : ((a.toNat : Int) == (b.toNat : Int)) = (a == b) := by
   rw [Bool.eq_iff_iff]; simp only [beq_iff_eq]
   exact ⟨fun h => BitVec.eq_of_toNat_eq (by omega), fun h => by rw [h]⟩
  simp [U1, Op.intCmp, bl, bne, e])
theorem Qn5 {a b : BitVec 8} {t t' : TypeId} (hx : Qg fr x = u8 a) (hy : Qg fr y = u8 b) : Yt P fr w (.binOp .neq t x y t') ty (bl (a != b)) :=
 Wh rfl hx hy (by
  have e : ((a.toNat : Int) == (b.toNat : Int)) = (a == b) := by
   rw [Bool.eq_iff_iff]; simp only [beq_iff_eq]
   exact ⟨fun h => BitVec.eq_of_toNat_eq (by omega), fun h => by rw [h]⟩
  simp [U1, Op.intCmp, bl, bne, e])
theorem Qhf {a : BitVec 8} {ky : IntKind} {b : Int} {t t' : TypeId} (hx : Qg fr x = u8 a) (hy : Qg fr y = .int ky b) (hb : 0 ≤ b) : Yt P fr w (.binOp .shl t x y t') ty (u8 (a <<< b.toNat)) :=
 Ae (.inl rfl) hx hy hb (by
  simp only [if_true, u8, IntKind.bits]
  congr 1
  have e : ((a.toNat : Int) * 2 ^ (min b.toNat 8)) = ((a.toNat * 2 ^ (min b.toNat 8) : Nat) : Int) := by simp
  rw [e, Qby, BitVec.toNat_shiftLeft, Nat.shiftLeft_eq]
  rcases Nat.lt_or_ge b.toNat 8 with h | h
  ·rw [Nat.min_eq_left (by omega)]
  rw [Nat.min_eq_right h]
  obtain ⟨c, hc⟩ := Nat.exists_eq_add_of_le h
  rw [hc, Nat.pow_add, ← Nat.mul_assoc, Nat.mul_assoc, Nat.mul_comm (2 ^ 8), ← Nat.mul_assoc]
  simp)
theorem Qhe {a : BitVec 8} {ky : IntKind} {b : Int} {t t' : TypeId} (hx : Qg fr x = u8 a) (hy : Qg fr y = .int ky b) (hb : 0 ≤ b) : Yt P fr w (.binOp .shr t x y t') ty (u8 (a >>> b.toNat)) :=
 Ae (.inr rfl) hx hy hb (by
  simp only [u8, IntKind.bits]
  rw [if_neg Yh]
  congr 1
  have e : ((a.toNat : Int).fdiv (2 ^ (min b.toNat 8))) = ((a.toNat / 2 ^ (min b.toNat 8) : Nat) : Int) := by
   rw [Int.fdiv_eq_ediv_of_nonneg _ (by exact Int.le_of_lt (Int.pow_pos Yh))]; simp
  rw [e, BitVec.toNat_ushiftRight, Nat.shiftRight_eq_div_pow]
  rcases Nat.lt_or_ge b.toNat 8 with h | h
  ·rw [Nat.min_eq_left (by omega)]
  rw [Nat.min_eq_right h]
  have h1 := a.isLt
  have h2 : 2 ^ 8 ≤ 2 ^ b.toNat := Nat.pow_le_pow_right Yh h
  rw [Nat.div_eq_of_lt (by omega), Nat.div_eq_of_lt (by omega)])
end
def u32 (x : BitVec 32) : Value := .int .u32 (x.toNat : Int)
theorem Qbz (m : Nat) : IntKind.u32.wrap (m : Int) = ((m % 4294967296 : Nat) : Int) := by
 simp only [IntKind.wrap, IntKind.bits, IntKind.signed, Bool.false_and, Bool.false_eq_true, if_false]
 omega
theorem Dk {m : Nat} (h : m < 4294967296) : IntKind.u32.wrap (m : Int) = (m : Int) := by
 rw [Qbz]; omega
section
variable {P : Program} {fr : Nat → Value} {w : World} {ty : TypeId} {x y : Operand}
theorem Ce (a : BitVec 32) : BitVec.ofInt 32 (a.toNat : Int) = a := by
 apply BitVec.eq_of_toNat_eq; rw [BitVec.toNat_ofInt]; have := a.isLt; omega
theorem Yr {a b : BitVec 32} {t t' : TypeId} (hx : Qg fr x = u32 a) (hy : Qg fr y = u32 b) : Yt P fr w (.binOp .add t x y t') ty (u32 (a + b)) :=
 Wh rfl hx hy (by
  have e : ((a.toNat : Int) + (b.toNat : Int)) = ((a.toNat + b.toNat : Nat) : Int) := by simp
  simp only [U1, Op.intArith, e, Qbz, u32, BitVec.toNat_add]; rfl)
theorem Lr {a b : BitVec 32} {t t' : TypeId} (hx : Qg fr x = u32 a) (hy : Qg fr y = u32 b) : Yt P fr w (.binOp .and t x y t') ty (u32 (a &&& b)) :=
 Wh rfl hx hy (by
  have e : ∀ c : BitVec 32, IntKind.u32.wrap (c.toNat : Int) = (c.toNat : Int) := fun c => Dk c.isLt
  show (Op.intBits .and .u32 (a.toNat : Int) (b.toNat : Int)).run P w = _
  have h1 := Ce a; have h2 := Ce b
  unfold Op.intBits
  simp only [IntKind.bits] at *
  simp only [h1, h2, e, u32]; rfl)
theorem Fh {a b : BitVec 32} {t t' : TypeId} (hx : Qg fr x = u32 a) (hy : Qg fr y = u32 b) : Yt P fr w (.binOp .or t x y t') ty (u32 (a ||| b)) :=
 Wh rfl hx hy (by
  have e : ∀ c : BitVec 32, IntKind.u32.wrap (c.toNat : Int) = (c.toNat : Int) := fun c => Dk c.isLt
  show (Op.intBits .or .u32 (a.toNat : Int) (b.toNat : Int)).run P w = _
  have h1 := Ce a; have h2 := Ce b
  unfold Op.intBits
  simp only [IntKind.bits] at *
  simp only [h1, h2, e, u32]; rfl)
theorem Kv {a b : BitVec 32} {t t' : TypeId} (hx : Qg fr x = u32 a) (hy : Qg fr y = u32 b) : Yt P fr w (.binOp .xor t x y t') ty (u32 (a ^^^ b)) :=
 Wh rfl hx hy (by
  have e : ∀ c : BitVec 32, IntKind.u32.wrap (c.toNat : Int) = (c.toNat : Int) := fun c => Dk c.isLt
  show (Op.intBits .xor .u32 (a.toNat : Int) (b.toNat : Int)).run P w = _
  have h1 := Ce a; have h2 := Ce b
  unfold Op.intBits
  simp only [IntKind.bits] at *
  simp only [h1, h2, e, u32]; rfl)
theorem Um {a : BitVec 32} {ky : IntKind} {b : Int} {t t' : TypeId} (hx : Qg fr x = u32 a) (hy : Qg fr y = .int ky b) (hb : 0 ≤ b) : Yt P fr w (.binOp .shl t x y t') ty (u32 (a <<< b.toNat)) :=
 Ae (.inl rfl) hx hy hb (by
  simp only [if_true, u32, IntKind.bits]
  congr 1
  have e : ((a.toNat : Int) * 2 ^ (min b.toNat 32)) = ((a.toNat * 2 ^ (min b.toNat 32) : Nat) : Int) := by simp
  rw [e, Qbz, BitVec.toNat_shiftLeft, Nat.shiftLeft_eq]
  rcases Nat.lt_or_ge b.toNat 32 with h | h
  ·rw [Nat.min_eq_left (by omega)]
  rw [Nat.min_eq_right h]
  obtain ⟨c, hc⟩ := Nat.exists_eq_add_of_le h
  rw [hc, Nat.pow_add, ← Nat.mul_assoc, Nat.mul_assoc, Nat.mul_comm (2 ^ 32), ← Nat.mul_assoc]
  simp)
theorem Lp {a : BitVec 32} {ky : IntKind} {b : Int} {t t' : TypeId} (hx : Qg fr x = u32 a) (hy : Qg fr y = .int ky b) (hb : 0 ≤ b) : Yt P fr w (.binOp .shr t x y t') ty (u32 (a >>> b.toNat)) :=
 Ae (.inr rfl) hx hy hb (by
  simp only [u32, IntKind.bits]
  rw [if_neg Yh]
  congr 1
  have e : ((a.toNat : Int).fdiv (2 ^ (min b.toNat 32))) = ((a.toNat / 2 ^ (min b.toNat 32) : Nat) : Int) := by
   rw [Int.fdiv_eq_ediv_of_nonneg _ (by exact Int.le_of_lt (Int.pow_pos Yh))]; simp
  rw [e, BitVec.toNat_ushiftRight, Nat.shiftRight_eq_div_pow]
  rcases Nat.lt_or_ge b.toNat 32 with h | h
  ·rw [Nat.min_eq_left (by omega)]
  rw [Nat.min_eq_right h]
  have h1 := a.isLt
  have h2 : 2 ^ 32 ≤ 2 ^ b.toNat := Nat.pow_le_pow_right Yh h
  rw [Nat.div_eq_of_lt (by omega), Nat.div_eq_of_lt (by omega)])
theorem Qll {a : BitVec 32} {t : TypeId} (hx : Qg fr x = u32 a) : Yt P fr w (.unOp .xor t x) ty (u32 (~~~a)) := by
 have e : ∀ c : BitVec 32, IntKind.u32.wrap (c.toNat : Int) = (c.toNat : Int) := fun c => Dk c.isLt
 have h1 := Ce a
 have h2 : BitVec.ofInt 32 (IntKind.u32.max) = BitVec.allOnes 32 := by decide
 unfold Yt Ew
 simp only [execOp, hx, u32, Op.unary]
 rw [show (if IntKind.u32.signed then (-1 : Int) else IntKind.u32.max) = IntKind.u32.max from rfl]
 unfold Op.intBits
 simp only [IntKind.bits] at *
 simp only [h1, h2, e, BitVec.allOnes_xor]; rfl
end
def u64 (x : BitVec 64) : Value := .int .u64 (x.toNat : Int)
theorem S9 (m : Nat) : IntKind.u64.wrap (m : Int) = ((m % 18446744073709551616 : Nat) : Int) := by
 simp only [IntKind.wrap, IntKind.bits, IntKind.signed, Bool.false_and, Bool.false_eq_true, if_false]
 omega
theorem Qhs (m : Int) : IntKind.u64.wrap m = ((BitVec.ofInt 64 m).toNat : Int) := by
 simp only [IntKind.wrap, IntKind.bits, IntKind.signed, Bool.false_and, Bool.false_eq_true, if_false, BitVec.toNat_ofInt]
 omega
theorem Sz {m : Nat} (h : m < 18446744073709551616) : IntKind.u64.wrap (m : Int) = (m : Int) := by
 rw [S9]; omega
section
variable {P : Program} {fr : Nat → Value} {w : World} {ty : TypeId} {x y : Operand}
theorem Qau (a : BitVec 64) : BitVec.ofInt 64 (a.toNat : Int) = a := by
 apply BitVec.eq_of_toNat_eq; rw [BitVec.toNat_ofInt]; have := a.isLt; omega
theorem X7 {a b : BitVec 64} {t t' : TypeId} (hx : Qg fr x = u64 a) (hy : Qg fr y = u64 b) : Yt P fr w (.binOp .add t x y t') ty (u64 (a + b)) :=
 Wh rfl hx hy (by
  have e : ((a.toNat : Int) + (b.toNat : Int)) = ((a.toNat + b.toNat : Nat) : Int) := by simp
  simp only [U1, Op.intArith, e, S9, u64, BitVec.toNat_add]; rfl)
theorem Ul {a b : BitVec 64} {t t' : TypeId} (hx : Qg fr x = u64 a) (hy : Qg fr y = u64 b) : Yt P fr w (.binOp .mul t x y t') ty (u64 (a * b)) :=
 Wh rfl hx hy (by
  have e : ((a.toNat : Int) * (b.toNat : Int)) = ((a.toNat * b.toNat : Nat) : Int) := by simp
  simp only [U1, Op.intArith, e, S9, u64, BitVec.toNat_mul]; rfl)
theorem Et {a b : BitVec 64} {t t' : TypeId} (hx : Qg fr x = u64 a) (hy : Qg fr y = u64 b) : Yt P fr w (.binOp .sub t x y t') ty (u64 (a - b)) :=
 Wh rfl hx hy (by
  have e : IntKind.u64.wrap ((a.toNat : Int) - (b.toNat : Int)) = (((a - b).toNat : Nat) : Int) := by
   have h1 := a.isLt; have h2 := b.isLt
   simp only [IntKind.wrap, IntKind.bits, IntKind.signed, Bool.false_and, Bool.false_eq_true, if_false, BitVec.toNat_sub]
   omega
  simp only [U1, Op.intArith, e, u64]; rfl)
theorem Jk {a b : BitVec 64} {t t' : TypeId} (hx : Qg fr x = u64 a) (hy : Qg fr y = u64 b) : Yt P fr w (.binOp .and t x y t') ty (u64 (a &&& b)) :=
 Wh rfl hx hy (by
  have e : ∀ c : BitVec 64, IntKind.u64.wrap (c.toNat : Int) = (c.toNat : Int) := fun c => Sz c.isLt
  show (Op.intBits .and .u64 (a.toNat : Int) (b.toNat : Int)).run P w = _
  have h1 := Qau a; have h2 := Qau b
  unfold Op.intBits
  simp only [IntKind.bits] at *
  simp only [h1, h2, e, u64]; rfl)
theorem Qhh {a b : BitVec 64} {t t' : TypeId} (hx : Qg fr x = u64 a) (hy : Qg fr y = u64 b) : Yt P fr w (.binOp .or t x y t') ty (u64 (a ||| b)) :=
 Wh rfl hx hy (by
  have e : ∀ c : BitVec 64, IntKind.u64.wrap (c.toNat : Int) = (c.toNat : Int) := fun c => Sz c.isLt
  show (Op.intBits .or .u64 (a.toNat : Int) (b.toNat : Int)).run P w = _
  have h1 := Qau a; have h2 := Qau b
  unfold Op.intBits
  simp only [IntKind.bits] at *
  simp only [h1, h2, e, u64]; rfl)
theorem Qlk {a b : BitVec 64} {t t' : TypeId} (hx : Qg fr x = u64 a) (hy : Qg fr y = u64 b) : Yt P fr w (.binOp .gtr t x y t') ty (bl (decide (b.toNat < a.toNat))) :=
 Wh rfl hx hy (by simp [U1, Op.intCmp, bl])
theorem Gv {a : BitVec 64} {ky : IntKind} {b : Int} {t t' : TypeId} (hx : Qg fr x = u64 a) (hy : Qg fr y = .int ky b) (hb : 0 ≤ b) : Yt P fr w (.binOp .shl t x y t') ty (u64 (a <<< b.toNat)) :=
 Ae (.inl rfl) hx hy hb (by
  simp only [if_true, u64, IntKind.bits]
  congr 1
  have e : ((a.toNat : Int) * 2 ^ (min b.toNat 64)) = ((a.toNat * 2 ^ (min b.toNat 64) : Nat) : Int) := by simp
  rw [e, S9, BitVec.toNat_shiftLeft, Nat.shiftLeft_eq]
  rcases Nat.lt_or_ge b.toNat 64 with h | h
  ·rw [Nat.min_eq_left (by omega)]
  rw [Nat.min_eq_right h]
  obtain ⟨c, hc⟩ := Nat.exists_eq_add_of_le h
  rw [hc, Nat.pow_add, ← Nat.mul_assoc, Nat.mul_assoc, Nat.mul_comm (2 ^ 64), ← Nat.mul_assoc]
  simp)
theorem Xn {a : BitVec 64} {ky : IntKind} {b : Int} {t t' : TypeId} (hx : Qg fr x = u64 a) (hy : Qg fr y = .int ky b) (hb : 0 ≤ b) : Yt P fr w (.binOp .shr t x y t') ty (u64 (a >>> b.toNat)) :=
 Ae (.inr rfl) hx hy hb (by
  simp only [u64, IntKind.bits]
  rw [if_neg Yh]
  congr 1
  have e : ((a.toNat : Int).fdiv (2 ^ (min b.toNat 64))) = ((a.toNat / 2 ^ (min b.toNat 64) : Nat) : Int) := by
   rw [Int.fdiv_eq_ediv_of_nonneg _ (by exact Int.le_of_lt (Int.pow_pos Yh))]; simp
  rw [e, BitVec.toNat_ushiftRight, Nat.shiftRight_eq_div_pow]
  rcases Nat.lt_or_ge b.toNat 64 with h | h
  ·rw [Nat.min_eq_left (by omega)]
  rw [Nat.min_eq_right h]
  have h1 := a.isLt
  have h2 : 2 ^ 64 ≤ 2 ^ b.toNat := Nat.pow_le_pow_right Yh h
  rw [Nat.div_eq_of_lt (by omega), Nat.div_eq_of_lt (by omega)])
end
section
variable {P : Program} {fr : Nat → Value} {w : World} {ty s t : TypeId} {x : Operand}
theorem Rk {k k' : IntKind} {n : Int} {v : Value} (hs : ∃ d, P.underlying s = some d) (ht : P.underlying t = some (.int k)) (hx : Qg fr x = .int k' n) (hv : v = .int k (k.wrap n)) : Yt P fr w (.convert s t x) ty v := by
 obtain ⟨d, hs⟩ := hs
 subst hv
 unfold Yt Ew
 simp only [execOp, hx]
 simp [convert, underlying, hs, ht, Conv.intToInt]
theorem V8 {a : Int} (hs : ∃ d, P.underlying s = some d) (ht : P.underlying t = some (.int .u8)) (hx : Qg fr x = i64 a) : Yt P fr w (.convert s t x) ty (u8 (BitVec.ofInt 8 a)) :=
 Rk hs ht hx (by rw [Qjb]; rfl)
theorem Du {a : BitVec 8} (hs : ∃ d, P.underlying s = some d) (ht : P.underlying t = some (.int .i64)) (hx : Qg fr x = u8 a) : Yt P fr w (.convert s t x) ty (i64 (a.toNat : Int)) :=
 Rk hs ht hx (by have := a.isLt; rw [F6 (by omega) (by omega)]; rfl)
theorem Vk {a : BitVec 8} (hs : ∃ d, P.underlying s = some d) (ht : P.underlying t = some (.int .u32)) (hx : Qg fr x = u8 a) : Yt P fr w (.convert s t x) ty (u32 (a.setWidth 32)) :=
 Rk hs ht hx (by rw [Qbz]; simp [u32, BitVec.toNat_setWidth])
theorem Qf2 {a : BitVec 8} (hs : ∃ d, P.underlying s = some d) (ht : P.underlying t = some (.int .u64)) (hx : Qg fr x = u8 a) : Yt P fr w (.convert s t x) ty (u64 (a.setWidth 64)) :=
 Rk hs ht hx (by rw [S9]; simp [u64, BitVec.toNat_setWidth])
theorem Qag {a : BitVec 32} (hs : ∃ d, P.underlying s = some d) (ht : P.underlying t = some (.int .u8)) (hx : Qg fr x = u32 a) : Yt P fr w (.convert s t x) ty (u8 (a.setWidth 8)) :=
 Rk hs ht hx (by rw [Qby]; simp [u8, BitVec.toNat_setWidth])
theorem Jv {a : Int} (hs : ∃ d, P.underlying s = some d) (ht : P.underlying t = some (.int .u64)) (hx : Qg fr x = i64 a) : Yt P fr w (.convert s t x) ty (u64 (BitVec.ofInt 64 a)) :=
 Rk hs ht hx (by rw [Qhs]; rfl)
theorem Yd {a : BitVec 64} (hs : ∃ d, P.underlying s = some d) (ht : P.underlying t = some (.int .u8)) (hx : Qg fr x = u64 a) : Yt P fr w (.convert s t x) ty (u8 (a.setWidth 8)) :=
 Rk hs ht hx (by rw [Qby]; simp [u8, BitVec.toNat_setWidth])
end
end Go.Proofs.YtkmiemlpfkfiiaaDoor
