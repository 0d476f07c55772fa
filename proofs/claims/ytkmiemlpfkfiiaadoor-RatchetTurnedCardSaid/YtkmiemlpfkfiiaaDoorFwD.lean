/- The framework, part D: values of numbers and booleans, and the operations on them. Conditions: none. -/
import Derived.Test.YtkmiemlpfkfiiaaDoorFwC
namespace Go.Proofs.YtkmiemlpfkfiiaaDoor
open BitVec renaming eq_of_toNat_eq → dG, ofInt → aB, toNat_add → eP, toNat_mul → eQ, toNat_ofInt → bU, toNat_ushiftRight → eY
open Bool renaming false_and → dY, false_eq_true → bW
open IntKind renaming bits → aj, signed → dM, wrap → dV
open Nat renaming div_eq_of_lt → eG, lt_or_ge → ay, min_eq_right → eF, mul_assoc → bZ, mul_comm → df
set_option linter.unusedSimpArgs false
def i64 (n : Int) : Value := .int .i64 n
def bl (b : Bool) : Value := .bool b
def ptr (b off : Nat) : Value := .pointer (some ⟨b, off, none⟩)
def Wi (b off len cap : Nat) : Value := .slice (some ⟨b, off, none⟩) len cap
def cl {α : Type} (f : α → Value) (l : List α) : Array Value := (l.map f).toArray
def agg {α : Type} (f : α → Value) (l : List α) : Value := .agg (cl f l)
theorem Hw {n : Int} (h0 : -9223372036854775808 ≤ n) (h1 : n < 9223372036854775808) : IntKind.i64.wrap n = n := by
 simp only [dV, aj, dM, Bool.true_and, decide_eq_true_eq, Nat.reduceSub, Int.reducePow, ge_iff_le]
 split <;> omega
def E8 (op : BinOp) (k : IntKind) (a b : Int) : Sem Value :=
 match op with | .add | .sub | .mul => Op.intArith op k a b | .quo | .rem => Op.intDiv op k a b | .and | .or | .xor | .andNot => Op.intBits op k a b | _ => Op.intCmp op a b
theorem Quy {op : BinOp} (hop : (op == .shl || op == .shr) = false) (t : TypeId) (k : IntKind) (a b : Int) : binOp op t (.int k a) (.int k b) = E8 op k a b := by
 cases op <;> first | (cases hop; done) | simp [binOp, E8]
theorem Qg8 (P : Program) (w : World) (d : Nat) {t : TypeId} (hu : P.underlying t = some .bool) (a b : Bool) : (Op.equalIn (d + 1) t (.bool a) (.bool b)).run P w = .ok (a == b) w := by
 simp [Op.equalIn, underlying, hu]
section
variable {P : Program} {fr : Nat → Value} {w : World} {ty : TypeId} {x y : Operand}
theorem Jb {v : Value} (hx : Ql fr x = v) : Jv P fr w (.move x) ty v := by subst hx; rfl
theorem Un {v : Value} (hx : Ql fr x = v) : Jv P fr w (.assign x) ty v := by subst hx; rfl
theorem Qso {c : Operand} {b : Bool} {u v : Value} (hc : Ql fr c = bl b) (hx : Ql fr x = u) (hy : Ql fr y = v) : Jv P fr w (.pick c x y) ty (if b then u else v) := by
 subst hx hy
 unfold Jv Lp
 simp only [execOp, hc, bl, asBool]
 cases b <;> rfl
theorem Qui {c : Operand} {u : Value} (hc : Ql fr c = bl true) (hx : Ql fr x = u) : Jv P fr w (.pick c x y) ty u := Qso (v := _) hc hx rfl
theorem Ql6 {c : Operand} {v : Value} (hc : Ql fr c = bl false) (hy : Ql fr y = v) : Jv P fr w (.pick c x y) ty v := Qso (u := Ql fr x) hc rfl hy
theorem Ag {b : Bool} {t : TypeId} (hx : Ql fr x = bl b) : Jv P fr w (.unOp .not t x) ty (bl (!b)) := by
 unfold Jv Lp; simp [execOp, hx, bl, Op.unary]
theorem V7 {op : BinOp} {k : IntKind} {a b : Int} {v : Value} {t t' : TypeId} (hop : (op == .shl || op == .shr) = false) (hx : Ql fr x = .int k a) (hy : Ql fr y = .int k b)
  (h : (E8 op k a b).run P w = .ok v w) : Jv P fr w (.binOp op t x y t') ty v := by
 have hg : eqGuard op t x y (.int k a) (.int k b) = pure () := by
  unfold eqGuard
  split <;> rfl
 unfold Jv Lp
 show Sem.run P (do let v ← (do eqGuard op t x y (Ql fr x) (Ql fr y); binOp op t (Ql fr x) (Ql fr y)); pure (Next.value v)) w = _
 rw [hx, hy, hg, Quy hop]
 simp [h]
theorem Zg {a b : Int} {t t' : TypeId} (hx : Ql fr x = i64 a) (hy : Ql fr y = i64 b) (h0 : -9223372036854775808 ≤ a + b) (h1 : a + b < 9223372036854775808) : Jv P fr w (.binOp .add t x y t') ty (i64 (a + b)) :=
 V7 rfl hx hy (by simp [E8, Op.intArith, Hw h0 h1, i64])
theorem Yg {a b : Int} {t t' : TypeId} (hx : Ql fr x = i64 a) (hy : Ql fr y = i64 b) (h0 : -9223372036854775808 ≤ a - b) (h1 : a - b < 9223372036854775808) : Jv P fr w (.binOp .sub t x y t') ty (i64 (a - b)) :=
 V7 rfl hx hy (by simp [E8, Op.intArith, Hw h0 h1, i64])
theorem Ku {a b : Int} {t t' : TypeId} (hx : Ql fr x = i64 a) (hy : Ql fr y = i64 b) (h0 : -9223372036854775808 ≤ a * b) (h1 : a * b < 9223372036854775808) : Jv P fr w (.binOp .mul t x y t') ty (i64 (a * b)) :=
 V7 rfl hx hy (by simp [E8, Op.intArith, Hw h0 h1, i64])
theorem Um {a b : Int} {t t' : TypeId} (hx : Ql fr x = i64 a) (hy : Ql fr y = i64 b) (h0 : 0 ≤ a) (h1 : a < 9223372036854775808) (hb : 0 < b) : Jv P fr w (.binOp .quo t x y t') ty (i64 (a / b)) :=
 V7 rfl hx hy (by
  have hne : ¬ b = 0 := by omega
  have e : a.tdiv b = a / b := by rw [Int.tdiv_eq_ediv_of_nonneg h0]
  have h2 : 0 ≤ a / b := Int.ediv_nonneg h0 (by omega)
  have h3 : a / b ≤ a := Int.ediv_le_self _ h0
  simp [E8, Op.intDiv, hne, e, i64]; exact Hw (by omega) (by omega))
theorem Wp {a b : Int} {t t' : TypeId} (hx : Ql fr x = i64 a) (hy : Ql fr y = i64 b) (h0 : 0 ≤ a) (_h1 : a < 9223372036854775808) (hb : 0 < b) : Jv P fr w (.binOp .rem t x y t') ty (i64 (a % b)) :=
 V7 rfl hx hy (by
  have hne : ¬ b = 0 := by omega
  have e : a.tmod b = a % b := by rw [Int.tmod_eq_emod_of_nonneg h0]
  have h2 : 0 ≤ a / b := Int.ediv_nonneg h0 (by omega)
  have h3 : a / b ≤ a := Int.ediv_le_self _ h0
  simp [E8, Op.intDiv, hne, e, i64])
theorem G8 {a b : Int} {t t' : TypeId} (hx : Ql fr x = i64 a) (hy : Ql fr y = i64 b) : Jv P fr w (.binOp .eql t x y t') ty (bl (a == b)) :=
 V7 rfl hx hy (by simp [E8, Op.intCmp, bl])
theorem Kz {a b : Int} {t t' : TypeId} (hx : Ql fr x = i64 a) (hy : Ql fr y = i64 b) : Jv P fr w (.binOp .neq t x y t') ty (bl (a != b)) :=
 V7 rfl hx hy (by simp [E8, Op.intCmp, bl])
theorem Xd {a b : Int} {t t' : TypeId} (hx : Ql fr x = i64 a) (hy : Ql fr y = i64 b) : Jv P fr w (.binOp .lss t x y t') ty (bl (decide (a < b))) :=
 V7 rfl hx hy (by simp [E8, Op.intCmp, bl])
theorem Qq5 {a b : Int} {t t' : TypeId} (hx : Ql fr x = i64 a) (hy : Ql fr y = i64 b) : Jv P fr w (.binOp .leq t x y t') ty (bl (decide (a ≤ b))) :=
 V7 rfl hx hy (by simp [E8, Op.intCmp, bl])
theorem G7 {a b : Int} {t t' : TypeId} (hx : Ql fr x = i64 a) (hy : Ql fr y = i64 b) : Jv P fr w (.binOp .gtr t x y t') ty (bl (decide (b < a))) :=
 V7 rfl hx hy (by simp [E8, Op.intCmp, bl])
theorem Ey {a b : Int} {t t' : TypeId} (hx : Ql fr x = i64 a) (hy : Ql fr y = i64 b) : Jv P fr w (.binOp .geq t x y t') ty (bl (decide (b ≤ a))) :=
 V7 rfl hx hy (by simp [E8, Op.intCmp, bl])
theorem Vy {a b : Int} {t t' : TypeId} (hx : Ql fr x = i64 a) (hy : Ql fr y = i64 b) (h0 : 0 ≤ b) (h1 : b < 9223372036854775808) : Jv P fr w (.binOp .and t x y t') ty (i64 (((aB 64 a).toNat &&& b.toNat : Nat) : Int)) :=
 V7 rfl hx hy (by
  have hb : (aB 64 b).toNat = b.toNat := by
   rw [bU]; omega
  have hle : (aB 64 a).toNat &&& b.toNat ≤ b.toNat := Nat.and_le_right
  have e : E8 .and .i64 a b = pure (.int .i64 (IntKind.i64.wrap ((aB 64 a &&& aB 64 b).toNat : Int))) := rfl
  rw [e, BitVec.toNat_and, hb, Hw (by omega) (by omega)]; rfl)
theorem Rw {op : BinOp} {k ky : IntKind} {a b : Int} {v : Value} {t t' : TypeId} (hop : op = .shl ∨ op = .shr) (hx : Ql fr x = .int k a) (hy : Ql fr y = .int ky b) (hb : 0 ≤ b)
  (h : v = .int k (if op = .shl then k.wrap (a * 2 ^ (min b.toNat k.bits)) else a.fdiv (2 ^ (min b.toNat k.bits)))) : Jv P fr w (.binOp op t x y t') ty v := by
 subst h
 have hn : ¬ b < 0 := by omega
 unfold Jv Lp
 rcases hop with rfl | rfl
 ·simp [execOp, hx, hy, eqGuard, binOp, Op.shift, hn]
 simp [execOp, hx, hy, eqGuard, binOp, Op.shift, hn]
theorem Qig {a b : Bool} {t t' : TypeId} (hu : P.underlying t = some .bool) (hx : Ql fr x = bl a) (hy : Ql fr y = bl b) : Jv P fr w (.binOp .neq t x y t') ty (bl (a != b)) := by
 unfold Jv Lp
 show Sem.run P (do let v ← (do eqGuard .neq t x y (Ql fr x) (Ql fr y); binOp .neq t (Ql fr x) (Ql fr y)); pure (Next.value v)) w = _
 rw [hx, hy]
 have hg : eqGuard .neq t x y (bl a) (bl b) = pure () := rfl
 have hb : binOp .neq t (bl a) (bl b) = (do pure (.bool (!(← Op.equalIn (9999 + 1) t (.bool a) (.bool b))))) := rfl
 rw [hg, hb]
 simp [Qg8 P w 9999 hu, bl, bne]
end
def u8 (x : BitVec 8) : Value := .int .u8 (x.toNat : Int)
theorem Qdu (m : Nat) : IntKind.u8.wrap (m : Int) = ((m % 256 : Nat) : Int) := by
 simp only [dV, aj, dM, dY, bW, if_false]
 omega
theorem Qnz (m : Int) : IntKind.u8.wrap m = ((aB 8 m).toNat : Int) := by
 simp only [dV, aj, dM, dY, bW, if_false, bU]
 omega
theorem Hu {m : Nat} (h : m < 256) : IntKind.u8.wrap (m : Int) = (m : Int) := by
 rw [Qdu]; omega
section
variable {P : Program} {fr : Nat → Value} {w : World} {ty : TypeId} {x y : Operand}
theorem Rt (a : BitVec 8) : aB 8 (a.toNat : Int) = a := by
 apply dG; rw [bU]; have := a.isLt; omega
theorem Ql4 {a b : BitVec 8} {t t' : TypeId} (hx : Ql fr x = u8 a) (hy : Ql fr y = u8 b) : Jv P fr w (.binOp .add t x y t') ty (u8 (a + b)) :=
 V7 rfl hx hy (by
  have e : ((a.toNat : Int) + (b.toNat : Int)) = ((a.toNat + b.toNat : Nat) : Int) := by simp
  simp only [E8, Op.intArith, e, Qdu, u8, eP]; rfl)
theorem Qug {a b : BitVec 8} {t t' : TypeId} (hx : Ql fr x = u8 a) (hy : Ql fr y = u8 b) : Jv P fr w (.binOp .mul t x y t') ty (u8 (a * b)) :=
 V7 rfl hx hy (by
  have e : ((a.toNat : Int) * (b.toNat : Int)) = ((a.toNat * b.toNat : Nat) : Int) := by simp
  simp only [E8, Op.intArith, e, Qdu, u8, eQ]; rfl)
theorem Qhj {a b : BitVec 8} {t t' : TypeId} (hx : Ql fr x = u8 a) (hy : Ql fr y = u8 b) : Jv P fr w (.binOp .and t x y t') ty (u8 (a &&& b)) :=
 V7 rfl hx hy (by
  have e : ∀ c : BitVec 8, IntKind.u8.wrap (c.toNat : Int) = (c.toNat : Int) := fun c => Hu c.isLt
  show (Op.intBits .and .u8 (a.toNat : Int) (b.toNat : Int)).run P w = _
  have h1 := Rt a; have h2 := Rt b
  unfold Op.intBits
  simp only [aj] at *
  simp only [h1, h2, e, u8]; rfl)
theorem Qgj {a b : BitVec 8} {t t' : TypeId} (hx : Ql fr x = u8 a) (hy : Ql fr y = u8 b) : Jv P fr w (.binOp .or t x y t') ty (u8 (a ||| b)) :=
 V7 rfl hx hy (by
  have e : ∀ c : BitVec 8, IntKind.u8.wrap (c.toNat : Int) = (c.toNat : Int) := fun c => Hu c.isLt
  show (Op.intBits .or .u8 (a.toNat : Int) (b.toNat : Int)).run P w = _
  have h1 := Rt a; have h2 := Rt b
  unfold Op.intBits
  simp only [aj] at *
  simp only [h1, h2, e, u8]; rfl)
theorem Nb {a b : BitVec 8} {t t' : TypeId} (hx : Ql fr x = u8 a) (hy : Ql fr y = u8 b) : Jv P fr w (.binOp .xor t x y t') ty (u8 (a ^^^ b)) :=
 V7 rfl hx hy (by
  have e : ∀ c : BitVec 8, IntKind.u8.wrap (c.toNat : Int) = (c.toNat : Int) := fun c => Hu c.isLt
  show (Op.intBits .xor .u8 (a.toNat : Int) (b.toNat : Int)).run P w = _
  have h1 := Rt a; have h2 := Rt b
  unfold Op.intBits
  simp only [aj] at *
  simp only [h1, h2, e, u8]; rfl)
theorem Qgk {a b : BitVec 8} {t t' : TypeId} (hx : Ql fr x = u8 a) (hy : Ql fr y = u8 b) : Jv P fr w (.binOp .andNot t x y t') ty (u8 (a &&& ~~~b)) :=
 V7 rfl hx hy (by
  have e : ∀ c : BitVec 8, IntKind.u8.wrap (c.toNat : Int) = (c.toNat : Int) := fun c => Hu c.isLt
  show (Op.intBits .andNot .u8 (a.toNat : Int) (b.toNat : Int)).run P w = _
  have h1 := Rt a; have h2 := Rt b
  unfold Op.intBits
  simp only [aj] at *
  simp only [h1, h2, e, u8]; rfl)
theorem Que {a b : BitVec 8} {t t' : TypeId} (hx : Ql fr x = u8 a) (hy : Ql fr y = u8 b) (hb : 0 < b.toNat) : Jv P fr w (.binOp .quo t x y t') ty (u8 (a / b)) :=
 V7 rfl hx hy (by
  have hne : ¬ ((b.toNat : Int) = 0) := by omega
  have e : (a.toNat : Int).tdiv (b.toNat : Int) = ((a.toNat / b.toNat : Nat) : Int) := by
   rw [Int.tdiv_eq_ediv_of_nonneg (by omega)]; simp
  have h1 := a.isLt
  have h2 : a.toNat / b.toNat ≤ a.toNat := Nat.div_le_self _ _
  simp only [E8, Op.intDiv, hne, if_false, e, u8, BitVec.toNat_udiv]
  rw [Hu (by omega)]; rfl)
theorem Qud {a b : BitVec 8} {t t' : TypeId} (hx : Ql fr x = u8 a) (hy : Ql fr y = u8 b) (hb : 0 < b.toNat) : Jv P fr w (.binOp .rem t x y t') ty (u8 (a % b)) :=
 V7 rfl hx hy (by
  have hne : ¬ ((b.toNat : Int) = 0) := by omega
  have e : (a.toNat : Int).tmod (b.toNat : Int) = ((a.toNat % b.toNat : Nat) : Int) := by
   rw [Int.tmod_eq_emod_of_nonneg (by omega)]; simp
  have h1 := a.isLt
  have h2 : a.toNat / b.toNat ≤ a.toNat := Nat.div_le_self _ _
  simp only [E8, Op.intDiv, hne, if_false, e, u8, BitVec.toNat_umod]
  rfl)
theorem Qbz {a b : BitVec 8} {t t' : TypeId} (hx : Ql fr x = u8 a) (hy : Ql fr y = u8 b) : Jv P fr w (.binOp .eql t x y t') ty (bl (a == b)) :=
 V7 rfl hx hy (by
  have e : ((a.toNat : Int) == (b.toNat : Int)) = (a == b) := by
   rw [Bool.eq_iff_iff]; simp only [beq_iff_eq]
   exact ⟨fun h => dG (by omega), fun h => by rw [h]⟩
  simp [E8, Op.intCmp, bl, bne, e])
theorem Quf {a b : BitVec 8} {t t' : TypeId} (hx : Ql fr x = u8 a) (hy : Ql fr y = u8 b) : Jv P fr w (.binOp .neq t x y t') ty (bl (a != b)) :=
 V7 rfl hx hy (by
  have e : ((a.toNat : Int) == (b.toNat : Int)) = (a == b) := by
   rw [Bool.eq_iff_iff]; simp only [beq_iff_eq]
   exact ⟨fun h => dG (by omega), fun h => by rw [h]⟩
  simp [E8, Op.intCmp, bl, bne, e])
theorem Ql3 {a : BitVec 8} {ky : IntKind} {b : Int} {t t' : TypeId} (hx : Ql fr x = u8 a) (hy : Ql fr y = .int ky b) (hb : 0 ≤ b) : Jv P fr w (.binOp .shl t x y t') ty (u8 (a <<< b.toNat)) :=
 Rw (.inl rfl) hx hy hb (by
  simp only [if_true, u8, aj]
  congr 1
  have e : ((a.toNat : Int) * 2 ^ (min b.toNat 8)) = ((a.toNat * 2 ^ (min b.toNat 8) : Nat) : Int) := by simp
  rw [e, Qdu, BitVec.toNat_shiftLeft, Nat.shiftLeft_eq]
  rcases ay b.toNat 8 with h | h
  ·rw [Nat.min_eq_left (by omega)]
  rw [eF h]
  obtain ⟨c, hc⟩ := Nat.exists_eq_add_of_le h
  rw [hc, Nat.pow_add, ← bZ, bZ, df (2 ^ 8), ← bZ]
  simp)
theorem Qhi {a : BitVec 8} {ky : IntKind} {b : Int} {t t' : TypeId} (hx : Ql fr x = u8 a) (hy : Ql fr y = .int ky b) (hb : 0 ≤ b) : Jv P fr w (.binOp .shr t x y t') ty (u8 (a >>> b.toNat)) :=
 Rw (.inr rfl) hx hy hb (by
  simp only [u8, aj]
  rw [if_neg Yx]
  congr 1
  have e : ((a.toNat : Int).fdiv (2 ^ (min b.toNat 8))) = ((a.toNat / 2 ^ (min b.toNat 8) : Nat) : Int) := by
   rw [Int.fdiv_eq_ediv_of_nonneg _ (by exact Int.le_of_lt (Int.pow_pos Yx))]; simp
  rw [e, eY, Nat.shiftRight_eq_div_pow]
  rcases ay b.toNat 8 with h | h
  ·rw [Nat.min_eq_left (by omega)]
  rw [eF h]
  have h1 := a.isLt
  have h2 : 2 ^ 8 ≤ 2 ^ b.toNat := Nat.pow_le_pow_right Yx h
  rw [eG (by omega), eG (by omega)])
end
def u32 (x : BitVec 32) : Value := .int .u32 (x.toNat : Int)
theorem Qc3 (m : Nat) : IntKind.u32.wrap (m : Int) = ((m % 4294967296 : Nat) : Int) := by
 simp only [dV, aj, dM, dY, bW, if_false]
 omega
theorem Qmg (m : Int) : IntKind.u32.wrap m = ((aB 32 m).toNat : Int) := by
 simp only [dV, aj, dM, dY, bW, if_false, bU]
 omega
theorem Np {m : Nat} (h : m < 4294967296) : IntKind.u32.wrap (m : Int) = (m : Int) := by
 rw [Qc3]; omega
section
variable {P : Program} {fr : Nat → Value} {w : World} {ty : TypeId} {x y : Operand}
theorem Pq (a : BitVec 32) : aB 32 (a.toNat : Int) = a := by
 apply dG; rw [bU]; have := a.isLt; omega
theorem Xx {a b : BitVec 32} {t t' : TypeId} (hx : Ql fr x = u32 a) (hy : Ql fr y = u32 b) : Jv P fr w (.binOp .add t x y t') ty (u32 (a + b)) :=
 V7 rfl hx hy (by
  have e : ((a.toNat : Int) + (b.toNat : Int)) = ((a.toNat + b.toNat : Nat) : Int) := by simp
  simp only [E8, Op.intArith, e, Qc3, u32, eP]; rfl)
theorem Ls {a b : BitVec 32} {t t' : TypeId} (hx : Ql fr x = u32 a) (hy : Ql fr y = u32 b) : Jv P fr w (.binOp .mul t x y t') ty (u32 (a * b)) :=
 V7 rfl hx hy (by
  have e : ((a.toNat : Int) * (b.toNat : Int)) = ((a.toNat * b.toNat : Nat) : Int) := by simp
  simp only [E8, Op.intArith, e, Qc3, u32, eQ]; rfl)
theorem Ew {a b : BitVec 32} {t t' : TypeId} (hx : Ql fr x = u32 a) (hy : Ql fr y = u32 b) : Jv P fr w (.binOp .and t x y t') ty (u32 (a &&& b)) :=
 V7 rfl hx hy (by
  have e : ∀ c : BitVec 32, IntKind.u32.wrap (c.toNat : Int) = (c.toNat : Int) := fun c => Np c.isLt
  show (Op.intBits .and .u32 (a.toNat : Int) (b.toNat : Int)).run P w = _
  have h1 := Pq a; have h2 := Pq b
  unfold Op.intBits
  simp only [aj] at *
  simp only [h1, h2, e, u32]; rfl)
theorem Dv {a b : BitVec 32} {t t' : TypeId} (hx : Ql fr x = u32 a) (hy : Ql fr y = u32 b) : Jv P fr w (.binOp .or t x y t') ty (u32 (a ||| b)) :=
 V7 rfl hx hy (by
  have e : ∀ c : BitVec 32, IntKind.u32.wrap (c.toNat : Int) = (c.toNat : Int) := fun c => Np c.isLt
  show (Op.intBits .or .u32 (a.toNat : Int) (b.toNat : Int)).run P w = _
  have h1 := Pq a; have h2 := Pq b
  unfold Op.intBits
  simp only [aj] at *
  simp only [h1, h2, e, u32]; rfl)
theorem Jm {a b : BitVec 32} {t t' : TypeId} (hx : Ql fr x = u32 a) (hy : Ql fr y = u32 b) : Jv P fr w (.binOp .xor t x y t') ty (u32 (a ^^^ b)) :=
 V7 rfl hx hy (by
  have e : ∀ c : BitVec 32, IntKind.u32.wrap (c.toNat : Int) = (c.toNat : Int) := fun c => Np c.isLt
  show (Op.intBits .xor .u32 (a.toNat : Int) (b.toNat : Int)).run P w = _
  have h1 := Pq a; have h2 := Pq b
  unfold Op.intBits
  simp only [aj] at *
  simp only [h1, h2, e, u32]; rfl)
theorem Fh {a : BitVec 32} {ky : IntKind} {b : Int} {t t' : TypeId} (hx : Ql fr x = u32 a) (hy : Ql fr y = .int ky b) (hb : 0 ≤ b) : Jv P fr w (.binOp .shl t x y t') ty (u32 (a <<< b.toNat)) :=
 Rw (.inl rfl) hx hy hb (by
  simp only [if_true, u32, aj]
  congr 1
  have e : ((a.toNat : Int) * 2 ^ (min b.toNat 32)) = ((a.toNat * 2 ^ (min b.toNat 32) : Nat) : Int) := by simp
  rw [e, Qc3, BitVec.toNat_shiftLeft, Nat.shiftLeft_eq]
  rcases ay b.toNat 32 with h | h
  ·rw [Nat.min_eq_left (by omega)]
  rw [eF h]
  obtain ⟨c, hc⟩ := Nat.exists_eq_add_of_le h
  rw [hc, Nat.pow_add, ← bZ, bZ, df (2 ^ 32), ← bZ]
  simp)
theorem Ul {a : BitVec 32} {ky : IntKind} {b : Int} {t t' : TypeId} (hx : Ql fr x = u32 a) (hy : Ql fr y = .int ky b) (hb : 0 ≤ b) : Jv P fr w (.binOp .shr t x y t') ty (u32 (a >>> b.toNat)) :=
 Rw (.inr rfl) hx hy hb (by
  simp only [u32, aj]
  rw [if_neg Yx]
  congr 1
  have e : ((a.toNat : Int).fdiv (2 ^ (min b.toNat 32))) = ((a.toNat / 2 ^ (min b.toNat 32) : Nat) : Int) := by
   rw [Int.fdiv_eq_ediv_of_nonneg _ (by exact Int.le_of_lt (Int.pow_pos Yx))]; simp
  rw [e, eY, Nat.shiftRight_eq_div_pow]
  rcases ay b.toNat 32 with h | h
  ·rw [Nat.min_eq_left (by omega)]
  rw [eF h]
  have h1 := a.isLt
  have h2 : 2 ^ 32 ≤ 2 ^ b.toNat := Nat.pow_le_pow_right Yx h
  rw [eG (by omega), eG (by omega)])
theorem Qkb {a : BitVec 32} {t : TypeId} (hx : Ql fr x = u32 a) : Jv P fr w (.unOp .xor t x) ty (u32 (~~~a)) := by
 have e : ∀ c : BitVec 32, IntKind.u32.wrap (c.toNat : Int) = (c.toNat : Int) := fun c => Np c.isLt
 have h1 := Pq a
 have h2 : aB 32 (IntKind.u32.max) = BitVec.allOnes 32 := by decide
 unfold Jv Lp
 simp only [execOp, hx, u32, Op.unary]
 rw [show (if IntKind.u32.signed then (-1 : Int) else IntKind.u32.max) = IntKind.u32.max from rfl]
 unfold Op.intBits
 simp only [aj] at *
 simp only [h1, h2, e, BitVec.allOnes_xor]; rfl
end
def u64 (x : BitVec 64) : Value := .int .u64 (x.toNat : Int)
theorem Qc2 (m : Nat) : IntKind.u64.wrap (m : Int) = ((m % 18446744073709551616 : Nat) : Int) := by
 simp only [dV, aj, dM, dY, bW, if_false]
 omega
theorem Qmf (m : Int) : IntKind.u64.wrap m = ((aB 64 m).toNat : Int) := by
 simp only [dV, aj, dM, dY, bW, if_false, bU]
 omega
theorem Qc1 {m : Nat} (h : m < 18446744073709551616) : IntKind.u64.wrap (m : Int) = (m : Int) := by
 rw [Qc2]; omega
section
variable {P : Program} {fr : Nat → Value} {w : World} {ty : TypeId} {x y : Operand}
theorem Qd2 (a : BitVec 64) : aB 64 (a.toNat : Int) = a := by
 apply dG; rw [bU]; have := a.isLt; omega
theorem Js {a b : BitVec 64} {t t' : TypeId} (hx : Ql fr x = u64 a) (hy : Ql fr y = u64 b) : Jv P fr w (.binOp .add t x y t') ty (u64 (a + b)) :=
 V7 rfl hx hy (by
  have e : ((a.toNat : Int) + (b.toNat : Int)) = ((a.toNat + b.toNat : Nat) : Int) := by simp
  simp only [E8, Op.intArith, e, Qc2, u64, eP]; rfl)
theorem Eu {a b : BitVec 64} {t t' : TypeId} (hx : Ql fr x = u64 a) (hy : Ql fr y = u64 b) : Jv P fr w (.binOp .mul t x y t') ty (u64 (a * b)) :=
 V7 rfl hx hy (by
  have e : ((a.toNat : Int) * (b.toNat : Int)) = ((a.toNat * b.toNat : Nat) : Int) := by simp
  simp only [E8, Op.intArith, e, Qc2, u64, eQ]; rfl)
theorem Lr {a b : BitVec 64} {t t' : TypeId} (hx : Ql fr x = u64 a) (hy : Ql fr y = u64 b) : Jv P fr w (.binOp .sub t x y t') ty (u64 (a - b)) :=
 V7 rfl hx hy (by
  have e : IntKind.u64.wrap ((a.toNat : Int) - (b.toNat : Int)) = (((a - b).toNat : Nat) : Int) := by
   have h1 := a.isLt; have h2 := b.isLt
   simp only [dV, aj, dM, dY, bW, if_false, BitVec.toNat_sub]
   omega
  simp only [E8, Op.intArith, e, u64]; rfl)
theorem Vp {a b : BitVec 64} {t t' : TypeId} (hx : Ql fr x = u64 a) (hy : Ql fr y = u64 b) : Jv P fr w (.binOp .and t x y t') ty (u64 (a &&& b)) :=
 V7 rfl hx hy (by
  have e : ∀ c : BitVec 64, IntKind.u64.wrap (c.toNat : Int) = (c.toNat : Int) := fun c => Qc1 c.isLt
  show (Op.intBits .and .u64 (a.toNat : Int) (b.toNat : Int)).run P w = _
  have h1 := Qd2 a; have h2 := Qd2 b
  unfold Op.intBits
  simp only [aj] at *
  simp only [h1, h2, e, u64]; rfl)
theorem Ql5 {a b : BitVec 64} {t t' : TypeId} (hx : Ql fr x = u64 a) (hy : Ql fr y = u64 b) : Jv P fr w (.binOp .or t x y t') ty (u64 (a ||| b)) :=
 V7 rfl hx hy (by
  have e : ∀ c : BitVec 64, IntKind.u64.wrap (c.toNat : Int) = (c.toNat : Int) := fun c => Qc1 c.isLt
  show (Op.intBits .or .u64 (a.toNat : Int) (b.toNat : Int)).run P w = _
  have h1 := Qd2 a; have h2 := Qd2 b
  unfold Op.intBits
  simp only [aj] at *
  simp only [h1, h2, e, u64]; rfl)
theorem Qqz {a b : BitVec 64} {t t' : TypeId} (hx : Ql fr x = u64 a) (hy : Ql fr y = u64 b) : Jv P fr w (.binOp .gtr t x y t') ty (bl (decide (b.toNat < a.toNat))) :=
 V7 rfl hx hy (by simp [E8, Op.intCmp, bl])
theorem Et {a : BitVec 64} {ky : IntKind} {b : Int} {t t' : TypeId} (hx : Ql fr x = u64 a) (hy : Ql fr y = .int ky b) (hb : 0 ≤ b) : Jv P fr w (.binOp .shl t x y t') ty (u64 (a <<< b.toNat)) :=
 Rw (.inl rfl) hx hy hb (by
  simp only [if_true, u64, aj]
  congr 1
  have e : ((a.toNat : Int) * 2 ^ (min b.toNat 64)) = ((a.toNat * 2 ^ (min b.toNat 64) : Nat) : Int) := by simp
  rw [e, Qc2, BitVec.toNat_shiftLeft, Nat.shiftLeft_eq]
  rcases ay b.toNat 64 with h | h
  ·rw [Nat.min_eq_left (by omega)]
  rw [eF h]
  obtain ⟨c, hc⟩ := Nat.exists_eq_add_of_le h
  rw [hc, Nat.pow_add, ← bZ, bZ, df (2 ^ 64), ← bZ]
  simp)
theorem X7 {a : BitVec 64} {ky : IntKind} {b : Int} {t t' : TypeId} (hx : Ql fr x = u64 a) (hy : Ql fr y = .int ky b) (hb : 0 ≤ b) : Jv P fr w (.binOp .shr t x y t') ty (u64 (a >>> b.toNat)) :=
 Rw (.inr rfl) hx hy hb (by
  simp only [u64, aj]
  rw [if_neg Yx]
  congr 1
  have e : ((a.toNat : Int).fdiv (2 ^ (min b.toNat 64))) = ((a.toNat / 2 ^ (min b.toNat 64) : Nat) : Int) := by
   rw [Int.fdiv_eq_ediv_of_nonneg _ (by exact Int.le_of_lt (Int.pow_pos Yx))]; simp
  rw [e, eY, Nat.shiftRight_eq_div_pow]
  rcases ay b.toNat 64 with h | h
  ·rw [Nat.min_eq_left (by omega)]
  rw [eF h]
  have h1 := a.isLt
  have h2 : 2 ^ 64 ≤ 2 ^ b.toNat := Nat.pow_le_pow_right Yx h
  rw [eG (by omega), eG (by omega)])
end
section
variable {P : Program} {fr : Nat → Value} {w : World} {ty s t : TypeId} {x : Operand}
theorem Qa7 {k k' : IntKind} {n : Int} {v : Value} (hs : ∃ d, P.underlying s = some d) (ht : P.underlying t = some (.int k)) (hx : Ql fr x = .int k' n) (hv : v = .int k (k.wrap n)) : Jv P fr w (.convert s t x) ty v := by
 obtain ⟨d, hs⟩ := hs
 subst hv
 unfold Jv Lp
 simp only [execOp, hx]
 simp [convert, underlying, hs, ht, Conv.intToInt]
theorem Fq {a : Int} (hs : ∃ d, P.underlying s = some d) (ht : P.underlying t = some (.int .u8)) (hx : Ql fr x = i64 a) : Jv P fr w (.convert s t x) ty (u8 (aB 8 a)) :=
 Qa7 hs ht hx (by rw [Qnz]; rfl)
theorem Gm {a : BitVec 8} (hs : ∃ d, P.underlying s = some d) (ht : P.underlying t = some (.int .i64)) (hx : Ql fr x = u8 a) : Jv P fr w (.convert s t x) ty (i64 (a.toNat : Int)) :=
 Qa7 hs ht hx (by have := a.isLt; rw [Hw (by omega) (by omega)]; rfl)
theorem Kt {a : BitVec 8} (hs : ∃ d, P.underlying s = some d) (ht : P.underlying t = some (.int .u32)) (hx : Ql fr x = u8 a) : Jv P fr w (.convert s t x) ty (u32 (a.setWidth 32)) :=
 Qa7 hs ht hx (by rw [Qc3]; simp [u32, BitVec.toNat_setWidth])
theorem Qkd {a : BitVec 8} (hs : ∃ d, P.underlying s = some d) (ht : P.underlying t = some (.int .u64)) (hx : Ql fr x = u8 a) : Jv P fr w (.convert s t x) ty (u64 (a.setWidth 64)) :=
 Qa7 hs ht hx (by rw [Qc2]; simp [u64, BitVec.toNat_setWidth])
theorem Qis {a : Int} (hs : ∃ d, P.underlying s = some d) (ht : P.underlying t = some (.int .u32)) (hx : Ql fr x = i64 a) : Jv P fr w (.convert s t x) ty (u32 (aB 32 a)) :=
 Qa7 hs ht hx (by rw [Qmg]; rfl)
theorem Fj {a : BitVec 32} (hs : ∃ d, P.underlying s = some d) (ht : P.underlying t = some (.int .u8)) (hx : Ql fr x = u32 a) : Jv P fr w (.convert s t x) ty (u8 (a.setWidth 8)) :=
 Qa7 hs ht hx (by rw [Qdu]; simp [u8, BitVec.toNat_setWidth])
theorem Jg {a : Int} (hs : ∃ d, P.underlying s = some d) (ht : P.underlying t = some (.int .u64)) (hx : Ql fr x = i64 a) : Jv P fr w (.convert s t x) ty (u64 (aB 64 a)) :=
 Qa7 hs ht hx (by rw [Qmf]; rfl)
theorem X5 {a : BitVec 64} (hs : ∃ d, P.underlying s = some d) (ht : P.underlying t = some (.int .u8)) (hx : Ql fr x = u64 a) : Jv P fr w (.convert s t x) ty (u8 (a.setWidth 8)) :=
 Qa7 hs ht hx (by rw [Qdu]; simp [u8, BitVec.toNat_setWidth])
end
end Go.Proofs.YtkmiemlpfkfiiaaDoor
