/- The framework, part X: whole numbers as floating-point numbers, and complex ones out of two such. Conditions: none. -/
import Derived.Test.YtfmjfojhcmmgcaaFwH
namespace Go.Proofs.Ytfmjfojhcmmgcaa
open Ieee
set_option linter.unusedVariables false
set_option linter.unusedSimpArgs false
def fN (n : Nat) : Nat := double.nearest false n 0
def okX (n x y : Nat) : Bool := (double.add x 4607182418800017408 == some y) && (double.add x 0 == some x) && ((double.read x).toInt .zero == some (n : Int))
def forceN {α : Type} (n : Nat) (k : Nat → α) : α := match n with | 0 => k 0 | m + 1 => k (m + 1)
theorem forceN_eq {α : Type} (n : Nat) (k : Nat → α) : forceN n k = k n := by cases n <;> rfl
def okFl (n : Nat) : Bool := forceN n fun n => forceN (fN n) fun x => forceN (fN (n + 1)) fun y => okX n x y
def okD : Nat → Nat → Bool
  | 0, lo => okFl lo
  | d + 1, lo => okD d lo && forceN (lo + 2 ^ d) fun hi => okD d hi
theorem okD_at : ∀ (d lo n : Nat), okD d lo = true → lo ≤ n → n < lo + 2 ^ d → okFl n = true
  | 0, lo, n, h, h1, h2 => by
    obtain rfl : n = lo := by simp at h2; omega
    exact h
  | d + 1, lo, n, h, h1, h2 => by
    unfold okD at h
    rw [Bool.and_eq_true, forceN_eq] at h
    by_cases hl : n < lo + 2 ^ d
    · exact okD_at d lo n h.1 h1 hl
    · exact okD_at d _ n h.2 (by omega) (by rw [Nat.pow_succ] at h2; omega)
theorem okc0 : okD 6 0 = true := by decide +kernel
theorem okc1 : okD 6 64 = true := by decide +kernel
theorem okc2 : okD 6 128 = true := by decide +kernel
theorem okc3 : okD 6 192 = true := by decide +kernel
theorem okc4 : okD 6 256 = true := by decide +kernel
theorem okc5 : okD 6 320 = true := by decide +kernel
theorem okc6 : okD 6 384 = true := by decide +kernel
theorem okc7 : okD 6 448 = true := by decide +kernel
theorem okc8 : okD 6 512 = true := by decide +kernel
theorem okc9 : okD 6 576 = true := by decide +kernel
theorem okc10 : okD 6 640 = true := by decide +kernel
theorem okc11 : okD 6 704 = true := by decide +kernel
theorem okc12 : okD 6 768 = true := by decide +kernel
theorem okc13 : okD 6 832 = true := by decide +kernel
theorem okc14 : okD 6 896 = true := by decide +kernel
theorem okc15 : okD 6 960 = true := by decide +kernel
theorem okc16 : okD 6 1024 = true := by decide +kernel
theorem okc17 : okD 6 1088 = true := by decide +kernel
theorem okc18 : okD 6 1152 = true := by decide +kernel
theorem okc19 : okD 6 1216 = true := by decide +kernel
theorem okc20 : okD 6 1280 = true := by decide +kernel
theorem okc21 : okD 6 1344 = true := by decide +kernel
theorem okc22 : okD 6 1408 = true := by decide +kernel
theorem okc23 : okD 6 1472 = true := by decide +kernel
theorem okc24 : okD 6 1536 = true := by decide +kernel
theorem okc25 : okD 6 1600 = true := by decide +kernel
theorem okc26 : okD 6 1664 = true := by decide +kernel
theorem okc27 : okD 6 1728 = true := by decide +kernel
theorem okc28 : okD 6 1792 = true := by decide +kernel
theorem okc29 : okD 6 1856 = true := by decide +kernel
theorem okc30 : okD 6 1920 = true := by decide +kernel
theorem okc31 : okD 6 1984 = true := by decide +kernel
theorem okFl_all {n : Nat} (h : n < 2048) : okFl n = true := by
  have hq : n / 64 < 32 := by omega
  have hl : 64 * (n / 64) ≤ n := by omega
  have hu : n < 64 * (n / 64) + 2 ^ 6 := by omega
  generalize n / 64 = q at hq hl hu
  match q, hq, hl, hu with
  | 0, _, hl, hu => exact okD_at 6 0 n okc0 hl hu
  | 1, _, hl, hu => exact okD_at 6 64 n okc1 hl hu
  | 2, _, hl, hu => exact okD_at 6 128 n okc2 hl hu
  | 3, _, hl, hu => exact okD_at 6 192 n okc3 hl hu
  | 4, _, hl, hu => exact okD_at 6 256 n okc4 hl hu
  | 5, _, hl, hu => exact okD_at 6 320 n okc5 hl hu
  | 6, _, hl, hu => exact okD_at 6 384 n okc6 hl hu
  | 7, _, hl, hu => exact okD_at 6 448 n okc7 hl hu
  | 8, _, hl, hu => exact okD_at 6 512 n okc8 hl hu
  | 9, _, hl, hu => exact okD_at 6 576 n okc9 hl hu
  | 10, _, hl, hu => exact okD_at 6 640 n okc10 hl hu
  | 11, _, hl, hu => exact okD_at 6 704 n okc11 hl hu
  | 12, _, hl, hu => exact okD_at 6 768 n okc12 hl hu
  | 13, _, hl, hu => exact okD_at 6 832 n okc13 hl hu
  | 14, _, hl, hu => exact okD_at 6 896 n okc14 hl hu
  | 15, _, hl, hu => exact okD_at 6 960 n okc15 hl hu
  | 16, _, hl, hu => exact okD_at 6 1024 n okc16 hl hu
  | 17, _, hl, hu => exact okD_at 6 1088 n okc17 hl hu
  | 18, _, hl, hu => exact okD_at 6 1152 n okc18 hl hu
  | 19, _, hl, hu => exact okD_at 6 1216 n okc19 hl hu
  | 20, _, hl, hu => exact okD_at 6 1280 n okc20 hl hu
  | 21, _, hl, hu => exact okD_at 6 1344 n okc21 hl hu
  | 22, _, hl, hu => exact okD_at 6 1408 n okc22 hl hu
  | 23, _, hl, hu => exact okD_at 6 1472 n okc23 hl hu
  | 24, _, hl, hu => exact okD_at 6 1536 n okc24 hl hu
  | 25, _, hl, hu => exact okD_at 6 1600 n okc25 hl hu
  | 26, _, hl, hu => exact okD_at 6 1664 n okc26 hl hu
  | 27, _, hl, hu => exact okD_at 6 1728 n okc27 hl hu
  | 28, _, hl, hu => exact okD_at 6 1792 n okc28 hl hu
  | 29, _, hl, hu => exact okD_at 6 1856 n okc29 hl hu
  | 30, _, hl, hu => exact okD_at 6 1920 n okc30 hl hu
  | 31, _, hl, hu => exact okD_at 6 1984 n okc31 hl hu
  | q + 32, hq, _, _ => exact absurd hq (by omega)
def fW : Nat → Nat
  | 0 => 0
  | 1 => 4607182418800017408
  | n + 2 => fN (n + 2)
theorem fW_eq : ∀ n, fW n = fN n
  | 0 => by decide +kernel
  | 1 => by decide +kernel
  | n + 2 => rfl
theorem fW_all {n : Nat} (h : n < 2048) : double.add (fW n) (fW 1) = some (fW (n + 1)) ∧ double.add (fW n) (fW 0) = some (fW n) ∧ (double.read (fW n)).toInt .zero = some (n : Int) := by
  have := okFl_all h
  unfold okFl okX at this
  simp only [forceN_eq, Bool.and_eq_true, beq_iff_eq] at this
  rw [fW_eq n, fW_eq (n + 1)]
  exact ⟨this.1.1, this.1.2, this.2⟩
def flt (a : Nat) : Value := .float .f64 (fW a)
def cpx (a b : Nat) : Value := .complex .f64 (fW a) (fW b)
section
variable {P : Program} {fr : Nat → Value} {w : World} {ty T U : TypeId} {x y : Operand}
theorem run_add (a b c : Nat) (h : double.add (fW a) (fW b) = some (fW c)) : (Op.floatArith .add .f64 (fW a) (fW b)).run P w = .ok (.float .f64 (fW c)) w := by
  have h' : FloatKind.f64.format.add (fW a) (fW b) = some (fW c) := h
  simp [Op.floatArith, h']
theorem ev_cpx_add {a b : Nat} {t' : TypeId} (ha : a < 2048) (hb : b < 2048) (hx : evalF fr x = cpx a b) (hy : evalF fr y = cpx 0 1) : EvQ P fr w (.binOp .add T x y t') ty (cpx a (b + 1)) := by
  unfold EvQ xop
  show Sem.run P (do let v ← (do eqGuard .add T x y (evalF fr x) (evalF fr y); binOp .add T (evalF fr x) (evalF fr y)); pure (Next.value v)) w = _
  rw [hx, hy]
  have hg : eqGuard .add T x y (cpx a b) (cpx 0 1) = pure () := rfl
  have hb' : binOp .add T (cpx a b) (cpx 0 1) = Op.complexOp .add .f64 (fW a) (fW b) (fW 0) (fW 1) := by simp [binOp, cpx]
  rw [hg, hb']
  simp [Op.complexOp, Op.Complex.arith, run_add a 0 a (fW_all ha).2.1, run_add b 1 (b + 1) (fW_all hb).1, cpx]
theorem ev_flt_add {a : Nat} {t' : TypeId} (ha : a < 2048) (hx : evalF fr x = flt a) (hy : evalF fr y = flt 1) : EvQ P fr w (.binOp .add T x y t') ty (flt (a + 1)) := by
  unfold EvQ xop
  show Sem.run P (do let v ← (do eqGuard .add T x y (evalF fr x) (evalF fr y); binOp .add T (evalF fr x) (evalF fr y)); pure (Next.value v)) w = _
  rw [hx, hy]
  have hg : eqGuard .add T x y (flt a) (flt 1) = pure () := rfl
  have hb' : binOp .add T (flt a) (flt 1) = Op.floatArith .add .f64 (fW a) (fW 1) := by simp [binOp, flt]
  rw [hg, hb']
  simp [run_add a 1 (a + 1) (fW_all ha).1, flt]
theorem ev_real {a b : Nat} {ts : Array TypeId} (hx : evalF fr x = cpx a b) : EvQ P fr w (.call ⟨.builtin .real, #[x], ts⟩) ty (flt a) := by
  unfold EvQ
  rw [xop_builtin]
  simp only [List.map_toArray, List.map_cons, List.map_nil, hx]
  rfl
theorem ev_imag {a b : Nat} {ts : Array TypeId} (hx : evalF fr x = cpx a b) : EvQ P fr w (.call ⟨.builtin .imag, #[x], ts⟩) ty (flt b) := by
  unfold EvQ
  rw [xop_builtin]
  simp only [List.map_toArray, List.map_cons, List.map_nil, hx]
  rfl
theorem ev_complex {a b : Nat} {ts : Array TypeId} (hx : evalF fr x = flt a) (hy : evalF fr y = flt b) : EvQ P fr w (.call ⟨.builtin .complex, #[x, y], ts⟩) ty (cpx a b) := by
  unfold EvQ
  rw [xop_builtin]
  simp only [List.map_toArray, List.map_cons, List.map_nil, hx, hy]
  rfl
theorem ev_flt_int {a : Nat} {d : TypeDesc} (ha : a < 2048) (hT : P.underlying T = some d) (hU : P.underlying U = some (.int .i64)) (hx : evalF fr x = flt a) : EvQ P fr w (.convert T U x) ty (i64 (a : Int)) := by
  have h1 : (FloatKind.f64.decode (fW a)).toInt .zero = some (a : Int) := (fW_all ha).2.2
  have h2 : IntKind.i64.min ≤ (a : Int) ∧ (a : Int) ≤ IntKind.i64.max := by
    have e1 : IntKind.i64.min = -9223372036854775808 := by decide
    have e2 : IntKind.i64.max = 9223372036854775807 := by decide
    rw [e1, e2]; omega
  unfold EvQ xop
  show Sem.run P (do let v ← convert T U (evalF fr x); pure (Next.value v)) w = _
  rw [hx]
  have key : (convert T U (flt a)).run P w = .ok (i64 (a : Int)) w := by
    simp [convert, run_und hT, run_und hU, flt, Conv.floatToInt, h1, h2, i64]
    intro h; omega
  simp only [Sem.run_bind, key, Result.andThen_ok, Sem.run_pure]
end
end Go.Proofs.Ytfmjfojhcmmgcaa
