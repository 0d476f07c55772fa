/- The ratchet: sessions that may be. Conditions: none beyond those that each theorem states. -/
import Derived.Test.YtkmiemlpfkfiiaaDoorFwY
namespace Go.Proofs.YtkmiemlpfkfiiaaDoor
section
open Go.ChangeShapes Go.WideShapes Go.ChangeAt Go.RowKit
set_option linter.unusedVariables false
set_option linter.unusedSimpArgs false
set_option linter.unusedSectionVars false
section
variable {P : Program} {w : World} {fr : Nat → Value} {ty E : TypeId} {x y : Operand} {m : Nat → Option Obj} {v : Value} {k : Nat}
def slnil (v : Value) : Bool := match v with | .slice a _ _ => a.isNone | _ => false
theorem Qkm {β : Type} {enc : β → List Value} {l : List β} {t t' : TypeId} (h : RdK m enc k v l) (hu : P.underlying t = some (.slice E)) (hx : Qg fr x = v) (hy : Qg fr y = .slice none 0 0) : Yt P fr w (.binOp .eql t x y t') ty (bl (slnil v)) := by
 obtain ⟨a, cap, rfl, _, _⟩ := h.is
 exact Qd5 hu hx hy
theorem Qnh {β : Type} {enc : β → List Value} {l : List β} (h : RdK m enc k v l) (hn : slnil v = true) : [] = l := by
 obtain ⟨a, cap, rfl, _, h2⟩ := h.is
 cases l with
 | nil => rfl
 | cons b l =>
  obtain ⟨q, off, c, E, fz, e, _⟩ := h2 0 Xk
  subst e
  simp [slnil] at hn
structure FldEq (P : Program) (w : World) (d : Nat) (f : Field) (xs ys : Array Value) (r : Bool) : Prop where
 name : (f.name == "_") = false
 is : ∃ a b, (part f.type xs f.offset).run P w = .ok a w ∧ (part f.type ys f.offset).run P w = .ok b w ∧ (Op.equalIn d f.type a b).run P w = .ok r w
theorem eqF_nil {d : Nat} {xs ys : Array Value} : (Op.eqFields d xs ys []).run P w = .ok true w := rfl
theorem Qf4 {d : Nat} {xs ys : Array Value} {f : Field} {fs : List Field} {r q : Bool} (h : FldEq P w d f xs ys r) (h2 : (Op.eqFields d xs ys fs).run P w = .ok q w) : (Op.eqFields d xs ys (f :: fs)).run P w = .ok (r && q) w := by
 obtain ⟨hn, a, b, h3, h4, h5⟩ := h
 have hn' : f.name ≠ "_" := by simpa using hn
 unfold Op.eqFields
 rw [if_pos hn']
 simp only [Sem.run_bind, h3, h4, h5, Result.andThen_ok]
 cases r
 ·simp
 simpa using h2
theorem Qhd {d : Nat} {f : Field} {K : TypeId} {z zK : Option Value} {n kb kbK off : Nat} (L1 L3 M1 M3 : List (List Value)) {l m : Zj} (hn : (f.name == "_") = false) (ht : f.type = K) (ho : f.offset = off) (hu : P.underlying K = some (.array n E)) (hiK : X4 P K = some (zK, n, kbK))
  (hE : P.underlying E = some (.int .u8)) (hi : X4 P E = some (z, 1, kb)) (a1 : l.length = n) (b1 : m.length = n) (h1 : L1.flatten.length = off) (h2 : M1.flatten.length = off) :
  FldEq P w (d + 2) f (Qp (L1 ++ (l.map u8 :: L3))) (Qp (M1 ++ (m.map u8 :: M3))) (l == m) := by
 refine ⟨hn, agg u8 l, agg u8 m, ?_, ?_, ?_⟩
 ·rw [ht, ho]; exact Qca L1 L3 l hu rfl hiK h1 a1
 ·rw [ht, ho]; exact Qca M1 M3 m hu rfl hiK h2 b1
 rw [ht]; exact Aj (P := P) (w := w) (d := d + 1) hu hi hE rfl (fun a b => Qk2 hE) a1 b1
theorem Qn1 {d : Nat} {f : Field} {K : TypeId} {off : Nat} (L1 L3 M1 M3 : List (List Value)) {l m : Int} (hn : (f.name == "_") = false) (ht : f.type = K) (ho : f.offset = off) (hu : P.underlying K = some (.int .i64)) (h1 : L1.flatten.length = off) (h2 : M1.flatten.length = off) :
  FldEq P w (d + 1) f (Qp (L1 ++ ([i64 l] :: L3))) (Qp (M1 ++ ([i64 m] :: M3))) (l == m) := by
 refine ⟨hn, i64 l, i64 m, ?_, ?_, ?_⟩
 ·rw [ht, ho]; exact Qg1 hu rfl (Qb7 L1 L3 _ h1)
 ·rw [ht, ho]; exact Qg1 hu rfl (Qb7 M1 M3 _ h2)
 rw [ht]; exact run_equalIn_int w d K .i64 .i64 l m hu
theorem run_eqS {t : TypeId} {fs : Array Field} {xs ys : Array Value} {r : Bool} {d : Nat} (ht : P.underlying t = some (.struct fs)) (hp : P.stoodInHeld t = false) (h : (Op.eqFields d xs ys fs.toList).run P w = .ok r w) : (Op.equalIn (d + 1) t (.agg xs) (.agg ys)).run P w = .ok r w := by
 have hf : P.fieldsOf t = fs := by unfold Program.fieldsOf; simp [ht]
 rw [run_equalIn_struct w d t _ _ (by rw [hf]; exact ht) hp, hf]; exact h
theorem run_eq3 {t A I E : TypeId} {f1 f2 f3 : Field} {z zA : Option Value} {kb kbA : Nat} {l1 l3 m1 m3 : Zj} {l2 m2 : Int} (ht : P.underlying t = some (.struct #[f1, f2, f3])) (hp : P.stoodInHeld t = false) (n1 : (f1.name == "_") = false) (n2 : (f2.name == "_") = false) (n3 : (f3.name == "_") = false) (t1 : f1.type = A) (t2 : f2.type = I) (t3 : f3.type = A) (o1 : f1.offset = 0) (o2 : f2.offset = 32) (o3 : f3.offset = 33)
  (hA : P.underlying A = some (.array 32 E)) (hiA : X4 P A = some (zA, 32, kbA)) (hE : P.underlying E = some (.int .u8)) (hiE : X4 P E = some (z, 1, kb)) (hI : P.underlying I = some (.int .i64)) (a1 : l1.length = 32) (a3 : l3.length = 32) (b1 : m1.length = 32) (b3 : m3.length = 32) :
  (Op.equalIn (9999 + 1) t (.agg (Qp [l1.map u8, [i64 l2], l3.map u8])) (.agg (Qp [m1.map u8, [i64 m2], m3.map u8]))).run P w = .ok (l1 == m1 && (l2 == m2 && (l3 == m3 && true))) w := by
 have h1 : FldEq P w 9999 f1 (Qp [l1.map u8, [i64 l2], l3.map u8]) (Qp [m1.map u8, [i64 m2], m3.map u8]) (l1 == m1) := Qhd (d := 9997) [] [[i64 l2], l3.map u8] [] [[i64 m2], m3.map u8] n1 t1 o1 hA hiA hE hiE a1 b1 rfl rfl
 have h2 : FldEq P w 9999 f2 (Qp [l1.map u8, [i64 l2], l3.map u8]) (Qp [m1.map u8, [i64 m2], m3.map u8]) (l2 == m2) := Qn1 (d := 9998) [l1.map u8] [l3.map u8] [m1.map u8] [m3.map u8] n2 t2 o2 hI (by simp [a1]) (by simp [b1])
 have h3 : FldEq P w 9999 f3 (Qp [l1.map u8, [i64 l2], l3.map u8]) (Qp [m1.map u8, [i64 m2], m3.map u8]) (l3 == m3) := Qhd (d := 9997) [l1.map u8, [i64 l2]] [] [m1.map u8, [i64 m2]] [] n3 t3 o3 hA hiA hE hiE a3 b3 (by simp [a1]) (by simp [b1])
 exact run_eqS (d := 9999) ht hp (Qf4 h1 (Qf4 h2 (Qf4 h3 eqF_nil)))
theorem Qn7 {t t' A I E : TypeId} {f1 f2 f3 : Field} {z zA : Option Value} {kb kbA : Nat} {l1 l3 m1 m3 : Zj} {l2 m2 : Int} (ht : P.underlying t = some (.struct #[f1, f2, f3])) (hp : P.stoodInHeld t = false) (n1 : (f1.name == "_") = false) (n2 : (f2.name == "_") = false) (n3 : (f3.name == "_") = false) (t1 : f1.type = A) (t2 : f2.type = I) (t3 : f3.type = A) (o1 : f1.offset = 0) (o2 : f2.offset = 32) (o3 : f3.offset = 33)
  (hA : P.underlying A = some (.array 32 E)) (hiA : X4 P A = some (zA, 32, kbA)) (hE : P.underlying E = some (.int .u8)) (hiE : X4 P E = some (z, 1, kb)) (hI : P.underlying I = some (.int .i64)) (hg : P.eqGuardType P.depth t = false) (hx : Qg fr x = .agg (Qp [l1.map u8, [i64 l2], l3.map u8])) (hy : Qg fr y = .agg (Qp [m1.map u8, [i64 m2], m3.map u8])) (a1 : l1.length = 32) (a3 : l3.length = 32) (b1 : m1.length = 32) (b3 : m3.length = 32) :
  Yt P fr w (.binOp .neq t x y t') ty (bl (!(l1 == m1 && (l2 == m2 && (l3 == m3 && true))))) := Qhj hg (run_eq3 ht hp n1 n2 n3 t1 t2 t3 o1 o2 o3 hA hiA hE hiE hI a1 a3 b1 b3) hx hy
structure Pl where
 c : Zj
 n : Int
 h : c.length = 32
theorem Pl.ext' {a b : Pl} (h1 : a.c = b.c) (h2 : a.n = b.n) : a = b := by cases a; cases b; simp at h1 h2; subst h1 h2; rfl
instance : DecidableEq Pl := fun a b => if h : a.c = b.c ∧ a.n = b.n then .isTrue (Pl.ext' h.1 h.2) else .isFalse (fun e => h ⟨by rw [e], by rw [e]⟩)
theorem Qbs {a q b : Int} (k : Nat) {t t' : TypeId} (hx : Qg fr x = i64 a) (hy : Qg fr y = i64 b) (hq : a = q * (2 ^ k : Nat)) (h0 : 0 ≤ q) (h2 : a < 9223372036854775808) (h1 : 0 ≤ b ∧ b < (2 ^ k : Nat)) (hk : k < 63) : Yt P fr w (.binOp .or t x y t') ty (i64 (a + b)) :=
 Wh rfl hx hy (by
  obtain ⟨m, rfl⟩ : ∃ m : Nat, q = (m : Int) := ⟨q.toNat, by omega⟩
  obtain ⟨n, rfl⟩ : ∃ n : Nat, b = (n : Int) := ⟨b.toNat, by omega⟩
  have hq' : a = ((m * 2 ^ k : Nat) : Int) := by rw [hq]; push_cast; rfl
  have hm : m * 2 ^ k < 9223372036854775808 := by omega
  have hp : 2 ^ k ≤ 2 ^ 62 := Nat.pow_le_pow_right (by omega) (by omega)
  have ha : (BitVec.ofInt 64 a).toNat = m <<< k := by rw [BitVec.toNat_ofInt, Nat.shiftLeft_eq, hq']; omega
  have hb : (BitVec.ofInt 64 (n : Int)).toNat = n := by rw [BitVec.toNat_ofInt]; omega
  have e : U1 .or .i64 a (n : Int) = pure (.int .i64 (IntKind.i64.wrap ((BitVec.ofInt 64 a ||| BitVec.ofInt 64 (n : Int)).toNat : Int))) := rfl
  have h : (BitVec.ofInt 64 a ||| BitVec.ofInt 64 (n : Int)).toNat = m * 2 ^ k + n := by
   rw [BitVec.toNat_or, ha, hb, ← Nat.shiftLeft_add_eq_or_of_lt (show n < 2 ^ k by omega), Nat.shiftLeft_eq]
  have hc : ((m * 2 ^ k + n : Nat) : Int) = a + (n : Int) := by rw [hq']; push_cast; rfl
  have hb2 : a + (n : Int) < 9223372036854775808 := by
   have h3 : m * 2 ^ k + n < (m + 1) * 2 ^ k := by rw [Nat.add_mul]; omega
   have h4 : (m + 1) * 2 ^ k ≤ 9223372036854775808 := by
    have h5 : m < 2 ^ (63 - k) := by
     apply Nat.lt_of_mul_lt_mul_right (a := 2 ^ k); rw [← Nat.pow_add, show 63 - k + k = 63 by omega]; exact hm
    have h6 := Nat.mul_le_mul_right (2 ^ k) (show m + 1 ≤ 2 ^ (63 - k) from h5)
    rw [← Nat.pow_add, show 63 - k + k = 63 by omega] at h6; exact h6
   omega
  rw [e, h, hc, F6 (by omega) (by omega)]; rfl)
end
end --m
section
set_option linter.unusedVariables false
set_option linter.unusedSimpArgs false
structure Kp where
 c : Zj
 n : Int
 k : Zj
 hc : c.length = 32
 hk : k.length = 32
def Yz (a : Kp) : List Value := ([a.c.map u8, [i64 a.n], a.k.map u8] : List (List Value)).flatten
def Ep : Kp := ⟨List.replicate 32 0, 0, List.replicate 32 0, rfl, rfl⟩
theorem Qhl (a : Kp) : (Yz a).length = 65 := by simp [Yz, a.hc, a.hk]
theorem Qdn (a : Kp) : (Yz a).all (·.oneCell') = true := by
 simp only [Yz, List.flatten_cons, List.flatten_nil, List.append_nil, List.all_append, List.all_cons, List.all_nil, Bool.and_true]
 rw [Bool.and_eq_true, Bool.and_eq_true]
 refine ⟨?_, rfl, ?_⟩ <;> (rw [List.all_eq_true]; intro v hv; obtain ⟨a, _, rfl⟩ := List.mem_map.1 hv; rfl)
theorem kp_k (a : Kp) : (((Yz a).drop 33).take 32).toArray = cl u8 a.k := by
 have h : (a.c.map u8 ++ [i64 a.n]).length = 33 := by simp [a.hc]
 have e : Yz a = (a.c.map u8 ++ [i64 a.n]) ++ a.k.map u8 := by simp [Yz]
 rw [e, ← h, List.drop_left, List.take_of_length_le (by simp [a.hk])]; rfl
theorem kp_a (a : Kp) : (((Yz a).drop 0).take 65).toArray = Qp [a.c.map u8, [i64 a.n], a.k.map u8] := by
 rw [List.drop_zero, List.take_of_length_le (Nat.le_of_eq (Qhl a))]; rfl
def z32 : Zj := List.replicate 32 0
end --m
end Go.Proofs.YtkmiemlpfkfiiaaDoor
