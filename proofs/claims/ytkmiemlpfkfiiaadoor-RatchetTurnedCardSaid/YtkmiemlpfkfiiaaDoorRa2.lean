/- The ratchet: numbers, headers, copies. Conditions: none beyond those that each theorem states. -/
import Derived.Test.YtkmiemlpfkfiiaaDoorFwY
import Derived.Test.YtkmiemlpfkfiiaaDoorCu4
namespace Go.Proofs.YtkmiemlpfkfiiaaDoor
open BitVec renaming ofInt → aB, toNat_ofInt → bU
open List renaming append_assoc → aQ, append_nil → aZ, cons_append → aW, flatten_cons → dD, length_map → bH, nil_append → aX, replicate → aA
open Mem renaming back → dJ, give → dI, of_world → aY, pick → aC
open Rd renaming ofRest → aK
open Tryd
section
open Go.ChangeShapes Go.WideShapes Go.ChangeAt Go.RowKit
set_option linter.unusedVariables false
set_option linter.unusedSimpArgs false
set_option linter.unusedSectionVars false
section
variable {P : Program} {w : World} {fr : Nat → Value} {ty E : TypeId} {x y : Operand} {m : Nat → Option Obj} {v : Value} {k : Nat}
def slnil (v : Value) : Bool := match v with | .slice a _ _ => a.isNone | _ => false
theorem Qpg {β : Type} {enc : β → List Value} {l : List β} {t t' : TypeId} (h : RdK m enc k v l) (hu : P.underlying t = some (.slice E)) (hx : Ql fr x = v) (hy : Ql fr y = .slice none 0 0) : Jv P fr w (.binOp .eql t x y t') ty (bl (slnil v)) := by
 obtain ⟨a, cap, rfl, _, _⟩ := h.is
 exact Qid hu hx hy
theorem Qth {β : Type} {enc : β → List Value} {l : List β} (h : RdK m enc k v l) (hn : slnil v = true) : [] = l := by
 obtain ⟨a, cap, rfl, _, h2⟩ := h.is
 cases l with
 | nil => rfl
 | cons b l =>
  obtain ⟨q, off, c, E, fz, e, _⟩ := h2 0 Ya
  subst e
  simp [slnil] at hn
structure FldEq (P : Program) (w : World) (d : Nat) (f : Field) (xs ys : Array Value) (r : Bool) : Prop where
 name : (f.name == "_") = false
 is : ∃ a b, (part f.type xs f.offset).run P w = .ok a w ∧ (part f.type ys f.offset).run P w = .ok b w ∧ (Op.equalIn d f.type a b).run P w = .ok r w
theorem eqF_nil {d : Nat} {xs ys : Array Value} : (Op.eqFields d xs ys []).run P w = .ok true w := rfl
theorem Qkg {d : Nat} {xs ys : Array Value} {f : Field} {fs : List Field} {r q : Bool} (h : FldEq P w d f xs ys r) (h2 : (Op.eqFields d xs ys fs).run P w = .ok q w) : (Op.eqFields d xs ys (f :: fs)).run P w = .ok (r && q) w := by
 obtain ⟨hn, a, b, h3, h4, h5⟩ := h
 have hn' : f.name ≠ "_" := by simpa using hn
 unfold Op.eqFields
 rw [if_pos hn']
 simp only [Sem.run_bind, h3, h4, h5, Result.andThen_ok]
 cases r
 ·simp
 simpa using h2
theorem Ql0 {d : Nat} {f : Field} {K : TypeId} {z zK : Option Value} {n kb kbK off : Nat} (L1 L3 M1 M3 : List (List Value)) {l m : Z4} (hn : (f.name == "_") = false) (ht : f.type = K) (ho : f.offset = off) (hu : P.underlying K = some (.array n E)) (hiK : Ji P K = some (zK, n, kbK))
  (hE : P.underlying E = some (.int .u8)) (hi : Ji P E = some (z, 1, kb)) (a1 : l.length = n) (b1 : m.length = n) (h1 : L1.flatten.length = off) (h2 : M1.flatten.length = off) :
  FldEq P w (d + 2) f (Qy (L1 ++ (l.map u8 :: L3))) (Qy (M1 ++ (m.map u8 :: M3))) (l == m) := by
 refine ⟨hn, agg u8 l, agg u8 m, ?_, ?_, ?_⟩
 ·rw [ht, ho]; exact Qfz L1 L3 l hu rfl hiK h1 a1
 ·rw [ht, ho]; exact Qfz M1 M3 m hu rfl hiK h2 b1
 rw [ht]; exact Rz (P := P) (w := w) (d := d + 1) hu hi hE rfl (fun a b => Qp5 hE) a1 b1
theorem Qub {d : Nat} {f : Field} {K : TypeId} {off : Nat} (L1 L3 M1 M3 : List (List Value)) {l m : Int} (hn : (f.name == "_") = false) (ht : f.type = K) (ho : f.offset = off) (hu : P.underlying K = some (.int .i64)) (h1 : L1.flatten.length = off) (h2 : M1.flatten.length = off) :
  FldEq P w (d + 1) f (Qy (L1 ++ ([i64 l] :: L3))) (Qy (M1 ++ ([i64 m] :: M3))) (l == m) := by
 refine ⟨hn, i64 l, i64 m, ?_, ?_, ?_⟩
 ·rw [ht, ho]; exact Qlk hu rfl (Qfw L1 L3 _ h1)
 ·rw [ht, ho]; exact Qlk hu rfl (Qfw M1 M3 _ h2)
 rw [ht]; exact run_equalIn_int w d K .i64 .i64 l m hu
theorem run_eqS {t : TypeId} {fs : Array Field} {xs ys : Array Value} {r : Bool} {d : Nat} (ht : P.underlying t = some (.struct fs)) (hp : P.stoodInHeld t = false) (h : (Op.eqFields d xs ys fs.toList).run P w = .ok r w) : (Op.equalIn (d + 1) t (.agg xs) (.agg ys)).run P w = .ok r w := by
 have hf : P.fieldsOf t = fs := by unfold Program.fieldsOf; simp [ht]
 rw [run_equalIn_struct w d t _ _ (by rw [hf]; exact ht) hp, hf]; exact h
theorem run_eq3 {t A I E : TypeId} {f1 f2 f3 : Field} {z zA : Option Value} {kb kbA : Nat} {l1 l3 m1 m3 : Z4} {l2 m2 : Int} (ht : P.underlying t = some (.struct #[f1, f2, f3])) (hp : P.stoodInHeld t = false) (n1 : (f1.name == "_") = false) (n2 : (f2.name == "_") = false) (n3 : (f3.name == "_") = false) (t1 : f1.type = A) (t2 : f2.type = I) (t3 : f3.type = A) (o1 : f1.offset = 0) (o2 : f2.offset = 32) (o3 : f3.offset = 33)
  (hA : P.underlying A = some (.array 32 E)) (hiA : Ji P A = some (zA, 32, kbA)) (hE : P.underlying E = some (.int .u8)) (hiE : Ji P E = some (z, 1, kb)) (hI : P.underlying I = some (.int .i64)) (a1 : l1.length = 32) (a3 : l3.length = 32) (b1 : m1.length = 32) (b3 : m3.length = 32) :
  (Op.equalIn (9999 + 1) t (.agg (Qy [l1.map u8, [i64 l2], l3.map u8])) (.agg (Qy [m1.map u8, [i64 m2], m3.map u8]))).run P w = .ok (l1 == m1 && (l2 == m2 && (l3 == m3 && true))) w := by
 have h1 : FldEq P w 9999 f1 (Qy [l1.map u8, [i64 l2], l3.map u8]) (Qy [m1.map u8, [i64 m2], m3.map u8]) (l1 == m1) := Ql0 (d := 9997) [] [[i64 l2], l3.map u8] [] [[i64 m2], m3.map u8] n1 t1 o1 hA hiA hE hiE a1 b1 rfl rfl
 have h2 : FldEq P w 9999 f2 (Qy [l1.map u8, [i64 l2], l3.map u8]) (Qy [m1.map u8, [i64 m2], m3.map u8]) (l2 == m2) := Qub (d := 9998) [l1.map u8] [l3.map u8] [m1.map u8] [m3.map u8] n2 t2 o2 hI (by simp [a1]) (by simp [b1])
 have h3 : FldEq P w 9999 f3 (Qy [l1.map u8, [i64 l2], l3.map u8]) (Qy [m1.map u8, [i64 m2], m3.map u8]) (l3 == m3) := Ql0 (d := 9997) [l1.map u8, [i64 l2]] [] [m1.map u8, [i64 m2]] [] n3 t3 o3 hA hiA hE hiE a3 b3 (by simp [a1]) (by simp [b1])
 exact run_eqS (d := 9999) ht hp (Qkg h1 (Qkg h2 (Qkg h3 eqF_nil)))
theorem Quh {t t' A I E : TypeId} {f1 f2 f3 : Field} {z zA : Option Value} {kb kbA : Nat} {l1 l3 m1 m3 : Z4} {l2 m2 : Int} (ht : P.underlying t = some (.struct #[f1, f2, f3])) (hp : P.stoodInHeld t = false) (n1 : (f1.name == "_") = false) (n2 : (f2.name == "_") = false) (n3 : (f3.name == "_") = false) (t1 : f1.type = A) (t2 : f2.type = I) (t3 : f3.type = A) (o1 : f1.offset = 0) (o2 : f2.offset = 32) (o3 : f3.offset = 33)
  (hA : P.underlying A = some (.array 32 E)) (hiA : Ji P A = some (zA, 32, kbA)) (hE : P.underlying E = some (.int .u8)) (hiE : Ji P E = some (z, 1, kb)) (hI : P.underlying I = some (.int .i64)) (hg : P.eqGuardType P.depth t = false) (hx : Ql fr x = .agg (Qy [l1.map u8, [i64 l2], l3.map u8])) (hy : Ql fr y = .agg (Qy [m1.map u8, [i64 m2], m3.map u8])) (a1 : l1.length = 32) (a3 : l3.length = 32) (b1 : m1.length = 32) (b3 : m3.length = 32) :
  Jv P fr w (.binOp .neq t x y t') ty (bl (!(l1 == m1 && (l2 == m2 && (l3 == m3 && true))))) := Ql7 hg (run_eq3 ht hp n1 n2 n3 t1 t2 t3 o1 o2 o3 hA hiA hE hiE hI a1 a3 b1 b3) hx hy
structure Pl where
 c : Z4
 n : Int
 h : c.length = 32
theorem Pl.ext' {a b : Pl} (h1 : a.c = b.c) (h2 : a.n = b.n) : a = b := by cases a; cases b; simp at h1 h2; subst h1 h2; rfl
instance : DecidableEq Pl := fun a b => if h : a.c = b.c ∧ a.n = b.n then .isTrue (Pl.ext' h.1 h.2) else .isFalse (fun e => h ⟨by rw [e], by rw [e]⟩)
theorem Qfa {a q b : Int} (k : Nat) {t t' : TypeId} (hx : Ql fr x = i64 a) (hy : Ql fr y = i64 b) (hq : a = q * (2 ^ k : Nat)) (h0 : 0 ≤ q) (h2 : a < 9223372036854775808) (h1 : 0 ≤ b ∧ b < (2 ^ k : Nat)) (hk : k < 63) : Jv P fr w (.binOp .or t x y t') ty (i64 (a + b)) :=
 V7 rfl hx hy (by
  obtain ⟨m, rfl⟩ : ∃ m : Nat, q = (m : Int) := ⟨q.toNat, by omega⟩
  obtain ⟨n, rfl⟩ : ∃ n : Nat, b = (n : Int) := ⟨b.toNat, by omega⟩
  have hq' : a = ((m * 2 ^ k : Nat) : Int) := by rw [hq]; push_cast; rfl
  have hm : m * 2 ^ k < 9223372036854775808 := by omega
  have hp : 2 ^ k ≤ 2 ^ 62 := Nat.pow_le_pow_right (by omega) (by omega)
  have ha : (aB 64 a).toNat = m <<< k := by rw [bU, Nat.shiftLeft_eq, hq']; omega
  have hb : (aB 64 (n : Int)).toNat = n := by rw [bU]; omega
  have e : E8 .or .i64 a (n : Int) = pure (.int .i64 (IntKind.i64.wrap ((aB 64 a ||| aB 64 (n : Int)).toNat : Int))) := rfl
  have h : (aB 64 a ||| aB 64 (n : Int)).toNat = m * 2 ^ k + n := by
   rw [BitVec.toNat_or, ha, hb, ← Nat.shiftLeft_add_eq_or_of_lt (show n < 2 ^ k by omega), Nat.shiftLeft_eq]
  have hc : ((m * 2 ^ k + n : Nat) : Int) = a + (n : Int) := by rw [hq']; push_cast; rfl
  have hb2 : a + (n : Int) < 9223372036854775808 := by
   have h3 : m * 2 ^ k + n < (m + 1) * 2 ^ k := by rw [Nat.add_mul]; omega
   have h4 : (m + 1) * 2 ^ k ≤ 9223372036854775808 := by
    have h5 : m < 2 ^ (63 - k) := by
     apply Nat.lt_of_mul_lt_mul_right (a := 2 ^ k); rw [← Nat.pow_add, show 63 - k + k = 63 by omega]; exact hm
    have h6 := Nat.mul_le_mul_right (2 ^ k) (show m + 1 ≤ 2 ^ (63 - k) from h5)
    rw [← Nat.pow_add, show 63 - k + k = 63 by omega] at h6; exact h6
   omega
  rw [e, h, hc, Hw (by omega) (by omega)]; rfl)
end
end --m
section
set_option linter.unusedVariables false
set_option linter.unusedSimpArgs false
structure Kp where
 c : Z4
 n : Int
 k : Z4
 hc : c.length = 32
 hk : k.length = 32
def Jl (a : Kp) : List Value := ([a.c.map u8, [i64 a.n], a.k.map u8] : List (List Value)).flatten
def Dz : Kp := ⟨aA 32 0, 0, aA 32 0, rfl, rfl⟩
theorem Qhm (a : Kp) : (Jl a).length = 65 := by simp [Jl, a.hc, a.hk]
theorem Pz (a : Kp) : (Jl a).all (·.oneCell') = true := by
 simp only [Jl, dD, List.flatten_nil, aZ, List.all_append, List.all_cons, List.all_nil, Bool.and_true]
 rw [Bool.and_eq_true, Bool.and_eq_true]
 refine ⟨?_, rfl, ?_⟩ <;> (rw [List.all_eq_true]; intro v hv; obtain ⟨a, _, rfl⟩ := List.mem_map.1 hv; rfl)
theorem kp_n (a : Kp) : (Jl a)[32]? = some (i64 a.n) := by
 have h : (a.c.map u8).length = 32 := by rw [bH, a.hc]
 simp only [Jl, dD, List.flatten_nil, aZ]
 rw [List.getElem?_append_right oM, h]; rfl
theorem kp_c (a : Kp) : (((Jl a).drop 0).take 32).toArray = cl u8 a.c := by
 have h : (a.c.map u8).length = 32 := by rw [bH, a.hc]
 simp only [Jl, dD, List.flatten_nil, aZ, List.drop_zero]
 rw [← h, List.take_left]; rfl
theorem kp_k (a : Kp) : (((Jl a).drop 33).take 32).toArray = cl u8 a.k := by
 have h : (a.c.map u8 ++ [i64 a.n]).length = 33 := by simp [a.hc]
 have e : Jl a = (a.c.map u8 ++ [i64 a.n]) ++ a.k.map u8 := by simp [Jl]
 rw [e, ← h, List.drop_left, List.take_of_length_le (by simp [a.hk])]; rfl
theorem kp_a (a : Kp) : (((Jl a).drop 0).take 65).toArray = Qy [a.c.map u8, [i64 a.n], a.k.map u8] := by
 rw [List.drop_zero, List.take_of_length_le (Nat.le_of_eq (Qhm a))]; rfl
def z32 : Z4 := aA 32 0
end --m
section
set_option linter.unusedVariables false
set_option linter.unusedSimpArgs false
def Si (n : Int) : Z4 := [aB 8 (n / 16777216), aB 8 (n / 65536), aB 8 (n / 256), aB 8 n]
@[simp] theorem Qow (n : Int) : (Si n).length = 4 := rfl
def We (b : Z4) : Int := ((b.getD 0 0).toNat : Int) * 16777216 + ((b.getD 1 0).toNat : Int) * 65536 + ((b.getD 2 0).toNat : Int) * 256 + ((b.getD 3 0).toNat : Int)
def Gv (c : Z4) (p n : Int) : Z4 := (c ++ Si p) ++ Si n
theorem Qhh {c : Z4} {p n : Int} (h : c.length = 32) : (Gv c p n).length = 40 := by simp [Gv, Qow, h]
set_option maxHeartbeats 2000000 in
theorem c_put4 (vo : Value) (lo : Z4) (Ho : List (Nat × Obj)) (n : Int) (w0 : World) (R : Rest) (m0 : Mem w0 R (Ho ++ ([]))) (go : Z9 u8 5 vo lo Ho) (hlo : lo.length ≤ 1048576) (hn0 : 0 ≤ n ∧ n ≤ 2147483647) : Xz prog 44 #[vo, (i64 n)] w0 (fun r w1 => ∃ Hs, Z9 u8 5 r (lo ++ Si n) Hs ∧ Mem w1 R Hs) := by
 refine Qz (args := [vo, (i64 n)]) func44 rfl ntmps44 results44 rfl <| sR <| Zx J3 ?_
 refine rN (sR ?_)
 refine Zm vo <| Zm (i64 n) <| Qd (Ai (p := 16777216) (b := 24) rfl rfl rfl Yx Yx) <| Qd (Fq ⟨_, Fa⟩ V3 rfl) <| Zm (i64 n) <| Qd (Ai (p := 65536) (b := 16) rfl rfl rfl Yx Yx) <| Qd (Fq ⟨_, Fa⟩ V3 rfl) <| Zm (i64 n) <| Qd (Ai (p := 256) (b := 8) rfl rfl rfl Yx Yx) <| Qd (Fq ⟨_, Fa⟩ V3 rfl) <| Zm (i64 n) <| Qd (Fq ⟨_, Fa⟩ V3 rfl) ?_
 refine Y5 (Qp u8 [aB 8 (n / 16777216), aB 8 (n / 65536), aB 8 (n / 256), aB 8 n] Qr m0 Zn Yr rfl rfl rfl) fun w1 b17 m1 => Vr (Xh (f := u8) (Hs := Ho) (H := [_]) (aC [_] Ho _ m1) go rfl rfl (Rd.mkA m1.h0) Zn Zn Yr rfl Qr sL sL) ?_
 rintro sv2 w2 ⟨Hs2, m2, g2⟩
 replace g2 : Z9 u8 5 sv2 (lo ++ ([aB 8 (n / 16777216), aB 8 (n / 65536), aB 8 (n / 256), aB 8 n])) Hs2 := g2
 refine Zx sv2 ?_
 refine rN (Z8 ?_)
 refine Qq [sv2] ⟨rfl, trivial⟩ ?_
 have m3 := Mem.drop [_] _ (aC Hs2 [_] _ m2)
 exact ⟨Hs2, Z9.cast g2 rfl, (by
  have hT := m3
  try simp only [aQ, aW, aX, aZ] at hT ⊢
  exact hT)⟩
set_option maxHeartbeats 2000000 in
theorem c_get4 (v : Value) (b : Z4) (w0 : World)  (hb : Rd (Jd w0) u8 v b) (hb4 : 4 ≤ b.length) : Xz prog 46 #[v] w0 (fun r w1 => r = (i64 (We b)) ∧ Ext w0 w1) := by
 refine Qz (args := [v]) func46 rfl ntmps46 results46 rfl ?_
 have m0 : Mem w0 (Qs w0) [] := aY w0
 refine sR <| Zx (i64 0) ?_
 refine rN (Qa ?_)
 refine Xi (dl 21) 21 Xv <| J7 rfl v <| Yj rfl (fun _ e' => Zo (i := 0) (aK hb (m0.ext e')) Zn Yr rfl rfl oM sL) <| Yj (v := (u8 (b.getD 0 0))) rfl (fun _ e' => Xy (l := b) (i := 0) (dflt := 0) (aK hb (m0.ext e')) V3 rfl oM sL rfl) <| X4 rfl (Gm ⟨_, V3⟩ Fa rfl) <| X4 rfl (Qa6 (p := 16777216) (b := 24) rfl rfl rfl Yx Yx oM oM) <| J7 rfl v <| Yj rfl (fun _ e' => Zo (i := 1) (aK hb (m0.ext e')) Zn Yr rfl rfl oM sL) <| Yj (v := (u8 (b.getD 1 0))) rfl (fun _ e' => Xy (l := b) (i := 1) (dflt := 0) (aK hb (m0.ext e')) V3 rfl oM sL rfl) <| X4 rfl (Gm ⟨_, V3⟩ Fa rfl) <| X4 rfl (Qa6 (p := 65536) (b := 16) rfl rfl rfl Yx Yx oM oM) <| X4 rfl (Qfa (a := (((b.getD 0 0).toNat : Int) * 16777216)) (q := ((b.getD 0 0).toNat : Int)) (b := (((b.getD 1 0).toNat : Int) * 65536)) 24 rfl rfl oM oM oM oM Yx) ?_
 refine J7 rfl v <| Yj rfl (fun _ e' => Zo (i := 2) (aK hb (m0.ext e')) Zn Yr rfl rfl oM sL) <| Yj (v := (u8 (b.getD 2 0))) rfl (fun _ e' => Xy (l := b) (i := 2) (dflt := 0) (aK hb (m0.ext e')) V3 rfl oM sL rfl) <| X4 rfl (Gm ⟨_, V3⟩ Fa rfl) <| X4 rfl (Qa6 (p := 256) (b := 8) rfl rfl rfl Yx Yx oM oM) <| X4 rfl (Qfa (a := (((b.getD 0 0).toNat : Int) * 16777216 + ((b.getD 1 0).toNat : Int) * 65536)) (q := (((b.getD 0 0).toNat : Int) * 256 + ((b.getD 1 0).toNat : Int))) (b := (((b.getD 2 0).toNat : Int) * 256)) 16 rfl rfl oM oM oM oM Yx) <| J7 rfl v <| Yj rfl (fun _ e' => Zo (i := 3) (aK hb (m0.ext e')) Zn Yr rfl rfl oM sL) <| Yj (v := (u8 (b.getD 3 0))) rfl (fun _ e' => Xy (l := b) (i := 3) (dflt := 0) (aK hb (m0.ext e')) V3 rfl oM sL rfl) <| X4 rfl (Gm ⟨_, V3⟩ Fa rfl) <| Gf m0 fun w1 m1 => Qd (Qfa (a := (((b.getD 0 0).toNat : Int) * 16777216 + ((b.getD 1 0).toNat : Int) * 65536 + ((b.getD 2 0).toNat : Int) * 256)) (q := ((((b.getD 0 0).toNat : Int) * 256 + ((b.getD 1 0).toNat : Int)) * 256 + ((b.getD 2 0).toNat : Int))) (b := ((b.getD 3 0).toNat : Int)) 8 rfl rfl oM oM oM oM Yx) <| Tc rfl ?_
 refine rN (Z8 ?_)
 refine Qq [(i64 (((b.getD 0 0).toNat : Int) * 16777216 + ((b.getD 1 0).toNat : Int) * 65536 + ((b.getD 2 0).toNat : Int) * 256 + ((b.getD 3 0).toNat : Int)))] ⟨rfl, trivial⟩ ?_
 exact ⟨congrArg i64 (by unfold We; first | rfl | (simp only [Int.mul_comm 16777216, Int.mul_comm 65536, Int.mul_comm 256])), m1.toExt⟩
set_option maxHeartbeats 2000000 in
theorem Qs3 (v : Value) (b : Z4) (w0 : World)  (hb : Rd (Jd w0) u8 v b) (hb4 : 4 ≤ b.length) : Xz prog 48 #[v] w0 (fun r w1 => r = (i64 (We b)) ∧ Ext w0 w1) := by
 refine Qz (args := [v]) func48 rfl ntmps48 results48 rfl ?_
 have m0 : Mem w0 (Qs w0) [] := aY w0
 refine sR <| Zx (i64 0) ?_
 refine rN (Qa ?_)
 refine Xi (dl 21) 21 Xv <| J7 rfl v <| Yj rfl (fun _ e' => Zo (i := 0) (aK hb (m0.ext e')) Zn Yr rfl rfl oM sL) <| Yj (v := (u8 (b.getD 0 0))) rfl (fun _ e' => Xy (l := b) (i := 0) (dflt := 0) (aK hb (m0.ext e')) V3 rfl oM sL rfl) <| X4 rfl (Gm ⟨_, V3⟩ Fa rfl) <| X4 rfl (Ku (a := 16777216) rfl rfl oM oM) <| J7 rfl v <| Yj rfl (fun _ e' => Zo (i := 1) (aK hb (m0.ext e')) Zn Yr rfl rfl oM sL) <| Yj (v := (u8 (b.getD 1 0))) rfl (fun _ e' => Xy (l := b) (i := 1) (dflt := 0) (aK hb (m0.ext e')) V3 rfl oM sL rfl) <| X4 rfl (Gm ⟨_, V3⟩ Fa rfl) <| X4 rfl (Ku (a := 65536) rfl rfl oM oM) <| X4 rfl (Zg rfl rfl oM oM) ?_
 refine J7 rfl v <| Yj rfl (fun _ e' => Zo (i := 2) (aK hb (m0.ext e')) Zn Yr rfl rfl oM sL) <| Yj (v := (u8 (b.getD 2 0))) rfl (fun _ e' => Xy (l := b) (i := 2) (dflt := 0) (aK hb (m0.ext e')) V3 rfl oM sL rfl) <| X4 rfl (Gm ⟨_, V3⟩ Fa rfl) <| X4 rfl (Ku (a := 256) rfl rfl oM oM) <| X4 rfl (Zg rfl rfl oM oM) <| J7 rfl v <| Yj rfl (fun _ e' => Zo (i := 3) (aK hb (m0.ext e')) Zn Yr rfl rfl oM sL) <| Yj (v := (u8 (b.getD 3 0))) rfl (fun _ e' => Xy (l := b) (i := 3) (dflt := 0) (aK hb (m0.ext e')) V3 rfl oM sL rfl) <| X4 rfl (Gm ⟨_, V3⟩ Fa rfl) <| Gf m0 fun w1 m1 => Qd (Zg rfl rfl oM oM) <| Tc rfl ?_
 refine rN (Z8 ?_)
 refine Qq [(i64 ((((16777216 * ((b.getD 0 0).toNat : Int)) + (65536 * ((b.getD 1 0).toNat : Int))) + (256 * ((b.getD 2 0).toNat : Int))) + ((b.getD 3 0).toNat : Int)))] ⟨rfl, trivial⟩ ?_
 exact ⟨congrArg i64 (by unfold We; first | rfl | (simp only [Int.mul_comm 16777216, Int.mul_comm 65536, Int.mul_comm 256])), m1.toExt⟩
set_option maxHeartbeats 2000000 in
theorem c_header (c : Z4) (p n : Int) (w0 : World)  (hc : c.length = 32) (hp : 0 ≤ p ∧ p ≤ 2147483647) (hn : 0 ≤ n ∧ n ≤ 2147483647) : Xz prog 30 #[(Value.agg (Qy (sH c p n)))] w0 (fun r w1 => ∃ Hs, Z9 u8 5 r (Gv c p n) Hs ∧ Mem w1 (Qs w0) Hs) := by
 refine Qz (args := [(Value.agg (Qy (sH c p n)))]) func30 rfl ntmps30 results30 rfl ?_
 have m0 : Mem w0 (Qs w0) [] := aY w0
 refine sR <| Y5 (Fz (cs := (Qy (sH c p n))) m0 rfl) fun w1 b1 m1 => Zx J3 ?_
 refine rN (Qa ?_)
 refine Jy Xv ?_
 have hFM2 : Mem w1 (Qs w0) ([] ++ [(b1, .cells (Qy (sH c p n)) 53 (0, 0))]) := m1
 obtain ⟨RM2, hRM2⟩ : ∃ R2, R2 = Rest.add (Qs w0) [(b1, .cells (Qy (sH c p n)) 53 (0, 0))] := ⟨_, rfl⟩
 have M20 : Mem w1 RM2 [] := by rw [hRM2]; exact dI hFM2
 have ho3 : RM2.blk b1 = some (.cells (Qy (sH c p n)) 53 (0, 0)) := by rw [hRM2]; exact Mem.addOwn hFM2 (List.Mem.head _)
 refine Dk M20 [(0, false), (1, false), (3, false), (4, false), (6, false), (7, false), (2, true), (5, true)] 8 rfl Xv <| N8 rfl (Zl (r := 0) F8 rfl Jj Zh rfl rfl) <| N8 rfl (Xj (i := 0) (j := 32) Xn Yr rfl (Zd _ _) (Zd _ _) oM sL sL) <| N8 rfl (Zl (r := 32) F8 rfl Jj Uw rfl rfl) <| yqH rfl (fun w _H _hx => Y2 1 Fa rfl (_hx.rest _ _ ho3) rfl) <| N8 rfl (Zl (r := 33) F8 rfl Jj Uw rfl rfl) <| yqH rfl (fun w _H _hx => Y2 2 Fa rfl (_hx.rest _ _ ho3) rfl) ?_
 refine Qfb rfl rfl (fun w4 e4 => ?_)
 have m4 := M20.ext e4
 refine Vf.mono (oc34 (Jz rfl) (Qco (sla b1 0 1 0 32 32) c _ (Rd.sgA 0 (m4.rest _ _ ho3) rfl) sL)) ?_
 rintro rq6 w5 ⟨Hsq6, grq6, k_w5⟩
 have m5 : Mem _ _ (Hsq6 ++ ([])) := Mem.new (H := []) (H' := Hsq6) m4 k_w5
 refine ⟨⟨_, m5⟩, ?_⟩
 refine Qfb rfl rfl (fun w7 e7 => ?_)
 have m7 := m5.ext e7
 have hF9 : Mem w7 RM2 ((Hsq6 ++ ([])) ++ ([])) := by
  have hT := m7
  try simp only [aQ, aW, aX, aZ] at hT ⊢
  exact hT
 refine Vf.mono (oc44 (Xl rfl rfl) (c_put4 rq6 c Hsq6 p _ _ (dI hF9) grq6 sL sL)) ?_
 rintro rq10 w8 ⟨Hsq10, grq10, k_w8⟩
 have m8 : Mem w8 RM2 (Hsq10 ++ ([])) := ymA (dJ hF9 k_w8)
 refine ⟨⟨_, m8⟩, ?_⟩
 refine Gf m8 fun w11 m11 => ?_
 have hX12 := m11
 rw [hRM2] at hX12
 have m13 : Mem w11 (Qs w0) (Hsq10 ++ ([(b1, .cells (Qy (sH c p n)) 53 (0, 0))])) := ymA (dJ hFM2 hX12)
 have hF15 : Mem w11 (Qs w0) ((Hsq10 ++ ([])) ++ ([(b1, .cells (Qy (sH c p n)) 53 (0, 0))])) := by
  have hT := m13
  try simp only [aQ, aW, aX, aZ] at hT ⊢
  exact hT
 refine Vr (oc44 (Xl rfl rfl) (c_put4 rq10 (c ++ Si p) Hsq10 n _ _ (dI hF15) grq10 sL sL)) ?_
 rintro rq16 w14 ⟨Hsq16, grq16, k_w14⟩
 have m14 : Mem w14 (Qs w0) (Hsq16 ++ ([(b1, .cells (Qy (sH c p n)) 53 (0, 0))])) := ymA (dJ hF15 k_w14)
 refine Zx rq16 ?_
 refine rN (Z8 ?_)
 refine Qq [rq16] ⟨rfl, trivial⟩ ?_
 have m17 := Mem.drop [_] _ (aC Hsq16 [_] _ m14)
 exact ⟨Hsq16, Z9.cast grq16 (by simp [Gv]), (by
  have hT := m17
  try simp only [aQ, aW, aX, aZ] at hT ⊢
  exact hT)⟩
set_option maxHeartbeats 2000000 in
theorem Qpt (v : Value) (l : List Kp) (w0 : World)  (hr : RdK (Jd w0) Jl 65 v l) (hl : l.length ≤ 1048576) : Xz prog 29 #[v] w0 (fun r w1 => ∃ Hs, Yu Jl 65 69 r l Hs ∧ Mem w1 (Qs w0) Hs) := by
 refine Qz (args := [v]) func29 rfl ntmps29 results29 rfl ?_
 have m0 : Mem w0 (Qs w0) [] := aY w0
 refine sR <| Zx J3 ?_
 refine rN (Qa (sR ?_))
 refine Zm v <| Qd (Qpg (RdK.ofRest hr m0) Gi rfl rfl) <| rN ?_
 refine Zz rfl (fun hc1 => ?_) (fun hc1 => ?_)
 ·
  refine sR <| Zx J3 ?_
  refine rN (Z8 (Yz ?_))
  refine Qq [J3] ⟨rfl, trivial⟩ ?_
  exact ⟨[], Yu.cast (Yu.none Jl 65 69) (Qth hr hc1), m0⟩
 ·
  refine Qo (Qc (sR ?_))
  refine Y5 (Cj (c := #[]) m0 Gi Ac rfl Vt Xv) fun w2 b5 m2 => ?_
  have m2 : Mem w2 (Qs w0) [(b5, .cells #[] 69 (0, 0))] := m2
  refine Zm v <| Vr (Ae (enc := Jl) (k := 65) (Hs := [(b5, .cells #[] 69 (0, 0))]) (H := []) m2 (Yu.of Jl 65 69 b5 [] rfl Ya) rfl rfl (RdK.ofRest hr m2) Gi Gi Ac rfl rfl (fun a _ => Pz a) sL sL) ?_
  rintro sv3 w3 ⟨Hs3, m3, g3⟩
  replace g3 : Yu Jl 65 69 sv3 l Hs3 := g3
  refine Zx sv3 ?_
  refine rN (Z8 ?_)
  refine Qq [sv3] ⟨rfl, trivial⟩ ?_
  exact ⟨Hs3, Yu.cast g3 Ya, by simpa using m3⟩
end --m
end Go.Proofs.YtkmiemlpfkfiiaaDoor
