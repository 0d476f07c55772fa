/- The framework, part f: structs of rows of bytes and of numbers: equality, and as a map's key; parts of elements. Conditions: none. -/
import Derived.Test.YtkmiemlpfkfiiaaDoorFwS
import Derived.Test.YtkmiemlpfkfiiaaDoorFwY
namespace Go.Proofs.YtkmiemlpfkfiiaaDoor
open Go.ChangeShapes Go.WideShapes Go.ChangeAt Go.RowKit
set_option linter.unusedVariables false
set_option linter.unusedSimpArgs false
set_option linter.unusedSectionVars false
section
variable {P : Program} {w : World} {fr : Nat → Value} {ty E : TypeId} {x y : Operand} {m : Nat → Option Obj} {v : Value} {k : Nat}
def slnil (v : Value) : Bool := match v with | .slice a _ _ => a.isNone | _ => false
theorem Qfk {β : Type} {enc : β → List Value} {l : List β} {t t' : TypeId} (h : RdK m enc k v l) (hu : P.underlying t = some (.slice E)) (hx : Qq fr x = v) (hy : Qq fr y = .slice none 0 0) : Ja P fr w (.binOp .eql t x y t') ty (bl (slnil v)) := by
  obtain ⟨a, cap, rfl, _, _⟩ := h.is
  exact Qbv hu hx hy
theorem Qg8 {β : Type} {enc : β → List Value} {l : List β} (h : RdK m enc k v l) (hn : slnil v = true) : [] = l := by
  obtain ⟨a, cap, rfl, _, h2⟩ := h.is
  cases l with
  | nil => rfl
  | cons b l =>
    obtain ⟨q, off, c, E, fz, e, _⟩ := h2 0 (by simp)
    subst e
    simp [slnil] at hn
structure FldEq (P : Program) (w : World) (d : Nat) (f : Field) (xs ys : Array Value) (r : Bool) : Prop where
  name : (f.name == "_") = false
  is : ∃ a b, (part f.type xs f.offset).run P w = .ok a w ∧ (part f.type ys f.offset).run P w = .ok b w ∧ (Op.equalIn d f.type a b).run P w = .ok r w
theorem Qgz {d : Nat} {xs ys : Array Value} : (Op.eqFields d xs ys []).run P w = .ok true w := rfl
theorem Nc {d : Nat} {xs ys : Array Value} {f : Field} {fs : List Field} {r q : Bool} (h : FldEq P w d f xs ys r) (h2 : (Op.eqFields d xs ys fs).run P w = .ok q w) : (Op.eqFields d xs ys (f :: fs)).run P w = .ok (r && q) w := by
  obtain ⟨hn, a, b, h3, h4, h5⟩ := h
  have hn' : f.name ≠ "_" := by simpa using hn
  unfold Op.eqFields
  rw [if_pos hn']
  simp only [Sem.run_bind, h3, h4, h5, Result.andThen_ok]
  cases r
  · simp
  · simpa using h2
theorem Qa8 {d : Nat} {f : Field} {K : TypeId} {z zK : Option Value} {n kb kbK off : Nat} (L1 L3 M1 M3 : List (List Value)) {l m : List (BitVec 8)} (hn : (f.name == "_") = false) (ht : f.type = K) (ho : f.offset = off) (hu : P.underlying K = some (.array n E)) (hiK : Yp P K = some (zK, n, kbK))
    (hE : P.underlying E = some (.int .u8)) (hi : Yp P E = some (z, 1, kb)) (a1 : l.length = n) (b1 : m.length = n) (h1 : L1.flatten.length = off) (h2 : M1.flatten.length = off) :
    FldEq P w (d + 2) f (Qr (L1 ++ (l.map u8 :: L3))) (Qr (M1 ++ (m.map u8 :: M3))) (l == m) := by
  refine ⟨hn, agg u8 l, agg u8 m, ?_, ?_, ?_⟩
  · rw [ht, ho]; exact Am L1 L3 l hu rfl hiK h1 a1
  · rw [ht, ho]; exact Am M1 M3 m hu rfl hiK h2 b1
  · rw [ht]; exact E8 (P := P) (w := w) (d := d + 1) hu hi hE rfl (fun a b => Qfy hE) a1 b1
theorem Qdu {d : Nat} {f : Field} {K : TypeId} {off : Nat} (L1 L3 M1 M3 : List (List Value)) {l m : Int} (hn : (f.name == "_") = false) (ht : f.type = K) (ho : f.offset = off) (hu : P.underlying K = some (.int .i64)) (h1 : L1.flatten.length = off) (h2 : M1.flatten.length = off) :
    FldEq P w (d + 1) f (Qr (L1 ++ ([i64 l] :: L3))) (Qr (M1 ++ ([i64 m] :: M3))) (l == m) := by
  refine ⟨hn, i64 l, i64 m, ?_, ?_, ?_⟩
  · rw [ht, ho]; exact Qaw hu rfl (Sz L1 L3 _ h1)
  · rw [ht, ho]; exact Qaw hu rfl (Sz M1 M3 _ h2)
  · rw [ht]; exact run_equalIn_int w d K .i64 .i64 l m hu
theorem Qgq {t : TypeId} {fs : Array Field} {xs ys : Array Value} {r : Bool} {d : Nat} (ht : P.underlying t = some (.struct fs)) (hp : P.stoodInHeld t = false) (h : (Op.eqFields d xs ys fs.toList).run P w = .ok r w) : (Op.equalIn (d + 1) t (.agg xs) (.agg ys)).run P w = .ok r w := by
  have hf : P.fieldsOf t = fs := by unfold Program.fieldsOf; simp [ht]
  rw [run_equalIn_struct w d t _ _ (by rw [hf]; exact ht) hp, hf]; exact h
theorem run_eq3 {t A I E : TypeId} {f1 f2 f3 : Field} {z zA : Option Value} {kb kbA : Nat} {l1 l3 m1 m3 : List (BitVec 8)} {l2 m2 : Int} (ht : P.underlying t = some (.struct #[f1, f2, f3])) (hp : P.stoodInHeld t = false) (n1 : (f1.name == "_") = false) (n2 : (f2.name == "_") = false) (n3 : (f3.name == "_") = false) (t1 : f1.type = A) (t2 : f2.type = I) (t3 : f3.type = A) (o1 : f1.offset = 0) (o2 : f2.offset = 32) (o3 : f3.offset = 33)
    (hA : P.underlying A = some (.array 32 E)) (hiA : Yp P A = some (zA, 32, kbA)) (hE : P.underlying E = some (.int .u8)) (hiE : Yp P E = some (z, 1, kb)) (hI : P.underlying I = some (.int .i64)) (a1 : l1.length = 32) (a3 : l3.length = 32) (b1 : m1.length = 32) (b3 : m3.length = 32) :
    (Op.equalIn (9999 + 1) t (.agg (Qr [l1.map u8, [i64 l2], l3.map u8])) (.agg (Qr [m1.map u8, [i64 m2], m3.map u8]))).run P w = .ok (l1 == m1 && (l2 == m2 && (l3 == m3 && true))) w := by
  have h1 : FldEq P w 9999 f1 (Qr [l1.map u8, [i64 l2], l3.map u8]) (Qr [m1.map u8, [i64 m2], m3.map u8]) (l1 == m1) := Qa8 (d := 9997) [] [[i64 l2], l3.map u8] [] [[i64 m2], m3.map u8] n1 t1 o1 hA hiA hE hiE a1 b1 rfl rfl
  have h2 : FldEq P w 9999 f2 (Qr [l1.map u8, [i64 l2], l3.map u8]) (Qr [m1.map u8, [i64 m2], m3.map u8]) (l2 == m2) := Qdu (d := 9998) [l1.map u8] [l3.map u8] [m1.map u8] [m3.map u8] n2 t2 o2 hI (by simp [a1]) (by simp [b1])
  have h3 : FldEq P w 9999 f3 (Qr [l1.map u8, [i64 l2], l3.map u8]) (Qr [m1.map u8, [i64 m2], m3.map u8]) (l3 == m3) := Qa8 (d := 9997) [l1.map u8, [i64 l2]] [] [m1.map u8, [i64 m2]] [] n3 t3 o3 hA hiA hE hiE a3 b3 (by simp [a1]) (by simp [b1])
  exact Qgq (d := 9999) ht hp (Nc h1 (Nc h2 (Nc h3 Qgz)))
theorem Qhw {t t' A I E : TypeId} {f1 f2 f3 : Field} {z zA : Option Value} {kb kbA : Nat} {l1 l3 m1 m3 : List (BitVec 8)} {l2 m2 : Int} (ht : P.underlying t = some (.struct #[f1, f2, f3])) (hp : P.stoodInHeld t = false) (n1 : (f1.name == "_") = false) (n2 : (f2.name == "_") = false) (n3 : (f3.name == "_") = false) (t1 : f1.type = A) (t2 : f2.type = I) (t3 : f3.type = A) (o1 : f1.offset = 0) (o2 : f2.offset = 32) (o3 : f3.offset = 33)
    (hA : P.underlying A = some (.array 32 E)) (hiA : Yp P A = some (zA, 32, kbA)) (hE : P.underlying E = some (.int .u8)) (hiE : Yp P E = some (z, 1, kb)) (hI : P.underlying I = some (.int .i64)) (hg : P.eqGuardType P.depth t = false) (hx : Qq fr x = .agg (Qr [l1.map u8, [i64 l2], l3.map u8])) (hy : Qq fr y = .agg (Qr [m1.map u8, [i64 m2], m3.map u8])) (a1 : l1.length = 32) (a3 : l3.length = 32) (b1 : m1.length = 32) (b3 : m3.length = 32) :
    Ja P fr w (.binOp .neq t x y t') ty (bl (!(l1 == m1 && (l2 == m2 && (l3 == m3 && true))))) := Qdz hg (run_eq3 ht hp n1 n2 n3 t1 t2 t3 o1 o2 o3 hA hiA hE hiE hI a1 a3 b1 b3) hx hy
structure Pl where
  c : List (BitVec 8)
  n : Int
  h : c.length = 32
theorem Pl.ext' {a b : Pl} (h1 : a.c = b.c) (h2 : a.n = b.n) : a = b := by cases a; cases b; simp at h1 h2; subst h1 h2; rfl
instance : DecidableEq Pl := fun a b => if h : a.c = b.c ∧ a.n = b.n then .isTrue (Pl.ext' h.1 h.2) else .isFalse (fun e => h ⟨by rw [e], by rw [e]⟩)
def plV (p : Pl) : Value := .agg (Qr [p.c.map u8, [i64 p.n]])
theorem Tf {n : Nat} : ∀ {l : List (BitVec 8)}, ((l.map u8).zip (l.map u8)).all (fun (x, y) => Instr.sameBits n x y) = true
  | [] => rfl
  | a :: l => by
    rw [List.map_cons, List.zip_cons_cons, List.all_cons, Tf, Bool.and_true]
    cases n <;> simp [u8, Instr.sameBits]
theorem Qh2 {e : Bool} {n k kb : Nat} {K E : TypeId} {z : Option Value} {l : List (BitVec 8)} (hu : P.underlying K = some (.array k E)) (hE : P.underlying E = some (.int .u8)) (hi : Yp P E = some (z, 1, kb)) (hl : l.length = k) : (Instr.checkKey e (n + 2) K (agg u8 l)).run P w = .ok () w := by
  unfold Instr.checkKey agg
  simp only [Sem.run_bind, Y8 hu, Result.andThen_ok]
  simp only [Std.Legacy.Range.forIn_eq_forIn_range', Std.Legacy.Range.size]
  have e1 : (k - 0 + 1 - 1) / 1 = k := by omega
  rw [e1]
  have key : ∀ m i, i + m ≤ k → (forIn (List.range' i m 1) PUnit.unit (fun i _ => do let s ← sizeOf E; let a ← part E (cl u8 l) (i * s); Instr.checkKey e (n + 1) E a; pure (ForInStep.yield PUnit.unit)) : Sem PUnit).run P w = .ok () w := by
    intro m
    induction m with
    | zero => intro i h; rfl
    | succ m ih =>
      intro i h
      have hg : l[i]? = some l[i] := List.getElem?_eq_getElem (by omega)
      have p1 := Lr (P := P) (w := w) (E := E) (f := u8) hi hE rfl hg
      have q1 : (Instr.checkKey e (n + 1) E (u8 l[i])).run P w = .ok () w := by simp [Instr.checkKey, Y8 hE, u8]
      have := ih (i + 1) (by omega)
      simp only [List.range'_succ, List.forIn_cons, Sem.run_bind, Yz hi, Nat.mul_one, Result.andThen_ok, p1, q1, Sem.run_pure] at this ⊢
      exact this
  have h0 := key k 0 (by omega)
  exact (congrArg (fun r => Result.andThen r _) h0).trans rfl
theorem key_pl {K A E I : TypeId} {f1 f2 : Field} {z zA : Option Value} {kb kbA : Nat} (ht : P.underlying K = some (.struct #[f1, f2])) (hp : P.stoodInHeld K = false) (n1 : (f1.name == "_") = false) (n2 : (f2.name == "_") = false) (t1 : f1.type = A) (t2 : f2.type = I) (o1 : f1.offset = 0) (o2 : f2.offset = 32)
    (hA : P.underlying A = some (.array 32 E)) (hiA : Yp P A = some (zA, 32, kbA)) (hE : P.underlying E = some (.int .u8)) (hiE : Yp P E = some (z, 1, kb)) (hI : P.underlying I = some (.int .i64)) : KeyOk P K plV := by
  have heq : ∀ (w : World) (a b : Pl), (Op.equal K (plV a) (plV b)).run P w = .ok (decide (a = b)) w := by
    intro w a b
    have h1 : FldEq P w 9999 f1 (Qr [a.c.map u8, [i64 a.n]]) (Qr [b.c.map u8, [i64 b.n]]) (a.c == b.c) := Qa8 (d := 9997) [] [[i64 a.n]] [] [[i64 b.n]] n1 t1 o1 hA hiA hE hiE a.h b.h rfl rfl
    have h2 : FldEq P w 9999 f2 (Qr [a.c.map u8, [i64 a.n]]) (Qr [b.c.map u8, [i64 b.n]]) (a.n == b.n) := Qdu (d := 9998) [a.c.map u8] [] [b.c.map u8] [] n2 t2 o2 hI (by simp [a.h]) (by simp [b.h])
    have h3 := Qgq (d := 9999) (xs := Qr [a.c.map u8, [i64 a.n]]) (ys := Qr [b.c.map u8, [i64 b.n]]) ht hp (Nc h1 (Nc h2 Qgz))
    refine Eq.trans h3 (congrArg (fun r => Result.ok r w) ?_)
    rw [Bool.eq_iff_iff, decide_eq_true_eq]
    simp only [Bool.and_true, Bool.and_eq_true, beq_iff_eq]
    exact ⟨fun h => Pl.ext' h.1 h.2, fun h => by rw [h]; exact ⟨rfl, rfl⟩⟩
  refine ⟨fun e k w => ?_, fun k w es l h => ?_, fun k => ?_⟩
  · suffices hs : ∀ n, (Instr.checkKey e (n + 3) K (plV k)).run P w = .ok () w from hs 9997
    intro n
    have p1 := Am (P := P) (w := w) [] [[i64 k.n]] k.c hA rfl hiA (off := 0) rfl k.h
    have p2 := Qaw (P := P) (w := w) (E := I) (c := Qr [k.c.map u8, [i64 k.n]]) (i := 32) (v := i64 k.n) hI rfl (Sz [k.c.map u8] [] _ (by simp [k.h]))
    have q1 : (Instr.checkKey e (n + 2) A (agg u8 k.c)).run P w = .ok () w := Qh2 hA hE hiE k.h
    have q2 : (Instr.checkKey e (n + 2) I (i64 k.n)).run P w = .ok () w := by simp [Instr.checkKey, Y8 hI, i64]
    have n1' : f1.name ≠ "_" := by simpa using n1
    have n2' : f2.name ≠ "_" := by simpa using n2
    simp only [List.nil_append] at p1
    unfold Instr.checkKey plV
    simp [Y8 ht, n1', n2', t1, t2, o1, o2, p1, p2, q1, q2]
  · have key : ∀ (es : List MapEntry) (l : List (Pl × Bool)) (i : Nat), Ents plV es l → (Instr.findAsking K (plV k) es i).run P w = .ok ((Qa5 l k i).map fun p => (p.1, bl p.2)) w := by
      intro es
      induction es with
      | nil => intro l i h; obtain rfl := h.nil_inv; rfl
      | cons e es ih =>
        intro l i h
        obtain ⟨a, b, l', rfl, h1, h2, h3⟩ := h.cons_inv
        unfold Instr.findAsking
        rw [h1]
        simp only [Sem.run_bind, heq, Result.andThen_ok]
        by_cases hk : k = a
        · subst hk; simp [Qa5, h2]
        · simp only [Qa5, if_neg hk, decide_eq_false hk, Bool.false_eq_true, if_false]; exact ih l' (i + 1) h3
    unfold Instr.findKey
    match es, l, h with
    | [], l, h =>
      obtain rfl := h.nil_inv
      simp [Y8 ht, Instr.findNow, Qa5]
    | e :: es, l, h =>
      obtain ⟨a, b, l', rfl, h1, h2, h3⟩ := h.cons_inv
      have hn : Instr.findNow (.struct #[f1, f2]) (plV k) (e :: es) 0 = none := by simp [Instr.findNow, Instr.sameNow, plV]
      simp only [Sem.run_bind, Y8 ht, Result.andThen_ok, hn]
      exact key (e :: es) _ 0 h
  · show Instr.sameBits (9999 + 1) (plV k) (plV k) = true
    have : ∀ (m : Nat), ((k.c.map u8 ++ [i64 k.n]).zip (k.c.map u8 ++ [i64 k.n])).all (fun (x, y) => Instr.sameBits m x y) = true := by
      intro m
      rw [List.zip_append rfl, List.all_append, Tf]
      cases m <;> simp [i64, Instr.sameBits]
    simp [plV, Instr.sameBits, Qr]
    simpa using this 9999
def elslO (v : Value) (i : Int) (k off n : Nat) : Value := match v with | .slice a _ _ => .slice (a.map (·.add (i.toNat * k + off))) n n | _ => undef
theorem Rd.elslO {β α : Type} {enc : β → List Value} {l : List β} {f : α → Value} {q : List α} {i : Int} {off n : Nat} (dflt : β) (h : RdK m enc k v l) (hi : i.toNat < l.length) (he : (((enc (l.getD i.toNat dflt)).drop off).take n).toArray = cl f q) (hq : q.length = n) (ho : off + n ≤ k) : Rd m f (Proofs.YtkmiemlpfkfiiaaDoor.elslO v i k off n) q := by
  have eg : l.getD i.toNat dflt = l[i.toNat] := by simp [List.getD_eq_getElem?_getD, hi]
  rw [eg] at he
  have he' : ((enc l[i.toNat]).drop off).take n = q.map f := by simpa [cl] using he
  obtain ⟨a, cap, rfl, hle, h4⟩ := h.is
  obtain ⟨b, o, c, E, fz, rfl, hb, hc⟩ := h4 i.toNat hi
  refine ⟨some ⟨b, o + (i.toNat * k + off), none⟩, n, by simp [Proofs.YtkmiemlpfkfiiaaDoor.elslO, Jl, hq], by omega, fun t ht => ?_⟩
  refine ⟨b, o + (i.toNat * k + off), c, E, fz, rfl, hb, ?_⟩
  have h5 := hc (off + t) (by omega)
  have e : o + (i.toNat * k + off) + t = o + (i.toNat * k + (off + t)) := by omega
  rw [e, h5]
  have h6 : (((enc l[i.toNat]).drop off).take n)[t]? = (enc l[i.toNat])[off + t]? := by
    rw [List.getElem?_take_of_lt (by omega), List.getElem?_drop]
  rw [← h6, he']; simp [ht]
theorem Pz {β : Type} {enc : β → List Value} {l : List β} {T E : TypeId} {z : Option Value} {kb off n : Nat} {i : Int} (h : RdK m enc k v l) (hi : i.toNat < l.length) (hk : Nat.blt 0 n = true) (ho : off + n ≤ k) (hu : P.underlying T = some (.array n E)) (hi' : Yp P E = some (z, 1, kb)) (hx : Qq fr x = Qak v i k off) :
    Ja P fr w (.slice T x none none none) ty (Proofs.YtkmiemlpfkfiiaaDoor.elslO v i k off n) := by
  have h0 := Nat.le_of_ble_eq_true hk
  obtain ⟨a, cap, rfl, hle, h4⟩ := h.is
  obtain ⟨b, o, c, E, fz, rfl, hb, hc⟩ := h4 i.toNat hi
  have hx' : Qq fr x = ptr b (o + (i.toNat * k + off)) := by rw [hx]; simp [Qak, Jl, ptr]
  have := Xg (w := w) (ty := ty) (i := 0) (j := (n : Int)) hu hi' hx' (Zn _ _) (Zn _ _) (by omega) (by omega) (by omega)
  have e : sla b (o + (i.toNat * k + off)) 1 0 (n : Int) n = Proofs.YtkmiemlpfkfiiaaDoor.elslO (.slice (some ⟨b, o, none⟩) l.length cap) i k off n := by
    have hk0 : ¬ n = 0 := by omega
    simp [sla, Jt, Proofs.YtkmiemlpfkfiiaaDoor.elslO, Jl, hk0]
  rw [← e]; exact this
theorem Qhe {T E : TypeId} {zv : Value} {n kb : Nat} {R : Rest} {H : List (Nat × Obj)} {α : Type} {f : α → Value} {a b c d e : List α} {x1 x2 x3 x4 x5 : Operand} {A1 A2 A3 A4 A5 : List Value} (hm : Mem w R H) (hu : P.underlying T = some (.slice E)) (hi : Yp P E = some (some zv, n, kb)) (hs : Nat.ble (5 * n) 16777216 = true) (hz : (Array.range (5 * n)).map (zv.cells[· % zv.cells.size]!) = Qr [A1, A2, A3, A4, A5])
    (l1 : A1.length = n) (l2 : A2.length = n) (l3 : A3.length = n) (l4 : A4.length = n) (l5 : A5.length = n)
    (h1 : Qq fr x1 = agg f a) (h2 : Qq fr x2 = agg f b) (h3 : Qq fr x3 = agg f c) (h4 : Qq fr x4 = agg f d) (h5 : Qq fr x5 = agg f e) (ha : a.length = n) (hb : b.length = n) (hc : c.length = n) (hd : d.length = n) (he : e.length = n) :
    Jr P fr w (.buildSlice T 5 [(0, x1), (1, x2), (2, x3), (3, x4), (4, x5)].toArray) ty (fun v w' => ∃ bl, v = Jt bl 0 5 5 ∧ Ext w w' ∧ Mem w' R ((bl, .cells (Qr [a.map f, b.map f, c.map f, d.map f, e.map f]) E) :: H)) := by
  refine Dc (pcs := [(0, (agg f a).cells), (1, (agg f b).cells), (2, (agg f c).cells), (3, (agg f d).cells), (4, (agg f e).cells)]) hm hu hi hs (by simp [h1, h2, h3, h4, h5]) ?_
  rw [hz, D6, D6, D6, D6, D6]
  refine X5 (off := 0 * n) [] [A1] [a.map f] [A2, A3, A4, A5] rfl rfl (by simp) (by simpa using l1) (by simpa using ha) <| X5 (off := 1 * n) [a.map f] [A2] [b.map f] [A3, A4, A5] rfl rfl (by simp [ha]) (by simpa using l2) (by simpa using hb) <| X5 (off := 2 * n) [a.map f, b.map f] [A3] [c.map f] [A4, A5] rfl rfl (by simp [ha, hb]; omega) (by simpa using l3) (by simpa using hc) <| X5 (off := 3 * n) [a.map f, b.map f, c.map f] [A4] [d.map f] [A5] rfl rfl (by simp [ha, hb, hc]; omega) (by simpa using l4) (by simpa using hd) <| X5 (off := 4 * n) [a.map f, b.map f, c.map f, d.map f] [A5] [e.map f] [] rfl rfl (by simp [ha, hb, hc, hd]; omega) (by simpa using l5) (by simpa using he) ?_
  exact Gg
theorem Rn {a q b : Int} (k : Nat) {t t' : TypeId} (hx : Qq fr x = i64 a) (hy : Qq fr y = i64 b) (hq : a = q * (2 ^ k : Nat)) (h0 : 0 ≤ q) (h2 : a < 9223372036854775808) (h1 : 0 ≤ b ∧ b < (2 ^ k : Nat)) (hk : k < 63) : Ja P fr w (.binOp .or t x y t') ty (i64 (a + b)) :=
  J8 rfl hx hy (by
    obtain ⟨m, rfl⟩ : ∃ m : Nat, q = (m : Int) := ⟨q.toNat, by omega⟩
    obtain ⟨n, rfl⟩ : ∃ n : Nat, b = (n : Int) := ⟨b.toNat, by omega⟩
    have hq' : a = ((m * 2 ^ k : Nat) : Int) := by rw [hq]; push_cast; rfl
    have hm : m * 2 ^ k < 9223372036854775808 := by omega
    have hp : 2 ^ k ≤ 2 ^ 62 := Nat.pow_le_pow_right (by omega) (by omega)
    have ha : (BitVec.ofInt 64 a).toNat = m <<< k := by rw [BitVec.toNat_ofInt, Nat.shiftLeft_eq, hq']; omega
    have hb : (BitVec.ofInt 64 (n : Int)).toNat = n := by rw [BitVec.toNat_ofInt]; omega
    have e : Gf .or .i64 a (n : Int) = pure (.int .i64 (IntKind.i64.wrap ((BitVec.ofInt 64 a ||| BitVec.ofInt 64 (n : Int)).toNat : Int))) := rfl
    have h : (BitVec.ofInt 64 a ||| BitVec.ofInt 64 (n : Int)).toNat = m * 2 ^ k + n := by
      rw [BitVec.toNat_or, ha, hb, ← Nat.shiftLeft_add_eq_or_of_lt (show n < 2 ^ k by omega), Nat.shiftLeft_eq]
    have hc : ((m * 2 ^ k + n : Nat) : Int) = a + (n : Int) := by rw [hq']; push_cast; rfl
    have hb2 : a + (n : Int) < 9223372036854775808 := by
      have h3 : m * 2 ^ k + n < (m + 1) * 2 ^ k := by rw [Nat.add_mul]; omega
      have h4 : (m + 1) * 2 ^ k ≤ 9223372036854775808 := by
        have h5 : m < 2 ^ (63 - k) := by
          apply Nat.lt_of_mul_lt_mul_right (a := 2 ^ k); rw [← Nat.pow_add, show 63 - k + k = 63 by omega]; exact hm
        have h6 := Nat.mul_le_mul_right (2 ^ k) (show m + 1 ≤ 2 ^ (63 - k) from h5)
        rw [← Nat.pow_add, show 63 - k + k = 63 by omega] at h6; exact h6
      omega
    rw [e, h, hc, Uw (by omega) (by omega)]; rfl)
end
end Go.Proofs.YtkmiemlpfkfiiaaDoor
