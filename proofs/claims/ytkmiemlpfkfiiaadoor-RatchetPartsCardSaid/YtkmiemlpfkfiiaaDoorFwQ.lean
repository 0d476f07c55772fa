/- The framework, part Q: structs and rows as segments; sums with carry; shifts of whole numbers. Conditions: none. -/
import Derived.Test.YtkmiemlpfkfiiaaDoorFwP
import Derived.Laws.Externs
namespace Go.Proofs.YtkmiemlpfkfiiaaDoor
set_option linter.unusedSimpArgs false
set_option linter.unusedVariables false
def Qo (L : List (List Value)) : Array Value := L.flatten.toArray
theorem U5 (L : List (List Value)) : (Qo L).size = L.flatten.length := by simp [Qo]
theorem Qdb : ([] : List (List Value)).flatten.length = 0 := rfl
theorem Ej {S : List Value} {L : List (List Value)} {n m k : Nat} (h : S.length = n) (h' : L.flatten.length = m) (e : n + m = k) : (S :: L).flatten.length = k := by simp [h, h', e]
theorem Fa : ∀ v ∈ (Qo []).toList, v.oneCell' = true := by simp [Qo]
theorem Yr {S : List Value} {L : List (List Value)} (h : S.all (·.oneCell') = true) (h' : ∀ v ∈ (Qo L).toList, v.oneCell' = true) : ∀ v ∈ (Qo (S :: L)).toList, v.oneCell' = true := by
 intro v hv
 simp only [Qo, List.flatten_cons, List.mem_append] at hv
 rcases hv with hv | hv
 ·exact List.all_eq_true.1 h v hv
 exact h' v (by simpa [Qo] using hv)
theorem Qe7 (L1 L2 L3 : List (List Value)) {off n : Nat} (h1 : L1.flatten.length = off) (h2 : L2.flatten.length = n) : (Qo (L1 ++ (L2 ++ L3))).extract off (off + n) = Qo L2 := by
 subst h1 h2
 apply Array.ext'
 simp only [Qo, Array.toList_extract, List.extract_eq_take_drop, List.flatten_append, Nat.add_sub_cancel_left]
 rw [List.drop_left, List.take_left]
theorem Gt {α : Type} (f : α → Value) (l : List α) : Qo [l.map f] = cl f l := by simp [Qo, cl]
theorem Qe6 (L1 L3 : List (List Value)) (v : Value) {off : Nat} (h1 : L1.flatten.length = off) : (Qo (L1 ++ ([v] :: L3)))[off]? = some v := by
 subst h1; simp [Qo]
theorem Qmz (L1 L2 L2' L3 : List (List Value)) {off n : Nat} (h1 : L1.flatten.length = off) (h2 : L2.flatten.length = n) (h3 : L2'.flatten.length = n) : ovr (Qo (L1 ++ (L2 ++ L3))) off (Qo L2').toList = Qo (L1 ++ (L2' ++ L3)) := by
 apply Array.ext'
 rw [Pn _ _ _ (by rw [U5]; simp only [Qo, List.flatten_append, List.length_append]; omega)]
 subst h1
 simp only [Qo, List.flatten_append, h3, ← h2]
 rw [List.take_left, ← List.drop_drop, List.drop_left, List.drop_left, List.append_assoc]
section
variable {P : Program} {fr : Nat → Value} {w : World} {ty T U E A : TypeId} {x y : Operand} {d : TypeDesc} {z : Option Value} {n kb k b off : Nat} {R : Rest} {H Hs : List (Nat × Obj)} {α : Type} {f : α → Value} {v zv : Value} {l : List α} {m : Nat → Option Obj} {fz : Nat × Nat} {c : Array Value}
theorem Qcd (L1 L2 L3 : List (List Value)) (hu : P.underlying T = some d) (hd : Lu d = true) (hi : Jm P T = some (z, n, kb)) (hx : Qq fr x = ptr b off) (hb : w.heap[b]? = some (.cells (Qo (L1 ++ (L2 ++ L3))) E fz)) (h1 : L1.flatten.length = off) (h2 : L2.flatten.length = n) :
  Ko P fr w (.load T x) ty (.agg (Qo L2)) := by
 have := Qde (ty := ty) hu hd hi hx hb (by rw [U5]; simp only [List.flatten_append, List.length_append]; omega)
 rwa [Qe7 L1 L2 L3 h1 h2] at this
theorem Qme (L1 L3 : List (List Value)) (l : List α) (hu : P.underlying T = some d) (hd : Lu d = true) (hi : Jm P T = some (z, n, kb)) (hx : Qq fr x = ptr b off) (hb : w.heap[b]? = some (.cells (Qo (L1 ++ ([l.map f] ++ L3))) E fz)) (h1 : L1.flatten.length = off) (h2 : l.length = n) :
  Ko P fr w (.load T x) ty (agg f l) := by
 have := Qcd (ty := ty) L1 [l.map f] L3 hu hd hi hx hb h1 (by simpa using h2)
 rwa [Gt] at this
theorem Qmd (L1 L3 : List (List Value)) (hu : P.underlying T = some d) (hd : Lu d = false) (hx : Qq fr x = ptr b off) (hb : w.heap[b]? = some (.cells (Qo (L1 ++ ([v] :: L3))) E fz)) (h1 : L1.flatten.length = off) : Ko P fr w (.load T x) ty v :=
 Ql hu hd hx hb (Qe6 L1 L3 v h1)
theorem Ql4 {t : TypeId} (L : List (List Value)) (hu : P.underlying T = some d) (hd : Lu d = true) (hi : Jm P T = some (z, n, kb)) (hb : w.heap[b]? = some (.cells (Qo L) t fz)) (h : L.flatten.length = n) : (loadVar T ⟨b, 0, none⟩).run P w = .ok (.agg (Qo L)) w :=
 Xr hu hd hi hb (by rw [U5]; exact h)
theorem Qjg {len : Nat} {kk : IntKind} {i : Int} {dE : TypeDesc} (hu : P.underlying T = some (.array len E)) (hE : P.underlying E = some dE) (hd : Lu dE = true) (hi : Jm P E = some (z, n, kb)) (hx : Qq fr x = agg f l) (hy : Qq fr y = .int kk i) (h0 : 0 ≤ i) (h1 : i < len) :
  Ko P fr w (.index T x y) ty (agg f ((l.drop (i.toNat * n)).take n)) := by
 have := Qj8 (w := w) (ty := ty) hu hE hd hi hx hy h0 h1
 rw [Qo7, Nat.add_sub_cancel_left] at this
 exact this
theorem drop_two {l : List α} {j : Nat} (dflt : α) (h : j + 2 ≤ l.length) : (l.drop j).take 2 = [l.getD j dflt, l.getD (j + 1) dflt] := by
 refine List.ext_getElem (by simp; omega) fun i h1 h2 => ?_
 simp only [List.length_cons, List.length_nil] at h2
 have : i = 0 ∨ i = 1 := by omega
 rcases this with rfl | rfl <;> simp [List.getD_eq_getElem?_getD] <;> rw [List.getElem?_eq_getElem (by omega)] <;> rfl
theorem Qmf {len : Nat} {kk : IntKind} {i : Int} {dE : TypeDesc} (dflt : α) (hu : P.underlying T = some (.array len E)) (hE : P.underlying E = some dE) (hd : Lu dE = true) (hi : Jm P E = some (z, 2, kb)) (hx : Qq fr x = agg f l) (hy : Qq fr y = .int kk i) (h0 : 0 ≤ i) (h1 : i < len) (h2 : i.toNat * 2 + 2 ≤ l.length) :
  Ko P fr w (.index T x y) ty (agg f [l.getD (i.toNat * 2) dflt, l.getD (i.toNat * 2 + 1) dflt]) := by
 have := Qjg (w := w) (ty := ty) hu hE hd hi hx hy h0 h1
 rw [drop_two dflt h2] at this
 exact this
theorem Qj4 (L1 L2 L2' L3 : List (List Value)) (hi : Jm P T = some (z, n, kb)) (hx : Qq fr x = ptr b off) (hy : Qq fr y = .agg (Qo L2')) (hb : w.heap[b]? = some (.cells (Qo (L1 ++ (L2 ++ L3))) E fz)) (h1 : L1.flatten.length = off) (h2 : L2.flatten.length = n) (h3 : L2'.flatten.length = n) (hv : ∀ v ∈ (Qo L2').toList, v.oneCell' = true) (hfz : fz.2 = 0) :
  Vp P fr w (.store T x y) ty (fun _ w' => Upd w b (.cells (Qo (L1 ++ (L2' ++ L3))) E fz) w') := by
 have := Qku (ty := ty) hi hx hy (by rw [U5]; exact h3) hv hb (by rw [U5]; simp only [List.flatten_append, List.length_append]; omega) (.inl (by omega))
 rw [Qmz L1 L2 L2' L3 h1 h2 h3] at this
 exact this
theorem Qj5 {hfo : ∀ a, (f a).oneCell' = true} (L1 L2 L3 : List (List Value)) (hi : Jm P T = some (z, n, kb)) (hx : Qq fr x = ptr b off) (hy : Qq fr y = agg f l) (hb : w.heap[b]? = some (.cells (Qo (L1 ++ (L2 ++ L3))) E fz)) (h1 : L1.flatten.length = off) (h2 : L2.flatten.length = n) (h3 : l.length = n) (hfz : fz.2 = 0) :
  Vp P fr w (.store T x y) ty (fun _ w' => Upd w b (.cells (Qo (L1 ++ ([l.map f] ++ L3))) E fz) w') := by
 refine Qj4 L1 L2 [l.map f] L3 hi hx (by rw [Gt]; exact hy) hb h1 h2 (by simpa using h3) (Yr (Jo hfo l) Fa) hfz
theorem Qj3 {u : Value} (L1 L3 : List (List Value)) (hi : Jm P T = some (z, 1, kb)) (hx : Qq fr x = ptr b off) (hy : Qq fr y = u) (hu1 : u.oneCell' = true) (hb : w.heap[b]? = some (.cells (Qo (L1 ++ ([v] :: L3))) E fz)) (h1 : L1.flatten.length = off) (hfz : fz.2 = 0) :
  Vp P fr w (.store T x y) ty (fun _ w' => Upd w b (.cells (Qo (L1 ++ ([u] :: L3))) E fz) w') := by
 have := Un (ty := ty) hi hx hy hu1 hb (by rw [U5]; simp only [List.flatten_append, List.length_append, List.flatten_cons, List.length_cons, List.length_nil]; omega) (.inl (by omega))
 have e : (Qo (L1 ++ ([v] :: L3))).setIfInBounds off u = Qo (L1 ++ ([u] :: L3)) := by
  subst h1
  apply Array.ext'
  simp [Qo]
 rw [e] at this
 exact this
theorem Ub (L : List (List Value)) (hi : Jm P T = some (z, n, kb)) (hx : Qq fr x = ptr b 0) (hy : Qq fr y = .agg (Qo L)) (h : L.flatten.length = n) (hv : ∀ v ∈ (Qo L).toList, v.oneCell' = true) (hb : w.heap[b]? = some (.cells c E fz)) (hs : c.size = n) (hfz : fz.2 = 0) :
  Vp P fr w (.store T x y) ty (fun _ w' => Upd w b (.cells (Qo L) E fz) w') := Qgg hi hx hy (by rw [U5]; exact h) hv hb hs hfz
theorem Dq {place : Nat → Option (Nat × Nat)} : Qa4 place c [] = some c := rfl
theorem Qes {place : Nat → Option (Nat × Nat)} {i : Nat} {cs c' : Array Value} {rest : List (Nat × Array Value)} (L1 L2 L2' L3 : List (List Value)) (hp : place i = some (off, n)) (hc : cs = Qo L2') (h1 : L1.flatten.length = off) (h2 : L2.flatten.length = n) (h3 : L2'.flatten.length = n)
  (hr : Qa4 place (Qo (L1 ++ (L2' ++ L3))) rest = some c') : Qa4 place (Qo (L1 ++ (L2 ++ L3))) ((i, cs) :: rest) = some c' := by
 subst hc
 simp only [Qa4, hp]
 have e : (Nat.beq (Qo L2').size n && Nat.ble (off + (Qo L2').size) (Qo (L1 ++ (L2 ++ L3))).size) = true := by
  rw [Bool.and_eq_true]
  refine ⟨by rw [U5, h3]; exact Nat.beq_refl n, Nat.ble_eq_true_of_le ?_⟩
  rw [U5, U5, h3]; simp only [List.flatten_append, List.length_append]; omega
 rw [if_pos e, Qmz L1 L2 L2' L3 h1 h2 h3]
 exact hr
def Gp (a b c : BitVec 64) : BitVec 64 := BitVec.ofNat 64 ((a.toNat + b.toNat + c.toNat) / 18446744073709551616)
theorem Qji {g : FuncId} {fn : Func} {x y q : Operand} {a b c : BitVec 64} {ts : Array TypeId} (hf : P.funcs[g]? = some fn) (hnm : (fn.name == "runtime.NumGoroutine") = false) (hb : fn.body.isNone = true) (hn : Extern.findNext fn = none) (he : Extern.find fn = some add64Entry)
  (hx : Qq fr x = u64 a) (hy : Qq fr y = u64 b) (hq : Qq fr q = u64 c) (hc : c.toNat ≤ 1) : Ko P fr w (.call ⟨.value (.func g), #[x, y, q], ts⟩) ty (.tuple #[u64 (a + b + c), u64 (Gp a b c)]) := by
 unfold Ko
 have e : L6 (Qq fr) (.call ⟨.value (.func g), #[x, y, q], ts⟩) ty = (do let d ← resolve (Qq fr) ⟨.value (.func g), #[x, y, q], ts⟩ ty; invoke d.target d.args) := rfl
 have h2 := run_callFunc_extern (P := P) hf hnm hb hn he #[u64 a, u64 b, u64 c] w
 have h3 := run_add64 (P := P) (a.toNat : Int) (b.toNat : Int) (c.toNat : Int) (by omega) (by omega) (by omega) (by omega) w
 have e1 : u64 (a + b + c) = .int .u64 (((a.toNat : Int) + b.toNat + c.toNat) % 18446744073709551616) := by
  simp only [u64, BitVec.toNat_add]; congr 1; omega
 have e2 : u64 (Gp a b c) = .int .u64 (((a.toNat : Int) + b.toNat + c.toNat) / 18446744073709551616) := by
  simp only [u64, Gp, BitVec.toNat_ofNat]; congr 1
  have := a.isLt; have := b.isLt
  omega
 rw [e, e1, e2]
 have h4 : (callFunc g #[u64 a, u64 b, u64 c]).run P w = _ := h2
 simp only [u64] at h4
 rw [h3] at h4
 simp only [Result.andThen] at h4
 have hg : Qq fr (.func g) = .func (.func g) #[] #[] := rfl
 simp [resolve, hg, Deferred.ofValue, invoke, hx, hy, hq, u64, h4]
theorem Qpd {a : Int} {ky : IntKind} {b : Int} {t t' : TypeId} (hx : Qq fr x = i64 a) (hy : Qq fr y = .int ky b) (hb : 0 ≤ b) (hb' : b ≤ 62) : Ko P fr w (.binOp .shr t x y t') ty (i64 (a / 2 ^ b.toNat)) :=
 Ry (.inr rfl) hx hy hb (by
  have e : min b.toNat IntKind.i64.bits = b.toNat := by simp only [IntKind.bits]; omega
  rw [e]
  simp only [i64, reduceCtorEq, if_false]
  congr 1
  rw [Int.fdiv_eq_ediv_of_nonneg _ (Int.pow_nonneg Jg)])
theorem Ai {a p : Int} {ky : IntKind} {b : Int} {t t' : TypeId} (hp : (2 : Int) ^ b.toNat = p) (hx : Qq fr x = i64 a) (hy : Qq fr y = .int ky b) (hb : 0 ≤ b) (hb' : b ≤ 62) : Ko P fr w (.binOp .shr t x y t') ty (i64 (a / p)) := hp ▸ Qpd hx hy hb hb'
theorem Qpe {a : Int} {ky : IntKind} {b : Int} {t t' : TypeId} (hx : Qq fr x = i64 a) (hy : Qq fr y = .int ky b) (hb : 0 ≤ b) (hb' : b ≤ 62) (h0 : -9223372036854775808 ≤ a * 2 ^ b.toNat) (h1 : a * 2 ^ b.toNat < 9223372036854775808) : Ko P fr w (.binOp .shl t x y t') ty (i64 (a * 2 ^ b.toNat)) :=
 Ry (.inl rfl) hx hy hb (by
  have e : min b.toNat IntKind.i64.bits = b.toNat := by simp only [IntKind.bits]; omega
  rw [e]
  simp only [i64, if_true]
  rw [Hy h0 h1])
theorem Qa5 {a p : Int} {ky : IntKind} {b : Int} {t t' : TypeId} (hp : (2 : Int) ^ b.toNat = p) (hx : Qq fr x = i64 a) (hy : Qq fr y = .int ky b) (hb : 0 ≤ b) (hb' : b ≤ 62) (h0 : -9223372036854775808 ≤ a * p) (h1 : a * p < 9223372036854775808) : Ko P fr w (.binOp .shl t x y t') ty (i64 (a * p)) := by
 subst hp; exact Qpe hx hy hb hb' h0 h1
end
section
variable {E : TypeId}
theorem Rd.seg {α : Type} {f : α → Value} {m : Nat → Option Obj} {b off n : Nat} {l : List α} {fz : Nat × Nat} (L1 L2 : List (List Value)) (hb : m b = some (.cells (Qo (L1 ++ (l.map f :: L2))) E fz)) (h1 : L1.flatten.length = off) (hl : l.length = n) : Rd m f (Wq b off n n) l := by
 subst hl h1
 refine Rd.mk' (Nat.le_refl _) hb fun i hi => ?_
 simp only [Qo, List.flatten_append, List.flatten_cons, List.getElem?_toArray]
 rw [List.getElem?_append_right (by omega), Nat.add_sub_cancel_left, List.getElem?_append_left (by simpa using hi)]
 simp [hi]
theorem Rd.segA {α : Type} {f : α → Value} {m : Nat → Option Obj} {b off n : Nat} {j : Int} {l : List α} {fz : Nat × Nat} (L1 L2 : List (List Value)) (hb : m b = some (.cells (Qo (L1 ++ (l.map f :: L2))) E fz)) (h1 : L1.flatten.length = off) (hl : l.length = n) (hn : 0 < n) (hj : j.toNat = n) : Rd m f (Proofs.YtkmiemlpfkfiiaaDoor.sla b off 1 0 j n) l := by
 have e : Proofs.YtkmiemlpfkfiiaaDoor.sla b off 1 0 j n = Wq b off n n := by
  unfold Proofs.YtkmiemlpfkfiiaaDoor.sla
  have : ¬ n = 0 := by omega
  simp [this, hj]
 rw [e]; exact Rd.seg L1 L2 hb h1 hl
end
def Qd1 : List (List Value) → Nat → List Value
 | [], _ => []
 | s :: _, 0 => s
 | _ :: L, i + 1 => Qd1 L i
def setS : List (List Value) → Nat → List Value → List (List Value)
 | [], _, _ => []
 | _ :: L, 0, x => x :: L
 | s :: L, i + 1, x => s :: setS L i x
def Tj : List (List Value) → Nat → Nat
 | _, 0 => 0
 | [], _ + 1 => 0
 | s :: L, i + 1 => s.length + Tj L i
def Hu : List (List Value) → Nat
 | [] => 0
 | s :: L => s.length + Hu L
theorem Qaz : ∀ L : List (List Value), L.flatten.length = Hu L
 | [] => rfl
 | s :: L => by rw [List.flatten_cons, List.length_append, Qaz L]; rfl
theorem cutS : ∀ (L : List (List Value)) (i : Nat), Nat.blt i L.length = true → ∃ L1 L3, L = L1 ++ ([Qd1 L i] ++ L3) ∧ L1.flatten.length = Tj L i ∧ ∀ x, setS L i x = L1 ++ ([x] ++ L3)
 | [], i, h => by simp [Nat.blt] at h
 | s :: L, 0, _ => ⟨[], L, rfl, rfl, fun _ => rfl⟩
 | s :: L, i + 1, h => by
  obtain ⟨L1, L3, h1, h2, h3⟩ := cutS L i h
  refine ⟨s :: L1, L3, congrArg (s :: ·) h1, ?_, fun x => congrArg (s :: ·) (h3 x)⟩
  rw [List.flatten_cons, List.length_append, h2]; rfl
section
variable {P : Program} {fr : Nat → Value} {w : World} {ty T U E A : TypeId} {x y : Operand} {d : TypeDesc} {z : Option Value} {n kb k b off : Nat} {α : Type} {f : α → Value} {v u : Value} {l : List α} {fz : Nat × Nat} {c : Array Value} {L L' : List (List Value)}
theorem Y8 (i : Nat) (hu : P.underlying T = some d) (hx : Qq fr x = ptr b off) (hb : w.heap[b]? = some (.cells (Qo L) E fz)) (hg : Qd1 L i = [v]) (hd : Lu d = false := by rfl) (hi : Nat.blt i L.length = true := by rfl)
  (ho : Tj L i = off := by first | (simp only [Tj, Ug, List.length_map, List.length_cons, List.length_nil, List.length_replicate] <;> omega) | (simp [Tj, Ug] <;> omega)) : Ko P fr w (.load T x) ty v := by
 obtain ⟨L1, L3, h1, h2, h3⟩ := cutS L i hi
 rw [h1, hg] at hb
 exact Qmd L1 L3 hu hd hx hb (h2.trans ho)
theorem Jv (i : Nat) (hu : P.underlying T = some d) (ht : Jm P T = some (z, n, kb)) (hx : Qq fr x = ptr b off) (hb : w.heap[b]? = some (.cells (Qo L) E fz)) (hg : Qd1 L i = l.map f) (hd : Lu d = true := by rfl) (hi : Nat.blt i L.length = true := by rfl)
  (ho : Tj L i = off := by first | (simp only [Tj, Ug, List.length_map, List.length_cons, List.length_nil, List.length_replicate] <;> omega) | (simp [Tj, Ug] <;> omega)) (hn : l.length = n := by first | rfl | omega | (simp; done) | (simp; omega)) : Ko P fr w (.load T x) ty (agg f l) := by
 obtain ⟨L1, L3, h1, h2, h3⟩ := cutS L i hi
 rw [h1, hg] at hb
 exact Qme L1 L3 l hu hd ht hx hb (h2.trans ho) hn
theorem Jk (hu : P.underlying T = some d) (ht : Jm P T = some (z, n, kb)) (hx : Qq fr x = ptr b 0) (hb : w.heap[b]? = some (.cells (Qo L) E fz)) (hd : Lu d = true := by rfl)
  (ho : Hu L = n := by first | (simp only [Hu, Ug, List.length_map, List.length_cons, List.length_nil, List.length_replicate] <;> omega) | (simp [Hu, Ug] <;> omega)) : Ko P fr w (.load T x) ty (.agg (Qo L)) :=
 Qcd [] L [] hu hd ht hx (by simpa using hb) rfl ((Qaz L).trans ho)
theorem J4 {t : TypeId} (hu : P.underlying T = some d) (ht : Jm P T = some (z, n, kb)) (hb : w.heap[b]? = some (.cells (Qo L) t fz)) (hd : Lu d = true := by rfl)
  (ho : Hu L = n := by first | (simp only [Hu, Ug, List.length_map, List.length_cons, List.length_nil, List.length_replicate] <;> omega) | (simp [Hu, Ug] <;> omega)) : (loadVar T ⟨b, 0, none⟩).run P w = .ok (.agg (Qo L)) w :=
 Ql4 L hu hd ht hb ((Qaz L).trans ho)
theorem Ui (i : Nat) (L' : List (List Value)) (ht : Jm P T = some (z, 1, kb)) (hx : Qq fr x = ptr b off) (hy : Qq fr y = u) (hu1 : u.oneCell' = true) (hb : w.heap[b]? = some (.cells (Qo L) E fz)) (hg : Qd1 L i = [v]) (hL : setS L i [u] = L') (hi : Nat.blt i L.length = true := by rfl)
  (ho : Tj L i = off := by first | (simp only [Tj, Ug, List.length_map, List.length_cons, List.length_nil, List.length_replicate] <;> omega) | (simp [Tj, Ug] <;> omega)) (hfz : fz.2 = 0 := by rfl) :
  Vp P fr w (.store T x y) ty (fun _ w' => Upd w b (.cells (Qo L') E fz) w') := by
 obtain ⟨L1, L3, h1, h2, h3⟩ := cutS L i hi
 rw [h1, hg] at hb
 have := Qj3 (ty := ty) L1 L3 ht hx hy hu1 hb (h2.trans ho) hfz
 rwa [← hL, h3]
theorem Uj (i : Nat) (L' : List (List Value)) (hfo : ∀ a, (f a).oneCell' = true) (ht : Jm P T = some (z, n, kb)) (hx : Qq fr x = ptr b off) (hy : Qq fr y = agg f l) (hb : w.heap[b]? = some (.cells (Qo L) E fz)) (hL : setS L i (l.map f) = L') (hi : Nat.blt i L.length = true := by rfl)
  (ho : Tj L i = off := by first | (simp only [Tj, Ug, List.length_map, List.length_cons, List.length_nil, List.length_replicate] <;> omega) | (simp [Tj, Ug] <;> omega))
  (h2 : (Qd1 L i).length = n := by first | (simp only [Qd1, List.length_map] <;> omega) | (simp [Qd1] <;> omega)) (hn : l.length = n := by first | rfl | omega | (simp; done) | (simp; omega)) (hfz : fz.2 = 0 := by rfl) :
  Vp P fr w (.store T x y) ty (fun _ w' => Upd w b (.cells (Qo L') E fz) w') := by
 obtain ⟨L1, L3, h1, h4, h3⟩ := cutS L i hi
 rw [h1] at hb
 have := Qj5 (hfo := hfo) (ty := ty) L1 [Qd1 L i] L3 ht hx hy hb (h4.trans ho) (by simpa using h2) hn hfz
 rwa [← hL, h3]
theorem J8 (ht : Jm P T = some (z, n, kb)) (hx : Qq fr x = ptr b 0) (hy : Qq fr y = .agg (Qo L)) (hb : w.heap[b]? = some (.cells (Qo L') E fz)) (hv : ∀ v ∈ (Qo L).toList, v.oneCell' = true)
  (h : Hu L = n := by first | (simp only [Hu, Ug, List.length_map, List.length_cons, List.length_nil, List.length_replicate] <;> omega) | (simp [Hu, Ug] <;> omega))
  (hs : Hu L' = n := by first | (simp only [Hu, Ug, List.length_map, List.length_cons, List.length_nil, List.length_replicate] <;> omega) | (simp [Hu, Ug] <;> omega)) (hfz : fz.2 = 0 := by rfl) :
  Vp P fr w (.store T x y) ty (fun _ w' => Upd w b (.cells (Qo L) E fz) w') := Ub L ht hx hy ((Qaz L).trans h) hv hb (by rw [U5]; exact (Qaz L').trans hs) hfz
theorem V9 {place : Nat → Option (Nat × Nat)} {i : Nat} {cs c' : Array Value} {rest : List (Nat × Array Value)} {S : List Value} (j : Nat) (L' : List (List Value)) (hp : place i = some (off, n)) (hc : cs = Qo [S]) (hL : setS L j S = L') (hr : Qa4 place (Qo L') rest = some c') (hi : Nat.blt j L.length = true := by rfl)
  (ho : Tj L j = off := by first | (simp only [Tj, Ug, List.length_map, List.length_cons, List.length_nil, List.length_replicate] <;> omega) | (simp [Tj, Ug] <;> omega))
  (h2 : (Qd1 L j).length = n := by first | (simp only [Qd1, List.length_map, List.length_cons, List.length_nil, List.length_replicate] <;> omega) | (simp [Qd1] <;> omega)) (h3 : S.length = n := by first | rfl | (simp only [List.length_map] <;> omega) | (simp <;> omega)) : Qa4 place (Qo L) ((i, cs) :: rest) = some c' := by
 obtain ⟨L1, L3, h1, h4, h5⟩ := cutS L j hi
 rw [h1]
 refine Qes L1 [Qd1 L j] [S] L3 hp hc (h4.trans ho) (by simpa using h2) (by simpa using h3) ?_
 rw [← h5, hL]; exact hr
theorem Rd.sgA {m : Nat → Option Obj} {b off n : Nat} {j : Int} (i : Nat) (hb : m b = some (.cells (Qo L) E fz)) (hg : Qd1 L i = l.map f) (hi : Nat.blt i L.length = true := by rfl)
  (ho : Tj L i = off := by first | (simp only [Tj, Ug, List.length_map, List.length_cons, List.length_nil, List.length_replicate] <;> omega) | (simp [Tj, Ug] <;> omega)) (hl : l.length = n := by first | rfl | omega | (simp; done) | (simp; omega)) (hn : 0 < n := by decide) (hj : j.toNat = n := by decide) : Rd m f (Proofs.YtkmiemlpfkfiiaaDoor.sla b off 1 0 j n) l := by
 obtain ⟨L1, L3, h1, h4, h5⟩ := cutS L i hi
 rw [h1, hg] at hb
 exact Rd.segA L1 L3 hb (h4.trans ho) hl hn hj
end
abbrev sE (a b c : Xg) (d e : Bool) (f g : Xg) (i j k : Int) (v : Value) : List (List Value) := [a.map u8, b.map u8, c.map u8, [bl d], [bl e], f.map u8, g.map u8, [i64 i], [i64 j], [i64 k], [v]]
abbrev sK (a : Xg) (i : Int) (b : Xg) : List (List Value) := [a.map u8, [i64 i], b.map u8]
abbrev sH (a : Xg) (i j : Int) : List (List Value) := [a.map u8, [i64 i], [i64 j]]
theorem Gx {a b c : Xg} {d e : Bool} {f g : Xg} {i j k : Int} {v : Value} (h : v.oneCell' = true) : ∀ x ∈ (Qo (sE a b c d e f g i j k v)).toList, x.oneCell' = true :=
 Yr (Jo Qy a) (Yr (Jo Qy b) (Yr (Jo Qy c) (Yr (X4 rfl Kw) (Yr (X4 rfl Kw) (Yr (Jo Qy f) (Yr (Jo Qy g) (Yr (X4 (Z4 _) Kw) (Yr (X4 (Z4 _) Kw) (Yr (X4 (Z4 _) Kw) (Yr (X4 h Kw) Fa))))))))))
end Go.Proofs.YtkmiemlpfkfiiaaDoor
