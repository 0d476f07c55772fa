/- The framework, part Q: structs and rows as segments; sums with carry; shifts of whole numbers. Conditions: none. -/
import Derived.Test.YtkmiemlpfkfiiaaDoorFwP
import Derived.Laws.Externs
namespace Go.Proofs.YtkmiemlpfkfiiaaDoor
open List renaming flatten_append → bg, flatten_cons → dD, length_append → ag, length_cons → au
open Nat renaming add_sub_cancel_left → dh
set_option linter.unusedSimpArgs false
set_option linter.unusedVariables false
def Qy (L : List (List Value)) : Array Value := L.flatten.toArray
theorem U2 (L : List (List Value)) : (Qy L).size = L.flatten.length := by simp [Qy]
theorem Qdl : ([] : List (List Value)).flatten.length = 0 := rfl
theorem Eh {S : List Value} {L : List (List Value)} {n m k : Nat} (h : S.length = n) (h' : L.flatten.length = m) (e : n + m = k) : (S :: L).flatten.length = k := by simp [h, h', e]
theorem U6 : ∀ v ∈ (Qy []).toList, v.oneCell' = true := by simp [Qy]
theorem Ym {S : List Value} {L : List (List Value)} (h : S.all (·.oneCell') = true) (h' : ∀ v ∈ (Qy L).toList, v.oneCell' = true) : ∀ v ∈ (Qy (S :: L)).toList, v.oneCell' = true := by
 intro v hv
 simp only [Qy, dD, List.mem_append] at hv
 rcases hv with hv | hv
 ·exact List.all_eq_true.1 h v hv
 exact h' v (by simpa [Qy] using hv)
theorem Qfx (L1 L2 L3 : List (List Value)) {off n : Nat} (h1 : L1.flatten.length = off) (h2 : L2.flatten.length = n) : (Qy (L1 ++ (L2 ++ L3))).extract off (off + n) = Qy L2 := by
 subst h1 h2
 apply Array.ext'
 simp only [Qy, Array.toList_extract, List.extract_eq_take_drop, bg, dh]
 rw [List.drop_left, List.take_left]
theorem Gg {α : Type} (f : α → Value) (l : List α) : Qy [l.map f] = cl f l := by simp [Qy, cl]
theorem Qfw (L1 L3 : List (List Value)) (v : Value) {off : Nat} (h1 : L1.flatten.length = off) : (Qy (L1 ++ ([v] :: L3)))[off]? = some v := by
 subst h1; simp [Qy]
theorem Qoa (L1 L2 L2' L3 : List (List Value)) {off n : Nat} (h1 : L1.flatten.length = off) (h2 : L2.flatten.length = n) (h3 : L2'.flatten.length = n) : ovr (Qy (L1 ++ (L2 ++ L3))) off (Qy L2').toList = Qy (L1 ++ (L2' ++ L3)) := by
 apply Array.ext'
 rw [Po _ _ _ (by rw [U2]; simp only [Qy, bg, ag]; omega)]
 subst h1
 simp only [Qy, bg, h3, ← h2]
 rw [List.take_left, ← List.drop_drop, List.drop_left, List.drop_left, List.append_assoc]
section
variable {P : Program} {fr : Nat → Value} {w : World} {ty T U E A : TypeId} {x y : Operand} {d : TypeDesc} {z : Option Value} {n kb k b off : Nat} {R : Rest} {H Hs : List (Nat × Obj)} {α : Type} {f : α → Value} {v zv : Value} {l : List α} {m : Nat → Option Obj} {fz : Nat × Nat} {c : Array Value}
theorem Qgm (L1 L2 L3 : List (List Value)) (hu : P.underlying T = some d) (hd : Pg d = true) (hi : Ji P T = some (z, n, kb)) (hx : Ql fr x = ptr b off) (hb : w.heap[b]? = some (.cells (Qy (L1 ++ (L2 ++ L3))) E fz)) (h1 : L1.flatten.length = off) (h2 : L2.flatten.length = n) :
  Jv P fr w (.load T x) ty (.agg (Qy L2)) := by
 have := Qdo (ty := ty) hu hd hi hx hb (by rw [U2]; simp only [bg, ag]; omega)
 rwa [Qfx L1 L2 L3 h1 h2] at this
theorem Qnm (L1 L3 : List (List Value)) (l : List α) (hu : P.underlying T = some d) (hd : Pg d = true) (hi : Ji P T = some (z, n, kb)) (hx : Ql fr x = ptr b off) (hb : w.heap[b]? = some (.cells (Qy (L1 ++ ([l.map f] ++ L3))) E fz)) (h1 : L1.flatten.length = off) (h2 : l.length = n) :
  Jv P fr w (.load T x) ty (agg f l) := by
 have := Qgm (ty := ty) L1 [l.map f] L3 hu hd hi hx hb h1 (by simpa using h2)
 rwa [Gg] at this
theorem Qnl (L1 L3 : List (List Value)) (hu : P.underlying T = some d) (hd : Pg d = false) (hx : Ql fr x = ptr b off) (hb : w.heap[b]? = some (.cells (Qy (L1 ++ ([v] :: L3))) E fz)) (h1 : L1.flatten.length = off) : Jv P fr w (.load T x) ty v :=
 Qi hu hd hx hb (Qfw L1 L3 v h1)
theorem Qnb {t : TypeId} (L : List (List Value)) (hu : P.underlying T = some d) (hd : Pg d = true) (hi : Ji P T = some (z, n, kb)) (hb : w.heap[b]? = some (.cells (Qy L) t fz)) (h : L.flatten.length = n) : (loadVar T ⟨b, 0, none⟩).run P w = .ok (.agg (Qy L)) w :=
 Xm hu hd hi hb (by rw [U2]; exact h)
theorem Qkc {len : Nat} {kk : IntKind} {i : Int} {dE : TypeDesc} (hu : P.underlying T = some (.array len E)) (hE : P.underlying E = some dE) (hd : Pg dE = true) (hi : Ji P E = some (z, n, kb)) (hx : Ql fr x = agg f l) (hy : Ql fr y = .int kk i) (h0 : 0 ≤ i) (h1 : i < len) :
  Jv P fr w (.index T x y) ty (agg f ((l.drop (i.toNat * n)).take n)) := by
 have := Qk3 (w := w) (ty := ty) hu hE hd hi hx hy h0 h1
 rw [Qqx, dh] at this
 exact this
theorem drop_two {l : List α} {j : Nat} (dflt : α) (h : j + 2 ≤ l.length) : (l.drop j).take 2 = [l.getD j dflt, l.getD (j + 1) dflt] := by
 refine List.ext_getElem (by simp; omega) fun i h1 h2 => ?_
 simp only [au, List.length_nil] at h2
 have : i = 0 ∨ i = 1 := by omega
 rcases this with rfl | rfl <;> simp [List.getD_eq_getElem?_getD] <;> rw [List.getElem?_eq_getElem (by omega)] <;> rfl
theorem Qnn {len : Nat} {kk : IntKind} {i : Int} {dE : TypeDesc} (dflt : α) (hu : P.underlying T = some (.array len E)) (hE : P.underlying E = some dE) (hd : Pg dE = true) (hi : Ji P E = some (z, 2, kb)) (hx : Ql fr x = agg f l) (hy : Ql fr y = .int kk i) (h0 : 0 ≤ i) (h1 : i < len) (h2 : i.toNat * 2 + 2 ≤ l.length) :
  Jv P fr w (.index T x y) ty (agg f [l.getD (i.toNat * 2) dflt, l.getD (i.toNat * 2 + 1) dflt]) := by
 have := Qkc (w := w) (ty := ty) hu hE hd hi hx hy h0 h1
 rw [drop_two dflt h2] at this
 exact this
theorem Qk0 (L1 L2 L2' L3 : List (List Value)) (hi : Ji P T = some (z, n, kb)) (hx : Ql fr x = ptr b off) (hy : Ql fr y = .agg (Qy L2')) (hb : w.heap[b]? = some (.cells (Qy (L1 ++ (L2 ++ L3))) E fz)) (h1 : L1.flatten.length = off) (h2 : L2.flatten.length = n) (h3 : L2'.flatten.length = n) (hv : ∀ v ∈ (Qy L2').toList, v.oneCell' = true) (hfz : fz.2 = 0) :
  Vf P fr w (.store T x y) ty (fun _ w' => Upd w b (.cells (Qy (L1 ++ (L2' ++ L3))) E fz) w') := by
 have := Qls (ty := ty) hi hx hy (by rw [U2]; exact h3) hv hb (by rw [U2]; simp only [bg, ag]; omega) (.inl (by omega))
 rw [Qoa L1 L2 L2' L3 h1 h2 h3] at this
 exact this
theorem Qk1 {hfo : ∀ a, (f a).oneCell' = true} (L1 L2 L3 : List (List Value)) (hi : Ji P T = some (z, n, kb)) (hx : Ql fr x = ptr b off) (hy : Ql fr y = agg f l) (hb : w.heap[b]? = some (.cells (Qy (L1 ++ (L2 ++ L3))) E fz)) (h1 : L1.flatten.length = off) (h2 : L2.flatten.length = n) (h3 : l.length = n) (hfz : fz.2 = 0) :
  Vf P fr w (.store T x y) ty (fun _ w' => Upd w b (.cells (Qy (L1 ++ ([l.map f] ++ L3))) E fz) w') := by
 refine Qk0 L1 L2 [l.map f] L3 hi hx (by rw [Gg]; exact hy) hb h1 h2 (by simpa using h3) (Ym (Jf hfo l) U6) hfz
theorem Qkz {u : Value} (L1 L3 : List (List Value)) (hi : Ji P T = some (z, 1, kb)) (hx : Ql fr x = ptr b off) (hy : Ql fr y = u) (hu1 : u.oneCell' = true) (hb : w.heap[b]? = some (.cells (Qy (L1 ++ ([v] :: L3))) E fz)) (h1 : L1.flatten.length = off) (hfz : fz.2 = 0) :
  Vf P fr w (.store T x y) ty (fun _ w' => Upd w b (.cells (Qy (L1 ++ ([u] :: L3))) E fz) w') := by
 have := Ui (ty := ty) hi hx hy hu1 hb (by rw [U2]; simp only [bg, ag, dD, au, List.length_nil]; omega) (.inl (by omega))
 have e : (Qy (L1 ++ ([v] :: L3))).setIfInBounds off u = Qy (L1 ++ ([u] :: L3)) := by
  subst h1
  apply Array.ext'
  simp [Qy]
 rw [e] at this
 exact this
theorem Gy (L : List (List Value)) (hi : Ji P T = some (z, n, kb)) (hx : Ql fr x = ptr b 0) (hy : Ql fr y = .agg (Qy L)) (h : L.flatten.length = n) (hv : ∀ v ∈ (Qy L).toList, v.oneCell' = true) (hb : w.heap[b]? = some (.cells c E fz)) (hs : c.size = n) (hfz : fz.2 = 0) :
  Vf P fr w (.store T x y) ty (fun _ w' => Upd w b (.cells (Qy L) E fz) w') := Qhc hi hx hy (by rw [U2]; exact h) hv hb hs hfz
theorem Bg {place : Nat → Option (Nat × Nat)} : Qa5 place c [] = some c := rfl
theorem Qqw {place : Nat → Option (Nat × Nat)} {i : Nat} {cs c' : Array Value} {rest : List (Nat × Array Value)} (L1 L2 L2' L3 : List (List Value)) (hp : place i = some (off, n)) (hc : cs = Qy L2') (h1 : L1.flatten.length = off) (h2 : L2.flatten.length = n) (h3 : L2'.flatten.length = n)
  (hr : Qa5 place (Qy (L1 ++ (L2' ++ L3))) rest = some c') : Qa5 place (Qy (L1 ++ (L2 ++ L3))) ((i, cs) :: rest) = some c' := by
 subst hc
 simp only [Qa5, hp]
 have e : (Nat.beq (Qy L2').size n && Nat.ble (off + (Qy L2').size) (Qy (L1 ++ (L2 ++ L3))).size) = true := by
  rw [Bool.and_eq_true]
  refine ⟨by rw [U2, h3]; exact Nat.beq_refl n, Nat.ble_eq_true_of_le ?_⟩
  rw [U2, U2, h3]; simp only [bg, ag]; omega
 rw [if_pos e, Qoa L1 L2 L2' L3 h1 h2 h3]
 exact hr
def V8 (a b c : BitVec 64) : BitVec 64 := BitVec.ofNat 64 ((a.toNat + b.toNat + c.toNat) / 18446744073709551616)
theorem Qke {g : FuncId} {fn : Func} {x y q : Operand} {a b c : BitVec 64} {ts : Array TypeId} (hf : P.funcs[g]? = some fn) (hnm : (fn.name == "runtime.NumGoroutine") = false) (hb : fn.body.isNone = true) (hn : Extern.findNext fn = none) (he : Extern.find fn = some add64Entry)
  (hx : Ql fr x = u64 a) (hy : Ql fr y = u64 b) (hq : Ql fr q = u64 c) (hc : c.toNat ≤ 1) : Jv P fr w (.call ⟨.value (.func g), #[x, y, q], ts⟩) ty (.tuple #[u64 (a + b + c), u64 (V8 a b c)]) := by
 unfold Jv
 have e : Lp (Ql fr) (.call ⟨.value (.func g), #[x, y, q], ts⟩) ty = (do let d ← resolve (Ql fr) ⟨.value (.func g), #[x, y, q], ts⟩ ty; invoke d.target d.args) := rfl
 have h2 := run_callFunc_extern (P := P) hf hnm hb hn he #[u64 a, u64 b, u64 c] w
 have h3 := run_add64 (P := P) (a.toNat : Int) (b.toNat : Int) (c.toNat : Int) (by omega) (by omega) (by omega) (by omega) w
 have e1 : u64 (a + b + c) = .int .u64 (((a.toNat : Int) + b.toNat + c.toNat) % 18446744073709551616) := by
  simp only [u64, BitVec.toNat_add]; congr 1; omega
 have e2 : u64 (V8 a b c) = .int .u64 (((a.toNat : Int) + b.toNat + c.toNat) / 18446744073709551616) := by
  simp only [u64, V8, BitVec.toNat_ofNat]; congr 1
  have := a.isLt; have := b.isLt
  omega
 rw [e, e1, e2]
 have h4 : (callFunc g #[u64 a, u64 b, u64 c]).run P w = _ := h2
 simp only [u64] at h4
 rw [h3] at h4
 simp only [Result.andThen] at h4
 have hg : Ql fr (.func g) = .func (.func g) #[] #[] := rfl
 simp [resolve, hg, Deferred.ofValue, invoke, hx, hy, hq, u64, h4]
theorem Qq3 {a : Int} {ky : IntKind} {b : Int} {t t' : TypeId} (hx : Ql fr x = i64 a) (hy : Ql fr y = .int ky b) (hb : 0 ≤ b) (hb' : b ≤ 62) : Jv P fr w (.binOp .shr t x y t') ty (i64 (a / 2 ^ b.toNat)) :=
 Rw (.inr rfl) hx hy hb (by
  have e : min b.toNat IntKind.i64.bits = b.toNat := by simp only [IntKind.bits]; omega
  rw [e]
  simp only [i64, reduceCtorEq, if_false]
  congr 1
  rw [Int.fdiv_eq_ediv_of_nonneg _ (Int.pow_nonneg Yx)])
theorem Ai {a p : Int} {ky : IntKind} {b : Int} {t t' : TypeId} (hp : (2 : Int) ^ b.toNat = p) (hx : Ql fr x = i64 a) (hy : Ql fr y = .int ky b) (hb : 0 ≤ b) (hb' : b ≤ 62) : Jv P fr w (.binOp .shr t x y t') ty (i64 (a / p)) := hp ▸ Qq3 hx hy hb hb'
theorem Qq4 {a : Int} {ky : IntKind} {b : Int} {t t' : TypeId} (hx : Ql fr x = i64 a) (hy : Ql fr y = .int ky b) (hb : 0 ≤ b) (hb' : b ≤ 62) (h0 : -9223372036854775808 ≤ a * 2 ^ b.toNat) (h1 : a * 2 ^ b.toNat < 9223372036854775808) : Jv P fr w (.binOp .shl t x y t') ty (i64 (a * 2 ^ b.toNat)) :=
 Rw (.inl rfl) hx hy hb (by
  have e : min b.toNat IntKind.i64.bits = b.toNat := by simp only [IntKind.bits]; omega
  rw [e]
  simp only [i64, if_true]
  rw [Hw h0 h1])
theorem Qa6 {a p : Int} {ky : IntKind} {b : Int} {t t' : TypeId} (hp : (2 : Int) ^ b.toNat = p) (hx : Ql fr x = i64 a) (hy : Ql fr y = .int ky b) (hb : 0 ≤ b) (hb' : b ≤ 62) (h0 : -9223372036854775808 ≤ a * p) (h1 : a * p < 9223372036854775808) : Jv P fr w (.binOp .shl t x y t') ty (i64 (a * p)) := by
 subst hp; exact Qq4 hx hy hb hb' h0 h1
end
section
variable {E : TypeId}
theorem Rd.seg {α : Type} {f : α → Value} {m : Nat → Option Obj} {b off n : Nat} {l : List α} {fz : Nat × Nat} (L1 L2 : List (List Value)) (hb : m b = some (.cells (Qy (L1 ++ (l.map f :: L2))) E fz)) (h1 : L1.flatten.length = off) (hl : l.length = n) : Rd m f (Wi b off n n) l := by
 subst hl h1
 refine Rd.mk' (Nat.le_refl _) hb fun i hi => ?_
 simp only [Qy, bg, dD, List.getElem?_toArray]
 rw [List.getElem?_append_right (by omega), dh, List.getElem?_append_left (by simpa using hi)]
 simp [hi]
theorem Rd.segA {α : Type} {f : α → Value} {m : Nat → Option Obj} {b off n : Nat} {j : Int} {l : List α} {fz : Nat × Nat} (L1 L2 : List (List Value)) (hb : m b = some (.cells (Qy (L1 ++ (l.map f :: L2))) E fz)) (h1 : L1.flatten.length = off) (hl : l.length = n) (hn : 0 < n) (hj : j.toNat = n) : Rd m f (Proofs.YtkmiemlpfkfiiaaDoor.sla b off 1 0 j n) l := by
 have e : Proofs.YtkmiemlpfkfiiaaDoor.sla b off 1 0 j n = Wi b off n n := by
  unfold Proofs.YtkmiemlpfkfiiaaDoor.sla
  have : ¬ n = 0 := by omega
  simp [this, hj]
 rw [e]; exact Rd.seg L1 L2 hb h1 hl
end
def Qe7 : List (List Value) → Nat → List Value
 | [], _ => []
 | s :: _, 0 => s
 | _ :: L, i + 1 => Qe7 L i
def setS : List (List Value) → Nat → List Value → List (List Value)
 | [], _, _ => []
 | _ :: L, 0, x => x :: L
 | s :: L, i + 1, x => s :: setS L i x
def Qaq : List (List Value) → Nat → Nat
 | _, 0 => 0
 | [], _ + 1 => 0
 | s :: L, i + 1 => s.length + Qaq L i
def Qfo : List (List Value) → Nat
 | [] => 0
 | s :: L => s.length + Qfo L
theorem Qfn : ∀ L : List (List Value), L.flatten.length = Qfo L
 | [] => rfl
 | s :: L => by rw [dD, ag, Qfn L]; rfl
theorem cutS : ∀ (L : List (List Value)) (i : Nat), Nat.blt i L.length = true → ∃ L1 L3, L = L1 ++ ([Qe7 L i] ++ L3) ∧ L1.flatten.length = Qaq L i ∧ ∀ x, setS L i x = L1 ++ ([x] ++ L3)
 | [], i, h => by simp [Nat.blt] at h
 | s :: L, 0, _ => ⟨[], L, rfl, rfl, fun _ => rfl⟩
 | s :: L, i + 1, h => by
  obtain ⟨L1, L3, h1, h2, h3⟩ := cutS L i h
  refine ⟨s :: L1, L3, congrArg (s :: ·) h1, ?_, fun x => congrArg (s :: ·) (h3 x)⟩
  rw [dD, ag, h2]; rfl
section
variable {P : Program} {fr : Nat → Value} {w : World} {ty T U E A : TypeId} {x y : Operand} {d : TypeDesc} {z : Option Value} {n kb k b off : Nat} {α : Type} {f : α → Value} {v u : Value} {l : List α} {fz : Nat × Nat} {c : Array Value} {L L' : List (List Value)}
theorem Y2 (i : Nat) (hu : P.underlying T = some d) (hx : Ql fr x = ptr b off) (hb : w.heap[b]? = some (.cells (Qy L) E fz)) (hg : Qe7 L i = [v]) (hd : Pg d = false := by rfl) (hi : Nat.blt i L.length = true := by rfl)
  (ho : Qaq L i = off := by first | (simp only [Qaq, F6, List.length_map, List.length_cons, List.length_nil, List.length_replicate] <;> omega) | (simp [Qaq, F6] <;> omega)) : Jv P fr w (.load T x) ty v := by
 obtain ⟨L1, L3, h1, h2, h3⟩ := cutS L i hi
 rw [h1, hg] at hb
 exact Qnl L1 L3 hu hd hx hb (h2.trans ho)
theorem Jn (i : Nat) (hu : P.underlying T = some d) (ht : Ji P T = some (z, n, kb)) (hx : Ql fr x = ptr b off) (hb : w.heap[b]? = some (.cells (Qy L) E fz)) (hg : Qe7 L i = l.map f) (hd : Pg d = true := by rfl) (hi : Nat.blt i L.length = true := by rfl)
  (ho : Qaq L i = off := by first | (simp only [Qaq, F6, List.length_map, List.length_cons, List.length_nil, List.length_replicate] <;> omega) | (simp [Qaq, F6] <;> omega)) (hn : l.length = n := by first | rfl | omega | (simp; done) | (simp; omega)) : Jv P fr w (.load T x) ty (agg f l) := by
 obtain ⟨L1, L3, h1, h2, h3⟩ := cutS L i hi
 rw [h1, hg] at hb
 exact Qnm L1 L3 l hu hd ht hx hb (h2.trans ho) hn
theorem Ky (hu : P.underlying T = some d) (ht : Ji P T = some (z, n, kb)) (hx : Ql fr x = ptr b 0) (hb : w.heap[b]? = some (.cells (Qy L) E fz)) (hd : Pg d = true := by rfl)
  (ho : Qfo L = n := by first | (simp only [Qfo, F6, List.length_map, List.length_cons, List.length_nil, List.length_replicate] <;> omega) | (simp [Qfo, F6] <;> omega)) : Jv P fr w (.load T x) ty (.agg (Qy L)) :=
 Qgm [] L [] hu hd ht hx (by simpa using hb) rfl ((Qfn L).trans ho)
theorem Jq {t : TypeId} (hu : P.underlying T = some d) (ht : Ji P T = some (z, n, kb)) (hb : w.heap[b]? = some (.cells (Qy L) t fz)) (hd : Pg d = true := by rfl)
  (ho : Qfo L = n := by first | (simp only [Qfo, F6, List.length_map, List.length_cons, List.length_nil, List.length_replicate] <;> omega) | (simp [Qfo, F6] <;> omega)) : (loadVar T ⟨b, 0, none⟩).run P w = .ok (.agg (Qy L)) w :=
 Qnb L hu hd ht hb ((Qfn L).trans ho)
theorem Ud (i : Nat) (L' : List (List Value)) (ht : Ji P T = some (z, 1, kb)) (hx : Ql fr x = ptr b off) (hy : Ql fr y = u) (hu1 : u.oneCell' = true) (hb : w.heap[b]? = some (.cells (Qy L) E fz)) (hg : Qe7 L i = [v]) (hL : setS L i [u] = L') (hi : Nat.blt i L.length = true := by rfl)
  (ho : Qaq L i = off := by first | (simp only [Qaq, F6, List.length_map, List.length_cons, List.length_nil, List.length_replicate] <;> omega) | (simp [Qaq, F6] <;> omega)) (hfz : fz.2 = 0 := by rfl) :
  Vf P fr w (.store T x y) ty (fun _ w' => Upd w b (.cells (Qy L') E fz) w') := by
 obtain ⟨L1, L3, h1, h2, h3⟩ := cutS L i hi
 rw [h1, hg] at hb
 have := Qkz (ty := ty) L1 L3 ht hx hy hu1 hb (h2.trans ho) hfz
 rwa [← hL, h3]
theorem Ue (i : Nat) (L' : List (List Value)) (hfo : ∀ a, (f a).oneCell' = true) (ht : Ji P T = some (z, n, kb)) (hx : Ql fr x = ptr b off) (hy : Ql fr y = agg f l) (hb : w.heap[b]? = some (.cells (Qy L) E fz)) (hL : setS L i (l.map f) = L') (hi : Nat.blt i L.length = true := by rfl)
  (ho : Qaq L i = off := by first | (simp only [Qaq, F6, List.length_map, List.length_cons, List.length_nil, List.length_replicate] <;> omega) | (simp [Qaq, F6] <;> omega))
  (h2 : (Qe7 L i).length = n := by first | (simp only [Qe7, List.length_map] <;> omega) | (simp [Qe7] <;> omega)) (hn : l.length = n := by first | rfl | omega | (simp; done) | (simp; omega)) (hfz : fz.2 = 0 := by rfl) :
  Vf P fr w (.store T x y) ty (fun _ w' => Upd w b (.cells (Qy L') E fz) w') := by
 obtain ⟨L1, L3, h1, h4, h3⟩ := cutS L i hi
 rw [h1] at hb
 have := Qk1 (hfo := hfo) (ty := ty) L1 [Qe7 L i] L3 ht hx hy hb (h4.trans ho) (by simpa using h2) hn hfz
 rwa [← hL, h3]
theorem Ko (ht : Ji P T = some (z, n, kb)) (hx : Ql fr x = ptr b 0) (hy : Ql fr y = .agg (Qy L)) (hb : w.heap[b]? = some (.cells (Qy L') E fz)) (hv : ∀ v ∈ (Qy L).toList, v.oneCell' = true)
  (h : Qfo L = n := by first | (simp only [Qfo, F6, List.length_map, List.length_cons, List.length_nil, List.length_replicate] <;> omega) | (simp [Qfo, F6] <;> omega))
  (hs : Qfo L' = n := by first | (simp only [Qfo, F6, List.length_map, List.length_cons, List.length_nil, List.length_replicate] <;> omega) | (simp [Qfo, F6] <;> omega)) (hfz : fz.2 = 0 := by rfl) :
  Vf P fr w (.store T x y) ty (fun _ w' => Upd w b (.cells (Qy L) E fz) w') := Gy L ht hx hy ((Qfn L).trans h) hv hb (by rw [U2]; exact (Qfn L').trans hs) hfz
theorem Vx {place : Nat → Option (Nat × Nat)} {i : Nat} {cs c' : Array Value} {rest : List (Nat × Array Value)} {S : List Value} (j : Nat) (L' : List (List Value)) (hp : place i = some (off, n)) (hc : cs = Qy [S]) (hL : setS L j S = L') (hr : Qa5 place (Qy L') rest = some c') (hi : Nat.blt j L.length = true := by rfl)
  (ho : Qaq L j = off := by first | (simp only [Qaq, F6, List.length_map, List.length_cons, List.length_nil, List.length_replicate] <;> omega) | (simp [Qaq, F6] <;> omega))
  (h2 : (Qe7 L j).length = n := by first | (simp only [Qe7, List.length_map, List.length_cons, List.length_nil, List.length_replicate] <;> omega) | (simp [Qe7] <;> omega)) (h3 : S.length = n := by first | rfl | (simp only [List.length_map] <;> omega) | (simp <;> omega)) : Qa5 place (Qy L) ((i, cs) :: rest) = some c' := by
 obtain ⟨L1, L3, h1, h4, h5⟩ := cutS L j hi
 rw [h1]
 refine Qqw L1 [Qe7 L j] [S] L3 hp hc (h4.trans ho) (by simpa using h2) (by simpa using h3) ?_
 rw [← h5, hL]; exact hr
theorem Rd.sgA {m : Nat → Option Obj} {b off n : Nat} {j : Int} (i : Nat) (hb : m b = some (.cells (Qy L) E fz)) (hg : Qe7 L i = l.map f) (hi : Nat.blt i L.length = true := by rfl)
  (ho : Qaq L i = off := by first | (simp only [Qaq, F6, List.length_map, List.length_cons, List.length_nil, List.length_replicate] <;> omega) | (simp [Qaq, F6] <;> omega)) (hl : l.length = n := by first | rfl | omega | (simp; done) | (simp; omega)) (hn : 0 < n := by decide) (hj : j.toNat = n := by decide) : Rd m f (Proofs.YtkmiemlpfkfiiaaDoor.sla b off 1 0 j n) l := by
 obtain ⟨L1, L3, h1, h4, h5⟩ := cutS L i hi
 rw [h1, hg] at hb
 exact Rd.segA L1 L3 hb (h4.trans ho) hl hn hj
end
abbrev sE (a b c : Z4) (d e : Bool) (f g : Z4) (i j k : Int) (v : Value) : List (List Value) := [a.map u8, b.map u8, c.map u8, [bl d], [bl e], f.map u8, g.map u8, [i64 i], [i64 j], [i64 k], [v]]
abbrev sK (a : Z4) (i : Int) (b : Z4) : List (List Value) := [a.map u8, [i64 i], b.map u8]
abbrev sH (a : Z4) (i j : Int) : List (List Value) := [a.map u8, [i64 i], [i64 j]]
theorem Ur {a b c : Z4} {d e : Bool} {f g : Z4} {i j k : Int} {v : Value} (h : v.oneCell' = true) : ∀ x ∈ (Qy (sE a b c d e f g i j k v)).toList, x.oneCell' = true :=
 Ym (Jf Qr a) (Ym (Jf Qr b) (Ym (Jf Qr c) (Ym (X0 rfl J6) (Ym (X0 rfl J6) (Ym (Jf Qr f) (Ym (Jf Qr g) (Ym (X0 (Zw _) J6) (Ym (X0 (Zw _) J6) (Ym (X0 (Zw _) J6) (Ym (X0 h J6) U6))))))))))
end Go.Proofs.YtkmiemlpfkfiiaaDoor
