/- The framework, part Q: structs and rows as segments; sums with carry; shifts of whole numbers. Conditions: none. -/
import Derived.Test.YtkmiemlpfkfiiaaDoorFwP
import Derived.Laws.Externs
namespace Go.Proofs.YtkmiemlpfkfiiaaDoor
set_option linter.unusedSimpArgs false
set_option linter.unusedVariables false
def Qp (L : List (List Value)) : Array Value := L.flatten.toArray
theorem Gh (L : List (List Value)) : (Qp L).size = L.flatten.length := by simp [Qp]
theorem Tz : ([] : List (List Value)).flatten.length = 0 := rfl
theorem Gn {S : List Value} {L : List (List Value)} {n m k : Nat} (h : S.length = n) (h' : L.flatten.length = m) (e : n + m = k) : (S :: L).flatten.length = k := by simp [h, h', e]
theorem Ui : ∀ v ∈ (Qp []).toList, v.oneCell' = true := by simp [Qp]
theorem Xt {S : List Value} {L : List (List Value)} (h : S.all (·.oneCell') = true) (h' : ∀ v ∈ (Qp L).toList, v.oneCell' = true) : ∀ v ∈ (Qp (S :: L)).toList, v.oneCell' = true := by
 intro v hv
 simp only [Qp, List.flatten_cons, List.mem_append] at hv
 rcases hv with hv | hv
 ·exact List.all_eq_true.1 h v hv
 exact h' v (by simpa [Qp] using hv)
theorem Qb8 (L1 L2 L3 : List (List Value)) {off n : Nat} (h1 : L1.flatten.length = off) (h2 : L2.flatten.length = n) : (Qp (L1 ++ (L2 ++ L3))).extract off (off + n) = Qp L2 := by
 subst h1 h2
 apply Array.ext'
 simp only [Qp, Array.toList_extract, List.extract_eq_take_drop, List.flatten_append, Nat.add_sub_cancel_left]
 rw [List.drop_left, List.take_left]
theorem Ws {α : Type} (f : α → Value) (l : List α) : Qp [l.map f] = cl f l := by simp [Qp, cl]
theorem Qb7 (L1 L3 : List (List Value)) (v : Value) {off : Nat} (h1 : L1.flatten.length = off) : (Qp (L1 ++ ([v] :: L3)))[off]? = some v := by
 subst h1; simp [Qp]
theorem Qjl (L1 L2 L2' L3 : List (List Value)) {off n : Nat} (h1 : L1.flatten.length = off) (h2 : L2.flatten.length = n) (h3 : L2'.flatten.length = n) : ovr (Qp (L1 ++ (L2 ++ L3))) off (Qp L2').toList = Qp (L1 ++ (L2' ++ L3)) := by
 apply Array.ext'
 rw [Cc _ _ _ (by rw [Gh]; simp only [Qp, List.flatten_append, List.length_append]; omega)]
 subst h1
 simp only [Qp, List.flatten_append, h3, ← h2]
 rw [List.take_left, ← List.drop_drop, List.drop_left, List.drop_left, List.append_assoc]
section
variable {P : Program} {fr : Nat → Value} {w : World} {ty T U E A : TypeId} {x y : Operand} {d : TypeDesc} {z : Option Value} {n kb k b off : Nat} {R : Rest} {H Hs : List (Nat × Obj)} {α : Type} {f : α → Value} {v zv : Value} {l : List α} {m : Nat → Option Obj} {fz : Nat × Nat} {c : Array Value}
theorem Qcu (L1 L2 L3 : List (List Value)) (hu : P.underlying T = some d) (hd : Be d = true) (hi : X4 P T = some (z, n, kb)) (hx : Qg fr x = ptr b off) (hb : w.heap[b]? = some (.cells (Qp (L1 ++ (L2 ++ L3))) E fz)) (h1 : L1.flatten.length = off) (h2 : L2.flatten.length = n) :
  Yt P fr w (.load T x) ty (.agg (Qp L2)) := by
 have := Qad (ty := ty) hu hd hi hx hb (by rw [Gh]; simp only [List.flatten_append, List.length_append]; omega)
 rwa [Qb8 L1 L2 L3 h1 h2] at this
theorem Qiu (L1 L3 : List (List Value)) (l : List α) (hu : P.underlying T = some d) (hd : Be d = true) (hi : X4 P T = some (z, n, kb)) (hx : Qg fr x = ptr b off) (hb : w.heap[b]? = some (.cells (Qp (L1 ++ ([l.map f] ++ L3))) E fz)) (h1 : L1.flatten.length = off) (h2 : l.length = n) :
  Yt P fr w (.load T x) ty (agg f l) := by
 have := Qcu (ty := ty) L1 [l.map f] L3 hu hd hi hx hb h1 (by simpa using h2)
 rwa [Ws] at this
theorem Qit (L1 L3 : List (List Value)) (hu : P.underlying T = some d) (hd : Be d = false) (hx : Qg fr x = ptr b off) (hb : w.heap[b]? = some (.cells (Qp (L1 ++ ([v] :: L3))) E fz)) (h1 : L1.flatten.length = off) : Yt P fr w (.load T x) ty v :=
 Ql hu hd hx hb (Qb7 L1 L3 v h1)
theorem Qil {t : TypeId} (L : List (List Value)) (hu : P.underlying T = some d) (hd : Be d = true) (hi : X4 P T = some (z, n, kb)) (hb : w.heap[b]? = some (.cells (Qp L) t fz)) (h : L.flatten.length = n) : (loadVar T ⟨b, 0, none⟩).run P w = .ok (.agg (Qp L)) w :=
 Xi hu hd hi hb (by rw [Gh]; exact h)
theorem Qf0 {len : Nat} {kk : IntKind} {i : Int} {dE : TypeDesc} (hu : P.underlying T = some (.array len E)) (hE : P.underlying E = some dE) (hd : Be dE = true) (hi : X4 P E = some (z, n, kb)) (hx : Qg fr x = agg f l) (hy : Qg fr y = .int kk i) (h0 : 0 ≤ i) (h1 : i < len) :
  Yt P fr w (.index T x y) ty (agg f ((l.drop (i.toNat * n)).take n)) := by
 have := Qgo (w := w) (ty := ty) hu hE hd hi hx hy h0 h1
 rw [Qli, Nat.add_sub_cancel_left] at this
 exact this
theorem drop_two {l : List α} {j : Nat} (dflt : α) (h : j + 2 ≤ l.length) : (l.drop j).take 2 = [l.getD j dflt, l.getD (j + 1) dflt] := by
 refine List.ext_getElem (by simp; omega) fun i h1 h2 => ?_
 simp only [List.length_cons, List.length_nil] at h2
 have : i = 0 ∨ i = 1 := by omega
 rcases this with rfl | rfl <;> simp [List.getD_eq_getElem?_getD] <;> rw [List.getElem?_eq_getElem (by omega)] <;> rfl
theorem Qiv {len : Nat} {kk : IntKind} {i : Int} {dE : TypeDesc} (dflt : α) (hu : P.underlying T = some (.array len E)) (hE : P.underlying E = some dE) (hd : Be dE = true) (hi : X4 P E = some (z, 2, kb)) (hx : Qg fr x = agg f l) (hy : Qg fr y = .int kk i) (h0 : 0 ≤ i) (h1 : i < len) (h2 : i.toNat * 2 + 2 ≤ l.length) :
  Yt P fr w (.index T x y) ty (agg f [l.getD (i.toNat * 2) dflt, l.getD (i.toNat * 2 + 1) dflt]) := by
 have := Qf0 (w := w) (ty := ty) hu hE hd hi hx hy h0 h1
 rw [drop_two dflt h2] at this
 exact this
theorem Qgm (L1 L2 L2' L3 : List (List Value)) (hi : X4 P T = some (z, n, kb)) (hx : Qg fr x = ptr b off) (hy : Qg fr y = .agg (Qp L2')) (hb : w.heap[b]? = some (.cells (Qp (L1 ++ (L2 ++ L3))) E fz)) (h1 : L1.flatten.length = off) (h2 : L2.flatten.length = n) (h3 : L2'.flatten.length = n) (hv : ∀ v ∈ (Qp L2').toList, v.oneCell' = true) (hfz : fz.2 = 0) :
  J8 P fr w (.store T x y) ty (fun _ w' => Upd w b (.cells (Qp (L1 ++ (L2' ++ L3))) E fz) w') := by
 have := Qg7 (ty := ty) hi hx hy (by rw [Gh]; exact h3) hv hb (by rw [Gh]; simp only [List.flatten_append, List.length_append]; omega) (.inl (by omega))
 rw [Qjl L1 L2 L2' L3 h1 h2 h3] at this
 exact this
theorem Qgn {hfo : ∀ a, (f a).oneCell' = true} (L1 L2 L3 : List (List Value)) (hi : X4 P T = some (z, n, kb)) (hx : Qg fr x = ptr b off) (hy : Qg fr y = agg f l) (hb : w.heap[b]? = some (.cells (Qp (L1 ++ (L2 ++ L3))) E fz)) (h1 : L1.flatten.length = off) (h2 : L2.flatten.length = n) (h3 : l.length = n) (hfz : fz.2 = 0) :
  J8 P fr w (.store T x y) ty (fun _ w' => Upd w b (.cells (Qp (L1 ++ ([l.map f] ++ L3))) E fz) w') := by
 refine Qgm L1 L2 [l.map f] L3 hi hx (by rw [Ws]; exact hy) hb h1 h2 (by simpa using h3) (Xt (Yj hfo l) Ui) hfz
theorem Qgl {u : Value} (L1 L3 : List (List Value)) (hi : X4 P T = some (z, 1, kb)) (hx : Qg fr x = ptr b off) (hy : Qg fr y = u) (hu1 : u.oneCell' = true) (hb : w.heap[b]? = some (.cells (Qp (L1 ++ ([v] :: L3))) E fz)) (h1 : L1.flatten.length = off) (hfz : fz.2 = 0) :
  J8 P fr w (.store T x y) ty (fun _ w' => Upd w b (.cells (Qp (L1 ++ ([u] :: L3))) E fz) w') := by
 have := Vw (ty := ty) hi hx hy hu1 hb (by rw [Gh]; simp only [List.flatten_append, List.length_append, List.flatten_cons, List.length_cons, List.length_nil]; omega) (.inl (by omega))
 have e : (Qp (L1 ++ ([v] :: L3))).setIfInBounds off u = Qp (L1 ++ ([u] :: L3)) := by
  subst h1
  apply Array.ext'
  simp [Qp]
 rw [e] at this
 exact this
theorem Wl (L : List (List Value)) (hi : X4 P T = some (z, n, kb)) (hx : Qg fr x = ptr b 0) (hy : Qg fr y = .agg (Qp L)) (h : L.flatten.length = n) (hv : ∀ v ∈ (Qp L).toList, v.oneCell' = true) (hb : w.heap[b]? = some (.cells c E fz)) (hs : c.size = n) (hfz : fz.2 = 0) :
  J8 P fr w (.store T x y) ty (fun _ w' => Upd w b (.cells (Qp L) E fz) w') := Qde hi hx hy (by rw [Gh]; exact h) hv hb hs hfz
theorem Dc {place : Nat → Option (Nat × Nat)} : Nh place c [] = some c := rfl
theorem Qlh {place : Nat → Option (Nat × Nat)} {i : Nat} {cs c' : Array Value} {rest : List (Nat × Array Value)} (L1 L2 L2' L3 : List (List Value)) (hp : place i = some (off, n)) (hc : cs = Qp L2') (h1 : L1.flatten.length = off) (h2 : L2.flatten.length = n) (h3 : L2'.flatten.length = n)
  (hr : Nh place (Qp (L1 ++ (L2' ++ L3))) rest = some c') : Nh place (Qp (L1 ++ (L2 ++ L3))) ((i, cs) :: rest) = some c' := by
 subst hc
 simp only [Nh, hp]
 have e : (Nat.beq (Qp L2').size n && Nat.ble (off + (Qp L2').size) (Qp (L1 ++ (L2 ++ L3))).size) = true := by
  rw [Bool.and_eq_true]
  refine ⟨by rw [Gh, h3]; exact Nat.beq_refl n, Nat.ble_eq_true_of_le ?_⟩
  rw [Gh, Gh, h3]; simp only [List.flatten_append, List.length_append]; omega
 rw [if_pos e, Qjl L1 L2 L2' L3 h1 h2 h3]
 exact hr
def J7 (a b c : BitVec 64) : BitVec 64 := BitVec.ofNat 64 ((a.toNat + b.toNat + c.toNat) / 18446744073709551616)
theorem Qf3 {g : FuncId} {fn : Func} {x y q : Operand} {a b c : BitVec 64} {ts : Array TypeId} (hf : P.funcs[g]? = some fn) (hnm : (fn.name == "runtime.NumGoroutine") = false) (hb : fn.body.isNone = true) (hn : Extern.findNext fn = none) (he : Extern.find fn = some add64Entry)
  (hx : Qg fr x = u64 a) (hy : Qg fr y = u64 b) (hq : Qg fr q = u64 c) (hc : c.toNat ≤ 1) : Yt P fr w (.call ⟨.value (.func g), #[x, y, q], ts⟩) ty (.tuple #[u64 (a + b + c), u64 (J7 a b c)]) := by
 unfold Yt
 have e : Ew (Qg fr) (.call ⟨.value (.func g), #[x, y, q], ts⟩) ty = (do let d ← resolve (Qg fr) ⟨.value (.func g), #[x, y, q], ts⟩ ty; invoke d.target d.args) := rfl
 have h2 := run_callFunc_extern (P := P) hf hnm hb hn he #[u64 a, u64 b, u64 c] w
 have h3 := run_add64 (P := P) (a.toNat : Int) (b.toNat : Int) (c.toNat : Int) (by omega) (by omega) (by omega) (by omega) w
 have e1 : u64 (a + b + c) = .int .u64 (((a.toNat : Int) + b.toNat + c.toNat) % 18446744073709551616) := by
  simp only [u64, BitVec.toNat_add]; congr 1; omega
 have e2 : u64 (J7 a b c) = .int .u64 (((a.toNat : Int) + b.toNat + c.toNat) / 18446744073709551616) := by
  simp only [u64, J7, BitVec.toNat_ofNat]; congr 1
  have := a.isLt; have := b.isLt
  omega
 rw [e, e1, e2]
 have h4 : (callFunc g #[u64 a, u64 b, u64 c]).run P w = _ := h2
 simp only [u64] at h4
 rw [h3] at h4
 simp only [Result.andThen] at h4
 have hg : Qg fr (.func g) = .func (.func g) #[] #[] := rfl
 simp [resolve, hg, Deferred.ofValue, invoke, hx, hy, hq, u64, h4]
theorem Qlp {a : Int} {ky : IntKind} {b : Int} {t t' : TypeId} (hx : Qg fr x = i64 a) (hy : Qg fr y = .int ky b) (hb : 0 ≤ b) (hb' : b ≤ 62) : Yt P fr w (.binOp .shr t x y t') ty (i64 (a / 2 ^ b.toNat)) :=
 Ae (.inr rfl) hx hy hb (by
  have e : min b.toNat IntKind.i64.bits = b.toNat := by simp only [IntKind.bits]; omega
  rw [e]
  simp only [i64, reduceCtorEq, if_false]
  congr 1
  rw [Int.fdiv_eq_ediv_of_nonneg _ (Int.pow_nonneg Yh)])
theorem Qae {a p : Int} {ky : IntKind} {b : Int} {t t' : TypeId} (hp : (2 : Int) ^ b.toNat = p) (hx : Qg fr x = i64 a) (hy : Qg fr y = .int ky b) (hb : 0 ≤ b) (hb' : b ≤ 62) : Yt P fr w (.binOp .shr t x y t') ty (i64 (a / p)) := hp ▸ Qlp hx hy hb hb'
theorem Qlq {a : Int} {ky : IntKind} {b : Int} {t t' : TypeId} (hx : Qg fr x = i64 a) (hy : Qg fr y = .int ky b) (hb : 0 ≤ b) (hb' : b ≤ 62) (h0 : -9223372036854775808 ≤ a * 2 ^ b.toNat) (h1 : a * 2 ^ b.toNat < 9223372036854775808) : Yt P fr w (.binOp .shl t x y t') ty (i64 (a * 2 ^ b.toNat)) :=
 Ae (.inl rfl) hx hy hb (by
  have e : min b.toNat IntKind.i64.bits = b.toNat := by simp only [IntKind.bits]; omega
  rw [e]
  simp only [i64, if_true]
  rw [F6 h0 h1])
theorem Qaf {a p : Int} {ky : IntKind} {b : Int} {t t' : TypeId} (hp : (2 : Int) ^ b.toNat = p) (hx : Qg fr x = i64 a) (hy : Qg fr y = .int ky b) (hb : 0 ≤ b) (hb' : b ≤ 62) (h0 : -9223372036854775808 ≤ a * p) (h1 : a * p < 9223372036854775808) : Yt P fr w (.binOp .shl t x y t') ty (i64 (a * p)) := by
 subst hp; exact Qlq hx hy hb hb' h0 h1
end
section
variable {E : TypeId}
theorem Rd.seg {α : Type} {f : α → Value} {m : Nat → Option Obj} {b off n : Nat} {l : List α} {fz : Nat × Nat} (L1 L2 : List (List Value)) (hb : m b = some (.cells (Qp (L1 ++ (l.map f :: L2))) E fz)) (h1 : L1.flatten.length = off) (hl : l.length = n) : Rd m f (Kq b off n n) l := by
 subst hl h1
 refine Rd.mk' (Nat.le_refl _) hb fun i hi => ?_
 simp only [Qp, List.flatten_append, List.flatten_cons, List.getElem?_toArray]
 rw [List.getElem?_append_right (by omega), Nat.add_sub_cancel_left, List.getElem?_append_left (by simpa using hi)]
 simp [hi]
theorem Rd.segA {α : Type} {f : α → Value} {m : Nat → Option Obj} {b off n : Nat} {j : Int} {l : List α} {fz : Nat × Nat} (L1 L2 : List (List Value)) (hb : m b = some (.cells (Qp (L1 ++ (l.map f :: L2))) E fz)) (h1 : L1.flatten.length = off) (hl : l.length = n) (hn : 0 < n) (hj : j.toNat = n) : Rd m f (Proofs.YtkmiemlpfkfiiaaDoor.sla b off 1 0 j n) l := by
 have e : Proofs.YtkmiemlpfkfiiaaDoor.sla b off 1 0 j n = Kq b off n n := by
  unfold Proofs.YtkmiemlpfkfiiaaDoor.sla
  have : ¬ n = 0 := by omega
  simp [this, hj]
 rw [e]; exact Rd.seg L1 L2 hb h1 hl
end
def Qbq : List (List Value) → Nat → List Value
 | [], _ => []
 | s :: _, 0 => s
 | _ :: L, i + 1 => Qbq L i
def setS : List (List Value) → Nat → List Value → List (List Value)
 | [], _, _ => []
 | _ :: L, 0, x => x :: L
 | s :: L, i + 1, x => s :: setS L i x
def Ll : List (List Value) → Nat → Nat
 | _, 0 => 0
 | [], _ + 1 => 0
 | s :: L, i + 1 => s.length + Ll L i
def Qb1 : List (List Value) → Nat
 | [] => 0
 | s :: L => s.length + Qb1 L
theorem Qb0 : ∀ L : List (List Value), L.flatten.length = Qb1 L
 | [] => rfl
 | s :: L => by rw [List.flatten_cons, List.length_append, Qb0 L]; rfl
theorem cutS : ∀ (L : List (List Value)) (i : Nat), Nat.blt i L.length = true → ∃ L1 L3, L = L1 ++ ([Qbq L i] ++ L3) ∧ L1.flatten.length = Ll L i ∧ ∀ x, setS L i x = L1 ++ ([x] ++ L3)
 | [], i, h => by simp [Nat.blt] at h
 | s :: L, 0, _ => ⟨[], L, rfl, rfl, fun _ => rfl⟩
 | s :: L, i + 1, h => by
  obtain ⟨L1, L3, h1, h2, h3⟩ := cutS L i h
  refine ⟨s :: L1, L3, congrArg (s :: ·) h1, ?_, fun x => congrArg (s :: ·) (h3 x)⟩
  rw [List.flatten_cons, List.length_append, h2]; rfl
section
variable {P : Program} {fr : Nat → Value} {w : World} {ty T U E A : TypeId} {x y : Operand} {d : TypeDesc} {z : Option Value} {n kb k b off : Nat} {α : Type} {f : α → Value} {v u : Value} {l : List α} {fz : Nat × Nat} {c : Array Value} {L L' : List (List Value)}
theorem Yp (i : Nat) (hu : P.underlying T = some d) (hx : Qg fr x = ptr b off) (hb : w.heap[b]? = some (.cells (Qp L) E fz)) (hg : Qbq L i = [v]) (hd : Be d = false := by rfl) (hi : Nat.blt i L.length = true := by rfl)
  (ho : Ll L i = off := by first | (simp only [Ll, Fz, List.length_map, List.length_cons, List.length_nil, List.length_replicate] <;> omega) | (simp [Ll, Fz] <;> omega)) : Yt P fr w (.load T x) ty v := by
 obtain ⟨L1, L3, h1, h2, h3⟩ := cutS L i hi
 rw [h1, hg] at hb
 exact Qit L1 L3 hu hd hx hb (h2.trans ho)
theorem Y8 (i : Nat) (hu : P.underlying T = some d) (ht : X4 P T = some (z, n, kb)) (hx : Qg fr x = ptr b off) (hb : w.heap[b]? = some (.cells (Qp L) E fz)) (hg : Qbq L i = l.map f) (hd : Be d = true := by rfl) (hi : Nat.blt i L.length = true := by rfl)
  (ho : Ll L i = off := by first | (simp only [Ll, Fz, List.length_map, List.length_cons, List.length_nil, List.length_replicate] <;> omega) | (simp [Ll, Fz] <;> omega)) (hn : l.length = n := by first | rfl | omega | (simp; done) | (simp; omega)) : Yt P fr w (.load T x) ty (agg f l) := by
 obtain ⟨L1, L3, h1, h2, h3⟩ := cutS L i hi
 rw [h1, hg] at hb
 exact Qiu L1 L3 l hu hd ht hx hb (h2.trans ho) hn
theorem Jt (hu : P.underlying T = some d) (ht : X4 P T = some (z, n, kb)) (hx : Qg fr x = ptr b 0) (hb : w.heap[b]? = some (.cells (Qp L) E fz)) (hd : Be d = true := by rfl)
  (ho : Qb1 L = n := by first | (simp only [Qb1, Fz, List.length_map, List.length_cons, List.length_nil, List.length_replicate] <;> omega) | (simp [Qb1, Fz] <;> omega)) : Yt P fr w (.load T x) ty (.agg (Qp L)) :=
 Qcu [] L [] hu hd ht hx (by simpa using hb) rfl ((Qb0 L).trans ho)
theorem Ku {t : TypeId} (hu : P.underlying T = some d) (ht : X4 P T = some (z, n, kb)) (hb : w.heap[b]? = some (.cells (Qp L) t fz)) (hd : Be d = true := by rfl)
  (ho : Qb1 L = n := by first | (simp only [Qb1, Fz, List.length_map, List.length_cons, List.length_nil, List.length_replicate] <;> omega) | (simp [Qb1, Fz] <;> omega)) : (loadVar T ⟨b, 0, none⟩).run P w = .ok (.agg (Qp L)) w :=
 Qil L hu hd ht hb ((Qb0 L).trans ho)
theorem Dn (i : Nat) (L' : List (List Value)) (ht : X4 P T = some (z, 1, kb)) (hx : Qg fr x = ptr b off) (hy : Qg fr y = u) (hu1 : u.oneCell' = true) (hb : w.heap[b]? = some (.cells (Qp L) E fz)) (hg : Qbq L i = [v]) (hL : setS L i [u] = L') (hi : Nat.blt i L.length = true := by rfl)
  (ho : Ll L i = off := by first | (simp only [Ll, Fz, List.length_map, List.length_cons, List.length_nil, List.length_replicate] <;> omega) | (simp [Ll, Fz] <;> omega)) (hfz : fz.2 = 0 := by rfl) :
  J8 P fr w (.store T x y) ty (fun _ w' => Upd w b (.cells (Qp L') E fz) w') := by
 obtain ⟨L1, L3, h1, h2, h3⟩ := cutS L i hi
 rw [h1, hg] at hb
 have := Qgl (ty := ty) L1 L3 ht hx hy hu1 hb (h2.trans ho) hfz
 rwa [← hL, h3]
theorem Dp (i : Nat) (L' : List (List Value)) (hfo : ∀ a, (f a).oneCell' = true) (ht : X4 P T = some (z, n, kb)) (hx : Qg fr x = ptr b off) (hy : Qg fr y = agg f l) (hb : w.heap[b]? = some (.cells (Qp L) E fz)) (hL : setS L i (l.map f) = L') (hi : Nat.blt i L.length = true := by rfl)
  (ho : Ll L i = off := by first | (simp only [Ll, Fz, List.length_map, List.length_cons, List.length_nil, List.length_replicate] <;> omega) | (simp [Ll, Fz] <;> omega))
  (h2 : (Qbq L i).length = n := by first | (simp only [Qbq, List.length_map] <;> omega) | (simp [Qbq] <;> omega)) (hn : l.length = n := by first | rfl | omega | (simp; done) | (simp; omega)) (hfz : fz.2 = 0 := by rfl) :
  J8 P fr w (.store T x y) ty (fun _ w' => Upd w b (.cells (Qp L') E fz) w') := by
 obtain ⟨L1, L3, h1, h4, h3⟩ := cutS L i hi
 rw [h1] at hb
 have := Qgn (hfo := hfo) (ty := ty) L1 [Qbq L i] L3 ht hx hy hb (h4.trans ho) (by simpa using h2) hn hfz
 rwa [← hL, h3]
theorem Jw (ht : X4 P T = some (z, n, kb)) (hx : Qg fr x = ptr b 0) (hy : Qg fr y = .agg (Qp L)) (hb : w.heap[b]? = some (.cells (Qp L') E fz)) (hv : ∀ v ∈ (Qp L).toList, v.oneCell' = true)
  (h : Qb1 L = n := by first | (simp only [Qb1, Fz, List.length_map, List.length_cons, List.length_nil, List.length_replicate] <;> omega) | (simp [Qb1, Fz] <;> omega))
  (hs : Qb1 L' = n := by first | (simp only [Qb1, Fz, List.length_map, List.length_cons, List.length_nil, List.length_replicate] <;> omega) | (simp [Qb1, Fz] <;> omega)) (hfz : fz.2 = 0 := by rfl) :
  J8 P fr w (.store T x y) ty (fun _ w' => Upd w b (.cells (Qp L) E fz) w') := Wl L ht hx hy ((Qb0 L).trans h) hv hb (by rw [Gh]; exact (Qb0 L').trans hs) hfz
theorem Vb {place : Nat → Option (Nat × Nat)} {i : Nat} {cs c' : Array Value} {rest : List (Nat × Array Value)} {S : List Value} (j : Nat) (L' : List (List Value)) (hp : place i = some (off, n)) (hc : cs = Qp [S]) (hL : setS L j S = L') (hr : Nh place (Qp L') rest = some c') (hi : Nat.blt j L.length = true := by rfl)
  (ho : Ll L j = off := by first | (simp only [Ll, Fz, List.length_map, List.length_cons, List.length_nil, List.length_replicate] <;> omega) | (simp [Ll, Fz] <;> omega))
  (h2 : (Qbq L j).length = n := by first | (simp only [Qbq, List.length_map, List.length_cons, List.length_nil, List.length_replicate] <;> omega) | (simp [Qbq] <;> omega)) (h3 : S.length = n := by first | rfl | (simp only [List.length_map] <;> omega) | (simp <;> omega)) : Nh place (Qp L) ((i, cs) :: rest) = some c' := by
 obtain ⟨L1, L3, h1, h4, h5⟩ := cutS L j hi
 rw [h1]
 refine Qlh L1 [Qbq L j] [S] L3 hp hc (h4.trans ho) (by simpa using h2) (by simpa using h3) ?_
 rw [← h5, hL]; exact hr
theorem Rd.sgA {m : Nat → Option Obj} {b off n : Nat} {j : Int} (i : Nat) (hb : m b = some (.cells (Qp L) E fz)) (hg : Qbq L i = l.map f) (hi : Nat.blt i L.length = true := by rfl)
  (ho : Ll L i = off := by first | (simp only [Ll, Fz, List.length_map, List.length_cons, List.length_nil, List.length_replicate] <;> omega) | (simp [Ll, Fz] <;> omega)) (hl : l.length = n := by first | rfl | omega | (simp; done) | (simp; omega)) (hn : 0 < n := by decide) (hj : j.toNat = n := by decide) : Rd m f (Proofs.YtkmiemlpfkfiiaaDoor.sla b off 1 0 j n) l := by
 obtain ⟨L1, L3, h1, h4, h5⟩ := cutS L i hi
 rw [h1, hg] at hb
 exact Rd.segA L1 L3 hb (h4.trans ho) hl hn hj
end
abbrev sE (a b c : Zj) (d e : Bool) (f g : Zj) (i j k : Int) (v : Value) : List (List Value) := [a.map u8, b.map u8, c.map u8, [bl d], [bl e], f.map u8, g.map u8, [i64 i], [i64 j], [i64 k], [v]]
abbrev sK (a : Zj) (i : Int) (b : Zj) : List (List Value) := [a.map u8, [i64 i], b.map u8]
abbrev sH (a : Zj) (i j : Int) : List (List Value) := [a.map u8, [i64 i], [i64 j]]
theorem Us {a b c : Zj} {d e : Bool} {f g : Zj} {i j k : Int} {v : Value} (h : v.oneCell' = true) : ∀ x ∈ (Qp (sE a b c d e f g i j k v)).toList, x.oneCell' = true :=
 Xt (Yj Q9 a) (Xt (Yj Q9 b) (Xt (Yj Q9 c) (Xt (Zz rfl Jm) (Xt (Zz rfl Jm) (Xt (Yj Q9 f) (Xt (Yj Q9 g) (Xt (Zz (Jn _) Jm) (Xt (Zz (Jn _) Jm) (Xt (Zz (Jn _) Jm) (Xt (Zz h Jm) Ui))))))))))
end Go.Proofs.YtkmiemlpfkfiiaaDoor
