/- The framework, part Q: structs and rows as segments; sums with carry; shifts of whole numbers. Conditions: none. -/
import Derived.Test.YtkmiemlpfkfiiaaDoorFwP
import Derived.Laws.Externs
namespace Go.Proofs.YtkmiemlpfkfiiaaDoor
set_option linter.unusedSimpArgs false
set_option linter.unusedVariables false
def Qz (L : List (List Value)) : Array Value := L.flatten.toArray
theorem U5 (L : List (List Value)) : (Qz L).size = L.flatten.length := by simp [Qz]
theorem Qe4 : ([] : List (List Value)).flatten.length = 0 := rfl
theorem Bc {S : List Value} {L : List (List Value)} {n m k : Nat} (h : S.length = n) (h' : L.flatten.length = m) (e : n + m = k) : (S :: L).flatten.length = k := by simp [h, h', e]
theorem Uw : ∀ v ∈ (Qz []).toList, v.oneCell' = true := by simp [Qz]
theorem Yl {S : List Value} {L : List (List Value)} (h : S.all (·.oneCell') = true) (h' : ∀ v ∈ (Qz L).toList, v.oneCell' = true) : ∀ v ∈ (Qz (S :: L)).toList, v.oneCell' = true := by
 intro v hv
 simp only [Qz, List.flatten_cons, List.mem_append] at hv
 rcases hv with hv | hv
 ·exact List.all_eq_true.1 h v hv
 exact h' v (by simpa [Qz] using hv)
theorem Qfj (L1 L2 L3 : List (List Value)) {off n : Nat} (h1 : L1.flatten.length = off) (h2 : L2.flatten.length = n) : (Qz (L1 ++ (L2 ++ L3))).extract off (off + n) = Qz L2 := by
 subst h1 h2
 apply Array.ext'
 simp only [Qz, Array.toList_extract, List.extract_eq_take_drop, List.flatten_append, Nat.add_sub_cancel_left]
 rw [List.drop_left, List.take_left]
theorem Gj {α : Type} (f : α → Value) (l : List α) : Qz [l.map f] = cl f l := by simp [Qz, cl]
theorem Qfi (L1 L3 : List (List Value)) (v : Value) {off : Nat} (h1 : L1.flatten.length = off) : (Qz (L1 ++ ([v] :: L3)))[off]? = some v := by
 subst h1; simp [Qz]
theorem Qm7 (L1 L2 L2' L3 : List (List Value)) {off n : Nat} (h1 : L1.flatten.length = off) (h2 : L2.flatten.length = n) (h3 : L2'.flatten.length = n) : ovr (Qz (L1 ++ (L2 ++ L3))) off (Qz L2').toList = Qz (L1 ++ (L2' ++ L3)) := by
 apply Array.ext'
 rw [Px _ _ _ (by rw [U5]; simp only [Qz, List.flatten_append, List.length_append]; omega)]
 subst h1
 simp only [Qz, List.flatten_append, h3, ← h2]
 rw [List.take_left, ← List.drop_drop, List.drop_left, List.drop_left, List.append_assoc]
section
variable {P : Program} {fr : Nat → Value} {w : World} {ty T U E A : TypeId} {x y : Operand} {d : TypeDesc} {z : Option Value} {n kb k b off : Nat} {R : Rest} {H Hs : List (Nat × Obj)} {α : Type} {f : α → Value} {v zv : Value} {l : List α} {m : Nat → Option Obj} {fz : Nat × Nat} {c : Array Value}
theorem Qf3 (L1 L2 L3 : List (List Value)) (hu : P.underlying T = some d) (hd : Pj d = true) (hi : Jh P T = some (z, n, kb)) (hx : Ql fr x = ptr b off) (hb : w.heap[b]? = some (.cells (Qz (L1 ++ (L2 ++ L3))) E fz)) (h1 : L1.flatten.length = off) (h2 : L2.flatten.length = n) :
  Jy P fr w (.load T x) ty (.agg (Qz L2)) := by
 have := Qdo (ty := ty) hu hd hi hx hb (by rw [U5]; simp only [List.flatten_append, List.length_append]; omega)
 rwa [Qfj L1 L2 L3 h1 h2] at this
theorem Qmk (L1 L3 : List (List Value)) (l : List α) (hu : P.underlying T = some d) (hd : Pj d = true) (hi : Jh P T = some (z, n, kb)) (hx : Ql fr x = ptr b off) (hb : w.heap[b]? = some (.cells (Qz (L1 ++ ([l.map f] ++ L3))) E fz)) (h1 : L1.flatten.length = off) (h2 : l.length = n) :
  Jy P fr w (.load T x) ty (agg f l) := by
 have := Qf3 (ty := ty) L1 [l.map f] L3 hu hd hi hx hb h1 (by simpa using h2)
 rwa [Gj] at this
theorem Qmj (L1 L3 : List (List Value)) (hu : P.underlying T = some d) (hd : Pj d = false) (hx : Ql fr x = ptr b off) (hb : w.heap[b]? = some (.cells (Qz (L1 ++ ([v] :: L3))) E fz)) (h1 : L1.flatten.length = off) : Jy P fr w (.load T x) ty v :=
 Qi hu hd hx hb (Qfi L1 L3 v h1)
theorem Ql9 {t : TypeId} (L : List (List Value)) (hu : P.underlying T = some d) (hd : Pj d = true) (hi : Jh P T = some (z, n, kb)) (hb : w.heap[b]? = some (.cells (Qz L) t fz)) (h : L.flatten.length = n) : (loadVar T ⟨b, 0, none⟩).run P w = .ok (.agg (Qz L)) w :=
 Xn hu hd hi hb (by rw [U5]; exact h)
theorem Qjm {len : Nat} {kk : IntKind} {i : Int} {dE : TypeDesc} (hu : P.underlying T = some (.array len E)) (hE : P.underlying E = some dE) (hd : Pj dE = true) (hi : Jh P E = some (z, n, kb)) (hx : Ql fr x = agg f l) (hy : Ql fr y = .int kk i) (h0 : 0 ≤ i) (h1 : i < len) :
  Jy P fr w (.index T x y) ty (agg f ((l.drop (i.toNat * n)).take n)) := by
 have := Qki (w := w) (ty := ty) hu hE hd hi hx hy h0 h1
 rw [Qpf, Nat.add_sub_cancel_left] at this
 exact this
theorem drop_two {l : List α} {j : Nat} (dflt : α) (h : j + 2 ≤ l.length) : (l.drop j).take 2 = [l.getD j dflt, l.getD (j + 1) dflt] := by
 refine List.ext_getElem (by simp; omega) fun i h1 h2 => ?_
 simp only [List.length_cons, List.length_nil] at h2
 have : i = 0 ∨ i = 1 := by omega
 rcases this with rfl | rfl <;> simp [List.getD_eq_getElem?_getD] <;> rw [List.getElem?_eq_getElem (by omega)] <;> rfl
theorem Qml {len : Nat} {kk : IntKind} {i : Int} {dE : TypeDesc} (dflt : α) (hu : P.underlying T = some (.array len E)) (hE : P.underlying E = some dE) (hd : Pj dE = true) (hi : Jh P E = some (z, 2, kb)) (hx : Ql fr x = agg f l) (hy : Ql fr y = .int kk i) (h0 : 0 ≤ i) (h1 : i < len) (h2 : i.toNat * 2 + 2 ≤ l.length) :
  Jy P fr w (.index T x y) ty (agg f [l.getD (i.toNat * 2) dflt, l.getD (i.toNat * 2 + 1) dflt]) := by
 have := Qjm (w := w) (ty := ty) hu hE hd hi hx hy h0 h1
 rw [drop_two dflt h2] at this
 exact this
theorem Qke (L1 L2 L2' L3 : List (List Value)) (hi : Jh P T = some (z, n, kb)) (hx : Ql fr x = ptr b off) (hy : Ql fr y = .agg (Qz L2')) (hb : w.heap[b]? = some (.cells (Qz (L1 ++ (L2 ++ L3))) E fz)) (h1 : L1.flatten.length = off) (h2 : L2.flatten.length = n) (h3 : L2'.flatten.length = n) (hv : ∀ v ∈ (Qz L2').toList, v.oneCell' = true) (hfz : fz.2 = 0) :
  Wu P fr w (.store T x y) ty (fun _ w' => Upd w b (.cells (Qz (L1 ++ (L2' ++ L3))) E fz) w') := by
 have := Qk3 (ty := ty) hi hx hy (by rw [U5]; exact h3) hv hb (by rw [U5]; simp only [List.flatten_append, List.length_append]; omega) (.inl (by omega))
 rw [Qm7 L1 L2 L2' L3 h1 h2 h3] at this
 exact this
theorem Qkf {hfo : ∀ a, (f a).oneCell' = true} (L1 L2 L3 : List (List Value)) (hi : Jh P T = some (z, n, kb)) (hx : Ql fr x = ptr b off) (hy : Ql fr y = agg f l) (hb : w.heap[b]? = some (.cells (Qz (L1 ++ (L2 ++ L3))) E fz)) (h1 : L1.flatten.length = off) (h2 : L2.flatten.length = n) (h3 : l.length = n) (hfz : fz.2 = 0) :
  Wu P fr w (.store T x y) ty (fun _ w' => Upd w b (.cells (Qz (L1 ++ ([l.map f] ++ L3))) E fz) w') := by
 refine Qke L1 L2 [l.map f] L3 hi hx (by rw [Gj]; exact hy) hb h1 h2 (by simpa using h3) (Yl (Jj hfo l) Uw) hfz
theorem Qkd {u : Value} (L1 L3 : List (List Value)) (hi : Jh P T = some (z, 1, kb)) (hx : Ql fr x = ptr b off) (hy : Ql fr y = u) (hu1 : u.oneCell' = true) (hb : w.heap[b]? = some (.cells (Qz (L1 ++ ([v] :: L3))) E fz)) (h1 : L1.flatten.length = off) (hfz : fz.2 = 0) :
  Wu P fr w (.store T x y) ty (fun _ w' => Upd w b (.cells (Qz (L1 ++ ([u] :: L3))) E fz) w') := by
 have := Ul (ty := ty) hi hx hy hu1 hb (by rw [U5]; simp only [List.flatten_append, List.length_append, List.flatten_cons, List.length_cons, List.length_nil]; omega) (.inl (by omega))
 have e : (Qz (L1 ++ ([v] :: L3))).setIfInBounds off u = Qz (L1 ++ ([u] :: L3)) := by
  subst h1
  apply Array.ext'
  simp [Qz]
 rw [e] at this
 exact this
theorem Ux (L : List (List Value)) (hi : Jh P T = some (z, n, kb)) (hx : Ql fr x = ptr b 0) (hy : Ql fr y = .agg (Qz L)) (h : L.flatten.length = n) (hv : ∀ v ∈ (Qz L).toList, v.oneCell' = true) (hb : w.heap[b]? = some (.cells c E fz)) (hs : c.size = n) (hfz : fz.2 = 0) :
  Wu P fr w (.store T x y) ty (fun _ w' => Upd w b (.cells (Qz L) E fz) w') := Qgr hi hx hy (by rw [U5]; exact h) hv hb hs hfz
theorem Bq {place : Nat → Option (Nat × Nat)} : Qbf place c [] = some c := rfl
theorem Qpe {place : Nat → Option (Nat × Nat)} {i : Nat} {cs c' : Array Value} {rest : List (Nat × Array Value)} (L1 L2 L2' L3 : List (List Value)) (hp : place i = some (off, n)) (hc : cs = Qz L2') (h1 : L1.flatten.length = off) (h2 : L2.flatten.length = n) (h3 : L2'.flatten.length = n)
  (hr : Qbf place (Qz (L1 ++ (L2' ++ L3))) rest = some c') : Qbf place (Qz (L1 ++ (L2 ++ L3))) ((i, cs) :: rest) = some c' := by
 subst hc
 simp only [Qbf, hp]
 have e : (Nat.beq (Qz L2').size n && Nat.ble (off + (Qz L2').size) (Qz (L1 ++ (L2 ++ L3))).size) = true := by
  rw [Bool.and_eq_true]
  refine ⟨by rw [U5, h3]; exact Nat.beq_refl n, Nat.ble_eq_true_of_le ?_⟩
  rw [U5, U5, h3]; simp only [List.flatten_append, List.length_append]; omega
 rw [if_pos e, Qm7 L1 L2 L2' L3 h1 h2 h3]
 exact hr
def Gh (a b c : BitVec 64) : BitVec 64 := BitVec.ofNat 64 ((a.toNat + b.toNat + c.toNat) / 18446744073709551616)
theorem Qjp {g : FuncId} {fn : Func} {x y q : Operand} {a b c : BitVec 64} {ts : Array TypeId} (hf : P.funcs[g]? = some fn) (hnm : (fn.name == "runtime.NumGoroutine") = false) (hb : fn.body.isNone = true) (hn : Extern.findNext fn = none) (he : Extern.find fn = some add64Entry)
  (hx : Ql fr x = u64 a) (hy : Ql fr y = u64 b) (hq : Ql fr q = u64 c) (hc : c.toNat ≤ 1) : Jy P fr w (.call ⟨.value (.func g), #[x, y, q], ts⟩) ty (.tuple #[u64 (a + b + c), u64 (Gh a b c)]) := by
 unfold Jy
 have e : Nb (Ql fr) (.call ⟨.value (.func g), #[x, y, q], ts⟩) ty = (do let d ← resolve (Ql fr) ⟨.value (.func g), #[x, y, q], ts⟩ ty; invoke d.target d.args) := rfl
 have h2 := run_callFunc_extern (P := P) hf hnm hb hn he #[u64 a, u64 b, u64 c] w
 have h3 := run_add64 (P := P) (a.toNat : Int) (b.toNat : Int) (c.toNat : Int) (by omega) (by omega) (by omega) (by omega) w
 have e1 : u64 (a + b + c) = .int .u64 (((a.toNat : Int) + b.toNat + c.toNat) % 18446744073709551616) := by
  simp only [u64, BitVec.toNat_add]; congr 1; omega
 have e2 : u64 (Gh a b c) = .int .u64 (((a.toNat : Int) + b.toNat + c.toNat) / 18446744073709551616) := by
  simp only [u64, Gh, BitVec.toNat_ofNat]; congr 1
  have := a.isLt; have := b.isLt
  omega
 rw [e, e1, e2]
 have h4 : (callFunc g #[u64 a, u64 b, u64 c]).run P w = _ := h2
 simp only [u64] at h4
 rw [h3] at h4
 simp only [Result.andThen] at h4
 have hg : Ql fr (.func g) = .func (.func g) #[] #[] := rfl
 simp [resolve, hg, Deferred.ofValue, invoke, hx, hy, hq, u64, h4]
theorem Qpl {a : Int} {ky : IntKind} {b : Int} {t t' : TypeId} (hx : Ql fr x = i64 a) (hy : Ql fr y = .int ky b) (hb : 0 ≤ b) (hb' : b ≤ 62) : Jy P fr w (.binOp .shr t x y t') ty (i64 (a / 2 ^ b.toNat)) :=
 Sr (.inr rfl) hx hy hb (by
  have e : min b.toNat IntKind.i64.bits = b.toNat := by simp only [IntKind.bits]; omega
  rw [e]
  simp only [i64, reduceCtorEq, if_false]
  congr 1
  rw [Int.fdiv_eq_ediv_of_nonneg _ (Int.pow_nonneg Jb)])
theorem Aq {a p : Int} {ky : IntKind} {b : Int} {t t' : TypeId} (hp : (2 : Int) ^ b.toNat = p) (hx : Ql fr x = i64 a) (hy : Ql fr y = .int ky b) (hb : 0 ≤ b) (hb' : b ≤ 62) : Jy P fr w (.binOp .shr t x y t') ty (i64 (a / p)) := hp ▸ Qpl hx hy hb hb'
theorem Qpm {a : Int} {ky : IntKind} {b : Int} {t t' : TypeId} (hx : Ql fr x = i64 a) (hy : Ql fr y = .int ky b) (hb : 0 ≤ b) (hb' : b ≤ 62) (h0 : -9223372036854775808 ≤ a * 2 ^ b.toNat) (h1 : a * 2 ^ b.toNat < 9223372036854775808) : Jy P fr w (.binOp .shl t x y t') ty (i64 (a * 2 ^ b.toNat)) :=
 Sr (.inl rfl) hx hy hb (by
  have e : min b.toNat IntKind.i64.bits = b.toNat := by simp only [IntKind.bits]; omega
  rw [e]
  simp only [i64, if_true]
  rw [Le h0 h1])
theorem Qbg {a p : Int} {ky : IntKind} {b : Int} {t t' : TypeId} (hp : (2 : Int) ^ b.toNat = p) (hx : Ql fr x = i64 a) (hy : Ql fr y = .int ky b) (hb : 0 ≤ b) (hb' : b ≤ 62) (h0 : -9223372036854775808 ≤ a * p) (h1 : a * p < 9223372036854775808) : Jy P fr w (.binOp .shl t x y t') ty (i64 (a * p)) := by
 subst hp; exact Qpm hx hy hb hb' h0 h1
end
theorem Bh {P : Program} {n : Nat} {ops : Array Oper} {rest : List Oper} {K : (Nat → Value) → World → Prop} {fr : Nat → Value} {w : World} {op : Op} {ty : TypeId} {pos : String} {aft : Array Edge} {d j s : Nat} {want : Bool} (hj : (ops[j]?).bind (·.dst) = some s) (hs : fr s = undef) (hd : Nat.blt d n = true)
  (k : RW P n ops rest K (upd fr d undef) w) : RW P n ops (⟨some d, op, ty, pos, aft, some (j, want)⟩ :: rest) K fr w := by
 intro rd ds a ha Q hQ
 unfold wpListIn
 have hy : yielded ops a.tmps j = none := by
  have hg := ha.get s
  rw [hs, Array.getD_eq_getD_getElem?] at hg
  unfold yielded
  rw [hj]
  cases h : a.tmps[s]? with
  | none => simp [h]
  | some v => rw [h] at hg; simp at hg; subst hg; simp [h, undef]
 rw [if_neg (by simp [Region.wanted, hy])]
 exact ⟨fun _ _ => trivial, k rd ds _ (ha.put (d := some d) (Ar hd) _) Q hQ⟩
section
variable {E : TypeId}
theorem Rd.seg {α : Type} {f : α → Value} {m : Nat → Option Obj} {b off n : Nat} {l : List α} {fz : Nat × Nat} (L1 L2 : List (List Value)) (hb : m b = some (.cells (Qz (L1 ++ (l.map f :: L2))) E fz)) (h1 : L1.flatten.length = off) (hl : l.length = n) : Rd m f (Wp b off n n) l := by
 subst hl h1
 refine Rd.mk' (Nat.le_refl _) hb fun i hi => ?_
 simp only [Qz, List.flatten_append, List.flatten_cons, List.getElem?_toArray]
 rw [List.getElem?_append_right (by omega), Nat.add_sub_cancel_left, List.getElem?_append_left (by simpa using hi)]
 simp [hi]
theorem Rd.segA {α : Type} {f : α → Value} {m : Nat → Option Obj} {b off n : Nat} {j : Int} {l : List α} {fz : Nat × Nat} (L1 L2 : List (List Value)) (hb : m b = some (.cells (Qz (L1 ++ (l.map f :: L2))) E fz)) (h1 : L1.flatten.length = off) (hl : l.length = n) (hn : 0 < n) (hj : j.toNat = n) : Rd m f (Proofs.YtkmiemlpfkfiiaaDoor.sla b off 1 0 j n) l := by
 have e : Proofs.YtkmiemlpfkfiiaaDoor.sla b off 1 0 j n = Wp b off n n := by
  unfold Proofs.YtkmiemlpfkfiiaaDoor.sla
  have : ¬ n = 0 := by omega
  simp [this, hj]
 rw [e]; exact Rd.seg L1 L2 hb h1 hl
end
def Qe0 : List (List Value) → Nat → List Value
 | [], _ => []
 | s :: _, 0 => s
 | _ :: L, i + 1 => Qe0 L i
def setS : List (List Value) → Nat → List Value → List (List Value)
 | [], _, _ => []
 | _ :: L, 0, x => x :: L
 | s :: L, i + 1, x => s :: setS L i x
def Qat : List (List Value) → Nat → Nat
 | _, 0 => 0
 | [], _ + 1 => 0
 | s :: L, i + 1 => s.length + Qat L i
def Qfd : List (List Value) → Nat
 | [] => 0
 | s :: L => s.length + Qfd L
theorem Qfc : ∀ L : List (List Value), L.flatten.length = Qfd L
 | [] => rfl
 | s :: L => by rw [List.flatten_cons, List.length_append, Qfc L]; rfl
theorem cutS : ∀ (L : List (List Value)) (i : Nat), Nat.blt i L.length = true → ∃ L1 L3, L = L1 ++ ([Qe0 L i] ++ L3) ∧ L1.flatten.length = Qat L i ∧ ∀ x, setS L i x = L1 ++ ([x] ++ L3)
 | [], i, h => by simp [Nat.blt] at h
 | s :: L, 0, _ => ⟨[], L, rfl, rfl, fun _ => rfl⟩
 | s :: L, i + 1, h => by
  obtain ⟨L1, L3, h1, h2, h3⟩ := cutS L i h
  refine ⟨s :: L1, L3, congrArg (s :: ·) h1, ?_, fun x => congrArg (s :: ·) (h3 x)⟩
  rw [List.flatten_cons, List.length_append, h2]; rfl
section
variable {P : Program} {fr : Nat → Value} {w : World} {ty T U E A : TypeId} {x y : Operand} {d : TypeDesc} {z : Option Value} {n kb k b off : Nat} {α : Type} {f : α → Value} {v u : Value} {l : List α} {fz : Nat × Nat} {c : Array Value} {L L' : List (List Value)}
theorem Yi (i : Nat) (hu : P.underlying T = some d) (hx : Ql fr x = ptr b off) (hb : w.heap[b]? = some (.cells (Qz L) E fz)) (hg : Qe0 L i = [v]) (hd : Pj d = false := by rfl) (hi : Nat.blt i L.length = true := by rfl)
  (ho : Qat L i = off := by first | (simp only [Qat, Eb, List.length_map, List.length_cons, List.length_nil, List.length_replicate] <;> omega) | (simp [Qat, Eb] <;> omega)) : Jy P fr w (.load T x) ty v := by
 obtain ⟨L1, L3, h1, h2, h3⟩ := cutS L i hi
 rw [h1, hg] at hb
 exact Qmj L1 L3 hu hd hx hb (h2.trans ho)
theorem Jk (i : Nat) (hu : P.underlying T = some d) (ht : Jh P T = some (z, n, kb)) (hx : Ql fr x = ptr b off) (hb : w.heap[b]? = some (.cells (Qz L) E fz)) (hg : Qe0 L i = l.map f) (hd : Pj d = true := by rfl) (hi : Nat.blt i L.length = true := by rfl)
  (ho : Qat L i = off := by first | (simp only [Qat, Eb, List.length_map, List.length_cons, List.length_nil, List.length_replicate] <;> omega) | (simp [Qat, Eb] <;> omega)) (hn : l.length = n := by first | rfl | omega | (simp; done) | (simp; omega)) : Jy P fr w (.load T x) ty (agg f l) := by
 obtain ⟨L1, L3, h1, h2, h3⟩ := cutS L i hi
 rw [h1, hg] at hb
 exact Qmk L1 L3 l hu hd ht hx hb (h2.trans ho) hn
theorem J7 (hu : P.underlying T = some d) (ht : Jh P T = some (z, n, kb)) (hx : Ql fr x = ptr b 0) (hb : w.heap[b]? = some (.cells (Qz L) E fz)) (hd : Pj d = true := by rfl)
  (ho : Qfd L = n := by first | (simp only [Qfd, Eb, List.length_map, List.length_cons, List.length_nil, List.length_replicate] <;> omega) | (simp [Qfd, Eb] <;> omega)) : Jy P fr w (.load T x) ty (.agg (Qz L)) :=
 Qf3 [] L [] hu hd ht hx (by simpa using hb) rfl ((Qfc L).trans ho)
theorem Jr {t : TypeId} (hu : P.underlying T = some d) (ht : Jh P T = some (z, n, kb)) (hb : w.heap[b]? = some (.cells (Qz L) t fz)) (hd : Pj d = true := by rfl)
  (ho : Qfd L = n := by first | (simp only [Qfd, Eb, List.length_map, List.length_cons, List.length_nil, List.length_replicate] <;> omega) | (simp [Qfd, Eb] <;> omega)) : (loadVar T ⟨b, 0, none⟩).run P w = .ok (.agg (Qz L)) w :=
 Ql9 L hu hd ht hb ((Qfc L).trans ho)
theorem G5 (i : Nat) (L' : List (List Value)) (ht : Jh P T = some (z, 1, kb)) (hx : Ql fr x = ptr b off) (hy : Ql fr y = u) (hu1 : u.oneCell' = true) (hb : w.heap[b]? = some (.cells (Qz L) E fz)) (hg : Qe0 L i = [v]) (hL : setS L i [u] = L') (hi : Nat.blt i L.length = true := by rfl)
  (ho : Qat L i = off := by first | (simp only [Qat, Eb, List.length_map, List.length_cons, List.length_nil, List.length_replicate] <;> omega) | (simp [Qat, Eb] <;> omega)) (hfz : fz.2 = 0 := by rfl) :
  Wu P fr w (.store T x y) ty (fun _ w' => Upd w b (.cells (Qz L') E fz) w') := by
 obtain ⟨L1, L3, h1, h2, h3⟩ := cutS L i hi
 rw [h1, hg] at hb
 have := Qkd (ty := ty) L1 L3 ht hx hy hu1 hb (h2.trans ho) hfz
 rwa [← hL, h3]
theorem Ug (i : Nat) (L' : List (List Value)) (hfo : ∀ a, (f a).oneCell' = true) (ht : Jh P T = some (z, n, kb)) (hx : Ql fr x = ptr b off) (hy : Ql fr y = agg f l) (hb : w.heap[b]? = some (.cells (Qz L) E fz)) (hL : setS L i (l.map f) = L') (hi : Nat.blt i L.length = true := by rfl)
  (ho : Qat L i = off := by first | (simp only [Qat, Eb, List.length_map, List.length_cons, List.length_nil, List.length_replicate] <;> omega) | (simp [Qat, Eb] <;> omega))
  (h2 : (Qe0 L i).length = n := by first | (simp only [Qe0, List.length_map] <;> omega) | (simp [Qe0] <;> omega)) (hn : l.length = n := by first | rfl | omega | (simp; done) | (simp; omega)) (hfz : fz.2 = 0 := by rfl) :
  Wu P fr w (.store T x y) ty (fun _ w' => Upd w b (.cells (Qz L') E fz) w') := by
 obtain ⟨L1, L3, h1, h4, h3⟩ := cutS L i hi
 rw [h1] at hb
 have := Qkf (hfo := hfo) (ty := ty) L1 [Qe0 L i] L3 ht hx hy hb (h4.trans ho) (by simpa using h2) hn hfz
 rwa [← hL, h3]
theorem Kt (ht : Jh P T = some (z, n, kb)) (hx : Ql fr x = ptr b 0) (hy : Ql fr y = .agg (Qz L)) (hb : w.heap[b]? = some (.cells (Qz L') E fz)) (hv : ∀ v ∈ (Qz L).toList, v.oneCell' = true)
  (h : Qfd L = n := by first | (simp only [Qfd, Eb, List.length_map, List.length_cons, List.length_nil, List.length_replicate] <;> omega) | (simp [Qfd, Eb] <;> omega))
  (hs : Qfd L' = n := by first | (simp only [Qfd, Eb, List.length_map, List.length_cons, List.length_nil, List.length_replicate] <;> omega) | (simp [Qfd, Eb] <;> omega)) (hfz : fz.2 = 0 := by rfl) :
  Wu P fr w (.store T x y) ty (fun _ w' => Upd w b (.cells (Qz L) E fz) w') := Ux L ht hx hy ((Qfc L).trans h) hv hb (by rw [U5]; exact (Qfc L').trans hs) hfz
theorem Vy {place : Nat → Option (Nat × Nat)} {i : Nat} {cs c' : Array Value} {rest : List (Nat × Array Value)} {S : List Value} (j : Nat) (L' : List (List Value)) (hp : place i = some (off, n)) (hc : cs = Qz [S]) (hL : setS L j S = L') (hr : Qbf place (Qz L') rest = some c') (hi : Nat.blt j L.length = true := by rfl)
  (ho : Qat L j = off := by first | (simp only [Qat, Eb, List.length_map, List.length_cons, List.length_nil, List.length_replicate] <;> omega) | (simp [Qat, Eb] <;> omega))
  (h2 : (Qe0 L j).length = n := by first | (simp only [Qe0, List.length_map, List.length_cons, List.length_nil, List.length_replicate] <;> omega) | (simp [Qe0] <;> omega)) (h3 : S.length = n := by first | rfl | (simp only [List.length_map] <;> omega) | (simp <;> omega)) : Qbf place (Qz L) ((i, cs) :: rest) = some c' := by
 obtain ⟨L1, L3, h1, h4, h5⟩ := cutS L j hi
 rw [h1]
 refine Qpe L1 [Qe0 L j] [S] L3 hp hc (h4.trans ho) (by simpa using h2) (by simpa using h3) ?_
 rw [← h5, hL]; exact hr
theorem Rd.sgA {m : Nat → Option Obj} {b off n : Nat} {j : Int} (i : Nat) (hb : m b = some (.cells (Qz L) E fz)) (hg : Qe0 L i = l.map f) (hi : Nat.blt i L.length = true := by rfl)
  (ho : Qat L i = off := by first | (simp only [Qat, Eb, List.length_map, List.length_cons, List.length_nil, List.length_replicate] <;> omega) | (simp [Qat, Eb] <;> omega)) (hl : l.length = n := by first | rfl | omega | (simp; done) | (simp; omega)) (hn : 0 < n := by decide) (hj : j.toNat = n := by decide) : Rd m f (Proofs.YtkmiemlpfkfiiaaDoor.sla b off 1 0 j n) l := by
 obtain ⟨L1, L3, h1, h4, h5⟩ := cutS L i hi
 rw [h1, hg] at hb
 exact Rd.segA L1 L3 hb (h4.trans ho) hl hn hj
end
abbrev sE (a b c : Z8) (d e : Bool) (f g : Z8) (i j k : Int) (v : Value) : List (List Value) := [a.map u8, b.map u8, c.map u8, [bl d], [bl e], f.map u8, g.map u8, [i64 i], [i64 j], [i64 k], [v]]
abbrev sK (a : Z8) (i : Int) (b : Z8) : List (List Value) := [a.map u8, [i64 i], b.map u8]
abbrev sH (a : Z8) (i j : Int) : List (List Value) := [a.map u8, [i64 i], [i64 j]]
theorem Fa {a b c : Z8} {d e : Bool} {f g : Z8} {i j k : Int} {v : Value} (h : v.oneCell' = true) : ∀ x ∈ (Qz (sE a b c d e f g i j k v)).toList, x.oneCell' = true :=
 Yl (Jj Qs a) (Yl (Jj Qs b) (Yl (Jj Qs c) (Yl (Xy rfl Jz) (Yl (Xy rfl Jz) (Yl (Jj Qs f) (Yl (Jj Qs g) (Yl (Xy (Zv _) Jz) (Yl (Xy (Zv _) Jz) (Yl (Xy (Zv _) Jz) (Yl (Xy h Jz) Uw))))))))))
end Go.Proofs.YtkmiemlpfkfiiaaDoor
