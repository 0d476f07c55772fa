/- The framework, part Q: structs and rows as segments; sums with carry; shifts of whole numbers. Conditions: none. -/
import Derived.Test.YtkmiemlpfkfiiaaDoorFwP
import Derived.Laws.Externs
namespace Go.Proofs.YtkmiemlpfkfiiaaDoor
set_option linter.unusedSimpArgs false
set_option linter.unusedVariables false
def Qr (L : List (List Value)) : Array Value := L.flatten.toArray
theorem Yf (L : List (List Value)) : (Qr L).size = L.flatten.length := by simp [Qr]
theorem Qj : ([] : List (List Value)).flatten.length = 0 := rfl
theorem Qa {S : List Value} {L : List (List Value)} {n m k : Nat} (h : S.length = n) (h' : L.flatten.length = m) (e : n + m = k) : (S :: L).flatten.length = k := by simp [h, h', e]
theorem J7 : ∀ v ∈ (Qr []).toList, v.oneCell' = true := by simp [Qr]
theorem Qp {S : List Value} {L : List (List Value)} (h : S.all (·.oneCell') = true) (h' : ∀ v ∈ (Qr L).toList, v.oneCell' = true) : ∀ v ∈ (Qr (S :: L)).toList, v.oneCell' = true := by
  intro v hv
  simp only [Qr, List.flatten_cons, List.mem_append] at hv
  rcases hv with hv | hv
  · exact List.all_eq_true.1 h v hv
  · exact h' v (by simpa [Qr] using hv)
theorem S9 (L1 L2 L3 : List (List Value)) {off n : Nat} (h1 : L1.flatten.length = off) (h2 : L2.flatten.length = n) : (Qr (L1 ++ (L2 ++ L3))).extract off (off + n) = Qr L2 := by
  subst h1 h2
  apply Array.ext'
  simp only [Qr, Array.toList_extract, List.extract_eq_take_drop, List.flatten_append, Nat.add_sub_cancel_left]
  rw [List.drop_left, List.take_left]
theorem Jb {α : Type} (f : α → Value) (l : List α) : Qr [l.map f] = cl f l := by simp [Qr, cl]
theorem Sz (L1 L3 : List (List Value)) (v : Value) {off : Nat} (h1 : L1.flatten.length = off) : (Qr (L1 ++ ([v] :: L3)))[off]? = some v := by
  subst h1; simp [Qr]
theorem Qe4 (L1 L2 L2' L3 : List (List Value)) {off n : Nat} (h1 : L1.flatten.length = off) (h2 : L2.flatten.length = n) (h3 : L2'.flatten.length = n) : ovr (Qr (L1 ++ (L2 ++ L3))) off (Qr L2').toList = Qr (L1 ++ (L2' ++ L3)) := by
  apply Array.ext'
  rw [Dv _ _ _ (by rw [Yf]; simp only [Qr, List.flatten_append, List.length_append]; omega)]
  subst h1
  simp only [Qr, List.flatten_append, h3, ← h2]
  rw [List.take_left, ← List.drop_drop, List.drop_left, List.drop_left, List.append_assoc]
section
variable {P : Program} {fr : Nat → Value} {w : World} {ty T U E A : TypeId} {x y : Operand} {d : TypeDesc} {z : Option Value} {n kb k b off : Nat} {R : Rest} {H Hs : List (Nat × Obj)} {α : Type} {f : α → Value} {v zv : Value} {l : List α} {m : Nat → Option Obj} {fz : Nat × Nat} {c : Array Value}
theorem Xz (L1 L2 L3 : List (List Value)) (hu : P.underlying T = some d) (hd : Dn d = true) (hi : Yp P T = some (z, n, kb)) (hx : Qq fr x = ptr b off) (hb : w.heap[b]? = some (.cells (Qr (L1 ++ (L2 ++ L3))) E fz)) (h1 : L1.flatten.length = off) (h2 : L2.flatten.length = n) :
    Ja P fr w (.load T x) ty (.agg (Qr L2)) := by
  have := Md (ty := ty) hu hd hi hx hb (by rw [Yf]; simp only [List.flatten_append, List.length_append]; omega)
  rwa [S9 L1 L2 L3 h1 h2] at this
theorem Xc (L1 L3 : List (List Value)) (l : List α) (hu : P.underlying T = some d) (hd : Dn d = true) (hi : Yp P T = some (z, n, kb)) (hx : Qq fr x = ptr b off) (hb : w.heap[b]? = some (.cells (Qr (L1 ++ ([l.map f] ++ L3))) E fz)) (h1 : L1.flatten.length = off) (h2 : l.length = n) :
    Ja P fr w (.load T x) ty (agg f l) := by
  have := Xz (ty := ty) L1 [l.map f] L3 hu hd hi hx hb h1 (by simpa using h2)
  rwa [Jb] at this
theorem Zd (L1 L3 : List (List Value)) (hu : P.underlying T = some d) (hd : Dn d = false) (hx : Qq fr x = ptr b off) (hb : w.heap[b]? = some (.cells (Qr (L1 ++ ([v] :: L3))) E fz)) (h1 : L1.flatten.length = off) : Ja P fr w (.load T x) ty v :=
  Qy hu hd hx hb (Sz L1 L3 v h1)
theorem J5 {t : TypeId} (L : List (List Value)) (hu : P.underlying T = some d) (hd : Dn d = true) (hi : Yp P T = some (z, n, kb)) (hb : w.heap[b]? = some (.cells (Qr L) t fz)) (h : L.flatten.length = n) : (loadVar T ⟨b, 0, none⟩).run P w = .ok (.agg (Qr L)) w :=
  X6 hu hd hi hb (by rw [Yf]; exact h)
theorem Qcx {len : Nat} {kk : IntKind} {i : Int} {dE : TypeDesc} (hu : P.underlying T = some (.array len E)) (hE : P.underlying E = some dE) (hd : Dn dE = true) (hi : Yp P E = some (z, n, kb)) (hx : Qq fr x = agg f l) (hy : Qq fr y = .int kk i) (h0 : 0 ≤ i) (h1 : i < len) :
    Ja P fr w (.index T x y) ty (agg f ((l.drop (i.toNat * n)).take n)) := by
  have := Qdd (w := w) (ty := ty) hu hE hd hi hx hy h0 h1
  rw [Qgb, Nat.add_sub_cancel_left] at this
  exact this
theorem drop_two {l : List α} {j : Nat} (dflt : α) (h : j + 2 ≤ l.length) : (l.drop j).take 2 = [l.getD j dflt, l.getD (j + 1) dflt] := by
  refine List.ext_getElem (by simp; omega) fun i h1 h2 => ?_
  simp only [List.length_cons, List.length_nil] at h2
  have : i = 0 ∨ i = 1 := by omega
  rcases this with rfl | rfl <;> simp [List.getD_eq_getElem?_getD] <;> rw [List.getElem?_eq_getElem (by omega)] <;> rfl
theorem Qeo {len : Nat} {kk : IntKind} {i : Int} {dE : TypeDesc} (dflt : α) (hu : P.underlying T = some (.array len E)) (hE : P.underlying E = some dE) (hd : Dn dE = true) (hi : Yp P E = some (z, 2, kb)) (hx : Qq fr x = agg f l) (hy : Qq fr y = .int kk i) (h0 : 0 ≤ i) (h1 : i < len) (h2 : i.toNat * 2 + 2 ≤ l.length) :
    Ja P fr w (.index T x y) ty (agg f [l.getD (i.toNat * 2) dflt, l.getD (i.toNat * 2 + 1) dflt]) := by
  have := Qcx (w := w) (ty := ty) hu hE hd hi hx hy h0 h1
  rw [drop_two dflt h2] at this
  exact this
theorem Qdc (L1 L2 L2' L3 : List (List Value)) (hi : Yp P T = some (z, n, kb)) (hx : Qq fr x = ptr b off) (hy : Qq fr y = .agg (Qr L2')) (hb : w.heap[b]? = some (.cells (Qr (L1 ++ (L2 ++ L3))) E fz)) (h1 : L1.flatten.length = off) (h2 : L2.flatten.length = n) (h3 : L2'.flatten.length = n) (hv : ∀ v ∈ (Qr L2').toList, v.oneCell' = true) (hfz : fz.2 = 0) :
    Jr P fr w (.store T x y) ty (fun _ w' => Upd w b (.cells (Qr (L1 ++ (L2' ++ L3))) E fz) w') := by
  have := Qdq (ty := ty) hi hx hy (by rw [Yf]; exact h3) hv hb (by rw [Yf]; simp only [List.flatten_append, List.length_append]; omega) (.inl (by omega))
  rw [Qe4 L1 L2 L2' L3 h1 h2 h3] at this
  exact this
theorem Wi {hfo : ∀ a, (f a).oneCell' = true} (L1 L2 L3 : List (List Value)) (hi : Yp P T = some (z, n, kb)) (hx : Qq fr x = ptr b off) (hy : Qq fr y = agg f l) (hb : w.heap[b]? = some (.cells (Qr (L1 ++ (L2 ++ L3))) E fz)) (h1 : L1.flatten.length = off) (h2 : L2.flatten.length = n) (h3 : l.length = n) (hfz : fz.2 = 0) :
    Jr P fr w (.store T x y) ty (fun _ w' => Upd w b (.cells (Qr (L1 ++ ([l.map f] ++ L3))) E fz) w') := by
  refine Qdc L1 L2 [l.map f] L3 hi hx (by rw [Jb]; exact hy) hb h1 h2 (by simpa using h3) (Qp (Zg hfo l) J7) hfz
theorem Wh {u : Value} (L1 L3 : List (List Value)) (hi : Yp P T = some (z, 1, kb)) (hx : Qq fr x = ptr b off) (hy : Qq fr y = u) (hu1 : u.oneCell' = true) (hb : w.heap[b]? = some (.cells (Qr (L1 ++ ([v] :: L3))) E fz)) (h1 : L1.flatten.length = off) (hfz : fz.2 = 0) :
    Jr P fr w (.store T x y) ty (fun _ w' => Upd w b (.cells (Qr (L1 ++ ([u] :: L3))) E fz) w') := by
  have := Vu (ty := ty) hi hx hy hu1 hb (by rw [Yf]; simp only [List.flatten_append, List.length_append, List.flatten_cons, List.length_cons, List.length_nil]; omega) (.inl (by omega))
  have e : (Qr (L1 ++ ([v] :: L3))).setIfInBounds off u = Qr (L1 ++ ([u] :: L3)) := by
    subst h1
    apply Array.ext'
    simp [Qr]
  rw [e] at this
  exact this
theorem Xh (L : List (List Value)) (hi : Yp P T = some (z, n, kb)) (hx : Qq fr x = ptr b 0) (hy : Qq fr y = .agg (Qr L)) (h : L.flatten.length = n) (hv : ∀ v ∈ (Qr L).toList, v.oneCell' = true) (hb : w.heap[b]? = some (.cells c E fz)) (hs : c.size = n) (hfz : fz.2 = 0) :
    Jr P fr w (.store T x y) ty (fun _ w' => Upd w b (.cells (Qr L) E fz) w') := Qa2 hi hx hy (by rw [Yf]; exact h) hv hb hs hfz
theorem Gg {place : Nat → Option (Nat × Nat)} : Hz place c [] = some c := rfl
theorem X5 {place : Nat → Option (Nat × Nat)} {i : Nat} {cs c' : Array Value} {rest : List (Nat × Array Value)} (L1 L2 L2' L3 : List (List Value)) (hp : place i = some (off, n)) (hc : cs = Qr L2') (h1 : L1.flatten.length = off) (h2 : L2.flatten.length = n) (h3 : L2'.flatten.length = n)
    (hr : Hz place (Qr (L1 ++ (L2' ++ L3))) rest = some c') : Hz place (Qr (L1 ++ (L2 ++ L3))) ((i, cs) :: rest) = some c' := by
  subst hc
  simp only [Hz, hp]
  have e : (Nat.beq (Qr L2').size n && Nat.ble (off + (Qr L2').size) (Qr (L1 ++ (L2 ++ L3))).size) = true := by
    rw [Bool.and_eq_true]
    refine ⟨by rw [Yf, h3]; exact Nat.beq_refl n, Nat.ble_eq_true_of_le ?_⟩
    rw [Yf, Yf, h3]; simp only [List.flatten_append, List.length_append]; omega
  rw [if_pos e, Qe4 L1 L2 L2' L3 h1 h2 h3]
  exact hr
theorem D6 (l : List α) : (agg f l).cells = Qr [l.map f] := (Jb f l).symm
def Vg (a b c : BitVec 64) : BitVec 64 := BitVec.ofNat 64 ((a.toNat + b.toNat + c.toNat) / 18446744073709551616)
theorem Qcz {g : FuncId} {fn : Func} {x y q : Operand} {a b c : BitVec 64} {ts : Array TypeId} (hf : P.funcs[g]? = some fn) (hnm : (fn.name == "runtime.NumGoroutine") = false) (hb : fn.body.isNone = true) (hn : Extern.findNext fn = none) (he : Extern.find fn = some add64Entry)
    (hx : Qq fr x = u64 a) (hy : Qq fr y = u64 b) (hq : Qq fr q = u64 c) (hc : c.toNat ≤ 1) : Ja P fr w (.call ⟨.value (.func g), #[x, y, q], ts⟩) ty (.tuple #[u64 (a + b + c), u64 (Vg a b c)]) := by
  unfold Ja
  have e : U2 (Qq fr) (.call ⟨.value (.func g), #[x, y, q], ts⟩) ty = (do let d ← resolve (Qq fr) ⟨.value (.func g), #[x, y, q], ts⟩ ty; invoke d.target d.args) := rfl
  have h2 := run_callFunc_extern (P := P) hf hnm hb hn he #[u64 a, u64 b, u64 c] w
  have h3 := run_add64 (P := P) (a.toNat : Int) (b.toNat : Int) (c.toNat : Int) (by omega) (by omega) (by omega) (by omega) w
  have e1 : u64 (a + b + c) = .int .u64 (((a.toNat : Int) + b.toNat + c.toNat) % 18446744073709551616) := by
    simp only [u64, BitVec.toNat_add]; congr 1; omega
  have e2 : u64 (Vg a b c) = .int .u64 (((a.toNat : Int) + b.toNat + c.toNat) / 18446744073709551616) := by
    simp only [u64, Vg, BitVec.toNat_ofNat]; congr 1
    have := a.isLt; have := b.isLt
    omega
  rw [e, e1, e2]
  have h4 : (callFunc g #[u64 a, u64 b, u64 c]).run P w = _ := h2
  simp only [u64] at h4
  rw [h3] at h4
  simp only [Result.andThen] at h4
  have hg : Qq fr (.func g) = .func (.func g) #[] #[] := rfl
  simp [resolve, hg, Deferred.ofValue, invoke, hx, hy, hq, u64, h4]
theorem Qgh {a : Int} {ky : IntKind} {b : Int} {t t' : TypeId} (hx : Qq fr x = i64 a) (hy : Qq fr y = .int ky b) (hb : 0 ≤ b) (hb' : b ≤ 62) : Ja P fr w (.binOp .shr t x y t') ty (i64 (a / 2 ^ b.toNat)) :=
  Ey (.inr rfl) hx hy hb (by
    have e : min b.toNat IntKind.i64.bits = b.toNat := by simp only [IntKind.bits]; omega
    rw [e]
    simp only [i64, reduceCtorEq, if_false]
    congr 1
    rw [Int.fdiv_eq_ediv_of_nonneg _ (Int.pow_nonneg (by decide))])
theorem Me {a p : Int} {ky : IntKind} {b : Int} {t t' : TypeId} (hp : (2 : Int) ^ b.toNat = p) (hx : Qq fr x = i64 a) (hy : Qq fr y = .int ky b) (hb : 0 ≤ b) (hb' : b ≤ 62) : Ja P fr w (.binOp .shr t x y t') ty (i64 (a / p)) := hp ▸ Qgh hx hy hb hb'
theorem Qgi {a : Int} {ky : IntKind} {b : Int} {t t' : TypeId} (hx : Qq fr x = i64 a) (hy : Qq fr y = .int ky b) (hb : 0 ≤ b) (hb' : b ≤ 62) (h0 : -9223372036854775808 ≤ a * 2 ^ b.toNat) (h1 : a * 2 ^ b.toNat < 9223372036854775808) : Ja P fr w (.binOp .shl t x y t') ty (i64 (a * 2 ^ b.toNat)) :=
  Ey (.inl rfl) hx hy hb (by
    have e : min b.toNat IntKind.i64.bits = b.toNat := by simp only [IntKind.bits]; omega
    rw [e]
    simp only [i64, if_true]
    rw [Uw h0 h1])
theorem Na {a p : Int} {ky : IntKind} {b : Int} {t t' : TypeId} (hp : (2 : Int) ^ b.toNat = p) (hx : Qq fr x = i64 a) (hy : Qq fr y = .int ky b) (hb : 0 ≤ b) (hb' : b ≤ 62) (h0 : -9223372036854775808 ≤ a * p) (h1 : a * p < 9223372036854775808) : Ja P fr w (.binOp .shl t x y t') ty (i64 (a * p)) := by
  subst hp; exact Qgi hx hy hb hb' h0 h1
end
theorem Y7 {P : Program} {n : Nat} {ops : Array Oper} {rest : List Oper} {K : (Nat → Value) → World → Prop} {fr : Nat → Value} {w : World} {op : Op} {ty : TypeId} {pos : String} {aft : Array Edge} {d j s : Nat} {want : Bool} (hj : (ops[j]?).bind (·.dst) = some s) (hs : fr s = undef) (hd : Nat.blt d n = true)
    (k : RW P n ops rest K (upd fr d undef) w) : RW P n ops (⟨some d, op, ty, pos, aft, some (j, want)⟩ :: rest) K fr w := by
  intro rd ds a ha Q hQ
  unfold wpListIn
  have hy : yielded ops a.tmps j = none := by
    have hg := ha.get s
    rw [hs, Array.getD_eq_getD_getElem?] at hg
    unfold yielded
    rw [hj]
    cases h : a.tmps[s]? with
    | none => simp [h]
    | some v => rw [h] at hg; simp at hg; subst hg; simp [h, undef]
  rw [if_neg (by simp [Region.wanted, hy])]
  exact ⟨fun _ _ => trivial, k rd ds _ (ha.put (d := some d) (Fv hd) _) Q hQ⟩
section
variable {E : TypeId}
theorem Rd.seg {α : Type} {f : α → Value} {m : Nat → Option Obj} {b off n : Nat} {l : List α} {fz : Nat × Nat} (L1 L2 : List (List Value)) (hb : m b = some (.cells (Qr (L1 ++ (l.map f :: L2))) E fz)) (h1 : L1.flatten.length = off) (hl : l.length = n) : Rd m f (Jt b off n n) l := by
  subst hl h1
  refine Rd.mk' (Nat.le_refl _) hb fun i hi => ?_
  simp only [Qr, List.flatten_append, List.flatten_cons, List.getElem?_toArray]
  rw [List.getElem?_append_right (by omega), Nat.add_sub_cancel_left, List.getElem?_append_left (by simpa using hi)]
  simp [hi]
theorem Rd.segA {α : Type} {f : α → Value} {m : Nat → Option Obj} {b off n : Nat} {j : Int} {l : List α} {fz : Nat × Nat} (L1 L2 : List (List Value)) (hb : m b = some (.cells (Qr (L1 ++ (l.map f :: L2))) E fz)) (h1 : L1.flatten.length = off) (hl : l.length = n) (hn : 0 < n) (hj : j.toNat = n) : Rd m f (Proofs.YtkmiemlpfkfiiaaDoor.sla b off 1 0 j n) l := by
  have e : Proofs.YtkmiemlpfkfiiaaDoor.sla b off 1 0 j n = Jt b off n n := by
    unfold Proofs.YtkmiemlpfkfiiaaDoor.sla
    have : ¬ n = 0 := by omega
    simp [this, hj]
  rw [e]; exact Rd.seg L1 L2 hb h1 hl
end
end Go.Proofs.YtkmiemlpfkfiiaaDoor
