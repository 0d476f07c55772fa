/- Contracts: stream, fourth part. Conditions: none beyond those that each theorem states. -/
import Derived.Test.YtkmiemlpfkfiiaaDoorSt2
namespace Go.Proofs.YtkmiemlpfkfiiaaDoor
open List renaming getD_eq_getElem?_getD → aI, length_append → ag, length_set → cu, range → bP
open Rd renaming mkA → bG, ofRest → aK
open Tryd
set_option linter.unusedVariables false
set_option linter.unusedSimpArgs false
theorem Qoe {la lb : Z4} (h : (la.length : Int) ≠ (lb.length : Int)) : false = (la == lb) := by
 symm; rw [beq_eq_false_iff_ne]; rintro rfl; exact h rfl
theorem same_at {la lb : Z4} {k : Nat} (h : la.getD k 0 ≠ lb.getD k 0) : false = (la == lb) := by
 symm; rw [beq_eq_false_iff_ne]; rintro rfl; exact h rfl
theorem same_all {la lb : Z4} (h : (la.length : Int) = (lb.length : Int)) (hall : ∀ j, j < la.length → la.getD j 0 = lb.getD j 0) : true = (la == lb) := by
 symm; rw [beq_iff_eq]
 refine List.ext_getElem oM fun i h1 h2 => ?_
 have := hall i h1
 simpa [aI, h1, h2] using this
theorem Qtk {la lb : Z4} {k : Nat} (heq : ∀ j, j < k → la.getD j 0 = lb.getD j 0) (h : la.getD k 0 = lb.getD k 0) : ∀ j, j < k + 1 → la.getD j 0 = lb.getD j 0 := by
 intro j hj
 rcases Nat.lt_or_ge j k with h1 | h1
 ·exact heq j h1
 have : j = k := by omega
 subst this; exact h
def Yw (word : Z4 → BitVec 32) (key : Z4) (cr : BitVec 32) (nz : Z4) : List (BitVec 32) :=
  [1634760805#32, 857760878#32, 2036477234#32, 1797285236#32, word (Uz key 0 4), word (Uz key 4 4), word (Uz key 8 4), word (Uz key 12 4),
   word (Uz key 16 4), word (Uz key 20 4), word (Uz key 24 4), word (Uz key 28 4), cr, word (Uz nz 0 4), word (Uz nz 4 4), word (Uz nz 8 4)]
@[simp] theorem Qk9 (word : Z4 → BitVec 32) (key : Z4) (cr : BitVec 32) (nz : Z4) : (Yw word key cr nz).length = 16 := rfl
abbrev IL := (Option Addr × Nat × Nat) × List Int
def ilv (t : IL) : Value := .slice t.1.1 t.1.2.1 t.1.2.2
def encIL (t : IL) : List Value := [ilv t]
def Pv : IL := ((none, 0, 0), [])
def Qdb : List (List Int) := [[0, 4, 8, 12], [1, 5, 9, 13], [2, 6, 10, 14], [3, 7, 11, 15], [0, 5, 10, 15], [1, 6, 11, 12], [2, 7, 8, 13], [3, 4, 9, 14]]
def OrdR (m : Nat → Option Obj) (v : Value) (ol : List IL) : Prop := RdK m encIL 1 v ol ∧ (∀ a ∈ ol, Rd m i64 (ilv a) a.2) ∧ ol.map (·.2) = Qdb
def oN (i j : Nat) : Nat := ((Qdb.getD i []).getD j 0).toNat
theorem oN_ok : ∀ i, i < 8 → (Qdb.getD i []).length = 4 ∧ ∀ j, j < 4 → 0 ≤ (Qdb.getD i []).getD j 0 ∧ (Qdb.getD i []).getD j 0 < 16 := by decide
def Qg9 (Q : BitVec 32 → BitVec 32 → BitVec 32 → BitVec 32 → List (BitVec 32)) (s : List (BitVec 32)) (i0 i1 i2 i3 : Nat) : List (BitVec 32) :=
 let q := Q (s.getD i0 0) (s.getD i1 0) (s.getD i2 0) (s.getD i3 0)
 (((s.set i0 (q.getD 0 0)).set i1 (q.getD 1 0)).set i2 (q.getD 2 0)).set i3 (q.getD 3 0)
def setQ (v q : List (BitVec 32)) (i : Nat) : Nat → List (BitVec 32)
 | 0 => v
 | k + 1 => (setQ v q i k).set (oN i k) (q.getD k 0)
theorem Qn9 (v q : List (BitVec 32)) (i : Nat) : ∀ k, (setQ v q i k).length = v.length
 | 0 => rfl
 | k + 1 => by show ((setQ v q i k).set _ _).length = _; rw [cu, Qn9]
def qK (s : List (BitVec 32)) : Nat → List (BitVec 32)
 | 0 => s
 | i + 1 => Qg9 (Kr Y0) (qK s i) (oN i 0) (oN i 1) (oN i 2) (oN i 3)
theorem Qp8 (s : List (BitVec 32)) : ∀ i, (qK s i).length = s.length
 | 0 => rfl
 | i + 1 => by show (Qg9 _ _ _ _ _ _).length = _; unfold Qg9; simp only [cu]; exact Qp8 s i
theorem qK_S {s q : List (BitVec 32)} {i : Nat} (h : q = Kr Y0 ((qK s i).getD (oN i 0) 0) ((qK s i).getD (oN i 1) 0) ((qK s i).getD (oN i 2) 0) ((qK s i).getD (oN i 3) 0)) : setQ (qK s i) q i 4 = qK s (i + 1) := by subst h; rfl
def G9 (s : List (BitVec 32)) : List (BitVec 32) := qK s 8
theorem Qpo (s : List (BitVec 32)) (h : s.length = 16) : (G9 s).length = 16 := (Qp8 s 8).trans h
theorem Qt9 {α : Type} {l : List α} {i : Nat} {d : α} (h : i < l.length) : l.getD i d ∈ l := by
 rw [aI, List.getElem?_eq_getElem h]; exact List.getElem_mem h
theorem Qqs {m : Nat → Option Obj} {v : Value} {ol : List IL} (h : OrdR m v ol) : ol.length = 8 ∧ ∀ i, (ol.getD i Pv).2 = Qdb.getD i [] := by
 obtain ⟨_, _, e⟩ := h
 have hl := congrArg List.length e
 rw [List.length_map] at hl
 refine ⟨hl, fun i => ?_⟩
 rw [← e, aI, aI, List.getElem?_map]
 cases ol[i]? <;> rfl
theorem Qer {m : Nat → Option Obj} {v : Value} {ol : List IL} (h : OrdR m v ol) {i : Nat} (hi : i < 8) : Rd m i64 (ilv (ol.getD i Pv)) (ol.getD i Pv).2 := h.2.1 _ (Qt9 (by have := (Qqs h).1; omega))
theorem OrdR.mono {m m' : Nat → Option Obj} {v : Value} {ol : List IL} (h : OrdR m v ol) (hm : ∀ b o, m b = some o → m' b = some o) : OrdR m' v ol := ⟨h.1.mono hm, fun a ha => (h.2.1 a ha).mono hm, h.2.2⟩
def Qgx (key : Z4) : Nat → List (BitVec 32)
 | 0 => [1634760805#32, 857760878#32, 2036477234#32, 1797285236#32]
 | k + 1 => Qgx key k ++ [Yl (Uz key (4 * k) 4)]
def begN (s : List (BitVec 32)) (nz : Z4) : Nat → List (BitVec 32)
 | 0 => s
 | k + 1 => begN s nz k ++ [Yl (Uz nz (4 * k) 4)]
theorem Qkp (key : Z4) : ∀ k, (Qgx key k).length = 4 + k
 | 0 => rfl
 | k + 1 => by show (Qgx key k ++ [_]).length = 4 + (k + 1); rw [ag, Qkp]; rfl
theorem Qpv (s : List (BitVec 32)) (nz : Z4) : ∀ k, (begN s nz k).length = s.length + k
 | 0 => rfl
 | k + 1 => by show (begN s nz k ++ [_]).length = s.length + (k + 1); rw [ag, Qpv]; rfl
theorem begK_0 (key : Z4) : Qgx key 0 = [1634760805#32, 857760878#32, 2036477234#32, 1797285236#32] := rfl
theorem begK_S (key : Z4) (k : Nat) : Qgx key (k + 1) = Qgx key k ++ [Yl (Uz key (4 * k) 4)] := rfl
theorem begN_0 (s : List (BitVec 32)) (nz : Z4) : begN s nz 0 = s := rfl
theorem begN_S (s : List (BitVec 32)) (nz : Z4) (k : Nat) : begN s nz (k + 1) = begN s nz k ++ [Yl (Uz nz (4 * k) 4)] := rfl
theorem qK_0 (s : List (BitVec 32)) : qK s 0 = s := rfl
theorem setQ_0 (v q : List (BitVec 32)) (i : Nat) : setQ v q i 0 = v := rfl
theorem setQ_S (v q : List (BitVec 32)) (i k : Nat) : setQ v q i (k + 1) = (setQ v q i k).set (oN i k) (q.getD k 0) := rfl
theorem oN_eq (i j : Nat) : ((Qdb.getD i []).getD j 0).toNat = oN i j := rfl
theorem Qsi {l : Z4} {X Y : Int} {k : Nat} (hX : X = ((4 * k : Nat) : Int)) (hY : Y = X + 4) : (l.drop X.toNat).take (Y.toNat - X.toNat) = Uz l (4 * k) 4 := by
 unfold Uz; subst hY hX; congr 1; omega
theorem begR_eq {key nz : Z4} {cr : BitVec 32} : begN (Qgx key 8 ++ [cr]) nz 3 = Yw Yl key cr nz := rfl
theorem Qgw (key : Z4) (cr : BitVec 32) (nz : Z4) : (Yw Yl key cr nz).length = 16 := rfl
theorem Qto (s : List (BitVec 32)) : Yo G9 0 s = s := rfl
theorem Qtn (k : Nat) (s : List (BitVec 32)) : Yo G9 (k + 1) s = qK (Yo G9 k s) 8 := rfl
theorem Qal (k : Nat) (s : List (BitVec 32)) (h : s.length = 16) : (Yo G9 k s).length = 16 := by
 induction k with
 | zero => exact h
 | succ k ih => exact Qpo _ ih
def Bc (v s : List (BitVec 32)) (i : Nat) : Z4 :=
 [(v.getD i 0 + s.getD i 0).setWidth 8, ((v.getD i 0 + s.getD i 0) >>> 8).setWidth 8, ((v.getD i 0 + s.getD i 0) >>> 16).setWidth 8, ((v.getD i 0 + s.getD i 0) >>> 24).setWidth 8]
theorem Am (v s : List (BitVec 32)) (k : Nat) : ((bP k).flatMap (Bc v s)).length = 4 * k := by
 induction k with
 | zero => rfl
 | succ k ih => rw [List.range_succ, List.flatMap_append, ag, ih]; simp [Bc]; omega
theorem Qc4 (v s : List (BitVec 32)) (k : Nat) : (bP (k + 1)).flatMap (Bc v s) = (bP k).flatMap (Bc v s) ++ Bc v s k := by
 rw [List.range_succ, List.flatMap_append]; simp
def Fv (key : Z4) (cr : BitVec 32) (nz : Z4) : Z4 :=
 (bP 16).flatMap (Bc (Yo G9 10 (Yw Yl key cr nz)) (Yw Yl key cr nz))
@[simp] theorem blockR_length (key : Z4) (cr : BitVec 32) (nz : Z4) : (Fv key cr nz).length = 64 := by
 unfold Fv; rw [Am]
theorem Qnx (va vb : Value) (la lb : Z4) (w0 : World)  (hra : Rd (Jd w0) u8 va la) (hrb : Rd (Jd w0) u8 vb lb) (hla : la.length ≤ 281474976710656) : Xz prog 15 #[va, vb] w0 (fun r w1 => r = (bl (la == lb)) ∧ Ext w0 w1) := by
 refine Qz (args := [va, vb]) func15 rfl ntmps15 results15 rfl ?_
 have m0 : Mem w0 (Qs w0) [] := Mem.of_world w0
 refine sR <| Zx (bl false) ?_
 refine rN (Qa (sR ?_))
 refine Zm va <| Qd (Yi (aK hra m0) Zn rfl) <| Zm vb <| Qd (Yi (aK hrb m0) Zn rfl) <| Qd (Kz rfl rfl) <| rN ?_
 refine Zz rfl (fun hc1 => ?_) (fun hc1 => ?_)
 ·
  have hc1p := bne_iff_ne.1 hc1
  refine sR <| Zx (bl false) ?_
  refine rN (Z8 (Yz ?_))
  refine Qq [(bl false)] ⟨rfl, trivial⟩ ?_
  exact ⟨congrArg bl (Qoe hc1p), m0.toExt⟩
 ·
  have hc1p := Yd hc1
  refine Qo (Qc (Qa (sR ?_)))
  refine Zx (i64 0) ?_
  refine rN (Qh ?_)
  refine Y1 (fun g wv => ∃ (k : Nat), (k ≤ la.length) ∧ (∀ j, j < k → la.getD j 0 = lb.getD j 0) ∧ g 0 = va ∧ g 1 = vb ∧ g 5 = (i64 (k : Int)) ∧ g 10 = (bl ((la.length : Int) != (lb.length : Int))) ∧ Mem wv (Qs w0) []) (fun g wv => ((la.length : Int) - RowKit.intOf (g 5)).toNat) ?_ ?_
  ·exact ⟨0, oM, (by intro j hj; omega), rfl, rfl, rfl, rfl, m0⟩
  rintro fr2 w3 ⟨k, hk, heq, s0, s1, s5, s10, m3⟩
  have z5 := s5
  refine Qa (sR ?_)
  refine X9 s5 <| X9 s0 <| Qd (Yi (aK hra m3) Zn rfl) <| Qd (Xd rfl rfl) <| rN ?_
  refine Zz rfl (fun hc4 => ?_) (fun hc4 => ?_)
  ·
   have hc4p := of_decide_eq_true hc4
   refine Qo (Qc (Qa (Qh (Qa ?_))))
   refine Xi (dl 8) 8 Xv <| Uh rfl s0 <| Uh rfl s5 <| Yj rfl (fun _ e' => Zo (aK hra (m3.ext e')) Zn Yr rfl rfl oM sD) <| Yj (v := (u8 (la.getD k 0))) rfl (fun _ e' => Xy (l := la) (i := (k : Int)) (dflt := 0) (aK hra (m3.ext e')) V3 rfl oM sD rfl) <| Uh rfl s1 <| Uh rfl s5 <| Yj rfl (fun _ e' => Zo (aK hrb (m3.ext e')) Zn Yr rfl rfl oM sD) <| Yj (v := (u8 (lb.getD k 0))) rfl (fun _ e' => Xy (l := lb) (i := (k : Int)) (dflt := 0) (aK hrb (m3.ext e')) V3 rfl oM sD rfl) <| Gf m3 fun w5 m5 => Qd (Quf rfl rfl) <| rN ?_
   refine Zz rfl (fun hc6 => ?_) (fun hc6 => ?_)
   ·
    have hc6p := bne_iff_ne.1 hc6
    refine sR <| Zx (bl false) ?_
    refine rN (Z8 ?_)
    refine H6 (Yz (H6 ?_))
    refine Qq [(bl false)] ⟨rfl, trivial⟩ ?_
    exact ⟨congrArg bl (same_at hc6p), m5.toExt⟩
   ·
    have hc6p := Yd hc6
    refine Qo (Qe (Qb ?_))
    refine X9 s5 <| Qd (Zg (b := 1) rfl rfl oM oM) <| Zx (i64 ((k : Int) + 1)) <| rN ?_
    exact ⟨⟨k + 1, oM, (Qtk heq hc6p), s0, s1, rfl, s10, m5⟩, Uj rfl z5 oM oM⟩
  ·
   have hc4p := of_decide_eq_false hc4
   refine X3 ?_
   refine Qj (Qj (Xk ?_))
   refine sR <| Zx (bl true) ?_
   refine rN (Z8 ?_)
   refine Qq [(bl true)] ⟨rfl, trivial⟩ ?_
   exact ⟨congrArg bl (same_all hc1p (fun j hj => heq j oM)), m3.toExt⟩
theorem c_order  (w0 : World)   : Xz prog 108 #[] w0 (fun r w1 => ∃ b1 b2 b3 b4 b5 b6 b7 b8 b9, r = Wi b9 0 8 8 ∧ Mem w1 (Qs w0) [(b9, .cells #[(Wi b1 0 4 4), (Wi b2 0 4 4), (Wi b3 0 4 4), (Wi b4 0 4 4), (Wi b5 0 4 4), (Wi b6 0 4 4), (Wi b7 0 4 4), (Wi b8 0 4 4)] 83 (0, 0)), (b8, .cells (cl i64 ([3, 4, 9, 14])) 3 (0, 0)), (b7, .cells (cl i64 ([2, 7, 8, 13])) 3 (0, 0)), (b6, .cells (cl i64 ([1, 6, 11, 12])) 3 (0, 0)), (b5, .cells (cl i64 ([0, 5, 10, 15])) 3 (0, 0)), (b4, .cells (cl i64 ([3, 7, 11, 15])) 3 (0, 0)), (b3, .cells (cl i64 ([2, 6, 10, 14])) 3 (0, 0)), (b2, .cells (cl i64 ([1, 5, 9, 13])) 3 (0, 0)), (b1, .cells (cl i64 ([0, 4, 8, 12])) 3 (0, 0))]) := by
 refine Qz (args := []) func108 rfl ntmps108 results108 rfl ?_
 have m0 : Mem w0 (Qs w0) [] := Mem.of_world w0
 refine sR <| Zx J3 ?_
 refine rN (sR ?_)
 refine Y5 (Qp i64 [0, 4, 8, 12] Zw m0 Qcx Uw rfl rfl rfl) fun w1 b1 m1 => Y5 (Qp i64 [1, 5, 9, 13] Zw m1 Qcx Uw rfl rfl rfl) fun w2 b2 m2 => Y5 (Qp i64 [2, 6, 10, 14] Zw m2 Qcx Uw rfl rfl rfl) fun w3 b3 m3 => Y5 (Qp i64 [3, 7, 11, 15] Zw m3 Qcx Uw rfl rfl rfl) fun w4 b4 m4 => Y5 (Qp i64 [0, 5, 10, 15] Zw m4 Qcx Uw rfl rfl rfl) fun w5 b5 m5 => Y5 (Qp i64 [1, 6, 11, 12] Zw m5 Qcx Uw rfl rfl rfl) fun w6 b6 m6 => Y5 (Qp i64 [2, 7, 8, 13] Zw m6 Qcx Uw rfl rfl rfl) fun w7 b7 m7 => Y5 (Qp i64 [3, 4, 9, 14] Zw m7 Qcx Uw rfl rfl rfl) fun w8 b8 m8 => Y5 (Kv [(Wi b1 0 4 4), (Wi b2 0 4 4), (Wi b3 0 4 4), (Wi b4 0 4 4), (Wi b5 0 4 4), (Wi b6 0 4 4), (Wi b7 0 4 4), (Wi b8 0 4 4)] (by simp [Wi, ptr, Value.oneCell', i64, u8, u32, u64, bl]) m8 Qle ti83 rfl rfl rfl) fun w9 b9 m9 => ?_
 have m9 : Mem w9 (Qs w0) [(b9, .cells #[(Wi b1 0 4 4), (Wi b2 0 4 4), (Wi b3 0 4 4), (Wi b4 0 4 4), (Wi b5 0 4 4), (Wi b6 0 4 4), (Wi b7 0 4 4), (Wi b8 0 4 4)] 83 (0, 0)), (b8, .cells (cl i64 ([3, 4, 9, 14])) 3 (0, 0)), (b7, .cells (cl i64 ([2, 7, 8, 13])) 3 (0, 0)), (b6, .cells (cl i64 ([1, 6, 11, 12])) 3 (0, 0)), (b5, .cells (cl i64 ([0, 5, 10, 15])) 3 (0, 0)), (b4, .cells (cl i64 ([3, 7, 11, 15])) 3 (0, 0)), (b3, .cells (cl i64 ([2, 6, 10, 14])) 3 (0, 0)), (b2, .cells (cl i64 ([1, 5, 9, 13])) 3 (0, 0)), (b1, .cells (cl i64 ([0, 4, 8, 12])) 3 (0, 0))] := m9
 refine Zx (Wi b9 0 8 8) ?_
 refine rN (Z8 ?_)
 refine Qq [(Wi b9 0 8 8)] ⟨rfl, trivial⟩ ?_
 exact ⟨b1, b2, b3, b4, b5, b6, b7, b8, b9, rfl, m9⟩
theorem c_order2 (w0 : World) : Xz prog 108 #[] w0 (fun r w1 => ∃ ol Hs, (∀ m : Nat → Option Obj, (∀ q ∈ Hs, m q.1 = some q.2) → OrdR m r ol) ∧ Mem w1 (Qs w0) Hs) := by
 refine (c_order w0).mono ?_
 rintro r w1 ⟨b1, b2, b3, b4, b5, b6, b7, b8, b9, rfl, hm⟩
 refine ⟨([((some (Addr.mk b1 0 none), 4, 4), [0, 4, 8, 12]), ((some (Addr.mk b2 0 none), 4, 4), [1, 5, 9, 13]), ((some (Addr.mk b3 0 none), 4, 4), [2, 6, 10, 14]), ((some (Addr.mk b4 0 none), 4, 4), [3, 7, 11, 15]), ((some (Addr.mk b5 0 none), 4, 4), [0, 5, 10, 15]), ((some (Addr.mk b6 0 none), 4, 4), [1, 6, 11, 12]), ((some (Addr.mk b7 0 none), 4, 4), [2, 7, 8, 13]), ((some (Addr.mk b8 0 none), 4, 4), [3, 4, 9, 14])] : List IL), _, fun m h => ⟨?_, ?_, rfl⟩, hm⟩
 ·refine RdK.mk' (k := 1) (l := ([((some (Addr.mk b1 0 none), 4, 4), [0, 4, 8, 12]), ((some (Addr.mk b2 0 none), 4, 4), [1, 5, 9, 13]), ((some (Addr.mk b3 0 none), 4, 4), [2, 6, 10, 14]), ((some (Addr.mk b4 0 none), 4, 4), [3, 7, 11, 15]), ((some (Addr.mk b5 0 none), 4, 4), [0, 5, 10, 15]), ((some (Addr.mk b6 0 none), 4, 4), [1, 6, 11, 12]), ((some (Addr.mk b7 0 none), 4, 4), [2, 7, 8, 13]), ((some (Addr.mk b8 0 none), 4, 4), [3, 4, 9, 14])] : List IL)) (fun a _ => rfl) (Nat.le_refl _) (h _ (List.Mem.head _)) (fun i hi q hq => ?_)
  obtain rfl : q = 0 := by omega
  have hi : i < 8 := hi
  have : i = 0 ∨ i = 1 ∨ i = 2 ∨ i = 3 ∨ i = 4 ∨ i = 5 ∨ i = 6 ∨ i = 7 := by omega
  rcases this with rfl | rfl | rfl | rfl | rfl | rfl | rfl | rfl <;> rfl
 intro a ha
 simp only [List.mem_cons, List.not_mem_nil, or_false] at ha
 rcases ha with rfl | rfl | rfl | rfl | rfl | rfl | rfl | rfl
 ·exact bG (f := i64) (h (b1, .cells (cl i64 [0, 4, 8, 12]) 3 (0, 0)) Ya)
 ·exact bG (f := i64) (h (b2, .cells (cl i64 [1, 5, 9, 13]) 3 (0, 0)) Ya)
 ·exact bG (f := i64) (h (b3, .cells (cl i64 [2, 6, 10, 14]) 3 (0, 0)) Ya)
 ·exact bG (f := i64) (h (b4, .cells (cl i64 [3, 7, 11, 15]) 3 (0, 0)) Ya)
 ·exact bG (f := i64) (h (b5, .cells (cl i64 [0, 5, 10, 15]) 3 (0, 0)) Ya)
 ·exact bG (f := i64) (h (b6, .cells (cl i64 [1, 6, 11, 12]) 3 (0, 0)) Ya)
 ·exact bG (f := i64) (h (b7, .cells (cl i64 [2, 7, 8, 13]) 3 (0, 0)) Ya)
 exact bG (f := i64) (h (b8, .cells (cl i64 [3, 4, 9, 14]) 3 (0, 0)) Ya)
end Go.Proofs.YtkmiemlpfkfiiaaDoor
