/- Contracts: stream, fourth part. Conditions: none beyond those that each theorem states. -/
import Derived.Test.YtkmiemlpfkfiiaaDoorSt2
namespace Go.Proofs.YtkmiemlpfkfiiaaDoor
open Tryd
set_option linter.unusedVariables false
set_option linter.unusedSimpArgs false
theorem Qnb {la lb : Z8} (h : (la.length : Int) ≠ (lb.length : Int)) : false = (la == lb) := by
 symm; rw [beq_eq_false_iff_ne]; rintro rfl; exact h rfl
theorem same_at {la lb : Z8} {k : Nat} (h : la.getD k 0 ≠ lb.getD k 0) : false = (la == lb) := by
 symm; rw [beq_eq_false_iff_ne]; rintro rfl; exact h rfl
theorem same_all {la lb : Z8} (h : (la.length : Int) = (lb.length : Int)) (hall : ∀ j, j < la.length → la.getD j 0 = lb.getD j 0) : true = (la == lb) := by
 symm; rw [beq_iff_eq]
 refine List.ext_getElem oM fun i h1 h2 => ?_
 have := hall i h1
 simpa [List.getD_eq_getElem?_getD, h1, h2] using this
theorem Qrk {la lb : Z8} {k : Nat} (heq : ∀ j, j < k → la.getD j 0 = lb.getD j 0) (h : la.getD k 0 = lb.getD k 0) : ∀ j, j < k + 1 → la.getD j 0 = lb.getD j 0 := by
 intro j hj
 rcases Nat.lt_or_ge j k with h1 | h1
 ·exact heq j h1
 have : j = k := by omega
 subst this; exact h
def Y2 (word : Z8 → BitVec 32) (key : Z8) (cr : BitVec 32) (nz : Z8) : List (BitVec 32) :=
  [1634760805#32, 857760878#32, 2036477234#32, 1797285236#32, word (Uz key 0 4), word (Uz key 4 4), word (Uz key 8 4), word (Uz key 12 4),
   word (Uz key 16 4), word (Uz key 20 4), word (Uz key 24 4), word (Uz key 28 4), cr, word (Uz nz 0 4), word (Uz nz 4 4), word (Uz nz 8 4)]
@[simp] theorem Qko (word : Z8 → BitVec 32) (key : Z8) (cr : BitVec 32) (nz : Z8) : (Y2 word key cr nz).length = 16 := rfl
abbrev IL := (Option Addr × Nat × Nat) × List Int
def ilv (t : IL) : Value := .slice t.1.1 t.1.2.1 t.1.2.2
def encIL (t : IL) : List Value := [ilv t]
def P5 : IL := ((none, 0, 0), [])
def Qdd : List (List Int) := [[0, 4, 8, 12], [1, 5, 9, 13], [2, 6, 10, 14], [3, 7, 11, 15], [0, 5, 10, 15], [1, 6, 11, 12], [2, 7, 8, 13], [3, 4, 9, 14]]
def OrdR (m : Nat → Option Obj) (v : Value) (ol : List IL) : Prop := RdK m encIL 1 v ol ∧ (∀ a ∈ ol, Rd m i64 (ilv a) a.2) ∧ ol.map (·.2) = Qdd
def oN (i j : Nat) : Nat := ((Qdd.getD i []).getD j 0).toNat
theorem oN_ok : ∀ i, i < 8 → (Qdd.getD i []).length = 4 ∧ ∀ j, j < 4 → 0 ≤ (Qdd.getD i []).getD j 0 ∧ (Qdd.getD i []).getD j 0 < 16 := by decide
def Qgo (Q : BitVec 32 → BitVec 32 → BitVec 32 → BitVec 32 → List (BitVec 32)) (s : List (BitVec 32)) (i0 i1 i2 i3 : Nat) : List (BitVec 32) :=
 let q := Q (s.getD i0 0) (s.getD i1 0) (s.getD i2 0) (s.getD i3 0)
 (((s.set i0 (q.getD 0 0)).set i1 (q.getD 1 0)).set i2 (q.getD 2 0)).set i3 (q.getD 3 0)
def setQ (v q : List (BitVec 32)) (i : Nat) : Nat → List (BitVec 32)
 | 0 => v
 | k + 1 => (setQ v q i k).set (oN i k) (q.getD k 0)
theorem Qm6 (v q : List (BitVec 32)) (i : Nat) : ∀ k, (setQ v q i k).length = v.length
 | 0 => rfl
 | k + 1 => by show ((setQ v q i k).set _ _).length = _; rw [List.length_set, Qm6]
def qK (s : List (BitVec 32)) : Nat → List (BitVec 32)
 | 0 => s
 | i + 1 => Qgo (Kr Y4) (qK s i) (oN i 0) (oN i 1) (oN i 2) (oN i 3)
theorem Qot (s : List (BitVec 32)) : ∀ i, (qK s i).length = s.length
 | 0 => rfl
 | i + 1 => by show (Qgo _ _ _ _ _ _).length = _; unfold Qgo; simp only [List.length_set]; exact Qot s i
theorem qK_S {s q : List (BitVec 32)} {i : Nat} (h : q = Kr Y4 ((qK s i).getD (oN i 0) 0) ((qK s i).getD (oN i 1) 0) ((qK s i).getD (oN i 2) 0) ((qK s i).getD (oN i 3) 0)) : setQ (qK s i) q i 4 = qK s (i + 1) := by subst h; rfl
def G9 (s : List (BitVec 32)) : List (BitVec 32) := qK s 8
theorem Qn8 (s : List (BitVec 32)) (h : s.length = 16) : (G9 s).length = 16 := (Qot s 8).trans h
theorem Qr5 {α : Type} {l : List α} {i : Nat} {d : α} (h : i < l.length) : l.getD i d ∈ l := by
 rw [List.getD_eq_getElem?_getD, List.getElem?_eq_getElem h]; exact List.getElem_mem h
theorem Qpa {m : Nat → Option Obj} {v : Value} {ol : List IL} (h : OrdR m v ol) : ol.length = 8 ∧ ∀ i, (ol.getD i P5).2 = Qdd.getD i [] := by
 obtain ⟨_, _, e⟩ := h
 have hl := congrArg List.length e
 rw [List.length_map] at hl
 refine ⟨hl, fun i => ?_⟩
 rw [← e, List.getD_eq_getElem?_getD, List.getD_eq_getElem?_getD, List.getElem?_map]
 cases ol[i]? <;> rfl
theorem Qen {m : Nat → Option Obj} {v : Value} {ol : List IL} (h : OrdR m v ol) {i : Nat} (hi : i < 8) : Rd m i64 (ilv (ol.getD i P5)) (ol.getD i P5).2 := h.2.1 _ (Qr5 (by have := (Qpa h).1; omega))
theorem OrdR.mono {m m' : Nat → Option Obj} {v : Value} {ol : List IL} (h : OrdR m v ol) (hm : ∀ b o, m b = some o → m' b = some o) : OrdR m' v ol := ⟨h.1.mono hm, fun a ha => (h.2.1 a ha).mono hm, h.2.2⟩
def Qgc (key : Z8) : Nat → List (BitVec 32)
 | 0 => [1634760805#32, 857760878#32, 2036477234#32, 1797285236#32]
 | k + 1 => Qgc key k ++ [Yp (Uz key (4 * k) 4)]
def begN (s : List (BitVec 32)) (nz : Z8) : Nat → List (BitVec 32)
 | 0 => s
 | k + 1 => begN s nz k ++ [Yp (Uz nz (4 * k) 4)]
theorem Qj4 (key : Z8) : ∀ k, (Qgc key k).length = 4 + k
 | 0 => rfl
 | k + 1 => by show (Qgc key k ++ [_]).length = 4 + (k + 1); rw [List.length_append, Qj4]; rfl
theorem Qof (s : List (BitVec 32)) (nz : Z8) : ∀ k, (begN s nz k).length = s.length + k
 | 0 => rfl
 | k + 1 => by show (begN s nz k ++ [_]).length = s.length + (k + 1); rw [List.length_append, Qof]; rfl
theorem begK_0 (key : Z8) : Qgc key 0 = [1634760805#32, 857760878#32, 2036477234#32, 1797285236#32] := rfl
theorem begK_S (key : Z8) (k : Nat) : Qgc key (k + 1) = Qgc key k ++ [Yp (Uz key (4 * k) 4)] := rfl
theorem begN_0 (s : List (BitVec 32)) (nz : Z8) : begN s nz 0 = s := rfl
theorem begN_S (s : List (BitVec 32)) (nz : Z8) (k : Nat) : begN s nz (k + 1) = begN s nz k ++ [Yp (Uz nz (4 * k) 4)] := rfl
theorem qK_0 (s : List (BitVec 32)) : qK s 0 = s := rfl
theorem setQ_0 (v q : List (BitVec 32)) (i : Nat) : setQ v q i 0 = v := rfl
theorem setQ_S (v q : List (BitVec 32)) (i k : Nat) : setQ v q i (k + 1) = (setQ v q i k).set (oN i k) (q.getD k 0) := rfl
theorem oN_eq (i j : Nat) : ((Qdd.getD i []).getD j 0).toNat = oN i j := rfl
theorem Qqp {l : Z8} {X Y : Int} {k : Nat} (hX : X = ((4 * k : Nat) : Int)) (hY : Y = X + 4) : (l.drop X.toNat).take (Y.toNat - X.toNat) = Uz l (4 * k) 4 := by
 unfold Uz; subst hY hX; congr 1; omega
theorem begR_eq {key nz : Z8} {cr : BitVec 32} : begN (Qgc key 8 ++ [cr]) nz 3 = Y2 Yp key cr nz := rfl
theorem Qgb (key : Z8) (cr : BitVec 32) (nz : Z8) : (Y2 Yp key cr nz).length = 16 := rfl
theorem Qro (s : List (BitVec 32)) : Yq G9 0 s = s := rfl
theorem Qrn (k : Nat) (s : List (BitVec 32)) : Yq G9 (k + 1) s = qK (Yq G9 k s) 8 := rfl
theorem Qao (k : Nat) (s : List (BitVec 32)) (h : s.length = 16) : (Yq G9 k s).length = 16 := by
 induction k with
 | zero => exact h
 | succ k ih => exact Qn8 _ ih
def Bj (v s : List (BitVec 32)) (i : Nat) : Z8 :=
 [(v.getD i 0 + s.getD i 0).setWidth 8, ((v.getD i 0 + s.getD i 0) >>> 8).setWidth 8, ((v.getD i 0 + s.getD i 0) >>> 16).setWidth 8, ((v.getD i 0 + s.getD i 0) >>> 24).setWidth 8]
theorem Ha (v s : List (BitVec 32)) (k : Nat) : ((List.range k).flatMap (Bj v s)).length = 4 * k := by
 induction k with
 | zero => rfl
 | succ k ih => rw [List.range_succ, List.flatMap_append, List.length_append, ih]; simp [Bj]; omega
theorem Qc5 (v s : List (BitVec 32)) (k : Nat) : (List.range (k + 1)).flatMap (Bj v s) = (List.range k).flatMap (Bj v s) ++ Bj v s k := by
 rw [List.range_succ, List.flatMap_append]; simp
def F8 (key : Z8) (cr : BitVec 32) (nz : Z8) : Z8 :=
 (List.range 16).flatMap (Bj (Yq G9 10 (Y2 Yp key cr nz)) (Y2 Yp key cr nz))
@[simp] theorem blockR_length (key : Z8) (cr : BitVec 32) (nz : Z8) : (F8 key cr nz).length = 64 := by
 unfold F8; rw [Ha]
theorem Qmu (va vb : Value) (la lb : Z8) (w0 : World)  (hra : Rd (Y8 w0) u8 va la) (hrb : Rd (Y8 w0) u8 vb lb) (hla : la.length ≤ 281474976710656) : X0 prog 15 #[va, vb] w0 (fun r w1 => r = (bl (la == lb)) ∧ Ext w0 w1) := by
 refine Qy (args := [va, vb]) func15 rfl ntmps15 results15 rfl ?_
 have m0 : Mem w0 (Qr w0) [] := Mem.of_world w0
 refine sR <| Zx (bl false) ?_
 refine rN (Qa (sR ?_))
 refine Zm va <| Qd (Yk (Rd.ofRest hra m0) Zo rfl) <| Zm vb <| Qd (Yk (Rd.ofRest hrb m0) Zo rfl) <| Qd (We rfl rfl) <| rN ?_
 refine Zy rfl (fun hc1 => ?_) (fun hc1 => ?_)
 ·
  have hc1p := bne_iff_ne.1 hc1
  refine sR <| Zx (bl false) ?_
  refine rN (Zz (Yv ?_))
  refine Qp [(bl false)] ⟨rfl, trivial⟩ ?_
  exact ⟨congrArg bl (Qnb hc1p), m0.toExt⟩
 ·
  have hc1p := X3 hc1
  refine Qn (Qc (Qa (sR ?_)))
  refine Zx (i64 0) ?_
  refine rN (Qh ?_)
  refine Y1 (fun g wv => ∃ (k : Nat), (k ≤ la.length) ∧ (∀ j, j < k → la.getD j 0 = lb.getD j 0) ∧ g 0 = va ∧ g 1 = vb ∧ g 5 = (i64 (k : Int)) ∧ g 10 = (bl ((la.length : Int) != (lb.length : Int))) ∧ Mem wv (Qr w0) []) (fun g wv => ((la.length : Int) - RowKit.intOf (g 5)).toNat) ?_ ?_
  ·exact ⟨0, oM, (by intro j hj; omega), rfl, rfl, rfl, rfl, m0⟩
  rintro fr2 w3 ⟨k, hk, heq, s0, s1, s5, s10, m3⟩
  have z5 := s5
  refine Qa (sR ?_)
  refine Yb s5 <| Yb s0 <| Qd (Yk (Rd.ofRest hra m3) Zo rfl) <| Qd (Xa rfl rfl) <| rN ?_
  refine Zy rfl (fun hc4 => ?_) (fun hc4 => ?_)
  ·
   have hc4p := of_decide_eq_true hc4
   refine Qn (Qc (Qa (Qh (Qa ?_))))
   refine Xg (dl 8) 8 Xo <| Uh rfl s0 <| Uh rfl s5 <| Ym rfl (fun _ e' => Zt (Rd.ofRest hra (m3.ext e')) Zo Yw rfl rfl oM sD) <| Ym (v := (u8 (la.getD k 0))) rfl (fun _ e' => X5 (l := la) (i := (k : Int)) (dflt := 0) (Rd.ofRest hra (m3.ext e')) Vs rfl oM sD rfl) <| Uh rfl s1 <| Uh rfl s5 <| Ym rfl (fun _ e' => Zt (Rd.ofRest hrb (m3.ext e')) Zo Yw rfl rfl oM sD) <| Ym (v := (u8 (lb.getD k 0))) rfl (fun _ e' => X5 (l := lb) (i := (k : Int)) (dflt := 0) (Rd.ofRest hrb (m3.ext e')) Vs rfl oM sD rfl) <| Gf m3 fun w5 m5 => Qd (Qsa rfl rfl) <| rN ?_
   refine Zy rfl (fun hc6 => ?_) (fun hc6 => ?_)
   ·
    have hc6p := bne_iff_ne.1 hc6
    refine sR <| Zx (bl false) ?_
    refine rN (Zz ?_)
    refine Fe (Yv (Fe ?_))
    refine Qp [(bl false)] ⟨rfl, trivial⟩ ?_
    exact ⟨congrArg bl (same_at hc6p), m5.toExt⟩
   ·
    have hc6p := X3 hc6
    refine Qn (Qe (Qb ?_))
    refine Yb s5 <| Qd (Zf (b := 1) rfl rfl oM oM) <| Zx (i64 ((k : Int) + 1)) <| rN ?_
    exact ⟨⟨k + 1, oM, (Qrk heq hc6p), s0, s1, rfl, s10, m5⟩, Ue rfl z5 oM oM⟩
  ·
   have hc4p := of_decide_eq_false hc4
   refine X4 ?_
   refine Qj (Qj (Xi ?_))
   refine sR <| Zx (bl true) ?_
   refine rN (Zz ?_)
   refine Qp [(bl true)] ⟨rfl, trivial⟩ ?_
   exact ⟨congrArg bl (same_all hc1p (fun j hj => heq j oM)), m3.toExt⟩
theorem c_order  (w0 : World)   : X0 prog 108 #[] w0 (fun r w1 => ∃ b1 b2 b3 b4 b5 b6 b7 b8 b9, r = Wp b9 0 8 8 ∧ Mem w1 (Qr w0) [(b9, .cells #[(Wp b1 0 4 4), (Wp b2 0 4 4), (Wp b3 0 4 4), (Wp b4 0 4 4), (Wp b5 0 4 4), (Wp b6 0 4 4), (Wp b7 0 4 4), (Wp b8 0 4 4)] 83 (0, 0)), (b8, .cells (cl i64 ([3, 4, 9, 14])) 3 (0, 0)), (b7, .cells (cl i64 ([2, 7, 8, 13])) 3 (0, 0)), (b6, .cells (cl i64 ([1, 6, 11, 12])) 3 (0, 0)), (b5, .cells (cl i64 ([0, 5, 10, 15])) 3 (0, 0)), (b4, .cells (cl i64 ([3, 7, 11, 15])) 3 (0, 0)), (b3, .cells (cl i64 ([2, 6, 10, 14])) 3 (0, 0)), (b2, .cells (cl i64 ([1, 5, 9, 13])) 3 (0, 0)), (b1, .cells (cl i64 ([0, 4, 8, 12])) 3 (0, 0))]) := by
 refine Qy (args := []) func108 rfl ntmps108 results108 rfl ?_
 have m0 : Mem w0 (Qr w0) [] := Mem.of_world w0
 refine sR <| Zx Wl ?_
 refine rN (sR ?_)
 refine Y9 (Qq i64 [0, 4, 8, 12] Zv m0 Qcy Ui rfl rfl rfl) fun w1 b1 m1 => Y9 (Qq i64 [1, 5, 9, 13] Zv m1 Qcy Ui rfl rfl rfl) fun w2 b2 m2 => Y9 (Qq i64 [2, 6, 10, 14] Zv m2 Qcy Ui rfl rfl rfl) fun w3 b3 m3 => Y9 (Qq i64 [3, 7, 11, 15] Zv m3 Qcy Ui rfl rfl rfl) fun w4 b4 m4 => Y9 (Qq i64 [0, 5, 10, 15] Zv m4 Qcy Ui rfl rfl rfl) fun w5 b5 m5 => Y9 (Qq i64 [1, 6, 11, 12] Zv m5 Qcy Ui rfl rfl rfl) fun w6 b6 m6 => Y9 (Qq i64 [2, 7, 8, 13] Zv m6 Qcy Ui rfl rfl rfl) fun w7 b7 m7 => Y9 (Qq i64 [3, 4, 9, 14] Zv m7 Qcy Ui rfl rfl rfl) fun w8 b8 m8 => Y9 (Ky [(Wp b1 0 4 4), (Wp b2 0 4 4), (Wp b3 0 4 4), (Wp b4 0 4 4), (Wp b5 0 4 4), (Wp b6 0 4 4), (Wp b7 0 4 4), (Wp b8 0 4 4)] (by simp [Wp, ptr, Value.oneCell', i64, u8, u32, u64, bl]) m8 Qkt ti83 rfl rfl rfl) fun w9 b9 m9 => ?_
 have m9 : Mem w9 (Qr w0) [(b9, .cells #[(Wp b1 0 4 4), (Wp b2 0 4 4), (Wp b3 0 4 4), (Wp b4 0 4 4), (Wp b5 0 4 4), (Wp b6 0 4 4), (Wp b7 0 4 4), (Wp b8 0 4 4)] 83 (0, 0)), (b8, .cells (cl i64 ([3, 4, 9, 14])) 3 (0, 0)), (b7, .cells (cl i64 ([2, 7, 8, 13])) 3 (0, 0)), (b6, .cells (cl i64 ([1, 6, 11, 12])) 3 (0, 0)), (b5, .cells (cl i64 ([0, 5, 10, 15])) 3 (0, 0)), (b4, .cells (cl i64 ([3, 7, 11, 15])) 3 (0, 0)), (b3, .cells (cl i64 ([2, 6, 10, 14])) 3 (0, 0)), (b2, .cells (cl i64 ([1, 5, 9, 13])) 3 (0, 0)), (b1, .cells (cl i64 ([0, 4, 8, 12])) 3 (0, 0))] := m9
 refine Zx (Wp b9 0 8 8) ?_
 refine rN (Zz ?_)
 refine Qp [(Wp b9 0 8 8)] ⟨rfl, trivial⟩ ?_
 exact ⟨b1, b2, b3, b4, b5, b6, b7, b8, b9, rfl, m9⟩
theorem c_order2 (w0 : World) : X0 prog 108 #[] w0 (fun r w1 => ∃ ol Hs, (∀ m : Nat → Option Obj, (∀ q ∈ Hs, m q.1 = some q.2) → OrdR m r ol) ∧ Mem w1 (Qr w0) Hs) := by
 refine (c_order w0).mono ?_
 rintro r w1 ⟨b1, b2, b3, b4, b5, b6, b7, b8, b9, rfl, hm⟩
 refine ⟨([((some (Addr.mk b1 0 none), 4, 4), [0, 4, 8, 12]), ((some (Addr.mk b2 0 none), 4, 4), [1, 5, 9, 13]), ((some (Addr.mk b3 0 none), 4, 4), [2, 6, 10, 14]), ((some (Addr.mk b4 0 none), 4, 4), [3, 7, 11, 15]), ((some (Addr.mk b5 0 none), 4, 4), [0, 5, 10, 15]), ((some (Addr.mk b6 0 none), 4, 4), [1, 6, 11, 12]), ((some (Addr.mk b7 0 none), 4, 4), [2, 7, 8, 13]), ((some (Addr.mk b8 0 none), 4, 4), [3, 4, 9, 14])] : List IL), _, fun m h => ⟨?_, ?_, rfl⟩, hm⟩
 ·refine RdK.mk' (k := 1) (l := ([((some (Addr.mk b1 0 none), 4, 4), [0, 4, 8, 12]), ((some (Addr.mk b2 0 none), 4, 4), [1, 5, 9, 13]), ((some (Addr.mk b3 0 none), 4, 4), [2, 6, 10, 14]), ((some (Addr.mk b4 0 none), 4, 4), [3, 7, 11, 15]), ((some (Addr.mk b5 0 none), 4, 4), [0, 5, 10, 15]), ((some (Addr.mk b6 0 none), 4, 4), [1, 6, 11, 12]), ((some (Addr.mk b7 0 none), 4, 4), [2, 7, 8, 13]), ((some (Addr.mk b8 0 none), 4, 4), [3, 4, 9, 14])] : List IL)) (fun a _ => rfl) (Nat.le_refl _) (h _ (List.Mem.head _)) (fun i hi q hq => ?_)
  obtain rfl : q = 0 := by omega
  have hi : i < 8 := hi
  have : i = 0 ∨ i = 1 ∨ i = 2 ∨ i = 3 ∨ i = 4 ∨ i = 5 ∨ i = 6 ∨ i = 7 := by omega
  rcases this with rfl | rfl | rfl | rfl | rfl | rfl | rfl | rfl <;> rfl
 intro a ha
 simp only [List.mem_cons, List.not_mem_nil, or_false] at ha
 rcases ha with rfl | rfl | rfl | rfl | rfl | rfl | rfl | rfl
 ·exact Rd.mkA (f := i64) (h (b1, .cells (cl i64 [0, 4, 8, 12]) 3 (0, 0)) Ya)
 ·exact Rd.mkA (f := i64) (h (b2, .cells (cl i64 [1, 5, 9, 13]) 3 (0, 0)) Ya)
 ·exact Rd.mkA (f := i64) (h (b3, .cells (cl i64 [2, 6, 10, 14]) 3 (0, 0)) Ya)
 ·exact Rd.mkA (f := i64) (h (b4, .cells (cl i64 [3, 7, 11, 15]) 3 (0, 0)) Ya)
 ·exact Rd.mkA (f := i64) (h (b5, .cells (cl i64 [0, 5, 10, 15]) 3 (0, 0)) Ya)
 ·exact Rd.mkA (f := i64) (h (b6, .cells (cl i64 [1, 6, 11, 12]) 3 (0, 0)) Ya)
 ·exact Rd.mkA (f := i64) (h (b7, .cells (cl i64 [2, 7, 8, 13]) 3 (0, 0)) Ya)
 exact Rd.mkA (f := i64) (h (b8, .cells (cl i64 [3, 4, 9, 14]) 3 (0, 0)) Ya)
end Go.Proofs.YtkmiemlpfkfiiaaDoor
