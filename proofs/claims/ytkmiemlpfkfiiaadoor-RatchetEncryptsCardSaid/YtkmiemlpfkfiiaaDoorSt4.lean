/- Contracts: stream, fourth part. Conditions: none beyond those that each theorem states. -/
import Derived.Test.YtkmiemlpfkfiiaaDoorSt2
namespace Go.Proofs.YtkmiemlpfkfiiaaDoor
set_option linter.unusedVariables false
set_option linter.unusedSimpArgs false
theorem same_len {la lb : List (BitVec 8)} (h : (la.length : Int) ≠ (lb.length : Int)) : false = (la == lb) := by
 symm; rw [beq_eq_false_iff_ne]; rintro rfl; exact h rfl
theorem same_at {la lb : List (BitVec 8)} {k : Nat} (h : la.getD k 0 ≠ lb.getD k 0) : false = (la == lb) := by
 symm; rw [beq_eq_false_iff_ne]; rintro rfl; exact h rfl
theorem same_all {la lb : List (BitVec 8)} (h : (la.length : Int) = (lb.length : Int)) (hall : ∀ j, j < la.length → la.getD j 0 = lb.getD j 0) : true = (la == lb) := by
 symm; rw [beq_iff_eq]
 refine List.ext_getElem oM fun i h1 h2 => ?_
 have := hall i h1
 simpa [List.getD_eq_getElem?_getD, h1, h2] using this
theorem Qng {la lb : List (BitVec 8)} {k : Nat} (heq : ∀ j, j < k → la.getD j 0 = lb.getD j 0) (h : la.getD k 0 = lb.getD k 0) : ∀ j, j < k + 1 → la.getD j 0 = lb.getD j 0 := by
 intro j hj
 rcases Nat.lt_or_ge j k with h1 | h1
 ·exact heq j h1
 have : j = k := by omega
 subst this; exact h
def Yf (word : List (BitVec 8) → BitVec 32) (key : List (BitVec 8)) (counter : BitVec 32) (nonce : List (BitVec 8)) : List (BitVec 32) :=
  [1634760805#32, 857760878#32, 2036477234#32, 1797285236#32, word (Gm key 0 4), word (Gm key 4 4), word (Gm key 8 4), word (Gm key 12 4),
   word (Gm key 16 4), word (Gm key 20 4), word (Gm key 24 4), word (Gm key 28 4), counter, word (Gm nonce 0 4), word (Gm nonce 4 4), word (Gm nonce 8 4)]
@[simp] theorem Qg9 (word : List (BitVec 8) → BitVec 32) (key : List (BitVec 8)) (counter : BitVec 32) (nonce : List (BitVec 8)) : (Yf word key counter nonce).length = 16 := rfl
abbrev IL := (Option Addr × Nat × Nat) × List Int
def ilv (t : IL) : Value := .slice t.1.1 t.1.2.1 t.1.2.2
def encIL (t : IL) : List Value := [ilv t]
def Af : IL := ((none, 0, 0), [])
def Qaw : List (List Int) := [[0, 4, 8, 12], [1, 5, 9, 13], [2, 6, 10, 14], [3, 7, 11, 15], [0, 5, 10, 15], [1, 6, 11, 12], [2, 7, 8, 13], [3, 4, 9, 14]]
def OrdR (m : Nat → Option Obj) (v : Value) (ol : List IL) : Prop := RdK m encIL 1 v ol ∧ (∀ a ∈ ol, Rd m i64 (ilv a) a.2) ∧ ol.map (·.2) = Qaw
def oN (i j : Nat) : Nat := ((Qaw.getD i []).getD j 0).toNat
theorem oN_ok : ∀ i, i < 8 → (Qaw.getD i []).length = 4 ∧ ∀ j, j < 4 → 0 ≤ (Qaw.getD i []).getD j 0 ∧ (Qaw.getD i []).getD j 0 < 16 := by decide
def Qdz (Q : BitVec 32 → BitVec 32 → BitVec 32 → BitVec 32 → List (BitVec 32)) (s : List (BitVec 32)) (i0 i1 i2 i3 : Nat) : List (BitVec 32) :=
 let q := Q (s.getD i0 0) (s.getD i1 0) (s.getD i2 0) (s.getD i3 0)
 (((s.set i0 (q.getD 0 0)).set i1 (q.getD 1 0)).set i2 (q.getD 2 0)).set i3 (q.getD 3 0)
def setQ (v q : List (BitVec 32)) (i : Nat) : Nat → List (BitVec 32)
 | 0 => v
 | k + 1 => (setQ v q i k).set (oN i k) (q.getD k 0)
theorem Qjk (v q : List (BitVec 32)) (i : Nat) : ∀ k, (setQ v q i k).length = v.length
 | 0 => rfl
 | k + 1 => by show ((setQ v q i k).set _ _).length = _; rw [List.length_set, Qjk]
def qK (s : List (BitVec 32)) : Nat → List (BitVec 32)
 | 0 => s
 | i + 1 => Qdz (Jg Yg) (qK s i) (oN i 0) (oN i 1) (oN i 2) (oN i 3)
theorem Qk7 (s : List (BitVec 32)) : ∀ i, (qK s i).length = s.length
 | 0 => rfl
 | i + 1 => by show (Qdz _ _ _ _ _ _).length = _; unfold Qdz; simp only [List.length_set]; exact Qk7 s i
theorem qK_S {s q : List (BitVec 32)} {i : Nat} (h : q = Jg Yg ((qK s i).getD (oN i 0) 0) ((qK s i).getD (oN i 1) 0) ((qK s i).getD (oN i 2) 0) ((qK s i).getD (oN i 3) 0)) : setQ (qK s i) q i 4 = qK s (i + 1) := by subst h; rfl
def Vt (s : List (BitVec 32)) : List (BitVec 32) := qK s 8
theorem Qkk (s : List (BitVec 32)) (h : s.length = 16) : (Vt s).length = 16 := (Qk7 s 8).trans h
theorem Qn1 {α : Type} {l : List α} {i : Nat} {d : α} (h : i < l.length) : l.getD i d ∈ l := by
 rw [List.getD_eq_getElem?_getD, List.getElem?_eq_getElem h]; exact List.getElem_mem h
theorem Qlk {m : Nat → Option Obj} {v : Value} {ol : List IL} (h : OrdR m v ol) : ol.length = 8 ∧ ∀ i, (ol.getD i Af).2 = Qaw.getD i [] := by
 obtain ⟨_, _, e⟩ := h
 have hl := congrArg List.length e
 rw [List.length_map] at hl
 refine ⟨hl, fun i => ?_⟩
 rw [← e, List.getD_eq_getElem?_getD, List.getD_eq_getElem?_getD, List.getElem?_map]
 cases ol[i]? <;> rfl
theorem Qb3 {m : Nat → Option Obj} {v : Value} {ol : List IL} (h : OrdR m v ol) {i : Nat} (hi : i < 8) : Rd m i64 (ilv (ol.getD i Af)) (ol.getD i Af).2 := h.2.1 _ (Qn1 (by have := (Qlk h).1; omega))
theorem OrdR.mono {m m' : Nat → Option Obj} {v : Value} {ol : List IL} (h : OrdR m v ol) (hm : ∀ b o, m b = some o → m' b = some o) : OrdR m' v ol := ⟨h.1.mono hm, fun a ha => (h.2.1 a ha).mono hm, h.2.2⟩
def Qdq (key : List (BitVec 8)) : Nat → List (BitVec 32)
 | 0 => [1634760805#32, 857760878#32, 2036477234#32, 1797285236#32]
 | k + 1 => Qdq key k ++ [X8 (Gm key (4 * k) 4)]
def begN (s : List (BitVec 32)) (nonce : List (BitVec 8)) : Nat → List (BitVec 32)
 | 0 => s
 | k + 1 => begN s nonce k ++ [X8 (Gm nonce (4 * k) 4)]
theorem Qgp (key : List (BitVec 8)) : ∀ k, (Qdq key k).length = 4 + k
 | 0 => rfl
 | k + 1 => by show (Qdq key k ++ [_]).length = 4 + (k + 1); rw [List.length_append, Qgp]; rfl
theorem Qks (s : List (BitVec 32)) (nonce : List (BitVec 8)) : ∀ k, (begN s nonce k).length = s.length + k
 | 0 => rfl
 | k + 1 => by show (begN s nonce k ++ [_]).length = s.length + (k + 1); rw [List.length_append, Qks]; rfl
theorem begK_0 (key : List (BitVec 8)) : Qdq key 0 = [1634760805#32, 857760878#32, 2036477234#32, 1797285236#32] := rfl
theorem begK_S (key : List (BitVec 8)) (k : Nat) : Qdq key (k + 1) = Qdq key k ++ [X8 (Gm key (4 * k) 4)] := rfl
theorem begN_0 (s : List (BitVec 32)) (nonce : List (BitVec 8)) : begN s nonce 0 = s := rfl
theorem begN_S (s : List (BitVec 32)) (nonce : List (BitVec 8)) (k : Nat) : begN s nonce (k + 1) = begN s nonce k ++ [X8 (Gm nonce (4 * k) 4)] := rfl
theorem qK_0 (s : List (BitVec 32)) : qK s 0 = s := rfl
theorem setQ_0 (v q : List (BitVec 32)) (i : Nat) : setQ v q i 0 = v := rfl
theorem setQ_S (v q : List (BitVec 32)) (i k : Nat) : setQ v q i (k + 1) = (setQ v q i k).set (oN i k) (q.getD k 0) := rfl
theorem oN_eq (i j : Nat) : ((Qaw.getD i []).getD j 0).toNat = oN i j := rfl
theorem Qmu {l : List (BitVec 8)} {X Y : Int} {k : Nat} (hX : X = ((4 * k : Nat) : Int)) (hY : Y = X + 4) : (l.drop X.toNat).take (Y.toNat - X.toNat) = Gm l (4 * k) 4 := by
 unfold Gm; subst hY hX; congr 1; omega
theorem begR_eq {key nonce : List (BitVec 8)} {counter : BitVec 32} : begN (Qdq key 8 ++ [counter]) nonce 3 = Yf X8 key counter nonce := rfl
theorem Qdp (key : List (BitVec 8)) (counter : BitVec 32) (nonce : List (BitVec 8)) : (Yf X8 key counter nonce).length = 16 := rfl
theorem Qnk (s : List (BitVec 32)) : X9 Vt 0 s = s := rfl
theorem Qnj (k : Nat) (s : List (BitVec 32)) : X9 Vt (k + 1) s = qK (X9 Vt k s) 8 := rfl
theorem Nc (k : Nat) (s : List (BitVec 32)) (h : s.length = 16) : (X9 Vt k s).length = 16 := by
 induction k with
 | zero => exact h
 | succ k ih => exact Qkk _ ih
def Fz (v s : List (BitVec 32)) (i : Nat) : List (BitVec 8) :=
 [(v.getD i 0 + s.getD i 0).setWidth 8, ((v.getD i 0 + s.getD i 0) >>> 8).setWidth 8, ((v.getD i 0 + s.getD i 0) >>> 16).setWidth 8, ((v.getD i 0 + s.getD i 0) >>> 24).setWidth 8]
theorem Eu (v s : List (BitVec 32)) (k : Nat) : ((List.range k).flatMap (Fz v s)).length = 4 * k := by
 induction k with
 | zero => rfl
 | succ k ih => rw [List.range_succ, List.flatMap_append, List.length_append, ih]; simp [Fz]; omega
theorem Qap (v s : List (BitVec 32)) (k : Nat) : (List.range (k + 1)).flatMap (Fz v s) = (List.range k).flatMap (Fz v s) ++ Fz v s k := by
 rw [List.range_succ, List.flatMap_append]; simp
def Wq (key : List (BitVec 8)) (counter : BitVec 32) (nonce : List (BitVec 8)) : List (BitVec 8) :=
 (List.range 16).flatMap (Fz (X9 Vt 10 (Yf X8 key counter nonce)) (Yf X8 key counter nonce))
@[simp] theorem blockR_length (key : List (BitVec 8)) (counter : BitVec 32) (nonce : List (BitVec 8)) : (Wq key counter nonce).length = 64 := by
 unfold Wq; rw [Eu]
theorem c_same (va vb : Value) (la lb : List (BitVec 8)) (w0 : World)  (hra : Rd (Yq w0) u8 va la) (hrb : Rd (Yq w0) u8 vb lb) (hla : la.length ≤ 281474976710656) : Xz Tryd.prog 15 #[va, vb] w0 (fun r w1 => r = (bl (la == lb)) ∧ Ext w0 w1) := by
 refine Zd (args := [va, vb]) Tryd.func15 rfl Tryd.ntmps15 Tryd.results15 rfl ?_
 have m0 : Mem w0 (Qy w0) [] := Mem.of_world w0
 refine sR <| Qa rfl (Qc (v := (bl false)) rfl) ?_
 refine rN (Qg (sR ?_))
 refine rM rfl (v := va) rfl <| Qa rfl (Ye (Rd.ofRest hra m0) Zi rfl) <| rM rfl (v := vb) rfl <| Qa rfl (Ye (Rd.ofRest hrb m0) Zi rfl) <| Qa rfl (Gu rfl rfl) <| rN ?_
 refine Xv rfl (fun hc1 => ?_) (fun hc1 => ?_)
 ·
  have hc1p := bne_iff_ne.1 hc1
  refine sR <| Qa rfl (Qc (v := (bl false)) rfl) ?_
  refine rN (Xt (Vg ?_))
  refine Ze [(bl false)] ⟨rfl, trivial⟩ ?_
  exact ⟨congrArg bl (same_len hc1p), m0.toExt⟩
 ·
  have hc1p := Kt hc1
  refine Q7 (Qh (Qg (sR ?_)))
  refine Qa rfl (Qc (v := (i64 0)) rfl) ?_
  refine rN (Qo ?_)
  refine Yo (fun g wv => ∃ (k : Nat), (k ≤ la.length) ∧ (∀ j, j < k → la.getD j 0 = lb.getD j 0) ∧ g 0 = va ∧ g 1 = vb ∧ g 5 = (i64 (k : Int)) ∧ g 10 = (bl ((la.length : Int) != (lb.length : Int))) ∧ Mem wv (Qy w0) []) (fun g wv => ((la.length : Int) - RowKit.intOf (g 5)).toNat) ?_ ?_
  ·exact ⟨0, oM, (by intro j hj; omega), rfl, rfl, rfl, rfl, m0⟩
  rintro fr2 w3 ⟨k, hk, heq, s0, s1, s5, s10, m3⟩
  have z5 := s5
  refine Qg (sR ?_)
  refine rM rfl s5 <| rM rfl s0 <| Qa rfl (Ye (Rd.ofRest hra m3) Zi rfl) <| Qa rfl (Qs rfl rfl) <| rN ?_
  refine Xv rfl (fun hc4 => ?_) (fun hc4 => ?_)
  ·
   have hc4p := of_decide_eq_true hc4
   refine Q7 (Qh (Qg (Qo (Qg ?_))))
   refine Xq (dl 8) 8 (by kernel_rfl) <| dM rfl rfl s0 <| dM rfl rfl s5 <| Qj rfl rfl (fun _ _hx => Xa (Rd.ofRest hra (m3.ext _hx)) Zi X6 rfl rfl oM sD) <| Qj (v := (u8 (la.getD k 0))) rfl rfl (fun _ _hx => Yc (l := la) (i := (k : Int)) (dflt := 0) (Rd.ofRest hra (m3.ext _hx)) Vm rfl oM sD rfl) <| dM rfl rfl s1 <| dM rfl rfl s5 <| Qj rfl rfl (fun _ _hx => Xa (Rd.ofRest hrb (m3.ext _hx)) Zi X6 rfl rfl oM sD) <| Qj (v := (u8 (lb.getD k 0))) rfl rfl (fun _ _hx => Yc (l := lb) (i := (k : Int)) (dflt := 0) (Rd.ofRest hrb (m3.ext _hx)) Vm rfl oM sD rfl) ?_
   refine Xd (fun w5 e5 => ?_)
   have m5 := m3.ext e5
   refine Qa rfl (Qn7 rfl rfl) <| rN ?_
   refine Xv rfl (fun hc6 => ?_) (fun hc6 => ?_)
   ·
    have hc6p := bne_iff_ne.1 hc6
    refine sR <| Qa rfl (Qc (v := (bl false)) rfl) ?_
    refine rN (Xt ?_)
    refine Du (Vg (Du ?_))
    refine Ze [(bl false)] ⟨rfl, trivial⟩ ?_
    exact ⟨congrArg bl (same_at hc6p), m5.toExt⟩
   ·
    have hc6p := Kt hc6
    refine Q7 (Qi (Qe ?_))
    refine rM rfl s5 <| Qa rfl (Qk (b := 1) rfl rfl oM oM) <| Qa rfl (Qc (v := (i64 ((k : Int) + 1))) rfl) <| rN ?_
    exact ⟨⟨k + 1, oM, (Qng heq hc6p), s0, s1, rfl, s10, m5⟩, Gl rfl z5 oM oM⟩
  ·
   have hc4p := of_decide_eq_false hc4
   refine X0 ?_
   refine Qr (Qr (Xf ?_))
   refine sR <| Qa rfl (Qc (v := (bl true)) rfl) ?_
   refine rN (Xt ?_)
   refine Ze [(bl true)] ⟨rfl, trivial⟩ ?_
   exact ⟨congrArg bl (same_all hc1p (fun j hj => heq j oM)), m3.toExt⟩
theorem c_order  (w0 : World)   : Xz Tryd.prog 108 #[] w0 (fun r w1 => ∃ b1 b2 b3 b4 b5 b6 b7 b8 b9, r = Ko b9 0 8 8 ∧ Mem w1 (Qy w0) [(b9, .cells #[(Ko b1 0 4 4), (Ko b2 0 4 4), (Ko b3 0 4 4), (Ko b4 0 4 4), (Ko b5 0 4 4), (Ko b6 0 4 4), (Ko b7 0 4 4), (Ko b8 0 4 4)] 83 (0, 0)), (b8, .cells (cl i64 ([3, 4, 9, 14])) 3 (0, 0)), (b7, .cells (cl i64 ([2, 7, 8, 13])) 3 (0, 0)), (b6, .cells (cl i64 ([1, 6, 11, 12])) 3 (0, 0)), (b5, .cells (cl i64 ([0, 5, 10, 15])) 3 (0, 0)), (b4, .cells (cl i64 ([3, 7, 11, 15])) 3 (0, 0)), (b3, .cells (cl i64 ([2, 6, 10, 14])) 3 (0, 0)), (b2, .cells (cl i64 ([1, 5, 9, 13])) 3 (0, 0)), (b1, .cells (cl i64 ([0, 4, 8, 12])) 3 (0, 0))]) := by
 refine Zd (args := []) Tryd.func108 rfl Tryd.ntmps108 Tryd.results108 rfl ?_
 have m0 : Mem w0 (Qy w0) [] := Mem.of_world w0
 refine sR <| Qa rfl (Qc (v := (Value.slice none 0 0)) rfl) ?_
 refine rN (sR ?_)
 refine Za rfl (Ql i64 [0, 4, 8, 12] Xm m0 Qag Dy rfl rfl rfl) ?_
 rintro _ w1 ⟨b1, rfl, e1, m1⟩
 refine Za rfl (Ql i64 [1, 5, 9, 13] Xm m1 Qag Dy rfl rfl rfl) ?_
 rintro _ w2 ⟨b2, rfl, e2, m2⟩
 refine Za rfl (Ql i64 [2, 6, 10, 14] Xm m2 Qag Dy rfl rfl rfl) ?_
 rintro _ w3 ⟨b3, rfl, e3, m3⟩
 refine Za rfl (Ql i64 [3, 7, 11, 15] Xm m3 Qag Dy rfl rfl rfl) ?_
 rintro _ w4 ⟨b4, rfl, e4, m4⟩
 refine Za rfl (Ql i64 [0, 5, 10, 15] Xm m4 Qag Dy rfl rfl rfl) ?_
 rintro _ w5 ⟨b5, rfl, e5, m5⟩
 refine Za rfl (Ql i64 [1, 6, 11, 12] Xm m5 Qag Dy rfl rfl rfl) ?_
 rintro _ w6 ⟨b6, rfl, e6, m6⟩
 refine Za rfl (Ql i64 [2, 7, 8, 13] Xm m6 Qag Dy rfl rfl rfl) ?_
 rintro _ w7 ⟨b7, rfl, e7, m7⟩
 refine Za rfl (Ql i64 [3, 4, 9, 14] Xm m7 Qag Dy rfl rfl rfl) ?_
 rintro _ w8 ⟨b8, rfl, e8, m8⟩
 refine Za rfl (Wl [(Ko b1 0 4 4), (Ko b2 0 4 4), (Ko b3 0 4 4), (Ko b4 0 4 4), (Ko b5 0 4 4), (Ko b6 0 4 4), (Ko b7 0 4 4), (Ko b8 0 4 4)] (by simp [Ko, ptr, Value.oneCell', i64, u8, u32, u64, bl]) m8 Qhe ti83 rfl rfl rfl) ?_
 rintro _ w9 ⟨b9, rfl, e9, m9⟩
 have m9 : Mem w9 (Qy w0) [(b9, .cells #[(Ko b1 0 4 4), (Ko b2 0 4 4), (Ko b3 0 4 4), (Ko b4 0 4 4), (Ko b5 0 4 4), (Ko b6 0 4 4), (Ko b7 0 4 4), (Ko b8 0 4 4)] 83 (0, 0)), (b8, .cells (cl i64 ([3, 4, 9, 14])) 3 (0, 0)), (b7, .cells (cl i64 ([2, 7, 8, 13])) 3 (0, 0)), (b6, .cells (cl i64 ([1, 6, 11, 12])) 3 (0, 0)), (b5, .cells (cl i64 ([0, 5, 10, 15])) 3 (0, 0)), (b4, .cells (cl i64 ([3, 7, 11, 15])) 3 (0, 0)), (b3, .cells (cl i64 ([2, 6, 10, 14])) 3 (0, 0)), (b2, .cells (cl i64 ([1, 5, 9, 13])) 3 (0, 0)), (b1, .cells (cl i64 ([0, 4, 8, 12])) 3 (0, 0))] := m9
 refine Qa rfl (Qc (v := (Ko b9 0 8 8)) rfl) ?_
 refine rN (Xt ?_)
 refine Ze [(Ko b9 0 8 8)] ⟨rfl, trivial⟩ ?_
 exact ⟨b1, b2, b3, b4, b5, b6, b7, b8, b9, rfl, m9⟩
theorem c_order2 (w0 : World) : Xz Tryd.prog 108 #[] w0 (fun r w1 => ∃ ol Hs, (∀ m : Nat → Option Obj, (∀ q ∈ Hs, m q.1 = some q.2) → OrdR m r ol) ∧ Mem w1 (Qy w0) Hs) := by
 refine (c_order w0).mono ?_
 rintro r w1 ⟨b1, b2, b3, b4, b5, b6, b7, b8, b9, rfl, hm⟩
 refine ⟨([((some (Addr.mk b1 0 none), 4, 4), [0, 4, 8, 12]), ((some (Addr.mk b2 0 none), 4, 4), [1, 5, 9, 13]), ((some (Addr.mk b3 0 none), 4, 4), [2, 6, 10, 14]), ((some (Addr.mk b4 0 none), 4, 4), [3, 7, 11, 15]), ((some (Addr.mk b5 0 none), 4, 4), [0, 5, 10, 15]), ((some (Addr.mk b6 0 none), 4, 4), [1, 6, 11, 12]), ((some (Addr.mk b7 0 none), 4, 4), [2, 7, 8, 13]), ((some (Addr.mk b8 0 none), 4, 4), [3, 4, 9, 14])] : List IL), _, fun m h => ⟨?_, ?_, rfl⟩, hm⟩
 ·refine RdK.mk' (k := 1) (l := ([((some (Addr.mk b1 0 none), 4, 4), [0, 4, 8, 12]), ((some (Addr.mk b2 0 none), 4, 4), [1, 5, 9, 13]), ((some (Addr.mk b3 0 none), 4, 4), [2, 6, 10, 14]), ((some (Addr.mk b4 0 none), 4, 4), [3, 7, 11, 15]), ((some (Addr.mk b5 0 none), 4, 4), [0, 5, 10, 15]), ((some (Addr.mk b6 0 none), 4, 4), [1, 6, 11, 12]), ((some (Addr.mk b7 0 none), 4, 4), [2, 7, 8, 13]), ((some (Addr.mk b8 0 none), 4, 4), [3, 4, 9, 14])] : List IL)) (fun a _ => rfl) (Nat.le_refl _) (h _ (List.Mem.head _)) (fun i hi q hq => ?_)
  obtain rfl : q = 0 := by omega
  have hi : i < 8 := hi
  have : i = 0 ∨ i = 1 ∨ i = 2 ∨ i = 3 ∨ i = 4 ∨ i = 5 ∨ i = 6 ∨ i = 7 := by omega
  rcases this with rfl | rfl | rfl | rfl | rfl | rfl | rfl | rfl <;> rfl
 intro a ha
 simp only [List.mem_cons, List.not_mem_nil, or_false] at ha
 rcases ha with rfl | rfl | rfl | rfl | rfl | rfl | rfl | rfl
 ·exact Rd.mkA (f := i64) (h (b1, .cells (cl i64 [0, 4, 8, 12]) 3 (0, 0)) (by simp))
 ·exact Rd.mkA (f := i64) (h (b2, .cells (cl i64 [1, 5, 9, 13]) 3 (0, 0)) (by simp))
 ·exact Rd.mkA (f := i64) (h (b3, .cells (cl i64 [2, 6, 10, 14]) 3 (0, 0)) (by simp))
 ·exact Rd.mkA (f := i64) (h (b4, .cells (cl i64 [3, 7, 11, 15]) 3 (0, 0)) (by simp))
 ·exact Rd.mkA (f := i64) (h (b5, .cells (cl i64 [0, 5, 10, 15]) 3 (0, 0)) (by simp))
 ·exact Rd.mkA (f := i64) (h (b6, .cells (cl i64 [1, 6, 11, 12]) 3 (0, 0)) (by simp))
 ·exact Rd.mkA (f := i64) (h (b7, .cells (cl i64 [2, 7, 8, 13]) 3 (0, 0)) (by simp))
 exact Rd.mkA (f := i64) (h (b8, .cells (cl i64 [3, 4, 9, 14]) 3 (0, 0)) (by simp))
end Go.Proofs.YtkmiemlpfkfiiaaDoor
