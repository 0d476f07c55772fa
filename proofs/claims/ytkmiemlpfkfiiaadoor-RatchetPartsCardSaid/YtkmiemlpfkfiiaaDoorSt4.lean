/- Contracts: stream, fourth part. Conditions: none beyond those that each theorem states. -/
import Derived.Test.YtkmiemlpfkfiiaaDoorSt2
namespace Go.Proofs.YtkmiemlpfkfiiaaDoor
open Tryd
set_option linter.unusedVariables false
set_option linter.unusedSimpArgs false
theorem Qm3 {la lb : Xg} (h : (la.length : Int) ≠ (lb.length : Int)) : false = (la == lb) := by
 symm; rw [beq_eq_false_iff_ne]; rintro rfl; exact h rfl
theorem same_at {la lb : Xg} {k : Nat} (h : la.getD k 0 ≠ lb.getD k 0) : false = (la == lb) := by
 symm; rw [beq_eq_false_iff_ne]; rintro rfl; exact h rfl
theorem same_all {la lb : Xg} (h : (la.length : Int) = (lb.length : Int)) (hall : ∀ j, j < la.length → la.getD j 0 = lb.getD j 0) : true = (la == lb) := by
 symm; rw [beq_iff_eq]
 refine List.ext_getElem oM fun i h1 h2 => ?_
 have := hall i h1
 simpa [List.getD_eq_getElem?_getD, h1, h2] using this
theorem Qrb {la lb : Xg} {k : Nat} (heq : ∀ j, j < k → la.getD j 0 = lb.getD j 0) (h : la.getD k 0 = lb.getD k 0) : ∀ j, j < k + 1 → la.getD j 0 = lb.getD j 0 := by
 intro j hj
 rcases Nat.lt_or_ge j k with h1 | h1
 ·exact heq j h1
 have : j = k := by omega
 subst this; exact h
def Y5 (word : Xg → BitVec 32) (key : Xg) (cr : BitVec 32) (nz : Xg) : List (BitVec 32) :=
  [1634760805#32, 857760878#32, 2036477234#32, 1797285236#32, word (U2 key 0 4), word (U2 key 4 4), word (U2 key 8 4), word (U2 key 12 4),
   word (U2 key 16 4), word (U2 key 20 4), word (U2 key 24 4), word (U2 key 28 4), cr, word (U2 nz 0 4), word (U2 nz 4 4), word (U2 nz 8 4)]
@[simp] theorem Qke (word : Xg → BitVec 32) (key : Xg) (cr : BitVec 32) (nz : Xg) : (Y5 word key cr nz).length = 16 := rfl
abbrev IL := (Option Addr × Nat × Nat) × List Int
def ilv (t : IL) : Value := .slice t.1.1 t.1.2.1 t.1.2.2
def encIL (t : IL) : List Value := [ilv t]
def Pq : IL := ((none, 0, 0), [])
def Qc1 : List (List Int) := [[0, 4, 8, 12], [1, 5, 9, 13], [2, 6, 10, 14], [3, 7, 11, 15], [0, 5, 10, 15], [1, 6, 11, 12], [2, 7, 8, 13], [3, 4, 9, 14]]
def OrdR (m : Nat → Option Obj) (v : Value) (ol : List IL) : Prop := RdK m encIL 1 v ol ∧ (∀ a ∈ ol, Rd m i64 (ilv a) a.2) ∧ ol.map (·.2) = Qc1
def oN (i j : Nat) : Nat := ((Qc1.getD i []).getD j 0).toNat
theorem oN_ok : ∀ i, i < 8 → (Qc1.getD i []).length = 4 ∧ ∀ j, j < 4 → 0 ≤ (Qc1.getD i []).getD j 0 ∧ (Qc1.getD i []).getD j 0 < 16 := by decide
def Qgc (Q : BitVec 32 → BitVec 32 → BitVec 32 → BitVec 32 → List (BitVec 32)) (s : List (BitVec 32)) (i0 i1 i2 i3 : Nat) : List (BitVec 32) :=
 let q := Q (s.getD i0 0) (s.getD i1 0) (s.getD i2 0) (s.getD i3 0)
 (((s.set i0 (q.getD 0 0)).set i1 (q.getD 1 0)).set i2 (q.getD 2 0)).set i3 (q.getD 3 0)
def setQ (v q : List (BitVec 32)) (i : Nat) : Nat → List (BitVec 32)
 | 0 => v
 | k + 1 => (setQ v q i k).set (oN i k) (q.getD k 0)
theorem Qmy (v q : List (BitVec 32)) (i : Nat) : ∀ k, (setQ v q i k).length = v.length
 | 0 => rfl
 | k + 1 => by show ((setQ v q i k).set _ _).length = _; rw [List.length_set, Qmy]
def qK (s : List (BitVec 32)) : Nat → List (BitVec 32)
 | 0 => s
 | i + 1 => Qgc (Wi Y6) (qK s i) (oN i 0) (oN i 1) (oN i 2) (oN i 3)
theorem Qok (s : List (BitVec 32)) : ∀ i, (qK s i).length = s.length
 | 0 => rfl
 | i + 1 => by show (Qgc _ _ _ _ _ _).length = _; unfold Qgc; simp only [List.length_set]; exact Qok s i
theorem qK_S {s q : List (BitVec 32)} {i : Nat} (h : q = Wi Y6 ((qK s i).getD (oN i 0) 0) ((qK s i).getD (oN i 1) 0) ((qK s i).getD (oN i 2) 0) ((qK s i).getD (oN i 3) 0)) : setQ (qK s i) q i 4 = qK s (i + 1) := by subst h; rfl
def Ud (s : List (BitVec 32)) : List (BitVec 32) := qK s 8
theorem Qn0 (s : List (BitVec 32)) (h : s.length = 16) : (Ud s).length = 16 := (Qok s 8).trans h
theorem Qrt {α : Type} {l : List α} {i : Nat} {d : α} (h : i < l.length) : l.getD i d ∈ l := by
 rw [List.getD_eq_getElem?_getD, List.getElem?_eq_getElem h]; exact List.getElem_mem h
theorem Qo3 {m : Nat → Option Obj} {v : Value} {ol : List IL} (h : OrdR m v ol) : ol.length = 8 ∧ ∀ i, (ol.getD i Pq).2 = Qc1.getD i [] := by
 obtain ⟨_, _, e⟩ := h
 have hl := congrArg List.length e
 rw [List.length_map] at hl
 refine ⟨hl, fun i => ?_⟩
 rw [← e, List.getD_eq_getElem?_getD, List.getD_eq_getElem?_getD, List.getElem?_map]
 cases ol[i]? <;> rfl
theorem Qea {m : Nat → Option Obj} {v : Value} {ol : List IL} (h : OrdR m v ol) {i : Nat} (hi : i < 8) : Rd m i64 (ilv (ol.getD i Pq)) (ol.getD i Pq).2 := h.2.1 _ (Qrt (by have := (Qo3 h).1; omega))
theorem OrdR.mono {m m' : Nat → Option Obj} {v : Value} {ol : List IL} (h : OrdR m v ol) (hm : ∀ b o, m b = some o → m' b = some o) : OrdR m' v ol := ⟨h.1.mono hm, fun a ha => (h.2.1 a ha).mono hm, h.2.2⟩
def Qf0 (key : Xg) : Nat → List (BitVec 32)
 | 0 => [1634760805#32, 857760878#32, 2036477234#32, 1797285236#32]
 | k + 1 => Qf0 key k ++ [Yq (U2 key (4 * k) 4)]
def begN (s : List (BitVec 32)) (nz : Xg) : Nat → List (BitVec 32)
 | 0 => s
 | k + 1 => begN s nz k ++ [Yq (U2 nz (4 * k) 4)]
theorem Qjt (key : Xg) : ∀ k, (Qf0 key k).length = 4 + k
 | 0 => rfl
 | k + 1 => by show (Qf0 key k ++ [_]).length = 4 + (k + 1); rw [List.length_append, Qjt]; rfl
theorem Qn7 (s : List (BitVec 32)) (nz : Xg) : ∀ k, (begN s nz k).length = s.length + k
 | 0 => rfl
 | k + 1 => by show (begN s nz k ++ [_]).length = s.length + (k + 1); rw [List.length_append, Qn7]; rfl
theorem begK_0 (key : Xg) : Qf0 key 0 = [1634760805#32, 857760878#32, 2036477234#32, 1797285236#32] := rfl
theorem begK_S (key : Xg) (k : Nat) : Qf0 key (k + 1) = Qf0 key k ++ [Yq (U2 key (4 * k) 4)] := rfl
theorem begN_0 (s : List (BitVec 32)) (nz : Xg) : begN s nz 0 = s := rfl
theorem begN_S (s : List (BitVec 32)) (nz : Xg) (k : Nat) : begN s nz (k + 1) = begN s nz k ++ [Yq (U2 nz (4 * k) 4)] := rfl
theorem qK_0 (s : List (BitVec 32)) : qK s 0 = s := rfl
theorem setQ_0 (v q : List (BitVec 32)) (i : Nat) : setQ v q i 0 = v := rfl
theorem setQ_S (v q : List (BitVec 32)) (i k : Nat) : setQ v q i (k + 1) = (setQ v q i k).set (oN i k) (q.getD k 0) := rfl
theorem oN_eq (i j : Nat) : ((Qc1.getD i []).getD j 0).toNat = oN i j := rfl
theorem Qqk {l : Xg} {X Y : Int} {k : Nat} (hX : X = ((4 * k : Nat) : Int)) (hY : Y = X + 4) : (l.drop X.toNat).take (Y.toNat - X.toNat) = U2 l (4 * k) 4 := by
 unfold U2; subst hY hX; congr 1; omega
theorem begR_eq {key nz : Xg} {cr : BitVec 32} : begN (Qf0 key 8 ++ [cr]) nz 3 = Y5 Yq key cr nz := rfl
theorem Qfz (key : Xg) (cr : BitVec 32) (nz : Xg) : (Y5 Yq key cr nz).length = 16 := rfl
theorem Qrf (s : List (BitVec 32)) : Yu Ud 0 s = s := rfl
theorem Qre (k : Nat) (s : List (BitVec 32)) : Yu Ud (k + 1) s = qK (Yu Ud k s) 8 := rfl
theorem Qaj (k : Nat) (s : List (BitVec 32)) (h : s.length = 16) : (Yu Ud k s).length = 16 := by
 induction k with
 | zero => exact h
 | succ k ih => exact Qn0 _ ih
def C9 (v s : List (BitVec 32)) (i : Nat) : Xg :=
 [(v.getD i 0 + s.getD i 0).setWidth 8, ((v.getD i 0 + s.getD i 0) >>> 8).setWidth 8, ((v.getD i 0 + s.getD i 0) >>> 16).setWidth 8, ((v.getD i 0 + s.getD i 0) >>> 24).setWidth 8]
theorem Am (v s : List (BitVec 32)) (k : Nat) : ((List.range k).flatMap (C9 v s)).length = 4 * k := by
 induction k with
 | zero => rfl
 | succ k ih => rw [List.range_succ, List.flatMap_append, List.length_append, ih]; simp [C9]; omega
theorem Qcw (v s : List (BitVec 32)) (k : Nat) : (List.range (k + 1)).flatMap (C9 v s) = (List.range k).flatMap (C9 v s) ++ C9 v s k := by
 rw [List.range_succ, List.flatMap_append]; simp
def F7 (key : Xg) (cr : BitVec 32) (nz : Xg) : Xg :=
 (List.range 16).flatMap (C9 (Yu Ud 10 (Y5 Yq key cr nz)) (Y5 Yq key cr nz))
@[simp] theorem blockR_length (key : Xg) (cr : BitVec 32) (nz : Xg) : (F7 key cr nz).length = 64 := by
 unfold F7; rw [Am]
theorem Qgy (va vb : Value) (la lb : Xg) (w0 : World)  (hra : Rd (Jl w0) u8 va la) (hrb : Rd (Jl w0) u8 vb lb) (hla : la.length ≤ 281474976710656) : X9 prog 15 #[va, vb] w0 (fun r w1 => r = (bl (la == lb)) ∧ Ext w0 w1) := by
 refine Zb (args := [va, vb]) func15 rfl ntmps15 results15 rfl ?_
 have m0 : Mem w0 (Qu w0) [] := Mem.of_world w0
 refine sR <| Zz (bl false) ?_
 refine rN (Qa (sR ?_))
 refine Zp va <| Qd (Yl (Rd.ofRest hra m0) Zu rfl) <| Zp vb <| Qd (Yl (Rd.ofRest hrb m0) Zu rfl) <| Qd (Jw rfl rfl) <| rN ?_
 refine Z8 rfl (fun hc1 => ?_) (fun hc1 => ?_)
 ·
  have hc1p := bne_iff_ne.1 hc1
  refine sR <| Zz (bl false) ?_
  refine rN (Xb (Y3 ?_))
  refine Qv [(bl false)] ⟨rfl, trivial⟩ ?_
  exact ⟨congrArg bl (Qm3 hc1p), m0.toExt⟩
 ·
  have hc1p := X0 hc1
  refine Qs (Qc (Qa (sR ?_)))
  refine Zz (i64 0) ?_
  refine rN (Qk ?_)
  refine Y7 (fun g wv => ∃ (k : Nat), (k ≤ la.length) ∧ (∀ j, j < k → la.getD j 0 = lb.getD j 0) ∧ g 0 = va ∧ g 1 = vb ∧ g 5 = (i64 (k : Int)) ∧ g 10 = (bl ((la.length : Int) != (lb.length : Int))) ∧ Mem wv (Qu w0) []) (fun g wv => ((la.length : Int) - RowKit.intOf (g 5)).toNat) ?_ ?_
  ·exact ⟨0, oM, (by intro j hj; omega), rfl, rfl, rfl, rfl, m0⟩
  rintro fr2 w3 ⟨k, hk, heq, s0, s1, s5, s10, m3⟩
  have z5 := s5
  refine Qa (sR ?_)
  refine Ya s5 <| Ya s0 <| Qd (Yl (Rd.ofRest hra m3) Zu rfl) <| Qd (Z9 rfl rfl) <| rN ?_
  refine Z8 rfl (fun hc4 => ?_) (fun hc4 => ?_)
  ·
   have hc4p := of_decide_eq_true hc4
   refine Qs (Qc (Qa (Qk (Qa ?_))))
   refine Xl (dl 8) 8 Xw <| Um rfl s0 <| Um rfl s5 <| Yn rfl (fun _ e' => Zw (Rd.ofRest hra (m3.ext e')) Zu Y0 rfl rfl oM sD) <| Yn (v := (u8 (la.getD k 0))) rfl (fun _ e' => X8 (l := la) (i := (k : Int)) (dflt := 0) (Rd.ofRest hra (m3.ext e')) Gl rfl oM sD rfl) <| Um rfl s1 <| Um rfl s5 <| Yn rfl (fun _ e' => Zw (Rd.ofRest hrb (m3.ext e')) Zu Y0 rfl rfl oM sD) <| Yn (v := (u8 (lb.getD k 0))) rfl (fun _ e' => X8 (l := lb) (i := (k : Int)) (dflt := 0) (Rd.ofRest hrb (m3.ext e')) Gl rfl oM sD rfl) <| Gs m3 fun w5 m5 => Qd (Qry rfl rfl) <| rN ?_
   refine Z8 rfl (fun hc6 => ?_) (fun hc6 => ?_)
   ·
    have hc6p := bne_iff_ne.1 hc6
    refine sR <| Zz (bl false) ?_
    refine rN (Xb ?_)
    refine La (Y3 (La ?_))
    refine Qv [(bl false)] ⟨rfl, trivial⟩ ?_
    exact ⟨congrArg bl (same_at hc6p), m5.toExt⟩
   ·
    have hc6p := X0 hc6
    refine Qs (Qh (Qb ?_))
    refine Ya s5 <| Qd (Zg (b := 1) rfl rfl oM oM) <| Zz (i64 ((k : Int) + 1)) <| rN ?_
    exact ⟨⟨k + 1, oM, (Qrb heq hc6p), s0, s1, rfl, s10, m5⟩, Uo rfl z5 oM oM⟩
  ·
   have hc4p := of_decide_eq_false hc4
   refine X6 ?_
   refine Qm (Qm (Xi ?_))
   refine sR <| Zz (bl true) ?_
   refine rN (Xb ?_)
   refine Qv [(bl true)] ⟨rfl, trivial⟩ ?_
   exact ⟨congrArg bl (same_all hc1p (fun j hj => heq j oM)), m3.toExt⟩
theorem c_order  (w0 : World)   : X9 prog 108 #[] w0 (fun r w1 => ∃ b1 b2 b3 b4 b5 b6 b7 b8 b9, r = Wq b9 0 8 8 ∧ Mem w1 (Qu w0) [(b9, .cells #[(Wq b1 0 4 4), (Wq b2 0 4 4), (Wq b3 0 4 4), (Wq b4 0 4 4), (Wq b5 0 4 4), (Wq b6 0 4 4), (Wq b7 0 4 4), (Wq b8 0 4 4)] 83 (0, 0)), (b8, .cells (cl i64 ([3, 4, 9, 14])) 3 (0, 0)), (b7, .cells (cl i64 ([2, 7, 8, 13])) 3 (0, 0)), (b6, .cells (cl i64 ([1, 6, 11, 12])) 3 (0, 0)), (b5, .cells (cl i64 ([0, 5, 10, 15])) 3 (0, 0)), (b4, .cells (cl i64 ([3, 7, 11, 15])) 3 (0, 0)), (b3, .cells (cl i64 ([2, 6, 10, 14])) 3 (0, 0)), (b2, .cells (cl i64 ([1, 5, 9, 13])) 3 (0, 0)), (b1, .cells (cl i64 ([0, 4, 8, 12])) 3 (0, 0))]) := by
 refine Zb (args := []) func108 rfl ntmps108 results108 rfl ?_
 have m0 : Mem w0 (Qu w0) [] := Mem.of_world w0
 refine sR <| Zz Yj ?_
 refine rN (sR ?_)
 refine Y9 (Qw i64 [0, 4, 8, 12] Z4 m0 Qcq U0 rfl rfl rfl) fun w1 b1 m1 => Y9 (Qw i64 [1, 5, 9, 13] Z4 m1 Qcq U0 rfl rfl rfl) fun w2 b2 m2 => Y9 (Qw i64 [2, 6, 10, 14] Z4 m2 Qcq U0 rfl rfl rfl) fun w3 b3 m3 => Y9 (Qw i64 [3, 7, 11, 15] Z4 m3 Qcq U0 rfl rfl rfl) fun w4 b4 m4 => Y9 (Qw i64 [0, 5, 10, 15] Z4 m4 Qcq U0 rfl rfl rfl) fun w5 b5 m5 => Y9 (Qw i64 [1, 6, 11, 12] Z4 m5 Qcq U0 rfl rfl rfl) fun w6 b6 m6 => Y9 (Qw i64 [2, 7, 8, 13] Z4 m6 Qcq U0 rfl rfl rfl) fun w7 b7 m7 => Y9 (Qw i64 [3, 4, 9, 14] Z4 m7 Qcq U0 rfl rfl rfl) fun w8 b8 m8 => Y9 (Ku [(Wq b1 0 4 4), (Wq b2 0 4 4), (Wq b3 0 4 4), (Wq b4 0 4 4), (Wq b5 0 4 4), (Wq b6 0 4 4), (Wq b7 0 4 4), (Wq b8 0 4 4)] (by simp [Wq, ptr, Value.oneCell', i64, u8, u32, u64, bl]) m8 Qkj ti83 rfl rfl rfl) fun w9 b9 m9 => ?_
 have m9 : Mem w9 (Qu w0) [(b9, .cells #[(Wq b1 0 4 4), (Wq b2 0 4 4), (Wq b3 0 4 4), (Wq b4 0 4 4), (Wq b5 0 4 4), (Wq b6 0 4 4), (Wq b7 0 4 4), (Wq b8 0 4 4)] 83 (0, 0)), (b8, .cells (cl i64 ([3, 4, 9, 14])) 3 (0, 0)), (b7, .cells (cl i64 ([2, 7, 8, 13])) 3 (0, 0)), (b6, .cells (cl i64 ([1, 6, 11, 12])) 3 (0, 0)), (b5, .cells (cl i64 ([0, 5, 10, 15])) 3 (0, 0)), (b4, .cells (cl i64 ([3, 7, 11, 15])) 3 (0, 0)), (b3, .cells (cl i64 ([2, 6, 10, 14])) 3 (0, 0)), (b2, .cells (cl i64 ([1, 5, 9, 13])) 3 (0, 0)), (b1, .cells (cl i64 ([0, 4, 8, 12])) 3 (0, 0))] := m9
 refine Zz (Wq b9 0 8 8) ?_
 refine rN (Xb ?_)
 refine Qv [(Wq b9 0 8 8)] ⟨rfl, trivial⟩ ?_
 exact ⟨b1, b2, b3, b4, b5, b6, b7, b8, b9, rfl, m9⟩
theorem c_order2 (w0 : World) : X9 prog 108 #[] w0 (fun r w1 => ∃ ol Hs, (∀ m : Nat → Option Obj, (∀ q ∈ Hs, m q.1 = some q.2) → OrdR m r ol) ∧ Mem w1 (Qu w0) Hs) := by
 refine (c_order w0).mono ?_
 rintro r w1 ⟨b1, b2, b3, b4, b5, b6, b7, b8, b9, rfl, hm⟩
 refine ⟨([((some (Addr.mk b1 0 none), 4, 4), [0, 4, 8, 12]), ((some (Addr.mk b2 0 none), 4, 4), [1, 5, 9, 13]), ((some (Addr.mk b3 0 none), 4, 4), [2, 6, 10, 14]), ((some (Addr.mk b4 0 none), 4, 4), [3, 7, 11, 15]), ((some (Addr.mk b5 0 none), 4, 4), [0, 5, 10, 15]), ((some (Addr.mk b6 0 none), 4, 4), [1, 6, 11, 12]), ((some (Addr.mk b7 0 none), 4, 4), [2, 7, 8, 13]), ((some (Addr.mk b8 0 none), 4, 4), [3, 4, 9, 14])] : List IL), _, fun m h => ⟨?_, ?_, rfl⟩, hm⟩
 ·refine RdK.mk' (k := 1) (l := ([((some (Addr.mk b1 0 none), 4, 4), [0, 4, 8, 12]), ((some (Addr.mk b2 0 none), 4, 4), [1, 5, 9, 13]), ((some (Addr.mk b3 0 none), 4, 4), [2, 6, 10, 14]), ((some (Addr.mk b4 0 none), 4, 4), [3, 7, 11, 15]), ((some (Addr.mk b5 0 none), 4, 4), [0, 5, 10, 15]), ((some (Addr.mk b6 0 none), 4, 4), [1, 6, 11, 12]), ((some (Addr.mk b7 0 none), 4, 4), [2, 7, 8, 13]), ((some (Addr.mk b8 0 none), 4, 4), [3, 4, 9, 14])] : List IL)) (fun a _ => rfl) (Nat.le_refl _) (h _ (List.Mem.head _)) (fun i hi q hq => ?_)
  obtain rfl : q = 0 := by omega
  have hi : i < 8 := hi
  have : i = 0 ∨ i = 1 ∨ i = 2 ∨ i = 3 ∨ i = 4 ∨ i = 5 ∨ i = 6 ∨ i = 7 := by omega
  rcases this with rfl | rfl | rfl | rfl | rfl | rfl | rfl | rfl <;> rfl
 intro a ha
 simp only [List.mem_cons, List.not_mem_nil, or_false] at ha
 rcases ha with rfl | rfl | rfl | rfl | rfl | rfl | rfl | rfl
 ·exact Rd.mkA (f := i64) (h (b1, .cells (cl i64 [0, 4, 8, 12]) 3 (0, 0)) X7)
 ·exact Rd.mkA (f := i64) (h (b2, .cells (cl i64 [1, 5, 9, 13]) 3 (0, 0)) X7)
 ·exact Rd.mkA (f := i64) (h (b3, .cells (cl i64 [2, 6, 10, 14]) 3 (0, 0)) X7)
 ·exact Rd.mkA (f := i64) (h (b4, .cells (cl i64 [3, 7, 11, 15]) 3 (0, 0)) X7)
 ·exact Rd.mkA (f := i64) (h (b5, .cells (cl i64 [0, 5, 10, 15]) 3 (0, 0)) X7)
 ·exact Rd.mkA (f := i64) (h (b6, .cells (cl i64 [1, 6, 11, 12]) 3 (0, 0)) X7)
 ·exact Rd.mkA (f := i64) (h (b7, .cells (cl i64 [2, 7, 8, 13]) 3 (0, 0)) X7)
 exact Rd.mkA (f := i64) (h (b8, .cells (cl i64 [3, 4, 9, 14]) 3 (0, 0)) X7)
end Go.Proofs.YtkmiemlpfkfiiaaDoor
