/- Contracts: hash, fifth part. Conditions: none beyond those that each theorem states. -/
import Derived.Test.YtkmiemlpfkfiiaaDoorHa3
namespace Go.Proofs.YtkmiemlpfkfiiaaDoor
open BitVec renaming ofInt → aB
open List renaming append_assoc → aQ, append_nil → aZ, cons_append → aW, getD_eq_getElem?_getD → aI, length_map → bH, nil_append → aX, range → bP, replicate → aA
open Mem renaming addRest → bV, back → dJ, give → dI, new → bY, of_world → aY, pick → aC, pick2 → aN, pick4 → dO
open Rd renaming ofRest → aK
open Tryd
section
set_option linter.unusedVariables false
set_option linter.unusedSimpArgs false
attribute [local irreducible] Dc U1 hAt Qhu
set_option maxHeartbeats 4000000 in
theorem c_hsum (vb : Value) (l : Z4) (w0 : World)  (hT : Tabs (Jd w0)) (hr : Rd (Jd w0) u8 vb l) (hl : l.length ≤ 35184372088832) : Xz prog 88 #[vb] w0 (fun r w1 => r = (agg u8 (U1 l)) ∧ Ext w0 w1) := by
 refine Qz (args := [vb]) func88 rfl ntmps88 results88 rfl ?_
 have m0 : Mem w0 (Qs w0) [] := aY w0
 refine sR <| Y5 (Q7 m0 Zh) fun w1 b2 m1 => ?_
 refine rN (sR ?_)
 refine Vr (oc84 (Qpx) (c_hnew _ (hT.mono fun b o e => (m1).rest b o e))) ?_
 rintro _ w2 ⟨bq3, rfl, k_w2⟩
 have m2 : Mem _ _ [_, _] := bY (H := [_]) (H' := [(bq3, .cells #[(u32 1779033703#32), (u32 3144134277#32), (u32 1013904242#32), (u32 2773480762#32), (u32 1359893119#32), (u32 2600822924#32), (u32 528734635#32), (u32 1541459225#32), J3, (u64 0#64)] 154 (0, 0))]) m1 k_w2
 refine Zx (ptr bq3 0) ?_
 refine rN (sR ?_)
 refine Zm (ptr bq3 0) <| Zm vb ?_
 have hF5 : Mem w2 (Qs w0) (([(bq3, .cells #[(u32 1779033703#32), (u32 3144134277#32), (u32 1013904242#32), (u32 2773480762#32), (u32 1359893119#32), (u32 2600822924#32), (u32 528734635#32), (u32 1541459225#32), J3, (u64 0#64)] 154 (0, 0))] ++ ([] ++ ([]))) ++ ([(b2, .cells (cl u8 (aA 32 0)) 23 (0, 0))])) := by
  have hT := m2
  try simp only [aQ, aW, aX, aZ] at hT ⊢
  exact hT
 refine Vr (oc85 (Xl rfl rfl) (Qi4 bq3 1779033703#32 3144134277#32 1013904242#32 2773480762#32 1359893119#32 2600822924#32 528734635#32 1541459225#32 J3 ([]) ([]) 0#64 vb l _ _ (dI hF5) (hT.mono fun b o e => bV hF5 e) (Rd.addRest hF5 hr) (Z9.none u8 5) sD)) ?_
 rintro _ w4 ⟨y0q6, y1q6, y2q6, y3q6, y4q6, y5q6, y6q6, y7q6, sv2q6, Hs2q6, hyq6, gl2q6, k_w4⟩
 have m4 : Mem w4 (Qs w0) ([(bq3, .cells #[(u32 y0q6), (u32 y1q6), (u32 y2q6), (u32 y3q6), (u32 y4q6), (u32 y5q6), (u32 y6q6), (u32 y7q6), sv2q6, (u64 (0#64 + aB 64 (l.length : Int)))] 154 (0, 0))] ++ (Hs2q6 ++ ([(b2, .cells (cl u8 (aA 32 0)) 23 (0, 0))]))) := ymA (dJ hF5 k_w4)
 refine rN (sR ?_)
 refine Zm (ptr bq3 0) <| U5 m4 (oc87 (Jz rfl) (c_dsum bq3 y0q6 y1q6 y2q6 y3q6 y4q6 y5q6 y6q6 y7q6 sv2q6 ((([]) ++ l).drop (64 * ((([]) ++ l).length / 64))) (0#64 + aB 64 (l.length : Int)) _ (hT.mono fun b o e => (m4).rest b o e) m4.h0 (gl2q6.rd (aC [_] Hs2q6 _ m4)) (by simp; omega))) fun w7 m7 => Vd (Qg (f := u8) (l := Dc [y0q6, y1q6, y2q6, y3q6, y4q6, y5q6, y6q6, y7q6] ((([]) ++ l).drop (64 * ((([]) ++ l).length / 64))) (0#64 + aB 64 (l.length : Int))) Qr Zh rfl rfl sD ((aN [_] Hs2q6 [_] _ m7)).h0 sZ rfl) ?_
 rintro _ w9 uq9
 have m9 : Mem _ _ ([_, _] ++ (Hs2q6 ++ ([]))) := Mem.upd0 (aN [_] Hs2q6 [_] _ m7) uq9
 refine rN (Z8 ?_)
 refine Qq [(agg u8 (Dc [y0q6, y1q6, y2q6, y3q6, y4q6, y5q6, y6q6, y7q6] ((([]) ++ l).drop (64 * ((([]) ++ l).length / 64))) (0#64 + aB 64 (l.length : Int))))] ⟨⟨_, rfl, Xm Xn rfl Zh m9.h0 sZ⟩, trivial⟩ ?_
 exact ⟨congrArg (agg u8) (sum_told hyq6), m9.toExt⟩
end --m
section
set_option linter.unusedVariables false
set_option linter.unusedSimpArgs false
theorem Qpc (h : List (BitVec 32)) (l p : Z4) : ∀ m, 64 * m ≤ l.length → hAt h (l ++ p) m = hAt h l m := by
 intro m
 induction m with
 | zero => intro _; rfl
 | succ m ih =>
  intro hm
  simp only [hAt]
  rw [ih oM]
  congr 1
  rw [List.drop_append_of_le_length oM, List.take_append_of_le_length (by simp; omega)]
theorem Qsl (h : List (BitVec 32)) (l : Z4) (q : Nat) : ∀ m, hAt (hAt h l q) (l.drop (64 * q)) m = hAt h l (q + m) := by
 intro m
 induction m with
 | zero => rfl
 | succ m ih =>
  rw [← Nat.add_assoc]
  simp only [hAt]
  rw [ih, List.drop_drop]
  congr 4; omega
structure Holds (M : Z4) (hs : List (BitVec 32)) (ll : Z4) (n : BitVec 64) : Prop where
 words : hs = hAt Qb9 M (M.length / 64)
 left : ll = M.drop (64 * (M.length / 64))
 size : n = 0#64 + aB 64 (M.length : Int)
theorem Holds.new : Holds [] [1779033703#32, 3144134277#32, 1013904242#32, 2773480762#32, 1359893119#32, 2600822924#32, 528734635#32, 1541459225#32] [] 0#64 := ⟨rfl, rfl, rfl⟩
theorem Holds.lt {M ll : Z4} {hs : List (BitVec 32)} {n : BitVec 64} (h : Holds M hs ll n) : ll.length < 64 := by rw [h.left]; simp; omega
theorem Holds.write {M ll p : Z4} {hs ys : List (BitVec 32)} {n : BitVec 64} (h : Holds M hs ll n) (hy : ys = hAt hs (ll ++ p) ((ll ++ p).length / 64)) :
  Holds (M ++ p) ys ((ll ++ p).drop (64 * ((ll ++ p).length / 64))) (n + aB 64 (p.length : Int)) := by
 obtain ⟨rfl, rfl, rfl⟩ := h
 have e0 : M.drop (64 * (M.length / 64)) ++ p = (M ++ p).drop (64 * (M.length / 64)) := by rw [List.drop_append_of_le_length oM]
 have e1 : (M.drop (64 * (M.length / 64)) ++ p).length = M.length + p.length - 64 * (M.length / 64) := by simp; omega
 have e2 : M.length / 64 + (M.drop (64 * (M.length / 64)) ++ p).length / 64 = (M ++ p).length / 64 := by rw [e1]; simp; omega
 refine ⟨?_, ?_, ?_⟩
 ·rw [hy, ← e2, ← Qpc Qb9 M p (M.length / 64) oM, e0, Qsl]
 ·rw [← e2]
  generalize (M.drop (64 * (M.length / 64)) ++ p).length / 64 = q
  rw [e0, List.drop_drop]; congr 1; omega
 rw [BitVec.add_assoc, ← BitVec.ofInt_add]; simp
theorem Holds.sum {M ll : Z4} {hs : List (BitVec 32)} {n : BitVec 64} (h : Holds M hs ll n) : Dc hs ll n = U1 M := by
 obtain ⟨rfl, rfl, rfl⟩ := h; rfl
def Qa0 (key : Z4) : Z4 := if 64 < key.length then U1 key else key
theorem Qi0 (key : Z4) : (Qa0 key).length ≤ 64 := by
 unfold Qa0; split
 ·simp
 omega
def Va (key : Z4) (bb : BitVec 8) : Z4 := (Qa0 key ++ aA (64 - (Qa0 key).length) 0).map (· ^^^ bb)
@[simp] theorem Qde (key : Z4) (bb : BitVec 8) : (Va key bb).length = 64 := by have := Qi0 key; simp [Va]; omega
def Xc (key b : Z4) : Z4 := U1 (Va key 92#8 ++ U1 (Va key 54#8 ++ b))
@[simp] theorem V6 (key b : Z4) : (Xc key b).length = 32 := Qn7 _
def U7 {α : Type} (g : Nat → α) (l : List α) (k : Nat) : List α := (bP k).map g ++ l.drop k
theorem Qes {α : Type} (g : Nat → α) (l : List α) : U7 g l 0 = l := by simp [U7]
theorem Qct {α : Type} (g : Nat → α) (l : List α) (k : Nat) (h : k ≤ l.length) : (U7 g l k).length = l.length := by simp [U7]; omega
theorem Qf8 {α : Type} (g : Nat → α) (l : List α) (k : Nat) (z : α) : (U7 g l k).getD k z = l.getD k z := by
 simp [U7, aI, List.getElem?_append_right]
theorem Qf7 {α : Type} (g : Nat → α) (l : List α) (k : Nat) (h : k < l.length) (x : α) (hx : x = g k) : (U7 g l k).set k x = U7 g l (k + 1) := by
 subst hx
 unfold U7
 rw [List.set_append_right _ _ Ya, List.range_succ, List.map_append, List.drop_eq_getElem_cons h]
 simp only [bH, List.length_range, Nat.sub_self, List.set_cons_zero, List.map_cons, List.map_nil, aQ, aW, aX]
theorem Qm3 {α : Type} (g : Nat → α) (l : List α) : U7 g l l.length = (bP l.length).map g := by simp [U7]
theorem Qoz {α β : Type} (f : α → β) (l : List α) (z : α) : (bP l.length).map (fun i => f (l.getD i z)) = l.map f := by
 refine List.ext_getElem Ya fun i h1 h2 => ?_
 simp only [bH, List.length_range] at h1
 simp [aI, h1]
theorem Qlt {key M : Z4} {bb : BitVec 8} (hM : Qa0 key = M) : U7 (fun i => (M ++ (aA 64 0).drop M.length).getD i 0 ^^^ bb) (M ++ (aA 64 0).drop M.length) 64 = Va key bb := by
 have hle := Qi0 key
 rw [hM] at hle
 have e : (M ++ (aA 64 (0 : BitVec 8)).drop M.length).length = 64 := by simp; omega
 have h2 := Qm3 (fun i => (M ++ (aA 64 (0 : BitVec 8)).drop M.length).getD i 0 ^^^ bb) (M ++ (aA 64 (0 : BitVec 8)).drop M.length)
 rw [e] at h2
 rw [h2]
 have h3 := Qoz (fun x => x ^^^ bb) (M ++ (aA 64 (0 : BitVec 8)).drop M.length) 0
 rw [e] at h3
 rw [h3]
 unfold Va
 rw [hM, List.drop_replicate]
def Vm (ps : List (Value × Z4)) : Z4 := ps.flatMap (·.2)
theorem Qj7 (ps : List (Value × Z4)) (k : Nat) (h : k < ps.length) : Vm (ps.take (k + 1)) = Vm (ps.take k) ++ (ps.getD k (undef, [])).2 := by
 unfold Vm
 rw [List.take_add_one, List.flatMap_append]
 simp [aI, h]
theorem joinL_le (ps : List (Value × Z4)) (k : Nat) : (ps.getD k (undef, [])).2.length ≤ (Vm ps).length := by
 by_cases h : k < ps.length
 ·have := Qj7 ps k h
  have h2 : Vm ps = Vm (ps.take (k + 1)) ++ Vm (ps.drop (k + 1)) := by unfold Vm; rw [← List.flatMap_append, List.take_append_drop]
  rw [h2, this]; simp; omega
 simp [aI, Nat.le_of_not_lt h]
theorem getD_in {α : Type} {ps : List α} {k : Nat} {z : α} (h : k < ps.length) : ps.getD k z ∈ ps := by
 simp [aI, h]
attribute [local irreducible] Dc U1 hAt Qhu
theorem Qpr (vb : Value) (l : Z4) (bb : BitVec 8) (w0 : World)  (hT : Tabs (Jd w0)) (hr : Rd (Jd w0) u8 vb l) (hl : l.length ≤ 35184372088832) : Xz prog 86 #[vb, (u8 bb)] w0 (fun r w1 => ∃ b, r = Wi b 0 (Va l bb).length (Va l bb).length ∧ Mem w1 (Qs w0) [(b, .cells (cl u8 (Va l bb)) 5 (0, 0))]) := by
 refine Qz (args := [vb, (u8 bb)]) func86 rfl ntmps86 results86 rfl ?_
 have m0 : Mem w0 (Qs w0) [] := aY w0
 refine sR <| Zx J3 ?_
 refine rN (Qa (sR ?_))
 refine Zm vb <| Qd (Yi (aK hr m0) Zn rfl) <| Qd (G7 (b := 64) rfl rfl) <| rN ?_
 refine Zz rfl (fun hc1 => ?_) (fun hc1 => ?_)
 ·
  have hc1p := of_decide_eq_true hc1
  refine sR <| Zm vb <| U5 m0 (oc88 (Jz rfl) (c_hsum vb l _ (hT.mono fun b o e => (m0).rest b o e) (aK hr m0) sD)) fun w2 m2 => Y5 (Q7 m2 Zh) fun w4 b5 m4 => Ye m4 (Qg (f := u8) (l := U1 l) Qr Zh rfl rfl sD m4.h0 sZ rfl) fun w5 m5 => ?_
  refine rN (Qb ?_)
  refine Qd (Xj (i := 0) (j := 32) Xn Yr rfl (Zd _ _) (Zd _ _) oM sD sD) <| Zx (sla b5 0 1 0 32 32) ?_
  refine rN (sR ?_)
  refine Y5 (Az m5 Zn Yr rfl rfl oM oM oM oM) fun w6 b14 m6 => ?_
  rw [Tz u8 0 rfl] at m6
  have m6 : Mem w6 (Qs w0) [(b14, .cells (cl u8 (aA 64 (0 : BitVec 8))) 5 (0, 0)), (b5, .cells (cl u8 (U1 l)) 23 (0, 0))] := m6
  refine Zx (Wi b14 0 64 64) ?_
  refine rN (sR ?_)
  refine Zm (Wi b14 0 64 64) <| Zm (sla b5 0 1 0 32 32) <| Vr (Qe6 (f := u8) rfl rfl (Rd.slaAll m6.h1 sD) Zn Yr Qr m6.h0 sD sD (Nat.le_refl _)) ?_
  rintro _ w7 ⟨rfl, uq7⟩
  have m7 : Mem w7 (Qs w0) ([(b14, .cells (cl u8 ((U1 l) ++ (aA 64 (0 : BitVec 8)).drop (U1 l).length)) 5 (0, 0)), (b5, .cells (cl u8 (U1 l)) 23 (0, 0))]) := m6.upd0 uq7
  refine rN (Qa (Qa ?_))
  have hBl : ((U1 l) ++ (aA 64 (0 : BitVec 8)).drop (U1 l).length).length = 64 := by simp; try omega
  refine Qb <| Zm (Wi b14 0 64 64) <| Qd (Qd9 Zn rfl) <| Zm (i64 0) ?_
  refine rN (Qh ?_)
  refine Y1 (fun g wv => ∃ (k : Nat), (k ≤ 64) ∧ g 0 = (sla b5 0 1 0 32 32) ∧ g 1 = (u8 bb) ∧ g 4 = J3 ∧ g 5 = (ptr b5 0) ∧ g 6 = (Wi b14 0 64 64) ∧ g 10 = (bl (decide (64 < (l.length : Int)))) ∧ g 19 = (i64 64) ∧ g 20 = (i64 (k : Int)) ∧ Mem wv (Qs w0) ([(b14, .cells (cl u8 (U7 (fun i => ((U1 l) ++ (aA 64 (0 : BitVec 8)).drop (U1 l).length).getD i 0 ^^^ bb) ((U1 l) ++ (aA 64 (0 : BitVec 8)).drop (U1 l).length) k)) 5 (0, 0)), (b5, .cells (cl u8 (U1 l)) 23 (0, 0))])) (fun g wv => (64 - RowKit.intOf (g 20)).toNat) ?_ ?_
  ·exact ⟨0, oM, rfl, rfl, rfl, rfl, rfl, rfl, rfl, rfl, (by rw [Qes]; exact m7)⟩
  rintro fr8 w9 ⟨k, hk, s0, s1, s4, s5, s6, s10, s19, s20, m9⟩
  have z20 := s20
  have hol := Qct (fun i => ((U1 l) ++ (aA 64 (0 : BitVec 8)).drop (U1 l).length).getD i 0 ^^^ bb) ((U1 l) ++ (aA 64 (0 : BitVec 8)).drop (U1 l).length) k oM
  refine sR <| Qd (Xd (b := 64) s20 s19) ?_
  refine rN (Qa ?_)
  refine Zz rfl (fun hc10 => ?_) (fun hc10 => ?_)
  ·
   have hc10p := of_decide_eq_true hc10
   refine Qo (Qc (Qa (Qh (sR ?_))))
   refine X9 s20 <| Zx (i64 (k : Int)) ?_
   refine rN (Qb ?_)
   refine X9 s6 <| Zm (i64 (k : Int)) <| Qd (Qb0 (r := k) oM Zn Yr rfl rfl oM sD) <| Qd (Qi V3 rfl rfl m9.h0 (Qu _ _ 0 sD)) <| X9 s1 <| Qd (Nb rfl rfl) <| Qd (Qb0 (r := k) oM Zn Yr rfl rfl oM sD) <| Ye m9 (Xw (f := u8) (a := ((U7 (fun i => ((U1 l) ++ (aA 64 (0 : BitVec 8)).drop (U1 l).length).getD i 0 ^^^ bb) ((U1 l) ++ (aA 64 (0 : BitVec 8)).drop (U1 l).length) k).getD k 0) ^^^ bb) Qr Yr rfl rfl m9.h0 sD (.inl (Nat.zero_le _))) fun w11 m11 => ?_
   refine Zp (Qe (Qb ?_))
   refine Qd (Zg (b := 1) s20 rfl oM oM) <| Zm (i64 ((k : Int) + 1)) <| rN ?_
   exact ⟨⟨k + 1, oM, s0, s1, s4, s5, s6, s10, s19, rfl, (by rw [← Qf7 _ _ _ oM _ rfl, ← Qf8 (fun i => ((U1 l) ++ (aA 64 (0 : BitVec 8)).drop (U1 l).length).getD i 0 ^^^ bb) ((U1 l) ++ (aA 64 (0 : BitVec 8)).drop (U1 l).length) k 0]; exact m11)⟩, Uj rfl z20 oM oM⟩
  ·
   have hc10p := of_decide_eq_false hc10
   obtain rfl : k = 64 := by omega
   refine X3 ?_
   refine Qj (Qj (Xk ?_))
   refine sR <| X9 s6 <| Zx (Wi b14 0 64 64) ?_
   refine rN (Z8 ?_)
   refine Qq [(Wi b14 0 64 64)] ⟨rfl, trivial⟩ ?_
   have hK : Qa0 l = U1 l := by unfold Qa0; rw [if_pos oM]
   have hmk := Qlt (bb := bb) hK
   have m12 := Mem.drop [_] _ (aC [_] [_] _ m9)
   exact ⟨b14, by rw [Qde]; rfl, hmk ▸ m12⟩
 ·
  have hc1p := of_decide_eq_false hc1
  refine Qo (Qc (sR ?_))
  refine Y5 (Az m0 Zn Yr rfl rfl oM oM oM oM) fun w13 b14_1 m13 => ?_
  rw [Tz u8 0 rfl] at m13
  have m13 : Mem w13 (Qs w0) [(b14_1, .cells (cl u8 (aA 64 (0 : BitVec 8))) 5 (0, 0))] := m13
  refine Zx (Wi b14_1 0 64 64) ?_
  refine rN (sR ?_)
  refine Zm (Wi b14_1 0 64 64) <| Zm vb <| Vr (Qe6 (f := u8) rfl rfl (aK hr m13) Zn Yr Qr m13.h0 sD sD (Nat.le_refl _)) ?_
  rintro _ w14 ⟨rfl, uq14⟩
  have m14 : Mem w14 (Qs w0) ([(b14_1, .cells (cl u8 (l ++ (aA 64 (0 : BitVec 8)).drop l.length)) 5 (0, 0))]) := m13.upd0 uq14
  refine rN (Qa (Qa ?_))
  have hBl : (l ++ (aA 64 (0 : BitVec 8)).drop l.length).length = 64 := by simp; try omega
  refine Qb <| Zm (Wi b14_1 0 64 64) <| Qd (Qd9 Zn rfl) <| Zm (i64 0) ?_
  refine rN (Qh ?_)
  refine Y1 (fun g wv => ∃ (k : Nat), (k ≤ 64) ∧ g 0 = vb ∧ g 1 = (u8 bb) ∧ g 4 = J3 ∧ g 6 = (Wi b14_1 0 64 64) ∧ g 10 = (bl (decide (64 < (l.length : Int)))) ∧ g 19 = (i64 64) ∧ g 20 = (i64 (k : Int)) ∧ Mem wv (Qs w0) ([(b14_1, .cells (cl u8 (U7 (fun i => (l ++ (aA 64 (0 : BitVec 8)).drop l.length).getD i 0 ^^^ bb) (l ++ (aA 64 (0 : BitVec 8)).drop l.length) k)) 5 (0, 0))])) (fun g wv => (64 - RowKit.intOf (g 20)).toNat) ?_ ?_
  ·exact ⟨0, oM, rfl, rfl, rfl, rfl, rfl, rfl, rfl, (by rw [Qes]; exact m14)⟩
  rintro fr15 w16 ⟨k, hk, s0, s1, s4, s6, s10, s19, s20, m16⟩
  have z20 := s20
  have hol := Qct (fun i => (l ++ (aA 64 (0 : BitVec 8)).drop l.length).getD i 0 ^^^ bb) (l ++ (aA 64 (0 : BitVec 8)).drop l.length) k oM
  refine sR <| Qd (Xd (b := 64) s20 s19) ?_
  refine rN (Qa ?_)
  refine Zz rfl (fun hc17 => ?_) (fun hc17 => ?_)
  ·
   have hc17p := of_decide_eq_true hc17
   refine Qo (Qc (Qa (Qh (sR ?_))))
   refine X9 s20 <| Zx (i64 (k : Int)) ?_
   refine rN (Qb ?_)
   refine X9 s6 <| Zm (i64 (k : Int)) <| Qd (Qb0 (r := k) oM Zn Yr rfl rfl oM sD) <| Qd (Qi V3 rfl rfl m16.h0 (Qu _ _ 0 sD)) <| X9 s1 <| Qd (Nb rfl rfl) <| Qd (Qb0 (r := k) oM Zn Yr rfl rfl oM sD) <| Ye m16 (Xw (f := u8) (a := ((U7 (fun i => (l ++ (aA 64 (0 : BitVec 8)).drop l.length).getD i 0 ^^^ bb) (l ++ (aA 64 (0 : BitVec 8)).drop l.length) k).getD k 0) ^^^ bb) Qr Yr rfl rfl m16.h0 sD (.inl (Nat.zero_le _))) fun w18 m18 => ?_
   refine Zp (Qe (Qb ?_))
   refine Qd (Zg (b := 1) s20 rfl oM oM) <| Zm (i64 ((k : Int) + 1)) <| rN ?_
   exact ⟨⟨k + 1, oM, s0, s1, s4, s6, s10, s19, rfl, (by rw [← Qf7 _ _ _ oM _ rfl, ← Qf8 (fun i => (l ++ (aA 64 (0 : BitVec 8)).drop l.length).getD i 0 ^^^ bb) (l ++ (aA 64 (0 : BitVec 8)).drop l.length) k 0]; exact m18)⟩, Uj rfl z20 oM oM⟩
  ·
   have hc17p := of_decide_eq_false hc17
   obtain rfl : k = 64 := by omega
   refine X3 ?_
   refine Qj (Qj (Xk ?_))
   refine sR <| X9 s6 <| Zx (Wi b14_1 0 64 64) ?_
   refine rN (Z8 ?_)
   refine Qq [(Wi b14_1 0 64 64)] ⟨rfl, trivial⟩ ?_
   have hK : Qa0 l = l := by unfold Qa0; rw [if_neg oM]
   have hmk := Qlt (bb := bb) hK
   exact ⟨b14_1, by rw [Qde]; rfl, hmk ▸ m16⟩
set_option maxHeartbeats 1000000 in
theorem Qbj (vb : Value) (l : Z4) (vp : Value) (ps : List (Value × Z4)) (w0 : World)  (hT : Tabs (Jd w0)) (hr : Rd (Jd w0) u8 vb l) (hl : l.length ≤ 1099511627776) (hrp : Rd (Jd w0) Prod.fst vp ps) (hps : ∀ p ∈ ps, Rd (Jd w0) u8 p.1 p.2) (hpl : (Vm ps).length ≤ 1099511627776) (hpn : ps.length ≤ 1099511627776) : Xz prog 59 #[vb, vp] w0 (fun r w1 => r = (agg u8 (Xc l (Vm ps))) ∧ Ext w0 w1) := by
 refine Qz (args := [vb, vp]) func59 rfl ntmps59 results59 rfl ?_
 have m0 : Mem w0 (Qs w0) [] := aY w0
 refine sR <| Y5 (Q7 m0 Zh) fun w1 b4 m1 => ?_
 refine rN (sR ?_)
 refine Vr (oc84 (Qpx) (c_hnew _ (hT.mono fun b o e => (m1).rest b o e))) ?_
 rintro _ w2 ⟨bq3, rfl, k_w2⟩
 have m2 : Mem _ _ [_, _] := bY (H := [_]) (H' := [(bq3, .cells #[(u32 1779033703#32), (u32 3144134277#32), (u32 1013904242#32), (u32 2773480762#32), (u32 1359893119#32), (u32 2600822924#32), (u32 528734635#32), (u32 1541459225#32), J3, (u64 0#64)] 154 (0, 0))]) m1 k_w2
 refine Zx (ptr bq3 0) ?_
 refine rN (sR ?_)
 refine Zm (ptr bq3 0) <| Zm vb <| Vr (oc86 (Xl rfl rfl) (Qpr vb l 54#8 _ (hT.mono fun b o e => (m2).rest b o e) (aK hr m2) sD)) ?_
 rintro _ w4 ⟨bq5, rfl, k_w4⟩
 have m4 : Mem _ _ [_, _, _] := bY (H := [_, _]) (H' := [(bq5, .cells (cl u8 (Va l 54#8)) 5 (0, 0))]) m2 k_w4
 have hF7 : Mem w4 (Qs w0) (([(bq3, .cells #[(u32 1779033703#32), (u32 3144134277#32), (u32 1013904242#32), (u32 2773480762#32), (u32 1359893119#32), (u32 2600822924#32), (u32 528734635#32), (u32 1541459225#32), J3, (u64 0#64)] 154 (0, 0))] ++ ([] ++ ([]))) ++ ([(bq5, .cells (cl u8 (Va l 54#8)) 5 (0, 0)), (b4, .cells (cl u8 (aA 32 0)) 23 (0, 0))])) := by
  have hT := (aC [_] [_] _ m4)
  try simp only [aQ, aW, aX, aZ] at hT ⊢
  exact hT
 refine Vr (oc85 (Xl rfl rfl) (Qi4 bq3 1779033703#32 3144134277#32 1013904242#32 2773480762#32 1359893119#32 2600822924#32 528734635#32 1541459225#32 J3 ([]) ([]) 0#64 (Wi bq5 0 ((Va l 54#8).length) ((Va l 54#8).length)) (Va l 54#8) _ _ (dI hF7) (hT.mono fun b o e => bV hF7 e) (Rd.mkA (Mem.addOwn hF7 (List.Mem.head _))) (Z9.none u8 5) sD)) ?_
 rintro _ w6 ⟨y0q8, y1q8, y2q8, y3q8, y4q8, y5q8, y6q8, y7q8, sv2q8, Hs2q8, hyq8, gl2q8, k_w6⟩
 have m6 : Mem w6 (Qs w0) ([(bq3, .cells #[(u32 y0q8), (u32 y1q8), (u32 y2q8), (u32 y3q8), (u32 y4q8), (u32 y5q8), (u32 y6q8), (u32 y7q8), sv2q8, (u64 (0#64 + aB 64 ((Va l 54#8).length : Int)))] 154 (0, 0))] ++ (Hs2q8 ++ ([(bq5, .cells (cl u8 (Va l 54#8)) 5 (0, 0)), (b4, .cells (cl u8 (aA 32 0)) 23 (0, 0))]))) := ymA (dJ hF7 k_w6)
 have hH0 := Holds.new.write hyq8
 refine rN (Qa (sR ?_))
 refine Zm vp <| Qd (Yi (aK hrp m6) Qik rfl) <| Zm (i64 0) ?_
 refine rN (Qh ?_)
 refine Y1 (fun g wv => ∃ (k : Nat) (z0 z1 z2 z3 z4 z5 z6 z7 : BitVec 32) (sv3 : Value) (l3 : Z4) (Hs3 : List (Nat × Obj)) (nn : BitVec 64), (k ≤ ps.length) ∧ (Holds (Va l 54#8 ++ Vm (ps.take k)) [z0, z1, z2, z3, z4, z5, z6, z7] l3 nn) ∧ (Z9 u8 5 sv3 l3 Hs3) ∧ g 0 = vb ∧ g 1 = vp ∧ g 4 = (ptr b4 0) ∧ g 5 = (ptr bq3 0) ∧ g 14 = vp ∧ g 15 = (i64 (ps.length : Int)) ∧ g 16 = (i64 (k : Int)) ∧ Mem wv (Qs w0) ([(bq3, .cells #[(u32 z0), (u32 z1), (u32 z2), (u32 z3), (u32 z4), (u32 z5), (u32 z6), (u32 z7), sv3, (u64 nn)] 154 (0, 0))] ++ (Hs3 ++ ([(bq5, .cells (cl u8 (Va l 54#8)) 5 (0, 0)), (b4, .cells (cl u8 (aA 32 0)) 23 (0, 0))])))) (fun g wv => ((ps.length : Int) - RowKit.intOf (g 16)).toNat) ?_ ?_
 ·exact ⟨0, y0q8, y1q8, y2q8, y3q8, y4q8, y5q8, y6q8, y7q8, sv2q8, ((([]) ++ (Va l 54#8)).drop (64 * ((([]) ++ (Va l 54#8)).length / 64))), Hs2q8, (0#64 + aB 64 ((Va l 54#8).length : Int)), oM, (by simpa [Vm] using hH0), gl2q8, rfl, rfl, rfl, rfl, rfl, rfl, rfl, m6⟩
 rintro fr9 w10 ⟨k, z0, z1, z2, z3, z4, z5, z6, z7, sv3, l3, Hs3, nn, hk, hH, gl3, s0, s1, s4, s5, s14, s15, s16, m10⟩
 have z16 := s16
 have hlt := hH.lt
 have hpk := joinL_le ps k
 refine sR <| Qd (Xd s16 s15) ?_
 refine rN (Qa ?_)
 refine Zz rfl (fun hc11 => ?_) (fun hc11 => ?_)
 ·
  have hc11p := of_decide_eq_true hc11
  refine Qo (Qc (Qa (Qh (sR ?_))))
  refine Qd (Zo (aK hrp m10) Qik Qay s14 s16 oM sD) <| Qd (v := ((ps.getD k (undef, [])).1)) (Xy (l := ps) (i := (k : Int)) (dflt := (undef, [])) (aK hrp m10) Zn rfl oM sD rfl) <| Zx ((ps.getD k (undef, [])).1) ?_
  refine rN (Qb ?_)
  refine X9 s5 <| Zm ((ps.getD k (undef, [])).1) ?_
  have hF13 : Mem w10 (Qs w0) (([(bq3, .cells #[(u32 z0), (u32 z1), (u32 z2), (u32 z3), (u32 z4), (u32 z5), (u32 z6), (u32 z7), sv3, (u64 nn)] 154 (0, 0))] ++ (Hs3 ++ ([]))) ++ ([(bq5, .cells (cl u8 (Va l 54#8)) 5 (0, 0)), (b4, .cells (cl u8 (aA 32 0)) 23 (0, 0))])) := by
   have hT := (aC Hs3 [_] _ (aC [_] Hs3 _ m10))
   try simp only [aQ, aW, aX, aZ] at hT ⊢
   exact hT
  refine Vr (oc85 (Xl rfl rfl) (Qi4 bq3 z0 z1 z2 z3 z4 z5 z6 z7 sv3 l3 Hs3 nn ((ps.getD k (undef, [])).1) ((ps.getD k (undef, [])).2) _ _ (dI hF13) (hT.mono fun b o e => bV hF13 e) (Rd.addRest hF13 (hps _ (getD_in (z := (undef, [])) oM))) gl3 sD)) ?_
  rintro _ w12 ⟨y0q14, y1q14, y2q14, y3q14, y4q14, y5q14, y6q14, y7q14, sv2q14, Hs2q14, hyq14, gl2q14, k_w12⟩
  have m12 : Mem w12 (Qs w0) ([(bq3, .cells #[(u32 y0q14), (u32 y1q14), (u32 y2q14), (u32 y3q14), (u32 y4q14), (u32 y5q14), (u32 y6q14), (u32 y7q14), sv2q14, (u64 (nn + aB 64 (((ps.getD k (undef, [])).2).length : Int)))] 154 (0, 0))] ++ (Hs2q14 ++ ([(bq5, .cells (cl u8 (Va l 54#8)) 5 (0, 0)), (b4, .cells (cl u8 (aA 32 0)) 23 (0, 0))]))) := ymA (dJ hF13 k_w12)
  refine Zp (Qe (Qb ?_))
  refine Qd (Zg (b := 1) s16 rfl oM oM) <| Zm (i64 ((k : Int) + 1)) <| rN ?_
  have hHn := hH.write hyq14
  rw [aQ, ← Qj7 ps k oM] at hHn
  exact ⟨⟨k + 1, y0q14, y1q14, y2q14, y3q14, y4q14, y5q14, y6q14, y7q14, sv2q14, ((l3 ++ ((ps.getD k (undef, [])).2)).drop (64 * ((l3 ++ ((ps.getD k (undef, [])).2)).length / 64))), Hs2q14, (nn + aB 64 (((ps.getD k (undef, [])).2).length : Int)), oM, hHn, gl2q14, s0, s1, s4, s5, s14, s15, rfl, m12⟩, Uj rfl z16 oM oM⟩
 ·
  have hc11p := of_decide_eq_false hc11
  obtain rfl : k = ps.length := by omega
  rw [List.take_length] at hH
  have hlt := hH.lt
  refine X3 ?_
  refine Qj (Qj (Xk ?_))
  refine sR <| X9 s5 <| U5 m10 (oc87 (Jz rfl) (c_dsum bq3 z0 z1 z2 z3 z4 z5 z6 z7 sv3 l3 nn _ (hT.mono fun b o e => (m10).rest b o e) m10.h0 (gl3.rd (aC [_] Hs3 _ m10)) sD)) fun w15 m15 => Y5 (Q7 m15 Zh) fun w17 b8 m17 => Ye m17 (Qg (f := u8) (l := Dc [z0, z1, z2, z3, z4, z5, z6, z7] l3 nn) Qr Zh rfl rfl sD m17.h0 sZ rfl) fun w18 m18 => ?_
  refine rN (Qa ?_)
  refine Xi [(0, false), (2, false), (1, true)] 3 Xv <| Uh rfl s0 <| X4 rfl (Xj (i := 0) (j := 32) Xn Yr rfl (Zd _ _) (Zd _ _) oM sD sD) ?_
  refine C9 rfl rfl (fun w19 e19 => ?_)
  have m19 := m18.ext e19
  refine Vf.mono (oc86 (Xl rfl rfl) (Qpr vb l 92#8 _ (hT.mono fun b o e => (m19).rest b o e) (aK hr m19) sD)) ?_
  rintro _ w20 ⟨bq21, rfl, k_w20⟩
  refine ⟨k_w20.toExt, ?_⟩
  have m20 : Mem _ _ ([_, _, _] ++ (Hs3 ++ ([_, _]))) := bY (H := [_, _] ++ (Hs3 ++ ([_, _]))) (H' := [(bq21, .cells (cl u8 (Va l 92#8)) 5 (0, 0))]) m19 k_w20
  refine Gf m20 fun w22 m22 => Vr (Xh (f := u8) (Hs := [(bq21, .cells (cl u8 (Va l 92#8)) 5 (0, 0))]) (H := [_, _] ++ (Hs3 ++ ([_, _]))) m22 (Z9.of u8 5 bq21 (Va l 92#8)) rfl rfl (Rd.slaAll m22.h1 sD) Zn Zn Yr rfl Qr sD sD) ?_
  rintro sv23 w23 ⟨Hs23, m23, g23⟩
  replace g23 : Z9 u8 5 sv23 ((Va l 92#8) ++ (Dc [z0, z1, z2, z3, z4, z5, z6, z7] l3 nn)) Hs23 := g23
  refine U5 m23 (oc88 (Jz rfl) (c_hsum sv23 ((Va l 92#8) ++ (Dc [z0, z1, z2, z3, z4, z5, z6, z7] l3 nn)) _ (hT.mono fun b o e => (m23).rest b o e) (g23.rd m23) sD)) fun w24 m24 => Vd (Qg (f := u8) (l := U1 ((Va l 92#8) ++ (Dc [z0, z1, z2, z3, z4, z5, z6, z7] l3 nn))) Qr Zh s4 rfl sD ((dO Hs23 [_, _] Hs3 [_] [_] _ m24)).h0 sZ rfl) ?_
  rintro _ w26 uq26
  have m26 : Mem _ _ ([_] ++ (Hs23 ++ ([_, _] ++ (Hs3 ++ ([_]))))) := Mem.upd0 (dO Hs23 [_, _] Hs3 [_] [_] _ m24) uq26
  refine rN (Z8 ?_)
  refine Qq [(agg u8 (U1 ((Va l 92#8) ++ (Dc [z0, z1, z2, z3, z4, z5, z6, z7] l3 nn))))] ⟨⟨_, s4, Xm Xn rfl Zh m26.h0 sZ⟩, trivial⟩ ?_
  exact ⟨congrArg (agg u8) (by unfold Xc; rw [hH.sum]), m26.toExt⟩
end --m
end Go.Proofs.YtkmiemlpfkfiiaaDoor
