/- Contracts: hash, fifth part. Conditions: none beyond those that each theorem states. -/
import Derived.Test.YtkmiemlpfkfiiaaDoorHa4
namespace Go.Proofs.YtkmiemlpfkfiiaaDoor
set_option linter.unusedVariables false
set_option linter.unusedSimpArgs false
theorem Qj8 (h : List (BitVec 32)) (l p : List (BitVec 8)) : ∀ m, 64 * m ≤ l.length → hAt h (l ++ p) m = hAt h l m := by
 intro m
 induction m with
 | zero => intro _; rfl
 | succ m ih =>
  intro hm
  simp only [hAt]
  rw [ih oM]
  congr 1
  rw [List.drop_append_of_le_length oM, List.take_append_of_le_length (by simp; omega)]
theorem Qmv (h : List (BitVec 32)) (l : List (BitVec 8)) (q : Nat) : ∀ m, hAt (hAt h l q) (l.drop (64 * q)) m = hAt h l (q + m) := by
 intro m
 induction m with
 | zero => rfl
 | succ m ih =>
  rw [← Nat.add_assoc]
  simp only [hAt]
  rw [ih, List.drop_drop]
  congr 4; omega
structure Holds (M : List (BitVec 8)) (hs : List (BitVec 32)) (ll : List (BitVec 8)) (n : BitVec 64) : Prop where
 words : hs = hAt Tf M (M.length / 64)
 left : ll = M.drop (64 * (M.length / 64))
 size : n = 0#64 + BitVec.ofInt 64 (M.length : Int)
theorem Holds.new : Holds [] [1779033703#32, 3144134277#32, 1013904242#32, 2773480762#32, 1359893119#32, 2600822924#32, 528734635#32, 1541459225#32] [] 0#64 := ⟨rfl, rfl, rfl⟩
theorem Holds.lt {M ll : List (BitVec 8)} {hs : List (BitVec 32)} {n : BitVec 64} (h : Holds M hs ll n) : ll.length < 64 := by rw [h.left]; simp; omega
theorem Holds.write {M ll p : List (BitVec 8)} {hs ys : List (BitVec 32)} {n : BitVec 64} (h : Holds M hs ll n) (hy : ys = hAt hs (ll ++ p) ((ll ++ p).length / 64)) :
  Holds (M ++ p) ys ((ll ++ p).drop (64 * ((ll ++ p).length / 64))) (n + BitVec.ofInt 64 (p.length : Int)) := by
 obtain ⟨rfl, rfl, rfl⟩ := h
 have e0 : M.drop (64 * (M.length / 64)) ++ p = (M ++ p).drop (64 * (M.length / 64)) := by rw [List.drop_append_of_le_length oM]
 have e1 : (M.drop (64 * (M.length / 64)) ++ p).length = M.length + p.length - 64 * (M.length / 64) := by simp; omega
 have e2 : M.length / 64 + (M.drop (64 * (M.length / 64)) ++ p).length / 64 = (M ++ p).length / 64 := by rw [e1]; simp; omega
 refine ⟨?_, ?_, ?_⟩
 ·rw [hy, ← e2, ← Qj8 Tf M p (M.length / 64) oM, e0, Qmv]
 ·rw [← e2]
  generalize (M.drop (64 * (M.length / 64)) ++ p).length / 64 = q
  rw [e0, List.drop_drop]; congr 1; omega
 rw [BitVec.add_assoc, ← BitVec.ofInt_add]; simp
theorem Holds.sum {M ll : List (BitVec 8)} {hs : List (BitVec 32)} {n : BitVec 64} (h : Holds M hs ll n) : Uu hs ll n = Gn M := by
 obtain ⟨rfl, rfl, rfl⟩ := h; rfl
def Ph (key : List (BitVec 8)) : List (BitVec 8) := if 64 < key.length then Gn key else key
theorem Qfd (key : List (BitVec 8)) : (Ph key).length ≤ 64 := by
 unfold Ph; split
 ·simp
 omega
def J3 (key : List (BitVec 8)) (bb : BitVec 8) : List (BitVec 8) := (Ph key ++ List.replicate (64 - (Ph key).length) 0).map (· ^^^ bb)
@[simp] theorem Qa0 (key : List (BitVec 8)) (bb : BitVec 8) : (J3 key bb).length = 64 := by have := Qfd key; simp [J3]; omega
def X7 (key b : List (BitVec 8)) : List (BitVec 8) := Gn (J3 key 92#8 ++ Gn (J3 key 54#8 ++ b))
@[simp] theorem Wu (key b : List (BitVec 8)) : (X7 key b).length = 32 := Qjh _
def Gw {α : Type} (g : Nat → α) (l : List α) (k : Nat) : List α := (List.range k).map g ++ l.drop k
theorem Qb4 {α : Type} (g : Nat → α) (l : List α) : Gw g l 0 = l := by simp [Gw]
theorem Qad {α : Type} (g : Nat → α) (l : List α) (k : Nat) (h : k ≤ l.length) : (Gw g l k).length = l.length := by simp [Gw]; omega
theorem Qc7 {α : Type} (g : Nat → α) (l : List α) (k : Nat) (z : α) : (Gw g l k).getD k z = l.getD k z := by
 simp [Gw, List.getD_eq_getElem?_getD, List.getElem?_append_right]
theorem Qc6 {α : Type} (g : Nat → α) (l : List α) (k : Nat) (h : k < l.length) (x : α) (hx : x = g k) : (Gw g l k).set k x = Gw g l (k + 1) := by
 subst hx
 unfold Gw
 rw [List.set_append_right _ _ (by simp), List.range_succ, List.map_append, List.drop_eq_getElem_cons h]
 simp only [List.length_map, List.length_range, Nat.sub_self, List.set_cons_zero, List.map_cons, List.map_nil, List.append_assoc, List.cons_append, List.nil_append]
theorem Qir {α : Type} (g : Nat → α) (l : List α) : Gw g l l.length = (List.range l.length).map g := by simp [Gw]
theorem Qj3 {α β : Type} (f : α → β) (l : List α) (z : α) : (List.range l.length).map (fun i => f (l.getD i z)) = l.map f := by
 refine List.ext_getElem (by simp) fun i h1 h2 => ?_
 simp only [List.length_map, List.length_range] at h1
 simp [List.getD_eq_getElem?_getD, h1]
theorem Qht {key M : List (BitVec 8)} {bb : BitVec 8} (hM : Ph key = M) : Gw (fun i => (M ++ (List.replicate 64 0).drop M.length).getD i 0 ^^^ bb) (M ++ (List.replicate 64 0).drop M.length) 64 = J3 key bb := by
 have hle := Qfd key
 rw [hM] at hle
 have e : (M ++ (List.replicate 64 (0 : BitVec 8)).drop M.length).length = 64 := by simp; omega
 have h2 := Qir (fun i => (M ++ (List.replicate 64 (0 : BitVec 8)).drop M.length).getD i 0 ^^^ bb) (M ++ (List.replicate 64 (0 : BitVec 8)).drop M.length)
 rw [e] at h2
 rw [h2]
 have h3 := Qj3 (fun x => x ^^^ bb) (M ++ (List.replicate 64 (0 : BitVec 8)).drop M.length) 0
 rw [e] at h3
 rw [h3]
 unfold J3
 rw [hM, List.drop_replicate]
def V3 (ps : List (Value × List (BitVec 8))) : List (BitVec 8) := ps.flatMap (·.2)
theorem Qf8 (ps : List (Value × List (BitVec 8))) (k : Nat) (h : k < ps.length) : V3 (ps.take (k + 1)) = V3 (ps.take k) ++ (ps.getD k (undef, [])).2 := by
 unfold V3
 rw [List.take_add_one, List.flatMap_append]
 simp [List.getD_eq_getElem?_getD, h]
theorem joinL_le (ps : List (Value × List (BitVec 8))) (k : Nat) : (ps.getD k (undef, [])).2.length ≤ (V3 ps).length := by
 by_cases h : k < ps.length
 ·have := Qf8 ps k h
  have h2 : V3 ps = V3 (ps.take (k + 1)) ++ V3 (ps.drop (k + 1)) := by unfold V3; rw [← List.flatMap_append, List.take_append_drop]
  rw [h2, this]; simp; omega
 simp [List.getD_eq_getElem?_getD, Nat.le_of_not_lt h]
theorem getD_in {α : Type} {ps : List α} {k : Nat} {z : α} (h : k < ps.length) : ps.getD k z ∈ ps := by
 simp [List.getD_eq_getElem?_getD, h]
attribute [local irreducible] Uu Gn hAt Qed
theorem Qkp (vb : Value) (l : List (BitVec 8)) (bb : BitVec 8) (w0 : World)  (hT : Tabs (Yq w0)) (hr : Rd (Yq w0) u8 vb l) (hl : l.length ≤ 35184372088832) : Xz Tryd.prog 86 #[vb, (u8 bb)] w0 (fun r w1 => ∃ b, r = Ko b 0 (J3 l bb).length (J3 l bb).length ∧ Mem w1 (Qy w0) [(b, .cells (cl u8 (J3 l bb)) 5 (0, 0))]) := by
 refine Zd (args := [vb, (u8 bb)]) Tryd.func86 rfl Tryd.ntmps86 Tryd.results86 rfl ?_
 have m0 : Mem w0 (Qy w0) [] := Mem.of_world w0
 refine sR <| Qa rfl (Qc (v := (Value.slice none 0 0)) rfl) ?_
 refine rN (Qg (sR ?_))
 refine rM rfl (v := vb) rfl <| Qa rfl (Ye (Rd.ofRest hr m0) Zi rfl) <| Qa rfl (W9 (b := 64) rfl rfl) <| rN ?_
 refine Xv rfl (fun hc1 => ?_) (fun hc1 => ?_)
 ·
  have hc1p := of_decide_eq_true hc1
  refine sR <| rM rfl (v := vb) rfl <| Za rfl (oc88 (Jj rfl) (c_hsum vb l _ (hT.mono fun b o e => (m0).rest b o e) (Rd.ofRest hr m0) sD)) ?_
  rintro _ w2 ⟨rfl, e2⟩
  have m2 := m0.ext e2
  refine Za rfl (Zg m2 Z9) ?_
  rintro _ w4 ⟨b5, rfl, e4, m4⟩
  refine Zw (Qm (f := u8) (l := Gn l) Qu Z9 rfl rfl sD m4.h0 sZ rfl) ?_
  rintro _ w5 uq5
  have m5 := m4.upd0 uq5
  refine rN (Qe ?_)
  refine Qa rfl (Xj (i := 0) (j := 32) X3 X6 rfl (Zy _ _) (Zy _ _) oM sD sD) <| Qa rfl (Qc (v := (sla b5 0 1 0 32 32)) rfl) ?_
  refine rN (sR ?_)
  refine Za rfl (Ey m5 Zi X6 rfl rfl oM oM oM oM) ?_
  rintro _ w6 ⟨b14, rfl, e6, m6⟩
  rw [Ls u8 0 rfl] at m6
  have m6 : Mem w6 (Qy w0) [(b14, .cells (cl u8 (List.replicate 64 (0 : BitVec 8))) 5 (0, 0)), (b5, .cells (cl u8 (Gn l)) 23 (0, 0))] := m6
  refine Qa rfl (Qc (v := (Ko b14 0 64 64)) rfl) ?_
  refine rN (sR ?_)
  refine Qa rfl (Qb (v := (Ko b14 0 64 64)) rfl) <| Qa rfl (Qb (v := (sla b5 0 1 0 32 32)) rfl) <| Za rfl (Qcf (f := u8) rfl rfl (Rd.slaAll m6.h1 sD) Zi X6 Qu m6.h0 sD sD (Nat.le_refl _)) ?_
  rintro _ w7 ⟨rfl, uq7⟩
  have m7 : Mem w7 (Qy w0) ([(b14, .cells (cl u8 ((Gn l) ++ (List.replicate 64 (0 : BitVec 8)).drop (Gn l).length)) 5 (0, 0)), (b5, .cells (cl u8 (Gn l)) 23 (0, 0))]) := m6.upd0 uq7
  refine rN (Qg (Qg ?_))
  have hBl : ((Gn l) ++ (List.replicate 64 (0 : BitVec 8)).drop (Gn l).length).length = 64 := by simp; try omega
  refine Qe <| Qa rfl (Qb (v := (Ko b14 0 64 64)) rfl) <| Qa rfl (Qbn Zi rfl) <| Qa rfl (Qb (v := (i64 0)) rfl) ?_
  refine rN (Qo ?_)
  refine Yo (fun g wv => ∃ (k : Nat), (k ≤ 64) ∧ g 0 = (sla b5 0 1 0 32 32) ∧ g 1 = (u8 bb) ∧ g 4 = (Value.slice none 0 0) ∧ g 5 = (ptr b5 0) ∧ g 6 = (Ko b14 0 64 64) ∧ g 10 = (bl (decide (64 < (l.length : Int)))) ∧ g 19 = (i64 64) ∧ g 20 = (i64 (k : Int)) ∧ Mem wv (Qy w0) ([(b14, .cells (cl u8 (Gw (fun i => ((Gn l) ++ (List.replicate 64 (0 : BitVec 8)).drop (Gn l).length).getD i 0 ^^^ bb) ((Gn l) ++ (List.replicate 64 (0 : BitVec 8)).drop (Gn l).length) k)) 5 (0, 0)), (b5, .cells (cl u8 (Gn l)) 23 (0, 0))])) (fun g wv => (64 - RowKit.intOf (g 20)).toNat) ?_ ?_
  ·exact ⟨0, oM, rfl, rfl, rfl, rfl, rfl, rfl, rfl, rfl, (by rw [Qb4]; exact m7)⟩
  rintro fr8 w9 ⟨k, hk, s0, s1, s4, s5, s6, s10, s19, s20, m9⟩
  have z20 := s20
  have hol := Qad (fun i => ((Gn l) ++ (List.replicate 64 (0 : BitVec 8)).drop (Gn l).length).getD i 0 ^^^ bb) ((Gn l) ++ (List.replicate 64 (0 : BitVec 8)).drop (Gn l).length) k oM
  refine sR <| Qa rfl (Qs (b := 64) s20 s19) ?_
  refine rN (Qg ?_)
  refine Xv rfl (fun hc10 => ?_) (fun hc10 => ?_)
  ·
   have hc10p := of_decide_eq_true hc10
   refine Q7 (Qh (Qg (Qo (sR ?_))))
   refine rM rfl s20 <| Qa rfl (Qc (v := (i64 (k : Int))) rfl) ?_
   refine rN (Qe ?_)
   refine rM rfl s6 <| Qa rfl (Qb (v := (i64 (k : Int))) rfl) <| Qa rfl (Sl (r := k) oM Zi X6 rfl rfl oM sD) <| Qa rfl (Qn Vm rfl rfl m9.h0 (Qx _ _ 0 sD)) <| rM rfl s1 <| Qa rfl (L6 rfl rfl) <| Qa rfl (Sl (r := k) oM Zi X6 rfl rfl oM sD) <| Zw (Xn (f := u8) (a := ((Gw (fun i => ((Gn l) ++ (List.replicate 64 (0 : BitVec 8)).drop (Gn l).length).getD i 0 ^^^ bb) ((Gn l) ++ (List.replicate 64 (0 : BitVec 8)).drop (Gn l).length) k).getD k 0) ^^^ bb) Qu X6 rfl rfl m9.h0 sD (.inl (Nat.zero_le _))) ?_
   rintro _ w11 uq11
   have m11 := m9.upd0 uq11
   refine Zr (Qi (Qe ?_))
   refine Qa rfl (Qk (b := 1) s20 rfl oM oM) <| Qa rfl (Qb (v := (i64 ((k : Int) + 1))) rfl) <| rN ?_
   exact ⟨⟨k + 1, oM, s0, s1, s4, s5, s6, s10, s19, rfl, (by rw [← Qc6 _ _ _ oM _ rfl, ← Qc7 (fun i => ((Gn l) ++ (List.replicate 64 (0 : BitVec 8)).drop (Gn l).length).getD i 0 ^^^ bb) ((Gn l) ++ (List.replicate 64 (0 : BitVec 8)).drop (Gn l).length) k 0]; exact m11)⟩, Gl rfl z20 oM oM⟩
  ·
   have hc10p := of_decide_eq_false hc10
   obtain rfl : k = 64 := by omega
   refine X0 ?_
   refine Qr (Qr (Xf ?_))
   refine sR <| rM rfl s6 <| Qa rfl (Qc (v := (Ko b14 0 64 64)) rfl) ?_
   refine rN (Xt ?_)
   refine Ze [(Ko b14 0 64 64)] ⟨rfl, trivial⟩ ?_
   have hK : Ph l = Gn l := by unfold Ph; rw [if_pos oM]
   have hmk := Qht (bb := bb) hK
   have m12 := Mem.drop [_] _ (Mem.pick [_] [_] _ m9)
   exact ⟨b14, by rw [Qa0]; rfl, hmk ▸ m12⟩
 ·
  have hc1p := of_decide_eq_false hc1
  refine Q7 (Qh (sR ?_))
  refine Za rfl (Ey m0 Zi X6 rfl rfl oM oM oM oM) ?_
  rintro _ w13 ⟨b14_1, rfl, e13, m13⟩
  rw [Ls u8 0 rfl] at m13
  have m13 : Mem w13 (Qy w0) [(b14_1, .cells (cl u8 (List.replicate 64 (0 : BitVec 8))) 5 (0, 0))] := m13
  refine Qa rfl (Qc (v := (Ko b14_1 0 64 64)) rfl) ?_
  refine rN (sR ?_)
  refine Qa rfl (Qb (v := (Ko b14_1 0 64 64)) rfl) <| rM rfl (v := vb) rfl <| Za rfl (Qcf (f := u8) rfl rfl (Rd.ofRest hr m13) Zi X6 Qu m13.h0 sD sD (Nat.le_refl _)) ?_
  rintro _ w14 ⟨rfl, uq14⟩
  have m14 : Mem w14 (Qy w0) ([(b14_1, .cells (cl u8 (l ++ (List.replicate 64 (0 : BitVec 8)).drop l.length)) 5 (0, 0))]) := m13.upd0 uq14
  refine rN (Qg (Qg ?_))
  have hBl : (l ++ (List.replicate 64 (0 : BitVec 8)).drop l.length).length = 64 := by simp; try omega
  refine Qe <| Qa rfl (Qb (v := (Ko b14_1 0 64 64)) rfl) <| Qa rfl (Qbn Zi rfl) <| Qa rfl (Qb (v := (i64 0)) rfl) ?_
  refine rN (Qo ?_)
  refine Yo (fun g wv => ∃ (k : Nat), (k ≤ 64) ∧ g 0 = vb ∧ g 1 = (u8 bb) ∧ g 4 = (Value.slice none 0 0) ∧ g 6 = (Ko b14_1 0 64 64) ∧ g 10 = (bl (decide (64 < (l.length : Int)))) ∧ g 19 = (i64 64) ∧ g 20 = (i64 (k : Int)) ∧ Mem wv (Qy w0) ([(b14_1, .cells (cl u8 (Gw (fun i => (l ++ (List.replicate 64 (0 : BitVec 8)).drop l.length).getD i 0 ^^^ bb) (l ++ (List.replicate 64 (0 : BitVec 8)).drop l.length) k)) 5 (0, 0))])) (fun g wv => (64 - RowKit.intOf (g 20)).toNat) ?_ ?_
  ·exact ⟨0, oM, rfl, rfl, rfl, rfl, rfl, rfl, rfl, (by rw [Qb4]; exact m14)⟩
  rintro fr15 w16 ⟨k, hk, s0, s1, s4, s6, s10, s19, s20, m16⟩
  have z20 := s20
  have hol := Qad (fun i => (l ++ (List.replicate 64 (0 : BitVec 8)).drop l.length).getD i 0 ^^^ bb) (l ++ (List.replicate 64 (0 : BitVec 8)).drop l.length) k oM
  refine sR <| Qa rfl (Qs (b := 64) s20 s19) ?_
  refine rN (Qg ?_)
  refine Xv rfl (fun hc17 => ?_) (fun hc17 => ?_)
  ·
   have hc17p := of_decide_eq_true hc17
   refine Q7 (Qh (Qg (Qo (sR ?_))))
   refine rM rfl s20 <| Qa rfl (Qc (v := (i64 (k : Int))) rfl) ?_
   refine rN (Qe ?_)
   refine rM rfl s6 <| Qa rfl (Qb (v := (i64 (k : Int))) rfl) <| Qa rfl (Sl (r := k) oM Zi X6 rfl rfl oM sD) <| Qa rfl (Qn Vm rfl rfl m16.h0 (Qx _ _ 0 sD)) <| rM rfl s1 <| Qa rfl (L6 rfl rfl) <| Qa rfl (Sl (r := k) oM Zi X6 rfl rfl oM sD) <| Zw (Xn (f := u8) (a := ((Gw (fun i => (l ++ (List.replicate 64 (0 : BitVec 8)).drop l.length).getD i 0 ^^^ bb) (l ++ (List.replicate 64 (0 : BitVec 8)).drop l.length) k).getD k 0) ^^^ bb) Qu X6 rfl rfl m16.h0 sD (.inl (Nat.zero_le _))) ?_
   rintro _ w18 uq18
   have m18 := m16.upd0 uq18
   refine Zr (Qi (Qe ?_))
   refine Qa rfl (Qk (b := 1) s20 rfl oM oM) <| Qa rfl (Qb (v := (i64 ((k : Int) + 1))) rfl) <| rN ?_
   exact ⟨⟨k + 1, oM, s0, s1, s4, s6, s10, s19, rfl, (by rw [← Qc6 _ _ _ oM _ rfl, ← Qc7 (fun i => (l ++ (List.replicate 64 (0 : BitVec 8)).drop l.length).getD i 0 ^^^ bb) (l ++ (List.replicate 64 (0 : BitVec 8)).drop l.length) k 0]; exact m18)⟩, Gl rfl z20 oM oM⟩
  ·
   have hc17p := of_decide_eq_false hc17
   obtain rfl : k = 64 := by omega
   refine X0 ?_
   refine Qr (Qr (Xf ?_))
   refine sR <| rM rfl s6 <| Qa rfl (Qc (v := (Ko b14_1 0 64 64)) rfl) ?_
   refine rN (Xt ?_)
   refine Ze [(Ko b14_1 0 64 64)] ⟨rfl, trivial⟩ ?_
   have hK : Ph l = l := by unfold Ph; rw [if_neg oM]
   have hmk := Qht (bb := bb) hK
   exact ⟨b14_1, by rw [Qa0]; rfl, hmk ▸ m16⟩
set_option maxHeartbeats 1000000 in
theorem Qcn (vb : Value) (l : List (BitVec 8)) (vp : Value) (ps : List (Value × List (BitVec 8))) (w0 : World)  (hT : Tabs (Yq w0)) (hr : Rd (Yq w0) u8 vb l) (hl : l.length ≤ 1099511627776) (hrp : Rd (Yq w0) Prod.fst vp ps) (hps : ∀ p ∈ ps, Rd (Yq w0) u8 p.1 p.2) (hpl : (V3 ps).length ≤ 1099511627776) (hpn : ps.length ≤ 1099511627776) : Xz Tryd.prog 59 #[vb, vp] w0 (fun r w1 => r = (agg u8 (X7 l (V3 ps))) ∧ Ext w0 w1) := by
 refine Zd (args := [vb, vp]) Tryd.func59 rfl Tryd.ntmps59 Tryd.results59 rfl ?_
 have m0 : Mem w0 (Qy w0) [] := Mem.of_world w0
 refine sR <| Za rfl (Zg m0 Z9) ?_
 rintro _ w1 ⟨b4, rfl, e1, m1⟩
 refine rN (sR ?_)
 refine Za rfl (oc84 (Qkv) (c_hnew _ (hT.mono fun b o e => (m1).rest b o e))) ?_
 rintro _ w2 ⟨bq3, rfl, k_w2⟩
 have m2 : Mem _ _ [_, _] := Mem.new (H := [_]) (H' := [(bq3, .cells #[(u32 1779033703#32), (u32 3144134277#32), (u32 1013904242#32), (u32 2773480762#32), (u32 1359893119#32), (u32 2600822924#32), (u32 528734635#32), (u32 1541459225#32), (Value.slice none 0 0), (u64 0#64)] 154 (0, 0))]) m1 k_w2
 refine Qa rfl (Qc (v := (ptr bq3 0)) rfl) ?_
 refine rN (sR ?_)
 refine Qa rfl (Qb (v := (ptr bq3 0)) rfl) <| rM rfl (v := vb) rfl <| Za rfl (oc86 (Xr rfl rfl) (Qkp vb l 54#8 _ (hT.mono fun b o e => (m2).rest b o e) (Rd.ofRest hr m2) sD)) ?_
 rintro _ w4 ⟨bq5, rfl, k_w4⟩
 have m4 : Mem _ _ [_, _, _] := Mem.new (H := [_, _]) (H' := [(bq5, .cells (cl u8 (J3 l 54#8)) 5 (0, 0))]) m2 k_w4
 have hF7 : Mem w4 (Qy w0) (([(bq3, .cells #[(u32 1779033703#32), (u32 3144134277#32), (u32 1013904242#32), (u32 2773480762#32), (u32 1359893119#32), (u32 2600822924#32), (u32 528734635#32), (u32 1541459225#32), (Value.slice none 0 0), (u64 0#64)] 154 (0, 0))] ++ ([] ++ ([]))) ++ ([(bq5, .cells (cl u8 (J3 l 54#8)) 5 (0, 0)), (b4, .cells (cl u8 (List.replicate 32 0)) 23 (0, 0))])) := by
  have hT := (Mem.pick [_] [_] _ m4)
  try simp only [List.append_assoc, List.cons_append, List.nil_append, List.append_nil] at hT ⊢
  exact hT
 refine Za rfl (oc85 (Xr rfl rfl) (Qff bq3 1779033703#32 3144134277#32 1013904242#32 2773480762#32 1359893119#32 2600822924#32 528734635#32 1541459225#32 (Value.slice none 0 0) ([]) ([]) 0#64 (Ko bq5 0 ((J3 l 54#8).length) ((J3 l 54#8).length)) (J3 l 54#8) _ _ (Mem.give hF7) (hT.mono fun b o e => Mem.addRest hF7 e) (Rd.mkA (Mem.addOwn hF7 (List.Mem.head _))) (Zv.none u8 5) sD)) ?_
 rintro _ w6 ⟨y0q8, y1q8, y2q8, y3q8, y4q8, y5q8, y6q8, y7q8, sv2q8, Hs2q8, hyq8, gl2q8, k_w6⟩
 have m6 : Mem w6 (Qy w0) ([(bq3, .cells #[(u32 y0q8), (u32 y1q8), (u32 y2q8), (u32 y3q8), (u32 y4q8), (u32 y5q8), (u32 y6q8), (u32 y7q8), sv2q8, (u64 (0#64 + BitVec.ofInt 64 ((J3 l 54#8).length : Int)))] 154 (0, 0))] ++ (Hs2q8 ++ ([(bq5, .cells (cl u8 (J3 l 54#8)) 5 (0, 0)), (b4, .cells (cl u8 (List.replicate 32 0)) 23 (0, 0))]))) := (by
  have hT := Mem.back hF7 k_w6
  try simp only [List.append_assoc, List.cons_append, List.nil_append, List.append_nil] at hT ⊢
  exact hT)
 have hH0 := Holds.new.write hyq8
 refine rN (Qg (sR ?_))
 refine rM rfl (v := vp) rfl <| Qa rfl (Ye (Rd.ofRest hrp m6) uT65 rfl) <| Qa rfl (Qb (v := (i64 0)) rfl) ?_
 refine rN (Qo ?_)
 refine Yo (fun g wv => ∃ (k : Nat) (z0 z1 z2 z3 z4 z5 z6 z7 : BitVec 32) (sv3 : Value) (l3 : List (BitVec 8)) (Hs3 : List (Nat × Obj)) (nn : BitVec 64), (k ≤ ps.length) ∧ (Holds (J3 l 54#8 ++ V3 (ps.take k)) [z0, z1, z2, z3, z4, z5, z6, z7] l3 nn) ∧ (Zv u8 5 sv3 l3 Hs3) ∧ g 0 = vb ∧ g 1 = vp ∧ g 4 = (ptr b4 0) ∧ g 5 = (ptr bq3 0) ∧ g 14 = vp ∧ g 15 = (i64 (ps.length : Int)) ∧ g 16 = (i64 (k : Int)) ∧ Mem wv (Qy w0) ([(bq3, .cells #[(u32 z0), (u32 z1), (u32 z2), (u32 z3), (u32 z4), (u32 z5), (u32 z6), (u32 z7), sv3, (u64 nn)] 154 (0, 0))] ++ (Hs3 ++ ([(bq5, .cells (cl u8 (J3 l 54#8)) 5 (0, 0)), (b4, .cells (cl u8 (List.replicate 32 0)) 23 (0, 0))])))) (fun g wv => ((ps.length : Int) - RowKit.intOf (g 16)).toNat) ?_ ?_
 ·exact ⟨0, y0q8, y1q8, y2q8, y3q8, y4q8, y5q8, y6q8, y7q8, sv2q8, ((([]) ++ (J3 l 54#8)).drop (64 * ((([]) ++ (J3 l 54#8)).length / 64))), Hs2q8, (0#64 + BitVec.ofInt 64 ((J3 l 54#8).length : Int)), oM, (by simpa [V3] using hH0), gl2q8, rfl, rfl, rfl, rfl, rfl, rfl, rfl, m6⟩
 rintro fr9 w10 ⟨k, z0, z1, z2, z3, z4, z5, z6, z7, sv3, l3, Hs3, nn, hk, hH, gl3, s0, s1, s4, s5, s14, s15, s16, m10⟩
 have z16 := s16
 have hlt := hH.lt
 have hpk := joinL_le ps k
 refine sR <| Qa rfl (Qs s16 s15) ?_
 refine rN (Qg ?_)
 refine Xv rfl (fun hc11 => ?_) (fun hc11 => ?_)
 ·
  have hc11p := of_decide_eq_true hc11
  refine Q7 (Qh (Qg (Qo (sR ?_))))
  refine Qa rfl (Xa (Rd.ofRest hrp m10) uT65 Td s14 s16 oM sD) <| Qa (v := ((ps.getD k (undef, [])).1)) rfl (Yc (l := ps) (i := (k : Int)) (dflt := (undef, [])) (Rd.ofRest hrp m10) Zi rfl oM sD rfl) <| Qa rfl (Qc (v := ((ps.getD k (undef, [])).1)) rfl) ?_
  refine rN (Qe ?_)
  refine rM rfl s5 <| Qa rfl (Qb (v := ((ps.getD k (undef, [])).1)) rfl) ?_
  have hF13 : Mem w10 (Qy w0) (([(bq3, .cells #[(u32 z0), (u32 z1), (u32 z2), (u32 z3), (u32 z4), (u32 z5), (u32 z6), (u32 z7), sv3, (u64 nn)] 154 (0, 0))] ++ (Hs3 ++ ([]))) ++ ([(bq5, .cells (cl u8 (J3 l 54#8)) 5 (0, 0)), (b4, .cells (cl u8 (List.replicate 32 0)) 23 (0, 0))])) := by
   have hT := (Mem.pick Hs3 [_] _ (Mem.pick [_] Hs3 _ m10))
   try simp only [List.append_assoc, List.cons_append, List.nil_append, List.append_nil] at hT ⊢
   exact hT
  refine Za rfl (oc85 (Xr rfl rfl) (Qff bq3 z0 z1 z2 z3 z4 z5 z6 z7 sv3 l3 Hs3 nn ((ps.getD k (undef, [])).1) ((ps.getD k (undef, [])).2) _ _ (Mem.give hF13) (hT.mono fun b o e => Mem.addRest hF13 e) (Rd.addRest hF13 (hps _ (getD_in (z := (undef, [])) oM))) gl3 sD)) ?_
  rintro _ w12 ⟨y0q14, y1q14, y2q14, y3q14, y4q14, y5q14, y6q14, y7q14, sv2q14, Hs2q14, hyq14, gl2q14, k_w12⟩
  have m12 : Mem w12 (Qy w0) ([(bq3, .cells #[(u32 y0q14), (u32 y1q14), (u32 y2q14), (u32 y3q14), (u32 y4q14), (u32 y5q14), (u32 y6q14), (u32 y7q14), sv2q14, (u64 (nn + BitVec.ofInt 64 (((ps.getD k (undef, [])).2).length : Int)))] 154 (0, 0))] ++ (Hs2q14 ++ ([(bq5, .cells (cl u8 (J3 l 54#8)) 5 (0, 0)), (b4, .cells (cl u8 (List.replicate 32 0)) 23 (0, 0))]))) := (by
   have hT := Mem.back hF13 k_w12
   try simp only [List.append_assoc, List.cons_append, List.nil_append, List.append_nil] at hT ⊢
   exact hT)
  refine Zr (Qi (Qe ?_))
  refine Qa rfl (Qk (b := 1) s16 rfl oM oM) <| Qa rfl (Qb (v := (i64 ((k : Int) + 1))) rfl) <| rN ?_
  have hHn := hH.write hyq14
  rw [List.append_assoc, ← Qf8 ps k oM] at hHn
  exact ⟨⟨k + 1, y0q14, y1q14, y2q14, y3q14, y4q14, y5q14, y6q14, y7q14, sv2q14, ((l3 ++ ((ps.getD k (undef, [])).2)).drop (64 * ((l3 ++ ((ps.getD k (undef, [])).2)).length / 64))), Hs2q14, (nn + BitVec.ofInt 64 (((ps.getD k (undef, [])).2).length : Int)), oM, hHn, gl2q14, s0, s1, s4, s5, s14, s15, rfl, m12⟩, Gl rfl z16 oM oM⟩
 ·
  have hc11p := of_decide_eq_false hc11
  obtain rfl : k = ps.length := by omega
  rw [List.take_length] at hH
  have hlt := hH.lt
  refine X0 ?_
  refine Qr (Qr (Xf ?_))
  refine sR <| rM rfl s5 <| Za rfl (oc87 (Jj rfl) (c_dsum bq3 z0 z1 z2 z3 z4 z5 z6 z7 sv3 l3 nn _ (hT.mono fun b o e => (m10).rest b o e) m10.h0 (gl3.rd (Mem.pick [_] Hs3 _ m10)) sD)) ?_
  rintro _ w15 ⟨rfl, e15⟩
  have m15 := m10.ext e15
  refine Za rfl (Zg m15 Z9) ?_
  rintro _ w17 ⟨b8, rfl, e17, m17⟩
  refine Zw (Qm (f := u8) (l := Uu [z0, z1, z2, z3, z4, z5, z6, z7] l3 nn) Qu Z9 rfl rfl sD m17.h0 sZ rfl) ?_
  rintro _ w18 uq18
  have m18 := m17.upd0 uq18
  refine rN (Qg ?_)
  refine Xq [(0, false), (2, false), (1, true)] 3 (by kernel_rfl) <| dM rfl rfl s0 <| Qj rfl rfl (fun _ _hx => Xj (i := 0) (j := 32) X3 X6 rfl (Zy _ _) (Zy _ _) oM sD sD) ?_
  refine Bf rfl rfl (fun w19 e19 => ?_)
  have m19 := m18.ext e19
  refine Yz.mono (oc86 (Xr rfl rfl) (Qkp vb l 92#8 _ (hT.mono fun b o e => (m19).rest b o e) (Rd.ofRest hr m19) sD)) ?_
  rintro _ w20 ⟨bq21, rfl, k_w20⟩
  refine ⟨k_w20.toExt, ?_⟩
  have m20 : Mem _ _ ([_, _, _] ++ (Hs3 ++ ([_, _]))) := Mem.new (H := [_, _] ++ (Hs3 ++ ([_, _]))) (H' := [(bq21, .cells (cl u8 (J3 l 92#8)) 5 (0, 0))]) m19 k_w20
  refine Xd (fun w22 e22 => ?_)
  have m22 := m20.ext e22
  refine Za rfl (Zk (f := u8) (Hs := [(bq21, .cells (cl u8 (J3 l 92#8)) 5 (0, 0))]) (H := [_, _] ++ (Hs3 ++ ([_, _]))) m22 (Zv.of u8 5 bq21 (J3 l 92#8)) rfl rfl (Rd.slaAll m22.h1 sD) Zi Zi X6 rfl Qu sD sD) ?_
  rintro sv23 w23 ⟨Hs23, m23, g23⟩
  replace g23 : Zv u8 5 sv23 ((J3 l 92#8) ++ (Uu [z0, z1, z2, z3, z4, z5, z6, z7] l3 nn)) Hs23 := g23
  refine Za rfl (oc88 (Jj rfl) (c_hsum sv23 ((J3 l 92#8) ++ (Uu [z0, z1, z2, z3, z4, z5, z6, z7] l3 nn)) _ (hT.mono fun b o e => (m23).rest b o e) (g23.rd m23) sD)) ?_
  rintro _ w24 ⟨rfl, e24⟩
  have m24 := m23.ext e24
  refine Zw (Qm (f := u8) (l := Gn ((J3 l 92#8) ++ (Uu [z0, z1, z2, z3, z4, z5, z6, z7] l3 nn))) Qu Z9 s4 rfl sD ((Mem.pick4 Hs23 [_, _] Hs3 [_] [_] _ m24)).h0 sZ rfl) ?_
  rintro _ w26 uq26
  have m26 : Mem _ _ ([_] ++ (Hs23 ++ ([_, _] ++ (Hs3 ++ ([_]))))) := Mem.upd0 (Mem.pick4 Hs23 [_, _] Hs3 [_] [_] _ m24) uq26
  refine rN (Xt ?_)
  refine Ze [(agg u8 (Gn ((J3 l 92#8) ++ (Uu [z0, z1, z2, z3, z4, z5, z6, z7] l3 nn))))] ⟨⟨_, s4, Xo X3 rfl Z9 m26.h0 sZ⟩, trivial⟩ ?_
  exact ⟨congrArg (agg u8) (by unfold X7; rw [hH.sum]), m26.toExt⟩
end Go.Proofs.YtkmiemlpfkfiiaaDoor
