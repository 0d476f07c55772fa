/- Contracts: hash, fifth part. Conditions: none beyond those that each theorem states. -/
import Derived.Test.YtkmiemlpfkfiiaaDoorHa4
namespace Go.Proofs.YtkmiemlpfkfiiaaDoor
open Tryd
set_option linter.unusedVariables false
set_option linter.unusedSimpArgs false
theorem hAt_take (h : List (BitVec 32)) (l p : Zj) : ∀ m, 64 * m ≤ l.length → hAt h (l ++ p) m = hAt h l m := by
 intro m
 induction m with
 | zero => intro _; rfl
 | succ m ih =>
  intro hm
  simp only [hAt]
  rw [ih oM]
  congr 1
  rw [List.drop_append_of_le_length oM, List.take_append_of_le_length (by simp; omega)]
theorem hAt_add (h : List (BitVec 32)) (l : Zj) (q : Nat) : ∀ m, hAt (hAt h l q) (l.drop (64 * q)) m = hAt h l (q + m) := by
 intro m
 induction m with
 | zero => rfl
 | succ m ih =>
  rw [← Nat.add_assoc]
  simp only [hAt]
  rw [ih, List.drop_drop]
  congr 4; omega
structure Holds (M : Zj) (hs : List (BitVec 32)) (ll : Zj) (n : BitVec 64) : Prop where
 words : hs = hAt Qh5 M (M.length / 64)
 left : ll = M.drop (64 * (M.length / 64))
 size : n = 0#64 + BitVec.ofInt 64 (M.length : Int)
theorem Holds.new : Holds [] [1779033703#32, 3144134277#32, 1013904242#32, 2773480762#32, 1359893119#32, 2600822924#32, 528734635#32, 1541459225#32] [] 0#64 := ⟨rfl, rfl, rfl⟩
theorem Holds.lt {M ll : Zj} {hs : List (BitVec 32)} {n : BitVec 64} (h : Holds M hs ll n) : ll.length < 64 := by rw [h.left]; simp; omega
theorem Holds.write {M ll p : Zj} {hs ys : List (BitVec 32)} {n : BitVec 64} (h : Holds M hs ll n) (hy : ys = hAt hs (ll ++ p) ((ll ++ p).length / 64)) :
  Holds (M ++ p) ys ((ll ++ p).drop (64 * ((ll ++ p).length / 64))) (n + BitVec.ofInt 64 (p.length : Int)) := by
 obtain ⟨rfl, rfl, rfl⟩ := h
 have e0 : M.drop (64 * (M.length / 64)) ++ p = (M ++ p).drop (64 * (M.length / 64)) := by rw [List.drop_append_of_le_length oM]
 have e1 : (M.drop (64 * (M.length / 64)) ++ p).length = M.length + p.length - 64 * (M.length / 64) := by simp; omega
 have e2 : M.length / 64 + (M.drop (64 * (M.length / 64)) ++ p).length / 64 = (M ++ p).length / 64 := by rw [e1]; simp; omega
 refine ⟨?_, ?_, ?_⟩
 ·rw [hy, ← e2, ← hAt_take Qh5 M p (M.length / 64) oM, e0, hAt_add]
 ·rw [← e2]
  generalize (M.drop (64 * (M.length / 64)) ++ p).length / 64 = q
  rw [e0, List.drop_drop]; congr 1; omega
 rw [BitVec.add_assoc, ← BitVec.ofInt_add]; simp
theorem Holds.sum {M ll : Zj} {hs : List (BitVec 32)} {n : BitVec 64} (h : Holds M hs ll n) : Un hs ll n = Uh M := by
 obtain ⟨rfl, rfl, rfl⟩ := h; rfl
def keyP (key : Zj) : Zj := if 64 < key.length then Uh key else key
theorem Qmm (key : Zj) : (keyP key).length ≤ 64 := by
 unfold keyP; split
 ·simp
 omega
def Jc (key : Zj) (bb : BitVec 8) : Zj := (keyP key ++ List.replicate (64 - (keyP key).length) 0).map (· ^^^ bb)
@[simp] theorem Tt (key : Zj) (bb : BitVec 8) : (Jc key bb).length = 64 := by have := Qmm key; simp [Jc]; omega
def Zu (key b : Zj) : Zj := Uh (Jc key 92#8 ++ Uh (Jc key 54#8 ++ b))
@[simp] theorem Jd (key b : Zj) : (Zu key b).length = 32 := Qjj _
def Vr {α : Type} (g : Nat → α) (l : List α) (k : Nat) : List α := (List.range k).map g ++ l.drop k
theorem Qbg {α : Type} (g : Nat → α) (l : List α) : Vr g l 0 = l := by simp [Vr]
theorem Rx {α : Type} (g : Nat → α) (l : List α) (k : Nat) (h : k ≤ l.length) : (Vr g l k).length = l.length := by simp [Vr]; omega
theorem Qci {α : Type} (g : Nat → α) (l : List α) (k : Nat) (z : α) : (Vr g l k).getD k z = l.getD k z := by
 simp [Vr, List.getD_eq_getElem?_getD, List.getElem?_append_right]
theorem Qch {α : Type} (g : Nat → α) (l : List α) (k : Nat) (h : k < l.length) (x : α) (hx : x = g k) : (Vr g l k).set k x = Vr g l (k + 1) := by
 subst hx
 unfold Vr
 rw [List.set_append_right _ _ Xk, List.range_succ, List.map_append, List.drop_eq_getElem_cons h]
 simp only [List.length_map, List.length_range, Nat.sub_self, List.set_cons_zero, List.map_cons, List.map_nil, List.append_assoc, List.cons_append, List.nil_append]
theorem Qie {α : Type} (g : Nat → α) (l : List α) : Vr g l l.length = (List.range l.length).map g := by simp [Vr]
theorem map_getD {α β : Type} (f : α → β) (l : List α) (z : α) : (List.range l.length).map (fun i => f (l.getD i z)) = l.map f := by
 refine List.ext_getElem Xk fun i h1 h2 => ?_
 simp only [List.length_map, List.length_range] at h1
 simp [List.getD_eq_getElem?_getD, h1]
theorem Qg8 {key M : Zj} {bb : BitVec 8} (hM : keyP key = M) : Vr (fun i => (M ++ (List.replicate 64 0).drop M.length).getD i 0 ^^^ bb) (M ++ (List.replicate 64 0).drop M.length) 64 = Jc key bb := by
 have hle := Qmm key
 rw [hM] at hle
 have e : (M ++ (List.replicate 64 (0 : BitVec 8)).drop M.length).length = 64 := by simp; omega
 have h2 := Qie (fun i => (M ++ (List.replicate 64 (0 : BitVec 8)).drop M.length).getD i 0 ^^^ bb) (M ++ (List.replicate 64 (0 : BitVec 8)).drop M.length)
 rw [e] at h2
 rw [h2]
 have h3 := map_getD (fun x => x ^^^ bb) (M ++ (List.replicate 64 (0 : BitVec 8)).drop M.length) 0
 rw [e] at h3
 rw [h3]
 unfold Jc
 rw [hM, List.drop_replicate]
def Ji (ps : List (Value × Zj)) : Zj := ps.flatMap (·.2)
theorem Qfv (ps : List (Value × Zj)) (k : Nat) (h : k < ps.length) : Ji (ps.take (k + 1)) = Ji (ps.take k) ++ (ps.getD k (undef, [])).2 := by
 unfold Ji
 rw [List.take_add_one, List.flatMap_append]
 simp [List.getD_eq_getElem?_getD, h]
theorem joinL_le (ps : List (Value × Zj)) (k : Nat) : (ps.getD k (undef, [])).2.length ≤ (Ji ps).length := by
 by_cases h : k < ps.length
 ·have := Qfv ps k h
  have h2 : Ji ps = Ji (ps.take (k + 1)) ++ Ji (ps.drop (k + 1)) := by unfold Ji; rw [← List.flatMap_append, List.take_append_drop]
  rw [h2, this]; simp; omega
 simp [List.getD_eq_getElem?_getD, Nat.le_of_not_lt h]
theorem getD_in {α : Type} {ps : List α} {k : Nat} {z : α} (h : k < ps.length) : ps.getD k z ∈ ps := by
 simp [List.getD_eq_getElem?_getD, h]
attribute [local irreducible] Un Uh hAt Qgy
theorem Qkw (vb : Value) (l : Zj) (bb : BitVec 8) (w0 : World)  (hT : Tabs (Yn w0)) (hr : Rd (Yn w0) u8 vb l) (hl : l.length ≤ 35184372088832) : Xm prog 86 #[vb, (u8 bb)] w0 (fun r w1 => ∃ b, r = Kq b 0 (Jc l bb).length (Jc l bb).length ∧ Mem w1 (Qu w0) [(b, .cells (cl u8 (Jc l bb)) 5 (0, 0))]) := by
 refine Qy (args := [vb, (u8 bb)]) func86 rfl ntmps86 results86 rfl ?_
 have m0 : Mem w0 (Qu w0) [] := Mem.of_world w0
 refine sR <| Zv Jp ?_
 refine rN (Qc (sR ?_))
 refine Zb vb <| Qd (Yg (Rd.ofRest hr m0) Zx rfl) <| Qd (Cm (b := 64) rfl rfl) <| rN ?_
 refine Xb rfl (fun hc1 => ?_) (fun hc1 => ?_)
 ·
  have hc1p := of_decide_eq_true hc1
  refine sR <| Zb vb <| Dx m0 (oc88 (Jb rfl) (c_hsum vb l _ (hT.mono fun b o e => (m0).rest b o e) (Rd.ofRest hr m0) sD)) fun w2 m2 => Y5 (Zf m2 Zi) fun w4 b5 m4 => Yb m4 (Qq (f := u8) (l := Uh l) Q9 Zi rfl rfl sD m4.h0 sZ rfl) fun w5 m5 => ?_
  refine rN (Qb ?_)
  refine Qd (Z7 (i := 0) (j := 32) Xf Yw rfl (Zc _ _) (Zc _ _) oM sD sD) <| Zv (sla b5 0 1 0 32 32) ?_
  refine rN (sR ?_)
  refine Y5 (Dq m5 Zx Yw rfl rfl oM oM oM oM) fun w6 b14 m6 => ?_
  rw [Ph u8 0 rfl] at m6
  have m6 : Mem w6 (Qu w0) [(b14, .cells (cl u8 (List.replicate 64 (0 : BitVec 8))) 5 (0, 0)), (b5, .cells (cl u8 (Uh l)) 23 (0, 0))] := m6
  refine Zv (Kq b14 0 64 64) ?_
  refine rN (sR ?_)
  refine Zb (Kq b14 0 64 64) <| Zb (sla b5 0 1 0 32 32) <| G5 (Qbo (f := u8) rfl rfl (Rd.slaAll m6.h1 sD) Zx Yw Q9 m6.h0 sD sD (Nat.le_refl _)) ?_
  rintro _ w7 ⟨rfl, uq7⟩
  have m7 : Mem w7 (Qu w0) ([(b14, .cells (cl u8 ((Uh l) ++ (List.replicate 64 (0 : BitVec 8)).drop (Uh l).length)) 5 (0, 0)), (b5, .cells (cl u8 (Uh l)) 23 (0, 0))]) := m6.upd0 uq7
  refine rN (Qc (Qc ?_))
  have hBl : ((Uh l) ++ (List.replicate 64 (0 : BitVec 8)).drop (Uh l).length).length = 64 := by simp; try omega
  refine Qb <| Zb (Kq b14 0 64 64) <| Qd (Qa1 Zx rfl) <| Zb (i64 0) ?_
  refine rN (Qj ?_)
  refine Jq (fun g wv => ∃ (k : Nat), (k ≤ 64) ∧ g 0 = (sla b5 0 1 0 32 32) ∧ g 1 = (u8 bb) ∧ g 4 = Jp ∧ g 5 = (ptr b5 0) ∧ g 6 = (Kq b14 0 64 64) ∧ g 10 = (bl (decide (64 < (l.length : Int)))) ∧ g 19 = (i64 64) ∧ g 20 = (i64 (k : Int)) ∧ Mem wv (Qu w0) ([(b14, .cells (cl u8 (Vr (fun i => ((Uh l) ++ (List.replicate 64 (0 : BitVec 8)).drop (Uh l).length).getD i 0 ^^^ bb) ((Uh l) ++ (List.replicate 64 (0 : BitVec 8)).drop (Uh l).length) k)) 5 (0, 0)), (b5, .cells (cl u8 (Uh l)) 23 (0, 0))])) (fun g wv => (64 - RowKit.intOf (g 20)).toNat) ?_ ?_
  ·exact ⟨0, oM, rfl, rfl, rfl, rfl, rfl, rfl, rfl, rfl, (by rw [Qbg]; exact m7)⟩
  rintro fr8 w9 ⟨k, hk, s0, s1, s4, s5, s6, s10, s19, s20, m9⟩
  have z20 := s20
  have hol := Rx (fun i => ((Uh l) ++ (List.replicate 64 (0 : BitVec 8)).drop (Uh l).length).getD i 0 ^^^ bb) ((Uh l) ++ (List.replicate 64 (0 : BitVec 8)).drop (Uh l).length) k oM
  refine sR <| Qd (Xy (b := 64) s20 s19) ?_
  refine rN (Qc ?_)
  refine Xb rfl (fun hc10 => ?_) (fun hc10 => ?_)
  ·
   have hc10p := of_decide_eq_true hc10
   refine Qo (Qa (Qc (Qj (sR ?_))))
   refine Yk s20 <| Zv (i64 (k : Int)) ?_
   refine rN (Qb ?_)
   refine Yk s6 <| Zb (i64 (k : Int)) <| Qd (Po (r := k) oM Zx Yw rfl rfl oM sD) <| Qd (Ql Uu rfl rfl m9.h0 (Qv _ _ 0 sD)) <| Yk s1 <| Qd (Qa0 rfl rfl) <| Qd (Po (r := k) oM Zx Yw rfl rfl oM sD) <| Yb m9 (X9 (f := u8) (a := ((Vr (fun i => ((Uh l) ++ (List.replicate 64 (0 : BitVec 8)).drop (Uh l).length).getD i 0 ^^^ bb) ((Uh l) ++ (List.replicate 64 (0 : BitVec 8)).drop (Uh l).length) k).getD k 0) ^^^ bb) Q9 Yw rfl rfl m9.h0 sD (.inl (Nat.zero_le _))) fun w11 m11 => ?_
   refine Zo (Qh (Qb ?_))
   refine Qd (Z9 (b := 1) s20 rfl oM oM) <| Zb (i64 ((k : Int) + 1)) <| rN ?_
   exact ⟨⟨k + 1, oM, s0, s1, s4, s5, s6, s10, s19, rfl, (by rw [← Qch _ _ _ oM _ rfl, ← Qci (fun i => ((Uh l) ++ (List.replicate 64 (0 : BitVec 8)).drop (Uh l).length).getD i 0 ^^^ bb) ((Uh l) ++ (List.replicate 64 (0 : BitVec 8)).drop (Uh l).length) k 0]; exact m11)⟩, Am rfl z20 oM oM⟩
  ·
   have hc10p := of_decide_eq_false hc10
   obtain rfl : k = 64 := by omega
   refine Yc ?_
   refine Qr (Qr (Xp ?_))
   refine sR <| Yk s6 <| Zv (Kq b14 0 64 64) ?_
   refine rN (Zy ?_)
   refine Qs [(Kq b14 0 64 64)] ⟨rfl, trivial⟩ ?_
   have hK : keyP l = Uh l := by unfold keyP; rw [if_pos oM]
   have hmk := Qg8 (bb := bb) hK
   have m12 := Mem.drop [_] _ (Mem.pick [_] [_] _ m9)
   exact ⟨b14, by rw [Tt]; rfl, hmk ▸ m12⟩
 ·
  have hc1p := of_decide_eq_false hc1
  refine Qo (Qa (sR ?_))
  refine Y5 (Dq m0 Zx Yw rfl rfl oM oM oM oM) fun w13 b14_1 m13 => ?_
  rw [Ph u8 0 rfl] at m13
  have m13 : Mem w13 (Qu w0) [(b14_1, .cells (cl u8 (List.replicate 64 (0 : BitVec 8))) 5 (0, 0))] := m13
  refine Zv (Kq b14_1 0 64 64) ?_
  refine rN (sR ?_)
  refine Zb (Kq b14_1 0 64 64) <| Zb vb <| G5 (Qbo (f := u8) rfl rfl (Rd.ofRest hr m13) Zx Yw Q9 m13.h0 sD sD (Nat.le_refl _)) ?_
  rintro _ w14 ⟨rfl, uq14⟩
  have m14 : Mem w14 (Qu w0) ([(b14_1, .cells (cl u8 (l ++ (List.replicate 64 (0 : BitVec 8)).drop l.length)) 5 (0, 0))]) := m13.upd0 uq14
  refine rN (Qc (Qc ?_))
  have hBl : (l ++ (List.replicate 64 (0 : BitVec 8)).drop l.length).length = 64 := by simp; try omega
  refine Qb <| Zb (Kq b14_1 0 64 64) <| Qd (Qa1 Zx rfl) <| Zb (i64 0) ?_
  refine rN (Qj ?_)
  refine Jq (fun g wv => ∃ (k : Nat), (k ≤ 64) ∧ g 0 = vb ∧ g 1 = (u8 bb) ∧ g 4 = Jp ∧ g 6 = (Kq b14_1 0 64 64) ∧ g 10 = (bl (decide (64 < (l.length : Int)))) ∧ g 19 = (i64 64) ∧ g 20 = (i64 (k : Int)) ∧ Mem wv (Qu w0) ([(b14_1, .cells (cl u8 (Vr (fun i => (l ++ (List.replicate 64 (0 : BitVec 8)).drop l.length).getD i 0 ^^^ bb) (l ++ (List.replicate 64 (0 : BitVec 8)).drop l.length) k)) 5 (0, 0))])) (fun g wv => (64 - RowKit.intOf (g 20)).toNat) ?_ ?_
  ·exact ⟨0, oM, rfl, rfl, rfl, rfl, rfl, rfl, rfl, (by rw [Qbg]; exact m14)⟩
  rintro fr15 w16 ⟨k, hk, s0, s1, s4, s6, s10, s19, s20, m16⟩
  have z20 := s20
  have hol := Rx (fun i => (l ++ (List.replicate 64 (0 : BitVec 8)).drop l.length).getD i 0 ^^^ bb) (l ++ (List.replicate 64 (0 : BitVec 8)).drop l.length) k oM
  refine sR <| Qd (Xy (b := 64) s20 s19) ?_
  refine rN (Qc ?_)
  refine Xb rfl (fun hc17 => ?_) (fun hc17 => ?_)
  ·
   have hc17p := of_decide_eq_true hc17
   refine Qo (Qa (Qc (Qj (sR ?_))))
   refine Yk s20 <| Zv (i64 (k : Int)) ?_
   refine rN (Qb ?_)
   refine Yk s6 <| Zb (i64 (k : Int)) <| Qd (Po (r := k) oM Zx Yw rfl rfl oM sD) <| Qd (Ql Uu rfl rfl m16.h0 (Qv _ _ 0 sD)) <| Yk s1 <| Qd (Qa0 rfl rfl) <| Qd (Po (r := k) oM Zx Yw rfl rfl oM sD) <| Yb m16 (X9 (f := u8) (a := ((Vr (fun i => (l ++ (List.replicate 64 (0 : BitVec 8)).drop l.length).getD i 0 ^^^ bb) (l ++ (List.replicate 64 (0 : BitVec 8)).drop l.length) k).getD k 0) ^^^ bb) Q9 Yw rfl rfl m16.h0 sD (.inl (Nat.zero_le _))) fun w18 m18 => ?_
   refine Zo (Qh (Qb ?_))
   refine Qd (Z9 (b := 1) s20 rfl oM oM) <| Zb (i64 ((k : Int) + 1)) <| rN ?_
   exact ⟨⟨k + 1, oM, s0, s1, s4, s6, s10, s19, rfl, (by rw [← Qch _ _ _ oM _ rfl, ← Qci (fun i => (l ++ (List.replicate 64 (0 : BitVec 8)).drop l.length).getD i 0 ^^^ bb) (l ++ (List.replicate 64 (0 : BitVec 8)).drop l.length) k 0]; exact m18)⟩, Am rfl z20 oM oM⟩
  ·
   have hc17p := of_decide_eq_false hc17
   obtain rfl : k = 64 := by omega
   refine Yc ?_
   refine Qr (Qr (Xp ?_))
   refine sR <| Yk s6 <| Zv (Kq b14_1 0 64 64) ?_
   refine rN (Zy ?_)
   refine Qs [(Kq b14_1 0 64 64)] ⟨rfl, trivial⟩ ?_
   have hK : keyP l = l := by unfold keyP; rw [if_neg oM]
   have hmk := Qg8 (bb := bb) hK
   exact ⟨b14_1, by rw [Tt]; rfl, hmk ▸ m16⟩
set_option maxHeartbeats 1000000 in
theorem N7 (vb : Value) (l : Zj) (vp : Value) (ps : List (Value × Zj)) (w0 : World)  (hT : Tabs (Yn w0)) (hr : Rd (Yn w0) u8 vb l) (hl : l.length ≤ 1099511627776) (hrp : Rd (Yn w0) Prod.fst vp ps) (hps : ∀ p ∈ ps, Rd (Yn w0) u8 p.1 p.2) (hpl : (Ji ps).length ≤ 1099511627776) (hpn : ps.length ≤ 1099511627776) : Xm prog 59 #[vb, vp] w0 (fun r w1 => r = (agg u8 (Zu l (Ji ps))) ∧ Ext w0 w1) := by
 refine Qy (args := [vb, vp]) func59 rfl ntmps59 results59 rfl ?_
 have m0 : Mem w0 (Qu w0) [] := Mem.of_world w0
 refine sR <| Y5 (Zf m0 Zi) fun w1 b4 m1 => ?_
 refine rN (sR ?_)
 refine G5 (oc84 (args0) (c_hnew _ (hT.mono fun b o e => (m1).rest b o e))) ?_
 rintro _ w2 ⟨bq3, rfl, k_w2⟩
 have m2 : Mem _ _ [_, _] := Mem.new (H := [_]) (H' := [(bq3, .cells #[(u32 1779033703#32), (u32 3144134277#32), (u32 1013904242#32), (u32 2773480762#32), (u32 1359893119#32), (u32 2600822924#32), (u32 528734635#32), (u32 1541459225#32), Jp, (u64 0#64)] 154 (0, 0))]) m1 k_w2
 refine Zv (ptr bq3 0) ?_
 refine rN (sR ?_)
 refine Zb (ptr bq3 0) <| Zb vb <| G5 (oc86 (X3 rfl rfl) (Qkw vb l 54#8 _ (hT.mono fun b o e => (m2).rest b o e) (Rd.ofRest hr m2) sD)) ?_
 rintro _ w4 ⟨bq5, rfl, k_w4⟩
 have m4 : Mem _ _ [_, _, _] := Mem.new (H := [_, _]) (H' := [(bq5, .cells (cl u8 (Jc l 54#8)) 5 (0, 0))]) m2 k_w4
 have hF7 : Mem w4 (Qu w0) (([(bq3, .cells #[(u32 1779033703#32), (u32 3144134277#32), (u32 1013904242#32), (u32 2773480762#32), (u32 1359893119#32), (u32 2600822924#32), (u32 528734635#32), (u32 1541459225#32), Jp, (u64 0#64)] 154 (0, 0))] ++ ([] ++ ([]))) ++ ([(bq5, .cells (cl u8 (Jc l 54#8)) 5 (0, 0)), (b4, .cells (cl u8 (List.replicate 32 0)) 23 (0, 0))])) := by
  have hT := (Mem.pick [_] [_] _ m4)
  try simp only [List.append_assoc, List.cons_append, List.nil_append, List.append_nil] at hT ⊢
  exact hT
 refine G5 (oc85 (X3 rfl rfl) (Qew bq3 1779033703#32 3144134277#32 1013904242#32 2773480762#32 1359893119#32 2600822924#32 528734635#32 1541459225#32 Jp ([]) ([]) 0#64 (Kq bq5 0 ((Jc l 54#8).length) ((Jc l 54#8).length)) (Jc l 54#8) _ _ (Mem.give hF7) (hT.mono fun b o e => Mem.addRest hF7 e) (Rd.mkA (Mem.addOwn hF7 (List.Mem.head _))) (Xl.none u8 5) sD)) ?_
 rintro _ w6 ⟨y0q8, y1q8, y2q8, y3q8, y4q8, y5q8, y6q8, y7q8, sv2q8, Hs2q8, hyq8, gl2q8, k_w6⟩
 have m6 : Mem w6 (Qu w0) ([(bq3, .cells #[(u32 y0q8), (u32 y1q8), (u32 y2q8), (u32 y3q8), (u32 y4q8), (u32 y5q8), (u32 y6q8), (u32 y7q8), sv2q8, (u64 (0#64 + BitVec.ofInt 64 ((Jc l 54#8).length : Int)))] 154 (0, 0))] ++ (Hs2q8 ++ ([(bq5, .cells (cl u8 (Jc l 54#8)) 5 (0, 0)), (b4, .cells (cl u8 (List.replicate 32 0)) 23 (0, 0))]))) := ymA (Mem.back hF7 k_w6)
 have hH0 := Holds.new.write hyq8
 refine rN (Qc (sR ?_))
 refine Zb vp <| Qd (Yg (Rd.ofRest hrp m6) Qeb rfl) <| Zb (i64 0) ?_
 refine rN (Qj ?_)
 refine Jq (fun g wv => ∃ (k : Nat) (z0 z1 z2 z3 z4 z5 z6 z7 : BitVec 32) (sv3 : Value) (l3 : Zj) (Hs3 : List (Nat × Obj)) (nn : BitVec 64), (k ≤ ps.length) ∧ (Holds (Jc l 54#8 ++ Ji (ps.take k)) [z0, z1, z2, z3, z4, z5, z6, z7] l3 nn) ∧ (Xl u8 5 sv3 l3 Hs3) ∧ g 0 = vb ∧ g 1 = vp ∧ g 4 = (ptr b4 0) ∧ g 5 = (ptr bq3 0) ∧ g 14 = vp ∧ g 15 = (i64 (ps.length : Int)) ∧ g 16 = (i64 (k : Int)) ∧ Mem wv (Qu w0) ([(bq3, .cells #[(u32 z0), (u32 z1), (u32 z2), (u32 z3), (u32 z4), (u32 z5), (u32 z6), (u32 z7), sv3, (u64 nn)] 154 (0, 0))] ++ (Hs3 ++ ([(bq5, .cells (cl u8 (Jc l 54#8)) 5 (0, 0)), (b4, .cells (cl u8 (List.replicate 32 0)) 23 (0, 0))])))) (fun g wv => ((ps.length : Int) - RowKit.intOf (g 16)).toNat) ?_ ?_
 ·exact ⟨0, y0q8, y1q8, y2q8, y3q8, y4q8, y5q8, y6q8, y7q8, sv2q8, ((([]) ++ (Jc l 54#8)).drop (64 * ((([]) ++ (Jc l 54#8)).length / 64))), Hs2q8, (0#64 + BitVec.ofInt 64 ((Jc l 54#8).length : Int)), oM, (by simpa [Ji] using hH0), gl2q8, rfl, rfl, rfl, rfl, rfl, rfl, rfl, m6⟩
 rintro fr9 w10 ⟨k, z0, z1, z2, z3, z4, z5, z6, z7, sv3, l3, Hs3, nn, hk, hH, gl3, s0, s1, s4, s5, s14, s15, s16, m10⟩
 have z16 := s16
 have hlt := hH.lt
 have hpk := joinL_le ps k
 refine sR <| Qd (Xy s16 s15) ?_
 refine rN (Qc ?_)
 refine Xb rfl (fun hc11 => ?_) (fun hc11 => ?_)
 ·
  have hc11p := of_decide_eq_true hc11
  refine Qo (Qa (Qc (Qj (sR ?_))))
  refine Qd (Xr (Rd.ofRest hrp m10) Qeb Mc s14 s16 oM sD) <| Qd (v := ((ps.getD k (undef, [])).1)) (Y4 (l := ps) (i := (k : Int)) (dflt := (undef, [])) (Rd.ofRest hrp m10) Zx rfl oM sD rfl) <| Zv ((ps.getD k (undef, [])).1) ?_
  refine rN (Qb ?_)
  refine Yk s5 <| Zb ((ps.getD k (undef, [])).1) ?_
  have hF13 : Mem w10 (Qu w0) (([(bq3, .cells #[(u32 z0), (u32 z1), (u32 z2), (u32 z3), (u32 z4), (u32 z5), (u32 z6), (u32 z7), sv3, (u64 nn)] 154 (0, 0))] ++ (Hs3 ++ ([]))) ++ ([(bq5, .cells (cl u8 (Jc l 54#8)) 5 (0, 0)), (b4, .cells (cl u8 (List.replicate 32 0)) 23 (0, 0))])) := by
   have hT := (Mem.pick Hs3 [_] _ (Mem.pick [_] Hs3 _ m10))
   try simp only [List.append_assoc, List.cons_append, List.nil_append, List.append_nil] at hT ⊢
   exact hT
  refine G5 (oc85 (X3 rfl rfl) (Qew bq3 z0 z1 z2 z3 z4 z5 z6 z7 sv3 l3 Hs3 nn ((ps.getD k (undef, [])).1) ((ps.getD k (undef, [])).2) _ _ (Mem.give hF13) (hT.mono fun b o e => Mem.addRest hF13 e) (Rd.addRest hF13 (hps _ (getD_in (z := (undef, [])) oM))) gl3 sD)) ?_
  rintro _ w12 ⟨y0q14, y1q14, y2q14, y3q14, y4q14, y5q14, y6q14, y7q14, sv2q14, Hs2q14, hyq14, gl2q14, k_w12⟩
  have m12 : Mem w12 (Qu w0) ([(bq3, .cells #[(u32 y0q14), (u32 y1q14), (u32 y2q14), (u32 y3q14), (u32 y4q14), (u32 y5q14), (u32 y6q14), (u32 y7q14), sv2q14, (u64 (nn + BitVec.ofInt 64 (((ps.getD k (undef, [])).2).length : Int)))] 154 (0, 0))] ++ (Hs2q14 ++ ([(bq5, .cells (cl u8 (Jc l 54#8)) 5 (0, 0)), (b4, .cells (cl u8 (List.replicate 32 0)) 23 (0, 0))]))) := ymA (Mem.back hF13 k_w12)
  refine Zo (Qh (Qb ?_))
  refine Qd (Z9 (b := 1) s16 rfl oM oM) <| Zb (i64 ((k : Int) + 1)) <| rN ?_
  have hHn := hH.write hyq14
  rw [List.append_assoc, ← Qfv ps k oM] at hHn
  exact ⟨⟨k + 1, y0q14, y1q14, y2q14, y3q14, y4q14, y5q14, y6q14, y7q14, sv2q14, ((l3 ++ ((ps.getD k (undef, [])).2)).drop (64 * ((l3 ++ ((ps.getD k (undef, [])).2)).length / 64))), Hs2q14, (nn + BitVec.ofInt 64 (((ps.getD k (undef, [])).2).length : Int)), oM, hHn, gl2q14, s0, s1, s4, s5, s14, s15, rfl, m12⟩, Am rfl z16 oM oM⟩
 ·
  have hc11p := of_decide_eq_false hc11
  obtain rfl : k = ps.length := by omega
  rw [List.take_length] at hH
  have hlt := hH.lt
  refine Yc ?_
  refine Qr (Qr (Xp ?_))
  refine sR <| Yk s5 <| Dx m10 (oc87 (Jb rfl) (c_dsum bq3 z0 z1 z2 z3 z4 z5 z6 z7 sv3 l3 nn _ (hT.mono fun b o e => (m10).rest b o e) m10.h0 (gl3.rd (Mem.pick [_] Hs3 _ m10)) sD)) fun w15 m15 => Y5 (Zf m15 Zi) fun w17 b8 m17 => Yb m17 (Qq (f := u8) (l := Un [z0, z1, z2, z3, z4, z5, z6, z7] l3 nn) Q9 Zi rfl rfl sD m17.h0 sZ rfl) fun w18 m18 => ?_
  refine rN (Qc ?_)
  refine Xj [(0, false), (2, false), (1, true)] 3 Xh <| yqE rfl s0 <| Xq rfl (Z7 (i := 0) (j := 32) Xf Yw rfl (Zc _ _) (Zc _ _) oM sD sD) ?_
  refine Ba rfl rfl (fun w19 e19 => ?_)
  have m19 := m18.ext e19
  refine J8.mono (oc86 (X3 rfl rfl) (Qkw vb l 92#8 _ (hT.mono fun b o e => (m19).rest b o e) (Rd.ofRest hr m19) sD)) ?_
  rintro _ w20 ⟨bq21, rfl, k_w20⟩
  refine ⟨k_w20.toExt, ?_⟩
  have m20 : Mem _ _ ([_, _, _] ++ (Hs3 ++ ([_, _]))) := Mem.new (H := [_, _] ++ (Hs3 ++ ([_, _]))) (H' := [(bq21, .cells (cl u8 (Jc l 92#8)) 5 (0, 0))]) m19 k_w20
  refine Ug m20 fun w22 m22 => G5 (Yl (f := u8) (Hs := [(bq21, .cells (cl u8 (Jc l 92#8)) 5 (0, 0))]) (H := [_, _] ++ (Hs3 ++ ([_, _]))) m22 (Xl.of u8 5 bq21 (Jc l 92#8)) rfl rfl (Rd.slaAll m22.h1 sD) Zx Zx Yw rfl Q9 sD sD) ?_
  rintro sv23 w23 ⟨Hs23, m23, g23⟩
  replace g23 : Xl u8 5 sv23 ((Jc l 92#8) ++ (Un [z0, z1, z2, z3, z4, z5, z6, z7] l3 nn)) Hs23 := g23
  refine Dx m23 (oc88 (Jb rfl) (c_hsum sv23 ((Jc l 92#8) ++ (Un [z0, z1, z2, z3, z4, z5, z6, z7] l3 nn)) _ (hT.mono fun b o e => (m23).rest b o e) (g23.rd m23) sD)) fun w24 m24 => Ve (Qq (f := u8) (l := Uh ((Jc l 92#8) ++ (Un [z0, z1, z2, z3, z4, z5, z6, z7] l3 nn))) Q9 Zi s4 rfl sD ((Mem.pick4 Hs23 [_, _] Hs3 [_] [_] _ m24)).h0 sZ rfl) ?_
  rintro _ w26 uq26
  have m26 : Mem _ _ ([_] ++ (Hs23 ++ ([_, _] ++ (Hs3 ++ ([_]))))) := Mem.upd0 (Mem.pick4 Hs23 [_, _] Hs3 [_] [_] _ m24) uq26
  refine rN (Zy ?_)
  refine Qs [(agg u8 (Uh ((Jc l 92#8) ++ (Un [z0, z1, z2, z3, z4, z5, z6, z7] l3 nn))))] ⟨⟨_, s4, Xi Xf rfl Zi m26.h0 sZ⟩, trivial⟩ ?_
  exact ⟨congrArg (agg u8) (by unfold Zu; rw [hH.sum]), m26.toExt⟩
end Go.Proofs.YtkmiemlpfkfiiaaDoor
