/- Contracts: hash, fifth part. Conditions: none beyond those that each theorem states. -/
import Derived.Test.YtkmiemlpfkfiiaaDoorHa3
namespace Go.Proofs.YtkmiemlpfkfiiaaDoor
open Tryd
section
set_option linter.unusedVariables false
set_option linter.unusedSimpArgs false
attribute [local irreducible] Df U4 hAt Qg2
set_option maxHeartbeats 4000000 in
theorem c_hsum (vb : Value) (l : Xg) (w0 : World)  (hT : Tabs (Jl w0)) (hr : Rd (Jl w0) u8 vb l) (hl : l.length ≤ 35184372088832) : X9 prog 88 #[vb] w0 (fun r w1 => r = (agg u8 (U4 l)) ∧ Ext w0 w1) := by
 refine Zb (args := [vb]) func88 rfl ntmps88 results88 rfl ?_
 have m0 : Mem w0 (Qu w0) [] := Mem.of_world w0
 refine sR <| Y9 (Zc m0 Zl) fun w1 b2 m1 => ?_
 refine rN (sR ?_)
 refine Vy (oc84 (Qn9) (c_hnew _ (hT.mono fun b o e => (m1).rest b o e))) ?_
 rintro _ w2 ⟨bq3, rfl, k_w2⟩
 have m2 : Mem _ _ [_, _] := Mem.new (H := [_]) (H' := [(bq3, .cells #[(u32 1779033703#32), (u32 3144134277#32), (u32 1013904242#32), (u32 2773480762#32), (u32 1359893119#32), (u32 2600822924#32), (u32 528734635#32), (u32 1541459225#32), Yj, (u64 0#64)] 154 (0, 0))]) m1 k_w2
 refine Zz (ptr bq3 0) ?_
 refine rN (sR ?_)
 refine Zp (ptr bq3 0) <| Zp vb ?_
 have hF5 : Mem w2 (Qu w0) (([(bq3, .cells #[(u32 1779033703#32), (u32 3144134277#32), (u32 1013904242#32), (u32 2773480762#32), (u32 1359893119#32), (u32 2600822924#32), (u32 528734635#32), (u32 1541459225#32), Yj, (u64 0#64)] 154 (0, 0))] ++ ([] ++ ([]))) ++ ([(b2, .cells (cl u8 (List.replicate 32 0)) 23 (0, 0))])) := by
  have hT := m2
  try simp only [List.append_assoc, List.cons_append, List.nil_append, List.append_nil] at hT ⊢
  exact hT
 refine Vy (oc85 (Xm rfl rfl) (Qh8 bq3 1779033703#32 3144134277#32 1013904242#32 2773480762#32 1359893119#32 2600822924#32 528734635#32 1541459225#32 Yj ([]) ([]) 0#64 vb l _ _ (Mem.give hF5) (hT.mono fun b o e => Mem.addRest hF5 e) (Rd.addRest hF5 hr) (Xe.none u8 5) sD)) ?_
 rintro _ w4 ⟨y0q6, y1q6, y2q6, y3q6, y4q6, y5q6, y6q6, y7q6, sv2q6, Hs2q6, hyq6, gl2q6, k_w4⟩
 have m4 : Mem w4 (Qu w0) ([(bq3, .cells #[(u32 y0q6), (u32 y1q6), (u32 y2q6), (u32 y3q6), (u32 y4q6), (u32 y5q6), (u32 y6q6), (u32 y7q6), sv2q6, (u64 (0#64 + BitVec.ofInt 64 (l.length : Int)))] 154 (0, 0))] ++ (Hs2q6 ++ ([(b2, .cells (cl u8 (List.replicate 32 0)) 23 (0, 0))]))) := ymA (Mem.back hF5 k_w4)
 refine rN (sR ?_)
 refine Zp (ptr bq3 0) <| U9 m4 (oc87 (Kt rfl) (c_dsum bq3 y0q6 y1q6 y2q6 y3q6 y4q6 y5q6 y6q6 y7q6 sv2q6 ((([]) ++ l).drop (64 * ((([]) ++ l).length / 64))) (0#64 + BitVec.ofInt 64 (l.length : Int)) _ (hT.mono fun b o e => (m4).rest b o e) m4.h0 (gl2q6.rd (Mem.pick [_] Hs2q6 _ m4)) (by simp; omega))) fun w7 m7 => Vk (Qj (f := u8) (l := Df [y0q6, y1q6, y2q6, y3q6, y4q6, y5q6, y6q6, y7q6] ((([]) ++ l).drop (64 * ((([]) ++ l).length / 64))) (0#64 + BitVec.ofInt 64 (l.length : Int))) Qy Zl rfl rfl sD ((Mem.pick2 [_] Hs2q6 [_] _ m7)).h0 sZ rfl) ?_
 rintro _ w9 uq9
 have m9 : Mem _ _ ([_, _] ++ (Hs2q6 ++ ([]))) := Mem.upd0 (Mem.pick2 [_] Hs2q6 [_] _ m7) uq9
 refine rN (Xb ?_)
 refine Qv [(agg u8 (Df [y0q6, y1q6, y2q6, y3q6, y4q6, y5q6, y6q6, y7q6] ((([]) ++ l).drop (64 * ((([]) ++ l).length / 64))) (0#64 + BitVec.ofInt 64 (l.length : Int))))] ⟨⟨_, rfl, Xr Xq rfl Zl m9.h0 sZ⟩, trivial⟩ ?_
 exact ⟨congrArg (agg u8) (sum_told hyq6), m9.toExt⟩
end --m
section
set_option linter.unusedVariables false
set_option linter.unusedSimpArgs false
theorem Qnr (h : List (BitVec 32)) (l p : Xg) : ∀ m, 64 * m ≤ l.length → hAt h (l ++ p) m = hAt h l m := by
 intro m
 induction m with
 | zero => intro _; rfl
 | succ m ih =>
  intro hm
  simp only [hAt]
  rw [ih oM]
  congr 1
  rw [List.drop_append_of_le_length oM, List.take_append_of_le_length (by simp; omega)]
theorem Qqm (h : List (BitVec 32)) (l : Xg) (q : Nat) : ∀ m, hAt (hAt h l q) (l.drop (64 * q)) m = hAt h l (q + m) := by
 intro m
 induction m with
 | zero => rfl
 | succ m ih =>
  rw [← Nat.add_assoc]
  simp only [hAt]
  rw [ih, List.drop_drop]
  congr 4; omega
structure Holds (M : Xg) (hs : List (BitVec 32)) (ll : Xg) (n : BitVec 64) : Prop where
 words : hs = hAt Qb2 M (M.length / 64)
 left : ll = M.drop (64 * (M.length / 64))
 size : n = 0#64 + BitVec.ofInt 64 (M.length : Int)
theorem Holds.new : Holds [] [1779033703#32, 3144134277#32, 1013904242#32, 2773480762#32, 1359893119#32, 2600822924#32, 528734635#32, 1541459225#32] [] 0#64 := ⟨rfl, rfl, rfl⟩
theorem Holds.lt {M ll : Xg} {hs : List (BitVec 32)} {n : BitVec 64} (h : Holds M hs ll n) : ll.length < 64 := by rw [h.left]; simp; omega
theorem Holds.write {M ll p : Xg} {hs ys : List (BitVec 32)} {n : BitVec 64} (h : Holds M hs ll n) (hy : ys = hAt hs (ll ++ p) ((ll ++ p).length / 64)) :
  Holds (M ++ p) ys ((ll ++ p).drop (64 * ((ll ++ p).length / 64))) (n + BitVec.ofInt 64 (p.length : Int)) := by
 obtain ⟨rfl, rfl, rfl⟩ := h
 have e0 : M.drop (64 * (M.length / 64)) ++ p = (M ++ p).drop (64 * (M.length / 64)) := by rw [List.drop_append_of_le_length oM]
 have e1 : (M.drop (64 * (M.length / 64)) ++ p).length = M.length + p.length - 64 * (M.length / 64) := by simp; omega
 have e2 : M.length / 64 + (M.drop (64 * (M.length / 64)) ++ p).length / 64 = (M ++ p).length / 64 := by rw [e1]; simp; omega
 refine ⟨?_, ?_, ?_⟩
 ·rw [hy, ← e2, ← Qnr Qb2 M p (M.length / 64) oM, e0, Qqm]
 ·rw [← e2]
  generalize (M.drop (64 * (M.length / 64)) ++ p).length / 64 = q
  rw [e0, List.drop_drop]; congr 1; omega
 rw [BitVec.add_assoc, ← BitVec.ofInt_add]; simp
theorem Holds.sum {M ll : Xg} {hs : List (BitVec 32)} {n : BitVec 64} (h : Holds M hs ll n) : Df hs ll n = U4 M := by
 obtain ⟨rfl, rfl, rfl⟩ := h; rfl
def Qay (key : Xg) : Xg := if 64 < key.length then U4 key else key
theorem Qh5 (key : Xg) : (Qay key).length ≤ 64 := by
 unfold Qay; split
 ·simp
 omega
def Vh (key : Xg) (bb : BitVec 8) : Xg := (Qay key ++ List.replicate (64 - (Qay key).length) 0).map (· ^^^ bb)
@[simp] theorem Qc6 (key : Xg) (bb : BitVec 8) : (Vh key bb).length = 64 := by have := Qh5 key; simp [Vh]; omega
def Xk (key b : Xg) : Xg := U4 (Vh key 92#8 ++ U4 (Vh key 54#8 ++ b))
@[simp] theorem Gi (key b : Xg) : (Xk key b).length = 32 := Qmw _
def Fe {α : Type} (g : Nat → α) (l : List α) (k : Nat) : List α := (List.range k).map g ++ l.drop k
theorem Qeb {α : Type} (g : Nat → α) (l : List α) : Fe g l 0 = l := by simp [Fe]
theorem Qck {α : Type} (g : Nat → α) (l : List α) (k : Nat) (h : k ≤ l.length) : (Fe g l k).length = l.length := by simp [Fe]; omega
theorem Qfg {α : Type} (g : Nat → α) (l : List α) (k : Nat) (z : α) : (Fe g l k).getD k z = l.getD k z := by
 simp [Fe, List.getD_eq_getElem?_getD, List.getElem?_append_right]
theorem Qff {α : Type} (g : Nat → α) (l : List α) (k : Nat) (h : k < l.length) (x : α) (hx : x = g k) : (Fe g l k).set k x = Fe g l (k + 1) := by
 subst hx
 unfold Fe
 rw [List.set_append_right _ _ X7, List.range_succ, List.map_append, List.drop_eq_getElem_cons h]
 simp only [List.length_map, List.length_range, Nat.sub_self, List.set_cons_zero, List.map_cons, List.map_nil, List.append_assoc, List.cons_append, List.nil_append]
theorem Qly {α : Type} (g : Nat → α) (l : List α) : Fe g l l.length = (List.range l.length).map g := by simp [Fe]
theorem Qni {α β : Type} (f : α → β) (l : List α) (z : α) : (List.range l.length).map (fun i => f (l.getD i z)) = l.map f := by
 refine List.ext_getElem X7 fun i h1 h2 => ?_
 simp only [List.length_map, List.length_range] at h1
 simp [List.getD_eq_getElem?_getD, h1]
theorem Qkv {key M : Xg} {bb : BitVec 8} (hM : Qay key = M) : Fe (fun i => (M ++ (List.replicate 64 0).drop M.length).getD i 0 ^^^ bb) (M ++ (List.replicate 64 0).drop M.length) 64 = Vh key bb := by
 have hle := Qh5 key
 rw [hM] at hle
 have e : (M ++ (List.replicate 64 (0 : BitVec 8)).drop M.length).length = 64 := by simp; omega
 have h2 := Qly (fun i => (M ++ (List.replicate 64 (0 : BitVec 8)).drop M.length).getD i 0 ^^^ bb) (M ++ (List.replicate 64 (0 : BitVec 8)).drop M.length)
 rw [e] at h2
 rw [h2]
 have h3 := Qni (fun x => x ^^^ bb) (M ++ (List.replicate 64 (0 : BitVec 8)).drop M.length) 0
 rw [e] at h3
 rw [h3]
 unfold Vh
 rw [hM, List.drop_replicate]
def Vu (ps : List (Value × Xg)) : Xg := ps.flatMap (·.2)
theorem Qja (ps : List (Value × Xg)) (k : Nat) (h : k < ps.length) : Vu (ps.take (k + 1)) = Vu (ps.take k) ++ (ps.getD k (undef, [])).2 := by
 unfold Vu
 rw [List.take_add_one, List.flatMap_append]
 simp [List.getD_eq_getElem?_getD, h]
theorem joinL_le (ps : List (Value × Xg)) (k : Nat) : (ps.getD k (undef, [])).2.length ≤ (Vu ps).length := by
 by_cases h : k < ps.length
 ·have := Qja ps k h
  have h2 : Vu ps = Vu (ps.take (k + 1)) ++ Vu (ps.drop (k + 1)) := by unfold Vu; rw [← List.flatMap_append, List.take_append_drop]
  rw [h2, this]; simp; omega
 simp [List.getD_eq_getElem?_getD, Nat.le_of_not_lt h]
theorem getD_in {α : Type} {ps : List α} {k : Nat} {z : α} (h : k < ps.length) : ps.getD k z ∈ ps := by
 simp [List.getD_eq_getElem?_getD, h]
attribute [local irreducible] Df U4 hAt Qg2
theorem Qn3 (vb : Value) (l : Xg) (bb : BitVec 8) (w0 : World)  (hT : Tabs (Jl w0)) (hr : Rd (Jl w0) u8 vb l) (hl : l.length ≤ 35184372088832) : X9 prog 86 #[vb, (u8 bb)] w0 (fun r w1 => ∃ b, r = Wq b 0 (Vh l bb).length (Vh l bb).length ∧ Mem w1 (Qu w0) [(b, .cells (cl u8 (Vh l bb)) 5 (0, 0))]) := by
 refine Zb (args := [vb, (u8 bb)]) func86 rfl ntmps86 results86 rfl ?_
 have m0 : Mem w0 (Qu w0) [] := Mem.of_world w0
 refine sR <| Zz Yj ?_
 refine rN (Qa (sR ?_))
 refine Zp vb <| Qd (Yl (Rd.ofRest hr m0) Zu rfl) <| Qd (Gm (b := 64) rfl rfl) <| rN ?_
 refine Z8 rfl (fun hc1 => ?_) (fun hc1 => ?_)
 ·
  have hc1p := of_decide_eq_true hc1
  refine sR <| Zp vb <| U9 m0 (oc88 (Kt rfl) (c_hsum vb l _ (hT.mono fun b o e => (m0).rest b o e) (Rd.ofRest hr m0) sD)) fun w2 m2 => Y9 (Zc m2 Zl) fun w4 b5 m4 => Ye m4 (Qj (f := u8) (l := U4 l) Qy Zl rfl rfl sD m4.h0 sZ rfl) fun w5 m5 => ?_
  refine rN (Qb ?_)
  refine Qd (Xo (i := 0) (j := 32) Xq Y0 rfl (Zi _ _) (Zi _ _) oM sD sD) <| Zz (sla b5 0 1 0 32 32) ?_
  refine rN (sR ?_)
  refine Y9 (Aw m5 Zu Y0 rfl rfl oM oM oM oM) fun w6 b14 m6 => ?_
  rw [Tv u8 0 rfl] at m6
  have m6 : Mem w6 (Qu w0) [(b14, .cells (cl u8 (List.replicate 64 (0 : BitVec 8))) 5 (0, 0)), (b5, .cells (cl u8 (U4 l)) 23 (0, 0))] := m6
  refine Zz (Wq b14 0 64 64) ?_
  refine rN (sR ?_)
  refine Zp (Wq b14 0 64 64) <| Zp (sla b5 0 1 0 32 32) <| Vy (Qep (f := u8) rfl rfl (Rd.slaAll m6.h1 sD) Zu Y0 Qy m6.h0 sD sD (Nat.le_refl _)) ?_
  rintro _ w7 ⟨rfl, uq7⟩
  have m7 : Mem w7 (Qu w0) ([(b14, .cells (cl u8 ((U4 l) ++ (List.replicate 64 (0 : BitVec 8)).drop (U4 l).length)) 5 (0, 0)), (b5, .cells (cl u8 (U4 l)) 23 (0, 0))]) := m6.upd0 uq7
  refine rN (Qa (Qa ?_))
  have hBl : ((U4 l) ++ (List.replicate 64 (0 : BitVec 8)).drop (U4 l).length).length = 64 := by simp; try omega
  refine Qb <| Zp (Wq b14 0 64 64) <| Qd (P5 Zu rfl) <| Zp (i64 0) ?_
  refine rN (Qk ?_)
  refine Y7 (fun g wv => ∃ (k : Nat), (k ≤ 64) ∧ g 0 = (sla b5 0 1 0 32 32) ∧ g 1 = (u8 bb) ∧ g 4 = Yj ∧ g 5 = (ptr b5 0) ∧ g 6 = (Wq b14 0 64 64) ∧ g 10 = (bl (decide (64 < (l.length : Int)))) ∧ g 19 = (i64 64) ∧ g 20 = (i64 (k : Int)) ∧ Mem wv (Qu w0) ([(b14, .cells (cl u8 (Fe (fun i => ((U4 l) ++ (List.replicate 64 (0 : BitVec 8)).drop (U4 l).length).getD i 0 ^^^ bb) ((U4 l) ++ (List.replicate 64 (0 : BitVec 8)).drop (U4 l).length) k)) 5 (0, 0)), (b5, .cells (cl u8 (U4 l)) 23 (0, 0))])) (fun g wv => (64 - RowKit.intOf (g 20)).toNat) ?_ ?_
  ·exact ⟨0, oM, rfl, rfl, rfl, rfl, rfl, rfl, rfl, rfl, (by rw [Qeb]; exact m7)⟩
  rintro fr8 w9 ⟨k, hk, s0, s1, s4, s5, s6, s10, s19, s20, m9⟩
  have z20 := s20
  have hol := Qck (fun i => ((U4 l) ++ (List.replicate 64 (0 : BitVec 8)).drop (U4 l).length).getD i 0 ^^^ bb) ((U4 l) ++ (List.replicate 64 (0 : BitVec 8)).drop (U4 l).length) k oM
  refine sR <| Qd (Z9 (b := 64) s20 s19) ?_
  refine rN (Qa ?_)
  refine Z8 rfl (fun hc10 => ?_) (fun hc10 => ?_)
  ·
   have hc10p := of_decide_eq_true hc10
   refine Qs (Qc (Qa (Qk (sR ?_))))
   refine Ya s20 <| Zz (i64 (k : Int)) ?_
   refine rN (Qb ?_)
   refine Ya s6 <| Zp (i64 (k : Int)) <| Qd (Dv (r := k) oM Zu Y0 rfl rfl oM sD) <| Qd (Ql Gl rfl rfl m9.h0 (Qx _ _ 0 sD)) <| Ya s1 <| Qd (Pz rfl rfl) <| Qd (Dv (r := k) oM Zu Y0 rfl rfl oM sD) <| Ye m9 (Xz (f := u8) (a := ((Fe (fun i => ((U4 l) ++ (List.replicate 64 (0 : BitVec 8)).drop (U4 l).length).getD i 0 ^^^ bb) ((U4 l) ++ (List.replicate 64 (0 : BitVec 8)).drop (U4 l).length) k).getD k 0) ^^^ bb) Qy Y0 rfl rfl m9.h0 sD (.inl (Nat.zero_le _))) fun w11 m11 => ?_
   refine Zv (Qh (Qb ?_))
   refine Qd (Zg (b := 1) s20 rfl oM oM) <| Zp (i64 ((k : Int) + 1)) <| rN ?_
   exact ⟨⟨k + 1, oM, s0, s1, s4, s5, s6, s10, s19, rfl, (by rw [← Qff _ _ _ oM _ rfl, ← Qfg (fun i => ((U4 l) ++ (List.replicate 64 (0 : BitVec 8)).drop (U4 l).length).getD i 0 ^^^ bb) ((U4 l) ++ (List.replicate 64 (0 : BitVec 8)).drop (U4 l).length) k 0]; exact m11)⟩, Uo rfl z20 oM oM⟩
  ·
   have hc10p := of_decide_eq_false hc10
   obtain rfl : k = 64 := by omega
   refine X6 ?_
   refine Qm (Qm (Xi ?_))
   refine sR <| Ya s6 <| Zz (Wq b14 0 64 64) ?_
   refine rN (Xb ?_)
   refine Qv [(Wq b14 0 64 64)] ⟨rfl, trivial⟩ ?_
   have hK : Qay l = U4 l := by unfold Qay; rw [if_pos oM]
   have hmk := Qkv (bb := bb) hK
   have m12 := Mem.drop [_] _ (Mem.pick [_] [_] _ m9)
   exact ⟨b14, by rw [Qc6]; rfl, hmk ▸ m12⟩
 ·
  have hc1p := of_decide_eq_false hc1
  refine Qs (Qc (sR ?_))
  refine Y9 (Aw m0 Zu Y0 rfl rfl oM oM oM oM) fun w13 b14_1 m13 => ?_
  rw [Tv u8 0 rfl] at m13
  have m13 : Mem w13 (Qu w0) [(b14_1, .cells (cl u8 (List.replicate 64 (0 : BitVec 8))) 5 (0, 0))] := m13
  refine Zz (Wq b14_1 0 64 64) ?_
  refine rN (sR ?_)
  refine Zp (Wq b14_1 0 64 64) <| Zp vb <| Vy (Qep (f := u8) rfl rfl (Rd.ofRest hr m13) Zu Y0 Qy m13.h0 sD sD (Nat.le_refl _)) ?_
  rintro _ w14 ⟨rfl, uq14⟩
  have m14 : Mem w14 (Qu w0) ([(b14_1, .cells (cl u8 (l ++ (List.replicate 64 (0 : BitVec 8)).drop l.length)) 5 (0, 0))]) := m13.upd0 uq14
  refine rN (Qa (Qa ?_))
  have hBl : (l ++ (List.replicate 64 (0 : BitVec 8)).drop l.length).length = 64 := by simp; try omega
  refine Qb <| Zp (Wq b14_1 0 64 64) <| Qd (P5 Zu rfl) <| Zp (i64 0) ?_
  refine rN (Qk ?_)
  refine Y7 (fun g wv => ∃ (k : Nat), (k ≤ 64) ∧ g 0 = vb ∧ g 1 = (u8 bb) ∧ g 4 = Yj ∧ g 6 = (Wq b14_1 0 64 64) ∧ g 10 = (bl (decide (64 < (l.length : Int)))) ∧ g 19 = (i64 64) ∧ g 20 = (i64 (k : Int)) ∧ Mem wv (Qu w0) ([(b14_1, .cells (cl u8 (Fe (fun i => (l ++ (List.replicate 64 (0 : BitVec 8)).drop l.length).getD i 0 ^^^ bb) (l ++ (List.replicate 64 (0 : BitVec 8)).drop l.length) k)) 5 (0, 0))])) (fun g wv => (64 - RowKit.intOf (g 20)).toNat) ?_ ?_
  ·exact ⟨0, oM, rfl, rfl, rfl, rfl, rfl, rfl, rfl, (by rw [Qeb]; exact m14)⟩
  rintro fr15 w16 ⟨k, hk, s0, s1, s4, s6, s10, s19, s20, m16⟩
  have z20 := s20
  have hol := Qck (fun i => (l ++ (List.replicate 64 (0 : BitVec 8)).drop l.length).getD i 0 ^^^ bb) (l ++ (List.replicate 64 (0 : BitVec 8)).drop l.length) k oM
  refine sR <| Qd (Z9 (b := 64) s20 s19) ?_
  refine rN (Qa ?_)
  refine Z8 rfl (fun hc17 => ?_) (fun hc17 => ?_)
  ·
   have hc17p := of_decide_eq_true hc17
   refine Qs (Qc (Qa (Qk (sR ?_))))
   refine Ya s20 <| Zz (i64 (k : Int)) ?_
   refine rN (Qb ?_)
   refine Ya s6 <| Zp (i64 (k : Int)) <| Qd (Dv (r := k) oM Zu Y0 rfl rfl oM sD) <| Qd (Ql Gl rfl rfl m16.h0 (Qx _ _ 0 sD)) <| Ya s1 <| Qd (Pz rfl rfl) <| Qd (Dv (r := k) oM Zu Y0 rfl rfl oM sD) <| Ye m16 (Xz (f := u8) (a := ((Fe (fun i => (l ++ (List.replicate 64 (0 : BitVec 8)).drop l.length).getD i 0 ^^^ bb) (l ++ (List.replicate 64 (0 : BitVec 8)).drop l.length) k).getD k 0) ^^^ bb) Qy Y0 rfl rfl m16.h0 sD (.inl (Nat.zero_le _))) fun w18 m18 => ?_
   refine Zv (Qh (Qb ?_))
   refine Qd (Zg (b := 1) s20 rfl oM oM) <| Zp (i64 ((k : Int) + 1)) <| rN ?_
   exact ⟨⟨k + 1, oM, s0, s1, s4, s6, s10, s19, rfl, (by rw [← Qff _ _ _ oM _ rfl, ← Qfg (fun i => (l ++ (List.replicate 64 (0 : BitVec 8)).drop l.length).getD i 0 ^^^ bb) (l ++ (List.replicate 64 (0 : BitVec 8)).drop l.length) k 0]; exact m18)⟩, Uo rfl z20 oM oM⟩
  ·
   have hc17p := of_decide_eq_false hc17
   obtain rfl : k = 64 := by omega
   refine X6 ?_
   refine Qm (Qm (Xi ?_))
   refine sR <| Ya s6 <| Zz (Wq b14_1 0 64 64) ?_
   refine rN (Xb ?_)
   refine Qv [(Wq b14_1 0 64 64)] ⟨rfl, trivial⟩ ?_
   have hK : Qay l = l := by unfold Qay; rw [if_neg oM]
   have hmk := Qkv (bb := bb) hK
   exact ⟨b14_1, by rw [Qc6]; rfl, hmk ▸ m16⟩
set_option maxHeartbeats 1000000 in
theorem Qbh (vb : Value) (l : Xg) (vp : Value) (ps : List (Value × Xg)) (w0 : World)  (hT : Tabs (Jl w0)) (hr : Rd (Jl w0) u8 vb l) (hl : l.length ≤ 1099511627776) (hrp : Rd (Jl w0) Prod.fst vp ps) (hps : ∀ p ∈ ps, Rd (Jl w0) u8 p.1 p.2) (hpl : (Vu ps).length ≤ 1099511627776) (hpn : ps.length ≤ 1099511627776) : X9 prog 59 #[vb, vp] w0 (fun r w1 => r = (agg u8 (Xk l (Vu ps))) ∧ Ext w0 w1) := by
 refine Zb (args := [vb, vp]) func59 rfl ntmps59 results59 rfl ?_
 have m0 : Mem w0 (Qu w0) [] := Mem.of_world w0
 refine sR <| Y9 (Zc m0 Zl) fun w1 b4 m1 => ?_
 refine rN (sR ?_)
 refine Vy (oc84 (Qn9) (c_hnew _ (hT.mono fun b o e => (m1).rest b o e))) ?_
 rintro _ w2 ⟨bq3, rfl, k_w2⟩
 have m2 : Mem _ _ [_, _] := Mem.new (H := [_]) (H' := [(bq3, .cells #[(u32 1779033703#32), (u32 3144134277#32), (u32 1013904242#32), (u32 2773480762#32), (u32 1359893119#32), (u32 2600822924#32), (u32 528734635#32), (u32 1541459225#32), Yj, (u64 0#64)] 154 (0, 0))]) m1 k_w2
 refine Zz (ptr bq3 0) ?_
 refine rN (sR ?_)
 refine Zp (ptr bq3 0) <| Zp vb <| Vy (oc86 (Xm rfl rfl) (Qn3 vb l 54#8 _ (hT.mono fun b o e => (m2).rest b o e) (Rd.ofRest hr m2) sD)) ?_
 rintro _ w4 ⟨bq5, rfl, k_w4⟩
 have m4 : Mem _ _ [_, _, _] := Mem.new (H := [_, _]) (H' := [(bq5, .cells (cl u8 (Vh l 54#8)) 5 (0, 0))]) m2 k_w4
 have hF7 : Mem w4 (Qu w0) (([(bq3, .cells #[(u32 1779033703#32), (u32 3144134277#32), (u32 1013904242#32), (u32 2773480762#32), (u32 1359893119#32), (u32 2600822924#32), (u32 528734635#32), (u32 1541459225#32), Yj, (u64 0#64)] 154 (0, 0))] ++ ([] ++ ([]))) ++ ([(bq5, .cells (cl u8 (Vh l 54#8)) 5 (0, 0)), (b4, .cells (cl u8 (List.replicate 32 0)) 23 (0, 0))])) := by
  have hT := (Mem.pick [_] [_] _ m4)
  try simp only [List.append_assoc, List.cons_append, List.nil_append, List.append_nil] at hT ⊢
  exact hT
 refine Vy (oc85 (Xm rfl rfl) (Qh8 bq3 1779033703#32 3144134277#32 1013904242#32 2773480762#32 1359893119#32 2600822924#32 528734635#32 1541459225#32 Yj ([]) ([]) 0#64 (Wq bq5 0 ((Vh l 54#8).length) ((Vh l 54#8).length)) (Vh l 54#8) _ _ (Mem.give hF7) (hT.mono fun b o e => Mem.addRest hF7 e) (Rd.mkA (Mem.addOwn hF7 (List.Mem.head _))) (Xe.none u8 5) sD)) ?_
 rintro _ w6 ⟨y0q8, y1q8, y2q8, y3q8, y4q8, y5q8, y6q8, y7q8, sv2q8, Hs2q8, hyq8, gl2q8, k_w6⟩
 have m6 : Mem w6 (Qu w0) ([(bq3, .cells #[(u32 y0q8), (u32 y1q8), (u32 y2q8), (u32 y3q8), (u32 y4q8), (u32 y5q8), (u32 y6q8), (u32 y7q8), sv2q8, (u64 (0#64 + BitVec.ofInt 64 ((Vh l 54#8).length : Int)))] 154 (0, 0))] ++ (Hs2q8 ++ ([(bq5, .cells (cl u8 (Vh l 54#8)) 5 (0, 0)), (b4, .cells (cl u8 (List.replicate 32 0)) 23 (0, 0))]))) := ymA (Mem.back hF7 k_w6)
 have hH0 := Holds.new.write hyq8
 refine rN (Qa (sR ?_))
 refine Zp vp <| Qd (Yl (Rd.ofRest hrp m6) Qbi rfl) <| Zp (i64 0) ?_
 refine rN (Qk ?_)
 refine Y7 (fun g wv => ∃ (k : Nat) (z0 z1 z2 z3 z4 z5 z6 z7 : BitVec 32) (sv3 : Value) (l3 : Xg) (Hs3 : List (Nat × Obj)) (nn : BitVec 64), (k ≤ ps.length) ∧ (Holds (Vh l 54#8 ++ Vu (ps.take k)) [z0, z1, z2, z3, z4, z5, z6, z7] l3 nn) ∧ (Xe u8 5 sv3 l3 Hs3) ∧ g 0 = vb ∧ g 1 = vp ∧ g 4 = (ptr b4 0) ∧ g 5 = (ptr bq3 0) ∧ g 14 = vp ∧ g 15 = (i64 (ps.length : Int)) ∧ g 16 = (i64 (k : Int)) ∧ Mem wv (Qu w0) ([(bq3, .cells #[(u32 z0), (u32 z1), (u32 z2), (u32 z3), (u32 z4), (u32 z5), (u32 z6), (u32 z7), sv3, (u64 nn)] 154 (0, 0))] ++ (Hs3 ++ ([(bq5, .cells (cl u8 (Vh l 54#8)) 5 (0, 0)), (b4, .cells (cl u8 (List.replicate 32 0)) 23 (0, 0))])))) (fun g wv => ((ps.length : Int) - RowKit.intOf (g 16)).toNat) ?_ ?_
 ·exact ⟨0, y0q8, y1q8, y2q8, y3q8, y4q8, y5q8, y6q8, y7q8, sv2q8, ((([]) ++ (Vh l 54#8)).drop (64 * ((([]) ++ (Vh l 54#8)).length / 64))), Hs2q8, (0#64 + BitVec.ofInt 64 ((Vh l 54#8).length : Int)), oM, (by simpa [Vu] using hH0), gl2q8, rfl, rfl, rfl, rfl, rfl, rfl, rfl, m6⟩
 rintro fr9 w10 ⟨k, z0, z1, z2, z3, z4, z5, z6, z7, sv3, l3, Hs3, nn, hk, hH, gl3, s0, s1, s4, s5, s14, s15, s16, m10⟩
 have z16 := s16
 have hlt := hH.lt
 have hpk := joinL_le ps k
 refine sR <| Qd (Z9 s16 s15) ?_
 refine rN (Qa ?_)
 refine Z8 rfl (fun hc11 => ?_) (fun hc11 => ?_)
 ·
  have hc11p := of_decide_eq_true hc11
  refine Qs (Qc (Qa (Qk (sR ?_))))
  refine Qd (Zw (Rd.ofRest hrp m10) Qbi Pg s14 s16 oM sD) <| Qd (v := ((ps.getD k (undef, [])).1)) (X8 (l := ps) (i := (k : Int)) (dflt := (undef, [])) (Rd.ofRest hrp m10) Zu rfl oM sD rfl) <| Zz ((ps.getD k (undef, [])).1) ?_
  refine rN (Qb ?_)
  refine Ya s5 <| Zp ((ps.getD k (undef, [])).1) ?_
  have hF13 : Mem w10 (Qu w0) (([(bq3, .cells #[(u32 z0), (u32 z1), (u32 z2), (u32 z3), (u32 z4), (u32 z5), (u32 z6), (u32 z7), sv3, (u64 nn)] 154 (0, 0))] ++ (Hs3 ++ ([]))) ++ ([(bq5, .cells (cl u8 (Vh l 54#8)) 5 (0, 0)), (b4, .cells (cl u8 (List.replicate 32 0)) 23 (0, 0))])) := by
   have hT := (Mem.pick Hs3 [_] _ (Mem.pick [_] Hs3 _ m10))
   try simp only [List.append_assoc, List.cons_append, List.nil_append, List.append_nil] at hT ⊢
   exact hT
  refine Vy (oc85 (Xm rfl rfl) (Qh8 bq3 z0 z1 z2 z3 z4 z5 z6 z7 sv3 l3 Hs3 nn ((ps.getD k (undef, [])).1) ((ps.getD k (undef, [])).2) _ _ (Mem.give hF13) (hT.mono fun b o e => Mem.addRest hF13 e) (Rd.addRest hF13 (hps _ (getD_in (z := (undef, [])) oM))) gl3 sD)) ?_
  rintro _ w12 ⟨y0q14, y1q14, y2q14, y3q14, y4q14, y5q14, y6q14, y7q14, sv2q14, Hs2q14, hyq14, gl2q14, k_w12⟩
  have m12 : Mem w12 (Qu w0) ([(bq3, .cells #[(u32 y0q14), (u32 y1q14), (u32 y2q14), (u32 y3q14), (u32 y4q14), (u32 y5q14), (u32 y6q14), (u32 y7q14), sv2q14, (u64 (nn + BitVec.ofInt 64 (((ps.getD k (undef, [])).2).length : Int)))] 154 (0, 0))] ++ (Hs2q14 ++ ([(bq5, .cells (cl u8 (Vh l 54#8)) 5 (0, 0)), (b4, .cells (cl u8 (List.replicate 32 0)) 23 (0, 0))]))) := ymA (Mem.back hF13 k_w12)
  refine Zv (Qh (Qb ?_))
  refine Qd (Zg (b := 1) s16 rfl oM oM) <| Zp (i64 ((k : Int) + 1)) <| rN ?_
  have hHn := hH.write hyq14
  rw [List.append_assoc, ← Qja ps k oM] at hHn
  exact ⟨⟨k + 1, y0q14, y1q14, y2q14, y3q14, y4q14, y5q14, y6q14, y7q14, sv2q14, ((l3 ++ ((ps.getD k (undef, [])).2)).drop (64 * ((l3 ++ ((ps.getD k (undef, [])).2)).length / 64))), Hs2q14, (nn + BitVec.ofInt 64 (((ps.getD k (undef, [])).2).length : Int)), oM, hHn, gl2q14, s0, s1, s4, s5, s14, s15, rfl, m12⟩, Uo rfl z16 oM oM⟩
 ·
  have hc11p := of_decide_eq_false hc11
  obtain rfl : k = ps.length := by omega
  rw [List.take_length] at hH
  have hlt := hH.lt
  refine X6 ?_
  refine Qm (Qm (Xi ?_))
  refine sR <| Ya s5 <| U9 m10 (oc87 (Kt rfl) (c_dsum bq3 z0 z1 z2 z3 z4 z5 z6 z7 sv3 l3 nn _ (hT.mono fun b o e => (m10).rest b o e) m10.h0 (gl3.rd (Mem.pick [_] Hs3 _ m10)) sD)) fun w15 m15 => Y9 (Zc m15 Zl) fun w17 b8 m17 => Ye m17 (Qj (f := u8) (l := Df [z0, z1, z2, z3, z4, z5, z6, z7] l3 nn) Qy Zl rfl rfl sD m17.h0 sZ rfl) fun w18 m18 => ?_
  refine rN (Qa ?_)
  refine Xl [(0, false), (2, false), (1, true)] 3 Xw <| Um rfl s0 <| Yb rfl (Xo (i := 0) (j := 32) Xq Y0 rfl (Zi _ _) (Zi _ _) oM sD sD) ?_
  refine Cj rfl rfl (fun w19 e19 => ?_)
  have m19 := m18.ext e19
  refine Vp.mono (oc86 (Xm rfl rfl) (Qn3 vb l 92#8 _ (hT.mono fun b o e => (m19).rest b o e) (Rd.ofRest hr m19) sD)) ?_
  rintro _ w20 ⟨bq21, rfl, k_w20⟩
  refine ⟨k_w20.toExt, ?_⟩
  have m20 : Mem _ _ ([_, _, _] ++ (Hs3 ++ ([_, _]))) := Mem.new (H := [_, _] ++ (Hs3 ++ ([_, _]))) (H' := [(bq21, .cells (cl u8 (Vh l 92#8)) 5 (0, 0))]) m19 k_w20
  refine Gs m20 fun w22 m22 => Vy (Xp (f := u8) (Hs := [(bq21, .cells (cl u8 (Vh l 92#8)) 5 (0, 0))]) (H := [_, _] ++ (Hs3 ++ ([_, _]))) m22 (Xe.of u8 5 bq21 (Vh l 92#8)) rfl rfl (Rd.slaAll m22.h1 sD) Zu Zu Y0 rfl Qy sD sD) ?_
  rintro sv23 w23 ⟨Hs23, m23, g23⟩
  replace g23 : Xe u8 5 sv23 ((Vh l 92#8) ++ (Df [z0, z1, z2, z3, z4, z5, z6, z7] l3 nn)) Hs23 := g23
  refine U9 m23 (oc88 (Kt rfl) (c_hsum sv23 ((Vh l 92#8) ++ (Df [z0, z1, z2, z3, z4, z5, z6, z7] l3 nn)) _ (hT.mono fun b o e => (m23).rest b o e) (g23.rd m23) sD)) fun w24 m24 => Vk (Qj (f := u8) (l := U4 ((Vh l 92#8) ++ (Df [z0, z1, z2, z3, z4, z5, z6, z7] l3 nn))) Qy Zl s4 rfl sD ((Mem.pick4 Hs23 [_, _] Hs3 [_] [_] _ m24)).h0 sZ rfl) ?_
  rintro _ w26 uq26
  have m26 : Mem _ _ ([_] ++ (Hs23 ++ ([_, _] ++ (Hs3 ++ ([_]))))) := Mem.upd0 (Mem.pick4 Hs23 [_, _] Hs3 [_] [_] _ m24) uq26
  refine rN (Xb ?_)
  refine Qv [(agg u8 (U4 ((Vh l 92#8) ++ (Df [z0, z1, z2, z3, z4, z5, z6, z7] l3 nn))))] ⟨⟨_, s4, Xr Xq rfl Zl m26.h0 sZ⟩, trivial⟩ ?_
  exact ⟨congrArg (agg u8) (by unfold Xk; rw [hH.sum]), m26.toExt⟩
end --m
end Go.Proofs.YtkmiemlpfkfiiaaDoor
