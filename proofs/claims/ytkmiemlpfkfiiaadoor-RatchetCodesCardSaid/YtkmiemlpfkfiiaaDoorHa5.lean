/- Contracts: hash, fifth part. Conditions: none beyond those that each theorem states. -/
import Derived.Test.YtkmiemlpfkfiiaaDoorHa4
namespace Go.Proofs.YtkmiemlpfkfiiaaDoor
set_option linter.unusedVariables false
set_option linter.unusedSimpArgs false
theorem hAt_take (h : List (BitVec 32)) (l p : List (BitVec 8)) : ∀ m, 64 * m ≤ l.length → hAt h (l ++ p) m = hAt h l m := by
  intro m
  induction m with
  | zero => intro _; rfl
  | succ m ih =>
    intro hm
    simp only [hAt]
    rw [ih oM]
    congr 1
    rw [List.drop_append_of_le_length oM, List.take_append_of_le_length (by simp; omega)]
theorem hAt_add (h : List (BitVec 32)) (l : List (BitVec 8)) (q : Nat) : ∀ m, hAt (hAt h l q) (l.drop (64 * q)) m = hAt h l (q + m) := by
  intro m
  induction m with
  | zero => rfl
  | succ m ih =>
    rw [← Nat.add_assoc]
    simp only [hAt]
    rw [ih, List.drop_drop]
    congr 4; omega
structure Holds (M : List (BitVec 8)) (hs : List (BitVec 32)) (ll : List (BitVec 8)) (n : BitVec 64) : Prop where
  words : hs = hAt Qeb M (M.length / 64)
  left : ll = M.drop (64 * (M.length / 64))
  size : n = 0#64 + BitVec.ofInt 64 (M.length : Int)
theorem Holds.new : Holds [] [1779033703#32, 3144134277#32, 1013904242#32, 2773480762#32, 1359893119#32, 2600822924#32, 528734635#32, 1541459225#32] [] 0#64 := ⟨rfl, rfl, rfl⟩
theorem Holds.lt {M ll : List (BitVec 8)} {hs : List (BitVec 32)} {n : BitVec 64} (h : Holds M hs ll n) : ll.length < 64 := by rw [h.left]; simp; omega
theorem Holds.write {M ll p : List (BitVec 8)} {hs ys : List (BitVec 32)} {n : BitVec 64} (h : Holds M hs ll n) (hy : ys = hAt hs (ll ++ p) ((ll ++ p).length / 64)) :
    Holds (M ++ p) ys ((ll ++ p).drop (64 * ((ll ++ p).length / 64))) (n + BitVec.ofInt 64 (p.length : Int)) := by
  obtain ⟨rfl, rfl, rfl⟩ := h
  have e0 : M.drop (64 * (M.length / 64)) ++ p = (M ++ p).drop (64 * (M.length / 64)) := by rw [List.drop_append_of_le_length oM]
  have e1 : (M.drop (64 * (M.length / 64)) ++ p).length = M.length + p.length - 64 * (M.length / 64) := by simp; omega
  have e2 : M.length / 64 + (M.drop (64 * (M.length / 64)) ++ p).length / 64 = (M ++ p).length / 64 := by rw [e1]; simp; omega
  refine ⟨?_, ?_, ?_⟩
  · rw [hy, ← e2, ← hAt_take Qeb M p (M.length / 64) oM, e0, hAt_add]
  · rw [← e2]
    generalize (M.drop (64 * (M.length / 64)) ++ p).length / 64 = q
    rw [e0, List.drop_drop]; congr 1; omega
  · rw [BitVec.add_assoc, ← BitVec.ofInt_add]; simp
theorem Holds.sum {M ll : List (BitVec 8)} {hs : List (BitVec 32)} {n : BitVec 64} (h : Holds M hs ll n) : Vb hs ll n = Vy M := by
  obtain ⟨rfl, rfl, rfl⟩ := h; rfl
def keyP (key : List (BitVec 8)) : List (BitVec 8) := if 64 < key.length then Vy key else key
theorem Qgt (key : List (BitVec 8)) : (keyP key).length ≤ 64 := by
  unfold keyP; split
  · simp
  · omega
def Y4 (key : List (BitVec 8)) (bb : BitVec 8) : List (BitVec 8) := (keyP key ++ List.replicate (64 - (keyP key).length) 0).map (· ^^^ bb)
@[simp] theorem L9 (key : List (BitVec 8)) (bb : BitVec 8) : (Y4 key bb).length = 64 := by have := Qgt key; simp [Y4]; omega
def Ya (key b : List (BitVec 8)) : List (BitVec 8) := Vy (Y4 key 92#8 ++ Vy (Y4 key 54#8 ++ b))
@[simp] theorem V3 (key b : List (BitVec 8)) : (Ya key b).length = 32 := Qe1 _
def Wv {α : Type} (g : Nat → α) (l : List α) (k : Nat) : List α := (List.range k).map g ++ l.drop k
theorem Px {α : Type} (g : Nat → α) (l : List α) : Wv g l 0 = l := by simp [Wv]
theorem Hf {α : Type} (g : Nat → α) (l : List α) (k : Nat) (h : k ≤ l.length) : (Wv g l k).length = l.length := by simp [Wv]; omega
theorem Tv {α : Type} (g : Nat → α) (l : List α) (k : Nat) (z : α) : (Wv g l k).getD k z = l.getD k z := by
  simp [Wv, List.getD_eq_getElem?_getD, List.getElem?_append_right]
theorem Tu {α : Type} (g : Nat → α) (l : List α) (k : Nat) (h : k < l.length) (x : α) (hx : x = g k) : (Wv g l k).set k x = Wv g l (k + 1) := by
  subst hx
  unfold Wv
  rw [List.set_append_right _ _ (by simp), List.range_succ, List.map_append, List.drop_eq_getElem_cons h]
  simp only [List.length_map, List.length_range, Nat.sub_self, List.set_cons_zero, List.map_cons, List.map_nil, List.append_assoc, List.cons_append, List.nil_append]
theorem Qeg {α : Type} (g : Nat → α) (l : List α) : Wv g l l.length = (List.range l.length).map g := by simp [Wv]
theorem map_getD {α β : Type} (f : α → β) (l : List α) (z : α) : (List.range l.length).map (fun i => f (l.getD i z)) = l.map f := by
  refine List.ext_getElem (by simp) fun i h1 h2 => ?_
  simp only [List.length_map, List.length_range] at h1
  simp [List.getD_eq_getElem?_getD, h1]
theorem Qdr {key M : List (BitVec 8)} {bb : BitVec 8} (hM : keyP key = M) : Wv (fun i => (M ++ (List.replicate 64 0).drop M.length).getD i 0 ^^^ bb) (M ++ (List.replicate 64 0).drop M.length) 64 = Y4 key bb := by
  have hle := Qgt key
  rw [hM] at hle
  have e : (M ++ (List.replicate 64 (0 : BitVec 8)).drop M.length).length = 64 := by simp; omega
  have h2 := Qeg (fun i => (M ++ (List.replicate 64 (0 : BitVec 8)).drop M.length).getD i 0 ^^^ bb) (M ++ (List.replicate 64 (0 : BitVec 8)).drop M.length)
  rw [e] at h2
  rw [h2]
  have h3 := map_getD (fun x => x ^^^ bb) (M ++ (List.replicate 64 (0 : BitVec 8)).drop M.length) 0
  rw [e] at h3
  rw [h3]
  unfold Y4
  rw [hM, List.drop_replicate]
def Js (ps : List (Value × List (BitVec 8))) : List (BitVec 8) := ps.flatMap (·.2)
theorem Qcw (ps : List (Value × List (BitVec 8))) (k : Nat) (h : k < ps.length) : Js (ps.take (k + 1)) = Js (ps.take k) ++ (ps.getD k (undef, [])).2 := by
  unfold Js
  rw [List.take_add_one, List.flatMap_append]
  simp [List.getD_eq_getElem?_getD, h]
theorem joinL_le (ps : List (Value × List (BitVec 8))) (k : Nat) : (ps.getD k (undef, [])).2.length ≤ (Js ps).length := by
  by_cases h : k < ps.length
  · have := Qcw ps k h
    have h2 : Js ps = Js (ps.take (k + 1)) ++ Js (ps.drop (k + 1)) := by unfold Js; rw [← List.flatMap_append, List.take_append_drop]
    rw [h2, this]; simp; omega
  · simp [List.getD_eq_getElem?_getD, Nat.le_of_not_lt h]
theorem getD_in {α : Type} {ps : List α} {k : Nat} {z : α} (h : k < ps.length) : ps.getD k z ∈ ps := by
  simp [List.getD_eq_getElem?_getD, h]
attribute [local irreducible] Vb Vy hAt Qdl
theorem Qfs (vb : Value) (l : List (BitVec 8)) (bb : BitVec 8) (w0 : World)  (hT : Tabs (Y3 w0)) (hr : Rd (Y3 w0) u8 vb l) (hl : l.length ≤ 35184372088832) : X8 Tryd.prog 86 #[vb, (u8 bb)] w0 (fun r w1 => ∃ b, r = Jt b 0 (Y4 l bb).length (Y4 l bb).length ∧ Mem w1 (Qo w0) [(b, .cells (cl u8 (Y4 l bb)) 5 (0, 0))]) := by
 refine Zp (args := [vb, (u8 bb)]) Tryd.func86 rfl Tryd.ntmps86 Tryd.results86 rfl ?_
 have hm0 : Mem w0 (Qo w0) [] := Mem.of_world w0
 refine sR <| Qb rfl (Qd (v := (Value.slice none 0 0)) rfl) ?_
 refine rN (Qh (sR ?_))
 refine rM rfl (v := vb) rfl <| Qb (v := (i64 (l.length : Int))) rfl (Yi (Rd.ofRest hr hm0) Z4 rfl) <| Qb rfl (U9 (b := 64) rfl rfl) <| rN ?_
 refine Xy rfl (fun hc1 => ?_) (fun hc1 => ?_)
 ·
   have hc1p := of_decide_eq_true hc1
   refine sR <| rM rfl (v := vb) rfl <| Zo rfl (Qx Tryd.func88 bd88 nm88 (Ye rfl) (c_hsum vb l _ (hT.mono fun b o e => (hm0).rest b o e) (Rd.ofRest hr hm0) sD)) ?_
   rintro _ w2 ⟨rfl, _ew2⟩
   have hm2 := hm0.ext _ew2
   refine Zo rfl (Zy hm2 Z5) ?_
   rintro _ w4 ⟨b5, rfl, _ew4, hm4⟩
   refine Xf (Zl (f := u8) (l := Vy l) Q8 Z5 rfl rfl sD hm4.h0 sZ rfl) ?_
   rintro _ w5 uq5
   have hm5 := hm4.upd0 uq5
   refine rN (Qg ?_)
   refine Qb rfl (Xg (i := 0) (j := 32) Xo Yq rfl (Zn _ _) (Zn _ _) oM sD sD) <| Qb rfl (Qd (v := (sla b5 0 1 0 32 32)) rfl) ?_
   refine rN (sR ?_)
   refine Zo rfl (Fh hm5 Z4 Yq rfl rfl oM oM oM oM) ?_
   rintro _ w6 ⟨b14, rfl, _ew6, hm6⟩
   rw [Bl u8 0 rfl] at hm6
   have hm6 : Mem w6 (Qo w0) [(b14, .cells (cl u8 (List.replicate 64 (0 : BitVec 8))) 5 (0, 0)), (b5, .cells (cl u8 (Vy l)) 23 (0, 0))] := hm6
   refine Qb rfl (Qd (v := (Jt b14 0 64 64)) rfl) <| rN ?_
   refine CW.abs (fun g => g 0 = (sla b5 0 1 0 32 32) ∧ g 1 = (u8 bb) ∧ g 4 = (Value.slice none 0 0) ∧ g 5 = (ptr b5 0) ∧ g 6 = (Jt b14 0 64 64) ∧ g 10 = (bl (decide (64 < (l.length : Int)))) ∧ True) ⟨rfl, rfl, rfl, rfl, rfl, rfl, trivial⟩ ?_
   rintro fr7 ⟨s0, s1, s4, s5, s6, s10, _⟩
   refine sR <| rM rfl s6 <| rM rfl s0 <| Zo rfl (Ri (f := u8) rfl rfl (Rd.slaAll hm6.h1 sD) Z4 Yq Q8 hm6.h0 sD sD (Nat.le_refl _)) ?_
   rintro _ w8 ⟨rfl, uq8⟩
   have hm8 : Mem w8 (Qo w0) ([(b14, .cells (cl u8 ((Vy l) ++ (List.replicate 64 (0 : BitVec 8)).drop (Vy l).length)) 5 (0, 0)), (b5, .cells (cl u8 (Vy l)) 23 (0, 0))]) := hm6.upd0 uq8
   refine rN (Qh (Qh ?_))
   have hBl : ((Vy l) ++ (List.replicate 64 (0 : BitVec 8)).drop (Vy l).length).length = 64 := by simp; try omega
   refine Qg <| rM rfl s6 <| Qb (v := (i64 64)) rfl (Un Z4 rfl) <| Qb rfl (Qc (v := (i64 0)) rfl) ?_
   refine rN (Qv ?_)
   refine Jg (fun g wv => ∃ (k : Nat), (k ≤ 64) ∧ g 0 = (sla b5 0 1 0 32 32) ∧ g 1 = (u8 bb) ∧ g 4 = (Value.slice none 0 0) ∧ g 5 = (ptr b5 0) ∧ g 6 = (Jt b14 0 64 64) ∧ g 10 = (bl (decide (64 < (l.length : Int)))) ∧ g 19 = (i64 64) ∧ g 20 = (i64 (k : Int)) ∧ Mem wv (Qo w0) ([(b14, .cells (cl u8 (Wv (fun i => ((Vy l) ++ (List.replicate 64 (0 : BitVec 8)).drop (Vy l).length).getD i 0 ^^^ bb) ((Vy l) ++ (List.replicate 64 (0 : BitVec 8)).drop (Vy l).length) k)) 5 (0, 0)), (b5, .cells (cl u8 (Vy l)) 23 (0, 0))])) (fun g wv => (64 - RowKit.intOf (g 20)).toNat) ?_ ?_
   · exact ⟨0, oM, s0, s1, s4, s5, s6, s10, rfl, rfl, (by rw [Px]; exact hm8)⟩
   · rintro fr9 w10 ⟨k, hk, s0, s1, s4, s5, s6, s10, s19, s20, hm10⟩
     have z20 := s20
     have hol := Hf (fun i => ((Vy l) ++ (List.replicate 64 (0 : BitVec 8)).drop (Vy l).length).getD i 0 ^^^ bb) ((Vy l) ++ (List.replicate 64 (0 : BitVec 8)).drop (Vy l).length) k oM
     refine sR <| Qb rfl (Qs (b := 64) s20 s19) ?_
     refine rN (Qh ?_)
     refine Xy rfl (fun hc11 => ?_) (fun hc11 => ?_)
     ·
       have hc11p := of_decide_eq_true hc11
       refine Zc (Qi (Qh (Qv (sR ?_))))
       refine rM rfl s20 <| Qb rfl (Qd (v := (i64 (k : Int))) rfl) ?_
       refine rN (Qg ?_)
       refine rM rfl s6 <| Qb rfl (Qc (v := (i64 (k : Int))) rfl) <| Qb rfl (Ji (r := k) oM Z4 Yq rfl rfl oM sD) <| Qb (v := (u8 ((Wv (fun i => ((Vy l) ++ (List.replicate 64 (0 : BitVec 8)).drop (Vy l).length).getD i 0 ^^^ bb) ((Vy l) ++ (List.replicate 64 (0 : BitVec 8)).drop (Vy l).length) k).getD k 0))) rfl (Qy Vh rfl rfl hm10.h0 (Zm _ _ 0 sD)) <| rM rfl s1 <| Qb rfl (Qa9 rfl rfl) <| Qb rfl (Ji (r := k) oM Z4 Yq rfl rfl oM sD) <| Xf (Yj (f := u8) (a := ((Wv (fun i => ((Vy l) ++ (List.replicate 64 (0 : BitVec 8)).drop (Vy l).length).getD i 0 ^^^ bb) ((Vy l) ++ (List.replicate 64 (0 : BitVec 8)).drop (Vy l).length) k).getD k 0) ^^^ bb) Q8 Yq rfl rfl hm10.h0 sD (.inl (Nat.zero_le _))) ?_
       rintro _ w12 uq12
       have hm12 := hm10.upd0 uq12
       refine Zz (Qn (Qg ?_))
       refine Qb rfl (Qk (b := 1) s20 rfl oM oM) <| Qb rfl (Qc (v := (i64 ((k : Int) + 1))) rfl) <| rN ?_
       exact ⟨⟨k + 1, oM, s0, s1, s4, s5, s6, s10, s19, rfl, (by rw [← Tu _ _ _ oM _ rfl, ← Tv (fun i => ((Vy l) ++ (List.replicate 64 (0 : BitVec 8)).drop (Vy l).length).getD i 0 ^^^ bb) ((Vy l) ++ (List.replicate 64 (0 : BitVec 8)).drop (Vy l).length) k 0]; exact hm12)⟩, Fj rfl z20 oM oM⟩
     ·
       have hc11p := of_decide_eq_false hc11
       obtain rfl : k = 64 := by omega
       refine Yb ?_
       refine Zb (Zb (Xw ?_))
       refine sR <| rM rfl s6 <| Qb rfl (Qd (v := (Jt b14 0 64 64)) rfl) ?_
       refine rN (Xn ?_)
       refine Zj [(Jt b14 0 64 64)] ⟨rfl, trivial⟩ ?_
       have hK : keyP l = Vy l := by unfold keyP; rw [if_pos oM]
       have hmk := Qdr (bb := bb) hK
       have hm13 := Mem.drop ([(b5, .cells (cl u8 (Vy l)) 23 (0, 0))]) _ (Mem.pick [_] [_] _ hm10)
       exact ⟨b14, by rw [L9]; rfl, hmk ▸ hm13⟩
 ·
   have hc1p := of_decide_eq_false hc1
   refine Zc (Qi (sR ?_))
   refine Zo rfl (Fh hm0 Z4 Yq rfl rfl oM oM oM oM) ?_
   rintro _ w14 ⟨b14_1, rfl, _ew14, hm14⟩
   rw [Bl u8 0 rfl] at hm14
   have hm14 : Mem w14 (Qo w0) [(b14_1, .cells (cl u8 (List.replicate 64 (0 : BitVec 8))) 5 (0, 0))] := hm14
   refine Qb rfl (Qd (v := (Jt b14_1 0 64 64)) rfl) ?_
   refine rN (sR ?_)
   refine Qb rfl (Qc (v := (Jt b14_1 0 64 64)) rfl) <| rM rfl (v := vb) rfl <| Zo rfl (Ri (f := u8) rfl rfl (Rd.ofRest hr hm14) Z4 Yq Q8 hm14.h0 sD sD (Nat.le_refl _)) ?_
   rintro _ w15 ⟨rfl, uq15⟩
   have hm15 : Mem w15 (Qo w0) ([(b14_1, .cells (cl u8 (l ++ (List.replicate 64 (0 : BitVec 8)).drop l.length)) 5 (0, 0))]) := hm14.upd0 uq15
   refine rN (Qh (Qh ?_))
   have hBl : (l ++ (List.replicate 64 (0 : BitVec 8)).drop l.length).length = 64 := by simp; try omega
   refine Qg <| Qb rfl (Qc (v := (Jt b14_1 0 64 64)) rfl) <| Qb (v := (i64 64)) rfl (Un Z4 rfl) <| Qb rfl (Qc (v := (i64 0)) rfl) <| rN ?_
   refine CW.abs (fun g => g 0 = vb ∧ g 1 = (u8 bb) ∧ g 4 = (Value.slice none 0 0) ∧ g 6 = (Jt b14_1 0 64 64) ∧ g 10 = (bl (decide (64 < (l.length : Int)))) ∧ g 19 = (i64 64) ∧ g 20 = (i64 0) ∧ True) ⟨rfl, rfl, rfl, rfl, rfl, rfl, rfl, trivial⟩ ?_
   rintro fr16 ⟨s0, s1, s4, s6, s10, s19, s20, _⟩
   refine Qv ?_
   refine Jg (fun g wv => ∃ (k : Nat), (k ≤ 64) ∧ g 0 = vb ∧ g 1 = (u8 bb) ∧ g 4 = (Value.slice none 0 0) ∧ g 6 = (Jt b14_1 0 64 64) ∧ g 10 = (bl (decide (64 < (l.length : Int)))) ∧ g 19 = (i64 64) ∧ g 20 = (i64 (k : Int)) ∧ Mem wv (Qo w0) ([(b14_1, .cells (cl u8 (Wv (fun i => (l ++ (List.replicate 64 (0 : BitVec 8)).drop l.length).getD i 0 ^^^ bb) (l ++ (List.replicate 64 (0 : BitVec 8)).drop l.length) k)) 5 (0, 0))])) (fun g wv => (64 - RowKit.intOf (g 20)).toNat) ?_ ?_
   · exact ⟨0, oM, s0, s1, s4, s6, s10, s19, s20, (by rw [Px]; exact hm15)⟩
   · rintro fr17 w18 ⟨k, hk, s0, s1, s4, s6, s10, s19, s20, hm18⟩
     have z20 := s20
     have hol := Hf (fun i => (l ++ (List.replicate 64 (0 : BitVec 8)).drop l.length).getD i 0 ^^^ bb) (l ++ (List.replicate 64 (0 : BitVec 8)).drop l.length) k oM
     refine sR <| Qb rfl (Qs (b := 64) s20 s19) ?_
     refine rN (Qh ?_)
     refine Xy rfl (fun hc19 => ?_) (fun hc19 => ?_)
     ·
       have hc19p := of_decide_eq_true hc19
       refine Zc (Qi (Qh (Qv (sR ?_))))
       refine rM rfl s20 <| Qb rfl (Qd (v := (i64 (k : Int))) rfl) ?_
       refine rN (Qg ?_)
       refine rM rfl s6 <| Qb rfl (Qc (v := (i64 (k : Int))) rfl) <| Qb rfl (Ji (r := k) oM Z4 Yq rfl rfl oM sD) <| Qb (v := (u8 ((Wv (fun i => (l ++ (List.replicate 64 (0 : BitVec 8)).drop l.length).getD i 0 ^^^ bb) (l ++ (List.replicate 64 (0 : BitVec 8)).drop l.length) k).getD k 0))) rfl (Qy Vh rfl rfl hm18.h0 (Zm _ _ 0 sD)) <| rM rfl s1 <| Qb rfl (Qa9 rfl rfl) <| Qb rfl (Ji (r := k) oM Z4 Yq rfl rfl oM sD) <| Xf (Yj (f := u8) (a := ((Wv (fun i => (l ++ (List.replicate 64 (0 : BitVec 8)).drop l.length).getD i 0 ^^^ bb) (l ++ (List.replicate 64 (0 : BitVec 8)).drop l.length) k).getD k 0) ^^^ bb) Q8 Yq rfl rfl hm18.h0 sD (.inl (Nat.zero_le _))) ?_
       rintro _ w20 uq20
       have hm20 := hm18.upd0 uq20
       refine Zz (Qn (Qg ?_))
       refine Qb rfl (Qk (b := 1) s20 rfl oM oM) <| Qb rfl (Qc (v := (i64 ((k : Int) + 1))) rfl) <| rN ?_
       exact ⟨⟨k + 1, oM, s0, s1, s4, s6, s10, s19, rfl, (by rw [← Tu _ _ _ oM _ rfl, ← Tv (fun i => (l ++ (List.replicate 64 (0 : BitVec 8)).drop l.length).getD i 0 ^^^ bb) (l ++ (List.replicate 64 (0 : BitVec 8)).drop l.length) k 0]; exact hm20)⟩, Fj rfl z20 oM oM⟩
     ·
       have hc19p := of_decide_eq_false hc19
       obtain rfl : k = 64 := by omega
       refine Yb ?_
       refine Zb (Zb (Xw ?_))
       refine sR <| rM rfl s6 <| Qb rfl (Qd (v := (Jt b14_1 0 64 64)) rfl) ?_
       refine rN (Xn ?_)
       refine Zj [(Jt b14_1 0 64 64)] ⟨rfl, trivial⟩ ?_
       have hK : keyP l = l := by unfold keyP; rw [if_neg oM]
       have hmk := Qdr (bb := bb) hK
       exact ⟨b14_1, by rw [L9]; rfl, hmk ▸ hm18⟩
set_option maxHeartbeats 1000000 in
theorem Rx (vb : Value) (l : List (BitVec 8)) (vp : Value) (ps : List (Value × List (BitVec 8))) (w0 : World)  (hT : Tabs (Y3 w0)) (hr : Rd (Y3 w0) u8 vb l) (hl : l.length ≤ 1099511627776) (hrp : Rd (Y3 w0) Prod.fst vp ps) (hps : ∀ p ∈ ps, Rd (Y3 w0) u8 p.1 p.2) (hpl : (Js ps).length ≤ 1099511627776) (hpn : ps.length ≤ 1099511627776) : X8 Tryd.prog 59 #[vb, vp] w0 (fun r w1 => r = (agg u8 (Ya l (Js ps))) ∧ Ext w0 w1) := by
 refine Zp (args := [vb, vp]) Tryd.func59 rfl Tryd.ntmps59 Tryd.results59 rfl ?_
 have hm0 : Mem w0 (Qo w0) [] := Mem.of_world w0
 refine sR <| Zo rfl (Zy hm0 Z5) ?_
 rintro _ w1 ⟨b4, rfl, _ew1, hm1⟩
 refine rN (sR ?_)
 refine Zo rfl (Qx Tryd.func84 bd84 nm84 (args0) (c_hnew _ (hT.mono fun b o e => (hm1).rest b o e))) ?_
 rintro _ w2 ⟨bq3, rfl, k_w2⟩
 have hm2 : Mem w2 (Qo w0) [(bq3, .cells #[(u32 1779033703#32), (u32 3144134277#32), (u32 1013904242#32), (u32 2773480762#32), (u32 1359893119#32), (u32 2600822924#32), (u32 528734635#32), (u32 1541459225#32), (Value.slice none 0 0), (u64 0#64)] 154 (0, 0)), (b4, .cells (cl u8 (List.replicate 32 0)) 23 (0, 0))] := Mem.new (H := [(b4, .cells (cl u8 (List.replicate 32 0)) 23 (0, 0))]) (H' := [(bq3, .cells #[(u32 1779033703#32), (u32 3144134277#32), (u32 1013904242#32), (u32 2773480762#32), (u32 1359893119#32), (u32 2600822924#32), (u32 528734635#32), (u32 1541459225#32), (Value.slice none 0 0), (u64 0#64)] 154 (0, 0))]) hm1 k_w2
 refine Qb rfl (Qd (v := (ptr bq3 0)) rfl) ?_
 refine rN (sR ?_)
 refine Qb rfl (Qc (v := (ptr bq3 0)) rfl) <| rM rfl (v := vb) rfl <| Zo rfl (Qx Tryd.func86 bd86 nm86 (Yk rfl rfl) (Qfs vb l 54#8 _ (hT.mono fun b o e => (hm2).rest b o e) (Rd.ofRest hr hm2) sD)) ?_
 rintro _ w4 ⟨bq5, rfl, k_w4⟩
 have hm4 : Mem w4 (Qo w0) [(bq5, .cells (cl u8 (Y4 l 54#8)) 5 (0, 0)), (bq3, .cells #[(u32 1779033703#32), (u32 3144134277#32), (u32 1013904242#32), (u32 2773480762#32), (u32 1359893119#32), (u32 2600822924#32), (u32 528734635#32), (u32 1541459225#32), (Value.slice none 0 0), (u64 0#64)] 154 (0, 0)), (b4, .cells (cl u8 (List.replicate 32 0)) 23 (0, 0))] := Mem.new (H := [(bq3, .cells #[(u32 1779033703#32), (u32 3144134277#32), (u32 1013904242#32), (u32 2773480762#32), (u32 1359893119#32), (u32 2600822924#32), (u32 528734635#32), (u32 1541459225#32), (Value.slice none 0 0), (u64 0#64)] 154 (0, 0)), (b4, .cells (cl u8 (List.replicate 32 0)) 23 (0, 0))]) (H' := [(bq5, .cells (cl u8 (Y4 l 54#8)) 5 (0, 0))]) hm2 k_w4
 have hF7 : Mem w4 (Qo w0) (([(bq3, .cells #[(u32 1779033703#32), (u32 3144134277#32), (u32 1013904242#32), (u32 2773480762#32), (u32 1359893119#32), (u32 2600822924#32), (u32 528734635#32), (u32 1541459225#32), (Value.slice none 0 0), (u64 0#64)] 154 (0, 0))] ++ ([] ++ ([]))) ++ ([(bq5, .cells (cl u8 (Y4 l 54#8)) 5 (0, 0)), (b4, .cells (cl u8 (List.replicate 32 0)) 23 (0, 0))])) := by
   have hT := (Mem.pick [_] [_] _ hm4)
   try simp only [List.append_assoc, List.cons_append, List.nil_append, List.append_nil] at hT ⊢
   exact hT
 refine Zo rfl (Qx Tryd.func85 bd85 nm85 (Yk rfl rfl) (Qca bq3 1779033703#32 3144134277#32 1013904242#32 2773480762#32 1359893119#32 2600822924#32 528734635#32 1541459225#32 (Value.slice none 0 0) ([]) ([]) 0#64 (Jt bq5 0 ((Y4 l 54#8).length) ((Y4 l 54#8).length)) (Y4 l 54#8) _ _ (Mem.give hF7) (hT.mono fun b o e => Mem.addRest hF7 e) (Rd.mkA (Mem.addOwn hF7 (List.Mem.head _))) (Xx.none u8 5) sD)) ?_
 rintro _ w6 ⟨y0q8, y1q8, y2q8, y3q8, y4q8, y5q8, y6q8, y7q8, sv2q8, Hs2q8, hyq8, gl2q8, k_w6⟩
 have hm6 : Mem w6 (Qo w0) ([(bq3, .cells #[(u32 y0q8), (u32 y1q8), (u32 y2q8), (u32 y3q8), (u32 y4q8), (u32 y5q8), (u32 y6q8), (u32 y7q8), sv2q8, (u64 (0#64 + BitVec.ofInt 64 ((Y4 l 54#8).length : Int)))] 154 (0, 0))] ++ (Hs2q8 ++ ([(bq5, .cells (cl u8 (Y4 l 54#8)) 5 (0, 0)), (b4, .cells (cl u8 (List.replicate 32 0)) 23 (0, 0))]))) := (by
   have hT := Mem.back hF7 k_w6
   try simp only [List.append_assoc, List.cons_append, List.nil_append, List.append_nil] at hT ⊢
   exact hT)
 have hH0 := Holds.new.write hyq8
 refine rN (Qh (sR ?_))
 refine rM rfl (v := vp) rfl <| Qb (v := (i64 (ps.length : Int))) rfl (Yi (Rd.ofRest hrp hm6) uT65 rfl) <| Qb rfl (Qc (v := (i64 0)) rfl) ?_
 refine rN (Qv ?_)
 refine Jg (fun g wv => ∃ (k : Nat) (z0 z1 z2 z3 z4 z5 z6 z7 : BitVec 32) (sv3 : Value) (l3 : List (BitVec 8)) (Hs3 : List (Nat × Obj)) (nn : BitVec 64), (k ≤ ps.length) ∧ (Holds (Y4 l 54#8 ++ Js (ps.take k)) [z0, z1, z2, z3, z4, z5, z6, z7] l3 nn) ∧ (Xx u8 5 sv3 l3 Hs3) ∧ g 0 = vb ∧ g 1 = vp ∧ g 4 = (ptr b4 0) ∧ g 5 = (ptr bq3 0) ∧ g 14 = vp ∧ g 15 = (i64 (ps.length : Int)) ∧ g 16 = (i64 (k : Int)) ∧ Mem wv (Qo w0) ([(bq3, .cells #[(u32 z0), (u32 z1), (u32 z2), (u32 z3), (u32 z4), (u32 z5), (u32 z6), (u32 z7), sv3, (u64 nn)] 154 (0, 0))] ++ (Hs3 ++ ([(bq5, .cells (cl u8 (Y4 l 54#8)) 5 (0, 0)), (b4, .cells (cl u8 (List.replicate 32 0)) 23 (0, 0))])))) (fun g wv => ((ps.length : Int) - RowKit.intOf (g 16)).toNat) ?_ ?_
 · exact ⟨0, y0q8, y1q8, y2q8, y3q8, y4q8, y5q8, y6q8, y7q8, sv2q8, ((([]) ++ (Y4 l 54#8)).drop (64 * ((([]) ++ (Y4 l 54#8)).length / 64))), Hs2q8, (0#64 + BitVec.ofInt 64 ((Y4 l 54#8).length : Int)), oM, (by simpa [Js] using hH0), gl2q8, rfl, rfl, rfl, rfl, rfl, rfl, rfl, hm6⟩
 · rintro fr9 w10 ⟨k, z0, z1, z2, z3, z4, z5, z6, z7, sv3, l3, Hs3, nn, hk, hH, gl3, s0, s1, s4, s5, s14, s15, s16, hm10⟩
   have z16 := s16
   have hlt := hH.lt
   have hpk := joinL_le ps k
   refine sR <| Qb rfl (Qs s16 s15) ?_
   refine rN (Qh ?_)
   refine Xy rfl (fun hc11 => ?_) (fun hc11 => ?_)
   ·
     have hc11p := of_decide_eq_true hc11
     refine Zc (Qi (Qh (Qv (sR ?_))))
     refine Qb rfl (Xi (Rd.ofRest hrp hm10) uT65 Aj s14 s16 oM sD) <| Qb (v := ((ps.getD k (undef, [])).1)) rfl (Yg (l := ps) (i := (k : Int)) (dflt := (undef, [])) (Rd.ofRest hrp hm10) Z4 rfl oM sD rfl) <| Qb rfl (Qd (v := ((ps.getD k (undef, [])).1)) rfl) ?_
     refine rN (Qg ?_)
     refine rM rfl s5 <| Qb rfl (Qc (v := ((ps.getD k (undef, [])).1)) rfl) ?_
     have hF13 : Mem w10 (Qo w0) (([(bq3, .cells #[(u32 z0), (u32 z1), (u32 z2), (u32 z3), (u32 z4), (u32 z5), (u32 z6), (u32 z7), sv3, (u64 nn)] 154 (0, 0))] ++ (Hs3 ++ ([]))) ++ ([(bq5, .cells (cl u8 (Y4 l 54#8)) 5 (0, 0)), (b4, .cells (cl u8 (List.replicate 32 0)) 23 (0, 0))])) := by
       have hT := (Mem.pick Hs3 [_] _ (Mem.pick [_] Hs3 _ hm10))
       try simp only [List.append_assoc, List.cons_append, List.nil_append, List.append_nil] at hT ⊢
       exact hT
     refine Zo rfl (Qx Tryd.func85 bd85 nm85 (Yk rfl rfl) (Qca bq3 z0 z1 z2 z3 z4 z5 z6 z7 sv3 l3 Hs3 nn ((ps.getD k (undef, [])).1) ((ps.getD k (undef, [])).2) _ _ (Mem.give hF13) (hT.mono fun b o e => Mem.addRest hF13 e) (Rd.addRest hF13 (hps _ (getD_in (z := (undef, [])) oM))) gl3 sD)) ?_
     rintro _ w12 ⟨y0q14, y1q14, y2q14, y3q14, y4q14, y5q14, y6q14, y7q14, sv2q14, Hs2q14, hyq14, gl2q14, k_w12⟩
     have hm12 : Mem w12 (Qo w0) ([(bq3, .cells #[(u32 y0q14), (u32 y1q14), (u32 y2q14), (u32 y3q14), (u32 y4q14), (u32 y5q14), (u32 y6q14), (u32 y7q14), sv2q14, (u64 (nn + BitVec.ofInt 64 (((ps.getD k (undef, [])).2).length : Int)))] 154 (0, 0))] ++ (Hs2q14 ++ ([(bq5, .cells (cl u8 (Y4 l 54#8)) 5 (0, 0)), (b4, .cells (cl u8 (List.replicate 32 0)) 23 (0, 0))]))) := (by
       have hT := Mem.back hF13 k_w12
       try simp only [List.append_assoc, List.cons_append, List.nil_append, List.append_nil] at hT ⊢
       exact hT)
     refine Zz (Qn (Qg ?_))
     refine Qb rfl (Qk (b := 1) s16 rfl oM oM) <| Qb rfl (Qc (v := (i64 ((k : Int) + 1))) rfl) <| rN ?_
     have hHn := hH.write hyq14
     rw [List.append_assoc, ← Qcw ps k oM] at hHn
     exact ⟨⟨k + 1, y0q14, y1q14, y2q14, y3q14, y4q14, y5q14, y6q14, y7q14, sv2q14, ((l3 ++ ((ps.getD k (undef, [])).2)).drop (64 * ((l3 ++ ((ps.getD k (undef, [])).2)).length / 64))), Hs2q14, (nn + BitVec.ofInt 64 (((ps.getD k (undef, [])).2).length : Int)), oM, hHn, gl2q14, s0, s1, s4, s5, s14, s15, rfl, hm12⟩, Fj rfl z16 oM oM⟩
   ·
     have hc11p := of_decide_eq_false hc11
     obtain rfl : k = ps.length := by omega
     rw [List.take_length] at hH
     have hlt := hH.lt
     refine Yb ?_
     refine Zb (Zb (Xw ?_))
     refine sR <| rM rfl s5 <| Zo rfl (Qx Tryd.func87 bd87 nm87 (Ye rfl) (c_dsum bq3 z0 z1 z2 z3 z4 z5 z6 z7 sv3 l3 nn _ (hT.mono fun b o e => (hm10).rest b o e) hm10.h0 (gl3.rd (Mem.pick [_] Hs3 _ hm10)) sD)) ?_
     rintro _ w15 ⟨rfl, _ew15⟩
     have hm15 := hm10.ext _ew15
     refine Zo rfl (Zy hm15 Z5) ?_
     rintro _ w17 ⟨b8, rfl, _ew17, hm17⟩
     refine Xf (Zl (f := u8) (l := Vb [z0, z1, z2, z3, z4, z5, z6, z7] l3 nn) Q8 Z5 rfl rfl sD hm17.h0 sZ rfl) ?_
     rintro _ w18 uq18
     have hm18 := hm17.upd0 uq18
     refine rN (Qh ?_)
     refine Yc [(0, false), (2, false), (1, true)] 3 (by kernel_rfl) <| dM rfl rfl s0 <| Qw rfl rfl (fun _ _hx => Xg (i := 0) (j := 32) Xo Yq rfl (Zn _ _) (Zn _ _) oM sD sD) ?_
     refine Lc rfl rfl (fun w19 _ew19 => ?_)
     have hm19 := hm18.ext _ew19
     refine Jr.mono (Qx Tryd.func86 bd86 nm86 (Yk rfl rfl) (Qfs vb l 92#8 _ (hT.mono fun b o e => (hm19).rest b o e) (Rd.ofRest hr hm19) sD)) ?_
     rintro _ w20 ⟨bq21, rfl, k_w20⟩
     refine ⟨k_w20.toExt, ?_⟩
     have hm20 : Mem w20 (Qo w0) ([(bq21, .cells (cl u8 (Y4 l 92#8)) 5 (0, 0)), (b8, .cells (cl u8 (Vb [z0, z1, z2, z3, z4, z5, z6, z7] l3 nn)) 23 (0, 0)), (bq3, .cells #[(u32 z0), (u32 z1), (u32 z2), (u32 z3), (u32 z4), (u32 z5), (u32 z6), (u32 z7), sv3, (u64 nn)] 154 (0, 0))] ++ (Hs3 ++ ([(bq5, .cells (cl u8 (Y4 l 54#8)) 5 (0, 0)), (b4, .cells (cl u8 (List.replicate 32 0)) 23 (0, 0))]))) := Mem.new (H := [(b8, .cells (cl u8 (Vb [z0, z1, z2, z3, z4, z5, z6, z7] l3 nn)) 23 (0, 0)), (bq3, .cells #[(u32 z0), (u32 z1), (u32 z2), (u32 z3), (u32 z4), (u32 z5), (u32 z6), (u32 z7), sv3, (u64 nn)] 154 (0, 0))] ++ (Hs3 ++ ([(bq5, .cells (cl u8 (Y4 l 54#8)) 5 (0, 0)), (b4, .cells (cl u8 (List.replicate 32 0)) 23 (0, 0))]))) (H' := [(bq21, .cells (cl u8 (Y4 l 92#8)) 5 (0, 0))]) hm19 k_w20
     refine X3 (fun w22 _ew22 => ?_)
     have hm22 := hm20.ext _ew22
     refine Zo rfl (Xt (f := u8) (Hs := [(bq21, .cells (cl u8 (Y4 l 92#8)) 5 (0, 0))]) (H := [(b8, .cells (cl u8 (Vb [z0, z1, z2, z3, z4, z5, z6, z7] l3 nn)) 23 (0, 0)), (bq3, .cells #[(u32 z0), (u32 z1), (u32 z2), (u32 z3), (u32 z4), (u32 z5), (u32 z6), (u32 z7), sv3, (u64 nn)] 154 (0, 0))] ++ (Hs3 ++ ([(bq5, .cells (cl u8 (Y4 l 54#8)) 5 (0, 0)), (b4, .cells (cl u8 (List.replicate 32 0)) 23 (0, 0))]))) hm22 (Xx.of u8 5 bq21 (Y4 l 92#8)) rfl rfl (Rd.slaAll hm22.h1 sD) Z4 Z4 Yq rfl Q8 sD sD) ?_
     rintro sv23 w23 ⟨Hs23, hm23, g23⟩
     replace g23 : Xx u8 5 sv23 ((Y4 l 92#8) ++ (Vb [z0, z1, z2, z3, z4, z5, z6, z7] l3 nn)) Hs23 := g23
     refine Zo rfl (Qx Tryd.func88 bd88 nm88 (Ye rfl) (c_hsum sv23 ((Y4 l 92#8) ++ (Vb [z0, z1, z2, z3, z4, z5, z6, z7] l3 nn)) _ (hT.mono fun b o e => (hm23).rest b o e) (g23.rd hm23) sD)) ?_
     rintro _ w24 ⟨rfl, _ew24⟩
     have hm24 := hm23.ext _ew24
     refine Xf (Zl (f := u8) (l := Vy ((Y4 l 92#8) ++ (Vb [z0, z1, z2, z3, z4, z5, z6, z7] l3 nn))) Q8 Z5 s4 rfl sD ((Mem.pick4 Hs23 [_, _] Hs3 [_] [_] _ hm24)).h0 sZ rfl) ?_
     rintro _ w26 uq26
     have hm26 : Mem w26 (Qo w0) ([(b4, .cells (cl u8 (Vy ((Y4 l 92#8) ++ (Vb [z0, z1, z2, z3, z4, z5, z6, z7] l3 nn)))) 23 (0, 0))] ++ (Hs23 ++ ([(b8, .cells (cl u8 (Vb [z0, z1, z2, z3, z4, z5, z6, z7] l3 nn)) 23 (0, 0)), (bq3, .cells #[(u32 z0), (u32 z1), (u32 z2), (u32 z3), (u32 z4), (u32 z5), (u32 z6), (u32 z7), sv3, (u64 nn)] 154 (0, 0))] ++ (Hs3 ++ ([(bq5, .cells (cl u8 (Y4 l 54#8)) 5 (0, 0))]))))) := Mem.upd0 (Mem.pick4 Hs23 [_, _] Hs3 [_] [_] _ hm24) uq26
     refine rN (Xn ?_)
     refine Zj [(agg u8 (Vy ((Y4 l 92#8) ++ (Vb [z0, z1, z2, z3, z4, z5, z6, z7] l3 nn))))] ⟨⟨_, s4, X6 Xo rfl Z5 hm26.h0 sZ⟩, trivial⟩ ?_
     exact ⟨congrArg (agg u8) (by unfold Ya; rw [hH.sum]), hm26.toExt⟩
end Go.Proofs.YtkmiemlpfkfiiaaDoor
