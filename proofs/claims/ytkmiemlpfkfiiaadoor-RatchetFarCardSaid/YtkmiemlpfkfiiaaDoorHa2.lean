/- Contracts: hash, second part. Conditions: none beyond those that each theorem states. -/
import Derived.Test.YtkmiemlpfkfiiaaDoorHa1
namespace Go.Proofs.YtkmiemlpfkfiiaaDoor
open Tryd
set_option linter.unusedVariables false
set_option linter.unusedSimpArgs false
def hAt (h : List (BitVec 32)) (l : Zj) : Nat → List (BitVec 32)
 | 0 => h
 | m + 1 => Qgy (hAt h l m) ((l.drop (64 * m)).take 64)
def Qcm (w : World) (b : Nat) : Nat := match w.heap[b]? with | some (.cells c _ _) => sllen (c.getD 8 undef) | _ => 0
theorem Qfr {w : World} {b : Nat} {c : Array Value} {E : TypeId} {fz : Nat × Nat} {v : Value} (h : w.heap[b]? = some (.cells c E fz)) (hc : c[8]? = some v) : Qcm w b = sllen v := by
 simp [Qcm, h, hc]
theorem tail64 {L l3 : Zj} {m : Nat} (h : l3 = L.drop (64 * m)) : (l3.drop (64 : Int).toNat).take ((l3.length : Int).toNat - (64 : Int).toNat) = L.drop (64 * (m + 1)) := by
 subst h
 have e : (64 : Int).toNat = 64 := rfl
 rw [e, List.take_of_length_le (by simp; omega), List.drop_drop]; congr 1
theorem head64 {L l3 : Zj} {m : Nat} (h : l3 = L.drop (64 * m)) : (l3.drop 0).take 64 = (L.drop (64 * m)).take 64 := by
 subst h; rfl
def lenB (n : BitVec 64) : Zj := [(n <<< 3 >>> 56).setWidth 8, (n <<< 3 >>> 48).setWidth 8, (n <<< 3 >>> 40).setWidth 8, (n <<< 3 >>> 32).setWidth 8, (n <<< 3 >>> 24).setWidth 8, (n <<< 3 >>> 16).setWidth 8, (n <<< 3 >>> 8).setWidth 8, (n <<< 3 >>> 0).setWidth 8]
def padP (n : BitVec 64) (len : Nat) : Zj := 128#8 :: (List.replicate ((119 - len) % 64) 0#8 ++ lenB n)
def Qcy (h : List (BitVec 32)) : Zj := (List.range 32).map fun i => (h.getD (i / 4) 0 >>> (24 - 8 * (i % 4))).setWidth 8
@[simp] theorem Qgd (h : List (BitVec 32)) : (Qcy h).length = 32 := by simp [Qcy]
def Un (h : List (BitVec 32)) (l : Zj) (n : BitVec 64) : Zj := Qcy (hAt h (l ++ padP n l.length) ((l ++ padP n l.length).length / 64))
@[simp] theorem Qf8 (h : List (BitVec 32)) (l : Zj) (n : BitVec 64) : (Un h l n).length = 32 := Qgd _
def Uh (l : Zj) : Zj := Un (hAt Qh5 l (l.length / 64)) (l.drop (64 * (l.length / 64))) (0#64 + BitVec.ofInt 64 (l.length : Int))
@[simp] theorem Qjj (l : Zj) : (Uh l).length = 32 := Qf8 _ _ _
theorem sum_told {ys : List (BitVec 32)} {l : Zj} (hy : ys = hAt [1779033703#32, 3144134277#32, 1013904242#32, 2773480762#32, 1359893119#32, 2600822924#32, 528734635#32, 1541459225#32] ([] ++ l) (([] ++ l).length / 64)) : Un ys (([] ++ l).drop (64 * (([] ++ l).length / 64))) (0#64 + BitVec.ofInt 64 (l.length : Int)) = Uh l := by
 subst hy; unfold Uh Qh5; simp only [List.nil_append]
theorem Qlf {α : Type} (f : α → Value) (l : List α) (r : List Value) {i : Nat} (d : α) (h : i < l.length) : ((l.map f ++ r).toArray)[i]? = some (f (l.getD i d)) := by
 simp only [List.getElem?_toArray]
 rw [List.getElem?_append_left (by simpa using h)]
 simp [List.getD_eq_getElem?_getD, h]
theorem Qlc {a : Option Addr} {l : Zj} {m : Nat → Option Obj} (h : a.isNone = true) (hr : ∀ i (h : i < l.length), ∃ b off c E fz, a = some ⟨b, off, none⟩ ∧ m b = some (.cells c E fz) ∧ c[off + i]? = some (u8 l[i])) : l = [] := by
 cases l with
 | nil => rfl
 | cons x l => obtain ⟨b, off, c, E, fz, rfl, _⟩ := hr 0 Xk; cases h
theorem Rt (v : Value) (l : Zj) (w0 : World)  (hr : Rd (Yn w0) u8 v l) (hl : l.length ≤ 35184372088832) : Xm prog 34 #[v] w0 (fun r w1 => ∃ Hs, Xl u8 5 r l Hs ∧ Mem w1 (Qu w0) Hs) := by
 refine Qy (args := [v]) func34 rfl ntmps34 results34 rfl ?_
 have m0 : Mem w0 (Qu w0) [] := Mem.of_world w0
 have hr0 := hr
 obtain ⟨a, cap, rfl, hle, hce⟩ := hr.is
 refine sR <| Zv Jp ?_
 refine rN (Qc (sR ?_))
 refine Zb (Value.slice a l.length cap) <| Qd (Qd5 Zx rfl rfl) <| rN ?_
 refine Xb rfl (fun hc1 => ?_) (fun hc1 => ?_)
 ·
  refine sR <| Zv Jp ?_
  refine rN (Zy (Y7 ?_))
  refine Qs [Jp] ⟨rfl, trivial⟩ ?_
  obtain rfl : l = [] := Qlc hc1 hce
  exact ⟨[], Xl.none u8 5, m0⟩
 ·
  refine Qo (Qa (sR ?_))
  refine Y5 (Zr u8 [] Q9 m0 Zx Yw rfl (by simp [Tm]) rfl) fun w2 b5 m2 => Zb (Value.slice a l.length cap) <| G5 (Yl (f := u8) (Hs := [(b5, .cells (cl u8 ([])) 5 (0, 0))]) (H := []) m2 (Xl.of u8 5 b5 ([])) rfl rfl (Rd.ofRest hr0 m2) Zx Zx Yw rfl Q9 sD sD) ?_
  rintro sv3 w3 ⟨Hs3, m3, g3⟩
  replace g3 : Xl u8 5 sv3 l Hs3 := g3
  refine Zv sv3 ?_
  refine rN (Zy ?_)
  refine Qs [sv3] ⟨rfl, trivial⟩ ?_
  exact ⟨Hs3, g3, by simpa using m3⟩
theorem Qew (bd : Nat) (x0 x1 x2 x3 x4 x5 x6 x7 : BitVec 32) (sv : Value) (ll : Zj) (Hs : List (Nat × Obj)) (n : BitVec 64) (vb : Value) (l : Zj) (w0 : World) (R : Rest) (m0 : Mem w0 R ([(bd, .cells #[(u32 x0), (u32 x1), (u32 x2), (u32 x3), (u32 x4), (u32 x5), (u32 x6), (u32 x7), sv, (u64 n)] 154 (0, 0))] ++ (Hs ++ ([])))) (hT : Tabs R.blk) (hr : Rd R.blk u8 vb l) (gl : Xl u8 5 sv ll Hs) (hl : ll.length + l.length ≤ 35184372088832) : Xm prog 85 #[(ptr bd 0), vb] w0 (fun r w1 => ∃ y0 y1 y2 y3 y4 y5 y6 y7 sv2 Hs2, [y0, y1, y2, y3, y4, y5, y6, y7] = hAt [x0, x1, x2, x3, x4, x5, x6, x7] (ll ++ l) ((ll ++ l).length / 64) ∧ Xl u8 5 sv2 ((ll ++ l).drop (64 * ((ll ++ l).length / 64))) Hs2 ∧ Mem w1 R ([(bd, .cells #[(u32 y0), (u32 y1), (u32 y2), (u32 y3), (u32 y4), (u32 y5), (u32 y6), (u32 y7), sv2, (u64 (n + BitVec.ofInt 64 (l.length : Int)))] 154 (0, 0))] ++ (Hs2 ++ ([])))) := by
 refine Qy (args := [(ptr bd 0), vb]) func85 rfl ntmps85 results85 rfl ?_
 obtain ⟨Es, fzs, hTs⟩ := hT.start
 obtain ⟨Er, fzr, hTr⟩ := hT.round
 refine sR <| Zb (ptr bd 0) <| Qd (Qm rfl) <| Qd (Zd (r := 9) Jf rfl Yy Zl rfl rfl) <| Qd (v := (u64 n)) (Ql Xg rfl rfl m0.h0 rfl) <| Zb vb <| Qd (Yg (Rd.ofRest hr m0) Zx rfl) <| Qd (Jv ⟨_, Di⟩ Xg rfl) <| Qd (X7 rfl rfl) <| Qd (Qm rfl) <| Qd (Zd (r := 9) Jf rfl Yy Zl rfl rfl) <| Ve (Vw Zl rfl rfl (Zm _) m0.h0 Xk (.inl (Nat.zero_le _))) ?_
 rintro _ w1 uq1
 have m1 : Mem _ _ ([(bd, .cells #[(u32 x0), (u32 x1), (u32 x2), (u32 x3), (u32 x4), (u32 x5), (u32 x6), (u32 x7), sv, (u64 (n + (BitVec.ofInt 64 (l.length : Int))))] 154 (0, 0))] ++ (Hs ++ ([]))) := m0.upd0 uq1
 refine rN (sR ?_)
 refine Zb (ptr bd 0) <| Zb (ptr bd 0) <| Qd (Qm rfl) <| Qd (Zd (r := 8) Jf rfl Yy Mc rfl rfl) <| Qd (v := sv) (Ql Zx rfl rfl m1.h0 rfl) <| Zb vb <| G5 (Yl (f := u8) (Hs := Hs) (H := [_]) (Mem.pick [_] Hs _ m1) gl rfl rfl (Rd.ofRest hr m1) Zx Zx Yw rfl Q9 sD sD) ?_
 rintro sv2 w2 ⟨Hs2, m2, g2⟩
 replace g2 : Xl u8 5 sv2 (ll ++ l) Hs2 := g2
 refine Qd (Qm rfl) <| Qd (Zd (r := 8) Jf rfl Yy Mc rfl rfl) <| Ve (Vw Mc rfl rfl g2.one ((Mem.pick Hs2 [_] _ m2)).h0 Xk (.inl (Nat.zero_le _))) ?_
 rintro _ w3 uq3
 have m3 : Mem _ _ ([(bd, .cells #[(u32 x0), (u32 x1), (u32 x2), (u32 x3), (u32 x4), (u32 x5), (u32 x6), (u32 x7), sv2, (u64 (n + (BitVec.ofInt 64 (l.length : Int))))] 154 (0, 0))] ++ (Hs2 ++ ([]))) := Mem.upd0 (Mem.pick Hs2 [_] _ m2) uq3
 refine rN (Df ?_)
 refine Jq (fun g wv => ∃ (m : Nat) (z0 z1 z2 z3 z4 z5 z6 z7 : BitVec 32) (sv3 : Value) (l3 : Zj) (Hs3 : List (Nat × Obj)), (64 * m ≤ (ll ++ l).length) ∧ ([z0, z1, z2, z3, z4, z5, z6, z7] = hAt [x0, x1, x2, x3, x4, x5, x6, x7] (ll ++ l) m) ∧ (l3 = (ll ++ l).drop (64 * m)) ∧ (Xl u8 5 sv3 l3 Hs3) ∧ g 0 = (ptr bd 0) ∧ g 1 = vb ∧ Mem wv R ([(bd, .cells #[(u32 z0), (u32 z1), (u32 z2), (u32 z3), (u32 z4), (u32 z5), (u32 z6), (u32 z7), sv3, (u64 (n + BitVec.ofInt 64 (l.length : Int)))] 154 (0, 0))] ++ (Hs3 ++ ([])))) (fun g wv => Qcm wv bd) ?_ ?_
 ·exact ⟨0, x0, x1, x2, x3, x4, x5, x6, x7, sv2, ll ++ l, Hs2, Xk, rfl, Xk, g2, rfl, rfl, m3⟩
 rintro fr4 w5 ⟨m, z0, z1, z2, z3, z4, z5, z6, z7, sv3, l3, Hs3, m1, hz, hl3, gl3, s0, s1, m5⟩
 have hl3n : l3.length = (ll ++ l).length - 64 * m := by rw [hl3]; simp
 have hLn : (ll ++ l).length = ll.length + l.length := by simp
 refine Qc (sR ?_)
 refine Yk s0 <| Qd (Qm rfl) <| Qd (Zd (r := 8) Jf rfl Yy Mc rfl rfl) <| Qd (v := sv3) (Ql Zx rfl rfl m5.h0 rfl) <| Qd (Yg (gl3.rd (Mem.pick [_] Hs3 _ m5)) Zx rfl) <| Qd (Eu (b := 64) rfl rfl) <| rN ?_
 refine Xb rfl (fun hc6 => ?_) (fun hc6 => ?_)
 ·
  have hc6p := of_decide_eq_true hc6
  refine Qo (Qa (Df (sR ?_)))
  refine Yk s0 <| Yk s0 <| Qd (Qm rfl) <| Qd (Zd (r := 8) Jf rfl Yy Mc rfl rfl) <| Qd (v := sv3) (Ql Zx rfl rfl m5.h0 rfl) <| Qd (Yv (i := 0) (j := 64) (gl3.rd (Mem.pick [_] Hs3 _ m5)) Zx Yw rfl (Zc _ _) (Xv (k := .i64) (i := 64) rfl) oM sD sD) ?_
  have hF8 : Mem w5 R (([(bd, .cells #[(u32 z0), (u32 z1), (u32 z2), (u32 z3), (u32 z4), (u32 z5), (u32 z6), (u32 z7), sv3, (u64 (n + BitVec.ofInt 64 (l.length : Int)))] 154 (0, 0))]) ++ (Hs3 ++ ([]))) := by
   have hT := m5
   try simp only [List.append_assoc, List.cons_append, List.nil_append, List.append_nil] at hT ⊢
   exact hT
  refine G5 (oc102 (X3 rfl rfl) (c_take bd z0 z1 z2 z3 z4 z5 z6 z7 sv3 (n + BitVec.ofInt 64 (l.length : Int)) (Ai sv3 0 64) ((l3.drop 0).take 64) _ _ (Mem.give hF8) (hT.mono fun b o e => Mem.addRest hF8 e) ((Xl.cast (l' := (l3.drop 0).take 64) (Xl.sub (i := 0) (j := 64) gl3 oM sD sD) rfl).rdAdd hF8 (fun p hp => (List.mem_append_left _ hp))) sD)) ?_
  rintro _ w7 ⟨y0q9, y1q9, y2q9, y3q9, y4q9, y5q9, y6q9, y7q9, hyq9, k_w7⟩
  have m7 : Mem w7 R ([(bd, .cells #[(u32 y0q9), (u32 y1q9), (u32 y2q9), (u32 y3q9), (u32 y4q9), (u32 y5q9), (u32 y6q9), (u32 y7q9), sv3, (u64 (n + BitVec.ofInt 64 (l.length : Int)))] 154 (0, 0))] ++ (Hs3 ++ ([]))) := ymA (Mem.back hF8 k_w7)
  refine rN (Qb ?_)
  refine Yk s0 <| Yk s0 <| Qd (Qm rfl) <| Qd (Zd (r := 8) Jf rfl Yy Mc rfl rfl) <| Qd (v := sv3) (Ql Zx rfl rfl m7.h0 rfl) <| Qd (Yv (i := 64) (j := (l3.length : Int)) (gl3.rd (Mem.pick [_] Hs3 _ m7)) Zx Yw rfl (Xv (k := .i64) (i := 64) rfl) (Zc _ _) oM sD sD) <| Qd (Qm rfl) <| Qd (Zd (r := 8) Jf rfl Yy Mc rfl rfl) <| Ve (Vw Mc rfl rfl (Xl.cast (l' := (l3.drop (64 : Int).toNat).take (((l3.length : Int) : Int).toNat - (64 : Int).toNat)) (Xl.sub (i := 64) (j := (l3.length : Int)) gl3 oM sD sD) rfl).one m7.h0 Xk (.inl (Nat.zero_le _))) ?_
  rintro _ w10 uq10
  have m10 : Mem _ _ ([(bd, .cells #[(u32 y0q9), (u32 y1q9), (u32 y2q9), (u32 y3q9), (u32 y4q9), (u32 y5q9), (u32 y6q9), (u32 y7q9), (Ai sv3 64 (l3.length : Int)), (u64 (n + BitVec.ofInt 64 (l.length : Int)))] 154 (0, 0))] ++ (Hs3 ++ ([]))) := m7.upd0 uq10
  refine Zo (Qh (Qa ?_))
  rw [head64 hl3] at hyq9
  have hzn : [y0q9, y1q9, y2q9, y3q9, y4q9, y5q9, y6q9, y7q9] = hAt [x0, x1, x2, x3, x4, x5, x6, x7] (ll ++ l) (m + 1) := by rw [hyq9, hz]; rfl
  exact ⟨⟨m + 1, y0q9, y1q9, y2q9, y3q9, y4q9, y5q9, y6q9, y7q9, (Ai sv3 64 (l3.length : Int)), (l3.drop (64 : Int).toNat).take (((l3.length : Int) : Int).toNat - (64 : Int).toNat), Hs3, oM, hzn, (tail64 hl3), (Xl.cast (l' := (l3.drop (64 : Int).toNat).take (((l3.length : Int) : Int).toNat - (64 : Int).toNat)) (Xl.sub (i := 64) (j := (l3.length : Int)) gl3 oM sD sD) rfl), s0, s1, m10⟩, (by show Qcm w10 bd < Qcm w5 bd; rw [Qfr (v := (Ai sv3 64 (l3.length : Int))) m10.h0 rfl, Qfr (v := sv3) m5.h0 rfl, Xl.sllen (Xl.cast (l' := (l3.drop (64 : Int).toNat).take (((l3.length : Int) : Int).toNat - (64 : Int).toNat)) (Xl.sub (i := 64) (j := (l3.length : Int)) gl3 oM sD sD) rfl), gl3.sllen]; simp; omega)⟩
 ·
  have hc6p := of_decide_eq_false hc6
  have hl3n : l3.length = (ll ++ l).length - 64 * m := by rw [hl3]; simp
  obtain rfl : m = (ll ++ l).length / 64 := by omega
  refine Yc ?_
  refine Qr (Qr (Xp ?_))
  refine Ec [] trivial ?_
  exact ⟨z0, z1, z2, z3, z4, z5, z6, z7, sv3, Hs3, hz, hl3 ▸ gl3, m5⟩
end Go.Proofs.YtkmiemlpfkfiiaaDoor
