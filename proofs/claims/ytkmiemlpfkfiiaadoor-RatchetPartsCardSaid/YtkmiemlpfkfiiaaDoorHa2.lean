/- Contracts: hash, second part. Conditions: none beyond those that each theorem states. -/
import Derived.Test.YtkmiemlpfkfiiaaDoorHa1
namespace Go.Proofs.YtkmiemlpfkfiiaaDoor
open Tryd
set_option linter.unusedVariables false
set_option linter.unusedSimpArgs false
def hAt (h : List (BitVec 32)) (l : Xg) : Nat → List (BitVec 32)
 | 0 => h
 | m + 1 => Qg2 (hAt h l m) ((l.drop (64 * m)).take 64)
def Qfj (w : World) (b : Nat) : Nat := match w.heap[b]? with | some (.cells c _ _) => sllen (c.getD 8 undef) | _ => 0
theorem Qi6 {w : World} {b : Nat} {c : Array Value} {E : TypeId} {fz : Nat × Nat} {v : Value} (h : w.heap[b]? = some (.cells c E fz)) (hc : c[8]? = some v) : Qfj w b = sllen v := by
 simp [Qfj, h, hc]
theorem tail64 {L l3 : Xg} {m : Nat} (h : l3 = L.drop (64 * m)) : (l3.drop (64 : Int).toNat).take ((l3.length : Int).toNat - (64 : Int).toNat) = L.drop (64 * (m + 1)) := by
 subst h
 have e : (64 : Int).toNat = 64 := rfl
 rw [e, List.take_of_length_le (by simp; omega), List.drop_drop]; congr 1
theorem head64 {L l3 : Xg} {m : Nat} (h : l3 = L.drop (64 * m)) : (l3.drop 0).take 64 = (L.drop (64 * m)).take 64 := by
 subst h; rfl
def lenB (n : BitVec 64) : Xg := [(n <<< 3 >>> 56).setWidth 8, (n <<< 3 >>> 48).setWidth 8, (n <<< 3 >>> 40).setWidth 8, (n <<< 3 >>> 32).setWidth 8, (n <<< 3 >>> 24).setWidth 8, (n <<< 3 >>> 16).setWidth 8, (n <<< 3 >>> 8).setWidth 8, (n <<< 3 >>> 0).setWidth 8]
def padP (n : BitVec 64) (len : Nat) : Xg := 128#8 :: (List.replicate ((119 - len) % 64) 0#8 ++ lenB n)
def Qch (h : List (BitVec 32)) : Xg := (List.range 32).map fun i => (h.getD (i / 4) 0 >>> (24 - 8 * (i % 4))).setWidth 8
@[simp] theorem Qjs (h : List (BitVec 32)) : (Qch h).length = 32 := by simp [Qch]
def Df (h : List (BitVec 32)) (l : Xg) (n : BitVec 64) : Xg := Qch (hAt h (l ++ padP n l.length) ((l ++ padP n l.length).length / 64))
@[simp] theorem Qjl (h : List (BitVec 32)) (l : Xg) (n : BitVec 64) : (Df h l n).length = 32 := Qjs _
def U4 (l : Xg) : Xg := Df (hAt Qb2 l (l.length / 64)) (l.drop (64 * (l.length / 64))) (0#64 + BitVec.ofInt 64 (l.length : Int))
@[simp] theorem Qmw (l : Xg) : (U4 l).length = 32 := Qjl _ _ _
theorem sum_told {ys : List (BitVec 32)} {l : Xg} (hy : ys = hAt [1779033703#32, 3144134277#32, 1013904242#32, 2773480762#32, 1359893119#32, 2600822924#32, 528734635#32, 1541459225#32] ([] ++ l) (([] ++ l).length / 64)) : Df ys (([] ++ l).drop (64 * (([] ++ l).length / 64))) (0#64 + BitVec.ofInt 64 (l.length : Int)) = U4 l := by
 subst hy; unfold U4 Qb2; simp only [List.nil_append]
theorem Qo5 {α : Type} (f : α → Value) (l : List α) (r : List Value) {i : Nat} (d : α) (h : i < l.length) : ((l.map f ++ r).toArray)[i]? = some (f (l.getD i d)) := by
 simp only [List.getElem?_toArray]
 rw [List.getElem?_append_left (by simpa using h)]
 simp [List.getD_eq_getElem?_getD, h]
theorem Qoy {a : Option Addr} {l : Xg} {m : Nat → Option Obj} (h : a.isNone = true) (hr : ∀ i (h : i < l.length), ∃ b off c E fz, a = some ⟨b, off, none⟩ ∧ m b = some (.cells c E fz) ∧ c[off + i]? = some (u8 l[i])) : l = [] := by
 cases l with
 | nil => rfl
 | cons x l => obtain ⟨b, off, c, E, fz, rfl, _⟩ := hr 0 X7; cases h
theorem Qcg (v : Value) (l : Xg) (w0 : World)  (hr : Rd (Jl w0) u8 v l) (hl : l.length ≤ 35184372088832) : X9 prog 34 #[v] w0 (fun r w1 => ∃ Hs, Xe u8 5 r l Hs ∧ Mem w1 (Qu w0) Hs) := by
 refine Zb (args := [v]) func34 rfl ntmps34 results34 rfl ?_
 have m0 : Mem w0 (Qu w0) [] := Mem.of_world w0
 have hr0 := hr
 obtain ⟨a, cap, rfl, hle, hce⟩ := hr.is
 refine sR <| Zz Yj ?_
 refine rN (Qa (sR ?_))
 refine Zp (Value.slice a l.length cap) <| Qd (Qhi Zu rfl rfl) <| rN ?_
 refine Z8 rfl (fun hc1 => ?_) (fun hc1 => ?_)
 ·
  refine sR <| Zz Yj ?_
  refine rN (Xb (Y3 ?_))
  refine Qv [Yj] ⟨rfl, trivial⟩ ?_
  obtain rfl : l = [] := Qoy hc1 hce
  exact ⟨[], Xe.none u8 5, m0⟩
 ·
  refine Qs (Qc (sR ?_))
  refine Y9 (Qw u8 [] Qy m0 Zu Y0 rfl (by simp [Ac]) rfl) fun w2 b5 m2 => Zp (Value.slice a l.length cap) <| Vy (Xp (f := u8) (Hs := [(b5, .cells (cl u8 ([])) 5 (0, 0))]) (H := []) m2 (Xe.of u8 5 b5 ([])) rfl rfl (Rd.ofRest hr0 m2) Zu Zu Y0 rfl Qy sD sD) ?_
  rintro sv3 w3 ⟨Hs3, m3, g3⟩
  replace g3 : Xe u8 5 sv3 l Hs3 := g3
  refine Zz sv3 ?_
  refine rN (Xb ?_)
  refine Qv [sv3] ⟨rfl, trivial⟩ ?_
  exact ⟨Hs3, g3, by simpa using m3⟩
theorem Qh8 (bd : Nat) (x0 x1 x2 x3 x4 x5 x6 x7 : BitVec 32) (sv : Value) (ll : Xg) (Hs : List (Nat × Obj)) (n : BitVec 64) (vb : Value) (l : Xg) (w0 : World) (R : Rest) (m0 : Mem w0 R ([(bd, .cells #[(u32 x0), (u32 x1), (u32 x2), (u32 x3), (u32 x4), (u32 x5), (u32 x6), (u32 x7), sv, (u64 n)] 154 (0, 0))] ++ (Hs ++ ([])))) (hT : Tabs R.blk) (hr : Rd R.blk u8 vb l) (gl : Xe u8 5 sv ll Hs) (hl : ll.length + l.length ≤ 35184372088832) : X9 prog 85 #[(ptr bd 0), vb] w0 (fun r w1 => ∃ y0 y1 y2 y3 y4 y5 y6 y7 sv2 Hs2, [y0, y1, y2, y3, y4, y5, y6, y7] = hAt [x0, x1, x2, x3, x4, x5, x6, x7] (ll ++ l) ((ll ++ l).length / 64) ∧ Xe u8 5 sv2 ((ll ++ l).drop (64 * ((ll ++ l).length / 64))) Hs2 ∧ Mem w1 R ([(bd, .cells #[(u32 y0), (u32 y1), (u32 y2), (u32 y3), (u32 y4), (u32 y5), (u32 y6), (u32 y7), sv2, (u64 (n + BitVec.ofInt 64 (l.length : Int)))] 154 (0, 0))] ++ (Hs2 ++ ([])))) := by
 refine Zb (args := [(ptr bd 0), vb]) func85 rfl ntmps85 results85 rfl ?_
 obtain ⟨Es, fzs, hTs⟩ := hT.start
 obtain ⟨Er, fzr, hTr⟩ := hT.round
 refine sR <| Zp (ptr bd 0) <| Qd (Zh rfl) <| Qd (Zr (r := 9) Vq rfl Jr Xu rfl rfl) <| Qd (v := (u64 n)) (Ql Ym rfl rfl m0.h0 rfl) <| Zp vb <| Qd (Yl (Rd.ofRest hr m0) Zu rfl) <| Qd (Jp ⟨_, Fj⟩ Ym rfl) <| Qd (J6 rfl rfl) <| Qd (Zh rfl) <| Qd (Zr (r := 9) Vq rfl Jr Xu rfl rfl) <| Vk (Un Xu rfl rfl (Xy _) m0.h0 X7 (.inl (Nat.zero_le _))) ?_
 rintro _ w1 uq1
 have m1 : Mem _ _ ([(bd, .cells #[(u32 x0), (u32 x1), (u32 x2), (u32 x3), (u32 x4), (u32 x5), (u32 x6), (u32 x7), sv, (u64 (n + (BitVec.ofInt 64 (l.length : Int))))] 154 (0, 0))] ++ (Hs ++ ([]))) := m0.upd0 uq1
 refine rN (sR ?_)
 refine Zp (ptr bd 0) <| Zp (ptr bd 0) <| Qd (Zh rfl) <| Qd (Zr (r := 8) Vq rfl Jr Pg rfl rfl) <| Qd (v := sv) (Ql Zu rfl rfl m1.h0 rfl) <| Zp vb <| Vy (Xp (f := u8) (Hs := Hs) (H := [_]) (Mem.pick [_] Hs _ m1) gl rfl rfl (Rd.ofRest hr m1) Zu Zu Y0 rfl Qy sD sD) ?_
 rintro sv2 w2 ⟨Hs2, m2, g2⟩
 replace g2 : Xe u8 5 sv2 (ll ++ l) Hs2 := g2
 refine Qd (Zh rfl) <| Qd (Zr (r := 8) Vq rfl Jr Pg rfl rfl) <| Vk (Un Pg rfl rfl g2.one ((Mem.pick Hs2 [_] _ m2)).h0 X7 (.inl (Nat.zero_le _))) ?_
 rintro _ w3 uq3
 have m3 : Mem _ _ ([(bd, .cells #[(u32 x0), (u32 x1), (u32 x2), (u32 x3), (u32 x4), (u32 x5), (u32 x6), (u32 x7), sv2, (u64 (n + (BitVec.ofInt 64 (l.length : Int))))] 154 (0, 0))] ++ (Hs2 ++ ([]))) := Mem.upd0 (Mem.pick Hs2 [_] _ m2) uq3
 refine rN (V5 ?_)
 refine Y7 (fun g wv => ∃ (m : Nat) (z0 z1 z2 z3 z4 z5 z6 z7 : BitVec 32) (sv3 : Value) (l3 : Xg) (Hs3 : List (Nat × Obj)), (64 * m ≤ (ll ++ l).length) ∧ ([z0, z1, z2, z3, z4, z5, z6, z7] = hAt [x0, x1, x2, x3, x4, x5, x6, x7] (ll ++ l) m) ∧ (l3 = (ll ++ l).drop (64 * m)) ∧ (Xe u8 5 sv3 l3 Hs3) ∧ g 0 = (ptr bd 0) ∧ g 1 = vb ∧ Mem wv R ([(bd, .cells #[(u32 z0), (u32 z1), (u32 z2), (u32 z3), (u32 z4), (u32 z5), (u32 z6), (u32 z7), sv3, (u64 (n + BitVec.ofInt 64 (l.length : Int)))] 154 (0, 0))] ++ (Hs3 ++ ([])))) (fun g wv => Qfj wv bd) ?_ ?_
 ·exact ⟨0, x0, x1, x2, x3, x4, x5, x6, x7, sv2, ll ++ l, Hs2, X7, rfl, X7, g2, rfl, rfl, m3⟩
 rintro fr4 w5 ⟨m, z0, z1, z2, z3, z4, z5, z6, z7, sv3, l3, Hs3, m1, hz, hl3, gl3, s0, s1, m5⟩
 have hl3n : l3.length = (ll ++ l).length - 64 * m := by rw [hl3]; simp
 have hLn : (ll ++ l).length = ll.length + l.length := by simp
 refine Qa (sR ?_)
 refine Ya s0 <| Qd (Zh rfl) <| Qd (Zr (r := 8) Vq rfl Jr Pg rfl rfl) <| Qd (v := sv3) (Ql Zu rfl rfl m5.h0 rfl) <| Qd (Yl (gl3.rd (Mem.pick [_] Hs3 _ m5)) Zu rfl) <| Qd (E8 (b := 64) rfl rfl) <| rN ?_
 refine Z8 rfl (fun hc6 => ?_) (fun hc6 => ?_)
 ·
  have hc6p := of_decide_eq_true hc6
  refine Qs (Qc (V5 (sR ?_)))
  refine Ya s0 <| Ya s0 <| Qd (Zh rfl) <| Qd (Zr (r := 8) Vq rfl Jr Pg rfl rfl) <| Qd (v := sv3) (Ql Zu rfl rfl m5.h0 rfl) <| Qd (Jd (i := 0) (j := 64) (gl3.rd (Mem.pick [_] Hs3 _ m5)) Zu Y0 rfl (Zi _ _) (Yh (k := .i64) (i := 64) rfl) oM sD sD) ?_
  have hF8 : Mem w5 R (([(bd, .cells #[(u32 z0), (u32 z1), (u32 z2), (u32 z3), (u32 z4), (u32 z5), (u32 z6), (u32 z7), sv3, (u64 (n + BitVec.ofInt 64 (l.length : Int)))] 154 (0, 0))]) ++ (Hs3 ++ ([]))) := by
   have hT := m5
   try simp only [List.append_assoc, List.cons_append, List.nil_append, List.append_nil] at hT ⊢
   exact hT
  refine Vy (oc102 (Xm rfl rfl) (c_take bd z0 z1 z2 z3 z4 z5 z6 z7 sv3 (n + BitVec.ofInt 64 (l.length : Int)) (Ci sv3 0 64) ((l3.drop 0).take 64) _ _ (Mem.give hF8) (hT.mono fun b o e => Mem.addRest hF8 e) ((Xe.cast (l' := (l3.drop 0).take 64) (Xe.sub (i := 0) (j := 64) gl3 oM sD sD) rfl).rdAdd hF8 (fun p hp => (List.mem_append_left _ hp))) sD)) ?_
  rintro _ w7 ⟨y0q9, y1q9, y2q9, y3q9, y4q9, y5q9, y6q9, y7q9, hyq9, k_w7⟩
  have m7 : Mem w7 R ([(bd, .cells #[(u32 y0q9), (u32 y1q9), (u32 y2q9), (u32 y3q9), (u32 y4q9), (u32 y5q9), (u32 y6q9), (u32 y7q9), sv3, (u64 (n + BitVec.ofInt 64 (l.length : Int)))] 154 (0, 0))] ++ (Hs3 ++ ([]))) := ymA (Mem.back hF8 k_w7)
  refine rN (Qb ?_)
  refine Ya s0 <| Ya s0 <| Qd (Zh rfl) <| Qd (Zr (r := 8) Vq rfl Jr Pg rfl rfl) <| Qd (v := sv3) (Ql Zu rfl rfl m7.h0 rfl) <| Qd (Jd (i := 64) (j := (l3.length : Int)) (gl3.rd (Mem.pick [_] Hs3 _ m7)) Zu Y0 rfl (Yh (k := .i64) (i := 64) rfl) (Zi _ _) oM sD sD) <| Qd (Zh rfl) <| Qd (Zr (r := 8) Vq rfl Jr Pg rfl rfl) <| Vk (Un Pg rfl rfl (Xe.cast (l' := (l3.drop (64 : Int).toNat).take (((l3.length : Int) : Int).toNat - (64 : Int).toNat)) (Xe.sub (i := 64) (j := (l3.length : Int)) gl3 oM sD sD) rfl).one m7.h0 X7 (.inl (Nat.zero_le _))) ?_
  rintro _ w10 uq10
  have m10 : Mem _ _ ([(bd, .cells #[(u32 y0q9), (u32 y1q9), (u32 y2q9), (u32 y3q9), (u32 y4q9), (u32 y5q9), (u32 y6q9), (u32 y7q9), (Ci sv3 64 (l3.length : Int)), (u64 (n + BitVec.ofInt 64 (l.length : Int)))] 154 (0, 0))] ++ (Hs3 ++ ([]))) := m7.upd0 uq10
  refine Zv (Qh (Qc ?_))
  rw [head64 hl3] at hyq9
  have hzn : [y0q9, y1q9, y2q9, y3q9, y4q9, y5q9, y6q9, y7q9] = hAt [x0, x1, x2, x3, x4, x5, x6, x7] (ll ++ l) (m + 1) := by rw [hyq9, hz]; rfl
  exact ⟨⟨m + 1, y0q9, y1q9, y2q9, y3q9, y4q9, y5q9, y6q9, y7q9, (Ci sv3 64 (l3.length : Int)), (l3.drop (64 : Int).toNat).take (((l3.length : Int) : Int).toNat - (64 : Int).toNat), Hs3, oM, hzn, (tail64 hl3), (Xe.cast (l' := (l3.drop (64 : Int).toNat).take (((l3.length : Int) : Int).toNat - (64 : Int).toNat)) (Xe.sub (i := 64) (j := (l3.length : Int)) gl3 oM sD sD) rfl), s0, s1, m10⟩, (by show Qfj w10 bd < Qfj w5 bd; rw [Qi6 (v := (Ci sv3 64 (l3.length : Int))) m10.h0 rfl, Qi6 (v := sv3) m5.h0 rfl, Xe.sllen (Xe.cast (l' := (l3.drop (64 : Int).toNat).take (((l3.length : Int) : Int).toNat - (64 : Int).toNat)) (Xe.sub (i := 64) (j := (l3.length : Int)) gl3 oM sD sD) rfl), gl3.sllen]; simp; omega)⟩
 ·
  have hc6p := of_decide_eq_false hc6
  have hl3n : l3.length = (ll ++ l).length - 64 * m := by rw [hl3]; simp
  obtain rfl : m = (ll ++ l).length / 64 := by omega
  refine X6 ?_
  refine Qm (Qm (Xi ?_))
  refine Ld [] trivial ?_
  exact ⟨z0, z1, z2, z3, z4, z5, z6, z7, sv3, Hs3, hz, hl3 ▸ gl3, m5⟩
end Go.Proofs.YtkmiemlpfkfiiaaDoor
