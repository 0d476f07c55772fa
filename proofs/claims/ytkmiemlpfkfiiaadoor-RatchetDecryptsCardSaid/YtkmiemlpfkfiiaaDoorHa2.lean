/- Contracts: hash, second part. Conditions: none beyond those that each theorem states. -/
import Derived.Test.YtkmiemlpfkfiiaaDoorHa1
namespace Go.Proofs.YtkmiemlpfkfiiaaDoor
open Tryd
set_option linter.unusedVariables false
set_option linter.unusedSimpArgs false
def hAt (h : List (BitVec 32)) (l : Z8) : Nat → List (BitVec 32)
 | 0 => h
 | m + 1 => Qhc (hAt h l m) ((l.drop (64 * m)).take 64)
def Qfw (w : World) (b : Nat) : Nat := match w.heap[b]? with | some (.cells c _ _) => sllen (c.getD 8 undef) | _ => 0
theorem Qjd {w : World} {b : Nat} {c : Array Value} {E : TypeId} {fz : Nat × Nat} {v : Value} (h : w.heap[b]? = some (.cells c E fz)) (hc : c[8]? = some v) : Qfw w b = sllen v := by
 simp [Qfw, h, hc]
theorem tail64 {L l3 : Z8} {m : Nat} (h : l3 = L.drop (64 * m)) : (l3.drop (64 : Int).toNat).take ((l3.length : Int).toNat - (64 : Int).toNat) = L.drop (64 * (m + 1)) := by
 subst h
 have e : (64 : Int).toNat = 64 := rfl
 rw [e, List.take_of_length_le (by simp; omega), List.drop_drop]; congr 1
theorem head64 {L l3 : Z8} {m : Nat} (h : l3 = L.drop (64 * m)) : (l3.drop 0).take 64 = (L.drop (64 * m)).take 64 := by
 subst h; rfl
def lenB (n : BitVec 64) : Z8 := [(n <<< 3 >>> 56).setWidth 8, (n <<< 3 >>> 48).setWidth 8, (n <<< 3 >>> 40).setWidth 8, (n <<< 3 >>> 32).setWidth 8, (n <<< 3 >>> 24).setWidth 8, (n <<< 3 >>> 16).setWidth 8, (n <<< 3 >>> 8).setWidth 8, (n <<< 3 >>> 0).setWidth 8]
def padP (n : BitVec 64) (len : Nat) : Z8 := 128#8 :: (List.replicate ((119 - len) % 64) 0#8 ++ lenB n)
def Qcs (h : List (BitVec 32)) : Z8 := (List.range 32).map fun i => (h.getD (i / 4) 0 >>> (24 - 8 * (i % 4))).setWidth 8
@[simp] theorem Qj3 (h : List (BitVec 32)) : (Qcs h).length = 32 := by simp [Qcs]
def Dn (h : List (BitVec 32)) (l : Z8) (n : BitVec 64) : Z8 := Qcs (hAt h (l ++ padP n l.length) ((l ++ padP n l.length).length / 64))
@[simp] theorem Qjt (h : List (BitVec 32)) (l : Z8) (n : BitVec 64) : (Dn h l n).length = 32 := Qj3 _
def U4 (l : Z8) : Z8 := Dn (hAt Qcd l (l.length / 64)) (l.drop (64 * (l.length / 64))) (0#64 + BitVec.ofInt 64 (l.length : Int))
@[simp] theorem Qm4 (l : Z8) : (U4 l).length = 32 := Qjt _ _ _
theorem sum_told {ys : List (BitVec 32)} {l : Z8} (hy : ys = hAt [1779033703#32, 3144134277#32, 1013904242#32, 2773480762#32, 1359893119#32, 2600822924#32, 528734635#32, 1541459225#32] ([] ++ l) (([] ++ l).length / 64)) : Dn ys (([] ++ l).drop (64 * (([] ++ l).length / 64))) (0#64 + BitVec.ofInt 64 (l.length : Int)) = U4 l := by
 subst hy; unfold U4 Qcd; simp only [List.nil_append]
theorem Qpc {α : Type} (f : α → Value) (l : List α) (r : List Value) {i : Nat} (d : α) (h : i < l.length) : ((l.map f ++ r).toArray)[i]? = some (f (l.getD i d)) := by
 simp only [List.getElem?_toArray]
 rw [List.getElem?_append_left (by simpa using h)]
 simp [List.getD_eq_getElem?_getD, h]
theorem Qo5 {a : Option Addr} {l : Z8} {m : Nat → Option Obj} (h : a.isNone = true) (hr : ∀ i (h : i < l.length), ∃ b off c E fz, a = some ⟨b, off, none⟩ ∧ m b = some (.cells c E fz) ∧ c[off + i]? = some (u8 l[i])) : l = [] := by
 cases l with
 | nil => rfl
 | cons x l => obtain ⟨b, off, c, E, fz, rfl, _⟩ := hr 0 Ya; cases h
theorem Qcr (v : Value) (l : Z8) (w0 : World)  (hr : Rd (Y8 w0) u8 v l) (hl : l.length ≤ 35184372088832) : X0 prog 34 #[v] w0 (fun r w1 => ∃ Hs, Z5 u8 5 r l Hs ∧ Mem w1 (Qr w0) Hs) := by
 refine Qy (args := [v]) func34 rfl ntmps34 results34 rfl ?_
 have m0 : Mem w0 (Qr w0) [] := Mem.of_world w0
 have hr0 := hr
 obtain ⟨a, cap, rfl, hle, hce⟩ := hr.is
 refine sR <| Zx Wl ?_
 refine rN (Qa (sR ?_))
 refine Zm (Value.slice a l.length cap) <| Qd (Qhs Zo rfl rfl) <| rN ?_
 refine Zy rfl (fun hc1 => ?_) (fun hc1 => ?_)
 ·
  refine sR <| Zx Wl ?_
  refine rN (Zz (Yv ?_))
  refine Qp [Wl] ⟨rfl, trivial⟩ ?_
  obtain rfl : l = [] := Qo5 hc1 hce
  exact ⟨[], Z5.none u8 5, m0⟩
 ·
  refine Qn (Qc (sR ?_))
  refine Y9 (Qq u8 [] Qs m0 Zo Yw rfl (by simp [Ce]) rfl) fun w2 b5 m2 => Zm (Value.slice a l.length cap) <| Vw (Xf (f := u8) (Hs := [(b5, .cells (cl u8 ([])) 5 (0, 0))]) (H := []) m2 (Z5.of u8 5 b5 ([])) rfl rfl (Rd.ofRest hr0 m2) Zo Zo Yw rfl Qs sD sD) ?_
  rintro sv3 w3 ⟨Hs3, m3, g3⟩
  replace g3 : Z5 u8 5 sv3 l Hs3 := g3
  refine Zx sv3 ?_
  refine rN (Zz ?_)
  refine Qp [sv3] ⟨rfl, trivial⟩ ?_
  exact ⟨Hs3, g3, by simpa using m3⟩
theorem Qih (bd : Nat) (x0 x1 x2 x3 x4 x5 x6 x7 : BitVec 32) (sv : Value) (ll : Z8) (Hs : List (Nat × Obj)) (n : BitVec 64) (vb : Value) (l : Z8) (w0 : World) (R : Rest) (m0 : Mem w0 R ([(bd, .cells #[(u32 x0), (u32 x1), (u32 x2), (u32 x3), (u32 x4), (u32 x5), (u32 x6), (u32 x7), sv, (u64 n)] 154 (0, 0))] ++ (Hs ++ ([])))) (hT : Tabs R.blk) (hr : Rd R.blk u8 vb l) (gl : Z5 u8 5 sv ll Hs) (hl : ll.length + l.length ≤ 35184372088832) : X0 prog 85 #[(ptr bd 0), vb] w0 (fun r w1 => ∃ y0 y1 y2 y3 y4 y5 y6 y7 sv2 Hs2, [y0, y1, y2, y3, y4, y5, y6, y7] = hAt [x0, x1, x2, x3, x4, x5, x6, x7] (ll ++ l) ((ll ++ l).length / 64) ∧ Z5 u8 5 sv2 ((ll ++ l).drop (64 * ((ll ++ l).length / 64))) Hs2 ∧ Mem w1 R ([(bd, .cells #[(u32 y0), (u32 y1), (u32 y2), (u32 y3), (u32 y4), (u32 y5), (u32 y6), (u32 y7), sv2, (u64 (n + BitVec.ofInt 64 (l.length : Int)))] 154 (0, 0))] ++ (Hs2 ++ ([])))) := by
 refine Qy (args := [(ptr bd 0), vb]) func85 rfl ntmps85 results85 rfl ?_
 obtain ⟨Es, fzs, hTs⟩ := hT.start
 obtain ⟨Er, fzr, hTr⟩ := hT.round
 refine sR <| Zm (ptr bd 0) <| Qd (Zc rfl) <| Qd (Zi (r := 9) Vh rfl Je Xq rfl rfl) <| Qd (v := (u64 n)) (Qi Yj rfl rfl m0.h0 rfl) <| Zm vb <| Qd (Yk (Rd.ofRest hr m0) Zo rfl) <| Qd (Jl ⟨_, Uu⟩ Yj rfl) <| Qd (Jt rfl rfl) <| Qd (Zc rfl) <| Qd (Zi (r := 9) Vh rfl Je Xq rfl rfl) <| Vf (Ul Xq rfl rfl (Xw _) m0.h0 Ya (.inl (Nat.zero_le _))) ?_
 rintro _ w1 uq1
 have m1 : Mem _ _ ([(bd, .cells #[(u32 x0), (u32 x1), (u32 x2), (u32 x3), (u32 x4), (u32 x5), (u32 x6), (u32 x7), sv, (u64 (n + (BitVec.ofInt 64 (l.length : Int))))] 154 (0, 0))] ++ (Hs ++ ([]))) := m0.upd0 uq1
 refine rN (sR ?_)
 refine Zm (ptr bd 0) <| Zm (ptr bd 0) <| Qd (Zc rfl) <| Qd (Zi (r := 8) Vh rfl Je Qa6 rfl rfl) <| Qd (v := sv) (Qi Zo rfl rfl m1.h0 rfl) <| Zm vb <| Vw (Xf (f := u8) (Hs := Hs) (H := [_]) (Mem.pick [_] Hs _ m1) gl rfl rfl (Rd.ofRest hr m1) Zo Zo Yw rfl Qs sD sD) ?_
 rintro sv2 w2 ⟨Hs2, m2, g2⟩
 replace g2 : Z5 u8 5 sv2 (ll ++ l) Hs2 := g2
 refine Qd (Zc rfl) <| Qd (Zi (r := 8) Vh rfl Je Qa6 rfl rfl) <| Vf (Ul Qa6 rfl rfl g2.one ((Mem.pick Hs2 [_] _ m2)).h0 Ya (.inl (Nat.zero_le _))) ?_
 rintro _ w3 uq3
 have m3 : Mem _ _ ([(bd, .cells #[(u32 x0), (u32 x1), (u32 x2), (u32 x3), (u32 x4), (u32 x5), (u32 x6), (u32 x7), sv2, (u64 (n + (BitVec.ofInt 64 (l.length : Int))))] 154 (0, 0))] ++ (Hs2 ++ ([]))) := Mem.upd0 (Mem.pick Hs2 [_] _ m2) uq3
 refine rN (V8 ?_)
 refine Y1 (fun g wv => ∃ (m : Nat) (z0 z1 z2 z3 z4 z5 z6 z7 : BitVec 32) (sv3 : Value) (l3 : Z8) (Hs3 : List (Nat × Obj)), (64 * m ≤ (ll ++ l).length) ∧ ([z0, z1, z2, z3, z4, z5, z6, z7] = hAt [x0, x1, x2, x3, x4, x5, x6, x7] (ll ++ l) m) ∧ (l3 = (ll ++ l).drop (64 * m)) ∧ (Z5 u8 5 sv3 l3 Hs3) ∧ g 0 = (ptr bd 0) ∧ g 1 = vb ∧ Mem wv R ([(bd, .cells #[(u32 z0), (u32 z1), (u32 z2), (u32 z3), (u32 z4), (u32 z5), (u32 z6), (u32 z7), sv3, (u64 (n + BitVec.ofInt 64 (l.length : Int)))] 154 (0, 0))] ++ (Hs3 ++ ([])))) (fun g wv => Qfw wv bd) ?_ ?_
 ·exact ⟨0, x0, x1, x2, x3, x4, x5, x6, x7, sv2, ll ++ l, Hs2, Ya, rfl, Ya, g2, rfl, rfl, m3⟩
 rintro fr4 w5 ⟨m, z0, z1, z2, z3, z4, z5, z6, z7, sv3, l3, Hs3, m1, hz, hl3, gl3, s0, s1, m5⟩
 have hl3n : l3.length = (ll ++ l).length - 64 * m := by rw [hl3]; simp
 have hLn : (ll ++ l).length = ll.length + l.length := by simp
 refine Qa (sR ?_)
 refine Yb s0 <| Qd (Zc rfl) <| Qd (Zi (r := 8) Vh rfl Je Qa6 rfl rfl) <| Qd (v := sv3) (Qi Zo rfl rfl m5.h0 rfl) <| Qd (Yk (gl3.rd (Mem.pick [_] Hs3 _ m5)) Zo rfl) <| Qd (F5 (b := 64) rfl rfl) <| rN ?_
 refine Zy rfl (fun hc6 => ?_) (fun hc6 => ?_)
 ·
  have hc6p := of_decide_eq_true hc6
  refine Qn (Qc (V8 (sR ?_)))
  refine Yb s0 <| Yb s0 <| Qd (Zc rfl) <| Qd (Zi (r := 8) Vh rfl Je Qa6 rfl rfl) <| Qd (v := sv3) (Qi Zo rfl rfl m5.h0 rfl) <| Qd (Y6 (i := 0) (j := 64) (gl3.rd (Mem.pick [_] Hs3 _ m5)) Zo Yw rfl (Zd _ _) (Yd (k := .i64) (i := 64) rfl) oM sD sD) ?_
  have hF8 : Mem w5 R (([(bd, .cells #[(u32 z0), (u32 z1), (u32 z2), (u32 z3), (u32 z4), (u32 z5), (u32 z6), (u32 z7), sv3, (u64 (n + BitVec.ofInt 64 (l.length : Int)))] 154 (0, 0))]) ++ (Hs3 ++ ([]))) := by
   have hT := m5
   try simp only [List.append_assoc, List.cons_append, List.nil_append, List.append_nil] at hT ⊢
   exact hT
  refine Vw (oc102 (Xm rfl rfl) (c_take bd z0 z1 z2 z3 z4 z5 z6 z7 sv3 (n + BitVec.ofInt 64 (l.length : Int)) (Bg sv3 0 64) ((l3.drop 0).take 64) _ _ (Mem.give hF8) (hT.mono fun b o e => Mem.addRest hF8 e) ((Z5.cast (l' := (l3.drop 0).take 64) (Z5.sub (i := 0) (j := 64) gl3 oM sD sD) rfl).rdAdd hF8 (fun p hp => (List.mem_append_left _ hp))) sD)) ?_
  rintro _ w7 ⟨y0q9, y1q9, y2q9, y3q9, y4q9, y5q9, y6q9, y7q9, hyq9, k_w7⟩
  have m7 : Mem w7 R ([(bd, .cells #[(u32 y0q9), (u32 y1q9), (u32 y2q9), (u32 y3q9), (u32 y4q9), (u32 y5q9), (u32 y6q9), (u32 y7q9), sv3, (u64 (n + BitVec.ofInt 64 (l.length : Int)))] 154 (0, 0))] ++ (Hs3 ++ ([]))) := ymA (Mem.back hF8 k_w7)
  refine rN (Qb ?_)
  refine Yb s0 <| Yb s0 <| Qd (Zc rfl) <| Qd (Zi (r := 8) Vh rfl Je Qa6 rfl rfl) <| Qd (v := sv3) (Qi Zo rfl rfl m7.h0 rfl) <| Qd (Y6 (i := 64) (j := (l3.length : Int)) (gl3.rd (Mem.pick [_] Hs3 _ m7)) Zo Yw rfl (Yd (k := .i64) (i := 64) rfl) (Zd _ _) oM sD sD) <| Qd (Zc rfl) <| Qd (Zi (r := 8) Vh rfl Je Qa6 rfl rfl) <| Vf (Ul Qa6 rfl rfl (Z5.cast (l' := (l3.drop (64 : Int).toNat).take (((l3.length : Int) : Int).toNat - (64 : Int).toNat)) (Z5.sub (i := 64) (j := (l3.length : Int)) gl3 oM sD sD) rfl).one m7.h0 Ya (.inl (Nat.zero_le _))) ?_
  rintro _ w10 uq10
  have m10 : Mem _ _ ([(bd, .cells #[(u32 y0q9), (u32 y1q9), (u32 y2q9), (u32 y3q9), (u32 y4q9), (u32 y5q9), (u32 y6q9), (u32 y7q9), (Bg sv3 64 (l3.length : Int)), (u64 (n + BitVec.ofInt 64 (l.length : Int)))] 154 (0, 0))] ++ (Hs3 ++ ([]))) := m7.upd0 uq10
  refine Zp (Qe (Qc ?_))
  rw [head64 hl3] at hyq9
  have hzn : [y0q9, y1q9, y2q9, y3q9, y4q9, y5q9, y6q9, y7q9] = hAt [x0, x1, x2, x3, x4, x5, x6, x7] (ll ++ l) (m + 1) := by rw [hyq9, hz]; rfl
  exact ⟨⟨m + 1, y0q9, y1q9, y2q9, y3q9, y4q9, y5q9, y6q9, y7q9, (Bg sv3 64 (l3.length : Int)), (l3.drop (64 : Int).toNat).take (((l3.length : Int) : Int).toNat - (64 : Int).toNat), Hs3, oM, hzn, (tail64 hl3), (Z5.cast (l' := (l3.drop (64 : Int).toNat).take (((l3.length : Int) : Int).toNat - (64 : Int).toNat)) (Z5.sub (i := 64) (j := (l3.length : Int)) gl3 oM sD sD) rfl), s0, s1, m10⟩, (by show Qfw w10 bd < Qfw w5 bd; rw [Qjd (v := (Bg sv3 64 (l3.length : Int))) m10.h0 rfl, Qjd (v := sv3) m5.h0 rfl, Z5.sllen (Z5.cast (l' := (l3.drop (64 : Int).toNat).take (((l3.length : Int) : Int).toNat - (64 : Int).toNat)) (Z5.sub (i := 64) (j := (l3.length : Int)) gl3 oM sD sD) rfl), gl3.sllen]; simp; omega)⟩
 ·
  have hc6p := of_decide_eq_false hc6
  have hl3n : l3.length = (ll ++ l).length - 64 * m := by rw [hl3]; simp
  obtain rfl : m = (ll ++ l).length / 64 := by omega
  refine X4 ?_
  refine Qj (Qj (Xi ?_))
  refine Ls [] trivial ?_
  exact ⟨z0, z1, z2, z3, z4, z5, z6, z7, sv3, Hs3, hz, hl3 ▸ gl3, m5⟩
end Go.Proofs.YtkmiemlpfkfiiaaDoor
