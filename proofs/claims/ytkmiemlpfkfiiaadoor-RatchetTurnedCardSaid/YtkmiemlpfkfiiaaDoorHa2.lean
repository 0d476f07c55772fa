/- Contracts: hash, second part. Conditions: none beyond those that each theorem states. -/
import Derived.Test.YtkmiemlpfkfiiaaDoorHa1
namespace Go.Proofs.YtkmiemlpfkfiiaaDoor
open BitVec renaming ofInt → aB
open Mem renaming pick → aC
open Tryd
set_option linter.unusedVariables false
set_option linter.unusedSimpArgs false
def hAt (h : List (BitVec 32)) (l : Z4) : Nat → List (BitVec 32)
 | 0 => h
 | m + 1 => Qhu (hAt h l m) ((l.drop (64 * m)).take 64)
def Qgb (w : World) (b : Nat) : Nat := match w.heap[b]? with | some (.cells c _ _) => sllen (c.getD 8 undef) | _ => 0
theorem Qj3 {w : World} {b : Nat} {c : Array Value} {E : TypeId} {fz : Nat × Nat} {v : Value} (h : w.heap[b]? = some (.cells c E fz)) (hc : c[8]? = some v) : Qgb w b = sllen v := by
 simp [Qgb, h, hc]
theorem tail64 {L l3 : Z4} {m : Nat} (h : l3 = L.drop (64 * m)) : (l3.drop (64 : Int).toNat).take ((l3.length : Int).toNat - (64 : Int).toNat) = L.drop (64 * (m + 1)) := by
 subst h
 have e : (64 : Int).toNat = 64 := rfl
 rw [e, List.take_of_length_le (by simp; omega), List.drop_drop]; congr 1
theorem head64 {L l3 : Z4} {m : Nat} (h : l3 = L.drop (64 * m)) : (l3.drop 0).take 64 = (L.drop (64 * m)).take 64 := by
 subst h; rfl
def lenB (n : BitVec 64) : Z4 := [(n <<< 3 >>> 56).setWidth 8, (n <<< 3 >>> 48).setWidth 8, (n <<< 3 >>> 40).setWidth 8, (n <<< 3 >>> 32).setWidth 8, (n <<< 3 >>> 24).setWidth 8, (n <<< 3 >>> 16).setWidth 8, (n <<< 3 >>> 8).setWidth 8, (n <<< 3 >>> 0).setWidth 8]
def padP (n : BitVec 64) (len : Nat) : Z4 := 128#8 :: (List.replicate ((119 - len) % 64) 0#8 ++ lenB n)
def Qcp (h : List (BitVec 32)) : Z4 := (List.range 32).map fun i => (h.getD (i / 4) 0 >>> (24 - 8 * (i % 4))).setWidth 8
@[simp] theorem Qko (h : List (BitVec 32)) : (Qcp h).length = 32 := by simp [Qcp]
def Dc (h : List (BitVec 32)) (l : Z4) (n : BitVec 64) : Z4 := Qcp (hAt h (l ++ padP n l.length) ((l ++ padP n l.length).length / 64))
@[simp] theorem Qkh (h : List (BitVec 32)) (l : Z4) (n : BitVec 64) : (Dc h l n).length = 32 := Qko _
def U1 (l : Z4) : Z4 := Dc (hAt Qb9 l (l.length / 64)) (l.drop (64 * (l.length / 64))) (0#64 + aB 64 (l.length : Int))
@[simp] theorem Qn7 (l : Z4) : (U1 l).length = 32 := Qkh _ _ _
theorem sum_told {ys : List (BitVec 32)} {l : Z4} (hy : ys = hAt [1779033703#32, 3144134277#32, 1013904242#32, 2773480762#32, 1359893119#32, 2600822924#32, 528734635#32, 1541459225#32] ([] ++ l) (([] ++ l).length / 64)) : Dc ys (([] ++ l).drop (64 * (([] ++ l).length / 64))) (0#64 + aB 64 (l.length : Int)) = U1 l := by
 subst hy; unfold U1 Qb9; simp only [List.nil_append]
theorem Qqu {α : Type} (f : α → Value) (l : List α) (r : List Value) {i : Nat} (d : α) (h : i < l.length) : ((l.map f ++ r).toArray)[i]? = some (f (l.getD i d)) := by
 simp only [List.getElem?_toArray]
 rw [List.getElem?_append_left (by simpa using h)]
 simp [List.getD_eq_getElem?_getD, h]
theorem Qqn {a : Option Addr} {l : Z4} {m : Nat → Option Obj} (h : a.isNone = true) (hr : ∀ i (h : i < l.length), ∃ b off c E fz, a = some ⟨b, off, none⟩ ∧ m b = some (.cells c E fz) ∧ c[off + i]? = some (u8 l[i])) : l = [] := by
 cases l with
 | nil => rfl
 | cons x l => obtain ⟨b, off, c, E, fz, rfl, _⟩ := hr 0 Ya; cases h
theorem Qco (v : Value) (l : Z4) (w0 : World)  (hr : Rd (Jd w0) u8 v l) (hl : l.length ≤ 35184372088832) : Xz prog 34 #[v] w0 (fun r w1 => ∃ Hs, Z9 u8 5 r l Hs ∧ Mem w1 (Qs w0) Hs) := by
 refine Qz (args := [v]) func34 rfl ntmps34 results34 rfl ?_
 have m0 : Mem w0 (Qs w0) [] := Mem.of_world w0
 have hr0 := hr
 obtain ⟨a, cap, rfl, hle, hce⟩ := hr.is
 refine sR <| Zx J3 ?_
 refine rN (Qa (sR ?_))
 refine Zm (Value.slice a l.length cap) <| Qd (Qid Zn rfl rfl) <| rN ?_
 refine Zz rfl (fun hc1 => ?_) (fun hc1 => ?_)
 ·
  refine sR <| Zx J3 ?_
  refine rN (Z8 (Yz ?_))
  refine Qq [J3] ⟨rfl, trivial⟩ ?_
  obtain rfl : l = [] := Qqn hc1 hce
  exact ⟨[], Z9.none u8 5, m0⟩
 ·
  refine Qo (Qc (sR ?_))
  refine Y5 (Qp u8 [] Qr m0 Zn Yr rfl (by simp [Bz]) rfl) fun w2 b5 m2 => Zm (Value.slice a l.length cap) <| Vr (Xh (f := u8) (Hs := [(b5, .cells (cl u8 ([])) 5 (0, 0))]) (H := []) m2 (Z9.of u8 5 b5 ([])) rfl rfl (Rd.ofRest hr0 m2) Zn Zn Yr rfl Qr sD sD) ?_
  rintro sv3 w3 ⟨Hs3, m3, g3⟩
  replace g3 : Z9 u8 5 sv3 l Hs3 := g3
  refine Zx sv3 ?_
  refine rN (Z8 ?_)
  refine Qq [sv3] ⟨rfl, trivial⟩ ?_
  exact ⟨Hs3, g3, by simpa using m3⟩
theorem Qi4 (bd : Nat) (x0 x1 x2 x3 x4 x5 x6 x7 : BitVec 32) (sv : Value) (ll : Z4) (Hs : List (Nat × Obj)) (n : BitVec 64) (vb : Value) (l : Z4) (w0 : World) (R : Rest) (m0 : Mem w0 R ([(bd, .cells #[(u32 x0), (u32 x1), (u32 x2), (u32 x3), (u32 x4), (u32 x5), (u32 x6), (u32 x7), sv, (u64 n)] 154 (0, 0))] ++ (Hs ++ ([])))) (hT : Tabs R.blk) (hr : Rd R.blk u8 vb l) (gl : Z9 u8 5 sv ll Hs) (hl : ll.length + l.length ≤ 35184372088832) : Xz prog 85 #[(ptr bd 0), vb] w0 (fun r w1 => ∃ y0 y1 y2 y3 y4 y5 y6 y7 sv2 Hs2, [y0, y1, y2, y3, y4, y5, y6, y7] = hAt [x0, x1, x2, x3, x4, x5, x6, x7] (ll ++ l) ((ll ++ l).length / 64) ∧ Z9 u8 5 sv2 ((ll ++ l).drop (64 * ((ll ++ l).length / 64))) Hs2 ∧ Mem w1 R ([(bd, .cells #[(u32 y0), (u32 y1), (u32 y2), (u32 y3), (u32 y4), (u32 y5), (u32 y6), (u32 y7), sv2, (u64 (n + aB 64 (l.length : Int)))] 154 (0, 0))] ++ (Hs2 ++ ([])))) := by
 refine Qz (args := [(ptr bd 0), vb]) func85 rfl ntmps85 results85 rfl ?_
 obtain ⟨Es, fzs, hTs⟩ := hT.start
 obtain ⟨Er, fzr, hTr⟩ := hT.round
 refine sR <| Zm (ptr bd 0) <| Qd (Zc rfl) <| Qd (Zl (r := 9) Vg rfl Jj Xq rfl rfl) <| Qd (v := (u64 n)) (Qi Yh rfl rfl m0.h0 rfl) <| Zm vb <| Qd (Yi (Rd.ofRest hr m0) Zn rfl) <| Qd (Jg ⟨_, Fa⟩ Yh rfl) <| Qd (Js rfl rfl) <| Qd (Zc rfl) <| Qd (Zl (r := 9) Vg rfl Jj Xq rfl rfl) <| Vd (Ui Xq rfl rfl (Xu _) m0.h0 Ya (.inl (Nat.zero_le _))) ?_
 rintro _ w1 uq1
 have m1 : Mem _ _ ([(bd, .cells #[(u32 x0), (u32 x1), (u32 x2), (u32 x3), (u32 x4), (u32 x5), (u32 x6), (u32 x7), sv, (u64 (n + (aB 64 (l.length : Int))))] 154 (0, 0))] ++ (Hs ++ ([]))) := m0.upd0 uq1
 refine rN (sR ?_)
 refine Zm (ptr bd 0) <| Zm (ptr bd 0) <| Qd (Zc rfl) <| Qd (Zl (r := 8) Vg rfl Jj Qay rfl rfl) <| Qd (v := sv) (Qi Zn rfl rfl m1.h0 rfl) <| Zm vb <| Vr (Xh (f := u8) (Hs := Hs) (H := [_]) (aC [_] Hs _ m1) gl rfl rfl (Rd.ofRest hr m1) Zn Zn Yr rfl Qr sD sD) ?_
 rintro sv2 w2 ⟨Hs2, m2, g2⟩
 replace g2 : Z9 u8 5 sv2 (ll ++ l) Hs2 := g2
 refine Qd (Zc rfl) <| Qd (Zl (r := 8) Vg rfl Jj Qay rfl rfl) <| Vd (Ui Qay rfl rfl g2.one ((aC Hs2 [_] _ m2)).h0 Ya (.inl (Nat.zero_le _))) ?_
 rintro _ w3 uq3
 have m3 : Mem _ _ ([(bd, .cells #[(u32 x0), (u32 x1), (u32 x2), (u32 x3), (u32 x4), (u32 x5), (u32 x6), (u32 x7), sv2, (u64 (n + (aB 64 (l.length : Int))))] 154 (0, 0))] ++ (Hs2 ++ ([]))) := Mem.upd0 (aC Hs2 [_] _ m2) uq3
 refine rN (Gh ?_)
 refine Y1 (fun g wv => ∃ (m : Nat) (z0 z1 z2 z3 z4 z5 z6 z7 : BitVec 32) (sv3 : Value) (l3 : Z4) (Hs3 : List (Nat × Obj)), (64 * m ≤ (ll ++ l).length) ∧ ([z0, z1, z2, z3, z4, z5, z6, z7] = hAt [x0, x1, x2, x3, x4, x5, x6, x7] (ll ++ l) m) ∧ (l3 = (ll ++ l).drop (64 * m)) ∧ (Z9 u8 5 sv3 l3 Hs3) ∧ g 0 = (ptr bd 0) ∧ g 1 = vb ∧ Mem wv R ([(bd, .cells #[(u32 z0), (u32 z1), (u32 z2), (u32 z3), (u32 z4), (u32 z5), (u32 z6), (u32 z7), sv3, (u64 (n + aB 64 (l.length : Int)))] 154 (0, 0))] ++ (Hs3 ++ ([])))) (fun g wv => Qgb wv bd) ?_ ?_
 ·exact ⟨0, x0, x1, x2, x3, x4, x5, x6, x7, sv2, ll ++ l, Hs2, Ya, rfl, Ya, g2, rfl, rfl, m3⟩
 rintro fr4 w5 ⟨m, z0, z1, z2, z3, z4, z5, z6, z7, sv3, l3, Hs3, m1, hz, hl3, gl3, s0, s1, m5⟩
 have hl3n : l3.length = (ll ++ l).length - 64 * m := by rw [hl3]; simp
 have hLn : (ll ++ l).length = ll.length + l.length := by simp
 refine Qa (sR ?_)
 refine X9 s0 <| Qd (Zc rfl) <| Qd (Zl (r := 8) Vg rfl Jj Qay rfl rfl) <| Qd (v := sv3) (Qi Zn rfl rfl m5.h0 rfl) <| Qd (Yi (gl3.rd (aC [_] Hs3 _ m5)) Zn rfl) <| Qd (Ey (b := 64) rfl rfl) <| rN ?_
 refine Zz rfl (fun hc6 => ?_) (fun hc6 => ?_)
 ·
  have hc6p := of_decide_eq_true hc6
  refine Qo (Qc (Gh (sR ?_)))
  refine X9 s0 <| X9 s0 <| Qd (Zc rfl) <| Qd (Zl (r := 8) Vg rfl Jj Qay rfl rfl) <| Qd (v := sv3) (Qi Zn rfl rfl m5.h0 rfl) <| Qd (Y8 (i := 0) (j := 64) (gl3.rd (aC [_] Hs3 _ m5)) Zn Yr rfl (Zd _ _) (Yb (k := .i64) (i := 64) rfl) oM sD sD) ?_
  have hF8 : Mem w5 R (([(bd, .cells #[(u32 z0), (u32 z1), (u32 z2), (u32 z3), (u32 z4), (u32 z5), (u32 z6), (u32 z7), sv3, (u64 (n + aB 64 (l.length : Int)))] 154 (0, 0))]) ++ (Hs3 ++ ([]))) := by
   have hT := m5
   try simp only [List.append_assoc, List.cons_append, List.nil_append, List.append_nil] at hT ⊢
   exact hT
  refine Vr (oc102 (Xl rfl rfl) (c_take bd z0 z1 z2 z3 z4 z5 z6 z7 sv3 (n + aB 64 (l.length : Int)) (Cf sv3 0 64) ((l3.drop 0).take 64) _ _ (Mem.give hF8) (hT.mono fun b o e => Mem.addRest hF8 e) ((Z9.cast (l' := (l3.drop 0).take 64) (Z9.sub (i := 0) (j := 64) gl3 oM sD sD) rfl).rdAdd hF8 (fun p hp => (List.mem_append_left _ hp))) sD)) ?_
  rintro _ w7 ⟨y0q9, y1q9, y2q9, y3q9, y4q9, y5q9, y6q9, y7q9, hyq9, k_w7⟩
  have m7 : Mem w7 R ([(bd, .cells #[(u32 y0q9), (u32 y1q9), (u32 y2q9), (u32 y3q9), (u32 y4q9), (u32 y5q9), (u32 y6q9), (u32 y7q9), sv3, (u64 (n + aB 64 (l.length : Int)))] 154 (0, 0))] ++ (Hs3 ++ ([]))) := ymA (Mem.back hF8 k_w7)
  refine rN (Qb ?_)
  refine X9 s0 <| X9 s0 <| Qd (Zc rfl) <| Qd (Zl (r := 8) Vg rfl Jj Qay rfl rfl) <| Qd (v := sv3) (Qi Zn rfl rfl m7.h0 rfl) <| Qd (Y8 (i := 64) (j := (l3.length : Int)) (gl3.rd (aC [_] Hs3 _ m7)) Zn Yr rfl (Yb (k := .i64) (i := 64) rfl) (Zd _ _) oM sD sD) <| Qd (Zc rfl) <| Qd (Zl (r := 8) Vg rfl Jj Qay rfl rfl) <| Vd (Ui Qay rfl rfl (Z9.cast (l' := (l3.drop (64 : Int).toNat).take (((l3.length : Int) : Int).toNat - (64 : Int).toNat)) (Z9.sub (i := 64) (j := (l3.length : Int)) gl3 oM sD sD) rfl).one m7.h0 Ya (.inl (Nat.zero_le _))) ?_
  rintro _ w10 uq10
  have m10 : Mem _ _ ([(bd, .cells #[(u32 y0q9), (u32 y1q9), (u32 y2q9), (u32 y3q9), (u32 y4q9), (u32 y5q9), (u32 y6q9), (u32 y7q9), (Cf sv3 64 (l3.length : Int)), (u64 (n + aB 64 (l.length : Int)))] 154 (0, 0))] ++ (Hs3 ++ ([]))) := m7.upd0 uq10
  refine Zp (Qe (Qc ?_))
  rw [head64 hl3] at hyq9
  have hzn : [y0q9, y1q9, y2q9, y3q9, y4q9, y5q9, y6q9, y7q9] = hAt [x0, x1, x2, x3, x4, x5, x6, x7] (ll ++ l) (m + 1) := by rw [hyq9, hz]; rfl
  exact ⟨⟨m + 1, y0q9, y1q9, y2q9, y3q9, y4q9, y5q9, y6q9, y7q9, (Cf sv3 64 (l3.length : Int)), (l3.drop (64 : Int).toNat).take (((l3.length : Int) : Int).toNat - (64 : Int).toNat), Hs3, oM, hzn, (tail64 hl3), (Z9.cast (l' := (l3.drop (64 : Int).toNat).take (((l3.length : Int) : Int).toNat - (64 : Int).toNat)) (Z9.sub (i := 64) (j := (l3.length : Int)) gl3 oM sD sD) rfl), s0, s1, m10⟩, (by show Qgb w10 bd < Qgb w5 bd; rw [Qj3 (v := (Cf sv3 64 (l3.length : Int))) m10.h0 rfl, Qj3 (v := sv3) m5.h0 rfl, Z9.sllen (Z9.cast (l' := (l3.drop (64 : Int).toNat).take (((l3.length : Int) : Int).toNat - (64 : Int).toNat)) (Z9.sub (i := 64) (j := (l3.length : Int)) gl3 oM sD sD) rfl), gl3.sllen]; simp; omega)⟩
 ·
  have hc6p := of_decide_eq_false hc6
  have hl3n : l3.length = (ll ++ l).length - 64 * m := by rw [hl3]; simp
  obtain rfl : m = (ll ++ l).length / 64 := by omega
  refine X3 ?_
  refine Qj (Qj (Xk ?_))
  refine La [] trivial ?_
  exact ⟨z0, z1, z2, z3, z4, z5, z6, z7, sv3, Hs3, hz, hl3 ▸ gl3, m5⟩
end Go.Proofs.YtkmiemlpfkfiiaaDoor
