/- Contracts: hash, second part. Conditions: none beyond those that each theorem states. -/
import Derived.Test.YtkmiemlpfkfiiaaDoorHa1
namespace Go.Proofs.YtkmiemlpfkfiiaaDoor
set_option linter.unusedVariables false
set_option linter.unusedSimpArgs false
def hAt (h : List (BitVec 32)) (l : List (BitVec 8)) : Nat → List (BitVec 32)
  | 0 => h
  | m + 1 => Qdl (hAt h l m) ((l.drop (64 * m)).take 64)
def Qab (w : World) (b : Nat) : Nat := match w.heap[b]? with | some (.cells c _ _) => sllen (c.getD 8 undef) | _ => 0
theorem Qcv {w : World} {b : Nat} {c : Array Value} {E : TypeId} {fz : Nat × Nat} {v : Value} (h : w.heap[b]? = some (.cells c E fz)) (hc : c[8]? = some v) : Qab w b = sllen v := by
  simp [Qab, h, hc]
theorem tail64 {L l3 : List (BitVec 8)} {m : Nat} (h : l3 = L.drop (64 * m)) : (l3.drop (64 : Int).toNat).take ((l3.length : Int).toNat - (64 : Int).toNat) = L.drop (64 * (m + 1)) := by
  subst h
  have e : (64 : Int).toNat = 64 := rfl
  rw [e, List.take_of_length_le (by simp; omega), List.drop_drop]; congr 1
theorem head64 {L l3 : List (BitVec 8)} {m : Nat} (h : l3 = L.drop (64 * m)) : (l3.drop 0).take 64 = (L.drop (64 * m)).take 64 := by
  subst h; rfl
def lenB (n : BitVec 64) : List (BitVec 8) := [(n <<< 3 >>> 56).setWidth 8, (n <<< 3 >>> 48).setWidth 8, (n <<< 3 >>> 40).setWidth 8, (n <<< 3 >>> 32).setWidth 8, (n <<< 3 >>> 24).setWidth 8, (n <<< 3 >>> 16).setWidth 8, (n <<< 3 >>> 8).setWidth 8, (n <<< 3 >>> 0).setWidth 8]
def padP (n : BitVec 64) (len : Nat) : List (BitVec 8) := 128#8 :: (List.replicate ((119 - len) % 64) 0#8 ++ lenB n)
def Qan (h : List (BitVec 32)) : List (BitVec 8) := (List.range 32).map fun i => (h.getD (i / 4) 0 >>> (24 - 8 * (i % 4))).setWidth 8
@[simp] theorem Qc6 (h : List (BitVec 32)) : (Qan h).length = 32 := by simp [Qan]
def Vb (h : List (BitVec 32)) (l : List (BitVec 8)) (n : BitVec 64) : List (BitVec 8) := Qan (hAt h (l ++ padP n l.length) ((l ++ padP n l.length).length / 64))
@[simp] theorem Qc1 (h : List (BitVec 32)) (l : List (BitVec 8)) (n : BitVec 64) : (Vb h l n).length = 32 := Qc6 _
def Vy (l : List (BitVec 8)) : List (BitVec 8) := Vb (hAt Qeb l (l.length / 64)) (l.drop (64 * (l.length / 64))) (0#64 + BitVec.ofInt 64 (l.length : Int))
@[simp] theorem Qe1 (l : List (BitVec 8)) : (Vy l).length = 32 := Qc1 _ _ _
theorem sum_told {ys : List (BitVec 32)} {l : List (BitVec 8)} (hy : ys = hAt [1779033703#32, 3144134277#32, 1013904242#32, 2773480762#32, 1359893119#32, 2600822924#32, 528734635#32, 1541459225#32] ([] ++ l) (([] ++ l).length / 64)) : Vb ys (([] ++ l).drop (64 * (([] ++ l).length / 64))) (0#64 + BitVec.ofInt 64 (l.length : Int)) = Vy l := by
  subst hy; unfold Vy Qeb; simp only [List.nil_append]
theorem Qf8 {α : Type} (f : α → Value) (l : List α) (r : List Value) {i : Nat} (d : α) (h : i < l.length) : ((l.map f ++ r).toArray)[i]? = some (f (l.getD i d)) := by
  simp only [List.getElem?_toArray]
  rw [List.getElem?_append_left (by simpa using h)]
  simp [List.getD_eq_getElem?_getD, h]
theorem Qf5 {a : Option Addr} {l : List (BitVec 8)} {m : Nat → Option Obj} (h : a.isNone = true) (hr : ∀ i (h : i < l.length), ∃ b off c E fz, a = some ⟨b, off, none⟩ ∧ m b = some (.cells c E fz) ∧ c[off + i]? = some (u8 l[i])) : l = [] := by
  cases l with
  | nil => rfl
  | cons x l => obtain ⟨b, off, c, E, fz, rfl, _⟩ := hr 0 (by simp); cases h
theorem Qam (v : Value) (l : List (BitVec 8)) (w0 : World)  (hr : Rd (Y3 w0) u8 v l) (hl : l.length ≤ 35184372088832) : X8 Tryd.prog 34 #[v] w0 (fun r w1 => ∃ Hs, Xx u8 5 r l Hs ∧ Mem w1 (Qo w0) Hs) := by
 refine Zp (args := [v]) Tryd.func34 rfl Tryd.ntmps34 Tryd.results34 rfl ?_
 have hm0 : Mem w0 (Qo w0) [] := Mem.of_world w0
 have hr0 := hr
 obtain ⟨a, cap, rfl, hle, hce⟩ := hr.is
 refine sR <| Qb rfl (Qd (v := (Value.slice none 0 0)) rfl) ?_
 refine rN (Qh (sR ?_))
 refine Qb rfl (Qc (v := (Value.slice a l.length cap)) rfl) <| Qb rfl (Qbv Z4 rfl rfl) <| rN ?_
 refine Xy rfl (fun hc1 => ?_) (fun hc1 => ?_)
 ·
   refine sR <| Qb rfl (Qd (v := (Value.slice none 0 0)) rfl) ?_
   refine rN (Xn (Jv ?_))
   refine Zj [(Value.slice none 0 0)] ⟨rfl, trivial⟩ ?_
   obtain rfl : l = [] := Qf5 hc1 hce
   exact ⟨[], Xx.none u8 5, hm0⟩
 ·
   refine Zc (Qi (sR ?_))
   refine Zo rfl (Xd u8 [] Q8 hm0 Z4 Yq rfl (by simp [Tq]) rfl) ?_
   rintro _ w2 ⟨b5, rfl, _ew2, hm2⟩
   refine Qb rfl (Qc (v := (Value.slice a l.length cap)) rfl) <| Zo rfl (Xt (f := u8) (Hs := [(b5, .cells (cl u8 ([])) 5 (0, 0))]) (H := []) hm2 (Xx.of u8 5 b5 ([])) rfl rfl (Rd.ofRest hr0 hm2) Z4 Z4 Yq rfl Q8 sD sD) ?_
   rintro sv3 w3 ⟨Hs3, hm3, g3⟩
   replace g3 : Xx u8 5 sv3 l Hs3 := g3
   refine rA rfl (v := sv3) rfl ?_
   refine rN (Xn ?_)
   refine Zj [sv3] ⟨rfl, trivial⟩ ?_
   exact ⟨Hs3, g3, by simpa using hm3⟩
theorem Qca (bd : Nat) (x0 x1 x2 x3 x4 x5 x6 x7 : BitVec 32) (sv : Value) (ll : List (BitVec 8)) (Hs : List (Nat × Obj)) (n : BitVec 64) (vb : Value) (l : List (BitVec 8)) (w0 : World) (R : Rest) (hm0 : Mem w0 R ([(bd, .cells #[(u32 x0), (u32 x1), (u32 x2), (u32 x3), (u32 x4), (u32 x5), (u32 x6), (u32 x7), sv, (u64 n)] 154 (0, 0))] ++ (Hs ++ ([])))) (hT : Tabs R.blk) (hr : Rd R.blk u8 vb l) (gl : Xx u8 5 sv ll Hs) (hl : ll.length + l.length ≤ 35184372088832) : X8 Tryd.prog 85 #[(ptr bd 0), vb] w0 (fun r w1 => ∃ y0 y1 y2 y3 y4 y5 y6 y7 sv2 Hs2, [y0, y1, y2, y3, y4, y5, y6, y7] = hAt [x0, x1, x2, x3, x4, x5, x6, x7] (ll ++ l) ((ll ++ l).length / 64) ∧ Xx u8 5 sv2 ((ll ++ l).drop (64 * ((ll ++ l).length / 64))) Hs2 ∧ Mem w1 R ([(bd, .cells #[(u32 y0), (u32 y1), (u32 y2), (u32 y3), (u32 y4), (u32 y5), (u32 y6), (u32 y7), sv2, (u64 (n + BitVec.ofInt 64 (l.length : Int)))] 154 (0, 0))] ++ (Hs2 ++ ([])))) := by
 refine Zp (args := [(ptr bd 0), vb]) Tryd.func85 rfl Tryd.ntmps85 Tryd.results85 rfl ?_
 obtain ⟨Es, fzs, hTs⟩ := hT.start
 obtain ⟨Er, fzr, hTr⟩ := hT.round
 refine sR <| Qb rfl (Qc (v := (ptr bd 0)) rfl) <| Qb rfl (Zv rfl) <| Qb rfl (Zr (r := 9) Jk rfl (by first | rfl | omega) Z8 rfl rfl) <| Qb (v := (u64 n)) rfl (Qy X0 rfl rfl hm0.h0 rfl) <| rM rfl (v := vb) rfl <| Qb (v := (i64 (l.length : Int))) rfl (Yi (Rd.ofRest hr hm0) Z4 rfl) <| Qb rfl (J4 ⟨_, Gj⟩ X0 rfl) <| Qb rfl (Ym rfl rfl) <| Qb rfl (Zv rfl) <| Qb rfl (Zr (r := 9) Jk rfl (by first | rfl | omega) Z8 rfl rfl) <| Xf (Vu Z8 rfl rfl (Xa _) hm0.h0 (by simp) (.inl (Nat.zero_le _))) ?_
 rintro _ w1 uq1
 have hm1 : Mem w1 R ([(bd, .cells #[(u32 x0), (u32 x1), (u32 x2), (u32 x3), (u32 x4), (u32 x5), (u32 x6), (u32 x7), sv, (u64 (n + (BitVec.ofInt 64 (l.length : Int))))] 154 (0, 0))] ++ (Hs ++ ([]))) := hm0.upd0 uq1
 refine rN (sR ?_)
 refine Qb rfl (Qc (v := (ptr bd 0)) rfl) <| Qb rfl (Qc (v := (ptr bd 0)) rfl) <| Qb rfl (Zv rfl) <| Qb rfl (Zr (r := 8) Jk rfl (by first | rfl | omega) Aj rfl rfl) <| Qb (v := sv) rfl (Qy Z4 rfl rfl hm1.h0 rfl) <| rM rfl (v := vb) rfl <| Zo rfl (Xt (f := u8) (Hs := Hs) (H := [(bd, .cells #[(u32 x0), (u32 x1), (u32 x2), (u32 x3), (u32 x4), (u32 x5), (u32 x6), (u32 x7), sv, (u64 (n + (BitVec.ofInt 64 (l.length : Int))))] 154 (0, 0))]) (Mem.pick [_] Hs _ hm1) gl rfl rfl (Rd.ofRest hr hm1) Z4 Z4 Yq rfl Q8 sD sD) ?_
 rintro sv2 w2 ⟨Hs2, hm2, g2⟩
 replace g2 : Xx u8 5 sv2 (ll ++ l) Hs2 := g2
 refine Qb rfl (Zv rfl) <| Qb rfl (Zr (r := 8) Jk rfl (by first | rfl | omega) Aj rfl rfl) <| Xf (Vu Aj rfl rfl g2.one ((Mem.pick Hs2 [_] _ hm2)).h0 (by simp) (.inl (Nat.zero_le _))) ?_
 rintro _ w3 uq3
 have hm3 : Mem w3 R ([(bd, .cells #[(u32 x0), (u32 x1), (u32 x2), (u32 x3), (u32 x4), (u32 x5), (u32 x6), (u32 x7), sv2, (u64 (n + (BitVec.ofInt 64 (l.length : Int))))] 154 (0, 0))] ++ (Hs2 ++ ([]))) := Mem.upd0 (Mem.pick Hs2 [_] _ hm2) uq3
 refine rN ?_
 refine CW.abs (fun g => g 0 = (ptr bd 0) ∧ g 1 = vb ∧ True) ⟨rfl, rfl, trivial⟩ ?_
 rintro fr4 ⟨s0, s1, _⟩
 refine Uo ?_
 refine Jg (fun g wv => ∃ (m : Nat) (z0 z1 z2 z3 z4 z5 z6 z7 : BitVec 32) (sv3 : Value) (l3 : List (BitVec 8)) (Hs3 : List (Nat × Obj)), (64 * m ≤ (ll ++ l).length) ∧ ([z0, z1, z2, z3, z4, z5, z6, z7] = hAt [x0, x1, x2, x3, x4, x5, x6, x7] (ll ++ l) m) ∧ (l3 = (ll ++ l).drop (64 * m)) ∧ (Xx u8 5 sv3 l3 Hs3) ∧ g 0 = (ptr bd 0) ∧ g 1 = vb ∧ Mem wv R ([(bd, .cells #[(u32 z0), (u32 z1), (u32 z2), (u32 z3), (u32 z4), (u32 z5), (u32 z6), (u32 z7), sv3, (u64 (n + BitVec.ofInt 64 (l.length : Int)))] 154 (0, 0))] ++ (Hs3 ++ ([])))) (fun g wv => Qab wv bd) ?_ ?_
 · exact ⟨0, x0, x1, x2, x3, x4, x5, x6, x7, sv2, ll ++ l, Hs2, (by simp), rfl, (by simp), g2, s0, s1, hm3⟩
 · rintro fr5 w6 ⟨m, z0, z1, z2, z3, z4, z5, z6, z7, sv3, l3, Hs3, hm1, hz, hl3, gl3, s0, s1, hm6⟩
   have hl3n : l3.length = (ll ++ l).length - 64 * m := by rw [hl3]; simp
   have hLn : (ll ++ l).length = ll.length + l.length := by simp
   refine Qh (sR ?_)
   refine rM rfl s0 <| Qb rfl (Zv rfl) <| Qb rfl (Zr (r := 8) Jk rfl (by first | rfl | omega) Aj rfl rfl) <| Qb (v := sv3) rfl (Qy Z4 rfl rfl hm6.h0 rfl) <| Qb (v := (i64 (l3.length : Int))) rfl (Yi (gl3.rd (Mem.pick [_] Hs3 _ hm6)) Z4 rfl) <| Qb rfl (Y2 (b := 64) rfl rfl) <| rN ?_
   refine Xy rfl (fun hc7 => ?_) (fun hc7 => ?_)
   ·
     have hc7p := of_decide_eq_true hc7
     refine Zc (Qi (Uo (sR ?_)))
     refine rM rfl s0 <| rM rfl s0 <| Qb rfl (Zv rfl) <| Qb rfl (Zr (r := 8) Jk rfl (by first | rfl | omega) Aj rfl rfl) <| Qb (v := sv3) rfl (Qy Z4 rfl rfl hm6.h0 rfl) <| Qb rfl (Yr (i := 0) (j := 64) (gl3.rd (Mem.pick [_] Hs3 _ hm6)) Z4 Yq rfl (Zn _ _) (X9 (k := .i64) (i := 64) rfl) oM sD sD) ?_
     have hF9 : Mem w6 R ([(bd, .cells #[(u32 z0), (u32 z1), (u32 z2), (u32 z3), (u32 z4), (u32 z5), (u32 z6), (u32 z7), sv3, (u64 (n + BitVec.ofInt 64 (l.length : Int)))] 154 (0, 0))] ++ (Hs3 ++ ([]))) := hm6
     refine Zo rfl (Qx Tryd.func102 bd102 nm102 (Yk rfl rfl) (c_take bd z0 z1 z2 z3 z4 z5 z6 z7 sv3 (n + BitVec.ofInt 64 (l.length : Int)) (V8 sv3 0 64) ((l3.drop 0).take 64) _ _ (Mem.give hF9) (hT.mono fun b o e => Mem.addRest hF9 e) ((Xx.cast (l' := (l3.drop 0).take 64) (Xx.sub (i := 0) (j := 64) gl3 oM sD sD) rfl).rdAdd hF9 (fun p hp => (List.mem_append_left _ hp))) sD)) ?_
     rintro _ w8 ⟨y0q10, y1q10, y2q10, y3q10, y4q10, y5q10, y6q10, y7q10, hyq10, k_w8⟩
     have hm8 : Mem w8 R ([(bd, .cells #[(u32 y0q10), (u32 y1q10), (u32 y2q10), (u32 y3q10), (u32 y4q10), (u32 y5q10), (u32 y6q10), (u32 y7q10), sv3, (u64 (n + BitVec.ofInt 64 (l.length : Int)))] 154 (0, 0))] ++ (Hs3 ++ ([]))) := Mem.back hF9 k_w8
     refine rN ?_
     refine CW.abs (fun g => g 0 = (ptr bd 0) ∧ g 1 = vb ∧ g 28 = (bl (decide (64 ≤ (l3.length : Int)))) ∧ True) ⟨s0, s1, rfl, trivial⟩ ?_
     rintro fr11 ⟨s0, s1, s28, _⟩
     refine Qg <| rM rfl s0 <| rM rfl s0 <| Qb rfl (Zv rfl) <| Qb rfl (Zr (r := 8) Jk rfl (by first | rfl | omega) Aj rfl rfl) <| Qb (v := sv3) rfl (Qy Z4 rfl rfl hm8.h0 rfl) <| Qb rfl (Yr (i := 64) (j := (l3.length : Int)) (gl3.rd (Mem.pick [_] Hs3 _ hm8)) Z4 Yq rfl (X9 (k := .i64) (i := 64) rfl) (Zn _ _) oM sD sD) <| Qb rfl (Zv rfl) <| Qb rfl (Zr (r := 8) Jk rfl (by first | rfl | omega) Aj rfl rfl) <| Xf (Vu Aj rfl rfl (Xx.cast (l' := (l3.drop (64 : Int).toNat).take (((l3.length : Int) : Int).toNat - (64 : Int).toNat)) (Xx.sub (i := 64) (j := (l3.length : Int)) gl3 oM sD sD) rfl).one hm8.h0 (by simp) (.inl (Nat.zero_le _))) ?_
     rintro _ w12 uq12
     have hm12 : Mem w12 R ([(bd, .cells #[(u32 y0q10), (u32 y1q10), (u32 y2q10), (u32 y3q10), (u32 y4q10), (u32 y5q10), (u32 y6q10), (u32 y7q10), (V8 sv3 64 (l3.length : Int)), (u64 (n + BitVec.ofInt 64 (l.length : Int)))] 154 (0, 0))] ++ (Hs3 ++ ([]))) := hm8.upd0 uq12
     refine Zz (Qn (Qi ?_))
     rw [head64 hl3] at hyq10
     have hzn : [y0q10, y1q10, y2q10, y3q10, y4q10, y5q10, y6q10, y7q10] = hAt [x0, x1, x2, x3, x4, x5, x6, x7] (ll ++ l) (m + 1) := by rw [hyq10, hz]; rfl
     exact ⟨⟨m + 1, y0q10, y1q10, y2q10, y3q10, y4q10, y5q10, y6q10, y7q10, (V8 sv3 64 (l3.length : Int)), (l3.drop (64 : Int).toNat).take (((l3.length : Int) : Int).toNat - (64 : Int).toNat), Hs3, oM, hzn, (tail64 hl3), (Xx.cast (l' := (l3.drop (64 : Int).toNat).take (((l3.length : Int) : Int).toNat - (64 : Int).toNat)) (Xx.sub (i := 64) (j := (l3.length : Int)) gl3 oM sD sD) rfl), s0, s1, hm12⟩, (by show Qab w12 bd < Qab w6 bd; rw [Qcv (v := (V8 sv3 64 (l3.length : Int))) hm12.h0 rfl, Qcv (v := sv3) hm6.h0 rfl, Xx.sllen (Xx.cast (l' := (l3.drop (64 : Int).toNat).take (((l3.length : Int) : Int).toNat - (64 : Int).toNat)) (Xx.sub (i := 64) (j := (l3.length : Int)) gl3 oM sD sD) rfl), gl3.sllen]; simp; omega)⟩
   ·
     have hc7p := of_decide_eq_false hc7
     have hl3n : l3.length = (ll ++ l).length - 64 * m := by rw [hl3]; simp
     obtain rfl : m = (ll ++ l).length / 64 := by omega
     refine Yb ?_
     refine Zb (Zb (Xw ?_))
     refine Ej [] trivial ?_
     exact ⟨z0, z1, z2, z3, z4, z5, z6, z7, sv3, Hs3, hz, hl3 ▸ gl3, hm6⟩
end Go.Proofs.YtkmiemlpfkfiiaaDoor
