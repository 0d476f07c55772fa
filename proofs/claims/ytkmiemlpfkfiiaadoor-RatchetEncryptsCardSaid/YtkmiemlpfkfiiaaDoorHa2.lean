/- Contracts: hash, second part. Conditions: none beyond those that each theorem states. -/
import Derived.Test.YtkmiemlpfkfiiaaDoorHa1
namespace Go.Proofs.YtkmiemlpfkfiiaaDoor
set_option linter.unusedVariables false
set_option linter.unusedSimpArgs false
def hAt (h : List (BitVec 32)) (l : List (BitVec 8)) : Nat → List (BitVec 32)
 | 0 => h
 | m + 1 => Qed (hAt h l m) ((l.drop (64 * m)).take 64)
def Qda (w : World) (b : Nat) : Nat := match w.heap[b]? with | some (.cells c _ _) => sllen (c.getD 8 undef) | _ => 0
theorem Qf5 {w : World} {b : Nat} {c : Array Value} {E : TypeId} {fz : Nat × Nat} {v : Value} (h : w.heap[b]? = some (.cells c E fz)) (hc : c[8]? = some v) : Qda w b = sllen v := by
 simp [Qda, h, hc]
theorem tail64 {L l3 : List (BitVec 8)} {m : Nat} (h : l3 = L.drop (64 * m)) : (l3.drop (64 : Int).toNat).take ((l3.length : Int).toNat - (64 : Int).toNat) = L.drop (64 * (m + 1)) := by
 subst h
 have e : (64 : Int).toNat = 64 := rfl
 rw [e, List.take_of_length_le (by simp; omega), List.drop_drop]; congr 1
theorem head64 {L l3 : List (BitVec 8)} {m : Nat} (h : l3 = L.drop (64 * m)) : (l3.drop 0).take 64 = (L.drop (64 * m)).take 64 := by
 subst h; rfl
def lenB (n : BitVec 64) : List (BitVec 8) := [(n <<< 3 >>> 56).setWidth 8, (n <<< 3 >>> 48).setWidth 8, (n <<< 3 >>> 40).setWidth 8, (n <<< 3 >>> 32).setWidth 8, (n <<< 3 >>> 24).setWidth 8, (n <<< 3 >>> 16).setWidth 8, (n <<< 3 >>> 8).setWidth 8, (n <<< 3 >>> 0).setWidth 8]
def padP (n : BitVec 64) (len : Nat) : List (BitVec 8) := 128#8 :: (List.replicate ((119 - len) % 64) 0#8 ++ lenB n)
def Qaa (h : List (BitVec 32)) : List (BitVec 8) := (List.range 32).map fun i => (h.getD (i / 4) 0 >>> (24 - 8 * (i % 4))).setWidth 8
@[simp] theorem Qgo (h : List (BitVec 32)) : (Qaa h).length = 32 := by simp [Qaa]
def Uu (h : List (BitVec 32)) (l : List (BitVec 8)) (n : BitVec 64) : List (BitVec 8) := Qaa (hAt h (l ++ padP n l.length) ((l ++ padP n l.length).length / 64))
@[simp] theorem Qgk (h : List (BitVec 32)) (l : List (BitVec 8)) (n : BitVec 64) : (Uu h l n).length = 32 := Qgo _
def Gn (l : List (BitVec 8)) : List (BitVec 8) := Uu (hAt Tf l (l.length / 64)) (l.drop (64 * (l.length / 64))) (0#64 + BitVec.ofInt 64 (l.length : Int))
@[simp] theorem Qjh (l : List (BitVec 8)) : (Gn l).length = 32 := Qgk _ _ _
theorem sum_told {ys : List (BitVec 32)} {l : List (BitVec 8)} (hy : ys = hAt [1779033703#32, 3144134277#32, 1013904242#32, 2773480762#32, 1359893119#32, 2600822924#32, 528734635#32, 1541459225#32] ([] ++ l) (([] ++ l).length / 64)) : Uu ys (([] ++ l).drop (64 * (([] ++ l).length / 64))) (0#64 + BitVec.ofInt 64 (l.length : Int)) = Gn l := by
 subst hy; unfold Gn Tf; simp only [List.nil_append]
theorem Qlm {α : Type} (f : α → Value) (l : List α) (r : List Value) {i : Nat} (d : α) (h : i < l.length) : ((l.map f ++ r).toArray)[i]? = some (f (l.getD i d)) := by
 simp only [List.getElem?_toArray]
 rw [List.getElem?_append_left (by simpa using h)]
 simp [List.getD_eq_getElem?_getD, h]
theorem Qlh {a : Option Addr} {l : List (BitVec 8)} {m : Nat → Option Obj} (h : a.isNone = true) (hr : ∀ i (h : i < l.length), ∃ b off c E fz, a = some ⟨b, off, none⟩ ∧ m b = some (.cells c E fz) ∧ c[off + i]? = some (u8 l[i])) : l = [] := by
 cases l with
 | nil => rfl
 | cons x l => obtain ⟨b, off, c, E, fz, rfl, _⟩ := hr 0 (by simp); cases h
theorem Qdn (v : Value) (l : List (BitVec 8)) (w0 : World)  (hr : Rd (Yq w0) u8 v l) (hl : l.length ≤ 35184372088832) : Xz Tryd.prog 34 #[v] w0 (fun r w1 => ∃ Hs, Zv u8 5 r l Hs ∧ Mem w1 (Qy w0) Hs) := by
 refine Zd (args := [v]) Tryd.func34 rfl Tryd.ntmps34 Tryd.results34 rfl ?_
 have m0 : Mem w0 (Qy w0) [] := Mem.of_world w0
 have hr0 := hr
 obtain ⟨a, cap, rfl, hle, hce⟩ := hr.is
 refine sR <| Qa rfl (Qc (v := (Value.slice none 0 0)) rfl) ?_
 refine rN (Qg (sR ?_))
 refine Qa rfl (Qb (v := (Value.slice a l.length cap)) rfl) <| Qa rfl (Qer Zi rfl rfl) <| rN ?_
 refine Xv rfl (fun hc1 => ?_) (fun hc1 => ?_)
 ·
  refine sR <| Qa rfl (Qc (v := (Value.slice none 0 0)) rfl) ?_
  refine rN (Xt (Vg ?_))
  refine Ze [(Value.slice none 0 0)] ⟨rfl, trivial⟩ ?_
  obtain rfl : l = [] := Qlh hc1 hce
  exact ⟨[], Zv.none u8 5, m0⟩
 ·
  refine Q7 (Qh (sR ?_))
  refine Za rfl (Ql u8 [] Qu m0 Zi X6 rfl (by simp [Jo]) rfl) ?_
  rintro _ w2 ⟨b5, rfl, e2, m2⟩
  refine Qa rfl (Qb (v := (Value.slice a l.length cap)) rfl) <| Za rfl (Zk (f := u8) (Hs := [(b5, .cells (cl u8 ([])) 5 (0, 0))]) (H := []) m2 (Zv.of u8 5 b5 ([])) rfl rfl (Rd.ofRest hr0 m2) Zi Zi X6 rfl Qu sD sD) ?_
  rintro sv3 w3 ⟨Hs3, m3, g3⟩
  replace g3 : Zv u8 5 sv3 l Hs3 := g3
  refine rA rfl (v := sv3) rfl ?_
  refine rN (Xt ?_)
  refine Ze [sv3] ⟨rfl, trivial⟩ ?_
  exact ⟨Hs3, g3, by simpa using m3⟩
theorem Qff (bd : Nat) (x0 x1 x2 x3 x4 x5 x6 x7 : BitVec 32) (sv : Value) (ll : List (BitVec 8)) (Hs : List (Nat × Obj)) (n : BitVec 64) (vb : Value) (l : List (BitVec 8)) (w0 : World) (R : Rest) (m0 : Mem w0 R ([(bd, .cells #[(u32 x0), (u32 x1), (u32 x2), (u32 x3), (u32 x4), (u32 x5), (u32 x6), (u32 x7), sv, (u64 n)] 154 (0, 0))] ++ (Hs ++ ([])))) (hT : Tabs R.blk) (hr : Rd R.blk u8 vb l) (gl : Zv u8 5 sv ll Hs) (hl : ll.length + l.length ≤ 35184372088832) : Xz Tryd.prog 85 #[(ptr bd 0), vb] w0 (fun r w1 => ∃ y0 y1 y2 y3 y4 y5 y6 y7 sv2 Hs2, [y0, y1, y2, y3, y4, y5, y6, y7] = hAt [x0, x1, x2, x3, x4, x5, x6, x7] (ll ++ l) ((ll ++ l).length / 64) ∧ Zv u8 5 sv2 ((ll ++ l).drop (64 * ((ll ++ l).length / 64))) Hs2 ∧ Mem w1 R ([(bd, .cells #[(u32 y0), (u32 y1), (u32 y2), (u32 y3), (u32 y4), (u32 y5), (u32 y6), (u32 y7), sv2, (u64 (n + BitVec.ofInt 64 (l.length : Int)))] 154 (0, 0))] ++ (Hs2 ++ ([])))) := by
 refine Zd (args := [(ptr bd 0), vb]) Tryd.func85 rfl Tryd.ntmps85 Tryd.results85 rfl ?_
 obtain ⟨Es, fzs, hTs⟩ := hT.start
 obtain ⟨Er, fzr, hTr⟩ := hT.round
 refine sR <| Qa rfl (Qb (v := (ptr bd 0)) rfl) <| Qa rfl (Xb rfl) <| Qa rfl (Xi (r := 9) Kq rfl (by first | rfl | omega) Xh rfl rfl) <| Qa (v := (u64 n)) rfl (Qn X4 rfl rfl m0.h0 rfl) <| rM rfl (v := vb) rfl <| Qa rfl (Ye (Rd.ofRest hr m0) Zi rfl) <| Qa rfl (Yv ⟨_, Fj⟩ X4 rfl) <| Qa rfl (Y3 rfl rfl) <| Qa rfl (Xb rfl) <| Qa rfl (Xi (r := 9) Kq rfl (by first | rfl | omega) Xh rfl rfl) <| Zw (Gq Xh rfl rfl (Xl _) m0.h0 (by simp) (.inl (Nat.zero_le _))) ?_
 rintro _ w1 uq1
 have m1 : Mem _ _ ([(bd, .cells #[(u32 x0), (u32 x1), (u32 x2), (u32 x3), (u32 x4), (u32 x5), (u32 x6), (u32 x7), sv, (u64 (n + (BitVec.ofInt 64 (l.length : Int))))] 154 (0, 0))] ++ (Hs ++ ([]))) := m0.upd0 uq1
 refine rN (sR ?_)
 refine Qa rfl (Qb (v := (ptr bd 0)) rfl) <| Qa rfl (Qb (v := (ptr bd 0)) rfl) <| Qa rfl (Xb rfl) <| Qa rfl (Xi (r := 8) Kq rfl (by first | rfl | omega) Td rfl rfl) <| Qa (v := sv) rfl (Qn Zi rfl rfl m1.h0 rfl) <| rM rfl (v := vb) rfl <| Za rfl (Zk (f := u8) (Hs := Hs) (H := [_]) (Mem.pick [_] Hs _ m1) gl rfl rfl (Rd.ofRest hr m1) Zi Zi X6 rfl Qu sD sD) ?_
 rintro sv2 w2 ⟨Hs2, m2, g2⟩
 replace g2 : Zv u8 5 sv2 (ll ++ l) Hs2 := g2
 refine Qa rfl (Xb rfl) <| Qa rfl (Xi (r := 8) Kq rfl (by first | rfl | omega) Td rfl rfl) <| Zw (Gq Td rfl rfl g2.one ((Mem.pick Hs2 [_] _ m2)).h0 (by simp) (.inl (Nat.zero_le _))) ?_
 rintro _ w3 uq3
 have m3 : Mem _ _ ([(bd, .cells #[(u32 x0), (u32 x1), (u32 x2), (u32 x3), (u32 x4), (u32 x5), (u32 x6), (u32 x7), sv2, (u64 (n + (BitVec.ofInt 64 (l.length : Int))))] 154 (0, 0))] ++ (Hs2 ++ ([]))) := Mem.upd0 (Mem.pick Hs2 [_] _ m2) uq3
 refine rN (Vq ?_)
 refine Yo (fun g wv => ∃ (m : Nat) (z0 z1 z2 z3 z4 z5 z6 z7 : BitVec 32) (sv3 : Value) (l3 : List (BitVec 8)) (Hs3 : List (Nat × Obj)), (64 * m ≤ (ll ++ l).length) ∧ ([z0, z1, z2, z3, z4, z5, z6, z7] = hAt [x0, x1, x2, x3, x4, x5, x6, x7] (ll ++ l) m) ∧ (l3 = (ll ++ l).drop (64 * m)) ∧ (Zv u8 5 sv3 l3 Hs3) ∧ g 0 = (ptr bd 0) ∧ g 1 = vb ∧ Mem wv R ([(bd, .cells #[(u32 z0), (u32 z1), (u32 z2), (u32 z3), (u32 z4), (u32 z5), (u32 z6), (u32 z7), sv3, (u64 (n + BitVec.ofInt 64 (l.length : Int)))] 154 (0, 0))] ++ (Hs3 ++ ([])))) (fun g wv => Qda wv bd) ?_ ?_
 ·exact ⟨0, x0, x1, x2, x3, x4, x5, x6, x7, sv2, ll ++ l, Hs2, (by simp), rfl, (by simp), g2, rfl, rfl, m3⟩
 rintro fr4 w5 ⟨m, z0, z1, z2, z3, z4, z5, z6, z7, sv3, l3, Hs3, m1, hz, hl3, gl3, s0, s1, m5⟩
 have hl3n : l3.length = (ll ++ l).length - 64 * m := by rw [hl3]; simp
 have hLn : (ll ++ l).length = ll.length + l.length := by simp
 refine Qg (sR ?_)
 refine rM rfl s0 <| Qa rfl (Xb rfl) <| Qa rfl (Xi (r := 8) Kq rfl (by first | rfl | omega) Td rfl rfl) <| Qa (v := sv3) rfl (Qn Zi rfl rfl m5.h0 rfl) <| Qa rfl (Ye (gl3.rd (Mem.pick [_] Hs3 _ m5)) Zi rfl) <| Qa rfl (X5 (b := 64) rfl rfl) <| rN ?_
 refine Xv rfl (fun hc6 => ?_) (fun hc6 => ?_)
 ·
  have hc6p := of_decide_eq_true hc6
  refine Q7 (Qh (Vq (sR ?_)))
  refine rM rfl s0 <| rM rfl s0 <| Qa rfl (Xb rfl) <| Qa rfl (Xi (r := 8) Kq rfl (by first | rfl | omega) Td rfl rfl) <| Qa (v := sv3) rfl (Qn Zi rfl rfl m5.h0 rfl) <| Qa rfl (Fb (i := 0) (j := 64) (gl3.rd (Mem.pick [_] Hs3 _ m5)) Zi X6 rfl (Zy _ _) (Jt (k := .i64) (i := 64) rfl) oM sD sD) ?_
  have hF8 : Mem w5 R (([(bd, .cells #[(u32 z0), (u32 z1), (u32 z2), (u32 z3), (u32 z4), (u32 z5), (u32 z6), (u32 z7), sv3, (u64 (n + BitVec.ofInt 64 (l.length : Int)))] 154 (0, 0))]) ++ (Hs3 ++ ([]))) := by
   have hT := m5
   try simp only [List.append_assoc, List.cons_append, List.nil_append, List.append_nil] at hT ⊢
   exact hT
  refine Za rfl (oc102 (Xr rfl rfl) (c_take bd z0 z1 z2 z3 z4 z5 z6 z7 sv3 (n + BitVec.ofInt 64 (l.length : Int)) (Qar sv3 0 64) ((l3.drop 0).take 64) _ _ (Mem.give hF8) (hT.mono fun b o e => Mem.addRest hF8 e) ((Zv.cast (l' := (l3.drop 0).take 64) (Zv.sub (i := 0) (j := 64) gl3 oM sD sD) rfl).rdAdd hF8 (fun p hp => (List.mem_append_left _ hp))) sD)) ?_
  rintro _ w7 ⟨y0q9, y1q9, y2q9, y3q9, y4q9, y5q9, y6q9, y7q9, hyq9, k_w7⟩
  have m7 : Mem w7 R ([(bd, .cells #[(u32 y0q9), (u32 y1q9), (u32 y2q9), (u32 y3q9), (u32 y4q9), (u32 y5q9), (u32 y6q9), (u32 y7q9), sv3, (u64 (n + BitVec.ofInt 64 (l.length : Int)))] 154 (0, 0))] ++ (Hs3 ++ ([]))) := (by
   have hT := Mem.back hF8 k_w7
   try simp only [List.append_assoc, List.cons_append, List.nil_append, List.append_nil] at hT ⊢
   exact hT)
  refine rN (Qe ?_)
  refine rM rfl s0 <| rM rfl s0 <| Qa rfl (Xb rfl) <| Qa rfl (Xi (r := 8) Kq rfl (by first | rfl | omega) Td rfl rfl) <| Qa (v := sv3) rfl (Qn Zi rfl rfl m7.h0 rfl) <| Qa rfl (Fb (i := 64) (j := (l3.length : Int)) (gl3.rd (Mem.pick [_] Hs3 _ m7)) Zi X6 rfl (Jt (k := .i64) (i := 64) rfl) (Zy _ _) oM sD sD) <| Qa rfl (Xb rfl) <| Qa rfl (Xi (r := 8) Kq rfl (by first | rfl | omega) Td rfl rfl) <| Zw (Gq Td rfl rfl (Zv.cast (l' := (l3.drop (64 : Int).toNat).take (((l3.length : Int) : Int).toNat - (64 : Int).toNat)) (Zv.sub (i := 64) (j := (l3.length : Int)) gl3 oM sD sD) rfl).one m7.h0 (by simp) (.inl (Nat.zero_le _))) ?_
  rintro _ w10 uq10
  have m10 : Mem _ _ ([(bd, .cells #[(u32 y0q9), (u32 y1q9), (u32 y2q9), (u32 y3q9), (u32 y4q9), (u32 y5q9), (u32 y6q9), (u32 y7q9), (Qar sv3 64 (l3.length : Int)), (u64 (n + BitVec.ofInt 64 (l.length : Int)))] 154 (0, 0))] ++ (Hs3 ++ ([]))) := m7.upd0 uq10
  refine Zr (Qi (Qh ?_))
  rw [head64 hl3] at hyq9
  have hzn : [y0q9, y1q9, y2q9, y3q9, y4q9, y5q9, y6q9, y7q9] = hAt [x0, x1, x2, x3, x4, x5, x6, x7] (ll ++ l) (m + 1) := by rw [hyq9, hz]; rfl
  exact ⟨⟨m + 1, y0q9, y1q9, y2q9, y3q9, y4q9, y5q9, y6q9, y7q9, (Qar sv3 64 (l3.length : Int)), (l3.drop (64 : Int).toNat).take (((l3.length : Int) : Int).toNat - (64 : Int).toNat), Hs3, oM, hzn, (tail64 hl3), (Zv.cast (l' := (l3.drop (64 : Int).toNat).take (((l3.length : Int) : Int).toNat - (64 : Int).toNat)) (Zv.sub (i := 64) (j := (l3.length : Int)) gl3 oM sD sD) rfl), s0, s1, m10⟩, (by show Qda w10 bd < Qda w5 bd; rw [Qf5 (v := (Qar sv3 64 (l3.length : Int))) m10.h0 rfl, Qf5 (v := sv3) m5.h0 rfl, Zv.sllen (Zv.cast (l' := (l3.drop (64 : Int).toNat).take (((l3.length : Int) : Int).toNat - (64 : Int).toNat)) (Zv.sub (i := 64) (j := (l3.length : Int)) gl3 oM sD sD) rfl), gl3.sllen]; simp; omega)⟩
 ·
  have hc6p := of_decide_eq_false hc6
  have hl3n : l3.length = (ll ++ l).length - 64 * m := by rw [hl3]; simp
  obtain rfl : m = (ll ++ l).length / 64 := by omega
  refine X0 ?_
  refine Qr (Qr (Xf ?_))
  refine Au [] trivial ?_
  exact ⟨z0, z1, z2, z3, z4, z5, z6, z7, sv3, Hs3, hz, hl3 ▸ gl3, m5⟩
end Go.Proofs.YtkmiemlpfkfiiaaDoor
