/- Plain laws of the stream, and the document's turner. Conditions: none beyond those that each theorem states. -/
import Derived.Test.YtkmiemlpfkfiiaaDoorSt5
import Derived.Test.YtkmiemlpfkfiiaaDoorSt3
namespace Go.Proofs.YtkmiemlpfkfiiaaDoor
set_option linter.unusedVariables false
set_option linter.unusedSimpArgs false
theorem rot16 (x : BitVec 32) : Zb x 16 = Yg x 16 := rfl
theorem rot12 (x : BitVec 32) : Zb x 12 = Yg x 12 := rfl
theorem rot8 (x : BitVec 32) : Zb x 8 = Yg x 8 := rfl
theorem rot7 (x : BitVec 32) : Zb x 7 = Yg x 7 := rfl
theorem Qjy (r r' : BitVec 32 → Int → BitVec 32) (h16 : ∀ x, r x 16 = r' x 16) (h12 : ∀ x, r x 12 = r' x 12) (h8 : ∀ x, r x 8 = r' x 8) (h7 : ∀ x, r x 7 = r' x 7) (a b c d : BitVec 32) : Jg r a b c d = Jg r' a b c d := by
 simp only [Jg, h16, h12, h8, h7]
theorem Qip (a b c d : BitVec 32) : Jg Zb a b c d = Jg Yg a b c d := Qjy _ _ rot16 rot12 rot8 rot7 a b c d
theorem dblR_eq (s : List (BitVec 32)) : Vt s = Qdz (Jg Yg) (Qdz (Jg Yg) (Qdz (Jg Yg) (Qdz (Jg Yg) (Qdz (Jg Yg) (Qdz (Jg Yg) (Qdz (Jg Yg) (Qdz (Jg Yg) s 0 4 8 12) 1 5 9 13) 2 6 10 14) 3 7 11 15) 0 5 10 15) 1 6 11 12) 2 7 8 13) 3 4 9 14 := rfl
theorem dbl_same (s : List (BitVec 32)) : dbl s = Vt s := by
 have hq : ∀ s i0 i1 i2 i3, Ew s i0 i1 i2 i3 = Qdz (Jg Yg) s i0 i1 i2 i3 := by
  intro s i0 i1 i2 i3
  unfold Ew Qdz
  simp only [Qip]
 rw [dblR_eq]; unfold dbl
 rw [hq, hq, hq, hq, hq, hq, hq, hq]
theorem Qjr (k : Nat) (s : List (BitVec 32)) (h : s.length = 16) : X9 dbl k s = X9 Vt k s := by
 induction k with
 | zero => simp only [X9]
 | succ k ih =>
  simp only [X9]
  rw [ih, dbl_same]
theorem Qk9 (x y : BitVec 32) (n : Nat) (hx : x.toNat < 2 ^ n) (hy : y.toNat * 2 ^ n < 2 ^ 32) : x ||| y <<< n = x + y * BitVec.ofNat 32 (2 ^ n) := by
 apply BitVec.eq_of_toNat_eq
 have e : (y <<< n).toNat = y.toNat <<< n := by
  rw [BitVec.toNat_shiftLeft, Nat.shiftLeft_eq]; exact Nat.mod_eq_of_lt hy
 rw [BitVec.toNat_or, e, Nat.or_comm, ← Nat.shiftLeft_add_eq_or_of_lt hx, Nat.shiftLeft_eq, BitVec.toNat_add, BitVec.toNat_mul, BitVec.toNat_ofNat]
 have h1 : y.toNat * (2 ^ n % 2 ^ 32) % 2 ^ 32 = y.toNat * 2 ^ n := by
  rcases Nat.lt_or_ge n 32 with h | h
  ·rw [Nat.mod_eq_of_lt (Nat.pow_lt_pow_right oM h)]; exact Nat.mod_eq_of_lt hy
  have hy0 : y.toNat = 0 := by
   rcases Nat.eq_zero_or_pos y.toNat with h0 | h0
   ·exact h0
   have : 2 ^ 32 ≤ 2 ^ n := Nat.pow_le_pow_right oM h
   have : 1 * 2 ^ n ≤ y.toNat * 2 ^ n := Nat.mul_le_mul_right _ h0
   omega
  simp [hy0]
 rw [h1]
 have h2 : x.toNat + y.toNat * 2 ^ n < 2 ^ 32 := by
  rcases Nat.lt_or_ge n 32 with h | h
  ·have hp : 2 ^ n * 2 ^ (32 - n) = 2 ^ 32 := by rw [← Nat.pow_add]; congr 1; omega
   have hlt : y.toNat < 2 ^ (32 - n) := by
    rcases Nat.lt_or_ge y.toNat (2 ^ (32 - n)) with h3 | h3
    ·exact h3
    have : 2 ^ (32 - n) * 2 ^ n ≤ y.toNat * 2 ^ n := Nat.mul_le_mul_right _ h3
    rw [Nat.mul_comm, hp] at this; omega
   have : (y.toNat + 1) * 2 ^ n ≤ 2 ^ (32 - n) * 2 ^ n := Nat.mul_le_mul_right _ hlt
   rw [Nat.mul_comm (2 ^ (32 - n)), hp, Nat.add_mul] at this
   omega
  have hy0 : y.toNat = 0 := by
   rcases Nat.eq_zero_or_pos y.toNat with h0 | h0
   ·exact h0
   have : 2 ^ 32 ≤ 2 ^ n := Nat.pow_le_pow_right oM h
   have : 1 * 2 ^ n ≤ y.toNat * 2 ^ n := Nat.mul_le_mul_right _ h0
   omega
  have := x.isLt; simp only [hy0, Nat.zero_mul, Nat.add_zero]; exact this
 omega
theorem Qnb (a b c d : BitVec 8) : wordP a b c d = wordR a b c d := by
 have ha := a.isLt; have hb := b.isLt; have hc := c.isLt; have hd := d.isLt
 have e8 : ∀ x : BitVec 8, (x.setWidth 32).toNat = x.toNat := fun x => by rw [BitVec.toNat_setWidth]; exact Nat.mod_eq_of_lt (by have := x.isLt; omega)
 unfold wordP wordR
 have h0 : 0#32 ||| a.setWidth 32 <<< 0 = a.setWidth 32 := by simp
 rw [h0, Qk9 _ _ 8 (by rw [e8]; omega) (by rw [e8]; omega)]
 have t1 : (a.setWidth 32 + b.setWidth 32 * BitVec.ofNat 32 (2 ^ 8)).toNat = a.toNat + b.toNat * 256 := by
  rw [BitVec.toNat_add, BitVec.toNat_mul, e8, e8]; simp; omega
 rw [Qk9 _ _ 16 (by rw [t1]; omega) (by rw [e8]; omega)]
 have t2 : (a.setWidth 32 + b.setWidth 32 * BitVec.ofNat 32 (2 ^ 8) + c.setWidth 32 * BitVec.ofNat 32 (2 ^ 16)).toNat = a.toNat + b.toNat * 256 + c.toNat * 65536 := by
  rw [BitVec.toNat_add, t1, BitVec.toNat_mul, e8]; simp; omega
 rw [Qk9 _ _ 24 (by rw [t2]; omega) (by rw [e8]; omega)]
 rfl
theorem Gh (l : List (BitVec 8)) (i n : Nat) (hn : 4 ≤ n) : Z4 (Gm l i n) = X8 (Gm l i 4) := by
 unfold Z4 X8 Gm
 rw [Qnb]
 have e : ∀ j, j < 4 → ((l.drop i).take n).getD j 0 = ((l.drop i).take 4).getD j 0 := by
  intro j hj
  simp only [List.getD_eq_getElem?_getD, List.getElem?_take]
  rw [if_pos oM, if_pos hj]
 rw [e 0 oM, e 1 oM, e 2 oM, e 3 oM]
theorem Qmf (key : List (BitVec 8)) (counter : BitVec 32) (nonce : List (BitVec 8)) : J7 Z4 key counter nonce = Yf X8 key counter nonce := by
 have ek : Z4 key = X8 (Gm key 0 4) := by
  have := Gh key 0 (key.length + 4) oM
  have e : Gm key 0 (key.length + 4) = key := by unfold Gm; rw [List.drop_zero, List.take_of_length_le oM]
  rwa [e] at this
 have en : Z4 nonce = X8 (Gm nonce 0 4) := by
  have := Gh nonce 0 (nonce.length + 4) oM
  have e : Gm nonce 0 (nonce.length + 4) = nonce := by unfold Gm; rw [List.drop_zero, List.take_of_length_le oM]
  rwa [e] at this
 unfold J7 Yf
 rw [ek, en, Gh key 4 28 oM, Gh key 8 24 oM, Gh key 12 20 oM, Gh key 16 16 oM, Gh key 20 12 oM, Gh key 24 8 oM,
  Gh nonce 4 8 oM, Gh key 28 4 oM, Gh nonce 8 4 oM]
theorem Qgw (v s : List (BitVec 32)) : ∀ (k i : Nat), i < 4 * k → ((List.range k).flatMap (Fz v s)).getD i 0 = Ak v s i := by
 intro k
 induction k with
 | zero => intro i h; omega
 | succ k ih =>
  intro i h
  rw [Qap]
  have hl := Eu v s k
  simp only [List.getD_eq_getElem?_getD, List.getElem?_append, hl] at ih ⊢
  by_cases hi : i < 4 * k
  ·rw [if_pos hi]; exact ih i hi
  rw [if_neg hi]
  have hq : ((i : Int) / 4).toNat = k := by omega
  have hr : (8 * ((i : Int) % 4)).toNat = 8 * (i - 4 * k) := by omega
  unfold Ak Fz
  rw [hq, hr]
  have : i - 4 * k = 0 ∨ i - 4 * k = 1 ∨ i - 4 * k = 2 ∨ i - 4 * k = 3 := by omega
  rcases this with h | h | h | h <;> simp [h]
theorem Qme (key : List (BitVec 8)) (counter : BitVec 32) (nonce : List (BitVec 8)) : Yx key counter nonce = Wq key counter nonce := by
 unfold Yx Wq
 rw [Ej, Qmf, Qjr _ _ (Qg9 _ _ _ _)]
 refine List.ext_getElem (by rw [Eu]; simp) fun i h1 h2 => ?_
 simp only [List.length_map, List.length_range] at h1
 have := Qgw (X9 Vt 10 (Yf X8 key counter nonce)) (Yf X8 key counter nonce) 16 i oM
 rw [List.getD_eq_getElem?_getD, List.getElem?_eq_getElem h2, Option.getD_some] at this
 rw [this]; simp
theorem Qnd (key : List (BitVec 8)) (counter : BitVec 32) (nonce l : List (BitVec 8)) : Jb Yx key counter nonce l = Jb Wq key counter nonce l := by
 have : Yx = Wq := by funext a b c; exact Qme a b c
 rw [this]
theorem Qne (block : List (BitVec 8) → BitVec 32 → List (BitVec 8) → List (BitVec 8)) (key : List (BitVec 8)) (counter : BitVec 32) (nonce l : List (BitVec 8)) : Jb block key counter nonce l = (List.range l.length).map (Dp block key counter nonce l) := by
 unfold Jb; rw [Ej]
theorem turnR_at {key : List (BitVec 8)} {counter : BitVec 32} {nonce l : List (BitVec 8)} {m i : Nat} (h0 : 64 * m ≤ i) (h1 : i < 64 * m + 64) :
  l.getD i 0 ^^^ (Wq key (counter + BitVec.ofInt 32 (((64 * m : Nat) : Int) / 64)) nonce).getD ((i : Int) - ((64 * m : Nat) : Int)).toNat 0 = Dp Wq key counter nonce l i := by
 have e1 : ((64 * m : Nat) : Int) / 64 = ((m : Nat) : Int) := by omega
 have e2 : ((i : Int) - ((64 * m : Nat) : Int)).toNat = i % 64 := by omega
 have e3 : i / 64 = m := by omega
 rw [e1, e2]
 unfold Dp
 rw [e3]; congr 4
theorem Qcd {α : Type} (g : Nat → α) (k : Nat) (x : α) (h : x = g k) : (List.range k).map g ++ [x] = (List.range (k + 1)).map g := by
 rw [List.range_succ, List.map_append, h]; rfl
set_option maxHeartbeats 1000000 in
theorem c_turn3 (key : List (BitVec 8)) (counter : BitVec 32) (nonce : List (BitVec 8)) (v : Value) (l : List (BitVec 8)) (w0 : World)  (hk : key.length = 32) (hn : nonce.length = 12) (hr : Rd (Yq w0) u8 v l) (hl : l.length ≤ 1000000) : Xz Tryd.prog 71 #[(agg u8 key), (u32 counter), (agg u8 nonce), v] w0 (fun r w1 => ∃ Hs, Zv u8 5 r (Jb Wq key counter nonce l) Hs ∧ Mem w1 (Qy w0) Hs) := by
 refine Zd (args := [(agg u8 key), (u32 counter), (agg u8 nonce), v]) Tryd.func71 rfl Tryd.ntmps71 Tryd.results71 rfl ?_
 have m0 : Mem w0 (Qy w0) [] := Mem.of_world w0
 refine sR <| Za rfl (Z8 (f := u8) (l := key) m0 rfl) ?_
 rintro _ w1 ⟨b4, rfl, e1, m1⟩
 refine Za rfl (Z8 (f := u8) (l := nonce) m1 rfl) ?_
 rintro _ w2 ⟨b6, rfl, e2, m2⟩
 refine Qa rfl (Qc (v := (Value.slice none 0 0)) rfl) ?_
 refine rN (sR ?_)
 refine Za rfl (Ql u8 [] Qu m2 Zi X6 rfl (by simp [Jo]) rfl) ?_
 rintro _ w3 ⟨b13, rfl, e3, m3⟩
 refine Qa rfl (Qc (v := (Ko b13 0 0 0)) rfl) ?_
 refine rN (Qg (sR ?_))
 refine Qa rfl (Qc (v := (i64 0)) rfl) ?_
 refine rN (Qo ?_)
 refine Yo (fun g wv => ∃ (m : Nat) (ol : List (BitVec 8)) (so : Value) (Ho : List (Nat × Obj)), (64 * m ≤ l.length + 63) ∧ (ol = (List.range (min (64 * m) l.length)).map (Dp Wq key counter nonce l)) ∧ (Zv u8 5 so ol Ho) ∧ g 0 = (agg u8 key) ∧ g 1 = (u32 counter) ∧ g 2 = (agg u8 nonce) ∧ g 3 = v ∧ g 4 = (ptr b4 0) ∧ g 6 = (ptr b6 0) ∧ g 8 = (Value.slice none 0 0) ∧ g 9 = so ∧ g 10 = (i64 ((64 * m : Nat) : Int)) ∧ Mem wv (Qy w0) (Ho ++ ([(b6, .cells (cl u8 nonce) 77 (0, 0)), (b4, .cells (cl u8 key) 23 (0, 0))]))) (fun g wv => ((l.length : Int) - RowKit.intOf (g 10)).toNat) ?_ ?_
 ·exact ⟨0, [], (Ko b13 0 0 0), [(b13, .cells (cl u8 ([])) 5 (0, 0))], oM, (by simp), (Zv.of u8 5 b13 ([])), rfl, rfl, rfl, rfl, rfl, rfl, rfl, rfl, rfl, m3⟩
 rintro fr4 w5 ⟨m, ol, so, Ho, m1, hol, gro, s0, s1, s2, s3, s4, s6, s8, s9, s10, m5⟩
 have z10 := s10
 have z9 := s9
 refine Qg (sR ?_)
 refine rM rfl s10 <| rM rfl s3 <| Qa rfl (Ye (Rd.ofRest hr m5) Zi rfl) <| Qa rfl (Qs rfl rfl) <| rN ?_
 refine Xv rfl (fun hc6 => ?_) (fun hc6 => ?_)
 ·
  have hc6p := of_decide_eq_true hc6
  refine Q7 (Qh (Qg (Qo (sR ?_))))
  refine Qa rfl (Qw X3 rfl Z9 s4 ((Mem.pick2 Ho [_] [_] _ m5)).h0 sZ) <| rM rfl s1 <| rM rfl s10 <| Qa rfl (Wy (b := 64) rfl rfl oM oM oM) <| Qa rfl (Qe6 ⟨_, Fj⟩ Xk rfl) <| Qa rfl (Xp rfl rfl) <| Qa rfl (Qw Qah rfl Qey s6 ((Mem.pick Ho [_] _ m5)).h0 sZ) <| Za rfl (oc94 (Vx rfl rfl rfl) (c_block3 _ (counter + (BitVec.ofInt 32 (((64 * m : Nat) : Int) / 64))) _ _ sD sD)) ?_
  rintro rq8 w7 ⟨Hsq8, grq8, k_w7⟩
  have m7 : Mem _ _ (Hsq8 ++ (Ho ++ ([_, _]))) := Mem.new (H := Ho ++ ([_, _])) (H' := Hsq8) m5 k_w7
  refine rA rfl (v := rq8) rfl ?_
  refine rN (sR ?_)
  refine rM rfl s10 <| Qa rfl (Qc (v := (i64 ((64 * m : Nat) : Int))) rfl) ?_
  refine rN (Vq ?_)
  refine Yo (fun g wv => ∃ (i : Nat) (ol2 : List (BitVec 8)) (so2 : Value) (Ho2 : List (Nat × Obj)), (64 * m ≤ i ∧ i ≤ 64 * m + 64 ∧ i ≤ l.length) ∧ (ol2 = (List.range i).map (Dp Wq key counter nonce l)) ∧ (Zv u8 5 so2 ol2 Ho2) ∧ g 0 = (agg u8 key) ∧ g 1 = (u32 counter) ∧ g 2 = (agg u8 nonce) ∧ g 3 = v ∧ g 4 = (ptr b4 0) ∧ g 6 = (ptr b6 0) ∧ g 8 = (Value.slice none 0 0) ∧ g 9 = so2 ∧ g 10 = (i64 ((64 * m : Nat) : Int)) ∧ g 11 = rq8 ∧ g 12 = (i64 (i : Int)) ∧ g 17 = (bl (decide (((64 * m : Nat) : Int) < (l.length : Int)))) ∧ Mem wv (Qy w0) (Ho2 ++ (Hsq8 ++ ([(b6, .cells (cl u8 nonce) 77 (0, 0)), (b4, .cells (cl u8 key) 23 (0, 0))])))) (fun g wv => ((l.length : Int) - RowKit.intOf (g 12)).toNat) ?_ ?_
  have m9 := (Mem.pick3 Hsq8 Ho [_] [_] _ m7)
  have m10 := (Mem.pick3 [_] Hsq8 Ho [_] _ m9)
  have m11 := (Mem.pick [_, _] Hsq8 _ m10)
  have m12 := (Mem.pick2 Hsq8 [_, _] Ho _ m11)
  ·exact ⟨64 * m, ol, so, Ho, oM, (by rw [hol, Nat.min_eq_left oM]), gro, s0, s1, s2, s3, s4, s6, s8, s9, s10, rfl, rfl, rfl, m12⟩
  rintro fr13 w14 ⟨i, ol2, so2, Ho2, hi1, hol2, gro2, s0, s1, s2, s3, s4, s6, s8, s9, s10, s11, s12, s17, m14⟩
  have z12 := s12
  have z9 := s9
  have hol2l : ol2.length = i := by rw [hol2]; simp
  refine Qg (sR ?_)
  refine rM rfl s12 <| rM rfl s10 <| Qa rfl (Qk (b := 64) rfl rfl oM oM) <| Qa rfl (Qs rfl rfl) <| Qa rfl (Qb (v := (bl (decide ((i : Int) < (((64 * m : Nat) : Int) + 64))))) rfl) ?_
  rcases Bool.eq_false_or_eq_true (decide ((i : Int) < (((64 * m : Nat) : Int) + 64))) with hb15 | hb15
  ·
   have hb15p := of_decide_eq_true hb15
   refine Zt (s := 33) rfl rfl hb15 rfl (Qb s12) <| Zt (s := 33) rfl rfl hb15 rfl (Qb s3) <| Zt (s := 33) rfl rfl hb15 rfl (Ye (Rd.ofRest hr m14) Zi rfl) <| Zt (s := 33) rfl rfl hb15 rfl (Qs rfl rfl) <| Qa rfl (Jd rfl hb15 rfl) <| rN ?_
   refine Xv rfl (fun hc16 => ?_) (fun hc16 => ?_)
   ·
    have hc16p := of_decide_eq_true hc16
    refine Q7 (Qh (Qg (Qo ?_)))
    refine Xq [(0, false), (1, false), (2, false), (3, false), (4, false), (5, false), (6, false), (7, false), (8, false), (9, false), (10, false), (11, false), (12, true)] 13 (by kernel_rfl) <| dM rfl rfl s9 <| dM rfl rfl s3 <| dM rfl rfl s12 <| Qj rfl rfl (fun _ _hx => Xa (Rd.ofRest hr (m14.ext _hx)) Zi X6 rfl rfl oM sD) <| Qj (v := (u8 (l.getD i 0))) rfl rfl (fun _ _hx => Yc (l := l) (i := (i : Int)) (dflt := 0) (Rd.ofRest hr (m14.ext _hx)) Vm rfl oM sD rfl) <| dM rfl rfl s11 <| dM rfl rfl s12 <| dM rfl rfl s10 <| Qj rfl rfl (fun _ _hx => Zp rfl rfl oM oM) <| Qj rfl rfl (fun _ _hx => Xa (grq8.rd (Mem.pick Ho2 Hsq8 _ (m14.ext _hx))) Zi X6 rfl rfl oM sD) <| Qj (v := (u8 ((Wq key (counter + (BitVec.ofInt 32 (((64 * m : Nat) : Int) / 64))) nonce).getD (((i : Int) - ((64 * m : Nat) : Int) : Int).toNat) 0))) rfl rfl (fun _ _hx => Yc (l := Wq key (counter + (BitVec.ofInt 32 (((64 * m : Nat) : Int) / 64))) nonce) (i := (i : Int) - ((64 * m : Nat) : Int)) (dflt := 0) (grq8.rd (Mem.pick Ho2 Hsq8 _ (m14.ext _hx))) Vm rfl oM sD rfl) ?_
    refine Qj rfl rfl (fun _ _hx => L6 rfl rfl) ?_
    refine Bf rfl rfl (fun w17 e17 => ?_)
    have m17 := m14.ext e17
    refine Yz.mono (Ql u8 [(l.getD i 0) ^^^ ((Wq key (counter + (BitVec.ofInt 32 (((64 * m : Nat) : Int) / 64))) nonce).getD (((i : Int) - ((64 * m : Nat) : Int) : Int).toNat) 0)] Qu m17 Zi X6 rfl rfl rfl) ?_
    rintro _ w18 ⟨b53, rfl, e18, m18⟩
    refine ⟨e18, ?_⟩
    refine Xd (fun w19 e19 => ?_)
    have m19 := m18.ext e19
    refine Za rfl (Zk (f := u8) (Hs := Ho2) (H := [_] ++ (Hsq8 ++ ([_, _]))) (Mem.pick [_] Ho2 _ m19) gro2 rfl rfl (Rd.mkA m19.h0) Zi Zi X6 rfl Qu sD sD) ?_
    rintro sv20 w20 ⟨Hs20, m20, g20⟩
    replace g20 : Zv u8 5 sv20 (ol2 ++ ([(l.getD i 0) ^^^ ((Wq key (counter + (BitVec.ofInt 32 (((64 * m : Nat) : Int) / 64))) nonce).getD (((i : Int) - ((64 * m : Nat) : Int) : Int).toNat) 0)])) Hs20 := g20
    refine rA rfl (v := sv20) rfl ?_
    refine Zr (Qi ?_)
    have m21 := Mem.drop [_] _ (Mem.pick Hs20 [_] _ m20)
    refine Qe <| rM rfl s12 <| Qa rfl (Qk (b := 1) rfl rfl oM oM) <| Qa rfl (Qc (v := (i64 ((i : Int) + 1))) rfl) <| rN ?_
    exact ⟨⟨i + 1, ol2 ++ ([(l.getD i 0) ^^^ ((Wq key (counter + (BitVec.ofInt 32 (((64 * m : Nat) : Int) / 64))) nonce).getD (((i : Int) - ((64 * m : Nat) : Int) : Int).toNat) 0)]), sv20, Hs20, oM, (by rw [hol2]; exact Qcd _ _ _ (turnR_at oM oM)), g20, s0, s1, s2, s3, s4, s6, s8, rfl, s10, s11, rfl, s17, m21⟩, Gl rfl z12 oM oM⟩
   ·
    have hc16p := of_decide_eq_false hc16
    refine X0 ?_
    refine Qr (Qr (Xf ?_))
    refine Qi (Qe ?_)
    refine rM rfl s10 <| Qa rfl (Qk (b := 64) rfl rfl oM oM) <| Qa rfl (Qc (v := (i64 (((64 * m : Nat) : Int) + 64))) rfl) <| rN ?_
    have hmin : i = min (64 * (m + 1)) l.length := by omega
    have hol3 := hol2
    rw [hmin] at hol3
    have m22 := Mem.drop Hsq8 _ (Mem.pick Ho2 Hsq8 _ m14)
    exact ⟨⟨m + 1, ol2, so2, Ho2, oM, hol3, gro2, s0, s1, s2, s3, s4, s6, s8, s9, (by show i64 _ = i64 _; congr 1), m22⟩, Gl (by show i64 _ = i64 _; congr 1) z10 (a' := ((64 * (m + 1) : Nat) : Int)) oM oM⟩
  ·
   have hb15p := of_decide_eq_false hb15
   refine Yd (s := 33) rfl rfl hb15 rfl <| Yd (s := 33) rfl rfl hb15 rfl <| Yd (s := 33) rfl rfl hb15 rfl <| Yd (s := 33) rfl rfl hb15 rfl <| Qa rfl (Yn rfl hb15 rfl) <| rN <| Yp rfl (by decide) <| X0 ?_
   refine Qr (Qr (Xf ?_))
   refine Qi (Qe ?_)
   refine rM rfl s10 <| Qa rfl (Qk (b := 64) rfl rfl oM oM) <| Qa rfl (Qc (v := (i64 (((64 * m : Nat) : Int) + 64))) rfl) <| rN ?_
   have hmin : i = min (64 * (m + 1)) l.length := by omega
   have hol3 := hol2
   rw [hmin] at hol3
   have m23 := Mem.drop Hsq8 _ (Mem.pick Ho2 Hsq8 _ m14)
   exact ⟨⟨m + 1, ol2, so2, Ho2, oM, hol3, gro2, s0, s1, s2, s3, s4, s6, s8, s9, (by show i64 _ = i64 _; congr 1), m23⟩, Gl (by show i64 _ = i64 _; congr 1) z10 (a' := ((64 * (m + 1) : Nat) : Int)) oM oM⟩
 ·
  have hc6p := of_decide_eq_false hc6
  refine X0 ?_
  refine Qr (Qr (Xf ?_))
  refine sR <| rM rfl s9 <| rA rfl (v := so) rfl ?_
  refine rN (Xt ?_)
  refine Ze [so] ⟨rfl, trivial⟩ ?_
  have hfin : ol = Jb Wq key counter nonce l := by rw [hol, Qne, Nat.min_eq_right oM]
  have m24 := Mem.drop [_] _ (Mem.pick Ho [_] _ m5)
  have m25 := Mem.drop [_] _ (Mem.pick Ho [_] _ m24)
  exact ⟨Ho, hfin ▸ gro, by simpa using m25⟩
end Go.Proofs.YtkmiemlpfkfiiaaDoor
