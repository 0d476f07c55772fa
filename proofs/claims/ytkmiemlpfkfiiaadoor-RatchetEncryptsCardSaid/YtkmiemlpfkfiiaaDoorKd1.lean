/- Contracts: kdf, first part. Conditions: none beyond those that each theorem states. -/
import Derived.Test.YtkmiemlpfkfiiaaDoorFwP
import Derived.Test.YtkmiemlpfkfiiaaDoorHa7
namespace Go.Proofs.YtkmiemlpfkfiiaaDoor
set_option linter.unusedVariables false
set_option linter.unusedSimpArgs false
def tK (key info : List (BitVec 8)) : Nat → List (BitVec 8)
 | 0 => []
 | i + 1 => X7 key (tK key info i ++ info ++ [BitVec.ofNat 8 (i + 1)])
theorem Qmn (key info : List (BitVec 8)) : tK key info 0 = [] := rfl
theorem Qfa (key info : List (BitVec 8)) (i : Nat) : tK key info (i + 1) = X7 key (tK key info i ++ info ++ [BitVec.ofNat 8 (i + 1)]) := rfl
theorem tK_le (key info : List (BitVec 8)) (i : Nat) : (tK key info i).length ≤ 32 := by
 cases i with
 | zero => simp [tK]
 | succ i => rw [Qfa, Wu]; omega
theorem tK_len (key info : List (BitVec 8)) (i : Nat) : (tK key info (i + 1)).length = 32 := by rw [Qfa, Wu]
def Qce (key info : List (BitVec 8)) : Nat → List (BitVec 8)
 | 0 => []
 | i + 1 => Qce key info i ++ tK key info (i + 1)
theorem Qho (key info : List (BitVec 8)) : Qce key info 0 = [] := rfl
theorem Qd0 (key info : List (BitVec 8)) (i : Nat) : Qce key info (i + 1) = Qce key info i ++ tK key info (i + 1) := rfl
theorem Qf2 (key info : List (BitVec 8)) (i : Nat) : (Qce key info i).length = 32 * i := by
 induction i with
 | zero => rfl
 | succ i ih => rw [Qd0, List.length_append, ih, tK_len]; omega
def J4 (key info : List (BitVec 8)) (n : Nat) : List (BitVec 8) := (Qce key info ((n + 31) / 32)).take n
@[simp] theorem U4 (key info : List (BitVec 8)) (n : Nat) : (J4 key info n).length = n := by unfold J4; rw [List.length_take, Qf2]; omega
def Qe8 (n : Int) : Bool := decide (n < 0) || decide (8160 < n)
def Qby (n : Int) : Int := if Qe8 n then 2 else 0
def Aw (key info : List (BitVec 8)) (n : Int) : List (BitVec 8) := if Qe8 n then [] else J4 key info n.toNat
theorem Qeo (a b c : Value) (x y z : List (BitVec 8)) : V3 [(a, x), (b, y), (c, z)] = x ++ y ++ z := by simp [V3]
theorem Qos (k : Nat) : BitVec.ofNat 8 (k + 1) + 1#8 = BitVec.ofNat 8 (k + 1 + 1) := by simp [BitVec.ofNat_add]
theorem byte_int (k : Nat) : BitVec.ofInt 8 (((k + 1 : Nat)) : Int) = BitVec.ofNat 8 (k + 1) := BitVec.ofInt_natCast 8 (k + 1)
def Qjp (salt : List (BitVec 8)) : List (BitVec 8) := if salt.length = 0 then List.replicate 32 0 else salt
def Jm (salt secret : List (BitVec 8)) : List (BitVec 8) := X7 (Qjp salt) secret
@[simp] theorem Qox (salt secret : List (BitVec 8)) : (Jm salt secret).length = 32 := Wu _ _
attribute [local irreducible] X7 tK Qce
set_option maxHeartbeats 1000000 in
theorem c_expand (key : List (BitVec 8)) (vi : Value) (info : List (BitVec 8)) (n : Int) (w0 : World)  (hT : Tabs (Yq w0)) (hk : key.length = 32) (hri : Rd (Yq w0) u8 vi info) (hli : info.length ≤ 1048576) : Xz Tryd.prog 95 #[(agg u8 key), vi, (i64 n)] w0 (fun r w1 => ∃ v Hs, r = Value.tuple #[v, i64 (Qby n)] ∧ Zv u8 5 v (Aw key info n) Hs ∧ Mem w1 (Qy w0) Hs) := by
 refine Zd (args := [(agg u8 key), vi, (i64 n)]) Tryd.func95 rfl Tryd.ntmps95 Tryd.results95 rfl ?_
 have m0 : Mem w0 (Qy w0) [] := Mem.of_world w0
 refine sR <| Za rfl (Z8 (f := u8) (l := key) m0 rfl) ?_
 rintro _ w1 ⟨b3, rfl, e1, m1⟩
 refine Qa rfl (Qc (v := (Value.slice none 0 0)) rfl) <| Qa rfl (Qc (v := (i64 0)) rfl) ?_
 refine rN (Qg (sR ?_))
 refine Qa rfl (Qb (v := (i64 n)) rfl) <| Qa rfl (Qs (b := 0) rfl rfl) <| Qa rfl (Qb (v := (bl (decide (n < 0)))) rfl) ?_
 rcases Bool.eq_false_or_eq_true (decide (n < 0)) with hb2 | hb2
 ·
  have hb2p := of_decide_eq_true hb2
  refine Yd (s := 14) rfl rfl hb2 rfl <| Yd (s := 14) rfl rfl hb2 rfl <| Qa rfl (Jd rfl hb2 rfl) <| rN <| Zc rfl (by decide) <| sR <| Qa rfl (Qc (v := (Value.slice none 0 0)) rfl) <| Qa rfl (Qc (v := (i64 2)) rfl) ?_
  refine rN (Xt (Vg ?_))
  refine Ze [(Value.slice none 0 0), (i64 2)] ⟨rfl, rfl, trivial⟩ ?_
  have hbad : Qe8 n = true := by simp [Qe8]; omega
  have m3 := Mem.drop [_] _ m1
  exact ⟨Value.slice none 0 0, [], by unfold Qby; rw [if_pos hbad]; rfl, by unfold Aw; rw [if_pos hbad]; exact Zv.none _ _, m3⟩
 ·
  have hb2p := of_decide_eq_false hb2
  refine Zt (s := 14) rfl rfl hb2 rfl (Qb (v := (i64 n)) rfl) <| Zt (s := 14) rfl rfl hb2 rfl (W9 (b := 8160) rfl rfl) <| Qa rfl (Yn rfl hb2 rfl) <| rN ?_
  refine Xv rfl (fun hc4 => ?_) (fun hc4 => ?_)
  ·
   have hc4p := of_decide_eq_true hc4
   refine sR <| Qa rfl (Qc (v := (Value.slice none 0 0)) rfl) <| Qa rfl (Qc (v := (i64 2)) rfl) ?_
   refine rN (Xt (Vg ?_))
   refine Ze [(Value.slice none 0 0), (i64 2)] ⟨rfl, rfl, trivial⟩ ?_
   have hbad : Qe8 n = true := by simp [Qe8]; omega
   have m5 := Mem.drop [_] _ m1
   exact ⟨Value.slice none 0 0, [], by unfold Qby; rw [if_pos hbad]; rfl, by unfold Aw; rw [if_pos hbad]; exact Zv.none _ _, m5⟩
  ·
   have hc4p := of_decide_eq_false hc4
   refine Q7 (Qh (sR ?_))
   refine Qa rfl (Qb (v := (i64 n)) rfl) <| Qa rfl (Qk (b := 32) rfl rfl oM oM) <| Za rfl (Ey m1 Zi X6 rfl rfl oM oM oM oM) ?_
   rintro _ w6 ⟨b20, rfl, e6, m6⟩
   rw [Ls u8 0 rfl] at m6
   obtain ⟨Hs6, m6, g6⟩ : ∃ Hs, Mem w6 (Qy w0) (Hs ++ [(b3, .cells (cl u8 key) 23 (0, 0))]) ∧ Zv u8 5 (Ko b20 0 0 ((n + 32 : Int).toNat)) [] Hs := ⟨_, m6, Zv.made0 u8 5 b20 (0 : BitVec 8) ((n + 32 : Int).toNat)⟩
   refine Qa rfl (Qc (v := (Ko b20 0 0 ((n + 32 : Int).toNat))) rfl) ?_
   refine rN (sR ?_)
   refine Qa rfl (Qc (v := (Value.slice none 0 0)) rfl) ?_
   refine rN (Qg (sR ?_))
   refine Qa rfl (Qc (v := (u8 1#8)) rfl) ?_
   refine rN (Qo ?_)
   refine Yo (fun g wv => ∃ (k : Nat) (ol : List (BitVec 8)) (so : Value) (Ho : List (Nat × Obj)) (vl : Value) (Hl : List (Nat × Obj)), (k = 0 ∨ 32 * ((k : Int) - 1) < n) ∧ (ol = Qce key info k) ∧ (Zv u8 5 so ol Ho) ∧ (Zv u8 23 vl (tK key info k) Hl) ∧ g 0 = (agg u8 key) ∧ g 1 = vi ∧ g 2 = (i64 n) ∧ g 3 = (ptr b3 0) ∧ g 6 = (Value.slice none 0 0) ∧ g 7 = (i64 0) ∧ g 8 = so ∧ g 9 = vl ∧ g 10 = (u8 (BitVec.ofNat 8 (k + 1))) ∧ g 17 = (bl (decide (8160 < n))) ∧ Mem wv (Qy w0) (Ho ++ (Hl ++ ([(b3, .cells (cl u8 key) 23 (0, 0))])))) (fun g wv => n.toNat + 1 - sllen (g 8)) ?_ ?_
   ·exact ⟨0, [], (Ko b20 0 0 ((n + 32 : Int).toNat)), Hs6, (Value.slice none 0 0), [], (.inl rfl), (Qho _ _).symm, g6, ((Qmn key info).symm ▸ Zv.none u8 23), rfl, rfl, rfl, rfl, rfl, rfl, rfl, rfl, rfl, rfl, m6⟩
   rintro fr7 w8 ⟨k, ol, so, Ho, vl, Hl, hk0, hol, goo, gvl, s0, s1, s2, s3, s6, s7, s8, s9, s10, s17, m8⟩
   have z8 := s8
   have z9 := s9
   have z10 := s10
   have holn : ol.length = 32 * k := by rw [hol, Qf2]
   have htl := tK_le key info k
   refine Qg (sR ?_)
   refine rM rfl s8 <| Qa rfl (Ye (goo.rd m8) Zi rfl) <| rM rfl s2 <| Qa rfl (Qs rfl rfl) <| rN ?_
   refine Xv rfl (fun hc9 => ?_) (fun hc9 => ?_)
   ·
    have hc9p := of_decide_eq_true hc9
    refine Q7 (Qh (Qg (Qo (sR ?_))))
    refine Qa rfl (Xj (i := 0) (j := 32) X3 X6 s3 (Zy _ _) (Zy _ _) oM sD sD) <| rM rfl s9 <| rM rfl s1 <| rM rfl s10 <| Za rfl (Ql u8 [BitVec.ofNat 8 (k + 1)] Qu m8 Zi X6 rfl rfl rfl) ?_
    rintro _ w10 ⟨b31, rfl, e10, m10⟩
    refine Za rfl (Wl [vl, vi, (Ko b31 0 1 1)] (List.all_eq_true.1 (Yr gvl.one (Yr (Rd.one (Rd.ofRest hri m10)) (Yr rfl Fg)))) m10 uT65 Td rfl rfl rfl) ?_
    rintro _ w11 ⟨b32, rfl, e11, m11⟩
    have m11 : Mem w11 (Qy w0) ([(b32, .cells #[vl, vi, (Ko b31 0 1 1)] 27 (0, 0)), (b31, .cells (cl u8 ([BitVec.ofNat 8 (k + 1)])) 5 (0, 0))] ++ (Ho ++ (Hl ++ ([(b3, .cells (cl u8 key) 23 (0, 0))])))) := m11
    refine Za rfl (oc59 (Xr rfl rfl) (Qcn (sla b3 0 1 0 32 32) key (Ko b32 0 3 3) ([(vl, tK key info k), (vi, info), ((Ko b31 0 1 1), [BitVec.ofNat 8 (k + 1)])]) _ (hT.mono fun b o e => (m11).rest b o e) (Rd.slaAll ((Mem.pick3 [_, _] Ho Hl [_] _ m11)).h0 sD) sD (Rd.mkA (f := Prod.fst) (l := [(vl, tK key info k), (vi, info), ((Ko b31 0 1 1), [BitVec.ofNat 8 (k + 1)])]) m11.h0) (E8 (gvl.rd (Mem.pick2 [_, _] Ho Hl _ m11)) (E8 (Rd.ofRest hri m11) (E8 (Rd.mkA m11.h1) N9))) (by rw [Qeo]; simp only [List.length_append, List.length_cons, List.length_nil]; omega) sD)) ?_
    rintro _ w12 ⟨rfl, e12⟩
    have m12 := m11.ext e12
    refine Za rfl (Zg m12 Z9) ?_
    rintro _ w14 ⟨b11, rfl, e14, m14⟩
    refine Zw (Qm (f := u8) (l := X7 key (V3 ([(vl, tK key info k), (vi, info), ((Ko b31 0 1 1), [BitVec.ofNat 8 (k + 1)])]))) Qu Z9 rfl rfl sD m14.h0 sZ rfl) ?_
    rintro _ w15 uq15
    have m15 := m14.upd0 uq15
    refine rN (sR ?_)
    refine Qa rfl (Xj (i := 0) (j := 32) X3 X6 rfl (Zy _ _) (Zy _ _) oM sD sD) <| Qa rfl (Qc (v := (sla b11 0 1 0 32 32)) rfl) ?_
    refine rN (Qe ?_)
    refine rM rfl s8 <| Qa rfl (Qb (v := (sla b11 0 1 0 32 32)) rfl) <| Za rfl (Zk (f := u8) (Hs := Ho) (H := [_, _, _] ++ (Hl ++ ([_]))) (Mem.pick [_, _, _] Ho _ m15) goo rfl rfl (Rd.slaAll m15.h0 sD) Zi Zi X6 rfl Qu sD sD) ?_
    rintro sv16 w16 ⟨Hs16, m16, g16⟩
    replace g16 : Zv u8 5 sv16 (ol ++ (X7 key (V3 ([(vl, tK key info k), (vi, info), ((Ko b31 0 1 1), [BitVec.ofNat 8 (k + 1)])])))) Hs16 := g16
    refine rA rfl (v := sv16) rfl ?_
    refine Zr (Qi ?_)
    have m17 := Mem.drop [_] _ (Mem.pick2 Hs16 [_] [_] _ m16)
    have m18 := Mem.drop [_] _ (Mem.pick2 Hs16 [_] [_] _ m17)
    have m19 := Mem.drop Hl _ (Mem.pick2 Hs16 [_] Hl _ m18)
    refine Qe <| rM rfl s10 <| Qa rfl (Qh1 (b := 1#8) rfl rfl) <| Qa rfl (Qc (v := (u8 ((BitVec.ofNat 8 (k + 1)) + 1#8))) rfl) <| rN ?_
    have htn : X7 key (V3 ([(vl, tK key info k), (vi, info), ((Ko b31 0 1 1), [BitVec.ofNat 8 (k + 1)])])) = tK key info (k + 1) := by rw [Qfa, Qeo]
    exact ⟨⟨k + 1, ol ++ (X7 key (V3 ([(vl, tK key info k), (vi, info), ((Ko b31 0 1 1), [BitVec.ofNat 8 (k + 1)])]))), sv16, Hs16, (sla b11 0 1 0 32 32), [(b11, .cells (cl u8 (X7 key (V3 ([(vl, tK key info k), (vi, info), ((Ko b31 0 1 1), [BitVec.ofNat 8 (k + 1)])])))) 23 (0, 0))], (.inr oM), (by rw [Qd0, ← htn, hol]), g16, (htn ▸ (by have e : sla b11 0 1 0 32 32 = Ko b11 0 32 32 := Qjj (by decide); rw [e]; exact Zv.ofE u8 23 b11 _ (by rw [Wu]))), s0, s1, s2, s3, s6, s7, rfl, rfl, (congrArg u8 (Qos k)), s17, m19⟩, (by show n.toNat + 1 - sllen sv16 < n.toNat + 1 - sllen _; rw [z8, goo.sllen, Zv.sllen g16]; simp only [List.length_append, Wu]; omega)⟩
   ·
    have hc9p := of_decide_eq_false hc9
    refine X0 ?_
    refine Qr (Qr (Xf ?_))
    refine Qg ?_
    have hbad : Qe8 n = false := by simp [Qe8]; omega
    have hkn : k = (n.toNat + 31) / 32 := by omega
    refine Qe <| rM rfl s8 <| rM rfl s2 <| rM rfl s2 <| Qa rfl (Qi2 (j := n) (goo.rd m8) Zi X6 rfl rfl rfl oM sD) <| Qa rfl (Qc (v := (Qee so 0 n n)) rfl) <| Qa rfl (Qc (v := (i64 0)) rfl) ?_
    refine rN (Xt ?_)
    refine Ze [(Qee so 0 n n), (i64 0)] ⟨rfl, rfl, trivial⟩ ?_
    have m20 := Mem.drop Hl _ (Mem.pick Ho Hl _ m8)
    have m21 := Mem.drop [_] _ (Mem.pick Ho [_] _ m20)
    exact ⟨_, Ho, by unfold Qby; rw [if_neg (by rw [hbad]; decide)]; rfl, by unfold Aw J4; rw [if_neg (by rw [hbad]; decide), ← hkn, ← hol]; exact (Zv.cut (j := n) goo oM sD), by simpa using m21⟩
theorem Qoq (va : Value) (la : List (BitVec 8)) (vb : Value) (lb : List (BitVec 8)) (w0 : World)  (hT : Tabs (Yq w0)) (hra : Rd (Yq w0) u8 va la) (hla : la.length ≤ 1048576) (hrb : Rd (Yq w0) u8 vb lb) (hlb : lb.length ≤ 1048576) : Xz Tryd.prog 96 #[va, vb] w0 (fun r w1 => r = (agg u8 (Jm la lb)) ∧ Ext w0 w1) := by
 refine Zd (args := [va, vb]) Tryd.func96 rfl Tryd.ntmps96 Tryd.results96 rfl ?_
 have m0 : Mem w0 (Qy w0) [] := Mem.of_world w0
 refine sR <| Za rfl (Zg m0 Z9) ?_
 rintro _ w1 ⟨b4, rfl, e1, m1⟩
 refine rN (Qg (sR ?_))
 refine rM rfl (v := va) rfl <| Qa rfl (Ye (Rd.ofRest hra m1) Zi rfl) <| Qa rfl (Vp (b := 0) rfl rfl) <| rN ?_
 refine Xv rfl (fun hc2 => ?_) (fun hc2 => ?_)
 ·
  have hc2p := eq_of_beq hc2
  refine Qe <| Za rfl (Ey m1 Zi X6 rfl rfl oM oM oM oM) ?_
  rintro _ w3 ⟨b8, rfl, e3, m3⟩
  rw [Ls u8 0 rfl] at m3
  have m3 : Mem w3 (Qy w0) [(b8, .cells (cl u8 (List.replicate 32 (0 : BitVec 8))) 5 (0, 0)), (b4, .cells (cl u8 (List.replicate 32 0)) 23 (0, 0))] := m3
  refine Qa rfl (Qc (v := (Ko b8 0 32 32)) rfl) ?_
  refine rN (sR ?_)
  refine Qa rfl (Qb (v := (Ko b8 0 32 32)) rfl) <| rM rfl (v := vb) rfl <| Za rfl (Wl [vb] (List.all_eq_true.1 (Yr (Rd.one (Rd.ofRest hrb m3)) Fg)) m3 uT65 Td rfl rfl rfl) ?_
  rintro _ w4 ⟨b11, rfl, e4, m4⟩
  have m4 : Mem w4 (Qy w0) [(b11, .cells #[vb] 27 (0, 0)), (b8, .cells (cl u8 (List.replicate 32 (0 : BitVec 8))) 5 (0, 0)), (b4, .cells (cl u8 (List.replicate 32 0)) 23 (0, 0))] := m4
  refine Za rfl (oc59 (Xr rfl rfl) (Qcn (Ko b8 0 32 32) (List.replicate 32 (0 : BitVec 8)) (Ko b11 0 1 1) ([(vb, lb)]) _ (hT.mono fun b o e => (m4).rest b o e) (Rd.mkE m4.h1 sD) sD (Rd.mkA (f := Prod.fst) (l := [(vb, lb)]) m4.h0) (E8 (Rd.ofRest hrb m4) N9) (by rw [Lu]; omega) sD)) ?_
  rintro _ w5 ⟨rfl, e5⟩
  have m5 := m4.ext e5
  refine Zw (Qm (f := u8) (l := X7 (List.replicate 32 (0 : BitVec 8)) (V3 ([(vb, lb)]))) Qu Z9 rfl rfl sD m5.h2 sZ rfl) ?_
  rintro _ w7 uq7
  have m7 := m5.upd2 uq7
  refine rN (Xt ?_)
  refine Ze [(agg u8 (X7 (List.replicate 32 (0 : BitVec 8)) (V3 ([(vb, lb)]))))] ⟨⟨_, rfl, Xo X3 rfl Z9 m7.h2 sZ⟩, trivial⟩ ?_
  exact ⟨congrArg (agg u8) (by unfold Jm Qjp; rw [Lu, if_pos oM]), m7.toExt⟩
 ·
  have hc2p := ne_of_beq_false hc2
  refine Q7 (Qh (sR ?_))
  refine rM rfl (v := va) rfl <| rM rfl (v := vb) rfl <| Za rfl (Wl [vb] (List.all_eq_true.1 (Yr (Rd.one (Rd.ofRest hrb m1)) Fg)) m1 uT65 Td rfl rfl rfl) ?_
  rintro _ w8 ⟨b11_1, rfl, e8, m8⟩
  have m8 : Mem w8 (Qy w0) [(b11_1, .cells #[vb] 27 (0, 0)), (b4, .cells (cl u8 (List.replicate 32 0)) 23 (0, 0))] := m8
  refine Za rfl (oc59 (Xr rfl rfl) (Qcn va la (Ko b11_1 0 1 1) ([(vb, lb)]) _ (hT.mono fun b o e => (m8).rest b o e) (Rd.ofRest hra m8) sD (Rd.mkA (f := Prod.fst) (l := [(vb, lb)]) m8.h0) (E8 (Rd.ofRest hrb m8) N9) (by rw [Lu]; omega) sD)) ?_
  rintro _ w9 ⟨rfl, e9⟩
  have m9 := m8.ext e9
  refine Zw (Qm (f := u8) (l := X7 la (V3 ([(vb, lb)]))) Qu Z9 rfl rfl sD m9.h1 sZ rfl) ?_
  rintro _ w11 uq11
  have m11 := m9.upd1 uq11
  refine rN (Xt ?_)
  refine Ze [(agg u8 (X7 la (V3 ([(vb, lb)]))))] ⟨⟨_, rfl, Xo X3 rfl Z9 m11.h1 sZ⟩, trivial⟩ ?_
  exact ⟨congrArg (agg u8) (by unfold Jm Qjp; rw [Lu, if_neg oM]), m11.toExt⟩
theorem Qma (va : Value) (la : List (BitVec 8)) (vb : Value) (lb : List (BitVec 8)) (w0 : World)  (hra : Rd (Yq w0) u8 va la) (hla : la.length ≤ 1048576) (hrb : Rd (Yq w0) u8 vb lb) (hlb : lb.length ≤ 1048576) : Xz Tryd.prog 93 #[va, vb] w0 (fun r w1 => r = (agg u8 (Jm la lb)) ∧ Ext w0 w1) := by
 refine Zd (args := [va, vb]) Tryd.func93 rfl Tryd.ntmps93 Tryd.results93 rfl ?_
 have m0 : Mem w0 (Qy w0) [] := Mem.of_world w0
 refine sR <| Za rfl (Zg m0 Z9) ?_
 rintro _ w1 ⟨b4, rfl, e1, m1⟩
 refine rN (Qg (sR ?_))
 refine rM rfl (v := va) rfl <| Qa rfl (Ye (Rd.ofRest hra m1) Zi rfl) <| Qa rfl (Vp (b := 0) rfl rfl) <| rN ?_
 refine Xv rfl (fun hc2 => ?_) (fun hc2 => ?_)
 ·
  have hc2p := eq_of_beq hc2
  refine sR <| Za rfl (Ey m1 Zi X6 rfl rfl oM oM oM oM) ?_
  rintro _ w3 ⟨b8, rfl, e3, m3⟩
  rw [Ls u8 0 rfl] at m3
  have m3 : Mem w3 (Qy w0) [(b8, .cells (cl u8 (List.replicate 32 (0 : BitVec 8))) 5 (0, 0)), (b4, .cells (cl u8 (List.replicate 32 0)) 23 (0, 0))] := m3
  refine rM rfl (v := vb) rfl <| Za rfl (oc69 (Xr rfl rfl) (Lm (Ko b8 0 32 32) (List.replicate 32 (0 : BitVec 8)) vb lb _ (Rd.mkE m3.h0 sD) sD (Rd.ofRest hrb m3) sD)) ?_
  rintro _ w4 ⟨rfl, e4⟩
  have m4 := m3.ext e4
  refine Zw (Qm (f := u8) (l := X7 (List.replicate 32 (0 : BitVec 8)) lb) Qu Z9 rfl rfl sD m4.h1 sZ rfl) ?_
  rintro _ w6 uq6
  have m6 := m4.upd1 uq6
  refine rN (Xt (Vg ?_))
  refine Ze [(agg u8 (X7 (List.replicate 32 (0 : BitVec 8)) lb))] ⟨⟨_, rfl, Xo X3 rfl Z9 m6.h1 sZ⟩, trivial⟩ ?_
  exact ⟨congrArg (agg u8) (by unfold Jm Qjp; rw [if_pos oM]), m6.toExt⟩
 ·
  have hc2p := ne_of_beq_false hc2
  refine Q7 (Qh (sR ?_))
  refine rM rfl (v := va) rfl <| rM rfl (v := vb) rfl <| Za rfl (oc69 (Xr rfl rfl) (Lm va la vb lb _ (Rd.ofRest hra m1) sD (Rd.ofRest hrb m1) sD)) ?_
  rintro _ w7 ⟨rfl, e7⟩
  have m7 := m1.ext e7
  refine Zw (Qm (f := u8) (l := X7 la lb) Qu Z9 rfl rfl sD m7.h0 sZ rfl) ?_
  rintro _ w9 uq9
  have m9 := m7.upd0 uq9
  refine rN (Xt ?_)
  refine Ze [(agg u8 (X7 la lb))] ⟨⟨_, rfl, Xo X3 rfl Z9 m9.h0 sZ⟩, trivial⟩ ?_
  exact ⟨congrArg (agg u8) (by unfold Jm Qjp; rw [if_neg oM]), m9.toExt⟩
end Go.Proofs.YtkmiemlpfkfiiaaDoor
