/- Contracts: kdf, first part. Conditions: none beyond those that each theorem states. -/
import Derived.Test.YtkmiemlpfkfiiaaDoorHa5
import Derived.Test.YtkmiemlpfkfiiaaDoorFwP
namespace Go.Proofs.YtkmiemlpfkfiiaaDoor
open Tryd
section
set_option linter.unusedVariables false
set_option linter.unusedSimpArgs false
attribute [local irreducible] Uh hAt Qgy Fv Qc9 Vs rnd
end --m
section
set_option linter.unusedVariables false
set_option linter.unusedSimpArgs false
theorem H5 (v : Value) (l : Zj) : Ji [(v, l)] = l := by simp [Ji]
attribute [local irreducible] Uh Un Jc Zu
end --m
section
set_option linter.unusedVariables false
set_option linter.unusedSimpArgs false
def tK (key info : Zj) : Nat → Zj
 | 0 => []
 | i + 1 => Zu key (tK key info i ++ info ++ [BitVec.ofNat 8 (i + 1)])
theorem tK_zero (key info : Zj) : tK key info 0 = [] := rfl
theorem Qh4 (key info : Zj) (i : Nat) : tK key info (i + 1) = Zu key (tK key info i ++ info ++ [BitVec.ofNat 8 (i + 1)]) := rfl
theorem tK_le (key info : Zj) (i : Nat) : (tK key info i).length ≤ 32 := by
 cases i with
 | zero => simp [tK]
 | succ i => rw [Qh4, Jd]; omega
theorem tK_len (key info : Zj) (i : Nat) : (tK key info (i + 1)).length = 32 := by rw [Qh4, Jd]
def Qdc (key info : Zj) : Nat → Zj
 | 0 => []
 | i + 1 => Qdc key info i ++ tK key info (i + 1)
theorem Qnp (key info : Zj) : Qdc key info 0 = [] := rfl
theorem Qg6 (key info : Zj) (i : Nat) : Qdc key info (i + 1) = Qdc key info i ++ tK key info (i + 1) := rfl
theorem Qj0 (key info : Zj) (i : Nat) : (Qdc key info i).length = 32 * i := by
 induction i with
 | zero => rfl
 | succ i ih => rw [Qg6, List.length_append, ih, tK_len]; omega
def Jz (key info : Zj) (n : Nat) : Zj := (Qdc key info ((n + 31) / 32)).take n
@[simp] theorem U8 (key info : Zj) (n : Nat) : (Jz key info n).length = n := by unfold Jz; rw [List.length_take, Qj0]; omega
def Qen (n : Int) : Bool := decide (n < 0) || decide (8160 < n)
def Qa9 (n : Int) : Int := if Qen n then 2 else 0
def Bo (key info : Zj) (n : Int) : Zj := if Qen n then [] else Jz key info n.toNat
theorem Qd2 (a b c : Value) (x y z : Zj) : Ji [(a, x), (b, y), (c, z)] = x ++ y ++ z := by simp [Ji]
theorem Qoh (k : Nat) : BitVec.ofNat 8 (k + 1) + 1#8 = BitVec.ofNat 8 (k + 1 + 1) := by simp [BitVec.ofNat_add]
def saltP (salt : Zj) : Zj := if salt.length = 0 then List.replicate 32 0 else salt
def Ja (salt secret : Zj) : Zj := Zu (saltP salt) secret
@[simp] theorem Qok (salt secret : Zj) : (Ja salt secret).length = 32 := Jd _ _
attribute [local irreducible] Zu tK Qdc
set_option maxHeartbeats 1000000 in
theorem c_expand (key : Zj) (vi : Value) (info : Zj) (n : Int) (w0 : World)  (hT : Tabs (Yn w0)) (hk : key.length = 32) (hri : Rd (Yn w0) u8 vi info) (hli : info.length ≤ 1048576) : Xm prog 95 #[(agg u8 key), vi, (i64 n)] w0 (fun r w1 => ∃ v Hs, r = Value.tuple #[v, i64 (Qa9 n)] ∧ Xl u8 5 v (Bo key info n) Hs ∧ Mem w1 (Qu w0) Hs) := by
 refine Qy (args := [(agg u8 key), vi, (i64 n)]) func95 rfl ntmps95 results95 rfl ?_
 have m0 : Mem w0 (Qu w0) [] := Mem.of_world w0
 refine sR <| Y5 (Zw (f := u8) (l := key) m0 rfl) fun w1 b3 m1 => Zv Jp <| Zv (i64 0) ?_
 refine rN (Qc (sR ?_))
 refine Zb (i64 n) <| Qd (Xy (b := 0) rfl rfl) <| Zb (bl (decide (n < 0))) ?_
 rcases Bool.eq_false_or_eq_true (decide (n < 0)) with hb2 | hb2
 ·
  have hb2p := of_decide_eq_true hb2
  refine Na (s := 14) rfl rfl hb2 rfl <| Na (s := 14) rfl rfl hb2 rfl <| Qd (V7 rfl hb2 rfl) <| rN <| Qx rfl Yh <| sR <| Zv Jp <| Zv (i64 2) ?_
  refine rN (Zy (Y7 ?_))
  refine Qs [Jp, (i64 2)] ⟨rfl, rfl, trivial⟩ ?_
  have hbad : Qen n = true := by simp [Qen]; omega
  have m3 := Mem.drop [_] _ m1
  exact ⟨Value.slice none 0 0, [], by unfold Qa9; rw [if_pos hbad]; rfl, by unfold Bo; rw [if_pos hbad]; exact Xl.none _ _, m3⟩
 ·
  have hb2p := of_decide_eq_false hb2
  refine Zt (s := 14) rfl rfl hb2 rfl (Ye (v := (i64 n)) rfl) <| Zt (s := 14) rfl rfl hb2 rfl (Cm (b := 8160) rfl rfl) <| Qd (Js rfl hb2 rfl) <| rN ?_
  refine Xb rfl (fun hc4 => ?_) (fun hc4 => ?_)
  ·
   have hc4p := of_decide_eq_true hc4
   refine sR <| Zv Jp <| Zv (i64 2) ?_
   refine rN (Zy (Y7 ?_))
   refine Qs [Jp, (i64 2)] ⟨rfl, rfl, trivial⟩ ?_
   have hbad : Qen n = true := by simp [Qen]; omega
   have m5 := Mem.drop [_] _ m1
   exact ⟨Value.slice none 0 0, [], by unfold Qa9; rw [if_pos hbad]; rfl, by unfold Bo; rw [if_pos hbad]; exact Xl.none _ _, m5⟩
  ·
   have hc4p := of_decide_eq_false hc4
   refine Qo (Qa (sR ?_))
   refine Zb (i64 n) <| Qd (Z9 (b := 32) rfl rfl oM oM) <| Y5 (Dq m1 Zx Yw rfl rfl oM oM oM oM) fun w6 b20 m6 => ?_
   rw [Ph u8 0 rfl] at m6
   obtain ⟨Hs6, m6, g6⟩ : ∃ Hs, Mem w6 (Qu w0) (Hs ++ [(b3, .cells (cl u8 key) 23 (0, 0))]) ∧ Xl u8 5 (Kq b20 0 0 ((n + 32 : Int).toNat)) [] Hs := ⟨_, m6, Xl.made0 u8 5 b20 (0 : BitVec 8) ((n + 32 : Int).toNat)⟩
   refine Zv (Kq b20 0 0 ((n + 32 : Int).toNat)) ?_
   refine rN (sR ?_)
   refine Zv Jp ?_
   refine rN (Qc (sR ?_))
   refine Zv (u8 1#8) ?_
   refine rN (Qj ?_)
   refine Jq (fun g wv => ∃ (k : Nat) (ol : Zj) (so : Value) (Ho : List (Nat × Obj)) (vl : Value) (Hl : List (Nat × Obj)), (k = 0 ∨ 32 * ((k : Int) - 1) < n) ∧ (ol = Qdc key info k) ∧ (Xl u8 5 so ol Ho) ∧ (Xl u8 23 vl (tK key info k) Hl) ∧ g 0 = (agg u8 key) ∧ g 1 = vi ∧ g 2 = (i64 n) ∧ g 3 = (ptr b3 0) ∧ g 6 = Jp ∧ g 7 = (i64 0) ∧ g 8 = so ∧ g 9 = vl ∧ g 10 = (u8 (BitVec.ofNat 8 (k + 1))) ∧ g 17 = (bl (decide (8160 < n))) ∧ Mem wv (Qu w0) (Ho ++ (Hl ++ ([(b3, .cells (cl u8 key) 23 (0, 0))])))) (fun g wv => n.toNat + 1 - sllen (g 8)) ?_ ?_
   ·exact ⟨0, [], (Kq b20 0 0 ((n + 32 : Int).toNat)), Hs6, Jp, [], (.inl rfl), (Qnp _ _).symm, g6, ((tK_zero key info).symm ▸ Xl.none u8 23), rfl, rfl, rfl, rfl, rfl, rfl, rfl, rfl, rfl, rfl, m6⟩
   rintro fr7 w8 ⟨k, ol, so, Ho, vl, Hl, hk0, hol, goo, gvl, s0, s1, s2, s3, s6, s7, s8, s9, s10, s17, m8⟩
   have z8 := s8
   have z9 := s9
   have z10 := s10
   have holn : ol.length = 32 * k := by rw [hol, Qj0]
   have htl := tK_le key info k
   refine Qc (sR ?_)
   refine Yk s8 <| Qd (Yg (goo.rd m8) Zx rfl) <| Yk s2 <| Qd (Xy rfl rfl) <| rN ?_
   refine Xb rfl (fun hc9 => ?_) (fun hc9 => ?_)
   ·
    have hc9p := of_decide_eq_true hc9
    refine Qo (Qa (Qc (Qj (sR ?_))))
    refine Qd (Z7 (i := 0) (j := 32) Xf Yw s3 (Zc _ _) (Zc _ _) oM sD sD) <| Yk s9 <| Yk s1 <| Yk s10 <| Y5 (Zr u8 [BitVec.ofNat 8 (k + 1)] Q9 m8 Zx Yw rfl rfl rfl) fun w10 b31 m10 => Y5 (Y0 [vl, vi, (Kq b31 0 1 1)] (List.all_eq_true.1 (Zz gvl.one (Zz (Rd.one (Rd.ofRest hri m10)) (Zz rfl Jm)))) m10 Qeb Mc rfl rfl rfl) fun w11 b32 m11 => ?_
    have m11 : Mem w11 (Qu w0) ([(b32, .cells #[vl, vi, (Kq b31 0 1 1)] 27 (0, 0)), (b31, .cells (cl u8 ([BitVec.ofNat 8 (k + 1)])) 5 (0, 0))] ++ (Ho ++ (Hl ++ ([(b3, .cells (cl u8 key) 23 (0, 0))])))) := m11
    refine Dx m11 (oc59 (X3 rfl rfl) (N7 (sla b3 0 1 0 32 32) key (Kq b32 0 3 3) ([(vl, tK key info k), (vi, info), ((Kq b31 0 1 1), [BitVec.ofNat 8 (k + 1)])]) _ (hT.mono fun b o e => (m11).rest b o e) (Rd.slaAll ((Mem.pick3 [_, _] Ho Hl [_] _ m11)).h0 sD) sD (Rd.mkA (f := Prod.fst) (l := [(vl, tK key info k), (vi, info), ((Kq b31 0 1 1), [BitVec.ofNat 8 (k + 1)])]) m11.h0) (Gj (gvl.rd (Mem.pick2 [_, _] Ho Hl _ m11)) (Gj (Rd.ofRest hri m11) (Gj (Rd.mkA m11.h1) Ei))) (by rw [Qd2]; simp only [List.length_append, List.length_cons, List.length_nil]; omega) sD)) fun w12 m12 => Y5 (Zf m12 Zi) fun w14 b11 m14 => Yb m14 (Qq (f := u8) (l := Zu key (Ji ([(vl, tK key info k), (vi, info), ((Kq b31 0 1 1), [BitVec.ofNat 8 (k + 1)])]))) Q9 Zi rfl rfl sD m14.h0 sZ rfl) fun w15 m15 => ?_
    refine rN (sR ?_)
    refine Qd (Z7 (i := 0) (j := 32) Xf Yw rfl (Zc _ _) (Zc _ _) oM sD sD) <| Zv (sla b11 0 1 0 32 32) ?_
    refine rN (Qb ?_)
    refine Yk s8 <| Zb (sla b11 0 1 0 32 32) <| G5 (Yl (f := u8) (Hs := Ho) (H := [_, _, _] ++ (Hl ++ ([_]))) (Mem.pick [_, _, _] Ho _ m15) goo rfl rfl (Rd.slaAll m15.h0 sD) Zx Zx Yw rfl Q9 sD sD) ?_
    rintro sv16 w16 ⟨Hs16, m16, g16⟩
    replace g16 : Xl u8 5 sv16 (ol ++ (Zu key (Ji ([(vl, tK key info k), (vi, info), ((Kq b31 0 1 1), [BitVec.ofNat 8 (k + 1)])])))) Hs16 := g16
    refine Zv sv16 ?_
    refine Zo (Qh ?_)
    have m17 := Mem.drop [_] _ (Mem.pick2 Hs16 [_] [_] _ m16)
    have m18 := Mem.drop [_] _ (Mem.pick2 Hs16 [_] [_] _ m17)
    have m19 := Mem.drop Hl _ (Mem.pick2 Hs16 [_] Hl _ m18)
    refine Qb <| Yk s10 <| Qd (Qn6 (b := 1#8) rfl rfl) <| Zv (u8 ((BitVec.ofNat 8 (k + 1)) + 1#8)) <| rN ?_
    have htn : Zu key (Ji ([(vl, tK key info k), (vi, info), ((Kq b31 0 1 1), [BitVec.ofNat 8 (k + 1)])])) = tK key info (k + 1) := by rw [Qh4, Qd2]
    exact ⟨⟨k + 1, ol ++ (Zu key (Ji ([(vl, tK key info k), (vi, info), ((Kq b31 0 1 1), [BitVec.ofNat 8 (k + 1)])]))), sv16, Hs16, (sla b11 0 1 0 32 32), [(b11, .cells (cl u8 (Zu key (Ji ([(vl, tK key info k), (vi, info), ((Kq b31 0 1 1), [BitVec.ofNat 8 (k + 1)])])))) 23 (0, 0))], (.inr oM), (by rw [Qg6, ← htn, hol]), g16, (htn ▸ (by have e : sla b11 0 1 0 32 32 = Kq b11 0 32 32 := Qjk Yh; rw [e]; exact Xl.ofE u8 23 b11 _ (by rw [Jd]))), s0, s1, s2, s3, s6, s7, rfl, rfl, (congrArg u8 (Qoh k)), s17, m19⟩, (by show n.toNat + 1 - sllen sv16 < n.toNat + 1 - sllen _; rw [z8, goo.sllen, Xl.sllen g16]; simp only [List.length_append, Jd]; omega)⟩
   ·
    have hc9p := of_decide_eq_false hc9
    refine Yc ?_
    refine Qr (Qr (Xp ?_))
    refine Qc ?_
    have hbad : Qen n = false := by simp [Qen]; omega
    have hkn : k = (n.toNat + 31) / 32 := by omega
    refine Qb <| Yk s8 <| Yk s2 <| Yk s2 <| Qd (Qis (j := n) (goo.rd m8) Zx Yw rfl rfl rfl oM sD) <| Zv (Qdq so 0 n n) <| Zv (i64 0) ?_
    refine rN (Zy ?_)
    refine Qs [(Qdq so 0 n n), (i64 0)] ⟨rfl, rfl, trivial⟩ ?_
    have m20 := Mem.drop Hl _ (Mem.pick Ho Hl _ m8)
    have m21 := Mem.drop [_] _ (Mem.pick Ho [_] _ m20)
    exact ⟨_, Ho, by unfold Qa9; rw [if_neg (by rw [hbad]; decide)]; rfl, by unfold Bo Jz; rw [if_neg (by rw [hbad]; decide), ← hkn, ← hol]; exact (Xl.cut (j := n) goo oM sD), by simpa using m21⟩
theorem Qof (va : Value) (la : Zj) (vb : Value) (lb : Zj) (w0 : World)  (hT : Tabs (Yn w0)) (hra : Rd (Yn w0) u8 va la) (hla : la.length ≤ 1048576) (hrb : Rd (Yn w0) u8 vb lb) (hlb : lb.length ≤ 1048576) : Xm prog 96 #[va, vb] w0 (fun r w1 => r = (agg u8 (Ja la lb)) ∧ Ext w0 w1) := by
 refine Qy (args := [va, vb]) func96 rfl ntmps96 results96 rfl ?_
 have m0 : Mem w0 (Qu w0) [] := Mem.of_world w0
 refine sR <| Y5 (Zf m0 Zi) fun w1 b4 m1 => ?_
 refine rN (Qc (sR ?_))
 refine Zb va <| Qd (Yg (Rd.ofRest hra m1) Zx rfl) <| Qd (J5 (b := 0) rfl rfl) <| rN ?_
 refine Xb rfl (fun hc2 => ?_) (fun hc2 => ?_)
 ·
  have hc2p := eq_of_beq hc2
  refine Qb <| Y5 (Dq m1 Zx Yw rfl rfl oM oM oM oM) fun w3 b8 m3 => ?_
  rw [Ph u8 0 rfl] at m3
  have m3 : Mem w3 (Qu w0) [(b8, .cells (cl u8 (List.replicate 32 (0 : BitVec 8))) 5 (0, 0)), (b4, .cells (cl u8 (List.replicate 32 0)) 23 (0, 0))] := m3
  refine Zv (Kq b8 0 32 32) ?_
  refine rN (sR ?_)
  refine Zb (Kq b8 0 32 32) <| Zb vb <| Y5 (Y0 [vb] (List.all_eq_true.1 (Zz (Rd.one (Rd.ofRest hrb m3)) Jm)) m3 Qeb Mc rfl rfl rfl) fun w4 b11 m4 => ?_
  have m4 : Mem w4 (Qu w0) [(b11, .cells #[vb] 27 (0, 0)), (b8, .cells (cl u8 (List.replicate 32 (0 : BitVec 8))) 5 (0, 0)), (b4, .cells (cl u8 (List.replicate 32 0)) 23 (0, 0))] := m4
  refine Dx m4 (oc59 (X3 rfl rfl) (N7 (Kq b8 0 32 32) (List.replicate 32 (0 : BitVec 8)) (Kq b11 0 1 1) ([(vb, lb)]) _ (hT.mono fun b o e => (m4).rest b o e) (Rd.mkE m4.h1 sD) sD (Rd.mkA (f := Prod.fst) (l := [(vb, lb)]) m4.h0) (Gj (Rd.ofRest hrb m4) Ei) (by rw [H5]; omega) sD)) fun w5 m5 => Qc3 m5 (Qq (f := u8) (l := Zu (List.replicate 32 (0 : BitVec 8)) (Ji ([(vb, lb)]))) Q9 Zi rfl rfl sD m5.h2 sZ rfl) fun w7 m7 => ?_
  refine rN (Zy ?_)
  refine Qs [(agg u8 (Zu (List.replicate 32 (0 : BitVec 8)) (Ji ([(vb, lb)]))))] ⟨⟨_, rfl, Xi Xf rfl Zi m7.h2 sZ⟩, trivial⟩ ?_
  exact ⟨congrArg (agg u8) (by unfold Ja saltP; rw [H5, if_pos oM]), m7.toExt⟩
 ·
  have hc2p := ne_of_beq_false hc2
  refine Qo (Qa (sR ?_))
  refine Zb va <| Zb vb <| Y5 (Y0 [vb] (List.all_eq_true.1 (Zz (Rd.one (Rd.ofRest hrb m1)) Jm)) m1 Qeb Mc rfl rfl rfl) fun w8 b11_1 m8 => ?_
  have m8 : Mem w8 (Qu w0) [(b11_1, .cells #[vb] 27 (0, 0)), (b4, .cells (cl u8 (List.replicate 32 0)) 23 (0, 0))] := m8
  refine Dx m8 (oc59 (X3 rfl rfl) (N7 va la (Kq b11_1 0 1 1) ([(vb, lb)]) _ (hT.mono fun b o e => (m8).rest b o e) (Rd.ofRest hra m8) sD (Rd.mkA (f := Prod.fst) (l := [(vb, lb)]) m8.h0) (Gj (Rd.ofRest hrb m8) Ei) (by rw [H5]; omega) sD)) fun w9 m9 => Vq m9 (Qq (f := u8) (l := Zu la (Ji ([(vb, lb)]))) Q9 Zi rfl rfl sD m9.h1 sZ rfl) fun w11 m11 => ?_
  refine rN (Zy ?_)
  refine Qs [(agg u8 (Zu la (Ji ([(vb, lb)]))))] ⟨⟨_, rfl, Xi Xf rfl Zi m11.h1 sZ⟩, trivial⟩ ?_
  exact ⟨congrArg (agg u8) (by unfold Ja saltP; rw [H5, if_neg oM]), m11.toExt⟩
end --m
end Go.Proofs.YtkmiemlpfkfiiaaDoor
