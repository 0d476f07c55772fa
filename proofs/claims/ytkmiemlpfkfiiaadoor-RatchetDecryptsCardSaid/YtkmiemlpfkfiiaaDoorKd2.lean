/- Contracts: kdf, second part. Conditions: none beyond those that each theorem states. -/
import Derived.Test.YtkmiemlpfkfiiaaDoorKd1
namespace Go.Proofs.YtkmiemlpfkfiiaaDoor
open Tryd
set_option linter.unusedVariables false
set_option linter.unusedSimpArgs false
def Dp (m : Nat) (L : Z8) : List Z8 := (List.range m).map fun i => (L.drop (32 * i)).take 32
theorem Qhw (m : Nat) (L : Z8) : Dp (m + 1) L = Dp m L ++ [(L.drop (32 * m)).take 32] := by unfold Dp; rw [List.range_succ, List.map_append]; rfl
@[simp] theorem Qdp (m : Nat) (L : Z8) : (Dp m L).length = m := by simp [Dp]
def badK (n : Int) : Bool := decide (n < 0) || decide (255 < n)
def Qf5 (n : Int) : Int := if badK n then 2 else 0
def Ti (n : Int) : Nat := if badK n then 0 else n.toNat
theorem manyK_le (n : Int) : Ti n ≤ 255 := by
 unfold Ti badK; split
 ·omega
 rename_i h; simp at h; omega
def Wh (salt secret purpose : Z8) (n : Int) : List Z8 := Dp (Ti n) (Vb (Kz salt secret) purpose (32 * Ti n))
theorem Qn1 {key info : Z8} {n : Int} (h : 0 ≤ n) : Rq key info ((if 8160 < n then 8160 else n) * 32) = Vb key info (32 * Ti n) ∧ Qeh ((if 8160 < n then 8160 else n) * 32) = Qf5 n := by
 by_cases hb : 255 < n
 ·have h1 : badK n = true := by simp [badK, hb]
  have h2 : Qh8 ((if 8160 < n then 8160 else n) * 32) = true := by
   unfold Qh8; split <;> simp <;> omega
  unfold Rq Qeh Qf5 Ti
  rw [h1, h2]
  simp [Vb, Qey]
 have h1 : badK n = false := by simp [badK]; omega
 have h3 : (if 8160 < n then 8160 else n) = n := if_neg oM
 have h2 : Qh8 (n * 32) = false := by unfold Qh8; simp; omega
 unfold Rq Qeh Qf5 Ti
 rw [h3, h1, h2]
 have e : (n * 32).toNat = 32 * n.toNat := by omega
 simp [e]
theorem Qis {ol : Z8} {n : Int} : (ol.drop (0 : Int).toNat).take ((n : Int).toNat - (0 : Int).toNat) = ol.take n.toNat := by
 rw [show (0 : Int).toNat = 0 from rfl, List.drop_zero, Nat.sub_zero]
theorem tail32 {X bl : Z8} {j : Nat} (h : bl = X.drop (32 * j)) : (bl.drop (32 : Int).toNat).take ((bl.length : Int).toNat - (32 : Int).toNat) = X.drop (32 * (j + 1)) := by
 subst h
 have e : (32 : Int).toNat = 32 := rfl
 rw [e, List.take_of_length_le (by simp; omega), List.drop_drop]; congr 1
theorem head32 {X bl : Z8} {j : Nat} (h : bl = X.drop (32 * j)) : ((bl.drop 0).take 32).take 32 = (X.drop (32 * j)).take 32 := by
 subst h; rw [List.drop_zero, List.take_take]; rfl
theorem Qjk (key info : Z8) (n : Nat) : Vb key info n = (Qey key info ((n + 31) / 32)).take n := rfl
attribute [local irreducible] Xj tK Qey Vb Kz
set_option maxHeartbeats 1000000 in
theorem Qsm (key : Z8) (vi : Value) (info : Z8) (n : Int) (w0 : World)  (hk : key.length = 32) (hri : Rd (Y8 w0) u8 vi info) (hli : info.length ≤ 1048576) (hn : 0 ≤ n ∧ n ≤ 8160) : X0 prog 92 #[(agg u8 key), vi, (i64 n)] w0 (fun r w1 => ∃ Hs, Z5 u8 5 r (Vb key info n.toNat) Hs ∧ Mem w1 (Qr w0) Hs) := by
 refine Qy (args := [(agg u8 key), vi, (i64 n)]) func92 rfl ntmps92 results92 rfl ?_
 have m0 : Mem w0 (Qr w0) [] := Mem.of_world w0
 refine sR <| Y9 (Xc (f := u8) (l := key) m0 rfl) fun w1 b3 m1 => Zx Wl ?_
 refine rN (sR ?_)
 refine Y9 (Qq u8 [] Qs m1 Zo Yw rfl (by simp [Ce]) rfl) fun w2 b12 m2 => Y9 (Qq u8 [] Qs m2 Zo Yw rfl (by simp [Ce]) rfl) fun w3 b13 m3 => Zx (Wp b12 0 0 0) <| Zx (Wp b13 0 0 0) ?_
 refine rN (Qa (sR ?_))
 refine Zx (i64 1) ?_
 refine rN (Qh ?_)
 refine Y1 (fun g wv => ∃ (k : Nat) (ol : Z8) (so : Value) (Ho : List (Nat × Obj)) (vt : Value) (Ht : List (Nat × Obj)), (k ≤ 255) ∧ (k = 0 ∨ 32 * ((k : Int) - 1) < n) ∧ (ol = Qey key info k) ∧ (Z5 u8 5 so ol Ho) ∧ (Z5 u8 5 vt (tK key info k) Ht) ∧ g 0 = (agg u8 key) ∧ g 1 = vi ∧ g 2 = (i64 n) ∧ g 3 = (ptr b3 0) ∧ g 6 = Wl ∧ g 7 = so ∧ g 8 = vt ∧ g 9 = (i64 ((k + 1 : Nat) : Int)) ∧ Mem wv (Qr w0) (Ho ++ (Ht ++ ([(b3, .cells (cl u8 key) 23 (0, 0))])))) (fun g wv => (257 - RowKit.intOf (g 9)).toNat) ?_ ?_
 have m4 := (Mem.pick [_, _] [_] _ m3)
 have m5 := (Mem.pick [_] [_] _ m4)
 have m6 := (Mem.pick [_, _] [_] _ m5)
 ·exact ⟨0, [], (Wp b12 0 0 0), [(b12, .cells (cl u8 ([])) 5 (0, 0))], (Wp b13 0 0 0), [(b13, .cells (cl u8 ([])) 5 (0, 0))], oM, (.inl rfl), (Qk2 _ _).symm, (Z5.of u8 5 b12 []), ((Qqd key info).symm ▸ Z5.of u8 5 b13 []), rfl, rfl, rfl, rfl, rfl, rfl, rfl, rfl, m6⟩
 rintro fr7 w8 ⟨k, ol, so, Ho, vt, Ht, hk255, hk0, hol, goo, gvt, s0, s1, s2, s3, s6, s7, s8, s9, m8⟩
 have z7 := s7
 have z8 := s8
 have z9 := s9
 have holn : ol.length = 32 * k := by rw [hol, Qi9]
 have htl := tK_le key info k
 refine Qa (sR ?_)
 refine Yb s9 <| Qd (Qjn (b := 255) rfl rfl) <| Zm (bl (decide (((k + 1 : Nat) : Int) ≤ 255))) ?_
 rcases Bool.eq_false_or_eq_true (decide (((k + 1 : Nat) : Int) ≤ 255)) with hb9 | hb9
 ·
  have hb9p := of_decide_eq_true hb9
  refine Zj (s := 16) rfl rfl hb9 rfl (Yh s7) <| Zj (s := 16) rfl rfl hb9 rfl (Yk (goo.rd m8) Zo rfl) <| Zj (s := 16) rfl rfl hb9 rfl (Yh s2) <| Zj (s := 16) rfl rfl hb9 rfl (Xa rfl rfl) <| Qd (Jg rfl hb9 rfl) <| rN ?_
  refine Zy rfl (fun hc10 => ?_) (fun hc10 => ?_)
  ·
   have hc10p := of_decide_eq_true hc10
   refine Qn (Qc (Qa (Qh (sR ?_))))
   refine Y9 (Qq u8 [] Qs m8 Zo Yw rfl (by simp [Ce]) rfl) fun w11 b24 m11 => Yb s8 <| Vw (Xf (f := u8) (Hs := [(b24, .cells (cl u8 ([])) 5 (0, 0))]) (H := Ho ++ (Ht ++ ([_]))) m11 (Z5.of u8 5 b24 ([])) rfl rfl (gvt.rd (Mem.pick2 [_] Ho Ht _ m11)) Zo Zo Yw rfl Qs sD sD) ?_
   rintro sv12 w12 ⟨Hs12, m12, g12⟩
   replace g12 : Z5 u8 5 sv12 (tK key info k) Hs12 := g12
   refine Zx sv12 ?_
   refine rN (sR ?_)
   refine Zm sv12 <| Yb s1 <| Vw (Xf (f := u8) (Hs := Hs12) (H := Ho ++ (Ht ++ ([_]))) m12 g12 rfl rfl (Rd.ofRest hri m12) Zo Zo Yw rfl Qs sD sD) ?_
   rintro sv13 w13 ⟨Hs13, m13, g13⟩
   replace g13 : Z5 u8 5 sv13 ((tK key info k) ++ info) Hs13 := g13
   refine Zx sv13 ?_
   refine rN (sR ?_)
   refine Zm sv13 <| Yb s9 <| Qd (F7 ⟨_, Uu⟩ Vs rfl) <| Y9 (Qq u8 [BitVec.ofInt 8 ((k + 1 : Nat) : Int)] Qs m13 Zo Yw rfl rfl rfl) fun w14 b33 m14 => Vw (Xf (f := u8) (Hs := Hs13) (H := [_] ++ (Ho ++ (Ht ++ ([_])))) (Mem.pick [_] Hs13 _ m14) g13 rfl rfl (Rd.mkA m14.h0) Zo Zo Yw rfl Qs sD sD) ?_
   rintro sv15 w15 ⟨Hs15, m15, g15⟩
   replace g15 : Z5 u8 5 sv15 (((tK key info k) ++ info) ++ ([BitVec.ofInt 8 ((k + 1 : Nat) : Int)])) Hs15 := g15
   refine Zx sv15 ?_
   refine rN (sR ?_)
   refine Qd (Xk (i := 0) (j := 32) Xl Yw s3 (Zd _ _) (Zd _ _) oM sD sD) <| Zm sv15 <| U3 m15 (oc69 (Xm rfl rfl) (Qaa (sla b3 0 1 0 32 32) key sv15 (((tK key info k) ++ info) ++ ([BitVec.ofInt 8 ((k + 1 : Nat) : Int)])) _ (Rd.slaAll ((Mem.pick4 Hs15 [_] Ho Ht [_] _ m15)).h0 sD) sD (g15.rd m15) sD)) fun w16 m16 => Y9 (Q7 m16 Zg) fun w18 b11 m18 => Ye m18 (Qg (f := u8) (l := Xj key (((tK key info k) ++ info) ++ ([BitVec.ofInt 8 ((k + 1 : Nat) : Int)]))) Qs Zg rfl rfl sD m18.h0 sZ rfl) fun w19 m19 => rN ?_
   have m20 := Mem.drop [_] _ (Mem.pick2 [_] Hs15 [_] _ m19)
   refine sR <| Y9 (Qq u8 [] Qs m20 Zo Yw rfl (by simp [Ce]) rfl) fun w21 b38 m21 => Qd (Xk (i := 0) (j := 32) Xl Yw rfl (Zd _ _) (Zd _ _) oM sD sD) <| Vw (Xf (f := u8) (Hs := [(b38, .cells (cl u8 ([])) 5 (0, 0))]) (H := [_] ++ (Hs15 ++ (Ho ++ (Ht ++ ([_]))))) m21 (Z5.of u8 5 b38 ([])) rfl rfl (Rd.slaAll m21.h1 sD) Zo Zo Yw rfl Qs sD sD) ?_
   rintro sv22 w22 ⟨Hs22, m22, g22⟩
   replace g22 : Z5 u8 5 sv22 (Xj key (((tK key info k) ++ info) ++ ([BitVec.ofInt 8 ((k + 1 : Nat) : Int)]))) Hs22 := g22
   refine Zx sv22 ?_
   refine rN (Qb ?_)
   refine Yb s7 <| Zm sv22 <| Vw (Xf (f := u8) (Hs := Ho) (H := Hs22 ++ ([_] ++ (Hs15 ++ (Ht ++ ([_]))))) (Mem.pick3 Hs22 [_] Hs15 Ho _ m22) goo rfl rfl (g22.rd m22) Zo Zo Yw rfl Qs sD sD) ?_
   rintro sv23 w23 ⟨Hs23, m23, g23⟩
   replace g23 : Z5 u8 5 sv23 (ol ++ (Xj key (((tK key info k) ++ info) ++ ([BitVec.ofInt 8 ((k + 1 : Nat) : Int)])))) Hs23 := g23
   refine Zx sv23 ?_
   refine Zp (Qe (Qb ?_))
   refine Yb s9 <| Qd (Zf (b := 1) rfl rfl oM oM) <| Zx (i64 (((k + 1 : Nat) : Int) + 1)) <| rN ?_
   have htn : Xj key (((tK key info k) ++ info) ++ ([BitVec.ofInt 8 ((k + 1 : Nat) : Int)])) = tK key info (k + 1) := by rw [Qib, ← byte_int]
   have m24 := Mem.drop [_] _ (Mem.pick2 Hs23 Hs22 [_] _ m23)
   have m25 := Mem.drop Hs15 _ (Mem.pick2 Hs23 Hs22 Hs15 _ m24)
   have m26 := Mem.drop Ht _ (Mem.pick2 Hs23 Hs22 Ht _ m25)
   exact ⟨⟨k + 1, ol ++ (Xj key (((tK key info k) ++ info) ++ ([BitVec.ofInt 8 ((k + 1 : Nat) : Int)]))), sv23, Hs23, sv22, Hs22, oM, (.inr oM), (by rw [Qgp, ← htn, hol]), g23, (htn ▸ g22), s0, s1, s2, s3, s6, rfl, rfl, (by show i64 _ = i64 _; congr 1), m26⟩, Ue (by show i64 _ = i64 _; congr 1) z9 (a' := ((k + 1 + 1 : Nat) : Int)) oM oM⟩
  ·
   have hc10p := of_decide_eq_false hc10
   refine X4 ?_
   refine Qj (Qj (Xi ?_))
   refine Qa ?_
   have hkn : k = (n.toNat + 31) / 32 := by omega
   refine Qb <| Yb s7 <| Yb s2 <| Qd (Y6 (i := 0) (j := n) (goo.rd m8) Zo Yw rfl (Zd _ _) (Yd (k := .i64) (i := n) rfl) oM sD sD) <| Zx (Bg so 0 n) ?_
   refine rN (Zz ?_)
   refine Qp [(Bg so 0 n)] ⟨rfl, trivial⟩ ?_
   have m27 := Mem.drop Ht _ (Mem.pick Ho Ht _ m8)
   have m28 := Mem.drop [_] _ (Mem.pick Ho [_] _ m27)
   have hfin : (ol.drop (0 : Int).toNat).take ((n : Int).toNat - (0 : Int).toNat) = Vb key info n.toNat := by rw [Qis, hol, hkn]; exact (Qjk _ _ _).symm
   exact ⟨Ho, hfin ▸ (Z5.cast (l' := (ol.drop (0 : Int).toNat).take ((n : Int).toNat - (0 : Int).toNat)) (Z5.sub (i := 0) (j := n) goo oM sD sD) rfl), by simpa using m28⟩
 ·
  have hb9p := of_decide_eq_false hb9
  refine Yg (s := 16) rfl rfl hb9 rfl <| Yg (s := 16) rfl rfl hb9 rfl <| Yg (s := 16) rfl rfl hb9 rfl <| Yg (s := 16) rfl rfl hb9 rfl <| Qd (Yz rfl hb9 rfl) <| rN <| Ja rfl Jb <| X4 ?_
  refine Qj (Qj (Xi ?_))
  refine Qa ?_
  have hkn : k = (n.toNat + 31) / 32 := by omega
  refine Qb <| Yb s7 <| Yb s2 <| Qd (Y6 (i := 0) (j := n) (goo.rd m8) Zo Yw rfl (Zd _ _) (Yd (k := .i64) (i := n) rfl) oM sD sD) <| Zx (Bg so 0 n) ?_
  refine rN (Zz ?_)
  refine Qp [(Bg so 0 n)] ⟨rfl, trivial⟩ ?_
  have m29 := Mem.drop Ht _ (Mem.pick Ho Ht _ m8)
  have m30 := Mem.drop [_] _ (Mem.pick Ho [_] _ m29)
  have hfin : (ol.drop (0 : Int).toNat).take ((n : Int).toNat - (0 : Int).toNat) = Vb key info n.toNat := by rw [Qis, hol, hkn]; exact (Qjk _ _ _).symm
  exact ⟨Ho, hfin ▸ (Z5.cast (l' := (ol.drop (0 : Int).toNat).take ((n : Int).toNat - (0 : Int).toNat)) (Z5.sub (i := 0) (j := n) goo oM sD sD) rfl), by simpa using m30⟩
set_option maxHeartbeats 1000000 in
theorem c_keys (va : Value) (la : Z8) (vb : Value) (lb : Z8) (pu : ByteArray) (n : Int) (w0 : World)  (hT : Tabs (Y8 w0)) (hra : Rd (Y8 w0) u8 va la) (hla : la.length ≤ 1048576) (hrb : Rd (Y8 w0) u8 vb lb) (hlb : lb.length ≤ 1048576) (hpu : pu.size ≤ 1048576) (hnr : -9223372036854775808 ≤ n ∧ n ≤ 9223372036854775807) : X0 prog 73 #[va, vb, (Value.string pu), (i64 n)] w0 (fun r w1 => ∃ v Hs, r = Value.tuple #[v, i64 (Qf5 n)] ∧ Yx (Eb u8) 32 23 v (Wh la lb (J5 pu) n) Hs ∧ Mem w1 (Qr w0) Hs) := by
 refine Qy (args := [va, vb, (Value.string pu), (i64 n)]) func73 rfl ntmps73 results73 rfl ?_
 have m0 : Mem w0 (Qr w0) [] := Mem.of_world w0
 refine sR <| Zx Wl <| Zx (i64 0) ?_
 refine rN (Qa (sR ?_))
 refine Zm (i64 n) <| Qd (Xa (b := 0) rfl rfl) <| rN ?_
 refine Zy rfl (fun hc1 => ?_) (fun hc1 => ?_)
 ·
  have hc1p := of_decide_eq_true hc1
  refine sR <| Zx Wl <| Zx (i64 2) ?_
  refine rN (Zz (Yv ?_))
  refine Qp [Wl, (i64 2)] ⟨rfl, rfl, trivial⟩ ?_
  have hbad : badK n = true := by simp [badK]; omega
  exact ⟨Value.slice none 0 0, [], by unfold Qf5; rw [if_pos hbad]; rfl, by unfold Wh Ti; rw [if_pos hbad]; exact Yx.none _ _ _, m0⟩
 ·
  have hc1p := of_decide_eq_false hc1
  refine Qn (Qc (sR ?_))
  refine Zm va <| Zm vb <| U3 m0 (oc96 (Xm rfl rfl) (Qsq va la vb lb _ (hT.mono fun b o e => (m0).rest b o e) (Rd.ofRest hra m0) sD (Rd.ofRest hrb m0) sD)) fun w2 m2 => Zm (Value.string pu) <| Vw (Qhj (s := pu) m2 uT9 Zo Vs rfl sD) ?_
  rintro _ w4 ⟨b18, cap4, cc4, fz4, rfl, e4, m4, hcv4⟩
  have m4 : Mem w4 (Qr w0) [(b18, .cells cc4 5 fz4)] := m4
  refine Zm (i64 n) <| Qd (v := (i64 (if 8160 < n then 8160 else n))) (Qpi (j := 8160) rfl rfl) <| Qd (Kv (b := 32) rfl rfl oM oM) <| Vw (oc95 (Ci rfl rfl rfl) (c_expand _ (Wp b18 0 pu.size cap4) (J5 pu) _ _ (hT.mono fun b o e => (m4).rest b o e) sD (hcv4 _ m4.h0) sD)) ?_
  rintro _ w5 ⟨vxq6, Hsq6, rfl, gvxq6, k_w5⟩
  have m5 : Mem _ _ (Hsq6 ++ ([_])) := Mem.new (H := [_]) (H' := Hsq6) m4 k_w5
  obtain ⟨X, hX⟩ : ∃ X, X = Vb (Kz la lb) (J5 pu) (32 * Ti n) := ⟨_, rfl⟩
  have hXl : X.length = 32 * Ti n := by rw [hX, Dy]
  have hmk := manyK_le n
  have hek := Qn1 (key := Kz la lb) (info := J5 pu) (n := n) oM
  have gX7 := gvxq6
  rw [hek.1, ← hX] at gX7
  refine Zm (Value.tuple #[vxq6, (i64 (Qeh ((if 8160 < n then 8160 else n) * 32)))]) <| Qd (v := vxq6) (Zr rfl rfl) <| Qd (v := (i64 (Qeh ((if 8160 < n then 8160 else n) * 32)))) (Zr rfl rfl) <| Zx vxq6 <| Zx (i64 (Qeh ((if 8160 < n then 8160 else n) * 32))) ?_
  refine rN (Qa (Qh ?_))
  refine Y1 (fun g wv => ∃ (j : Nat) (bq : Z8) (bv : Value) (Hb : List (Nat × Obj)) (sk : Value) (Hk : List (Nat × Obj)), (j ≤ Ti n) ∧ (bq = X.drop (32 * j)) ∧ (Z5 u8 5 bv bq Hb) ∧ (Yx (Eb u8) 32 23 sk (Dp j X) Hk) ∧ g 0 = va ∧ g 1 = vb ∧ g 2 = (Value.string pu) ∧ g 3 = (i64 n) ∧ g 8 = sk ∧ g 9 = (i64 (Qeh ((if 8160 < n then 8160 else n) * 32))) ∧ g 10 = bv ∧ g 12 = (bl (decide (n < 0))) ∧ Mem wv (Qr w0) (Hb ++ (Hk ++ ([])))) (fun g wv => sllen (g 10)) ?_ ?_
  have m8 := Mem.drop [_] _ (Mem.pick Hsq6 [_] _ m5)
  ·exact ⟨0, X, vxq6, Hsq6, Wl, [], (Nat.zero_le _), Ya, gX7, (Yx.none (Eb u8) 32 23), rfl, rfl, rfl, rfl, rfl, rfl, rfl, rfl, m8⟩
  rintro fr9 w10 ⟨j, bq, bv, Hb, sk, Hk, hj, hbl, gbb, gkk, s0, s1, s2, s3, s8, s9, s10, s12, m10⟩
  have z10 := s10
  have z8 := s8
  have hbn : bq.length = 32 * Ti n - 32 * j := by rw [hbl, List.length_drop, hXl]
  refine Qa (sR ?_)
  refine Yb s10 <| Qd (Yk (gbb.rd m10) Zo rfl) <| Qd (Vz (b := 0) rfl rfl) <| rN ?_
  refine Zy rfl (fun hc11 => ?_) (fun hc11 => ?_)
  ·
   have hc11p := of_decide_eq_true hc11
   refine Qn (Qc (V8 (sR ?_)))
   refine Yb s8 <| Yb s10 <| Qd (Y6 (i := 0) (j := 32) (gbb.rd m10) Zo Yw rfl (Zd _ _) (Yd (k := .i64) (i := 32) rfl) oM sD sD) <| Qd (ev_sap ((Z5.cast (l' := (bq.drop 0).take 32) (Z5.sub (i := 0) (j := 32) gbb oM sD sD) rfl).rd m10) Xl rfl sD) <| Qd (v := (agg u8 (((bq.drop 0).take 32).take 32))) (Qhu (l := (bq.drop 0).take 32) ((Z5.cast (l' := (bq.drop 0).take 32) (Z5.sub (i := 0) (j := 32) gbb oM sD sD) rfl).rd m10) Xl Zg rfl sD rfl) <| Y9 (Hu (cs := (cl u8 (((bq.drop 0).take 32).take 32))) m10 Qc6 Zg rfl rfl rfl sZ) fun w12 b33 m12 => ?_
   have m12 : Mem w12 (Qr w0) ([(b33, .cells (cl u8 (((bq.drop 0).take 32).take 32)) 23 (0, 0))] ++ (Hb ++ (Hk ++ ([])))) := m12
   refine Vw (C9 (enc := (Eb u8)) (k := 32) (Hs := Hk) (H := [_] ++ (Hb ++ ([]))) (Mem.pick2 [_] Hb Hk _ m12) gkk rfl rfl (RdK.ofOne (enc := (Eb u8)) (k := 32) (a := (((bq.drop 0).take 32).take 32)) m12.h0 rfl (by simp only [Eb, List.length_map]; first | omega | (simp; done) | (simp; omega) | decide)) Qc6 Qc6 Zg rfl rfl (fun _ _ => Jj Qs _) sD sD) ?_
   rintro sv13 w13 ⟨Hs13, m13, g13⟩
   replace g13 : Yx (Eb u8) 32 23 sv13 ((Dp j X) ++ ([((bq.drop 0).take 32).take 32])) Hs13 := g13
   refine Zx sv13 ?_
   refine rN (Qb ?_)
   refine Yb s10 <| Qd (Y6 (i := 32) (j := (bq.length : Int)) (gbb.rd (Mem.pick2 Hs13 [_] Hb _ m13)) Zo Yw rfl (Yd (k := .i64) (i := 32) rfl) (Zd _ _) oM sD sD) <| Zx (Bg bv 32 (bq.length : Int)) ?_
   refine Zp (Qe (Qc ?_))
   have m14 := Mem.drop [_] _ (Mem.pick Hs13 [_] _ m13)
   have m15 := (Mem.pick Hs13 Hb _ m14)
   exact ⟨⟨j + 1, ((bq.drop (32 : Int).toNat).take (((bq.length : Int) : Int).toNat - (32 : Int).toNat)), (Bg bv 32 (bq.length : Int)), Hb, sv13, Hs13, oM, (tail32 hbl), (Z5.cast (l' := (bq.drop (32 : Int).toNat).take (((bq.length : Int) : Int).toNat - (32 : Int).toNat)) (Z5.sub (i := 32) (j := (bq.length : Int)) gbb oM sD sD) rfl), (Yx.cast g13 (by rw [head32 hbl, ← Qhw])), s0, s1, s2, s3, rfl, s9, rfl, s12, m15⟩, (by show sllen (Bg bv 32 (bq.length : Int)) < sllen _; rw [z10, gbb.sllen, Z5.sllen (Z5.cast (l' := (bq.drop (32 : Int).toNat).take (((bq.length : Int) : Int).toNat - (32 : Int).toNat)) (Z5.sub (i := 32) (j := (bq.length : Int)) gbb oM sD sD) rfl)]; simp; omega)⟩
  ·
   have hc11p := of_decide_eq_false hc11
   refine X4 ?_
   refine Qj (Qj (Xi ?_))
   refine Qa ?_
   have hbn : bq.length = 32 * Ti n - 32 * j := by rw [hbl, List.length_drop, hXl]
   have hjn : j = Ti n := by omega
   refine Qb <| Yb s8 <| Yb s9 <| Zx sk <| Zx (i64 (Qeh ((if 8160 < n then 8160 else n) * 32))) ?_
   refine rN (Zz ?_)
   refine Qp [sk, (i64 (Qeh ((if 8160 < n then 8160 else n) * 32)))] ⟨rfl, rfl, trivial⟩ ?_
   have m16 := Mem.drop Hb _ m10
   exact ⟨sk, Hk, by rw [← hek.2]; rfl, by unfold Wh; rw [← hX, ← hjn]; exact gkk, by simpa using m16⟩
end Go.Proofs.YtkmiemlpfkfiiaaDoor
