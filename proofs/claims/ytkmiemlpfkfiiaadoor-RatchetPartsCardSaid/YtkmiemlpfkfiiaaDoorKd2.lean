/- Contracts: kdf, second part. Conditions: none beyond those that each theorem states. -/
import Derived.Test.YtkmiemlpfkfiiaaDoorKd1
namespace Go.Proofs.YtkmiemlpfkfiiaaDoor
open Tryd
set_option linter.unusedVariables false
set_option linter.unusedSimpArgs false
def Dh (m : Nat) (L : Xg) : List Xg := (List.range m).map fun i => (L.drop (32 * i)).take 32
theorem Qhm (m : Nat) (L : Xg) : Dh (m + 1) L = Dh m L ++ [(L.drop (32 * m)).take 32] := by unfold Dh; rw [List.range_succ, List.map_append]; rfl
@[simp] theorem Qdh (m : Nat) (L : Xg) : (Dh m L).length = m := by simp [Dh]
def badK (n : Int) : Bool := decide (n < 0) || decide (255 < n)
def Qfs (n : Int) : Int := if badK n then 2 else 0
def S9 (n : Int) : Nat := if badK n then 0 else n.toNat
theorem manyK_le (n : Int) : S9 n ≤ 255 := by
 unfold S9 badK; split
 ·omega
 rename_i h; simp at h; omega
def Wp (salt secret purpose : Xg) (n : Int) : List Xg := Dh (S9 n) (Vd (Wn salt secret) purpose (32 * S9 n))
theorem Qnt {key info : Xg} {n : Int} (h : 0 ≤ n) : Rj key info ((if 8160 < n then 8160 else n) * 32) = Vd key info (32 * S9 n) ∧ Qd3 ((if 8160 < n then 8160 else n) * 32) = Qfs n := by
 by_cases hb : 255 < n
 ·have h1 : badK n = true := by simp [badK, hb]
  have h2 : Qhy ((if 8160 < n then 8160 else n) * 32) = true := by
   unfold Qhy; split <;> simp <;> omega
  unfold Rj Qd3 Qfs S9
  rw [h1, h2]
  simp [Vd, Qeo]
 have h1 : badK n = false := by simp [badK]; omega
 have h3 : (if 8160 < n then 8160 else n) = n := if_neg oM
 have h2 : Qhy (n * 32) = false := by unfold Qhy; simp; omega
 unfold Rj Qd3 Qfs S9
 rw [h3, h1, h2]
 have e : (n * 32).toNat = 32 * n.toNat := by omega
 simp [e]
theorem Qim {ol : Xg} {n : Int} : (ol.drop (0 : Int).toNat).take ((n : Int).toNat - (0 : Int).toNat) = ol.take n.toNat := by
 rw [show (0 : Int).toNat = 0 from rfl, List.drop_zero, Nat.sub_zero]
theorem tail32 {X bl : Xg} {j : Nat} (h : bl = X.drop (32 * j)) : (bl.drop (32 : Int).toNat).take ((bl.length : Int).toNat - (32 : Int).toNat) = X.drop (32 * (j + 1)) := by
 subst h
 have e : (32 : Int).toNat = 32 := rfl
 rw [e, List.take_of_length_le (by simp; omega), List.drop_drop]; congr 1
theorem head32 {X bl : Xg} {j : Nat} (h : bl = X.drop (32 * j)) : ((bl.drop 0).take 32).take 32 = (X.drop (32 * j)).take 32 := by
 subst h; rw [List.drop_zero, List.take_take]; rfl
theorem Qje (key info : Xg) (n : Nat) : Vd key info n = (Qeo key info ((n + 31) / 32)).take n := rfl
attribute [local irreducible] Xk tK Qeo Vd Wn
set_option maxHeartbeats 1000000 in
theorem Qr8 (key : Xg) (vi : Value) (info : Xg) (n : Int) (w0 : World)  (hk : key.length = 32) (hri : Rd (Jl w0) u8 vi info) (hli : info.length ≤ 1048576) (hn : 0 ≤ n ∧ n ≤ 8160) : X9 prog 92 #[(agg u8 key), vi, (i64 n)] w0 (fun r w1 => ∃ Hs, Xe u8 5 r (Vd key info n.toNat) Hs ∧ Mem w1 (Qu w0) Hs) := by
 refine Zb (args := [(agg u8 key), vi, (i64 n)]) func92 rfl ntmps92 results92 rfl ?_
 have m0 : Mem w0 (Qu w0) [] := Mem.of_world w0
 refine sR <| Y9 (Xa (f := u8) (l := key) m0 rfl) fun w1 b3 m1 => Zz Yj ?_
 refine rN (sR ?_)
 refine Y9 (Qw u8 [] Qy m1 Zu Y0 rfl (by simp [Ac]) rfl) fun w2 b12 m2 => Y9 (Qw u8 [] Qy m2 Zu Y0 rfl (by simp [Ac]) rfl) fun w3 b13 m3 => Zz (Wq b12 0 0 0) <| Zz (Wq b13 0 0 0) ?_
 refine rN (Qa (sR ?_))
 refine Zz (i64 1) ?_
 refine rN (Qk ?_)
 refine Y7 (fun g wv => ∃ (k : Nat) (ol : Xg) (so : Value) (Ho : List (Nat × Obj)) (vt : Value) (Ht : List (Nat × Obj)), (k ≤ 255) ∧ (k = 0 ∨ 32 * ((k : Int) - 1) < n) ∧ (ol = Qeo key info k) ∧ (Xe u8 5 so ol Ho) ∧ (Xe u8 5 vt (tK key info k) Ht) ∧ g 0 = (agg u8 key) ∧ g 1 = vi ∧ g 2 = (i64 n) ∧ g 3 = (ptr b3 0) ∧ g 6 = Yj ∧ g 7 = so ∧ g 8 = vt ∧ g 9 = (i64 ((k + 1 : Nat) : Int)) ∧ Mem wv (Qu w0) (Ho ++ (Ht ++ ([(b3, .cells (cl u8 key) 23 (0, 0))])))) (fun g wv => (257 - RowKit.intOf (g 9)).toNat) ?_ ?_
 have m4 := (Mem.pick [_, _] [_] _ m3)
 have m5 := (Mem.pick [_] [_] _ m4)
 have m6 := (Mem.pick [_, _] [_] _ m5)
 ·exact ⟨0, [], (Wq b12 0 0 0), [(b12, .cells (cl u8 ([])) 5 (0, 0))], (Wq b13 0 0 0), [(b13, .cells (cl u8 ([])) 5 (0, 0))], oM, (.inl rfl), (Qkt _ _).symm, (Xe.of u8 5 b12 []), ((Qp9 key info).symm ▸ Xe.of u8 5 b13 []), rfl, rfl, rfl, rfl, rfl, rfl, rfl, rfl, m6⟩
 rintro fr7 w8 ⟨k, ol, so, Ho, vt, Ht, hk255, hk0, hol, goo, gvt, s0, s1, s2, s3, s6, s7, s8, s9, m8⟩
 have z7 := s7
 have z8 := s8
 have z9 := s9
 have holn : ol.length = 32 * k := by rw [hol, Qi3]
 have htl := tK_le key info k
 refine Qa (sR ?_)
 refine Ya s9 <| Qd (Qpf (b := 255) rfl rfl) <| Zp (bl (decide (((k + 1 : Nat) : Int) ≤ 255))) ?_
 rcases Bool.eq_false_or_eq_true (decide (((k + 1 : Nat) : Int) ≤ 255)) with hb9 | hb9
 ·
  have hb9p := of_decide_eq_true hb9
  refine Z5 (s := 16) rfl rfl hb9 rfl (Yp s7) <| Z5 (s := 16) rfl rfl hb9 rfl (Yl (goo.rd m8) Zu rfl) <| Z5 (s := 16) rfl rfl hb9 rfl (Yp s2) <| Z5 (s := 16) rfl rfl hb9 rfl (Z9 rfl rfl) <| Qd (Vm rfl hb9 rfl) <| rN ?_
  refine Z8 rfl (fun hc10 => ?_) (fun hc10 => ?_)
  ·
   have hc10p := of_decide_eq_true hc10
   refine Qs (Qc (Qa (Qk (sR ?_))))
   refine Y9 (Qw u8 [] Qy m8 Zu Y0 rfl (by simp [Ac]) rfl) fun w11 b24 m11 => Ya s8 <| Vy (Xp (f := u8) (Hs := [(b24, .cells (cl u8 ([])) 5 (0, 0))]) (H := Ho ++ (Ht ++ ([_]))) m11 (Xe.of u8 5 b24 ([])) rfl rfl (gvt.rd (Mem.pick2 [_] Ho Ht _ m11)) Zu Zu Y0 rfl Qy sD sD) ?_
   rintro sv12 w12 ⟨Hs12, m12, g12⟩
   replace g12 : Xe u8 5 sv12 (tK key info k) Hs12 := g12
   refine Zz sv12 ?_
   refine rN (sR ?_)
   refine Zp sv12 <| Ya s1 <| Vy (Xp (f := u8) (Hs := Hs12) (H := Ho ++ (Ht ++ ([_]))) m12 g12 rfl rfl (Rd.ofRest hri m12) Zu Zu Y0 rfl Qy sD sD) ?_
   rintro sv13 w13 ⟨Hs13, m13, g13⟩
   replace g13 : Xe u8 5 sv13 ((tK key info k) ++ info) Hs13 := g13
   refine Zz sv13 ?_
   refine rN (sR ?_)
   refine Zp sv13 <| Ya s9 <| Qd (F5 ⟨_, Fj⟩ Gl rfl) <| Y9 (Qw u8 [BitVec.ofInt 8 ((k + 1 : Nat) : Int)] Qy m13 Zu Y0 rfl rfl rfl) fun w14 b33 m14 => Vy (Xp (f := u8) (Hs := Hs13) (H := [_] ++ (Ho ++ (Ht ++ ([_])))) (Mem.pick [_] Hs13 _ m14) g13 rfl rfl (Rd.mkA m14.h0) Zu Zu Y0 rfl Qy sD sD) ?_
   rintro sv15 w15 ⟨Hs15, m15, g15⟩
   replace g15 : Xe u8 5 sv15 (((tK key info k) ++ info) ++ ([BitVec.ofInt 8 ((k + 1 : Nat) : Int)])) Hs15 := g15
   refine Zz sv15 ?_
   refine rN (sR ?_)
   refine Qd (Xo (i := 0) (j := 32) Xq Y0 s3 (Zi _ _) (Zi _ _) oM sD sD) <| Zp sv15 <| U9 m15 (oc69 (Xm rfl rfl) (Tq (sla b3 0 1 0 32 32) key sv15 (((tK key info k) ++ info) ++ ([BitVec.ofInt 8 ((k + 1 : Nat) : Int)])) _ (Rd.slaAll ((Mem.pick4 Hs15 [_] Ho Ht [_] _ m15)).h0 sD) sD (g15.rd m15) sD)) fun w16 m16 => Y9 (Zc m16 Zl) fun w18 b11 m18 => Ye m18 (Qj (f := u8) (l := Xk key (((tK key info k) ++ info) ++ ([BitVec.ofInt 8 ((k + 1 : Nat) : Int)]))) Qy Zl rfl rfl sD m18.h0 sZ rfl) fun w19 m19 => rN ?_
   have m20 := Mem.drop [_] _ (Mem.pick2 [_] Hs15 [_] _ m19)
   refine sR <| Y9 (Qw u8 [] Qy m20 Zu Y0 rfl (by simp [Ac]) rfl) fun w21 b38 m21 => Qd (Xo (i := 0) (j := 32) Xq Y0 rfl (Zi _ _) (Zi _ _) oM sD sD) <| Vy (Xp (f := u8) (Hs := [(b38, .cells (cl u8 ([])) 5 (0, 0))]) (H := [_] ++ (Hs15 ++ (Ho ++ (Ht ++ ([_]))))) m21 (Xe.of u8 5 b38 ([])) rfl rfl (Rd.slaAll m21.h1 sD) Zu Zu Y0 rfl Qy sD sD) ?_
   rintro sv22 w22 ⟨Hs22, m22, g22⟩
   replace g22 : Xe u8 5 sv22 (Xk key (((tK key info k) ++ info) ++ ([BitVec.ofInt 8 ((k + 1 : Nat) : Int)]))) Hs22 := g22
   refine Zz sv22 ?_
   refine rN (Qb ?_)
   refine Ya s7 <| Zp sv22 <| Vy (Xp (f := u8) (Hs := Ho) (H := Hs22 ++ ([_] ++ (Hs15 ++ (Ht ++ ([_]))))) (Mem.pick3 Hs22 [_] Hs15 Ho _ m22) goo rfl rfl (g22.rd m22) Zu Zu Y0 rfl Qy sD sD) ?_
   rintro sv23 w23 ⟨Hs23, m23, g23⟩
   replace g23 : Xe u8 5 sv23 (ol ++ (Xk key (((tK key info k) ++ info) ++ ([BitVec.ofInt 8 ((k + 1 : Nat) : Int)])))) Hs23 := g23
   refine Zz sv23 ?_
   refine Zv (Qh (Qb ?_))
   refine Ya s9 <| Qd (Zg (b := 1) rfl rfl oM oM) <| Zz (i64 (((k + 1 : Nat) : Int) + 1)) <| rN ?_
   have htn : Xk key (((tK key info k) ++ info) ++ ([BitVec.ofInt 8 ((k + 1 : Nat) : Int)])) = tK key info (k + 1) := by rw [Qh1, ← byte_int]
   have m24 := Mem.drop [_] _ (Mem.pick2 Hs23 Hs22 [_] _ m23)
   have m25 := Mem.drop Hs15 _ (Mem.pick2 Hs23 Hs22 Hs15 _ m24)
   have m26 := Mem.drop Ht _ (Mem.pick2 Hs23 Hs22 Ht _ m25)
   exact ⟨⟨k + 1, ol ++ (Xk key (((tK key info k) ++ info) ++ ([BitVec.ofInt 8 ((k + 1 : Nat) : Int)]))), sv23, Hs23, sv22, Hs22, oM, (.inr oM), (by rw [Qge, ← htn, hol]), g23, (htn ▸ g22), s0, s1, s2, s3, s6, rfl, rfl, (by show i64 _ = i64 _; congr 1), m26⟩, Uo (by show i64 _ = i64 _; congr 1) z9 (a' := ((k + 1 + 1 : Nat) : Int)) oM oM⟩
  ·
   have hc10p := of_decide_eq_false hc10
   refine X6 ?_
   refine Qm (Qm (Xi ?_))
   refine Qa ?_
   have hkn : k = (n.toNat + 31) / 32 := by omega
   refine Qb <| Ya s7 <| Ya s2 <| Qd (Jd (i := 0) (j := n) (goo.rd m8) Zu Y0 rfl (Zi _ _) (Yh (k := .i64) (i := n) rfl) oM sD sD) <| Zz (Ci so 0 n) ?_
   refine rN (Xb ?_)
   refine Qv [(Ci so 0 n)] ⟨rfl, trivial⟩ ?_
   have m27 := Mem.drop Ht _ (Mem.pick Ho Ht _ m8)
   have m28 := Mem.drop [_] _ (Mem.pick Ho [_] _ m27)
   have hfin : (ol.drop (0 : Int).toNat).take ((n : Int).toNat - (0 : Int).toNat) = Vd key info n.toNat := by rw [Qim, hol, hkn]; exact (Qje _ _ _).symm
   exact ⟨Ho, hfin ▸ (Xe.cast (l' := (ol.drop (0 : Int).toNat).take ((n : Int).toNat - (0 : Int).toNat)) (Xe.sub (i := 0) (j := n) goo oM sD sD) rfl), by simpa using m28⟩
 ·
  have hb9p := of_decide_eq_false hb9
  refine W9 (s := 16) rfl rfl hb9 rfl <| W9 (s := 16) rfl rfl hb9 rfl <| W9 (s := 16) rfl rfl hb9 rfl <| W9 (s := 16) rfl rfl hb9 rfl <| Qd (Y4 rfl hb9 rfl) <| rN <| Yy rfl Jg <| X6 ?_
  refine Qm (Qm (Xi ?_))
  refine Qa ?_
  have hkn : k = (n.toNat + 31) / 32 := by omega
  refine Qb <| Ya s7 <| Ya s2 <| Qd (Jd (i := 0) (j := n) (goo.rd m8) Zu Y0 rfl (Zi _ _) (Yh (k := .i64) (i := n) rfl) oM sD sD) <| Zz (Ci so 0 n) ?_
  refine rN (Xb ?_)
  refine Qv [(Ci so 0 n)] ⟨rfl, trivial⟩ ?_
  have m29 := Mem.drop Ht _ (Mem.pick Ho Ht _ m8)
  have m30 := Mem.drop [_] _ (Mem.pick Ho [_] _ m29)
  have hfin : (ol.drop (0 : Int).toNat).take ((n : Int).toNat - (0 : Int).toNat) = Vd key info n.toNat := by rw [Qim, hol, hkn]; exact (Qje _ _ _).symm
  exact ⟨Ho, hfin ▸ (Xe.cast (l' := (ol.drop (0 : Int).toNat).take ((n : Int).toNat - (0 : Int).toNat)) (Xe.sub (i := 0) (j := n) goo oM sD sD) rfl), by simpa using m30⟩
set_option maxHeartbeats 1000000 in
theorem c_keys (va : Value) (la : Xg) (vb : Value) (lb : Xg) (pu : ByteArray) (n : Int) (w0 : World)  (hT : Tabs (Jl w0)) (hra : Rd (Jl w0) u8 va la) (hla : la.length ≤ 1048576) (hrb : Rd (Jl w0) u8 vb lb) (hlb : lb.length ≤ 1048576) (hpu : pu.size ≤ 1048576) (hnr : -9223372036854775808 ≤ n ∧ n ≤ 9223372036854775807) : X9 prog 73 #[va, vb, (Value.string pu), (i64 n)] w0 (fun r w1 => ∃ v Hs, r = Value.tuple #[v, i64 (Qfs n)] ∧ Yz (Ug u8) 32 23 v (Wp la lb (Kv pu) n) Hs ∧ Mem w1 (Qu w0) Hs) := by
 refine Zb (args := [va, vb, (Value.string pu), (i64 n)]) func73 rfl ntmps73 results73 rfl ?_
 have m0 : Mem w0 (Qu w0) [] := Mem.of_world w0
 refine sR <| Zz Yj <| Zz (i64 0) ?_
 refine rN (Qa (sR ?_))
 refine Zp (i64 n) <| Qd (Z9 (b := 0) rfl rfl) <| rN ?_
 refine Z8 rfl (fun hc1 => ?_) (fun hc1 => ?_)
 ·
  have hc1p := of_decide_eq_true hc1
  refine sR <| Zz Yj <| Zz (i64 2) ?_
  refine rN (Xb (Y3 ?_))
  refine Qv [Yj, (i64 2)] ⟨rfl, rfl, trivial⟩ ?_
  have hbad : badK n = true := by simp [badK]; omega
  exact ⟨Value.slice none 0 0, [], by unfold Qfs; rw [if_pos hbad]; rfl, by unfold Wp S9; rw [if_pos hbad]; exact Yz.none _ _ _, m0⟩
 ·
  have hc1p := of_decide_eq_false hc1
  refine Qs (Qc (sR ?_))
  refine Zp va <| Zp vb <| U9 m0 (oc96 (Xm rfl rfl) (Qsb va la vb lb _ (hT.mono fun b o e => (m0).rest b o e) (Rd.ofRest hra m0) sD (Rd.ofRest hrb m0) sD)) fun w2 m2 => Zp (Value.string pu) <| Vy (Qha (s := pu) m2 uT9 Zu Gl rfl sD) ?_
  rintro _ w4 ⟨b18, cap4, cc4, fz4, rfl, e4, m4, hcv4⟩
  have m4 : Mem w4 (Qu w0) [(b18, .cells cc4 5 fz4)] := m4
  refine Zp (i64 n) <| Qd (v := (i64 (if 8160 < n then 8160 else n))) (Qpa (j := 8160) rfl rfl) <| Qd (Wl (b := 32) rfl rfl oM oM) <| Vy (oc95 (D6 rfl rfl rfl) (c_expand _ (Wq b18 0 pu.size cap4) (Kv pu) _ _ (hT.mono fun b o e => (m4).rest b o e) sD (hcv4 _ m4.h0) sD)) ?_
  rintro _ w5 ⟨vxq6, Hsq6, rfl, gvxq6, k_w5⟩
  have m5 : Mem _ _ (Hsq6 ++ ([_])) := Mem.new (H := [_]) (H' := Hsq6) m4 k_w5
  obtain ⟨X, hX⟩ : ∃ X, X = Vd (Wn la lb) (Kv pu) (32 * S9 n) := ⟨_, rfl⟩
  have hXl : X.length = 32 * S9 n := by rw [hX, Dt]
  have hmk := manyK_le n
  have hek := Qnt (key := Wn la lb) (info := Kv pu) (n := n) oM
  have gX7 := gvxq6
  rw [hek.1, ← hX] at gX7
  refine Zp (Value.tuple #[vxq6, (i64 (Qd3 ((if 8160 < n then 8160 else n) * 32)))]) <| Qd (v := vxq6) (Zm rfl rfl) <| Qd (v := (i64 (Qd3 ((if 8160 < n then 8160 else n) * 32)))) (Zm rfl rfl) <| Zz vxq6 <| Zz (i64 (Qd3 ((if 8160 < n then 8160 else n) * 32))) ?_
  refine rN (Qa (Qk ?_))
  refine Y7 (fun g wv => ∃ (j : Nat) (bq : Xg) (bv : Value) (Hb : List (Nat × Obj)) (sk : Value) (Hk : List (Nat × Obj)), (j ≤ S9 n) ∧ (bq = X.drop (32 * j)) ∧ (Xe u8 5 bv bq Hb) ∧ (Yz (Ug u8) 32 23 sk (Dh j X) Hk) ∧ g 0 = va ∧ g 1 = vb ∧ g 2 = (Value.string pu) ∧ g 3 = (i64 n) ∧ g 8 = sk ∧ g 9 = (i64 (Qd3 ((if 8160 < n then 8160 else n) * 32))) ∧ g 10 = bv ∧ g 12 = (bl (decide (n < 0))) ∧ Mem wv (Qu w0) (Hb ++ (Hk ++ ([])))) (fun g wv => sllen (g 10)) ?_ ?_
  have m8 := Mem.drop [_] _ (Mem.pick Hsq6 [_] _ m5)
  ·exact ⟨0, X, vxq6, Hsq6, Yj, [], (Nat.zero_le _), X7, gX7, (Yz.none (Ug u8) 32 23), rfl, rfl, rfl, rfl, rfl, rfl, rfl, rfl, m8⟩
  rintro fr9 w10 ⟨j, bq, bv, Hb, sk, Hk, hj, hbl, gbb, gkk, s0, s1, s2, s3, s8, s9, s10, s12, m10⟩
  have z10 := s10
  have z8 := s8
  have hbn : bq.length = 32 * S9 n - 32 * j := by rw [hbl, List.length_drop, hXl]
  refine Qa (sR ?_)
  refine Ya s10 <| Qd (Yl (gbb.rd m10) Zu rfl) <| Qd (Gm (b := 0) rfl rfl) <| rN ?_
  refine Z8 rfl (fun hc11 => ?_) (fun hc11 => ?_)
  ·
   have hc11p := of_decide_eq_true hc11
   refine Qs (Qc (V5 (sR ?_)))
   refine Ya s8 <| Ya s10 <| Qd (Jd (i := 0) (j := 32) (gbb.rd m10) Zu Y0 rfl (Zi _ _) (Yh (k := .i64) (i := 32) rfl) oM sD sD) <| Qd (ev_sap ((Xe.cast (l' := (bq.drop 0).take 32) (Xe.sub (i := 0) (j := 32) gbb oM sD sD) rfl).rd m10) Xq rfl sD) <| Qd (v := (agg u8 (((bq.drop 0).take 32).take 32))) (Qhk (l := (bq.drop 0).take 32) ((Xe.cast (l' := (bq.drop 0).take 32) (Xe.sub (i := 0) (j := 32) gbb oM sD sD) rfl).rd m10) Xq Zl rfl sD rfl) <| Y9 (Az (cs := (cl u8 (((bq.drop 0).take 32).take 32))) m10 Qcx Zl rfl rfl rfl sZ) fun w12 b33 m12 => ?_
   have m12 : Mem w12 (Qu w0) ([(b33, .cells (cl u8 (((bq.drop 0).take 32).take 32)) 23 (0, 0))] ++ (Hb ++ (Hk ++ ([])))) := m12
   refine Vy (Ad (enc := (Ug u8)) (k := 32) (Hs := Hk) (H := [_] ++ (Hb ++ ([]))) (Mem.pick2 [_] Hb Hk _ m12) gkk rfl rfl (RdK.ofOne (enc := (Ug u8)) (k := 32) (a := (((bq.drop 0).take 32).take 32)) m12.h0 rfl (by simp only [Ug, List.length_map]; first | omega | (simp; done) | (simp; omega) | decide)) Qcx Qcx Zl rfl rfl (fun _ _ => Jo Qy _) sD sD) ?_
   rintro sv13 w13 ⟨Hs13, m13, g13⟩
   replace g13 : Yz (Ug u8) 32 23 sv13 ((Dh j X) ++ ([((bq.drop 0).take 32).take 32])) Hs13 := g13
   refine Zz sv13 ?_
   refine rN (Qb ?_)
   refine Ya s10 <| Qd (Jd (i := 32) (j := (bq.length : Int)) (gbb.rd (Mem.pick2 Hs13 [_] Hb _ m13)) Zu Y0 rfl (Yh (k := .i64) (i := 32) rfl) (Zi _ _) oM sD sD) <| Zz (Ci bv 32 (bq.length : Int)) ?_
   refine Zv (Qh (Qc ?_))
   have m14 := Mem.drop [_] _ (Mem.pick Hs13 [_] _ m13)
   have m15 := (Mem.pick Hs13 Hb _ m14)
   exact ⟨⟨j + 1, ((bq.drop (32 : Int).toNat).take (((bq.length : Int) : Int).toNat - (32 : Int).toNat)), (Ci bv 32 (bq.length : Int)), Hb, sv13, Hs13, oM, (tail32 hbl), (Xe.cast (l' := (bq.drop (32 : Int).toNat).take (((bq.length : Int) : Int).toNat - (32 : Int).toNat)) (Xe.sub (i := 32) (j := (bq.length : Int)) gbb oM sD sD) rfl), (Yz.cast g13 (by rw [head32 hbl, ← Qhm])), s0, s1, s2, s3, rfl, s9, rfl, s12, m15⟩, (by show sllen (Ci bv 32 (bq.length : Int)) < sllen _; rw [z10, gbb.sllen, Xe.sllen (Xe.cast (l' := (bq.drop (32 : Int).toNat).take (((bq.length : Int) : Int).toNat - (32 : Int).toNat)) (Xe.sub (i := 32) (j := (bq.length : Int)) gbb oM sD sD) rfl)]; simp; omega)⟩
  ·
   have hc11p := of_decide_eq_false hc11
   refine X6 ?_
   refine Qm (Qm (Xi ?_))
   refine Qa ?_
   have hbn : bq.length = 32 * S9 n - 32 * j := by rw [hbl, List.length_drop, hXl]
   have hjn : j = S9 n := by omega
   refine Qb <| Ya s8 <| Ya s9 <| Zz sk <| Zz (i64 (Qd3 ((if 8160 < n then 8160 else n) * 32))) ?_
   refine rN (Xb ?_)
   refine Qv [sk, (i64 (Qd3 ((if 8160 < n then 8160 else n) * 32)))] ⟨rfl, rfl, trivial⟩ ?_
   have m16 := Mem.drop Hb _ m10
   exact ⟨sk, Hk, by rw [← hek.2]; rfl, by unfold Wp; rw [← hX, ← hjn]; exact gkk, by simpa using m16⟩
end Go.Proofs.YtkmiemlpfkfiiaaDoor
