/- Contracts: kdf, second part. Conditions: none beyond those that each theorem states. -/
import Derived.Test.YtkmiemlpfkfiiaaDoorKd1
namespace Go.Proofs.YtkmiemlpfkfiiaaDoor
open BitVec renaming ofInt → aB
open Mem renaming drop → aF, of_world → aY, pick → aC, pick2 → aN
open Value renaming string → eH, tuple → ak
open Tryd
set_option linter.unusedVariables false
set_option linter.unusedSimpArgs false
def Df (m : Nat) (L : Z4) : List Z4 := (List.range m).map fun i => (L.drop (32 * i)).take 32
theorem Qih (m : Nat) (L : Z4) : Df (m + 1) L = Df m L ++ [(L.drop (32 * m)).take 32] := by unfold Df; rw [List.range_succ, List.map_append]; rfl
@[simp] theorem Qdt (m : Nat) (L : Z4) : (Df m L).length = m := by simp [Df]
def badK (n : Int) : Bool := decide (n < 0) || decide (255 < n)
def Qgp (n : Int) : Int := if badK n then 2 else 0
def Tf (n : Int) : Nat := if badK n then 0 else n.toNat
theorem manyK_le (n : Int) : Tf n ≤ 255 := by
 unfold Tf badK; split
 ·omega
 rename_i h; simp at h; omega
def Wh (salt secret purpose : Z4) (n : Int) : List Z4 := Df (Tf n) (Wv (Kw salt secret) purpose (32 * Tf n))
theorem Qpf {key info : Z4} {n : Int} (h : 0 ≤ n) : Rh key info ((if 8160 < n then 8160 else n) * 32) = Wv key info (32 * Tf n) ∧ Qek ((if 8160 < n then 8160 else n) * 32) = Qgp n := by
 by_cases hb : 255 < n
 ·have h1 : badK n = true := by simp [badK, hb]
  have h2 : Qit ((if 8160 < n then 8160 else n) * 32) = true := by
   unfold Qit; split <;> simp <;> omega
  unfold Rh Qek Qgp Tf
  rw [h1, h2]
  simp [Wv, Qe5]
 have h1 : badK n = false := by simp [badK]; omega
 have h3 : (if 8160 < n then 8160 else n) = n := if_neg oM
 have h2 : Qit (n * 32) = false := by unfold Qit; simp; omega
 unfold Rh Qek Qgp Tf
 rw [h3, h1, h2]
 have e : (n * 32).toNat = 32 * n.toNat := by omega
 simp [e]
theorem Qjh {ol : Z4} {n : Int} : (ol.drop (0 : Int).toNat).take ((n : Int).toNat - (0 : Int).toNat) = ol.take n.toNat := by
 rw [show (0 : Int).toNat = 0 from rfl, List.drop_zero, Nat.sub_zero]
theorem tail32 {X bl : Z4} {j : Nat} (h : bl = X.drop (32 * j)) : (bl.drop (32 : Int).toNat).take ((bl.length : Int).toNat - (32 : Int).toNat) = X.drop (32 * (j + 1)) := by
 subst h
 have e : (32 : Int).toNat = 32 := rfl
 rw [e, List.take_of_length_le (by simp; omega), List.drop_drop]; congr 1
theorem head32 {X bl : Z4} {j : Nat} (h : bl = X.drop (32 * j)) : ((bl.drop 0).take 32).take 32 = (X.drop (32 * j)).take 32 := by
 subst h; rw [List.drop_zero, List.take_take]; rfl
theorem Qka (key info : Z4) (n : Nat) : Wv key info n = (Qe5 key info ((n + 31) / 32)).take n := rfl
attribute [local irreducible] Xc tK Qe5 Wv Kw
set_option maxHeartbeats 1000000 in
theorem Qur (key : Z4) (vi : Value) (info : Z4) (n : Int) (w0 : World)  (hk : key.length = 32) (hri : Rd (Jd w0) u8 vi info) (hli : info.length ≤ 1048576) (hn : 0 ≤ n ∧ n ≤ 8160) : Xz prog 92 #[(agg u8 key), vi, (i64 n)] w0 (fun r w1 => ∃ Hs, Z9 u8 5 r (Wv key info n.toNat) Hs ∧ Mem w1 (Qs w0) Hs) := by
 refine Qz (args := [(agg u8 key), vi, (i64 n)]) func92 rfl ntmps92 results92 rfl ?_
 have m0 : Mem w0 (Qs w0) [] := aY w0
 refine sR <| Y5 (Z5 (f := u8) (l := key) m0 rfl) fun w1 b3 m1 => Zx J3 ?_
 refine rN (sR ?_)
 refine Y5 (Qp u8 [] Qr m1 Zn Yr rfl (by simp [Bz]) rfl) fun w2 b12 m2 => Y5 (Qp u8 [] Qr m2 Zn Yr rfl (by simp [Bz]) rfl) fun w3 b13 m3 => Zx (Wi b12 0 0 0) <| Zx (Wi b13 0 0 0) ?_
 refine rN (Qa (sR ?_))
 refine Zx (i64 1) ?_
 refine rN (Qh ?_)
 refine Y1 (fun g wv => ∃ (k : Nat) (ol : Z4) (so : Value) (Ho : List (Nat × Obj)) (vt : Value) (Ht : List (Nat × Obj)), (k ≤ 255) ∧ (k = 0 ∨ 32 * ((k : Int) - 1) < n) ∧ (ol = Qe5 key info k) ∧ (Z9 u8 5 so ol Ho) ∧ (Z9 u8 5 vt (tK key info k) Ht) ∧ g 0 = (agg u8 key) ∧ g 1 = vi ∧ g 2 = (i64 n) ∧ g 3 = (ptr b3 0) ∧ g 6 = J3 ∧ g 7 = so ∧ g 8 = vt ∧ g 9 = (i64 ((k + 1 : Nat) : Int)) ∧ Mem wv (Qs w0) (Ho ++ (Ht ++ ([(b3, .cells (cl u8 key) 23 (0, 0))])))) (fun g wv => (257 - RowKit.intOf (g 9)).toNat) ?_ ?_
 have m4 := (aC [_, _] [_] _ m3)
 have m5 := (aC [_] [_] _ m4)
 have m6 := (aC [_, _] [_] _ m5)
 ·exact ⟨0, [], (Wi b12 0 0 0), [(b12, .cells (cl u8 ([])) 5 (0, 0))], (Wi b13 0 0 0), [(b13, .cells (cl u8 ([])) 5 (0, 0))], oM, (.inl rfl), (Qlr _ _).symm, (Z9.of u8 5 b12 []), ((Qr5 key info).symm ▸ Z9.of u8 5 b13 []), rfl, rfl, rfl, rfl, rfl, rfl, rfl, rfl, m6⟩
 rintro fr7 w8 ⟨k, ol, so, Ho, vt, Ht, hk255, hk0, hol, goo, gvt, s0, s1, s2, s3, s6, s7, s8, s9, m8⟩
 have z7 := s7
 have z8 := s8
 have z9 := s9
 have holn : ol.length = 32 * k := by rw [hol, Qj0]
 have htl := tK_le key info k
 refine Qa (sR ?_)
 refine X9 s9 <| Qd (Qq5 (b := 255) rfl rfl) <| Zm (bl (decide (((k + 1 : Nat) : Int) ≤ 255))) ?_
 rcases Bool.eq_false_or_eq_true (decide (((k + 1 : Nat) : Int) ≤ 255)) with hb9 | hb9
 ·
  have hb9p := of_decide_eq_true hb9
  refine Yf (s := 16) rfl rfl hb9 rfl (Jb s7) <| Yf (s := 16) rfl rfl hb9 rfl (Yi (goo.rd m8) Zn rfl) <| Yf (s := 16) rfl rfl hb9 rfl (Jb s2) <| Yf (s := 16) rfl rfl hb9 rfl (Xd rfl rfl) <| Qd (G6 rfl hb9 rfl) <| rN ?_
  refine Zz rfl (fun hc10 => ?_) (fun hc10 => ?_)
  ·
   have hc10p := of_decide_eq_true hc10
   refine Qo (Qc (Qa (Qh (sR ?_))))
   refine Y5 (Qp u8 [] Qr m8 Zn Yr rfl (by simp [Bz]) rfl) fun w11 b24 m11 => X9 s8 <| Vr (Xh (f := u8) (Hs := [(b24, .cells (cl u8 ([])) 5 (0, 0))]) (H := Ho ++ (Ht ++ ([_]))) m11 (Z9.of u8 5 b24 ([])) rfl rfl (gvt.rd (aN [_] Ho Ht _ m11)) Zn Zn Yr rfl Qr sD sD) ?_
   rintro sv12 w12 ⟨Hs12, m12, g12⟩
   replace g12 : Z9 u8 5 sv12 (tK key info k) Hs12 := g12
   refine Zx sv12 ?_
   refine rN (sR ?_)
   refine Zm sv12 <| X9 s1 <| Vr (Xh (f := u8) (Hs := Hs12) (H := Ho ++ (Ht ++ ([_]))) m12 g12 rfl rfl (Rd.ofRest hri m12) Zn Zn Yr rfl Qr sD sD) ?_
   rintro sv13 w13 ⟨Hs13, m13, g13⟩
   replace g13 : Z9 u8 5 sv13 ((tK key info k) ++ info) Hs13 := g13
   refine Zx sv13 ?_
   refine rN (sR ?_)
   refine Zm sv13 <| X9 s9 <| Qd (Fq ⟨_, Fa⟩ V3 rfl) <| Y5 (Qp u8 [aB 8 ((k + 1 : Nat) : Int)] Qr m13 Zn Yr rfl rfl rfl) fun w14 b33 m14 => Vr (Xh (f := u8) (Hs := Hs13) (H := [_] ++ (Ho ++ (Ht ++ ([_])))) (aC [_] Hs13 _ m14) g13 rfl rfl (Rd.mkA m14.h0) Zn Zn Yr rfl Qr sD sD) ?_
   rintro sv15 w15 ⟨Hs15, m15, g15⟩
   replace g15 : Z9 u8 5 sv15 (((tK key info k) ++ info) ++ ([aB 8 ((k + 1 : Nat) : Int)])) Hs15 := g15
   refine Zx sv15 ?_
   refine rN (sR ?_)
   refine Qd (Xj (i := 0) (j := 32) Xn Yr s3 (Zd _ _) (Zd _ _) oM sD sD) <| Zm sv15 <| U5 m15 (oc69 (Xl rfl rfl) (Tt (sla b3 0 1 0 32 32) key sv15 (((tK key info k) ++ info) ++ ([aB 8 ((k + 1 : Nat) : Int)])) _ (Rd.slaAll ((Mem.pick4 Hs15 [_] Ho Ht [_] _ m15)).h0 sD) sD (g15.rd m15) sD)) fun w16 m16 => Y5 (Q7 m16 Zh) fun w18 b11 m18 => Ye m18 (Qg (f := u8) (l := Xc key (((tK key info k) ++ info) ++ ([aB 8 ((k + 1 : Nat) : Int)]))) Qr Zh rfl rfl sD m18.h0 sZ rfl) fun w19 m19 => rN ?_
   have m20 := aF [_] _ (aN [_] Hs15 [_] _ m19)
   refine sR <| Y5 (Qp u8 [] Qr m20 Zn Yr rfl (by simp [Bz]) rfl) fun w21 b38 m21 => Qd (Xj (i := 0) (j := 32) Xn Yr rfl (Zd _ _) (Zd _ _) oM sD sD) <| Vr (Xh (f := u8) (Hs := [(b38, .cells (cl u8 ([])) 5 (0, 0))]) (H := [_] ++ (Hs15 ++ (Ho ++ (Ht ++ ([_]))))) m21 (Z9.of u8 5 b38 ([])) rfl rfl (Rd.slaAll m21.h1 sD) Zn Zn Yr rfl Qr sD sD) ?_
   rintro sv22 w22 ⟨Hs22, m22, g22⟩
   replace g22 : Z9 u8 5 sv22 (Xc key (((tK key info k) ++ info) ++ ([aB 8 ((k + 1 : Nat) : Int)]))) Hs22 := g22
   refine Zx sv22 ?_
   refine rN (Qb ?_)
   refine X9 s7 <| Zm sv22 <| Vr (Xh (f := u8) (Hs := Ho) (H := Hs22 ++ ([_] ++ (Hs15 ++ (Ht ++ ([_]))))) (Mem.pick3 Hs22 [_] Hs15 Ho _ m22) goo rfl rfl (g22.rd m22) Zn Zn Yr rfl Qr sD sD) ?_
   rintro sv23 w23 ⟨Hs23, m23, g23⟩
   replace g23 : Z9 u8 5 sv23 (ol ++ (Xc key (((tK key info k) ++ info) ++ ([aB 8 ((k + 1 : Nat) : Int)])))) Hs23 := g23
   refine Zx sv23 ?_
   refine Zp (Qe (Qb ?_))
   refine X9 s9 <| Qd (Zg (b := 1) rfl rfl oM oM) <| Zx (i64 (((k + 1 : Nat) : Int) + 1)) <| rN ?_
   have htn : Xc key (((tK key info k) ++ info) ++ ([aB 8 ((k + 1 : Nat) : Int)])) = tK key info (k + 1) := by rw [Qiv, ← byte_int]
   have m24 := aF [_] _ (aN Hs23 Hs22 [_] _ m23)
   have m25 := aF Hs15 _ (aN Hs23 Hs22 Hs15 _ m24)
   have m26 := aF Ht _ (aN Hs23 Hs22 Ht _ m25)
   exact ⟨⟨k + 1, ol ++ (Xc key (((tK key info k) ++ info) ++ ([aB 8 ((k + 1 : Nat) : Int)]))), sv23, Hs23, sv22, Hs22, oM, (.inr oM), (by rw [Qha, ← htn, hol]), g23, (htn ▸ g22), s0, s1, s2, s3, s6, rfl, rfl, (by show i64 _ = i64 _; congr 1), m26⟩, Uj (by show i64 _ = i64 _; congr 1) z9 (a' := ((k + 1 + 1 : Nat) : Int)) oM oM⟩
  ·
   have hc10p := of_decide_eq_false hc10
   refine X3 ?_
   refine Qj (Qj (Xk ?_))
   refine Qa ?_
   have hkn : k = (n.toNat + 31) / 32 := by omega
   refine Qb <| X9 s7 <| X9 s2 <| Qd (Y8 (i := 0) (j := n) (goo.rd m8) Zn Yr rfl (Zd _ _) (Yb (k := .i64) (i := n) rfl) oM sD sD) <| Zx (Cf so 0 n) ?_
   refine rN (Z8 ?_)
   refine Qq [(Cf so 0 n)] ⟨rfl, trivial⟩ ?_
   have m27 := aF Ht _ (aC Ho Ht _ m8)
   have m28 := aF [_] _ (aC Ho [_] _ m27)
   have hfin : (ol.drop (0 : Int).toNat).take ((n : Int).toNat - (0 : Int).toNat) = Wv key info n.toNat := by rw [Qjh, hol, hkn]; exact (Qka _ _ _).symm
   exact ⟨Ho, hfin ▸ (Z9.cast (l' := (ol.drop (0 : Int).toNat).take ((n : Int).toNat - (0 : Int).toNat)) (Z9.sub (i := 0) (j := n) goo oM sD sD) rfl), by simpa using m28⟩
 ·
  have hb9p := of_decide_eq_false hb9
  refine Fe (s := 16) rfl rfl hb9 rfl <| Fe (s := 16) rfl rfl hb9 rfl <| Fe (s := 16) rfl rfl hb9 rfl <| Fe (s := 16) rfl rfl hb9 rfl <| Qd (Wn rfl hb9 rfl) <| rN <| Ja rfl Yx <| X3 ?_
  refine Qj (Qj (Xk ?_))
  refine Qa ?_
  have hkn : k = (n.toNat + 31) / 32 := by omega
  refine Qb <| X9 s7 <| X9 s2 <| Qd (Y8 (i := 0) (j := n) (goo.rd m8) Zn Yr rfl (Zd _ _) (Yb (k := .i64) (i := n) rfl) oM sD sD) <| Zx (Cf so 0 n) ?_
  refine rN (Z8 ?_)
  refine Qq [(Cf so 0 n)] ⟨rfl, trivial⟩ ?_
  have m29 := aF Ht _ (aC Ho Ht _ m8)
  have m30 := aF [_] _ (aC Ho [_] _ m29)
  have hfin : (ol.drop (0 : Int).toNat).take ((n : Int).toNat - (0 : Int).toNat) = Wv key info n.toNat := by rw [Qjh, hol, hkn]; exact (Qka _ _ _).symm
  exact ⟨Ho, hfin ▸ (Z9.cast (l' := (ol.drop (0 : Int).toNat).take ((n : Int).toNat - (0 : Int).toNat)) (Z9.sub (i := 0) (j := n) goo oM sD sD) rfl), by simpa using m30⟩
set_option maxHeartbeats 1000000 in
theorem c_keys (va : Value) (la : Z4) (vb : Value) (lb : Z4) (pu : ByteArray) (n : Int) (w0 : World)  (hT : Tabs (Jd w0)) (hra : Rd (Jd w0) u8 va la) (hla : la.length ≤ 1048576) (hrb : Rd (Jd w0) u8 vb lb) (hlb : lb.length ≤ 1048576) (hpu : pu.size ≤ 1048576) (hnr : -9223372036854775808 ≤ n ∧ n ≤ 9223372036854775807) : Xz prog 73 #[va, vb, (eH pu), (i64 n)] w0 (fun r w1 => ∃ v Hs, r = ak #[v, i64 (Qgp n)] ∧ Yu (F6 u8) 32 23 v (Wh la lb (J4 pu) n) Hs ∧ Mem w1 (Qs w0) Hs) := by
 refine Qz (args := [va, vb, (eH pu), (i64 n)]) func73 rfl ntmps73 results73 rfl ?_
 have m0 : Mem w0 (Qs w0) [] := aY w0
 refine sR <| Zx J3 <| Zx (i64 0) ?_
 refine rN (Qa (sR ?_))
 refine Zm (i64 n) <| Qd (Xd (b := 0) rfl rfl) <| rN ?_
 refine Zz rfl (fun hc1 => ?_) (fun hc1 => ?_)
 ·
  have hc1p := of_decide_eq_true hc1
  refine sR <| Zx J3 <| Zx (i64 2) ?_
  refine rN (Z8 (Yz ?_))
  refine Qq [J3, (i64 2)] ⟨rfl, rfl, trivial⟩ ?_
  have hbad : badK n = true := by simp [badK]; omega
  exact ⟨Value.slice none 0 0, [], by unfold Qgp; rw [if_pos hbad]; rfl, by unfold Wh Tf; rw [if_pos hbad]; exact Yu.none _ _ _, m0⟩
 ·
  have hc1p := of_decide_eq_false hc1
  refine Qo (Qc (sR ?_))
  refine Zm va <| Zm vb <| U5 m0 (oc96 (Xl rfl rfl) (Quu va la vb lb _ (hT.mono fun b o e => (m0).rest b o e) (Rd.ofRest hra m0) sD (Rd.ofRest hrb m0) sD)) fun w2 m2 => Zm (eH pu) <| Vr (Qh4 (s := pu) m2 uT9 Zn V3 rfl sD) ?_
  rintro _ w4 ⟨b18, cap4, cc4, fz4, rfl, e4, m4, hcv4⟩
  have m4 : Mem w4 (Qs w0) [(b18, .cells cc4 5 fz4)] := m4
  refine Zm (i64 n) <| Qd (v := (i64 (if 8160 < n then 8160 else n))) (Qq0 (j := 8160) rfl rfl) <| Qd (Ku (b := 32) rfl rfl oM oM) <| Vr (oc95 (Dy rfl rfl rfl) (c_expand _ (Wi b18 0 pu.size cap4) (J4 pu) _ _ (hT.mono fun b o e => (m4).rest b o e) sD (hcv4 _ m4.h0) sD)) ?_
  rintro _ w5 ⟨vxq6, Hsq6, rfl, gvxq6, k_w5⟩
  have m5 : Mem _ _ (Hsq6 ++ ([_])) := Mem.new (H := [_]) (H' := Hsq6) m4 k_w5
  obtain ⟨X, hX⟩ : ∃ X, X = Wv (Kw la lb) (J4 pu) (32 * Tf n) := ⟨_, rfl⟩
  have hXl : X.length = 32 * Tf n := by rw [hX, Du]
  have hmk := manyK_le n
  have hek := Qpf (key := Kw la lb) (info := J4 pu) (n := n) oM
  have gX7 := gvxq6
  rw [hek.1, ← hX] at gX7
  refine Zm (ak #[vxq6, (i64 (Qek ((if 8160 < n then 8160 else n) * 32)))]) <| Qd (v := vxq6) (Zr rfl rfl) <| Qd (v := (i64 (Qek ((if 8160 < n then 8160 else n) * 32)))) (Zr rfl rfl) <| Zx vxq6 <| Zx (i64 (Qek ((if 8160 < n then 8160 else n) * 32))) ?_
  refine rN (Qa (Qh ?_))
  refine Y1 (fun g wv => ∃ (j : Nat) (bq : Z4) (bv : Value) (Hb : List (Nat × Obj)) (sk : Value) (Hk : List (Nat × Obj)), (j ≤ Tf n) ∧ (bq = X.drop (32 * j)) ∧ (Z9 u8 5 bv bq Hb) ∧ (Yu (F6 u8) 32 23 sk (Df j X) Hk) ∧ g 0 = va ∧ g 1 = vb ∧ g 2 = (eH pu) ∧ g 3 = (i64 n) ∧ g 8 = sk ∧ g 9 = (i64 (Qek ((if 8160 < n then 8160 else n) * 32))) ∧ g 10 = bv ∧ g 12 = (bl (decide (n < 0))) ∧ Mem wv (Qs w0) (Hb ++ (Hk ++ ([])))) (fun g wv => sllen (g 10)) ?_ ?_
  have m8 := aF [_] _ (aC Hsq6 [_] _ m5)
  ·exact ⟨0, X, vxq6, Hsq6, J3, [], (Nat.zero_le _), Ya, gX7, (Yu.none (F6 u8) 32 23), rfl, rfl, rfl, rfl, rfl, rfl, rfl, rfl, m8⟩
  rintro fr9 w10 ⟨j, bq, bv, Hb, sk, Hk, hj, hbl, gbb, gkk, s0, s1, s2, s3, s8, s9, s10, s12, m10⟩
  have z10 := s10
  have z8 := s8
  have hbn : bq.length = 32 * Tf n - 32 * j := by rw [hbl, List.length_drop, hXl]
  refine Qa (sR ?_)
  refine X9 s10 <| Qd (Yi (gbb.rd m10) Zn rfl) <| Qd (G7 (b := 0) rfl rfl) <| rN ?_
  refine Zz rfl (fun hc11 => ?_) (fun hc11 => ?_)
  ·
   have hc11p := of_decide_eq_true hc11
   refine Qo (Qc (Gh (sR ?_)))
   refine X9 s8 <| X9 s10 <| Qd (Y8 (i := 0) (j := 32) (gbb.rd m10) Zn Yr rfl (Zd _ _) (Yb (k := .i64) (i := 32) rfl) oM sD sD) <| Qd (ev_sap ((Z9.cast (l' := (bq.drop 0).take 32) (Z9.sub (i := 0) (j := 32) gbb oM sD sD) rfl).rd m10) Xn rfl sD) <| Qd (v := (agg u8 (((bq.drop 0).take 32).take 32))) (Qif (l := (bq.drop 0).take 32) ((Z9.cast (l' := (bq.drop 0).take 32) (Z9.sub (i := 0) (j := 32) gbb oM sD sD) rfl).rd m10) Xn Zh rfl sD rfl) <| Y5 (Ha (cs := (cl u8 (((bq.drop 0).take 32).take 32))) m10 Qc5 Zh rfl rfl rfl sZ) fun w12 b33 m12 => ?_
   have m12 : Mem w12 (Qs w0) ([(b33, .cells (cl u8 (((bq.drop 0).take 32).take 32)) 23 (0, 0))] ++ (Hb ++ (Hk ++ ([])))) := m12
   refine Vr (Ae (enc := (F6 u8)) (k := 32) (Hs := Hk) (H := [_] ++ (Hb ++ ([]))) (aN [_] Hb Hk _ m12) gkk rfl rfl (RdK.ofOne (enc := (F6 u8)) (k := 32) (a := (((bq.drop 0).take 32).take 32)) m12.h0 rfl (by simp only [F6, List.length_map]; first | omega | (simp; done) | (simp; omega) | decide)) Qc5 Qc5 Zh rfl rfl (fun _ _ => Jf Qr _) sD sD) ?_
   rintro sv13 w13 ⟨Hs13, m13, g13⟩
   replace g13 : Yu (F6 u8) 32 23 sv13 ((Df j X) ++ ([((bq.drop 0).take 32).take 32])) Hs13 := g13
   refine Zx sv13 ?_
   refine rN (Qb ?_)
   refine X9 s10 <| Qd (Y8 (i := 32) (j := (bq.length : Int)) (gbb.rd (aN Hs13 [_] Hb _ m13)) Zn Yr rfl (Yb (k := .i64) (i := 32) rfl) (Zd _ _) oM sD sD) <| Zx (Cf bv 32 (bq.length : Int)) ?_
   refine Zp (Qe (Qc ?_))
   have m14 := aF [_] _ (aC Hs13 [_] _ m13)
   have m15 := (aC Hs13 Hb _ m14)
   exact ⟨⟨j + 1, ((bq.drop (32 : Int).toNat).take (((bq.length : Int) : Int).toNat - (32 : Int).toNat)), (Cf bv 32 (bq.length : Int)), Hb, sv13, Hs13, oM, (tail32 hbl), (Z9.cast (l' := (bq.drop (32 : Int).toNat).take (((bq.length : Int) : Int).toNat - (32 : Int).toNat)) (Z9.sub (i := 32) (j := (bq.length : Int)) gbb oM sD sD) rfl), (Yu.cast g13 (by rw [head32 hbl, ← Qih])), s0, s1, s2, s3, rfl, s9, rfl, s12, m15⟩, (by show sllen (Cf bv 32 (bq.length : Int)) < sllen _; rw [z10, gbb.sllen, Z9.sllen (Z9.cast (l' := (bq.drop (32 : Int).toNat).take (((bq.length : Int) : Int).toNat - (32 : Int).toNat)) (Z9.sub (i := 32) (j := (bq.length : Int)) gbb oM sD sD) rfl)]; simp; omega)⟩
  ·
   have hc11p := of_decide_eq_false hc11
   refine X3 ?_
   refine Qj (Qj (Xk ?_))
   refine Qa ?_
   have hbn : bq.length = 32 * Tf n - 32 * j := by rw [hbl, List.length_drop, hXl]
   have hjn : j = Tf n := by omega
   refine Qb <| X9 s8 <| X9 s9 <| Zx sk <| Zx (i64 (Qek ((if 8160 < n then 8160 else n) * 32))) ?_
   refine rN (Z8 ?_)
   refine Qq [sk, (i64 (Qek ((if 8160 < n then 8160 else n) * 32)))] ⟨rfl, rfl, trivial⟩ ?_
   have m16 := aF Hb _ m10
   exact ⟨sk, Hk, by rw [← hek.2]; rfl, by unfold Wh; rw [← hX, ← hjn]; exact gkk, by simpa using m16⟩
end Go.Proofs.YtkmiemlpfkfiiaaDoor
