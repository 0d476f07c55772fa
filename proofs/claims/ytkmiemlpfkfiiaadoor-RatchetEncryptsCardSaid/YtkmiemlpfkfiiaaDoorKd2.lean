/- Contracts: kdf, second part. Conditions: none beyond those that each theorem states. -/
import Derived.Test.YtkmiemlpfkfiiaaDoorKd1
namespace Go.Proofs.YtkmiemlpfkfiiaaDoor
set_option linter.unusedVariables false
set_option linter.unusedSimpArgs false
def Uw (m : Nat) (L : List (BitVec 8)) : List (List (BitVec 8)) := (List.range m).map fun i => (L.drop (32 * i)).take 32
theorem Qet (m : Nat) (L : List (BitVec 8)) : Uw (m + 1) L = Uw m L ++ [(L.drop (32 * m)).take 32] := by unfold Uw; rw [List.range_succ, List.map_append]; rfl
@[simp] theorem Qa8 (m : Nat) (L : List (BitVec 8)) : (Uw m L).length = m := by simp [Uw]
def badK (n : Int) : Bool := decide (n < 0) || decide (255 < n)
def Qdj (n : Int) : Int := if badK n then 2 else 0
def Le (n : Int) : Nat := if badK n then 0 else n.toNat
theorem manyK_le (n : Int) : Le n ≤ 255 := by
 unfold Le badK; split
 ·omega
 rename_i h; simp at h; omega
def Jc (salt secret purpose : List (BitVec 8)) (n : Int) : List (List (BitVec 8)) := Uw (Le n) (J4 (Jm salt secret) purpose (32 * Le n))
theorem Qkb {key info : List (BitVec 8)} {n : Int} (h : 0 ≤ n) : Aw key info ((if 8160 < n then 8160 else n) * 32) = J4 key info (32 * Le n) ∧ Qby ((if 8160 < n then 8160 else n) * 32) = Qdj n := by
 by_cases hb : 255 < n
 ·have h1 : badK n = true := by simp [badK, hb]
  have h2 : Qe8 ((if 8160 < n then 8160 else n) * 32) = true := by
   unfold Qe8; split <;> simp <;> omega
  unfold Aw Qby Qdj Le
  rw [h1, h2]
  simp [J4, Qce]
 have h1 : badK n = false := by simp [badK]; omega
 have h3 : (if 8160 < n then 8160 else n) = n := if_neg oM
 have h2 : Qe8 (n * 32) = false := by unfold Qe8; simp; omega
 unfold Aw Qby Qdj Le
 rw [h3, h1, h2]
 have e : (n * 32).toNat = 32 * n.toNat := by omega
 simp [e]
theorem Qfo {ol : List (BitVec 8)} {n : Int} : (ol.drop (0 : Int).toNat).take ((n : Int).toNat - (0 : Int).toNat) = ol.take n.toNat := by
 rw [show (0 : Int).toNat = 0 from rfl, List.drop_zero, Nat.sub_zero]
theorem tail32 {X bl : List (BitVec 8)} {j : Nat} (h : bl = X.drop (32 * j)) : (bl.drop (32 : Int).toNat).take ((bl.length : Int).toNat - (32 : Int).toNat) = X.drop (32 * (j + 1)) := by
 subst h
 have e : (32 : Int).toNat = 32 := rfl
 rw [e, List.take_of_length_le (by simp; omega), List.drop_drop]; congr 1
theorem head32 {X bl : List (BitVec 8)} {j : Nat} (h : bl = X.drop (32 * j)) : ((bl.drop 0).take 32).take 32 = (X.drop (32 * j)).take 32 := by
 subst h; rw [List.drop_zero, List.take_take]; rfl
theorem Qgb (key info : List (BitVec 8)) (n : Nat) : J4 key info n = (Qce key info ((n + 31) / 32)).take n := rfl
attribute [local irreducible] X7 tK Qce J4 Jm
set_option maxHeartbeats 1000000 in
theorem Qom (key : List (BitVec 8)) (vi : Value) (info : List (BitVec 8)) (n : Int) (w0 : World)  (hk : key.length = 32) (hri : Rd (Yq w0) u8 vi info) (hli : info.length ≤ 1048576) (hn : 0 ≤ n ∧ n ≤ 8160) : Xz Tryd.prog 92 #[(agg u8 key), vi, (i64 n)] w0 (fun r w1 => ∃ Hs, Zv u8 5 r (J4 key info n.toNat) Hs ∧ Mem w1 (Qy w0) Hs) := by
 refine Zd (args := [(agg u8 key), vi, (i64 n)]) Tryd.func92 rfl Tryd.ntmps92 Tryd.results92 rfl ?_
 have m0 : Mem w0 (Qy w0) [] := Mem.of_world w0
 refine sR <| Za rfl (Z8 (f := u8) (l := key) m0 rfl) ?_
 rintro _ w1 ⟨b3, rfl, e1, m1⟩
 refine Qa rfl (Qc (v := (Value.slice none 0 0)) rfl) ?_
 refine rN (sR ?_)
 refine Za rfl (Ql u8 [] Qu m1 Zi X6 rfl (by simp [Jo]) rfl) ?_
 rintro _ w2 ⟨b12, rfl, e2, m2⟩
 refine Za rfl (Ql u8 [] Qu m2 Zi X6 rfl (by simp [Jo]) rfl) ?_
 rintro _ w3 ⟨b13, rfl, e3, m3⟩
 refine Qa rfl (Qc (v := (Ko b12 0 0 0)) rfl) <| Qa rfl (Qc (v := (Ko b13 0 0 0)) rfl) ?_
 refine rN (Qg (sR ?_))
 refine Qa rfl (Qc (v := (i64 1)) rfl) ?_
 refine rN (Qo ?_)
 refine Yo (fun g wv => ∃ (k : Nat) (ol : List (BitVec 8)) (so : Value) (Ho : List (Nat × Obj)) (vt : Value) (Ht : List (Nat × Obj)), (k ≤ 255) ∧ (k = 0 ∨ 32 * ((k : Int) - 1) < n) ∧ (ol = Qce key info k) ∧ (Zv u8 5 so ol Ho) ∧ (Zv u8 5 vt (tK key info k) Ht) ∧ g 0 = (agg u8 key) ∧ g 1 = vi ∧ g 2 = (i64 n) ∧ g 3 = (ptr b3 0) ∧ g 6 = (Value.slice none 0 0) ∧ g 7 = so ∧ g 8 = vt ∧ g 9 = (i64 ((k + 1 : Nat) : Int)) ∧ Mem wv (Qy w0) (Ho ++ (Ht ++ ([(b3, .cells (cl u8 key) 23 (0, 0))])))) (fun g wv => (257 - RowKit.intOf (g 9)).toNat) ?_ ?_
 have m4 := (Mem.pick [_, _] [_] _ m3)
 have m5 := (Mem.pick [_] [_] _ m4)
 have m6 := (Mem.pick [_, _] [_] _ m5)
 ·exact ⟨0, [], (Ko b12 0 0 0), [(b12, .cells (cl u8 ([])) 5 (0, 0))], (Ko b13 0 0 0), [(b13, .cells (cl u8 ([])) 5 (0, 0))], oM, (.inl rfl), (Qho _ _).symm, (Zv.of u8 5 b12 []), ((Qmn key info).symm ▸ Zv.of u8 5 b13 []), rfl, rfl, rfl, rfl, rfl, rfl, rfl, rfl, m6⟩
 rintro fr7 w8 ⟨k, ol, so, Ho, vt, Ht, hk255, hk0, hol, goo, gvt, s0, s1, s2, s3, s6, s7, s8, s9, m8⟩
 have z7 := s7
 have z8 := s8
 have z9 := s9
 have holn : ol.length = 32 * k := by rw [hol, Qf2]
 have htl := tK_le key info k
 refine Qg (sR ?_)
 refine rM rfl s9 <| Qa rfl (Qgf (b := 255) rfl rfl) <| Qa rfl (Qb (v := (bl (decide (((k + 1 : Nat) : Int) ≤ 255)))) rfl) ?_
 rcases Bool.eq_false_or_eq_true (decide (((k + 1 : Nat) : Int) ≤ 255)) with hb9 | hb9
 ·
  have hb9p := of_decide_eq_true hb9
  refine Zt (s := 16) rfl rfl hb9 rfl (Qb s7) <| Zt (s := 16) rfl rfl hb9 rfl (Ye (goo.rd m8) Zi rfl) <| Zt (s := 16) rfl rfl hb9 rfl (Qb s2) <| Zt (s := 16) rfl rfl hb9 rfl (Qs rfl rfl) <| Qa rfl (Jd rfl hb9 rfl) <| rN ?_
  refine Xv rfl (fun hc10 => ?_) (fun hc10 => ?_)
  ·
   have hc10p := of_decide_eq_true hc10
   refine Q7 (Qh (Qg (Qo (sR ?_))))
   refine Za rfl (Ql u8 [] Qu m8 Zi X6 rfl (by simp [Jo]) rfl) ?_
   rintro _ w11 ⟨b24, rfl, e11, m11⟩
   refine rM rfl s8 <| Za rfl (Zk (f := u8) (Hs := [(b24, .cells (cl u8 ([])) 5 (0, 0))]) (H := Ho ++ (Ht ++ ([_]))) m11 (Zv.of u8 5 b24 ([])) rfl rfl (gvt.rd (Mem.pick2 [_] Ho Ht _ m11)) Zi Zi X6 rfl Qu sD sD) ?_
   rintro sv12 w12 ⟨Hs12, m12, g12⟩
   replace g12 : Zv u8 5 sv12 (tK key info k) Hs12 := g12
   refine rA rfl (v := sv12) rfl ?_
   refine rN (sR ?_)
   refine rM rfl (v := sv12) rfl <| rM rfl s1 <| Za rfl (Zk (f := u8) (Hs := Hs12) (H := Ho ++ (Ht ++ ([_]))) m12 g12 rfl rfl (Rd.ofRest hri m12) Zi Zi X6 rfl Qu sD sD) ?_
   rintro sv13 w13 ⟨Hs13, m13, g13⟩
   replace g13 : Zv u8 5 sv13 ((tK key info k) ++ info) Hs13 := g13
   refine rA rfl (v := sv13) rfl ?_
   refine rN (sR ?_)
   refine rM rfl (v := sv13) rfl <| rM rfl s9 <| Qa rfl (Wn ⟨_, Fj⟩ Vm rfl) <| Za rfl (Ql u8 [BitVec.ofInt 8 ((k + 1 : Nat) : Int)] Qu m13 Zi X6 rfl rfl rfl) ?_
   rintro _ w14 ⟨b33, rfl, e14, m14⟩
   refine Za rfl (Zk (f := u8) (Hs := Hs13) (H := [_] ++ (Ho ++ (Ht ++ ([_])))) (Mem.pick [_] Hs13 _ m14) g13 rfl rfl (Rd.mkA m14.h0) Zi Zi X6 rfl Qu sD sD) ?_
   rintro sv15 w15 ⟨Hs15, m15, g15⟩
   replace g15 : Zv u8 5 sv15 (((tK key info k) ++ info) ++ ([BitVec.ofInt 8 ((k + 1 : Nat) : Int)])) Hs15 := g15
   refine rA rfl (v := sv15) rfl ?_
   refine rN (sR ?_)
   refine Qa rfl (Xj (i := 0) (j := 32) X3 X6 s3 (Zy _ _) (Zy _ _) oM sD sD) <| rM rfl (v := sv15) rfl <| Za rfl (oc69 (Xr rfl rfl) (Lm (sla b3 0 1 0 32 32) key sv15 (((tK key info k) ++ info) ++ ([BitVec.ofInt 8 ((k + 1 : Nat) : Int)])) _ (Rd.slaAll ((Mem.pick4 Hs15 [_] Ho Ht [_] _ m15)).h0 sD) sD (g15.rd m15) sD)) ?_
   rintro _ w16 ⟨rfl, e16⟩
   have m16 := m15.ext e16
   refine Za rfl (Zg m16 Z9) ?_
   rintro _ w18 ⟨b11, rfl, e18, m18⟩
   refine Zw (Qm (f := u8) (l := X7 key (((tK key info k) ++ info) ++ ([BitVec.ofInt 8 ((k + 1 : Nat) : Int)]))) Qu Z9 rfl rfl sD m18.h0 sZ rfl) ?_
   rintro _ w19 uq19
   have m19 := m18.upd0 uq19
   refine rN ?_
   have m20 := Mem.drop [_] _ (Mem.pick2 [_] Hs15 [_] _ m19)
   refine sR <| Za rfl (Ql u8 [] Qu m20 Zi X6 rfl (by simp [Jo]) rfl) ?_
   rintro _ w21 ⟨b38, rfl, e21, m21⟩
   refine Qa rfl (Xj (i := 0) (j := 32) X3 X6 rfl (Zy _ _) (Zy _ _) oM sD sD) <| Za rfl (Zk (f := u8) (Hs := [(b38, .cells (cl u8 ([])) 5 (0, 0))]) (H := [_] ++ (Hs15 ++ (Ho ++ (Ht ++ ([_]))))) m21 (Zv.of u8 5 b38 ([])) rfl rfl (Rd.slaAll m21.h1 sD) Zi Zi X6 rfl Qu sD sD) ?_
   rintro sv22 w22 ⟨Hs22, m22, g22⟩
   replace g22 : Zv u8 5 sv22 (X7 key (((tK key info k) ++ info) ++ ([BitVec.ofInt 8 ((k + 1 : Nat) : Int)]))) Hs22 := g22
   refine rA rfl (v := sv22) rfl ?_
   refine rN (Qe ?_)
   refine rM rfl s7 <| rM rfl (v := sv22) rfl <| Za rfl (Zk (f := u8) (Hs := Ho) (H := Hs22 ++ ([_] ++ (Hs15 ++ (Ht ++ ([_]))))) (Mem.pick3 Hs22 [_] Hs15 Ho _ m22) goo rfl rfl (g22.rd m22) Zi Zi X6 rfl Qu sD sD) ?_
   rintro sv23 w23 ⟨Hs23, m23, g23⟩
   replace g23 : Zv u8 5 sv23 (ol ++ (X7 key (((tK key info k) ++ info) ++ ([BitVec.ofInt 8 ((k + 1 : Nat) : Int)])))) Hs23 := g23
   refine rA rfl (v := sv23) rfl ?_
   refine Zr (Qi (Qe ?_))
   refine rM rfl s9 <| Qa rfl (Qk (b := 1) rfl rfl oM oM) <| Qa rfl (Qc (v := (i64 (((k + 1 : Nat) : Int) + 1))) rfl) <| rN ?_
   have htn : X7 key (((tK key info k) ++ info) ++ ([BitVec.ofInt 8 ((k + 1 : Nat) : Int)])) = tK key info (k + 1) := by rw [Qfa, ← byte_int]
   have m24 := Mem.drop [_] _ (Mem.pick2 Hs23 Hs22 [_] _ m23)
   have m25 := Mem.drop Hs15 _ (Mem.pick2 Hs23 Hs22 Hs15 _ m24)
   have m26 := Mem.drop Ht _ (Mem.pick2 Hs23 Hs22 Ht _ m25)
   exact ⟨⟨k + 1, ol ++ (X7 key (((tK key info k) ++ info) ++ ([BitVec.ofInt 8 ((k + 1 : Nat) : Int)]))), sv23, Hs23, sv22, Hs22, oM, (.inr oM), (by rw [Qd0, ← htn, hol]), g23, (htn ▸ g22), s0, s1, s2, s3, s6, rfl, rfl, (by show i64 _ = i64 _; congr 1), m26⟩, Gl (by show i64 _ = i64 _; congr 1) z9 (a' := ((k + 1 + 1 : Nat) : Int)) oM oM⟩
  ·
   have hc10p := of_decide_eq_false hc10
   refine X0 ?_
   refine Qr (Qr (Xf ?_))
   refine Qg ?_
   have hkn : k = (n.toNat + 31) / 32 := by omega
   refine Qe <| rM rfl s7 <| rM rfl s2 <| Qa rfl (Fb (i := 0) (j := n) (goo.rd m8) Zi X6 rfl (Zy _ _) (Jt (k := .i64) (i := n) rfl) oM sD sD) <| Qa rfl (Qc (v := (Qar so 0 n)) rfl) ?_
   refine rN (Xt ?_)
   refine Ze [(Qar so 0 n)] ⟨rfl, trivial⟩ ?_
   have m27 := Mem.drop Ht _ (Mem.pick Ho Ht _ m8)
   have m28 := Mem.drop [_] _ (Mem.pick Ho [_] _ m27)
   have hfin : (ol.drop (0 : Int).toNat).take ((n : Int).toNat - (0 : Int).toNat) = J4 key info n.toNat := by rw [Qfo, hol, hkn]; exact (Qgb _ _ _).symm
   exact ⟨Ho, hfin ▸ (Zv.cast (l' := (ol.drop (0 : Int).toNat).take ((n : Int).toNat - (0 : Int).toNat)) (Zv.sub (i := 0) (j := n) goo oM sD sD) rfl), by simpa using m28⟩
 ·
  have hb9p := of_decide_eq_false hb9
  refine Yd (s := 16) rfl rfl hb9 rfl <| Yd (s := 16) rfl rfl hb9 rfl <| Yd (s := 16) rfl rfl hb9 rfl <| Yd (s := 16) rfl rfl hb9 rfl <| Qa rfl (Yn rfl hb9 rfl) <| rN <| Yp rfl (by decide) <| X0 ?_
  refine Qr (Qr (Xf ?_))
  refine Qg ?_
  have hkn : k = (n.toNat + 31) / 32 := by omega
  refine Qe <| rM rfl s7 <| rM rfl s2 <| Qa rfl (Fb (i := 0) (j := n) (goo.rd m8) Zi X6 rfl (Zy _ _) (Jt (k := .i64) (i := n) rfl) oM sD sD) <| Qa rfl (Qc (v := (Qar so 0 n)) rfl) ?_
  refine rN (Xt ?_)
  refine Ze [(Qar so 0 n)] ⟨rfl, trivial⟩ ?_
  have m29 := Mem.drop Ht _ (Mem.pick Ho Ht _ m8)
  have m30 := Mem.drop [_] _ (Mem.pick Ho [_] _ m29)
  have hfin : (ol.drop (0 : Int).toNat).take ((n : Int).toNat - (0 : Int).toNat) = J4 key info n.toNat := by rw [Qfo, hol, hkn]; exact (Qgb _ _ _).symm
  exact ⟨Ho, hfin ▸ (Zv.cast (l' := (ol.drop (0 : Int).toNat).take ((n : Int).toNat - (0 : Int).toNat)) (Zv.sub (i := 0) (j := n) goo oM sD sD) rfl), by simpa using m30⟩
set_option maxHeartbeats 1000000 in
theorem c_keys (va : Value) (la : List (BitVec 8)) (vb : Value) (lb : List (BitVec 8)) (pu : ByteArray) (n : Int) (w0 : World)  (hT : Tabs (Yq w0)) (hra : Rd (Yq w0) u8 va la) (hla : la.length ≤ 1048576) (hrb : Rd (Yq w0) u8 vb lb) (hlb : lb.length ≤ 1048576) (hpu : pu.size ≤ 1048576) (hnr : -9223372036854775808 ≤ n ∧ n ≤ 9223372036854775807) : Xz Tryd.prog 73 #[va, vb, (Value.string pu), (i64 n)] w0 (fun r w1 => ∃ v Hs, r = Value.tuple #[v, i64 (Qdj n)] ∧ J6 (Ug u8) 32 23 v (Jc la lb (Yw pu) n) Hs ∧ Mem w1 (Qy w0) Hs) := by
 refine Zd (args := [va, vb, (Value.string pu), (i64 n)]) Tryd.func73 rfl Tryd.ntmps73 Tryd.results73 rfl ?_
 have m0 : Mem w0 (Qy w0) [] := Mem.of_world w0
 refine sR <| Qa rfl (Qc (v := (Value.slice none 0 0)) rfl) <| Qa rfl (Qc (v := (i64 0)) rfl) ?_
 refine rN (Qg (sR ?_))
 refine Qa rfl (Qb (v := (i64 n)) rfl) <| Qa rfl (Qs (b := 0) rfl rfl) <| rN ?_
 refine Xv rfl (fun hc1 => ?_) (fun hc1 => ?_)
 ·
  have hc1p := of_decide_eq_true hc1
  refine sR <| Qa rfl (Qc (v := (Value.slice none 0 0)) rfl) <| Qa rfl (Qc (v := (i64 2)) rfl) ?_
  refine rN (Xt (Vg ?_))
  refine Ze [(Value.slice none 0 0), (i64 2)] ⟨rfl, rfl, trivial⟩ ?_
  have hbad : badK n = true := by simp [badK]; omega
  exact ⟨Value.slice none 0 0, [], by unfold Qdj; rw [if_pos hbad]; rfl, by unfold Jc Le; rw [if_pos hbad]; exact J6.none _ _ _, m0⟩
 ·
  have hc1p := of_decide_eq_false hc1
  refine Q7 (Qh (sR ?_))
  refine rM rfl (v := va) rfl <| rM rfl (v := vb) rfl <| Za rfl (oc96 (Xr rfl rfl) (Qoq va la vb lb _ (hT.mono fun b o e => (m0).rest b o e) (Rd.ofRest hra m0) sD (Rd.ofRest hrb m0) sD)) ?_
  rintro _ w2 ⟨rfl, e2⟩
  have m2 := m0.ext e2
  refine Qa rfl (Qb (v := (Value.string pu)) rfl) <| Za rfl (Qel (s := pu) m2 uT9 Zi Vm rfl sD) ?_
  rintro _ w4 ⟨b18, cap4, cc4, fz4, rfl, e4, m4, hcv4⟩
  have m4 : Mem w4 (Qy w0) [(b18, .cells cc4 5 fz4)] := m4
  refine Qa rfl (Qb (v := (i64 n)) rfl) <| Qa (v := (i64 (if 8160 < n then 8160 else n))) rfl (Qls (j := 8160) rfl rfl) <| Qa rfl (Z7 (b := 32) rfl rfl oM oM) <| Za rfl (oc95 (Vx rfl rfl rfl) (c_expand _ (Ko b18 0 pu.size cap4) (Yw pu) _ _ (hT.mono fun b o e => (m4).rest b o e) sD (hcv4 _ m4.h0) sD)) ?_
  rintro _ w5 ⟨vxq6, Hsq6, rfl, gvxq6, k_w5⟩
  have m5 : Mem _ _ (Hsq6 ++ ([_])) := Mem.new (H := [_]) (H' := Hsq6) m4 k_w5
  obtain ⟨X, hX⟩ : ∃ X, X = J4 (Jm la lb) (Yw pu) (32 * Le n) := ⟨_, rfl⟩
  have hXl : X.length = 32 * Le n := by rw [hX, U4]
  have hmk := manyK_le n
  have hek := Qkb (key := Jm la lb) (info := Yw pu) (n := n) oM
  have gX7 := gvxq6
  rw [hek.1, ← hX] at gX7
  refine Qa rfl (Qb (v := (Value.tuple #[vxq6, (i64 (Qby ((if 8160 < n then 8160 else n) * 32)))])) rfl) <| Qa (v := vxq6) rfl (Zo rfl rfl) <| Qa (v := (i64 (Qby ((if 8160 < n then 8160 else n) * 32)))) rfl (Zo rfl rfl) <| rA rfl (v := vxq6) rfl <| Qa rfl (Qc (v := (i64 (Qby ((if 8160 < n then 8160 else n) * 32)))) rfl) ?_
  refine rN (Qg (Qo ?_))
  refine Yo (fun g wv => ∃ (j : Nat) (bq : List (BitVec 8)) (bv : Value) (Hb : List (Nat × Obj)) (sk : Value) (Hk : List (Nat × Obj)), (j ≤ Le n) ∧ (bq = X.drop (32 * j)) ∧ (Zv u8 5 bv bq Hb) ∧ (J6 (Ug u8) 32 23 sk (Uw j X) Hk) ∧ g 0 = va ∧ g 1 = vb ∧ g 2 = (Value.string pu) ∧ g 3 = (i64 n) ∧ g 8 = sk ∧ g 9 = (i64 (Qby ((if 8160 < n then 8160 else n) * 32))) ∧ g 10 = bv ∧ g 12 = (bl (decide (n < 0))) ∧ Mem wv (Qy w0) (Hb ++ (Hk ++ ([])))) (fun g wv => sllen (g 10)) ?_ ?_
  have m8 := Mem.drop [_] _ (Mem.pick Hsq6 [_] _ m5)
  ·exact ⟨0, X, vxq6, Hsq6, (Value.slice none 0 0), [], (Nat.zero_le _), (by simp), gX7, (J6.none (Ug u8) 32 23), rfl, rfl, rfl, rfl, rfl, rfl, rfl, rfl, m8⟩
  rintro fr9 w10 ⟨j, bq, bv, Hb, sk, Hk, hj, hbl, gbb, gkk, s0, s1, s2, s3, s8, s9, s10, s12, m10⟩
  have z10 := s10
  have z8 := s8
  have hbn : bq.length = 32 * Le n - 32 * j := by rw [hbl, List.length_drop, hXl]
  refine Qg (sR ?_)
  refine rM rfl s10 <| Qa rfl (Ye (gbb.rd m10) Zi rfl) <| Qa rfl (W9 (b := 0) rfl rfl) <| rN ?_
  refine Xv rfl (fun hc11 => ?_) (fun hc11 => ?_)
  ·
   have hc11p := of_decide_eq_true hc11
   refine Q7 (Qh (Vq (sR ?_)))
   refine rM rfl s8 <| rM rfl s10 <| Qa rfl (Fb (i := 0) (j := 32) (gbb.rd m10) Zi X6 rfl (Zy _ _) (Jt (k := .i64) (i := 32) rfl) oM sD sD) <| Qa rfl (ev_sap ((Zv.cast (l' := (bq.drop 0).take 32) (Zv.sub (i := 0) (j := 32) gbb oM sD sD) rfl).rd m10) X3 rfl sD) <| Qa (v := (agg u8 (((bq.drop 0).take 32).take 32))) rfl (Qkf (l := (bq.drop 0).take 32) ((Zv.cast (l' := (bq.drop 0).take 32) (Zv.sub (i := 0) (j := 32) gbb oM sD sD) rfl).rd m10) X3 Z9 rfl sD rfl) <| Za rfl (Rx (cs := (cl u8 (((bq.drop 0).take 32).take 32))) m10 Qbt Z9 rfl rfl rfl sZ) ?_
   rintro _ w12 ⟨b33, rfl, e12, m12⟩
   have m12 : Mem w12 (Qy w0) ([(b33, .cells (cl u8 (((bq.drop 0).take 32).take 32)) 23 (0, 0))] ++ (Hb ++ (Hk ++ ([])))) := m12
   refine Za rfl (Qcg (enc := (Ug u8)) (k := 32) (Hs := Hk) (H := [_] ++ (Hb ++ ([]))) (Mem.pick2 [_] Hb Hk _ m12) gkk rfl rfl (RdK.ofOne (enc := (Ug u8)) (k := 32) (a := (((bq.drop 0).take 32).take 32)) m12.h0 rfl (by simp only [Ug, List.length_map]; first | omega | (simp; done) | (simp; omega) | decide)) Qbt Qbt Z9 rfl rfl (fun _ _ => Jn Qu _) sD sD) ?_
   rintro sv13 w13 ⟨Hs13, m13, g13⟩
   replace g13 : J6 (Ug u8) 32 23 sv13 ((Uw j X) ++ ([((bq.drop 0).take 32).take 32])) Hs13 := g13
   refine rA rfl (v := sv13) rfl ?_
   refine rN (Qe ?_)
   refine rM rfl s10 <| Qa rfl (Fb (i := 32) (j := (bq.length : Int)) (gbb.rd (Mem.pick2 Hs13 [_] Hb _ m13)) Zi X6 rfl (Jt (k := .i64) (i := 32) rfl) (Zy _ _) oM sD sD) <| Qa rfl (Qc (v := (Qar bv 32 (bq.length : Int))) rfl) ?_
   refine Zr (Qi (Qh ?_))
   have m14 := Mem.drop [_] _ (Mem.pick Hs13 [_] _ m13)
   have m15 := (Mem.pick Hs13 Hb _ m14)
   exact ⟨⟨j + 1, ((bq.drop (32 : Int).toNat).take (((bq.length : Int) : Int).toNat - (32 : Int).toNat)), (Qar bv 32 (bq.length : Int)), Hb, sv13, Hs13, oM, (tail32 hbl), (Zv.cast (l' := (bq.drop (32 : Int).toNat).take (((bq.length : Int) : Int).toNat - (32 : Int).toNat)) (Zv.sub (i := 32) (j := (bq.length : Int)) gbb oM sD sD) rfl), (J6.cast g13 (by rw [head32 hbl, ← Qet])), s0, s1, s2, s3, rfl, s9, rfl, s12, m15⟩, (by show sllen (Qar bv 32 (bq.length : Int)) < sllen _; rw [z10, gbb.sllen, Zv.sllen (Zv.cast (l' := (bq.drop (32 : Int).toNat).take (((bq.length : Int) : Int).toNat - (32 : Int).toNat)) (Zv.sub (i := 32) (j := (bq.length : Int)) gbb oM sD sD) rfl)]; simp; omega)⟩
  ·
   have hc11p := of_decide_eq_false hc11
   refine X0 ?_
   refine Qr (Qr (Xf ?_))
   refine Qg ?_
   have hbn : bq.length = 32 * Le n - 32 * j := by rw [hbl, List.length_drop, hXl]
   have hjn : j = Le n := by omega
   refine Qe <| rM rfl s8 <| rM rfl s9 <| rA rfl (v := sk) rfl <| Qa rfl (Qc (v := (i64 (Qby ((if 8160 < n then 8160 else n) * 32)))) rfl) ?_
   refine rN (Xt ?_)
   refine Ze [sk, (i64 (Qby ((if 8160 < n then 8160 else n) * 32)))] ⟨rfl, rfl, trivial⟩ ?_
   have m16 := Mem.drop Hb _ m10
   exact ⟨sk, Hk, by rw [← hek.2]; rfl, by unfold Jc; rw [← hX, ← hjn]; exact gkk, by simpa using m16⟩
end Go.Proofs.YtkmiemlpfkfiiaaDoor
