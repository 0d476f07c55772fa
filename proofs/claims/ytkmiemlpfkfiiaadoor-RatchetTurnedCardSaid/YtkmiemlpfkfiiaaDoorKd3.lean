/- Contracts: kdf, third part. Conditions: none beyond those that each theorem states. -/
import Derived.Test.YtkmiemlpfkfiiaaDoorKd2
namespace Go.Proofs.YtkmiemlpfkfiiaaDoor
open List renaming length_map → bH, replicate → aA
open Mem renaming drop → aF, of_world → aY, pick → aC, pick2 → aN
open Rd renaming mkA → bG, slaAll → bT
open Value renaming string → eH, tuple → ak
open Tryd
set_option linter.unusedVariables false
set_option linter.unusedSimpArgs false
@[simp] theorem filled_len {α : Type} (g : Nat → α) (z : α) (n k : Nat) : (Yv g z n k).length = k + (n - k) := by simp [Yv]
theorem Qkj (X : Z4) (i : Nat) (h : 32 * i + 32 ≤ X.length) : Yv (fun j => X.getD (32 * (i : Int) + (j : Int)).toNat 0) 0 32 32 = (X.drop (32 * i)).take 32 := by
 rw [Af]
 refine List.ext_getElem (by simp; omega) fun j h1 h2 => ?_
 simp only [bH, List.length_range] at h1
 have e : (32 * (i : Int) + (j : Int)).toNat = 32 * i + j := by omega
 simp [e, List.getD_eq_getElem?_getD]
 rw [List.getElem?_eq_getElem oM]; rfl
attribute [local irreducible] Xc tK Qe5 Wv Kw Wh Rh Qgp Qek
set_option maxHeartbeats 1000000 in
theorem Qs1 (va : Value) (la : Z4) (vb : Value) (lb : Z4) (pu : ByteArray) (n : Int) (w0 : World)  (hra : Rd (Jd w0) u8 va la) (hla : la.length ≤ 1048576) (hrb : Rd (Jd w0) u8 vb lb) (hlb : lb.length ≤ 1048576) (hpu : pu.size ≤ 1048576) (hn : 0 ≤ n ∧ n ≤ 255) : Xz prog 70 #[va, vb, (eH pu), (i64 n)] w0 (fun r w1 => ∃ Hs, Yu (F6 u8) 32 23 r (Df n.toNat (Wv (Kw la lb) (J4 pu) (32 * n.toNat))) Hs ∧ Mem w1 (Qs w0) Hs) := by
 refine Qz (args := [va, vb, (eH pu), (i64 n)]) func70 rfl ntmps70 results70 rfl ?_
 have m0 : Mem w0 (Qs w0) [] := aY w0
 refine sR <| Zx J3 ?_
 refine rN (sR ?_)
 refine Zm va <| Zm vb <| U5 m0 (oc93 (Xl rfl rfl) (Qro va la vb lb _ (Rd.ofRest hra m0) sD (Rd.ofRest hrb m0) sD)) fun w1 m1 => Zm (eH pu) <| Vr (Qh4 (s := pu) m1 uT9 Zn V3 rfl sD) ?_
 rintro _ w3 ⟨b18, cap3, cc3, fz3, rfl, _ew3, m3, hcv3⟩
 have m3 : Mem w3 (Qs w0) [(b18, .cells cc3 5 fz3)] := m3
 refine Zm (i64 n) <| Qd (Ku (a := 32) rfl rfl oM oM) <| Vr (oc92 (Dy rfl rfl rfl) (Qur _ (Wi b18 0 pu.size cap3) (J4 pu) _ _ sD (hcv3 _ m3.h0) sD sD)) ?_
 rintro rxq5 w4 ⟨Hsq5, grxq5, k_w4⟩
 have m4 : Mem _ _ (Hsq5 ++ ([_])) := Mem.new (H := [_]) (H' := Hsq5) m3 k_w4
 obtain ⟨X, hX⟩ : ∃ X, X = Wv (Kw la lb) (J4 pu) (32 * n.toNat) := ⟨_, rfl⟩
 have hXl : X.length = 32 * n.toNat := by rw [hX, Du]
 have e32 : (32 * n).toNat = 32 * n.toNat := by omega
 have gX6 := grxq5
 rw [e32, ← hX] at gX6
 refine Zx rxq5 ?_
 refine rN (sR ?_)
 refine Y5 (Cj (c := #[]) m4 Qc5 Zh rfl Vt Xv) fun w7 b22 m7 => ?_
 have m7 : Mem w7 (Qs w0) ([(b22, .cells #[] 23 (0, 0))] ++ (Hsq5 ++ ([(b18, .cells cc3 5 fz3)]))) := m7
 refine Zx (Wi b22 0 0 0) ?_
 refine rN (Qa (sR ?_))
 refine Zx (i64 0) ?_
 refine rN (Qh ?_)
 refine Y1 (fun g wv => ∃ (i : Nat) (sk : Value) (Hk : List (Nat × Obj)), ((i : Int) ≤ n) ∧ (Yu (F6 u8) 32 23 sk (Df i X) Hk) ∧ g 0 = va ∧ g 1 = vb ∧ g 2 = (eH pu) ∧ g 3 = (i64 n) ∧ g 8 = J3 ∧ g 9 = rxq5 ∧ g 10 = sk ∧ g 11 = (i64 (i : Int)) ∧ Mem wv (Qs w0) (Hk ++ (Hsq5 ++ ([])))) (fun g wv => (n - RowKit.intOf (g 11)).toNat) ?_ ?_
 have m8 := aF [_] _ (aN [_] Hsq5 [_] _ m7)
 ·exact ⟨0, (Wi b22 0 0 0), [(b22, .cells #[] 23 (0, 0))], oM, (Yu.of (F6 u8) 32 23 b22 [] rfl Ya), rfl, rfl, rfl, rfl, rfl, rfl, rfl, rfl, m8⟩
 rintro fr9 w10 ⟨i, sk, Hk, hi, gkk, s0, s1, s2, s3, s8, s9, s10, s11, m10⟩
 have z11 := s11
 have z10 := s10
 refine Qa (sR ?_)
 refine X9 s11 <| X9 s3 <| Qd (Xd rfl rfl) <| rN ?_
 refine Zz rfl (fun hc11 => ?_) (fun hc11 => ?_)
 ·
  have hc11p := of_decide_eq_true hc11
  refine Qo (Qc (Qa (Qh (sR ?_))))
  refine Qd (Ve (ps := []) (c := (cl u8 (aA 32 0))) Zh Xn Yr Ya rfl) <| Y5 (Q7 m10 Zh) fun w12 b12 m12 => Ye m12 (Qg (f := u8) (l := aA 32 0) Qr Zh rfl rfl sD m12.h0 sZ rfl) fun w13 m13 => ?_
  refine rN (Qa (sR ?_))
  refine Zx (i64 0) ?_
  refine rN (Qh ?_)
  refine Y1 (fun g wv => ∃ (j : Nat), (j ≤ 32) ∧ g 0 = va ∧ g 1 = vb ∧ g 2 = (eH pu) ∧ g 3 = (i64 n) ∧ g 8 = J3 ∧ g 9 = rxq5 ∧ g 10 = sk ∧ g 11 = (i64 (i : Int)) ∧ g 12 = (ptr b12 0) ∧ g 13 = (i64 (j : Int)) ∧ g 25 = (bl (decide ((i : Int) < n))) ∧ Mem wv (Qs w0) ([(b12, .cells (cl u8 (Yv (fun q => X.getD (32 * (i : Int) + (q : Int)).toNat 0) 0 32 j)) 23 (0, 0))] ++ (Hk ++ (Hsq5 ++ ([]))))) (fun g wv => (32 - RowKit.intOf (g 13)).toNat) ?_ ?_
  ·exact ⟨0, oM, s0, s1, s2, s3, s8, s9, s10, s11, rfl, rfl, rfl, (by rw [Ei]; exact m13)⟩
  rintro fr14 w15 ⟨j, hj, s0, s1, s2, s3, s8, s9, s10, s11, s12, s13, s25, m15⟩
  have z13 := s13
  refine Qa (sR ?_)
  refine X9 s13 <| Qd (Xd (b := 32) rfl rfl) <| rN ?_
  refine Zz rfl (fun hc16 => ?_) (fun hc16 => ?_)
  ·
   have hc16p := of_decide_eq_true hc16
   refine Qo (Qc (Qa (Qh (Qb ?_))))
   refine X9 s13 <| X9 s9 <| X9 s11 <| Qd (Ku (a := 32) rfl rfl oM oM) <| X9 s13 <| Qd (Zg rfl rfl oM oM) <| Qd (Zo (gX6.rd (aN [_] Hk Hsq5 _ m15)) Zn Yr rfl rfl oM sD) <| Qd (v := (u8 (X.getD (((32 * (i : Int)) + (j : Int) : Int).toNat) 0))) (Xy (l := X) (i := (32 * (i : Int)) + (j : Int)) (dflt := 0) (gX6.rd (aN [_] Hk Hsq5 _ m15)) V3 rfl oM sD rfl) <| Qd (Zj (r := j) oM Xn Yr s12 rfl oM sD) <| Ye m15 (Xw (f := u8) (a := X.getD (((32 * (i : Int)) + (j : Int) : Int).toNat) 0) Qr Yr rfl rfl m15.h0 sD (.inl (Nat.zero_le _))) fun w17 m17 => ?_
   refine Zp (Qe (Qb ?_))
   refine X9 s13 <| Qd (Zg (b := 1) rfl rfl oM oM) <| Zx (i64 ((j : Int) + 1)) <| rN ?_
   exact ⟨⟨j + 1, oM, s0, s1, s2, s3, s8, s9, s10, s11, s12, rfl, s25, (by rw [← Ep (fun q => X.getD (32 * (i : Int) + (q : Int)).toNat 0) 0 (n := 32) (k := j) oM _ rfl]; exact m17)⟩, Uj rfl z13 oM oM⟩
  ·
   have hc16p := of_decide_eq_false hc16
   obtain rfl : j = 32 := by omega
   refine X3 ?_
   refine Qj (Qj (Xk ?_))
   refine Qb <| X9 s10 <| Qd (Qn Xn rfl Zh s12 m15.h0 sZ) <| Y5 (Ha (cs := (cl u8 (Yv (fun q => X.getD (32 * (i : Int) + (q : Int)).toNat 0) 0 32 32))) m15 Qc5 Zh rfl rfl rfl sZ) fun w18 b44 m18 => ?_
   have m18 : Mem w18 (Qs w0) ([(b44, .cells (cl u8 (Yv (fun q => X.getD (32 * (i : Int) + (q : Int)).toNat 0) 0 32 32)) 23 (0, 0)), (b12, .cells (cl u8 (Yv (fun q => X.getD (32 * (i : Int) + (q : Int)).toNat 0) 0 32 32)) 23 (0, 0))] ++ (Hk ++ (Hsq5 ++ ([])))) := m18
   refine Vr (Ae (enc := (F6 u8)) (k := 32) (Hs := Hk) (H := [_, _] ++ (Hsq5 ++ ([]))) (aC [_, _] Hk _ m18) gkk rfl rfl (RdK.ofOne (enc := (F6 u8)) (k := 32) (a := (Yv (fun q => X.getD (32 * (i : Int) + (q : Int)).toNat 0) 0 32 32)) m18.h0 rfl (by simp only [F6, bH]; first | omega | (simp; done) | (simp; omega) | decide)) Qc5 Qc5 Zh rfl rfl (fun _ _ => Jf Qr _) sD sD) ?_
   rintro sv19 w19 ⟨Hs19, m19, g19⟩
   replace g19 : Yu (F6 u8) 32 23 sv19 ((Df i X) ++ ([Yv (fun q => X.getD (32 * (i : Int) + (q : Int)).toNat 0) 0 32 32])) Hs19 := g19
   refine Zx sv19 ?_
   refine Zp (Qe (Qb ?_))
   refine X9 s11 <| Qd (Zg (b := 1) rfl rfl oM oM) <| Zx (i64 ((i : Int) + 1)) <| rN ?_
   have m20 := aF [_] _ (aC Hs19 [_] _ m19)
   have m21 := aF [_] _ (aC Hs19 [_] _ m20)
   exact ⟨⟨i + 1, sv19, Hs19, oM, (Yu.cast g19 (by rw [Qkj X i oM, ← Qih])), s0, s1, s2, s3, s8, s9, rfl, rfl, m21⟩, Uj rfl z11 oM oM⟩
 ·
  have hc11p := of_decide_eq_false hc11
  obtain rfl : i = n.toNat := by omega
  refine X3 ?_
  refine Qj (Qj (Xk ?_))
  refine sR <| X9 s10 <| Zx sk ?_
  refine rN (Z8 ?_)
  refine Qq [sk] ⟨rfl, trivial⟩ ?_
  have m22 := aF Hsq5 _ (aC Hk Hsq5 _ m10)
  exact ⟨Hk, by rw [← hX]; exact gkk, by simpa using m22⟩
theorem Qsx (mark : BitVec 8) (bk : Nat) (chain : Z4) (w0 : World)  (hT : Tabs (Jd w0)) (hbk : Jd w0 bk = some (.cells (cl u8 chain) 23 (0, 0))) (hcl : chain.length = 32) : Xz prog 58 #[(u8 mark), (ptr bk 0)] w0 (fun r w1 => r = (agg u8 (Xc chain [mark])) ∧ Ext w0 w1) := by
 refine Qz (args := [(u8 mark), (ptr bk 0)]) func58 rfl ntmps58 results58 rfl ?_
 have m0 : Mem w0 (Qs w0) [] := aY w0
 refine sR <| Y5 (Q7 m0 Zh) fun w1 b3 m1 => ?_
 refine rN (sR ?_)
 refine Qd (Xj (i := 0) (j := 32) Xn Yr rfl (Zd _ _) (Zd _ _) oM sD sD) <| Zm (u8 mark) <| Y5 (Qp u8 [mark] Qr m1 Zn Yr rfl rfl rfl) fun w2 b6 m2 => Y5 (Kv [(Wi b6 0 1 1)] (by simp [Wi, ptr, Value.oneCell', i64, u8, u32, u64, bl]) m2 Qik Qay rfl rfl rfl) fun w3 b7 m3 => ?_
 have m3 : Mem w3 (Qs w0) [(b7, .cells #[(Wi b6 0 1 1)] 27 (0, 0)), (b6, .cells (cl u8 ([mark])) 5 (0, 0)), (b3, .cells (cl u8 (aA 32 0)) 23 (0, 0))] := m3
 refine U5 m3 (oc59 (Xl rfl rfl) (Qbj (sla bk 0 1 0 32 32) chain (Wi b7 0 1 1) ([((Wi b6 0 1 1), [mark])]) _ (hT.mono fun b o e => (m3).rest b o e) (bT (m3.rest _ _ hbk) sD) sD (bG (f := Prod.fst) (l := [((Wi b6 0 1 1), [mark])]) m3.h0) (Ee (bG m3.h1) Lh) (by rw [Qab]; simp) sD)) fun w4 m4 => Bj m4 (Qg (f := u8) (l := Xc chain (Vm ([((Wi b6 0 1 1), [mark])]))) Qr Zh rfl rfl sD m4.h2 sZ rfl) fun w6 m6 => ?_
 refine rN (Z8 ?_)
 refine Qq [(agg u8 (Xc chain (Vm ([((Wi b6 0 1 1), [mark])]))))] ⟨⟨_, rfl, Xm Xn rfl Zh m6.h2 sZ⟩, trivial⟩ ?_
 exact ⟨congrArg (agg u8) (by rw [Qab]), m6.toExt⟩
theorem Qrj (chain : Z4) (w0 : World)  (hT : Tabs (Jd w0)) (hcl : chain.length = 32) : Xz prog 32 #[(agg u8 chain)] w0 (fun r w1 => r = (ak #[(agg u8 (Xc chain [2#8])), (agg u8 (Xc chain [1#8]))]) ∧ Ext w0 w1) := by
 refine Qz (args := [(agg u8 chain)]) func32 rfl ntmps32 results32 rfl ?_
 have m0 : Mem w0 (Qs w0) [] := aY w0
 refine sR <| Y5 (Z5 (f := u8) (l := chain) m0 rfl) fun w1 b1 m1 => Y5 (Q7 m1 Zh) fun w2 b2 m2 => Y5 (Q7 m2 Zh) fun w3 b3 m3 => ?_
 refine rN (sR ?_)
 refine Qd (Qie (Jz rfl)) <| Zx (Value.func (.func 58) #[] #[(ptr b1 0)]) ?_
 refine rN (sR ?_)
 refine Zm (Value.func (.func 58) #[] #[(ptr b1 0)]) <| U5 m3 (Qhd (f := 58) rfl func58 bd58 nm58 (Jz rfl) (Qsx 2#8 b1 chain _ (hT.mono fun b o e => (m3).rest b o e) m3.h2 sD)) fun w4 m4 => Zm (Value.func (.func 58) #[] #[(ptr b1 0)]) <| U5 m4 (Qhd (f := 58) rfl func58 bd58 nm58 (Jz rfl) (Qsx 1#8 b1 chain _ (hT.mono fun b o e => (m4).rest b o e) m4.h2 sD)) fun w6 m6 => Vs m6 (Qg (f := u8) (l := Xc chain [2#8]) Qr Zh rfl rfl sD m6.h1 sZ rfl) fun w8 m8 => Ye m8 (Qg (f := u8) (l := Xc chain [1#8]) Qr Zh rfl rfl sD m8.h0 sZ rfl) fun w9 m9 => ?_
 refine rN (Z8 ?_)
 refine Qq [(agg u8 (Xc chain [2#8])), (agg u8 (Xc chain [1#8]))] ⟨⟨_, rfl, Xm Xn rfl Zh m9.h1 sZ⟩, ⟨_, rfl, Xm Xn rfl Zh m9.h0 sZ⟩, trivial⟩ ?_
 exact ⟨rfl, m9.toExt⟩
theorem Qsz (chain : Z4) (w0 : World)  (hcl : chain.length = 32) : Xz prog 37 #[(agg u8 chain)] w0 (fun r w1 => r = (ak #[(agg u8 (Xc chain [2#8])), (agg u8 (Xc chain [1#8]))]) ∧ Ext w0 w1) := by
 refine Qz (args := [(agg u8 chain)]) func37 rfl ntmps37 results37 rfl ?_
 have m0 : Mem w0 (Qs w0) [] := aY w0
 refine sR <| Y5 (Z5 (f := u8) (l := chain) m0 rfl) fun w1 b1 m1 => Y5 (Q7 m1 Zh) fun w2 b2 m2 => Y5 (Q7 m2 Zh) fun w3 b3 m3 => ?_
 refine rN (Qa ?_)
 refine Jy Xv ?_
 refine Qjr 1 4 rfl rfl ?_ ?_
 ·
  refine Au [(0, false), (3, false), (1, true), (2, false), (4, true)] 5 rfl Xv <| X4 rfl (Xj (i := 0) (j := 32) Xn Yr rfl (Zd _ _) (Zd _ _) oM sD sD) <| X4 rfl (Xj (i := 0) (j := 32) Xn Yr rfl (Zd _ _) (Zd _ _) oM sD sD) ?_
  refine C9 rfl rfl (fun w4 e4 => ?_)
  have m4 := m3.ext e4
  refine Vf.mono (Qp u8 [2#8] Qr m4 Zn Yr rfl rfl rfl) ?_
  rintro _ w5 ⟨b5, rfl, e5, m5⟩
  refine ⟨e5, ?_⟩
  refine Wy rfl rfl (fun w6 e6 => oc69 (Xl rfl rfl) (Tt (sla b1 0 1 0 32 32) chain (Wi b5 0 1 1) ([2#8]) _ (bT (m5.ext e6).h3 sD) sD (bG (m5.ext e6).h0) sD)) ?_
  refine C9 rfl rfl (fun w9 e9 => ?_)
  have m9 := m5.ext e9
  refine Vf.mono (Qp u8 [1#8] Qr m9 Zn Yr rfl rfl rfl) ?_
  rintro _ w10 ⟨b8, rfl, e10, m10⟩
  refine ⟨e10, ?_⟩
  refine Gf m10 fun w11 m11 => U5 m11 (oc69 (Xl rfl rfl) (Tt (sla b1 0 1 0 32 32) chain (Wi b8 0 1 1) ([1#8]) _ (bT m11.h4 sD) sD (bG m11.h0) sD)) fun w12 m12 => yqU3 m12 (Qg (f := u8) (l := Xc chain ([2#8])) Qr Zh rfl rfl sD m12.h3 sZ rfl) fun w14 m14 => Bj m14 (Qg (f := u8) (l := Xc chain ([1#8])) Qr Zh rfl rfl sD m14.h2 sZ rfl) fun w15 m15 => ?_
  refine rN (Z8 ?_)
  refine Qq [(agg u8 (Xc chain ([2#8]))), (agg u8 (Xc chain ([1#8])))] ⟨⟨_, rfl, Xm Xn rfl Zh m15.h3 sZ⟩, ⟨_, rfl, Xm Xn rfl Zh m15.h2 sZ⟩, trivial⟩ ?_
  exact ⟨rfl, m15.toExt⟩
 ·
  refine Au [(0, false), (3, false), (4, true), (1, true), (2, false)] 5 rfl Xv <| X4 rfl (Xj (i := 0) (j := 32) Xn Yr rfl (Zd _ _) (Zd _ _) oM sD sD) <| X4 rfl (Xj (i := 0) (j := 32) Xn Yr rfl (Zd _ _) (Zd _ _) oM sD sD) ?_
  refine C9 rfl rfl (fun w16 e16 => ?_)
  have m16 := m3.ext e16
  refine Vf.mono (Qp u8 [1#8] Qr m16 Zn Yr rfl rfl rfl) ?_
  rintro _ w17 ⟨b8_1, rfl, e17, m17⟩
  refine ⟨e17, ?_⟩
  refine C9 rfl rfl (fun w18 e18 => ?_)
  have m18 := m17.ext e18
  refine Vf.mono (Qp u8 [2#8] Qr m18 Zn Yr rfl rfl rfl) ?_
  rintro _ w19 ⟨b5_1, rfl, e19, m19⟩
  refine ⟨e19, ?_⟩
  refine Wy rfl rfl (fun w20 e20 => oc69 (Xl rfl rfl) (Tt (sla b1 0 1 0 32 32) chain (Wi b5_1 0 1 1) ([2#8]) _ (bT (m19.ext e20).h4 sD) sD (bG (m19.ext e20).h0) sD)) <| Gf m19 fun w23 m23 => U5 m23 (oc69 (Xl rfl rfl) (Tt (sla b1 0 1 0 32 32) chain (Wi b8_1 0 1 1) ([1#8]) _ (bT m23.h4 sD) sD (bG m23.h1) sD)) fun w24 m24 => yqU3 m24 (Qg (f := u8) (l := Xc chain ([2#8])) Qr Zh rfl rfl sD m24.h3 sZ rfl) fun w26 m26 => Bj m26 (Qg (f := u8) (l := Xc chain ([1#8])) Qr Zh rfl rfl sD m26.h2 sZ rfl) fun w27 m27 => ?_
  refine rN (Z8 ?_)
  refine Qq [(agg u8 (Xc chain ([2#8]))), (agg u8 (Xc chain ([1#8])))] ⟨⟨_, rfl, Xm Xn rfl Zh m27.h3 sZ⟩, ⟨_, rfl, Xm Xn rfl Zh m27.h2 sZ⟩, trivial⟩ ?_
  exact ⟨rfl, m27.toExt⟩
end Go.Proofs.YtkmiemlpfkfiiaaDoor
