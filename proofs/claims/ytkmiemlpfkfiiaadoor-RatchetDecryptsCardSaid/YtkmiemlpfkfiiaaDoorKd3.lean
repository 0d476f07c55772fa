/- Contracts: kdf, third part. Conditions: none beyond those that each theorem states. -/
import Derived.Test.YtkmiemlpfkfiiaaDoorKd2
namespace Go.Proofs.YtkmiemlpfkfiiaaDoor
open Tryd
set_option linter.unusedVariables false
set_option linter.unusedSimpArgs false
@[simp] theorem filled_len {α : Type} (g : Nat → α) (z : α) (n k : Nat) : (Y0 g z n k).length = k + (n - k) := by simp [Y0]
theorem Qjy (X : Z8) (i : Nat) (h : 32 * i + 32 ≤ X.length) : Y0 (fun j => X.getD (32 * (i : Int) + (j : Int)).toNat 0) 0 32 32 = (X.drop (32 * i)).take 32 := by
 rw [Ap]
 refine List.ext_getElem (by simp; omega) fun j h1 h2 => ?_
 simp only [List.length_map, List.length_range] at h1
 have e : (32 * (i : Int) + (j : Int)).toNat = 32 * i + j := by omega
 simp [e, List.getD_eq_getElem?_getD]
 rw [List.getElem?_eq_getElem oM]; rfl
attribute [local irreducible] Xj tK Qey Vb Kz Wh Rq Qf5 Qeh
set_option maxHeartbeats 1000000 in
theorem Qq6 (va : Value) (la : Z8) (vb : Value) (lb : Z8) (pu : ByteArray) (n : Int) (w0 : World)  (hra : Rd (Y8 w0) u8 va la) (hla : la.length ≤ 1048576) (hrb : Rd (Y8 w0) u8 vb lb) (hlb : lb.length ≤ 1048576) (hpu : pu.size ≤ 1048576) (hn : 0 ≤ n ∧ n ≤ 255) : X0 prog 70 #[va, vb, (Value.string pu), (i64 n)] w0 (fun r w1 => ∃ Hs, Yx (Eb u8) 32 23 r (Dp n.toNat (Vb (Kz la lb) (J5 pu) (32 * n.toNat))) Hs ∧ Mem w1 (Qr w0) Hs) := by
 refine Qy (args := [va, vb, (Value.string pu), (i64 n)]) func70 rfl ntmps70 results70 rfl ?_
 have m0 : Mem w0 (Qr w0) [] := Mem.of_world w0
 refine sR <| Zx Wl ?_
 refine rN (sR ?_)
 refine Zm va <| Zm vb <| U3 m0 (oc93 (Xm rfl rfl) (Qp0 va la vb lb _ (Rd.ofRest hra m0) sD (Rd.ofRest hrb m0) sD)) fun w1 m1 => Zm (Value.string pu) <| Vw (Qhj (s := pu) m1 uT9 Zo Vs rfl sD) ?_
 rintro _ w3 ⟨b18, cap3, cc3, fz3, rfl, _ew3, m3, hcv3⟩
 have m3 : Mem w3 (Qr w0) [(b18, .cells cc3 5 fz3)] := m3
 refine Zm (i64 n) <| Qd (Kv (a := 32) rfl rfl oM oM) <| Vw (oc92 (Ci rfl rfl rfl) (Qsm _ (Wp b18 0 pu.size cap3) (J5 pu) _ _ sD (hcv3 _ m3.h0) sD sD)) ?_
 rintro rxq5 w4 ⟨Hsq5, grxq5, k_w4⟩
 have m4 : Mem _ _ (Hsq5 ++ ([_])) := Mem.new (H := [_]) (H' := Hsq5) m3 k_w4
 obtain ⟨X, hX⟩ : ∃ X, X = Vb (Kz la lb) (J5 pu) (32 * n.toNat) := ⟨_, rfl⟩
 have hXl : X.length = 32 * n.toNat := by rw [hX, Dy]
 have e32 : (32 * n).toNat = 32 * n.toNat := by omega
 have gX6 := grxq5
 rw [e32, ← hX] at gX6
 refine Zx rxq5 ?_
 refine rN (sR ?_)
 refine Y9 (Ei (c := #[]) m4 Qc6 Zg rfl Vq Xo) fun w7 b22 m7 => ?_
 have m7 : Mem w7 (Qr w0) ([(b22, .cells #[] 23 (0, 0))] ++ (Hsq5 ++ ([(b18, .cells cc3 5 fz3)]))) := m7
 refine Zx (Wp b22 0 0 0) ?_
 refine rN (Qa (sR ?_))
 refine Zx (i64 0) ?_
 refine rN (Qh ?_)
 refine Y1 (fun g wv => ∃ (i : Nat) (sk : Value) (Hk : List (Nat × Obj)), ((i : Int) ≤ n) ∧ (Yx (Eb u8) 32 23 sk (Dp i X) Hk) ∧ g 0 = va ∧ g 1 = vb ∧ g 2 = (Value.string pu) ∧ g 3 = (i64 n) ∧ g 8 = Wl ∧ g 9 = rxq5 ∧ g 10 = sk ∧ g 11 = (i64 (i : Int)) ∧ Mem wv (Qr w0) (Hk ++ (Hsq5 ++ ([])))) (fun g wv => (n - RowKit.intOf (g 11)).toNat) ?_ ?_
 have m8 := Mem.drop [_] _ (Mem.pick2 [_] Hsq5 [_] _ m7)
 ·exact ⟨0, (Wp b22 0 0 0), [(b22, .cells #[] 23 (0, 0))], oM, (Yx.of (Eb u8) 32 23 b22 [] rfl Ya), rfl, rfl, rfl, rfl, rfl, rfl, rfl, rfl, m8⟩
 rintro fr9 w10 ⟨i, sk, Hk, hi, gkk, s0, s1, s2, s3, s8, s9, s10, s11, m10⟩
 have z11 := s11
 have z10 := s10
 refine Qa (sR ?_)
 refine Yb s11 <| Yb s3 <| Qd (Xa rfl rfl) <| rN ?_
 refine Zy rfl (fun hc11 => ?_) (fun hc11 => ?_)
 ·
  have hc11p := of_decide_eq_true hc11
  refine Qn (Qc (Qa (Qh (sR ?_))))
  refine Qd (Kw (ps := []) (c := (cl u8 (List.replicate 32 0))) Zg Xl Yw Ya rfl) <| Y9 (Q7 m10 Zg) fun w12 b12 m12 => Ye m12 (Qg (f := u8) (l := List.replicate 32 0) Qs Zg rfl rfl sD m12.h0 sZ rfl) fun w13 m13 => ?_
  refine rN (Qa (sR ?_))
  refine Zx (i64 0) ?_
  refine rN (Qh ?_)
  refine Y1 (fun g wv => ∃ (j : Nat), (j ≤ 32) ∧ g 0 = va ∧ g 1 = vb ∧ g 2 = (Value.string pu) ∧ g 3 = (i64 n) ∧ g 8 = Wl ∧ g 9 = rxq5 ∧ g 10 = sk ∧ g 11 = (i64 (i : Int)) ∧ g 12 = (ptr b12 0) ∧ g 13 = (i64 (j : Int)) ∧ g 25 = (bl (decide ((i : Int) < n))) ∧ Mem wv (Qr w0) ([(b12, .cells (cl u8 (Y0 (fun q => X.getD (32 * (i : Int) + (q : Int)).toNat 0) 0 32 j)) 23 (0, 0))] ++ (Hk ++ (Hsq5 ++ ([]))))) (fun g wv => (32 - RowKit.intOf (g 13)).toNat) ?_ ?_
  ·exact ⟨0, oM, s0, s1, s2, s3, s8, s9, s10, s11, rfl, rfl, rfl, (by rw [En]; exact m13)⟩
  rintro fr14 w15 ⟨j, hj, s0, s1, s2, s3, s8, s9, s10, s11, s12, s13, s25, m15⟩
  have z13 := s13
  refine Qa (sR ?_)
  refine Yb s13 <| Qd (Xa (b := 32) rfl rfl) <| rN ?_
  refine Zy rfl (fun hc16 => ?_) (fun hc16 => ?_)
  ·
   have hc16p := of_decide_eq_true hc16
   refine Qn (Qc (Qa (Qh (Qb ?_))))
   refine Yb s13 <| Yb s9 <| Yb s11 <| Qd (Kv (a := 32) rfl rfl oM oM) <| Yb s13 <| Qd (Zf rfl rfl oM oM) <| Qd (Zt (gX6.rd (Mem.pick2 [_] Hk Hsq5 _ m15)) Zo Yw rfl rfl oM sD) <| Qd (v := (u8 (X.getD (((32 * (i : Int)) + (j : Int) : Int).toNat) 0))) (X5 (l := X) (i := (32 * (i : Int)) + (j : Int)) (dflt := 0) (gX6.rd (Mem.pick2 [_] Hk Hsq5 _ m15)) Vs rfl oM sD rfl) <| Qd (Zl (r := j) oM Xl Yw s12 rfl oM sD) <| Ye m15 (Xx (f := u8) (a := X.getD (((32 * (i : Int)) + (j : Int) : Int).toNat) 0) Qs Yw rfl rfl m15.h0 sD (.inl (Nat.zero_le _))) fun w17 m17 => ?_
   refine Zp (Qe (Qb ?_))
   refine Yb s13 <| Qd (Zf (b := 1) rfl rfl oM oM) <| Zx (i64 ((j : Int) + 1)) <| rN ?_
   exact ⟨⟨j + 1, oM, s0, s1, s2, s3, s8, s9, s10, s11, s12, rfl, s25, (by rw [← E5 (fun q => X.getD (32 * (i : Int) + (q : Int)).toNat 0) 0 (n := 32) (k := j) oM _ rfl]; exact m17)⟩, Ue rfl z13 oM oM⟩
  ·
   have hc16p := of_decide_eq_false hc16
   obtain rfl : j = 32 := by omega
   refine X4 ?_
   refine Qj (Qj (Xi ?_))
   refine Qb <| Yb s10 <| Qd (Qo Xl rfl Zg s12 m15.h0 sZ) <| Y9 (Hu (cs := (cl u8 (Y0 (fun q => X.getD (32 * (i : Int) + (q : Int)).toNat 0) 0 32 32))) m15 Qc6 Zg rfl rfl rfl sZ) fun w18 b44 m18 => ?_
   have m18 : Mem w18 (Qr w0) ([(b44, .cells (cl u8 (Y0 (fun q => X.getD (32 * (i : Int) + (q : Int)).toNat 0) 0 32 32)) 23 (0, 0)), (b12, .cells (cl u8 (Y0 (fun q => X.getD (32 * (i : Int) + (q : Int)).toNat 0) 0 32 32)) 23 (0, 0))] ++ (Hk ++ (Hsq5 ++ ([])))) := m18
   refine Vw (C9 (enc := (Eb u8)) (k := 32) (Hs := Hk) (H := [_, _] ++ (Hsq5 ++ ([]))) (Mem.pick [_, _] Hk _ m18) gkk rfl rfl (RdK.ofOne (enc := (Eb u8)) (k := 32) (a := (Y0 (fun q => X.getD (32 * (i : Int) + (q : Int)).toNat 0) 0 32 32)) m18.h0 rfl (by simp only [Eb, List.length_map]; first | omega | (simp; done) | (simp; omega) | decide)) Qc6 Qc6 Zg rfl rfl (fun _ _ => Jj Qs _) sD sD) ?_
   rintro sv19 w19 ⟨Hs19, m19, g19⟩
   replace g19 : Yx (Eb u8) 32 23 sv19 ((Dp i X) ++ ([Y0 (fun q => X.getD (32 * (i : Int) + (q : Int)).toNat 0) 0 32 32])) Hs19 := g19
   refine Zx sv19 ?_
   refine Zp (Qe (Qb ?_))
   refine Yb s11 <| Qd (Zf (b := 1) rfl rfl oM oM) <| Zx (i64 ((i : Int) + 1)) <| rN ?_
   have m20 := Mem.drop [_] _ (Mem.pick Hs19 [_] _ m19)
   have m21 := Mem.drop [_] _ (Mem.pick Hs19 [_] _ m20)
   exact ⟨⟨i + 1, sv19, Hs19, oM, (Yx.cast g19 (by rw [Qjy X i oM, ← Qhw])), s0, s1, s2, s3, s8, s9, rfl, rfl, m21⟩, Ue rfl z11 oM oM⟩
 ·
  have hc11p := of_decide_eq_false hc11
  obtain rfl : i = n.toNat := by omega
  refine X4 ?_
  refine Qj (Qj (Xi ?_))
  refine sR <| Yb s10 <| Zx sk ?_
  refine rN (Zz ?_)
  refine Qp [sk] ⟨rfl, trivial⟩ ?_
  have m22 := Mem.drop Hsq5 _ (Mem.pick Hk Hsq5 _ m10)
  exact ⟨Hk, by rw [← hX]; exact gkk, by simpa using m22⟩
theorem Qq2 (mark : BitVec 8) (bk : Nat) (chain : Z8) (w0 : World)  (hT : Tabs (Y8 w0)) (hbk : Y8 w0 bk = some (.cells (cl u8 chain) 23 (0, 0))) (hcl : chain.length = 32) : X0 prog 58 #[(u8 mark), (ptr bk 0)] w0 (fun r w1 => r = (agg u8 (Xj chain [mark])) ∧ Ext w0 w1) := by
 refine Qy (args := [(u8 mark), (ptr bk 0)]) func58 rfl ntmps58 results58 rfl ?_
 have m0 : Mem w0 (Qr w0) [] := Mem.of_world w0
 refine sR <| Y9 (Q7 m0 Zg) fun w1 b3 m1 => ?_
 refine rN (sR ?_)
 refine Qd (Xk (i := 0) (j := 32) Xl Yw rfl (Zd _ _) (Zd _ _) oM sD sD) <| Zm (u8 mark) <| Y9 (Qq u8 [mark] Qs m1 Zo Yw rfl rfl rfl) fun w2 b6 m2 => Y9 (Ky [(Wp b6 0 1 1)] (by simp [Wp, ptr, Value.oneCell', i64, u8, u32, u64, bl]) m2 Qhz Qa6 rfl rfl rfl) fun w3 b7 m3 => ?_
 have m3 : Mem w3 (Qr w0) [(b7, .cells #[(Wp b6 0 1 1)] 27 (0, 0)), (b6, .cells (cl u8 ([mark])) 5 (0, 0)), (b3, .cells (cl u8 (List.replicate 32 0)) 23 (0, 0))] := m3
 refine U3 m3 (oc59 (Xm rfl rfl) (Qbt (sla bk 0 1 0 32 32) chain (Wp b7 0 1 1) ([((Wp b6 0 1 1), [mark])]) _ (hT.mono fun b o e => (m3).rest b o e) (Rd.slaAll (m3.rest _ _ hbk) sD) sD (Rd.mkA (f := Prod.fst) (l := [((Wp b6 0 1 1), [mark])]) m3.h0) (Ej (Rd.mkA m3.h1) L8) (by rw [Qag]; simp) sD)) fun w4 m4 => Aa m4 (Qg (f := u8) (l := Xj chain (Vp ([((Wp b6 0 1 1), [mark])]))) Qs Zg rfl rfl sD m4.h2 sZ rfl) fun w6 m6 => ?_
 refine rN (Zz ?_)
 refine Qp [(agg u8 (Xj chain (Vp ([((Wp b6 0 1 1), [mark])]))))] ⟨⟨_, rfl, Xn Xl rfl Zg m6.h2 sZ⟩, trivial⟩ ?_
 exact ⟨congrArg (agg u8) (by rw [Qag]), m6.toExt⟩
theorem Qpv (chain : Z8) (w0 : World)  (hT : Tabs (Y8 w0)) (hcl : chain.length = 32) : X0 prog 32 #[(agg u8 chain)] w0 (fun r w1 => r = (Value.tuple #[(agg u8 (Xj chain [2#8])), (agg u8 (Xj chain [1#8]))]) ∧ Ext w0 w1) := by
 refine Qy (args := [(agg u8 chain)]) func32 rfl ntmps32 results32 rfl ?_
 have m0 : Mem w0 (Qr w0) [] := Mem.of_world w0
 refine sR <| Y9 (Xc (f := u8) (l := chain) m0 rfl) fun w1 b1 m1 => Y9 (Q7 m1 Zg) fun w2 b2 m2 => Y9 (Q7 m2 Zg) fun w3 b3 m3 => ?_
 refine rN (sR ?_)
 refine Qd (Qht (Jv rfl)) <| Zx (Value.func (.func 58) #[] #[(ptr b1 0)]) ?_
 refine rN (sR ?_)
 refine Zm (Value.func (.func 58) #[] #[(ptr b1 0)]) <| U3 m3 (Qgs (f := 58) rfl func58 bd58 nm58 (Jv rfl) (Qq2 2#8 b1 chain _ (hT.mono fun b o e => (m3).rest b o e) m3.h2 sD)) fun w4 m4 => Zm (Value.func (.func 58) #[] #[(ptr b1 0)]) <| U3 m4 (Qgs (f := 58) rfl func58 bd58 nm58 (Jv rfl) (Qq2 1#8 b1 chain _ (hT.mono fun b o e => (m4).rest b o e) m4.h2 sD)) fun w6 m6 => Vu m6 (Qg (f := u8) (l := Xj chain [2#8]) Qs Zg rfl rfl sD m6.h1 sZ rfl) fun w8 m8 => Ye m8 (Qg (f := u8) (l := Xj chain [1#8]) Qs Zg rfl rfl sD m8.h0 sZ rfl) fun w9 m9 => ?_
 refine rN (Zz ?_)
 refine Qp [(agg u8 (Xj chain [2#8])), (agg u8 (Xj chain [1#8]))] ⟨⟨_, rfl, Xn Xl rfl Zg m9.h1 sZ⟩, ⟨_, rfl, Xn Xl rfl Zg m9.h0 sZ⟩, trivial⟩ ?_
 exact ⟨rfl, m9.toExt⟩
theorem Qq4 (chain : Z8) (w0 : World)  (hcl : chain.length = 32) : X0 prog 37 #[(agg u8 chain)] w0 (fun r w1 => r = (Value.tuple #[(agg u8 (Xj chain [2#8])), (agg u8 (Xj chain [1#8]))]) ∧ Ext w0 w1) := by
 refine Qy (args := [(agg u8 chain)]) func37 rfl ntmps37 results37 rfl ?_
 have m0 : Mem w0 (Qr w0) [] := Mem.of_world w0
 refine sR <| Y9 (Xc (f := u8) (l := chain) m0 rfl) fun w1 b1 m1 => Y9 (Q7 m1 Zg) fun w2 b2 m2 => Y9 (Q7 m2 Zg) fun w3 b3 m3 => ?_
 refine rN (Qa ?_)
 refine J4 Xo ?_
 refine Qi4 1 4 rfl rfl ?_ ?_
 ·
  refine Hf [(0, false), (3, false), (1, true), (2, false), (4, true)] 5 rfl Xo <| X6 rfl (Xk (i := 0) (j := 32) Xl Yw rfl (Zd _ _) (Zd _ _) oM sD sD) <| X6 rfl (Xk (i := 0) (j := 32) Xl Yw rfl (Zd _ _) (Zd _ _) oM sD sD) ?_
  refine Bi rfl rfl (fun w4 e4 => ?_)
  have m4 := m3.ext e4
  refine Wu.mono (Qq u8 [2#8] Qs m4 Zo Yw rfl rfl rfl) ?_
  rintro _ w5 ⟨b5, rfl, e5, m5⟩
  refine ⟨e5, ?_⟩
  refine Vg rfl rfl (fun w6 e6 => oc69 (Xm rfl rfl) (Qaa (sla b1 0 1 0 32 32) chain (Wp b5 0 1 1) ([2#8]) _ (Rd.slaAll (m5.ext e6).h3 sD) sD (Rd.mkA (m5.ext e6).h0) sD)) ?_
  refine Bi rfl rfl (fun w9 e9 => ?_)
  have m9 := m5.ext e9
  refine Wu.mono (Qq u8 [1#8] Qs m9 Zo Yw rfl rfl rfl) ?_
  rintro _ w10 ⟨b8, rfl, e10, m10⟩
  refine ⟨e10, ?_⟩
  refine Gf m10 fun w11 m11 => U3 m11 (oc69 (Xm rfl rfl) (Qaa (sla b1 0 1 0 32 32) chain (Wp b8 0 1 1) ([1#8]) _ (Rd.slaAll m11.h4 sD) sD (Rd.mkA m11.h0) sD)) fun w12 m12 => yqU3 m12 (Qg (f := u8) (l := Xj chain ([2#8])) Qs Zg rfl rfl sD m12.h3 sZ rfl) fun w14 m14 => Aa m14 (Qg (f := u8) (l := Xj chain ([1#8])) Qs Zg rfl rfl sD m14.h2 sZ rfl) fun w15 m15 => ?_
  refine rN (Zz ?_)
  refine Qp [(agg u8 (Xj chain ([2#8]))), (agg u8 (Xj chain ([1#8])))] ⟨⟨_, rfl, Xn Xl rfl Zg m15.h3 sZ⟩, ⟨_, rfl, Xn Xl rfl Zg m15.h2 sZ⟩, trivial⟩ ?_
  exact ⟨rfl, m15.toExt⟩
 ·
  refine Hf [(0, false), (3, false), (4, true), (1, true), (2, false)] 5 rfl Xo <| X6 rfl (Xk (i := 0) (j := 32) Xl Yw rfl (Zd _ _) (Zd _ _) oM sD sD) <| X6 rfl (Xk (i := 0) (j := 32) Xl Yw rfl (Zd _ _) (Zd _ _) oM sD sD) ?_
  refine Bi rfl rfl (fun w16 e16 => ?_)
  have m16 := m3.ext e16
  refine Wu.mono (Qq u8 [1#8] Qs m16 Zo Yw rfl rfl rfl) ?_
  rintro _ w17 ⟨b8_1, rfl, e17, m17⟩
  refine ⟨e17, ?_⟩
  refine Bi rfl rfl (fun w18 e18 => ?_)
  have m18 := m17.ext e18
  refine Wu.mono (Qq u8 [2#8] Qs m18 Zo Yw rfl rfl rfl) ?_
  rintro _ w19 ⟨b5_1, rfl, e19, m19⟩
  refine ⟨e19, ?_⟩
  refine Vg rfl rfl (fun w20 e20 => oc69 (Xm rfl rfl) (Qaa (sla b1 0 1 0 32 32) chain (Wp b5_1 0 1 1) ([2#8]) _ (Rd.slaAll (m19.ext e20).h4 sD) sD (Rd.mkA (m19.ext e20).h0) sD)) <| Gf m19 fun w23 m23 => U3 m23 (oc69 (Xm rfl rfl) (Qaa (sla b1 0 1 0 32 32) chain (Wp b8_1 0 1 1) ([1#8]) _ (Rd.slaAll m23.h4 sD) sD (Rd.mkA m23.h1) sD)) fun w24 m24 => yqU3 m24 (Qg (f := u8) (l := Xj chain ([2#8])) Qs Zg rfl rfl sD m24.h3 sZ rfl) fun w26 m26 => Aa m26 (Qg (f := u8) (l := Xj chain ([1#8])) Qs Zg rfl rfl sD m26.h2 sZ rfl) fun w27 m27 => ?_
  refine rN (Zz ?_)
  refine Qp [(agg u8 (Xj chain ([2#8]))), (agg u8 (Xj chain ([1#8])))] ⟨⟨_, rfl, Xn Xl rfl Zg m27.h3 sZ⟩, ⟨_, rfl, Xn Xl rfl Zg m27.h2 sZ⟩, trivial⟩ ?_
  exact ⟨rfl, m27.toExt⟩
end Go.Proofs.YtkmiemlpfkfiiaaDoor
