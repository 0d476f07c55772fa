/- Contracts: kdf, third part. Conditions: none beyond those that each theorem states. -/
import Derived.Test.YtkmiemlpfkfiiaaDoorKd2
namespace Go.Proofs.YtkmiemlpfkfiiaaDoor
open Tryd
set_option linter.unusedVariables false
set_option linter.unusedSimpArgs false
@[simp] theorem filled_len {α : Type} (g : Nat → α) (z : α) (n k : Nat) : (Y1 g z n k).length = k + (n - k) := by simp [Y1]
theorem Qjo (X : Xg) (i : Nat) (h : 32 * i + 32 ≤ X.length) : Y1 (fun j => X.getD (32 * (i : Int) + (j : Int)).toNat 0) 0 32 32 = (X.drop (32 * i)).take 32 := by
 rw [Ag]
 refine List.ext_getElem (by simp; omega) fun j h1 h2 => ?_
 simp only [List.length_map, List.length_range] at h1
 have e : (32 * (i : Int) + (j : Int)).toNat = 32 * i + j := by omega
 simp [e, List.getD_eq_getElem?_getD]
 rw [List.getElem?_eq_getElem oM]; rfl
attribute [local irreducible] Xk tK Qeo Vd Wn Wp Rj Qfs Qd3
set_option maxHeartbeats 1000000 in
theorem Qqx (va : Value) (la : Xg) (vb : Value) (lb : Xg) (pu : ByteArray) (n : Int) (w0 : World)  (hra : Rd (Jl w0) u8 va la) (hla : la.length ≤ 1048576) (hrb : Rd (Jl w0) u8 vb lb) (hlb : lb.length ≤ 1048576) (hpu : pu.size ≤ 1048576) (hn : 0 ≤ n ∧ n ≤ 255) : X9 prog 70 #[va, vb, (Value.string pu), (i64 n)] w0 (fun r w1 => ∃ Hs, Yz (Ug u8) 32 23 r (Dh n.toNat (Vd (Wn la lb) (Kv pu) (32 * n.toNat))) Hs ∧ Mem w1 (Qu w0) Hs) := by
 refine Zb (args := [va, vb, (Value.string pu), (i64 n)]) func70 rfl ntmps70 results70 rfl ?_
 have m0 : Mem w0 (Qu w0) [] := Mem.of_world w0
 refine sR <| Zz Yj ?_
 refine rN (sR ?_)
 refine Zp va <| Zp vb <| U9 m0 (oc93 (Xm rfl rfl) (Qpt va la vb lb _ (Rd.ofRest hra m0) sD (Rd.ofRest hrb m0) sD)) fun w1 m1 => Zp (Value.string pu) <| Vy (Qha (s := pu) m1 uT9 Zu Gl rfl sD) ?_
 rintro _ w3 ⟨b18, cap3, cc3, fz3, rfl, _ew3, m3, hcv3⟩
 have m3 : Mem w3 (Qu w0) [(b18, .cells cc3 5 fz3)] := m3
 refine Zp (i64 n) <| Qd (Wl (a := 32) rfl rfl oM oM) <| Vy (oc92 (D6 rfl rfl rfl) (Qr8 _ (Wq b18 0 pu.size cap3) (Kv pu) _ _ sD (hcv3 _ m3.h0) sD sD)) ?_
 rintro rxq5 w4 ⟨Hsq5, grxq5, k_w4⟩
 have m4 : Mem _ _ (Hsq5 ++ ([_])) := Mem.new (H := [_]) (H' := Hsq5) m3 k_w4
 obtain ⟨X, hX⟩ : ∃ X, X = Vd (Wn la lb) (Kv pu) (32 * n.toNat) := ⟨_, rfl⟩
 have hXl : X.length = 32 * n.toNat := by rw [hX, Dt]
 have e32 : (32 * n).toNat = 32 * n.toNat := by omega
 have gX6 := grxq5
 rw [e32, ← hX] at gX6
 refine Zz rxq5 ?_
 refine rN (sR ?_)
 refine Y9 (Ee (c := #[]) m4 Qcx Zl rfl V3 Xw) fun w7 b22 m7 => ?_
 have m7 : Mem w7 (Qu w0) ([(b22, .cells #[] 23 (0, 0))] ++ (Hsq5 ++ ([(b18, .cells cc3 5 fz3)]))) := m7
 refine Zz (Wq b22 0 0 0) ?_
 refine rN (Qa (sR ?_))
 refine Zz (i64 0) ?_
 refine rN (Qk ?_)
 refine Y7 (fun g wv => ∃ (i : Nat) (sk : Value) (Hk : List (Nat × Obj)), ((i : Int) ≤ n) ∧ (Yz (Ug u8) 32 23 sk (Dh i X) Hk) ∧ g 0 = va ∧ g 1 = vb ∧ g 2 = (Value.string pu) ∧ g 3 = (i64 n) ∧ g 8 = Yj ∧ g 9 = rxq5 ∧ g 10 = sk ∧ g 11 = (i64 (i : Int)) ∧ Mem wv (Qu w0) (Hk ++ (Hsq5 ++ ([])))) (fun g wv => (n - RowKit.intOf (g 11)).toNat) ?_ ?_
 have m8 := Mem.drop [_] _ (Mem.pick2 [_] Hsq5 [_] _ m7)
 ·exact ⟨0, (Wq b22 0 0 0), [(b22, .cells #[] 23 (0, 0))], oM, (Yz.of (Ug u8) 32 23 b22 [] rfl X7), rfl, rfl, rfl, rfl, rfl, rfl, rfl, rfl, m8⟩
 rintro fr9 w10 ⟨i, sk, Hk, hi, gkk, s0, s1, s2, s3, s8, s9, s10, s11, m10⟩
 have z11 := s11
 have z10 := s10
 refine Qa (sR ?_)
 refine Ya s11 <| Ya s3 <| Qd (Z9 rfl rfl) <| rN ?_
 refine Z8 rfl (fun hc11 => ?_) (fun hc11 => ?_)
 ·
  have hc11p := of_decide_eq_true hc11
  refine Qs (Qc (Qa (Qk (sR ?_))))
  refine Qd (Vo (ps := []) (c := (cl u8 (List.replicate 32 0))) Zl Xq Y0 X7 rfl) <| Y9 (Zc m10 Zl) fun w12 b12 m12 => Ye m12 (Qj (f := u8) (l := List.replicate 32 0) Qy Zl rfl rfl sD m12.h0 sZ rfl) fun w13 m13 => ?_
  refine rN (Qa (sR ?_))
  refine Zz (i64 0) ?_
  refine rN (Qk ?_)
  refine Y7 (fun g wv => ∃ (j : Nat), (j ≤ 32) ∧ g 0 = va ∧ g 1 = vb ∧ g 2 = (Value.string pu) ∧ g 3 = (i64 n) ∧ g 8 = Yj ∧ g 9 = rxq5 ∧ g 10 = sk ∧ g 11 = (i64 (i : Int)) ∧ g 12 = (ptr b12 0) ∧ g 13 = (i64 (j : Int)) ∧ g 25 = (bl (decide ((i : Int) < n))) ∧ Mem wv (Qu w0) ([(b12, .cells (cl u8 (Y1 (fun q => X.getD (32 * (i : Int) + (q : Int)).toNat 0) 0 32 j)) 23 (0, 0))] ++ (Hk ++ (Hsq5 ++ ([]))))) (fun g wv => (32 - RowKit.intOf (g 13)).toNat) ?_ ?_
  ·exact ⟨0, oM, s0, s1, s2, s3, s8, s9, s10, s11, rfl, rfl, rfl, (by rw [Em]; exact m13)⟩
  rintro fr14 w15 ⟨j, hj, s0, s1, s2, s3, s8, s9, s10, s11, s12, s13, s25, m15⟩
  have z13 := s13
  refine Qa (sR ?_)
  refine Ya s13 <| Qd (Z9 (b := 32) rfl rfl) <| rN ?_
  refine Z8 rfl (fun hc16 => ?_) (fun hc16 => ?_)
  ·
   have hc16p := of_decide_eq_true hc16
   refine Qs (Qc (Qa (Qk (Qb ?_))))
   refine Ya s13 <| Ya s9 <| Ya s11 <| Qd (Wl (a := 32) rfl rfl oM oM) <| Ya s13 <| Qd (Zg rfl rfl oM oM) <| Qd (Zw (gX6.rd (Mem.pick2 [_] Hk Hsq5 _ m15)) Zu Y0 rfl rfl oM sD) <| Qd (v := (u8 (X.getD (((32 * (i : Int)) + (j : Int) : Int).toNat) 0))) (X8 (l := X) (i := (32 * (i : Int)) + (j : Int)) (dflt := 0) (gX6.rd (Mem.pick2 [_] Hk Hsq5 _ m15)) Gl rfl oM sD rfl) <| Qd (Zo (r := j) oM Xq Y0 s12 rfl oM sD) <| Ye m15 (Xz (f := u8) (a := X.getD (((32 * (i : Int)) + (j : Int) : Int).toNat) 0) Qy Y0 rfl rfl m15.h0 sD (.inl (Nat.zero_le _))) fun w17 m17 => ?_
   refine Zv (Qh (Qb ?_))
   refine Ya s13 <| Qd (Zg (b := 1) rfl rfl oM oM) <| Zz (i64 ((j : Int) + 1)) <| rN ?_
   exact ⟨⟨j + 1, oM, s0, s1, s2, s3, s8, s9, s10, s11, s12, rfl, s25, (by rw [← Ew (fun q => X.getD (32 * (i : Int) + (q : Int)).toNat 0) 0 (n := 32) (k := j) oM _ rfl]; exact m17)⟩, Uo rfl z13 oM oM⟩
  ·
   have hc16p := of_decide_eq_false hc16
   obtain rfl : j = 32 := by omega
   refine X6 ?_
   refine Qm (Qm (Xi ?_))
   refine Qb <| Ya s10 <| Qd (Qp Xq rfl Zl s12 m15.h0 sZ) <| Y9 (Az (cs := (cl u8 (Y1 (fun q => X.getD (32 * (i : Int) + (q : Int)).toNat 0) 0 32 32))) m15 Qcx Zl rfl rfl rfl sZ) fun w18 b44 m18 => ?_
   have m18 : Mem w18 (Qu w0) ([(b44, .cells (cl u8 (Y1 (fun q => X.getD (32 * (i : Int) + (q : Int)).toNat 0) 0 32 32)) 23 (0, 0)), (b12, .cells (cl u8 (Y1 (fun q => X.getD (32 * (i : Int) + (q : Int)).toNat 0) 0 32 32)) 23 (0, 0))] ++ (Hk ++ (Hsq5 ++ ([])))) := m18
   refine Vy (Ad (enc := (Ug u8)) (k := 32) (Hs := Hk) (H := [_, _] ++ (Hsq5 ++ ([]))) (Mem.pick [_, _] Hk _ m18) gkk rfl rfl (RdK.ofOne (enc := (Ug u8)) (k := 32) (a := (Y1 (fun q => X.getD (32 * (i : Int) + (q : Int)).toNat 0) 0 32 32)) m18.h0 rfl (by simp only [Ug, List.length_map]; first | omega | (simp; done) | (simp; omega) | decide)) Qcx Qcx Zl rfl rfl (fun _ _ => Jo Qy _) sD sD) ?_
   rintro sv19 w19 ⟨Hs19, m19, g19⟩
   replace g19 : Yz (Ug u8) 32 23 sv19 ((Dh i X) ++ ([Y1 (fun q => X.getD (32 * (i : Int) + (q : Int)).toNat 0) 0 32 32])) Hs19 := g19
   refine Zz sv19 ?_
   refine Zv (Qh (Qb ?_))
   refine Ya s11 <| Qd (Zg (b := 1) rfl rfl oM oM) <| Zz (i64 ((i : Int) + 1)) <| rN ?_
   have m20 := Mem.drop [_] _ (Mem.pick Hs19 [_] _ m19)
   have m21 := Mem.drop [_] _ (Mem.pick Hs19 [_] _ m20)
   exact ⟨⟨i + 1, sv19, Hs19, oM, (Yz.cast g19 (by rw [Qjo X i oM, ← Qhm])), s0, s1, s2, s3, s8, s9, rfl, rfl, m21⟩, Uo rfl z11 oM oM⟩
 ·
  have hc11p := of_decide_eq_false hc11
  obtain rfl : i = n.toNat := by omega
  refine X6 ?_
  refine Qm (Qm (Xi ?_))
  refine sR <| Ya s10 <| Zz sk ?_
  refine rN (Xb ?_)
  refine Qv [sk] ⟨rfl, trivial⟩ ?_
  have m22 := Mem.drop Hsq5 _ (Mem.pick Hk Hsq5 _ m10)
  exact ⟨Hk, by rw [← hX]; exact gkk, by simpa using m22⟩
theorem Qqt (mark : BitVec 8) (bk : Nat) (chain : Xg) (w0 : World)  (hT : Tabs (Jl w0)) (hbk : Jl w0 bk = some (.cells (cl u8 chain) 23 (0, 0))) (hcl : chain.length = 32) : X9 prog 58 #[(u8 mark), (ptr bk 0)] w0 (fun r w1 => r = (agg u8 (Xk chain [mark])) ∧ Ext w0 w1) := by
 refine Zb (args := [(u8 mark), (ptr bk 0)]) func58 rfl ntmps58 results58 rfl ?_
 have m0 : Mem w0 (Qu w0) [] := Mem.of_world w0
 refine sR <| Y9 (Zc m0 Zl) fun w1 b3 m1 => ?_
 refine rN (sR ?_)
 refine Qd (Xo (i := 0) (j := 32) Xq Y0 rfl (Zi _ _) (Zi _ _) oM sD sD) <| Zp (u8 mark) <| Y9 (Qw u8 [mark] Qy m1 Zu Y0 rfl rfl rfl) fun w2 b6 m2 => Y9 (Ku [(Wq b6 0 1 1)] (by simp [Wq, ptr, Value.oneCell', i64, u8, u32, u64, bl]) m2 Qbi Pg rfl rfl rfl) fun w3 b7 m3 => ?_
 have m3 : Mem w3 (Qu w0) [(b7, .cells #[(Wq b6 0 1 1)] 27 (0, 0)), (b6, .cells (cl u8 ([mark])) 5 (0, 0)), (b3, .cells (cl u8 (List.replicate 32 0)) 23 (0, 0))] := m3
 refine U9 m3 (oc59 (Xm rfl rfl) (Qbh (sla bk 0 1 0 32 32) chain (Wq b7 0 1 1) ([((Wq b6 0 1 1), [mark])]) _ (hT.mono fun b o e => (m3).rest b o e) (Rd.slaAll (m3.rest _ _ hbk) sD) sD (Rd.mkA (f := Prod.fst) (l := [((Wq b6 0 1 1), [mark])]) m3.h0) (Ef (Rd.mkA m3.h1) Ll) (by rw [Qaa]; simp) sD)) fun w4 m4 => Bh m4 (Qj (f := u8) (l := Xk chain (Vu ([((Wq b6 0 1 1), [mark])]))) Qy Zl rfl rfl sD m4.h2 sZ rfl) fun w6 m6 => ?_
 refine rN (Xb ?_)
 refine Qv [(agg u8 (Xk chain (Vu ([((Wq b6 0 1 1), [mark])]))))] ⟨⟨_, rfl, Xr Xq rfl Zl m6.h2 sZ⟩, trivial⟩ ?_
 exact ⟨congrArg (agg u8) (by rw [Qaa]), m6.toExt⟩
theorem Qpo (chain : Xg) (w0 : World)  (hT : Tabs (Jl w0)) (hcl : chain.length = 32) : X9 prog 32 #[(agg u8 chain)] w0 (fun r w1 => r = (Value.tuple #[(agg u8 (Xk chain [2#8])), (agg u8 (Xk chain [1#8]))]) ∧ Ext w0 w1) := by
 refine Zb (args := [(agg u8 chain)]) func32 rfl ntmps32 results32 rfl ?_
 have m0 : Mem w0 (Qu w0) [] := Mem.of_world w0
 refine sR <| Y9 (Xa (f := u8) (l := chain) m0 rfl) fun w1 b1 m1 => Y9 (Zc m1 Zl) fun w2 b2 m2 => Y9 (Zc m2 Zl) fun w3 b3 m3 => ?_
 refine rN (sR ?_)
 refine Qd (Qhj (Kt rfl)) <| Zz (Value.func (.func 58) #[] #[(ptr b1 0)]) ?_
 refine rN (sR ?_)
 refine Zp (Value.func (.func 58) #[] #[(ptr b1 0)]) <| U9 m3 (Qgi (f := 58) rfl func58 bd58 nm58 (Kt rfl) (Qqt 2#8 b1 chain _ (hT.mono fun b o e => (m3).rest b o e) m3.h2 sD)) fun w4 m4 => Zp (Value.func (.func 58) #[] #[(ptr b1 0)]) <| U9 m4 (Qgi (f := 58) rfl func58 bd58 nm58 (Kt rfl) (Qqt 1#8 b1 chain _ (hT.mono fun b o e => (m4).rest b o e) m4.h2 sD)) fun w6 m6 => Vz m6 (Qj (f := u8) (l := Xk chain [2#8]) Qy Zl rfl rfl sD m6.h1 sZ rfl) fun w8 m8 => Ye m8 (Qj (f := u8) (l := Xk chain [1#8]) Qy Zl rfl rfl sD m8.h0 sZ rfl) fun w9 m9 => ?_
 refine rN (Xb ?_)
 refine Qv [(agg u8 (Xk chain [2#8])), (agg u8 (Xk chain [1#8]))] ⟨⟨_, rfl, Xr Xq rfl Zl m9.h1 sZ⟩, ⟨_, rfl, Xr Xq rfl Zl m9.h0 sZ⟩, trivial⟩ ?_
 exact ⟨rfl, m9.toExt⟩
theorem Qqv (chain : Xg) (w0 : World)  (hcl : chain.length = 32) : X9 prog 37 #[(agg u8 chain)] w0 (fun r w1 => r = (Value.tuple #[(agg u8 (Xk chain [2#8])), (agg u8 (Xk chain [1#8]))]) ∧ Ext w0 w1) := by
 refine Zb (args := [(agg u8 chain)]) func37 rfl ntmps37 results37 rfl ?_
 have m0 : Mem w0 (Qu w0) [] := Mem.of_world w0
 refine sR <| Y9 (Xa (f := u8) (l := chain) m0 rfl) fun w1 b1 m1 => Y9 (Zc m1 Zl) fun w2 b2 m2 => Y9 (Zc m2 Zl) fun w3 b3 m3 => ?_
 refine rN (Qa ?_)
 refine Kr Xw ?_
 refine Qiy 1 4 rfl rfl ?_ ?_
 ·
  refine Ar [(0, false), (3, false), (1, true), (2, false), (4, true)] 5 rfl Xw <| Yb rfl (Xo (i := 0) (j := 32) Xq Y0 rfl (Zi _ _) (Zi _ _) oM sD sD) <| Yb rfl (Xo (i := 0) (j := 32) Xq Y0 rfl (Zi _ _) (Zi _ _) oM sD sD) ?_
  refine Cj rfl rfl (fun w4 e4 => ?_)
  have m4 := m3.ext e4
  refine Vp.mono (Qw u8 [2#8] Qy m4 Zu Y0 rfl rfl rfl) ?_
  rintro _ w5 ⟨b5, rfl, e5, m5⟩
  refine ⟨e5, ?_⟩
  refine Vg rfl rfl (fun w6 e6 => oc69 (Xm rfl rfl) (Tq (sla b1 0 1 0 32 32) chain (Wq b5 0 1 1) ([2#8]) _ (Rd.slaAll (m5.ext e6).h3 sD) sD (Rd.mkA (m5.ext e6).h0) sD)) ?_
  refine Cj rfl rfl (fun w9 e9 => ?_)
  have m9 := m5.ext e9
  refine Vp.mono (Qw u8 [1#8] Qy m9 Zu Y0 rfl rfl rfl) ?_
  rintro _ w10 ⟨b8, rfl, e10, m10⟩
  refine ⟨e10, ?_⟩
  refine Gs m10 fun w11 m11 => U9 m11 (oc69 (Xm rfl rfl) (Tq (sla b1 0 1 0 32 32) chain (Wq b8 0 1 1) ([1#8]) _ (Rd.slaAll m11.h4 sD) sD (Rd.mkA m11.h0) sD)) fun w12 m12 => yqU3 m12 (Qj (f := u8) (l := Xk chain ([2#8])) Qy Zl rfl rfl sD m12.h3 sZ rfl) fun w14 m14 => Bh m14 (Qj (f := u8) (l := Xk chain ([1#8])) Qy Zl rfl rfl sD m14.h2 sZ rfl) fun w15 m15 => ?_
  refine rN (Xb ?_)
  refine Qv [(agg u8 (Xk chain ([2#8]))), (agg u8 (Xk chain ([1#8])))] ⟨⟨_, rfl, Xr Xq rfl Zl m15.h3 sZ⟩, ⟨_, rfl, Xr Xq rfl Zl m15.h2 sZ⟩, trivial⟩ ?_
  exact ⟨rfl, m15.toExt⟩
 ·
  refine Ar [(0, false), (3, false), (4, true), (1, true), (2, false)] 5 rfl Xw <| Yb rfl (Xo (i := 0) (j := 32) Xq Y0 rfl (Zi _ _) (Zi _ _) oM sD sD) <| Yb rfl (Xo (i := 0) (j := 32) Xq Y0 rfl (Zi _ _) (Zi _ _) oM sD sD) ?_
  refine Cj rfl rfl (fun w16 e16 => ?_)
  have m16 := m3.ext e16
  refine Vp.mono (Qw u8 [1#8] Qy m16 Zu Y0 rfl rfl rfl) ?_
  rintro _ w17 ⟨b8_1, rfl, e17, m17⟩
  refine ⟨e17, ?_⟩
  refine Cj rfl rfl (fun w18 e18 => ?_)
  have m18 := m17.ext e18
  refine Vp.mono (Qw u8 [2#8] Qy m18 Zu Y0 rfl rfl rfl) ?_
  rintro _ w19 ⟨b5_1, rfl, e19, m19⟩
  refine ⟨e19, ?_⟩
  refine Vg rfl rfl (fun w20 e20 => oc69 (Xm rfl rfl) (Tq (sla b1 0 1 0 32 32) chain (Wq b5_1 0 1 1) ([2#8]) _ (Rd.slaAll (m19.ext e20).h4 sD) sD (Rd.mkA (m19.ext e20).h0) sD)) <| Gs m19 fun w23 m23 => U9 m23 (oc69 (Xm rfl rfl) (Tq (sla b1 0 1 0 32 32) chain (Wq b8_1 0 1 1) ([1#8]) _ (Rd.slaAll m23.h4 sD) sD (Rd.mkA m23.h1) sD)) fun w24 m24 => yqU3 m24 (Qj (f := u8) (l := Xk chain ([2#8])) Qy Zl rfl rfl sD m24.h3 sZ rfl) fun w26 m26 => Bh m26 (Qj (f := u8) (l := Xk chain ([1#8])) Qy Zl rfl rfl sD m26.h2 sZ rfl) fun w27 m27 => ?_
  refine rN (Xb ?_)
  refine Qv [(agg u8 (Xk chain ([2#8]))), (agg u8 (Xk chain ([1#8])))] ⟨⟨_, rfl, Xr Xq rfl Zl m27.h3 sZ⟩, ⟨_, rfl, Xr Xq rfl Zl m27.h2 sZ⟩, trivial⟩ ?_
  exact ⟨rfl, m27.toExt⟩
end Go.Proofs.YtkmiemlpfkfiiaaDoor
