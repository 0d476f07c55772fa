/- Contracts: kdf, third part. Conditions: none beyond those that each theorem states. -/
import Derived.Test.YtkmiemlpfkfiiaaDoorKd2
namespace Go.Proofs.YtkmiemlpfkfiiaaDoor
set_option linter.unusedVariables false
set_option linter.unusedSimpArgs false
@[simp] theorem filled_len {α : Type} (g : Nat → α) (z : α) (n k : Nat) : (Yk g z n k).length = k + (n - k) := by simp [Yk]
theorem Ql3 (X : List (BitVec 8)) (i : Nat) (h : 32 * i + 32 ≤ X.length) : Yk (fun j => X.getD (32 * (i : Int) + (j : Int)).toNat 0) 0 32 32 = (X.drop (32 * i)).take 32 := by
 rw [Ej]
 refine List.ext_getElem (by simp; omega) fun j h1 h2 => ?_
 simp only [List.length_map, List.length_range] at h1
 have e : (32 * (i : Int) + (j : Int)).toNat = 32 * i + j := by omega
 simp [e, List.getD_eq_getElem?_getD]
 rw [List.getElem?_eq_getElem oM]; rfl
attribute [local irreducible] X7 tK Qce J4 Jm Jc Aw Qdj Qby
set_option maxHeartbeats 1000000 in
theorem Qm4 (va : Value) (la : List (BitVec 8)) (vb : Value) (lb : List (BitVec 8)) (pu : ByteArray) (n : Int) (w0 : World)  (hra : Rd (Yq w0) u8 va la) (hla : la.length ≤ 1048576) (hrb : Rd (Yq w0) u8 vb lb) (hlb : lb.length ≤ 1048576) (hpu : pu.size ≤ 1048576) (hn : 0 ≤ n ∧ n ≤ 255) : Xz Tryd.prog 70 #[va, vb, (Value.string pu), (i64 n)] w0 (fun r w1 => ∃ Hs, J6 (Ug u8) 32 23 r (Uw n.toNat (J4 (Jm la lb) (Yw pu) (32 * n.toNat))) Hs ∧ Mem w1 (Qy w0) Hs) := by
 refine Zd (args := [va, vb, (Value.string pu), (i64 n)]) Tryd.func70 rfl Tryd.ntmps70 Tryd.results70 rfl ?_
 have m0 : Mem w0 (Qy w0) [] := Mem.of_world w0
 refine sR <| Qa rfl (Qc (v := (Value.slice none 0 0)) rfl) ?_
 refine rN (sR ?_)
 refine rM rfl (v := va) rfl <| rM rfl (v := vb) rfl <| Za rfl (oc93 (Xr rfl rfl) (Qma va la vb lb _ (Rd.ofRest hra m0) sD (Rd.ofRest hrb m0) sD)) ?_
 rintro _ w1 ⟨rfl, _ew1⟩
 have m1 := m0.ext _ew1
 refine Qa rfl (Qb (v := (Value.string pu)) rfl) <| Za rfl (Qel (s := pu) m1 uT9 Zi Vm rfl sD) ?_
 rintro _ w3 ⟨b18, cap3, cc3, fz3, rfl, _ew3, m3, hcv3⟩
 have m3 : Mem w3 (Qy w0) [(b18, .cells cc3 5 fz3)] := m3
 refine Qa rfl (Qb (v := (i64 n)) rfl) <| Qa rfl (Z7 (a := 32) rfl rfl oM oM) <| Za rfl (oc92 (Vx rfl rfl rfl) (Qom _ (Ko b18 0 pu.size cap3) (Yw pu) _ _ sD (hcv3 _ m3.h0) sD sD)) ?_
 rintro rxq5 w4 ⟨Hsq5, grxq5, k_w4⟩
 have m4 : Mem _ _ (Hsq5 ++ ([_])) := Mem.new (H := [_]) (H' := Hsq5) m3 k_w4
 obtain ⟨X, hX⟩ : ∃ X, X = J4 (Jm la lb) (Yw pu) (32 * n.toNat) := ⟨_, rfl⟩
 have hXl : X.length = 32 * n.toNat := by rw [hX, U4]
 have e32 : (32 * n).toNat = 32 * n.toNat := by omega
 have gX6 := grxq5
 rw [e32, ← hX] at gX6
 refine rA rfl (v := rxq5) rfl ?_
 refine rN (sR ?_)
 refine Za rfl (H9 (c := #[]) m4 Qbt Z9 rfl Vo (by kernel_rfl)) ?_
 rintro _ w7 ⟨b22, rfl, _ew7, m7⟩
 have m7 : Mem w7 (Qy w0) ([(b22, .cells #[] 23 (0, 0))] ++ (Hsq5 ++ ([(b18, .cells cc3 5 fz3)]))) := m7
 refine Qa rfl (Qc (v := (Ko b22 0 0 0)) rfl) ?_
 refine rN (Qg (sR ?_))
 refine Qa rfl (Qc (v := (i64 0)) rfl) ?_
 refine rN (Qo ?_)
 refine Yo (fun g wv => ∃ (i : Nat) (sk : Value) (Hk : List (Nat × Obj)), ((i : Int) ≤ n) ∧ (J6 (Ug u8) 32 23 sk (Uw i X) Hk) ∧ g 0 = va ∧ g 1 = vb ∧ g 2 = (Value.string pu) ∧ g 3 = (i64 n) ∧ g 8 = (Value.slice none 0 0) ∧ g 9 = rxq5 ∧ g 10 = sk ∧ g 11 = (i64 (i : Int)) ∧ Mem wv (Qy w0) (Hk ++ (Hsq5 ++ ([])))) (fun g wv => (n - RowKit.intOf (g 11)).toNat) ?_ ?_
 have m8 := Mem.drop [_] _ (Mem.pick2 [_] Hsq5 [_] _ m7)
 ·exact ⟨0, (Ko b22 0 0 0), [(b22, .cells #[] 23 (0, 0))], oM, (J6.of (Ug u8) 32 23 b22 [] rfl (by simp)), rfl, rfl, rfl, rfl, rfl, rfl, rfl, rfl, m8⟩
 rintro fr9 w10 ⟨i, sk, Hk, hi, gkk, s0, s1, s2, s3, s8, s9, s10, s11, m10⟩
 have z11 := s11
 have z10 := s10
 refine Qg (sR ?_)
 refine rM rfl s11 <| rM rfl s3 <| Qa rfl (Qs rfl rfl) <| rN ?_
 refine Xv rfl (fun hc11 => ?_) (fun hc11 => ?_)
 ·
  have hc11p := of_decide_eq_true hc11
  refine Q7 (Qh (Qg (Qo (sR ?_))))
  refine Qa rfl (Jp (ps := []) (c := (cl u8 (List.replicate 32 0))) Z9 X3 X6 (by simp) rfl) <| Za rfl (Zg m10 Z9) ?_
  rintro _ w12 ⟨b12, rfl, _ew12, m12⟩
  refine Zw (Qm (f := u8) (l := List.replicate 32 0) Qu Z9 rfl rfl sD m12.h0 sZ rfl) ?_
  rintro _ w13 uq13
  have m13 := m12.upd0 uq13
  refine rN (Qg (sR ?_))
  refine Qa rfl (Qc (v := (i64 0)) rfl) ?_
  refine rN (Qo ?_)
  refine Yo (fun g wv => ∃ (j : Nat), (j ≤ 32) ∧ g 0 = va ∧ g 1 = vb ∧ g 2 = (Value.string pu) ∧ g 3 = (i64 n) ∧ g 8 = (Value.slice none 0 0) ∧ g 9 = rxq5 ∧ g 10 = sk ∧ g 11 = (i64 (i : Int)) ∧ g 12 = (ptr b12 0) ∧ g 13 = (i64 (j : Int)) ∧ g 25 = (bl (decide ((i : Int) < n))) ∧ Mem wv (Qy w0) ([(b12, .cells (cl u8 (Yk (fun q => X.getD (32 * (i : Int) + (q : Int)).toNat 0) 0 32 j)) 23 (0, 0))] ++ (Hk ++ (Hsq5 ++ ([]))))) (fun g wv => (32 - RowKit.intOf (g 13)).toNat) ?_ ?_
  ·exact ⟨0, oM, s0, s1, s2, s3, s8, s9, s10, s11, rfl, rfl, rfl, (by rw [Fa]; exact m13)⟩
  rintro fr14 w15 ⟨j, hj, s0, s1, s2, s3, s8, s9, s10, s11, s12, s13, s25, m15⟩
  have z13 := s13
  refine Qg (sR ?_)
  refine rM rfl s13 <| Qa rfl (Qs (b := 32) rfl rfl) <| rN ?_
  refine Xv rfl (fun hc16 => ?_) (fun hc16 => ?_)
  ·
   have hc16p := of_decide_eq_true hc16
   refine Q7 (Qh (Qg (Qo (Qe ?_))))
   refine rM rfl s13 <| rM rfl s9 <| rM rfl s11 <| Qa rfl (Z7 (a := 32) rfl rfl oM oM) <| rM rfl s13 <| Qa rfl (Qk rfl rfl oM oM) <| Qa rfl (Xa (gX6.rd (Mem.pick2 [_] Hk Hsq5 _ m15)) Zi X6 rfl rfl oM sD) <| Qa (v := (u8 (X.getD (((32 * (i : Int)) + (j : Int) : Int).toNat) 0))) rfl (Yc (l := X) (i := (32 * (i : Int)) + (j : Int)) (dflt := 0) (gX6.rd (Mem.pick2 [_] Hk Hsq5 _ m15)) Vm rfl oM sD rfl) <| Qa rfl (Qd (r := j) oM X3 X6 s12 rfl oM sD) <| Zw (Xn (f := u8) (a := X.getD (((32 * (i : Int)) + (j : Int) : Int).toNat) 0) Qu X6 rfl rfl m15.h0 sD (.inl (Nat.zero_le _))) ?_
   rintro _ w17 uq17
   have m17 := m15.upd0 uq17
   refine Zr (Qi (Qe ?_))
   refine rM rfl s13 <| Qa rfl (Qk (b := 1) rfl rfl oM oM) <| Qa rfl (Qc (v := (i64 ((j : Int) + 1))) rfl) <| rN ?_
   exact ⟨⟨j + 1, oM, s0, s1, s2, s3, s8, s9, s10, s11, s12, rfl, s25, (by rw [← Fh (fun q => X.getD (32 * (i : Int) + (q : Int)).toNat 0) 0 (n := 32) (k := j) oM _ rfl]; exact m17)⟩, Gl rfl z13 oM oM⟩
  ·
   have hc16p := of_decide_eq_false hc16
   obtain rfl : j = 32 := by omega
   refine X0 ?_
   refine Qr (Qr (Xf ?_))
   refine Qe <| rM rfl s10 <| Qa rfl (Qw X3 rfl Z9 s12 m15.h0 sZ) <| Za rfl (Rx (cs := (cl u8 (Yk (fun q => X.getD (32 * (i : Int) + (q : Int)).toNat 0) 0 32 32))) m15 Qbt Z9 rfl rfl rfl sZ) ?_
   rintro _ w18 ⟨b44, rfl, _ew18, m18⟩
   have m18 : Mem w18 (Qy w0) ([(b44, .cells (cl u8 (Yk (fun q => X.getD (32 * (i : Int) + (q : Int)).toNat 0) 0 32 32)) 23 (0, 0)), (b12, .cells (cl u8 (Yk (fun q => X.getD (32 * (i : Int) + (q : Int)).toNat 0) 0 32 32)) 23 (0, 0))] ++ (Hk ++ (Hsq5 ++ ([])))) := m18
   refine Za rfl (Qcg (enc := (Ug u8)) (k := 32) (Hs := Hk) (H := [_, _] ++ (Hsq5 ++ ([]))) (Mem.pick [_, _] Hk _ m18) gkk rfl rfl (RdK.ofOne (enc := (Ug u8)) (k := 32) (a := (Yk (fun q => X.getD (32 * (i : Int) + (q : Int)).toNat 0) 0 32 32)) m18.h0 rfl (by simp only [Ug, List.length_map]; first | omega | (simp; done) | (simp; omega) | decide)) Qbt Qbt Z9 rfl rfl (fun _ _ => Jn Qu _) sD sD) ?_
   rintro sv19 w19 ⟨Hs19, m19, g19⟩
   replace g19 : J6 (Ug u8) 32 23 sv19 ((Uw i X) ++ ([Yk (fun q => X.getD (32 * (i : Int) + (q : Int)).toNat 0) 0 32 32])) Hs19 := g19
   refine rA rfl (v := sv19) rfl ?_
   refine Zr (Qi (Qe ?_))
   refine rM rfl s11 <| Qa rfl (Qk (b := 1) rfl rfl oM oM) <| Qa rfl (Qc (v := (i64 ((i : Int) + 1))) rfl) <| rN ?_
   have m20 := Mem.drop [_] _ (Mem.pick Hs19 [_] _ m19)
   have m21 := Mem.drop [_] _ (Mem.pick Hs19 [_] _ m20)
   exact ⟨⟨i + 1, sv19, Hs19, oM, (J6.cast g19 (by rw [Ql3 X i oM, ← Qet])), s0, s1, s2, s3, s8, s9, rfl, rfl, m21⟩, Gl rfl z11 oM oM⟩
 ·
  have hc11p := of_decide_eq_false hc11
  obtain rfl : i = n.toNat := by omega
  refine X0 ?_
  refine Qr (Qr (Xf ?_))
  refine sR <| rM rfl s10 <| rA rfl (v := sk) rfl ?_
  refine rN (Xt ?_)
  refine Ze [sk] ⟨rfl, trivial⟩ ?_
  have m22 := Mem.drop Hsq5 _ (Mem.pick Hk Hsq5 _ m10)
  exact ⟨Hk, by rw [← hX]; exact gkk, by simpa using m22⟩
theorem Qm2 (mark : BitVec 8) (bk : Nat) (chain : List (BitVec 8)) (w0 : World)  (hT : Tabs (Yq w0)) (hbk : Yq w0 bk = some (.cells (cl u8 chain) 23 (0, 0))) (hcl : chain.length = 32) : Xz Tryd.prog 58 #[(u8 mark), (ptr bk 0)] w0 (fun r w1 => r = (agg u8 (X7 chain [mark])) ∧ Ext w0 w1) := by
 refine Zd (args := [(u8 mark), (ptr bk 0)]) Tryd.func58 rfl Tryd.ntmps58 Tryd.results58 rfl ?_
 have m0 : Mem w0 (Qy w0) [] := Mem.of_world w0
 refine sR <| Za rfl (Zg m0 Z9) ?_
 rintro _ w1 ⟨b3, rfl, e1, m1⟩
 refine rN (sR ?_)
 refine Qa rfl (Xj (i := 0) (j := 32) X3 X6 rfl (Zy _ _) (Zy _ _) oM sD sD) <| Qa rfl (Qb (v := (u8 mark)) rfl) <| Za rfl (Ql u8 [mark] Qu m1 Zi X6 rfl rfl rfl) ?_
 rintro _ w2 ⟨b6, rfl, e2, m2⟩
 refine Za rfl (Wl [(Ko b6 0 1 1)] (by simp [Ko, ptr, Value.oneCell', i64, u8, u32, u64, bl]) m2 uT65 Td rfl rfl rfl) ?_
 rintro _ w3 ⟨b7, rfl, e3, m3⟩
 have m3 : Mem w3 (Qy w0) [(b7, .cells #[(Ko b6 0 1 1)] 27 (0, 0)), (b6, .cells (cl u8 ([mark])) 5 (0, 0)), (b3, .cells (cl u8 (List.replicate 32 0)) 23 (0, 0))] := m3
 refine Za rfl (oc59 (Xr rfl rfl) (Qcn (sla bk 0 1 0 32 32) chain (Ko b7 0 1 1) ([((Ko b6 0 1 1), [mark])]) _ (hT.mono fun b o e => (m3).rest b o e) (Rd.slaAll (m3.rest _ _ hbk) sD) sD (Rd.mkA (f := Prod.fst) (l := [((Ko b6 0 1 1), [mark])]) m3.h0) (E8 (Rd.mkA m3.h1) N9) (by rw [Lu]; simp) sD)) ?_
 rintro _ w4 ⟨rfl, e4⟩
 have m4 := m3.ext e4
 refine Zw (Qm (f := u8) (l := X7 chain (V3 ([((Ko b6 0 1 1), [mark])]))) Qu Z9 rfl rfl sD m4.h2 sZ rfl) ?_
 rintro _ w6 uq6
 have m6 := m4.upd2 uq6
 refine rN (Xt ?_)
 refine Ze [(agg u8 (X7 chain (V3 ([((Ko b6 0 1 1), [mark])]))))] ⟨⟨_, rfl, Xo X3 rfl Z9 m6.h2 sZ⟩, trivial⟩ ?_
 exact ⟨congrArg (agg u8) (by rw [Lu]), m6.toExt⟩
theorem c_step (chain : List (BitVec 8)) (w0 : World)  (hT : Tabs (Yq w0)) (hcl : chain.length = 32) : Xz Tryd.prog 32 #[(agg u8 chain)] w0 (fun r w1 => r = (Value.tuple #[(agg u8 (X7 chain [2#8])), (agg u8 (X7 chain [1#8]))]) ∧ Ext w0 w1) := by
 refine Zd (args := [(agg u8 chain)]) Tryd.func32 rfl Tryd.ntmps32 Tryd.results32 rfl ?_
 have m0 : Mem w0 (Qy w0) [] := Mem.of_world w0
 refine sR <| Za rfl (Z8 (f := u8) (l := chain) m0 rfl) ?_
 rintro _ w1 ⟨b1, rfl, e1, m1⟩
 refine Za rfl (Zg m1 Z9) ?_
 rintro _ w2 ⟨b2, rfl, e2, m2⟩
 refine Za rfl (Zg m2 Z9) ?_
 rintro _ w3 ⟨b3, rfl, e3, m3⟩
 refine rN (sR ?_)
 refine Qa rfl (Qke (Jj rfl)) <| Qa rfl (Qc (v := (Value.func (.func 58) #[] #[(ptr b1 0)])) rfl) ?_
 refine rN (sR ?_)
 refine Qa rfl (Qb (v := (Value.func (.func 58) #[] #[(ptr b1 0)])) rfl) <| Za rfl (Qhr (f := 58) rfl Tryd.func58 bd58 nm58 (Jj rfl) (Qm2 2#8 b1 chain _ (hT.mono fun b o e => (m3).rest b o e) m3.h2 sD)) ?_
 rintro _ w4 ⟨rfl, e4⟩
 have m4 := m3.ext e4
 refine Qa rfl (Qb (v := (Value.func (.func 58) #[] #[(ptr b1 0)])) rfl) <| Za rfl (Qhr (f := 58) rfl Tryd.func58 bd58 nm58 (Jj rfl) (Qm2 1#8 b1 chain _ (hT.mono fun b o e => (m4).rest b o e) m4.h2 sD)) ?_
 rintro _ w6 ⟨rfl, e6⟩
 have m6 := m4.ext e6
 refine Zw (Qm (f := u8) (l := X7 chain [2#8]) Qu Z9 rfl rfl sD m6.h1 sZ rfl) ?_
 rintro _ w8 uq8
 have m8 := m6.upd1 uq8
 refine Zw (Qm (f := u8) (l := X7 chain [1#8]) Qu Z9 rfl rfl sD m8.h0 sZ rfl) ?_
 rintro _ w9 uq9
 have m9 := m8.upd0 uq9
 refine rN (Xt ?_)
 refine Ze [(agg u8 (X7 chain [2#8])), (agg u8 (X7 chain [1#8]))] ⟨⟨_, rfl, Xo X3 rfl Z9 m9.h1 sZ⟩, ⟨_, rfl, Xo X3 rfl Z9 m9.h0 sZ⟩, trivial⟩ ?_
 exact ⟨rfl, m9.toExt⟩
theorem c_rstep (chain : List (BitVec 8)) (w0 : World)  (hcl : chain.length = 32) : Xz Tryd.prog 37 #[(agg u8 chain)] w0 (fun r w1 => r = (Value.tuple #[(agg u8 (X7 chain [2#8])), (agg u8 (X7 chain [1#8]))]) ∧ Ext w0 w1) := by
 refine Zd (args := [(agg u8 chain)]) Tryd.func37 rfl Tryd.ntmps37 Tryd.results37 rfl ?_
 have m0 : Mem w0 (Qy w0) [] := Mem.of_world w0
 refine sR <| Za rfl (Z8 (f := u8) (l := chain) m0 rfl) ?_
 rintro _ w1 ⟨b1, rfl, e1, m1⟩
 refine Za rfl (Zg m1 Z9) ?_
 rintro _ w2 ⟨b2, rfl, e2, m2⟩
 refine Za rfl (Zg m2 Z9) ?_
 rintro _ w3 ⟨b3, rfl, e3, m3⟩
 refine rN (Qg ?_)
 refine Jz (by kernel_rfl) ?_
 refine Di 1 4 rfl rfl ?_ ?_
 ·
  refine Aq [(0, false), (3, false), (1, true), (2, false), (4, true)] 5 rfl (by kernel_rfl) <| Qj rfl rfl (fun _ _hx => Xj (i := 0) (j := 32) X3 X6 rfl (Zy _ _) (Zy _ _) oM sD sD) <| Qj rfl rfl (fun _ _hx => Xj (i := 0) (j := 32) X3 X6 rfl (Zy _ _) (Zy _ _) oM sD sD) ?_
  refine Bf rfl rfl (fun w4 e4 => ?_)
  have m4 := m3.ext e4
  refine Yz.mono (Ql u8 [2#8] Qu m4 Zi X6 rfl rfl rfl) ?_
  rintro _ w5 ⟨b5, rfl, e5, m5⟩
  refine ⟨e5, ?_⟩
  refine Kv rfl rfl (fun w6 e6 => oc69 (Xr rfl rfl) (Lm (sla b1 0 1 0 32 32) chain (Ko b5 0 1 1) ([2#8]) _ (Rd.slaAll (m5.ext e6).h3 sD) sD (Rd.mkA (m5.ext e6).h0) sD)) ?_
  refine Bf rfl rfl (fun w9 e9 => ?_)
  have m9 := m5.ext e9
  refine Yz.mono (Ql u8 [1#8] Qu m9 Zi X6 rfl rfl rfl) ?_
  rintro _ w10 ⟨b8, rfl, e10, m10⟩
  refine ⟨e10, ?_⟩
  refine Xd (fun w11 e11 => ?_)
  have m11 := m10.ext e11
  refine Za rfl (oc69 (Xr rfl rfl) (Lm (sla b1 0 1 0 32 32) chain (Ko b8 0 1 1) ([1#8]) _ (Rd.slaAll m11.h4 sD) sD (Rd.mkA m11.h0) sD)) ?_
  rintro _ w12 ⟨rfl, e12⟩
  have m12 := m11.ext e12
  refine Zw (Qm (f := u8) (l := X7 chain ([2#8])) Qu Z9 rfl rfl sD m12.h3 sZ rfl) ?_
  rintro _ w14 uq14
  have m14 := m12.upd3 uq14
  refine Zw (Qm (f := u8) (l := X7 chain ([1#8])) Qu Z9 rfl rfl sD m14.h2 sZ rfl) ?_
  rintro _ w15 uq15
  have m15 := m14.upd2 uq15
  refine rN (Xt ?_)
  refine Ze [(agg u8 (X7 chain ([2#8]))), (agg u8 (X7 chain ([1#8])))] ⟨⟨_, rfl, Xo X3 rfl Z9 m15.h3 sZ⟩, ⟨_, rfl, Xo X3 rfl Z9 m15.h2 sZ⟩, trivial⟩ ?_
  exact ⟨rfl, m15.toExt⟩
 ·
  refine Aq [(0, false), (3, false), (4, true), (1, true), (2, false)] 5 rfl (by kernel_rfl) <| Qj rfl rfl (fun _ _hx => Xj (i := 0) (j := 32) X3 X6 rfl (Zy _ _) (Zy _ _) oM sD sD) <| Qj rfl rfl (fun _ _hx => Xj (i := 0) (j := 32) X3 X6 rfl (Zy _ _) (Zy _ _) oM sD sD) ?_
  refine Bf rfl rfl (fun w16 e16 => ?_)
  have m16 := m3.ext e16
  refine Yz.mono (Ql u8 [1#8] Qu m16 Zi X6 rfl rfl rfl) ?_
  rintro _ w17 ⟨b8_1, rfl, e17, m17⟩
  refine ⟨e17, ?_⟩
  refine Bf rfl rfl (fun w18 e18 => ?_)
  have m18 := m17.ext e18
  refine Yz.mono (Ql u8 [2#8] Qu m18 Zi X6 rfl rfl rfl) ?_
  rintro _ w19 ⟨b5_1, rfl, e19, m19⟩
  refine ⟨e19, ?_⟩
  refine Kv rfl rfl (fun w20 e20 => oc69 (Xr rfl rfl) (Lm (sla b1 0 1 0 32 32) chain (Ko b5_1 0 1 1) ([2#8]) _ (Rd.slaAll (m19.ext e20).h4 sD) sD (Rd.mkA (m19.ext e20).h0) sD)) ?_
  refine Xd (fun w23 e23 => ?_)
  have m23 := m19.ext e23
  refine Za rfl (oc69 (Xr rfl rfl) (Lm (sla b1 0 1 0 32 32) chain (Ko b8_1 0 1 1) ([1#8]) _ (Rd.slaAll m23.h4 sD) sD (Rd.mkA m23.h1) sD)) ?_
  rintro _ w24 ⟨rfl, e24⟩
  have m24 := m23.ext e24
  refine Zw (Qm (f := u8) (l := X7 chain ([2#8])) Qu Z9 rfl rfl sD m24.h3 sZ rfl) ?_
  rintro _ w26 uq26
  have m26 := m24.upd3 uq26
  refine Zw (Qm (f := u8) (l := X7 chain ([1#8])) Qu Z9 rfl rfl sD m26.h2 sZ rfl) ?_
  rintro _ w27 uq27
  have m27 := m26.upd2 uq27
  refine rN (Xt ?_)
  refine Ze [(agg u8 (X7 chain ([2#8]))), (agg u8 (X7 chain ([1#8])))] ⟨⟨_, rfl, Xo X3 rfl Z9 m27.h3 sZ⟩, ⟨_, rfl, Xo X3 rfl Z9 m27.h2 sZ⟩, trivial⟩ ?_
  exact ⟨rfl, m27.toExt⟩
end Go.Proofs.YtkmiemlpfkfiiaaDoor
