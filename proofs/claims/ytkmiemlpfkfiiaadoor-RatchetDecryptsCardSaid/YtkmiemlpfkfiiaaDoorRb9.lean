/- The ratchet: contracts over sessions as records. Conditions: none beyond those that each theorem states. -/
import Derived.Test.YtkmiemlpfkfiiaaDoorRb8
namespace Go.Proofs.YtkmiemlpfkfiiaaDoor
open Tryd
set_option linter.unusedVariables false
set_option linter.unusedSimpArgs false
def encK (S : Sn) : List Kp := if Tv S = 0 then S.ks else []
theorem enc_13 {S : Sn} (h : S.sb = false) : Tv S = 13 := by unfold Tv; rw [h]; rfl
theorem enc_12 {S : Sn} (h : S.sb = true) (h1 : S.n1 = 2147483647) : Tv S = 12 := by unfold Tv; rw [h, if_pos rfl, if_pos h1]
theorem enc_00 {S : Sn} (h : S.sb = true) (h1 : S.n1 ≠ 2147483647) : Tv S = 0 := by unfold Tv; rw [h, if_pos rfl, if_neg h1]
theorem Qpn {S : Sn} {b p : Z8} (h : Tv S ≠ 0) : Qjr S = S ∧ Qjs S b p = [] ∧ encK S = [] := ⟨by unfold Qjr; rw [if_neg h], by unfold Qjs; rw [if_neg h], by unfold encK; rw [if_neg h]⟩
theorem enc_z {S : Sn} {b p : Z8} (h : Tv S = 0) : Qjr S = S.one ∧ Qjs S b p = Qaz S.w S.s S.n3 S.n1 b p ∧ encK S = S.ks := ⟨by unfold Qjr; rw [if_pos h], by unfold Qjs; rw [if_pos h], by unfold encK; rw [if_pos h]⟩
theorem enc_kt {S : Sn} (h : Tv S = 0) : encK S = (Qjr S).ks := by rw [(enc_z (b := []) (p := []) h).2.2, Qqw]
theorem enc_kf {S : Sn} (h : Tv S ≠ 0) : S.ks = (Qjr S).ks := (Qqw S).symm
theorem first_eq {ro ow ot : Z8} {v : Value} (how : ow.length = 32) (hot : ot.length = 32) : sS (P9 ro ow ot) v = sE (Yc ro (Xr ow ot)) ow ot true false (Jf ro (Xr ow ot)) (List.replicate 32 0) 0 0 0 v := by
 show sE _ (Ai ow) (Ai ot) _ _ _ _ _ _ _ _ = _; rw [Ry how, Ry hot]; rfl
theorem Qrj {ro ow : Z8} {v : Value} (hro : ro.length = 32) (how : ow.length = 32) : sS (Ea ro ow) v = sE ro ow (List.replicate 32 0) false false (List.replicate 32 0) (List.replicate 32 0) 0 0 0 v := by
 show sE (Ai ro) (Ai ow) _ _ _ _ _ _ _ _ _ = _; rw [Ry hro, Ry how]; rfl
attribute [local irreducible] Qee Pq Wn Dh Yc Jf Qaz Wh Vb Kz Xj Lc Ef Xr Yu V5 Ac Ai P7 Xe hdR hdE V9 Qaw Qbd Pi Qcf Qbz Jp
attribute [local irreducible] Tv Dk Qb7 Tz Qg4 Qjs Qjr encK P9 Ea
set_option maxHeartbeats 2000000 in
theorem c_sameS (ra wa oa : Z8) (sb tb : Bool) (sa ta : Z8) (n1 n2 n3 : Int) (vk : Value) (ks : List Kp) (vq : Value) (w0 : World)  (hl : ra.length = 32 ∧ wa.length = 32 ∧ oa.length = 32 ∧ sa.length = 32 ∧ ta.length = 32) (hk : RdK (Y8 w0) Y3 65 vk ks) (hn : ks.length ≤ 1048576) (hq : RdK (Y8 w0) Y3 65 vq ks) : X0 prog 14 #[(Value.agg (Qz (sE ra wa oa sb tb sa ta n1 n2 n3 vk))), (Value.agg (Qz (sE ra wa oa sb tb sa ta n1 n2 n3 vq)))] w0 (fun r w1 => r = (bl true) ∧ Ext w0 w1) := by
 refine Qy (args := [(Value.agg (Qz (sE ra wa oa sb tb sa ta n1 n2 n3 vk))), (Value.agg (Qz (sE ra wa oa sb tb sa ta n1 n2 n3 vq)))]) func14 rfl ntmps14 results14 rfl ?_
 have hm0 : Mem w0 (Qr w0) [] := Mem.of_world w0
 obtain ⟨hl1, hl2, hl3, hl4, hl5⟩ := hl
 refine sR <| Y9 (Us (cs := (Qz (sE ra wa oa sb tb sa ta n1 n2 n3 vk))) hm0 rfl) fun w1 b2 hm1 => Y9 (Us (cs := (Qz (sE ra wa oa sb tb sa ta n1 n2 n3 vq))) hm1 rfl) fun w2 b3 hm2 => Zx (bl false) ?_
 refine rN (Qa (sR ?_))
 refine Qd (Zi (r := 0) Xt rfl Je Zg rfl rfl) <| Qd (Jk 0 Xl Zg rfl hm2.h1 rfl) <| Qd (Zi (r := 0) Xt rfl Je Zg rfl rfl) <| Qd (Jk 0 Xl Zg rfl hm2.h0 rfl) <| Qd (G8 (l := ra) (m := ra) Xl Vs Yw eqGuardType23 rfl rfl ysF ysF) <| Zm (bl (ra != ra)) ?_
 have hd3 : (ra != ra) = false := by simp
 refine Zj (s := 11) rfl rfl hd3 rfl (Zi (r := 32) Xt rfl Je Zg rfl rfl) <| Zj (s := 11) rfl rfl hd3 rfl (Jk 1 Xl Zg rfl hm2.h1 rfl) <| Zj (s := 11) rfl rfl hd3 rfl (Zi (r := 32) Xt rfl Je Zg rfl rfl) <| Zj (s := 11) rfl rfl hd3 rfl (Jk 1 Xl Zg rfl hm2.h0 rfl) <| Zj (s := 11) rfl rfl hd3 rfl (G8 (l := wa) (m := wa) Xl Vs Yw eqGuardType23 rfl rfl ysF ysF) <| Qd (Yz rfl hd3 rfl) <| Zm (bl (wa != wa)) ?_
 have hd4 : (wa != wa) = false := by simp
 refine Zj (s := 18) rfl rfl hd4 rfl (Zi (r := 64) Xt rfl Je Zg rfl rfl) <| Zj (s := 18) rfl rfl hd4 rfl (Jk 2 Xl Zg rfl hm2.h1 rfl) <| Zj (s := 18) rfl rfl hd4 rfl (Zi (r := 64) Xt rfl Je Zg rfl rfl) <| Zj (s := 18) rfl rfl hd4 rfl (Jk 2 Xl Zg rfl hm2.h0 rfl) <| Zj (s := 18) rfl rfl hd4 rfl (G8 (l := oa) (m := oa) Xl Vs Yw eqGuardType23 rfl rfl ysF ysF) <| Qd (Yz rfl hd4 rfl) <| Zm (bl (oa != oa)) ?_
 have hd5 : (oa != oa) = false := by simp
 refine Zj (s := 25) rfl rfl hd5 rfl (Zi (r := 96) Xt rfl Je ti4 rfl rfl) <| Zj (s := 25) rfl rfl hd5 rfl (Yi 3 uT4 rfl hm2.h1 rfl) <| Zj (s := 25) rfl rfl hd5 rfl (Zi (r := 96) Xt rfl Je ti4 rfl rfl) <| Zj (s := 25) rfl rfl hd5 rfl (Yi 3 uT4 rfl hm2.h0 rfl) <| Zj (s := 25) rfl rfl hd5 rfl (Qhv uT4 rfl rfl) <| Qd (Yz rfl hd5 rfl) <| Zm (bl (sb != sb)) ?_
 have hd6 : (sb != sb) = false := by simp
 refine Zj (s := 32) rfl rfl hd6 rfl (Zi (r := 97) Xt rfl Je ti4 rfl rfl) <| Zj (s := 32) rfl rfl hd6 rfl (Yi 4 uT4 rfl hm2.h1 rfl) <| Zj (s := 32) rfl rfl hd6 rfl (Zi (r := 97) Xt rfl Je ti4 rfl rfl) <| Zj (s := 32) rfl rfl hd6 rfl (Yi 4 uT4 rfl hm2.h0 rfl) <| Zj (s := 32) rfl rfl hd6 rfl (Qhv uT4 rfl rfl) <| Qd (Yz rfl hd6 rfl) <| Zm (bl (tb != tb)) ?_
 have hd7 : (tb != tb) = false := by simp
 refine Zj (s := 39) rfl rfl hd7 rfl (Zi (r := 98) Xt rfl Je Zg rfl rfl) <| Zj (s := 39) rfl rfl hd7 rfl (Jk 5 Xl Zg rfl hm2.h1 rfl) <| Zj (s := 39) rfl rfl hd7 rfl (Zi (r := 98) Xt rfl Je Zg rfl rfl) <| Zj (s := 39) rfl rfl hd7 rfl (Jk 5 Xl Zg rfl hm2.h0 rfl) <| Zj (s := 39) rfl rfl hd7 rfl (G8 (l := sa) (m := sa) Xl Vs Yw eqGuardType23 rfl rfl ysF ysF) <| Qd (Yz rfl hd7 rfl) <| Zm (bl (sa != sa)) ?_
 have hd8 : (sa != sa) = false := by simp
 refine Zj (s := 46) rfl rfl hd8 rfl (Zi (r := 130) Xt rfl Je Zg rfl rfl) <| Zj (s := 46) rfl rfl hd8 rfl (Jk 6 Xl Zg rfl hm2.h1 rfl) <| Zj (s := 46) rfl rfl hd8 rfl (Zi (r := 130) Xt rfl Je Zg rfl rfl) <| Zj (s := 46) rfl rfl hd8 rfl (Jk 6 Xl Zg rfl hm2.h0 rfl) <| Zj (s := 46) rfl rfl hd8 rfl (G8 (l := ta) (m := ta) Xl Vs Yw eqGuardType23 rfl rfl ysF ysF) <| Qd (Yz rfl hd8 rfl) <| Zm (bl (ta != ta)) ?_
 have hd9 : (ta != ta) = false := by simp
 refine Zj (s := 53) rfl rfl hd9 rfl (Zi (r := 162) Xt rfl Je Ui rfl rfl) <| Zj (s := 53) rfl rfl hd9 rfl (Yi 7 Uu rfl hm2.h1 rfl) <| Zj (s := 53) rfl rfl hd9 rfl (Zi (r := 162) Xt rfl Je Ui rfl rfl) <| Zj (s := 53) rfl rfl hd9 rfl (Yi 7 Uu rfl hm2.h0 rfl) <| Zj (s := 53) rfl rfl hd9 rfl (We rfl rfl) <| Qd (Yz rfl hd9 rfl) <| Zm (bl (n1 != n1)) ?_
 have hd10 : (n1 != n1) = false := by simp
 refine Zj (s := 60) rfl rfl hd10 rfl (Zi (r := 163) Xt rfl Je Ui rfl rfl) <| Zj (s := 60) rfl rfl hd10 rfl (Yi 8 Uu rfl hm2.h1 rfl) <| Zj (s := 60) rfl rfl hd10 rfl (Zi (r := 163) Xt rfl Je Ui rfl rfl) <| Zj (s := 60) rfl rfl hd10 rfl (Yi 8 Uu rfl hm2.h0 rfl) <| Zj (s := 60) rfl rfl hd10 rfl (We rfl rfl) <| Qd (Yz rfl hd10 rfl) <| Zm (bl (n2 != n2)) ?_
 have hd11 : (n2 != n2) = false := by simp
 refine Zj (s := 67) rfl rfl hd11 rfl (Zi (r := 164) Xt rfl Je Ui rfl rfl) <| Zj (s := 67) rfl rfl hd11 rfl (Yi 9 Uu rfl hm2.h1 rfl) <| Zj (s := 67) rfl rfl hd11 rfl (Zi (r := 164) Xt rfl Je Ui rfl rfl) <| Zj (s := 67) rfl rfl hd11 rfl (Yi 9 Uu rfl hm2.h0 rfl) <| Zj (s := 67) rfl rfl hd11 rfl (We rfl rfl) <| Qd (Yz rfl hd11 rfl) <| Zm (bl (n3 != n3)) ?_
 have hd12 : (n3 != n3) = false := by simp
 refine Zj (s := 74) rfl rfl hd12 rfl (Zi (r := 165) Xt rfl Je Ec rfl rfl) <| Zj (s := 74) rfl rfl hd12 rfl (Yi 10 Wq rfl hm2.h1 rfl) <| Zj (s := 74) rfl rfl hd12 rfl (Fp (RdK.ofRest hk hm2) Wq rfl) <| Zj (s := 74) rfl rfl hd12 rfl (Zi (r := 165) Xt rfl Je Ec rfl rfl) <| Zj (s := 74) rfl rfl hd12 rfl (Yi 10 Wq rfl hm2.h0 rfl) <| Zj (s := 74) rfl rfl hd12 rfl (Fp (RdK.ofRest hq hm2) Wq rfl) <| Zj (s := 74) rfl rfl hd12 rfl (We rfl rfl) <| Qd (Yz rfl hd12 rfl) <| rN ?_
 have hd13 : ((ks.length : Int) != (ks.length : Int)) = false := by simp
 refine Ja rfl hd13 ?_
 refine Qn (Qc (Qa (sR ?_)))
 refine Zx (i64 0) ?_
 refine rN (Qh ?_)
 refine Y1 (fun g wv => ∃ (i : Nat), (i ≤ ks.length) ∧ g 0 = (Value.agg (Qz (sE ra wa oa sb tb sa ta n1 n2 n3 vk))) ∧ g 1 = (Value.agg (Qz (sE ra wa oa sb tb sa ta n1 n2 n3 vq))) ∧ g 2 = (ptr b2 0) ∧ g 3 = (ptr b3 0) ∧ g 5 = (i64 (i : Int)) ∧ g 82 = (bl ((ks.length : Int) != (ks.length : Int))) ∧ Mem wv (Qr w0) [(b3, .cells (Qz (sE ra wa oa sb tb sa ta n1 n2 n3 vq)) 26 (0, 0)), (b2, .cells (Qz (sE ra wa oa sb tb sa ta n1 n2 n3 vk)) 26 (0, 0))]) (fun g wv => ((ks.length : Int) - RowKit.intOf (g 5)).toNat) ?_ ?_
 ·exact ⟨0, oM, rfl, rfl, rfl, rfl, rfl, rfl, hm2⟩
 rintro fr14 w15 ⟨i, hi, s0, s1, s2, s3, s5, s82, hm15⟩
 have z5 := s5
 refine Qa (sR ?_)
 refine Yb s5 <| Qd (Zi (r := 165) Xt rfl Je Ec rfl s2) <| Qd (Yi 10 Wq rfl hm15.h1 rfl) <| Qd (Fp (RdK.ofRest hk hm15) Wq rfl) <| Qd (Xa rfl rfl) <| rN ?_
 refine Zy rfl (fun hc16 => ?_) (fun hc16 => ?_)
 ·
  have hc16p := of_decide_eq_true hc16
  refine Qn (Qc (Qa (Qh (Qa ?_))))
  refine Xg (dl 10) 10 Xo <| X6 rfl (Zi (r := 165) Xt rfl Je Ec rfl s2) <| Ym rfl (fun _ e' => Yi 10 Wq rfl (hm15.ext e').h1 rfl) <| Uh rfl s5 <| Ym rfl (fun _ e' => Yn (i := (i : Int)) (RdK.ofRest hk (hm15.ext e')) Wq Dj rfl rfl oM sL) <| Ym (v := (Value.agg (Qz (sK ((ks.getD i Gu).c) ((ks.getD i Gu).n) ((ks.getD i Gu).k))))) rfl (fun _ e' => Eo (i := (i : Int)) (dflt := Gu) (cs := (Qz (sK ((ks.getD i Gu).c) ((ks.getD i Gu).n) ((ks.getD i Gu).k)))) (RdK.ofRest hk (hm15.ext e')) sL Qbk rfl Dj rfl rfl Jb (kp_a (ks.getD i Gu))) <| X6 rfl (Zi (r := 165) Xt rfl Je Ec rfl s3) <| Ym rfl (fun _ e' => Yi 10 Wq rfl (hm15.ext e').h0 rfl) <| Uh rfl s5 <| Ym rfl (fun _ e' => Yn (i := (i : Int)) (RdK.ofRest hq (hm15.ext e')) Wq Dj rfl rfl oM sL) <| Ym (v := (Value.agg (Qz (sK ((ks.getD i Gu).c) ((ks.getD i Gu).n) ((ks.getD i Gu).k))))) rfl (fun _ e' => Eo (i := (i : Int)) (dflt := Gu) (cs := (Qz (sK ((ks.getD i Gu).c) ((ks.getD i Gu).n) ((ks.getD i Gu).k)))) (RdK.ofRest hq (hm15.ext e')) sL Qbk rfl Dj rfl rfl Jb (kp_a (ks.getD i Gu))) <| Gf hm15 fun w17 hm17 => Qd (Qsd (l1 := (ks.getD i Gu).c) (l2 := (ks.getD i Gu).n) (l3 := (ks.getD i Gu).k) (m1 := (ks.getD i Gu).c) (m2 := (ks.getD i Gu).n) (m3 := (ks.getD i Gu).k) Qbk Xo Jb Jb Jb rfl rfl rfl rfl rfl rfl Xl Zg Vs Yw Uu eqGuardType69 rfl rfl (by first | rfl | exact Kp.hc _ | exact Kp.hk _ | first | omega | (simp only [List.length_set, List.length_append, List.length_replicate, List.length_map, List.length_cons, List.length_nil]; omega) | (simp; done) | (simp; omega) | decide) (by first | rfl | exact Kp.hc _ | exact Kp.hk _ | first | omega | (simp only [List.length_set, List.length_append, List.length_replicate, List.length_map, List.length_cons, List.length_nil]; omega) | (simp; done) | (simp; omega) | decide) (by first | rfl | exact Kp.hc _ | exact Kp.hk _ | first | omega | (simp only [List.length_set, List.length_append, List.length_replicate, List.length_map, List.length_cons, List.length_nil]; omega) | (simp; done) | (simp; omega) | decide) (by first | rfl | exact Kp.hc _ | exact Kp.hk _ | first | omega | (simp only [List.length_set, List.length_append, List.length_replicate, List.length_map, List.length_cons, List.length_nil]; omega) | (simp; done) | (simp; omega) | decide)) <| rN ?_
  have hd18 : (((ks.getD i Gu).c) == ((ks.getD i Gu).c) && (((ks.getD i Gu).n) == ((ks.getD i Gu).n) && (((ks.getD i Gu).k) == ((ks.getD i Gu).k) && true))) = true := by simp
  have hd19 : (!(((ks.getD i Gu).c) == ((ks.getD i Gu).c) && (((ks.getD i Gu).n) == ((ks.getD i Gu).n) && (((ks.getD i Gu).k) == ((ks.getD i Gu).k) && true)))) = false := congrArg Bool.not hd18
  refine Ja rfl hd19 ?_
  refine Qn (Qe (Qb ?_))
  refine Yb s5 <| Qd (Zf (b := 1) rfl rfl oM oM) <| Zx (i64 ((i : Int) + 1)) <| rN ?_
  exact ⟨⟨(i + 1), oM, s0, s1, s2, s3, rfl, s82, hm17⟩, Ue rfl z5 oM oM⟩
 ·
  have hc16p := of_decide_eq_false hc16
  refine X4 ?_
  refine Qj (Qj (Xi ?_))
  refine sR <| Zx (bl true) ?_
  refine rN (Zz ?_)
  refine Qp [(bl true)] ⟨rfl, trivial⟩ ?_
  exact ⟨rfl, hm15.toExt⟩
theorem c_encS (S : Sn) (vk : Value) (vb : Value) (lb : Z8) (vp : Value) (lp : Z8) (w0 : World) (hT : Tabs (Y8 w0)) (hk : RdK (Y8 w0) Y3 65 vk S.ks) (hkl : S.ks.length ≤ 1048576) (hrb : Rd (Y8 w0) u8 vb lb) (hlb : lb.length ≤ 90000) (hrp : Rd (Y8 w0) u8 vp lp) (hlp : lp.length ≤ 90000) (hn1 : 0 ≤ S.n1 ∧ S.n1 ≤ 2147483647) (hn3 : 0 ≤ S.n3 ∧ S.n3 ≤ 2147483647) : X0 prog 12 #[(Value.agg (Qz (sS S vk))), vb, vp] w0 (fun r w1 => ∃ vq Hq vc Hc, r = Value.tuple #[(Value.agg (Qz (sS (Qjr S) (if Tv S = 0 then vq else vk)))), vc, i64 (Tv S)] ∧ Yx Y3 65 69 vq (encK S) Hq ∧ Z5 u8 5 vc (Qjs S lb lp) Hc ∧ Mem w1 (Qr w0) (Hq ++ Hc)) := by
 cases hsb : S.sb with
 | false =>
  refine (Qp2 S.r S.w S.o S.sb S.tb S.s S.t S.n1 S.n2 S.n3 vk S.ks vb lb vp lp w0 S.l5 hk hkl hrb hlb hrp hlp hn1 hn3 hsb).mono ?_
  rintro r w1 ⟨rfl, he⟩
  have h0 := enc_13 hsb
  have hz : Tv S ≠ 0 := by rw [h0]; decide
  obtain ⟨h1, h2, h3⟩ := Qpn (b := lb) (p := lp) hz
  rw [h1, h2, h3]
  exact ⟨Value.slice none 0 0, [], Value.slice none 0 0, [], by rw [if_neg hz, h0], Yx.none Y3 65 69, Z5.none u8 5, by simpa using (Mem.of_world w0).ext he⟩
 | true =>
  by_cases hmx : S.n1 = 2147483647
  ·refine (Qp3 S.r S.w S.o S.sb S.tb S.s S.t S.n1 S.n2 S.n3 vk S.ks vb lb vp lp w0 S.l5 hk hkl hrb hlb hrp hlp hn1 hn3 hsb hmx).mono ?_
   rintro r w1 ⟨rfl, he⟩
   have h0 := enc_12 hsb hmx
   have hz : Tv S ≠ 0 := by rw [h0]; decide
   obtain ⟨h1, h2, h3⟩ := Qpn (b := lb) (p := lp) hz
   rw [h1, h2, h3]
   exact ⟨Value.slice none 0 0, [], Value.slice none 0 0, [], by rw [if_neg hz, h0], Yx.none Y3 65 69, Z5.none u8 5, by simpa using (Mem.of_world w0).ext he⟩
  refine (c_enc19 S.r S.w S.o S.sb S.tb S.s S.t S.n1 S.n2 S.n3 vk S.ks vb lb vp lp w0 hT S.l5 hk hkl hrb hlb hrp hlp hn1 hn3 hsb oM).mono ?_
  rintro r w1 ⟨v2, H2, vc, Hc, rfl, g2, gc, hm⟩
  have h0 := enc_00 hsb hmx
  obtain ⟨h1, h2, h3⟩ := enc_z (b := lb) (p := lp) h0
  rw [h1, h2, h3]
  exact ⟨v2, H2, vc, Hc, by rw [if_pos h0, h0]; rfl, g2, gc, hm⟩
theorem c_firstS (ro ow pu ot : Z8) (w0 : World) (hT : Tabs (Y8 w0)) (hro : ro.length = 32) (how : ow.length = 32) (hpu : pu.length = 32) (hot : ot.length = 32) : X0 prog 16 #[agg u8 ro, (Value.agg (Qz [ow.map u8, pu.map u8])), agg u8 ot] w0 (fun r w1 => r = (Value.agg (Qz (sS (P9 ro ow ot) Wl))) ∧ Ext w0 w1) := by
 rw [first_eq how hot]; exact Qsp ro ow pu ot w0 hT hro how hpu hot
theorem Qsk (ro ow pu : Z8) (w0 : World) (hro : ro.length = 32) (how : ow.length = 32) (hpu : pu.length = 32) : X0 prog 18 #[agg u8 ro, (Value.agg (Qz [ow.map u8, pu.map u8]))] w0 (fun r w1 => r = (Value.agg (Qz (sS (Ea ro ow) Wl))) ∧ Ext w0 w1) := by
 rw [Qrj hro how]; exact Qpx ro ow pu w0 hro how hpu
theorem Qj0 (S T : Sn) (vk vq : Value) (w0 : World) (hk : RdK (Y8 w0) Y3 65 vk S.ks) (hq : RdK (Y8 w0) Y3 65 vq T.ks) (hn : S.ks.length ≤ 1048576) (hst : T = S) : X0 prog 14 #[(Value.agg (Qz (sS S vk))), (Value.agg (Qz (sS T vq)))] w0 (fun r w1 => r = bl true ∧ Ext w0 w1) := by
 subst hst; exact c_sameS T.r T.w T.o T.sb T.tb T.s T.t T.n1 T.n2 T.n3 vk T.ks vq w0 T.l5 hk hn hq
def Qiz (S : Sn) : Bool := Pq (Ss.mk S.r S.w S.o S.sb S.tb S.s S.t S.n1 S.n2 S.n3 S.ks)
theorem Qsl (S : Sn) (vk : Value) (w0 : World) (hk : RdK (Y8 w0) Y3 65 vk S.ks) (hn : S.ks.length ≤ 1048576) : X0 prog 11 #[(Value.agg (Qz (sS S vk)))] w0 (fun r w1 => r = bl (Qiz S) ∧ Ext w0 w1) := c_rright S.r S.w S.o S.sb S.tb S.s S.t S.n1 S.n2 S.n3 vk S.ks w0 S.l5 hk hn
theorem Qrp {S : Sn} (h : Qiz S = true) : (0 ≤ S.n1 ∧ S.n1 ≤ 2147483647) ∧ (0 ≤ S.n2 ∧ S.n2 ≤ 2147483647) ∧ (0 ≤ S.n3 ∧ S.n3 ≤ 2147483647) := right_of h
theorem c_greatS (S : Sn) (vk : Value) (va : Value) (la : Z8) (vc : Value) (lc : Z8) (w0 : World) (hk : RdK (Y8 w0) Y3 65 vk S.ks) (hn : S.ks.length ≤ 9223372036854775807) (hra : Rd (Y8 w0) u8 va la) (hrc : Rd (Y8 w0) u8 vc lc) (hla : la.length ≤ 9223372036854775807) (hlc : lc.length ≤ 9223372036854775807) : X0 prog 10 #[(Value.agg (Qz (sS S vk))), va, vc] w0 (fun r w1 => r = bl (Ac S.ks.length la.length lc.length) ∧ Ext w0 w1) := Qso S.r S.w S.o S.sb S.tb S.s S.t S.n1 S.n2 S.n3 vk S.ks va la vc lc w0 S.l5 hk hn hra hrc hla hlc
end Go.Proofs.YtkmiemlpfkfiiaaDoor
