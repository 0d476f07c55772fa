/- The ratchet: contracts over sessions as records. Conditions: none beyond those that each theorem states. -/
import Derived.Test.YtkmiemlpfkfiiaaDoorRb8
namespace Go.Proofs.YtkmiemlpfkfiiaaDoor
open Tryd
set_option linter.unusedVariables false
set_option linter.unusedSimpArgs false
def encK (S : Sn) : List Kp := if Jq S = 0 then S.ks else []
theorem enc_13 {S : Sn} (h : S.sb = false) : Jq S = 13 := by unfold Jq; rw [h]; rfl
theorem enc_12 {S : Sn} (h : S.sb = true) (h1 : S.n1 = 2147483647) : Jq S = 12 := by unfold Jq; rw [h, if_pos rfl, if_pos h1]
theorem enc_00 {S : Sn} (h : S.sb = true) (h1 : S.n1 ≠ 2147483647) : Jq S = 0 := by unfold Jq; rw [h, if_pos rfl, if_neg h1]
theorem Qpg {S : Sn} {b p : Xg} (h : Jq S ≠ 0) : Y2 S = S ∧ Yi S b p = [] ∧ encK S = [] := ⟨by unfold Y2; rw [if_neg h], by unfold Yi; rw [if_neg h], by unfold encK; rw [if_neg h]⟩
theorem enc_z {S : Sn} {b p : Xg} (h : Jq S = 0) : Y2 S = S.one ∧ Yi S b p = Tc S.w S.s S.n3 S.n1 b p ∧ encK S = S.ks := ⟨by unfold Y2; rw [if_pos h], by unfold Yi; rw [if_pos h], by unfold encK; rw [if_pos h]⟩
theorem Dw {S : Sn} (h : Jq S = 0) : encK S = (Y2 S).ks := by rw [(enc_z (b := []) (p := []) h).2.2, Qmg]
theorem Dx {S : Sn} (h : Jq S ≠ 0) : S.ks = (Y2 S).ks := (Qmg S).symm
theorem first_eq {ro ow ot : Xg} {v : Value} (how : ow.length = 32) (hot : ot.length = 32) : sS (Qg ro ow ot) v = sE (Yg ro (Qe ow ot)) ow ot true false (Jj ro (Qe ow ot)) (List.replicate 32 0) 0 0 0 v := by
 show sE _ (Bl ow) (Bl ot) _ _ _ _ _ _ _ _ = _; rw [Rq how, Rq hot]; rfl
theorem Qra {ro ow : Xg} {v : Value} (hro : ro.length = 32) (how : ow.length = 32) : sS (Q9 ro ow) v = sE ro ow (List.replicate 32 0) false false (List.replicate 32 0) (List.replicate 32 0) 0 0 0 v := by
 show sE (Bl ro) (Bl ow) _ _ _ _ _ _ _ _ _ = _; rw [Rq hro, Rq how]; rfl
attribute [local irreducible] Qc5 Wu Eh Yg Jj Tc Wp Vd Wn Xk Ae F6 Qe Yt Qi Bl Px Xn hdR hdE Gh Tn Qam Nr Qbp Qbc Jz
attribute [local irreducible] Jq J9 Cm V6 Qgv Yi Y2 encK Qg Q9
set_option maxHeartbeats 2000000 in
theorem c_sameS (ra wa oa : Xg) (sb tb : Bool) (sa ta : Xg) (n1 n2 n3 : Int) (vk : Value) (ks : List Kp) (vq : Value) (w0 : World)  (hl : ra.length = 32 ∧ wa.length = 32 ∧ oa.length = 32 ∧ sa.length = 32 ∧ ta.length = 32) (hk : RdK (Jl w0) Jt 65 vk ks) (hn : ks.length ≤ 1048576) (hq : RdK (Jl w0) Jt 65 vq ks) : X9 prog 14 #[(Value.agg (Qo (sE ra wa oa sb tb sa ta n1 n2 n3 vk))), (Value.agg (Qo (sE ra wa oa sb tb sa ta n1 n2 n3 vq)))] w0 (fun r w1 => r = (bl true) ∧ Ext w0 w1) := by
 refine Zb (args := [(Value.agg (Qo (sE ra wa oa sb tb sa ta n1 n2 n3 vk))), (Value.agg (Qo (sE ra wa oa sb tb sa ta n1 n2 n3 vq)))]) func14 rfl ntmps14 results14 rfl ?_
 have hm0 : Mem w0 (Qu w0) [] := Mem.of_world w0
 obtain ⟨hl1, hl2, hl3, hl4, hl5⟩ := hl
 refine sR <| Y9 (F8 (cs := (Qo (sE ra wa oa sb tb sa ta n1 n2 n3 vk))) hm0 rfl) fun w1 b2 hm1 => Y9 (F8 (cs := (Qo (sE ra wa oa sb tb sa ta n1 n2 n3 vq))) hm1 rfl) fun w2 b3 hm2 => Zz (bl false) ?_
 refine rN (Qa (sR ?_))
 refine Qd (Zr (r := 0) X3 rfl Jr Zl rfl rfl) <| Qd (Jv 0 Xq Zl rfl hm2.h1 rfl) <| Qd (Zr (r := 0) X3 rfl Jr Zl rfl rfl) <| Qd (Jv 0 Xq Zl rfl hm2.h0 rfl) <| Qd (Ce (l := ra) (m := ra) Xq Gl Y0 eqGuardType23 rfl rfl ysF ysF) <| Zp (bl (ra != ra)) ?_
 have hd3 : (ra != ra) = false := by simp
 refine Z5 (s := 11) rfl rfl hd3 rfl (Zr (r := 32) X3 rfl Jr Zl rfl rfl) <| Z5 (s := 11) rfl rfl hd3 rfl (Jv 1 Xq Zl rfl hm2.h1 rfl) <| Z5 (s := 11) rfl rfl hd3 rfl (Zr (r := 32) X3 rfl Jr Zl rfl rfl) <| Z5 (s := 11) rfl rfl hd3 rfl (Jv 1 Xq Zl rfl hm2.h0 rfl) <| Z5 (s := 11) rfl rfl hd3 rfl (Ce (l := wa) (m := wa) Xq Gl Y0 eqGuardType23 rfl rfl ysF ysF) <| Qd (Y4 rfl hd3 rfl) <| Zp (bl (wa != wa)) ?_
 have hd4 : (wa != wa) = false := by simp
 refine Z5 (s := 18) rfl rfl hd4 rfl (Zr (r := 64) X3 rfl Jr Zl rfl rfl) <| Z5 (s := 18) rfl rfl hd4 rfl (Jv 2 Xq Zl rfl hm2.h1 rfl) <| Z5 (s := 18) rfl rfl hd4 rfl (Zr (r := 64) X3 rfl Jr Zl rfl rfl) <| Z5 (s := 18) rfl rfl hd4 rfl (Jv 2 Xq Zl rfl hm2.h0 rfl) <| Z5 (s := 18) rfl rfl hd4 rfl (Ce (l := oa) (m := oa) Xq Gl Y0 eqGuardType23 rfl rfl ysF ysF) <| Qd (Y4 rfl hd4 rfl) <| Zp (bl (oa != oa)) ?_
 have hd5 : (oa != oa) = false := by simp
 refine Z5 (s := 25) rfl rfl hd5 rfl (Zr (r := 96) X3 rfl Jr ti4 rfl rfl) <| Z5 (s := 25) rfl rfl hd5 rfl (Y8 3 uT4 rfl hm2.h1 rfl) <| Z5 (s := 25) rfl rfl hd5 rfl (Zr (r := 96) X3 rfl Jr ti4 rfl rfl) <| Z5 (s := 25) rfl rfl hd5 rfl (Y8 3 uT4 rfl hm2.h0 rfl) <| Z5 (s := 25) rfl rfl hd5 rfl (Qhl uT4 rfl rfl) <| Qd (Y4 rfl hd5 rfl) <| Zp (bl (sb != sb)) ?_
 have hd6 : (sb != sb) = false := by simp
 refine Z5 (s := 32) rfl rfl hd6 rfl (Zr (r := 97) X3 rfl Jr ti4 rfl rfl) <| Z5 (s := 32) rfl rfl hd6 rfl (Y8 4 uT4 rfl hm2.h1 rfl) <| Z5 (s := 32) rfl rfl hd6 rfl (Zr (r := 97) X3 rfl Jr ti4 rfl rfl) <| Z5 (s := 32) rfl rfl hd6 rfl (Y8 4 uT4 rfl hm2.h0 rfl) <| Z5 (s := 32) rfl rfl hd6 rfl (Qhl uT4 rfl rfl) <| Qd (Y4 rfl hd6 rfl) <| Zp (bl (tb != tb)) ?_
 have hd7 : (tb != tb) = false := by simp
 refine Z5 (s := 39) rfl rfl hd7 rfl (Zr (r := 98) X3 rfl Jr Zl rfl rfl) <| Z5 (s := 39) rfl rfl hd7 rfl (Jv 5 Xq Zl rfl hm2.h1 rfl) <| Z5 (s := 39) rfl rfl hd7 rfl (Zr (r := 98) X3 rfl Jr Zl rfl rfl) <| Z5 (s := 39) rfl rfl hd7 rfl (Jv 5 Xq Zl rfl hm2.h0 rfl) <| Z5 (s := 39) rfl rfl hd7 rfl (Ce (l := sa) (m := sa) Xq Gl Y0 eqGuardType23 rfl rfl ysF ysF) <| Qd (Y4 rfl hd7 rfl) <| Zp (bl (sa != sa)) ?_
 have hd8 : (sa != sa) = false := by simp
 refine Z5 (s := 46) rfl rfl hd8 rfl (Zr (r := 130) X3 rfl Jr Zl rfl rfl) <| Z5 (s := 46) rfl rfl hd8 rfl (Jv 6 Xq Zl rfl hm2.h1 rfl) <| Z5 (s := 46) rfl rfl hd8 rfl (Zr (r := 130) X3 rfl Jr Zl rfl rfl) <| Z5 (s := 46) rfl rfl hd8 rfl (Jv 6 Xq Zl rfl hm2.h0 rfl) <| Z5 (s := 46) rfl rfl hd8 rfl (Ce (l := ta) (m := ta) Xq Gl Y0 eqGuardType23 rfl rfl ysF ysF) <| Qd (Y4 rfl hd8 rfl) <| Zp (bl (ta != ta)) ?_
 have hd9 : (ta != ta) = false := by simp
 refine Z5 (s := 53) rfl rfl hd9 rfl (Zr (r := 162) X3 rfl Jr U0 rfl rfl) <| Z5 (s := 53) rfl rfl hd9 rfl (Y8 7 Fj rfl hm2.h1 rfl) <| Z5 (s := 53) rfl rfl hd9 rfl (Zr (r := 162) X3 rfl Jr U0 rfl rfl) <| Z5 (s := 53) rfl rfl hd9 rfl (Y8 7 Fj rfl hm2.h0 rfl) <| Z5 (s := 53) rfl rfl hd9 rfl (Jw rfl rfl) <| Qd (Y4 rfl hd9 rfl) <| Zp (bl (n1 != n1)) ?_
 have hd10 : (n1 != n1) = false := by simp
 refine Z5 (s := 60) rfl rfl hd10 rfl (Zr (r := 163) X3 rfl Jr U0 rfl rfl) <| Z5 (s := 60) rfl rfl hd10 rfl (Y8 8 Fj rfl hm2.h1 rfl) <| Z5 (s := 60) rfl rfl hd10 rfl (Zr (r := 163) X3 rfl Jr U0 rfl rfl) <| Z5 (s := 60) rfl rfl hd10 rfl (Y8 8 Fj rfl hm2.h0 rfl) <| Z5 (s := 60) rfl rfl hd10 rfl (Jw rfl rfl) <| Qd (Y4 rfl hd10 rfl) <| Zp (bl (n2 != n2)) ?_
 have hd11 : (n2 != n2) = false := by simp
 refine Z5 (s := 67) rfl rfl hd11 rfl (Zr (r := 164) X3 rfl Jr U0 rfl rfl) <| Z5 (s := 67) rfl rfl hd11 rfl (Y8 9 Fj rfl hm2.h1 rfl) <| Z5 (s := 67) rfl rfl hd11 rfl (Zr (r := 164) X3 rfl Jr U0 rfl rfl) <| Z5 (s := 67) rfl rfl hd11 rfl (Y8 9 Fj rfl hm2.h0 rfl) <| Z5 (s := 67) rfl rfl hd11 rfl (Jw rfl rfl) <| Qd (Y4 rfl hd11 rfl) <| Zp (bl (n3 != n3)) ?_
 have hd12 : (n3 != n3) = false := by simp
 refine Z5 (s := 74) rfl rfl hd12 rfl (Zr (r := 165) X3 rfl Jr Aq rfl rfl) <| Z5 (s := 74) rfl rfl hd12 rfl (Y8 10 Gu rfl hm2.h1 rfl) <| Z5 (s := 74) rfl rfl hd12 rfl (Be (RdK.ofRest hk hm2) Gu rfl) <| Z5 (s := 74) rfl rfl hd12 rfl (Zr (r := 165) X3 rfl Jr Aq rfl rfl) <| Z5 (s := 74) rfl rfl hd12 rfl (Y8 10 Gu rfl hm2.h0 rfl) <| Z5 (s := 74) rfl rfl hd12 rfl (Be (RdK.ofRest hq hm2) Gu rfl) <| Z5 (s := 74) rfl rfl hd12 rfl (Jw rfl rfl) <| Qd (Y4 rfl hd12 rfl) <| rN ?_
 have hd13 : ((ks.length : Int) != (ks.length : Int)) = false := by simp
 refine Yy rfl hd13 ?_
 refine Qs (Qc (Qa (sR ?_)))
 refine Zz (i64 0) ?_
 refine rN (Qk ?_)
 refine Y7 (fun g wv => ∃ (i : Nat), (i ≤ ks.length) ∧ g 0 = (Value.agg (Qo (sE ra wa oa sb tb sa ta n1 n2 n3 vk))) ∧ g 1 = (Value.agg (Qo (sE ra wa oa sb tb sa ta n1 n2 n3 vq))) ∧ g 2 = (ptr b2 0) ∧ g 3 = (ptr b3 0) ∧ g 5 = (i64 (i : Int)) ∧ g 82 = (bl ((ks.length : Int) != (ks.length : Int))) ∧ Mem wv (Qu w0) [(b3, .cells (Qo (sE ra wa oa sb tb sa ta n1 n2 n3 vq)) 26 (0, 0)), (b2, .cells (Qo (sE ra wa oa sb tb sa ta n1 n2 n3 vk)) 26 (0, 0))]) (fun g wv => ((ks.length : Int) - RowKit.intOf (g 5)).toNat) ?_ ?_
 ·exact ⟨0, oM, rfl, rfl, rfl, rfl, rfl, rfl, hm2⟩
 rintro fr14 w15 ⟨i, hi, s0, s1, s2, s3, s5, s82, hm15⟩
 have z5 := s5
 refine Qa (sR ?_)
 refine Ya s5 <| Qd (Zr (r := 165) X3 rfl Jr Aq rfl s2) <| Qd (Y8 10 Gu rfl hm15.h1 rfl) <| Qd (Be (RdK.ofRest hk hm15) Gu rfl) <| Qd (Z9 rfl rfl) <| rN ?_
 refine Z8 rfl (fun hc16 => ?_) (fun hc16 => ?_)
 ·
  have hc16p := of_decide_eq_true hc16
  refine Qs (Qc (Qa (Qk (Qa ?_))))
  refine Xl (dl 10) 10 Xw <| Yb rfl (Zr (r := 165) X3 rfl Jr Aq rfl s2) <| Yn rfl (fun _ e' => Y8 10 Gu rfl (hm15.ext e').h1 rfl) <| Um rfl s5 <| Yn rfl (fun _ e' => Jb (i := (i : Int)) (RdK.ofRest hk (hm15.ext e')) Gu Bz rfl rfl oM sL) <| Yn (v := (Value.agg (Qo (sK ((ks.getD i D7).c) ((ks.getD i D7).n) ((ks.getD i D7).k))))) rfl (fun _ e' => Ah (i := (i : Int)) (dflt := D7) (cs := (Qo (sK ((ks.getD i D7).c) ((ks.getD i D7).n) ((ks.getD i D7).k)))) (RdK.ofRest hk (hm15.ext e')) sL Qei rfl Bz rfl rfl Jg (kp_a (ks.getD i D7))) <| Yb rfl (Zr (r := 165) X3 rfl Jr Aq rfl s3) <| Yn rfl (fun _ e' => Y8 10 Gu rfl (hm15.ext e').h0 rfl) <| Um rfl s5 <| Yn rfl (fun _ e' => Jb (i := (i : Int)) (RdK.ofRest hq (hm15.ext e')) Gu Bz rfl rfl oM sL) <| Yn (v := (Value.agg (Qo (sK ((ks.getD i D7).c) ((ks.getD i D7).n) ((ks.getD i D7).k))))) rfl (fun _ e' => Ah (i := (i : Int)) (dflt := D7) (cs := (Qo (sK ((ks.getD i D7).c) ((ks.getD i D7).n) ((ks.getD i D7).k)))) (RdK.ofRest hq (hm15.ext e')) sL Qei rfl Bz rfl rfl Jg (kp_a (ks.getD i D7))) <| Gs hm15 fun w17 hm17 => Qd (Qr0 (l1 := (ks.getD i D7).c) (l2 := (ks.getD i D7).n) (l3 := (ks.getD i D7).k) (m1 := (ks.getD i D7).c) (m2 := (ks.getD i D7).n) (m3 := (ks.getD i D7).k) Qei Xw Jg Jg Jg rfl rfl rfl rfl rfl rfl Xq Zl Gl Y0 Fj eqGuardType69 rfl rfl (by first | rfl | exact Kp.hc _ | exact Kp.hk _ | first | omega | (simp only [List.length_set, List.length_append, List.length_replicate, List.length_map, List.length_cons, List.length_nil]; omega) | (simp; done) | (simp; omega) | decide) (by first | rfl | exact Kp.hc _ | exact Kp.hk _ | first | omega | (simp only [List.length_set, List.length_append, List.length_replicate, List.length_map, List.length_cons, List.length_nil]; omega) | (simp; done) | (simp; omega) | decide) (by first | rfl | exact Kp.hc _ | exact Kp.hk _ | first | omega | (simp only [List.length_set, List.length_append, List.length_replicate, List.length_map, List.length_cons, List.length_nil]; omega) | (simp; done) | (simp; omega) | decide) (by first | rfl | exact Kp.hc _ | exact Kp.hk _ | first | omega | (simp only [List.length_set, List.length_append, List.length_replicate, List.length_map, List.length_cons, List.length_nil]; omega) | (simp; done) | (simp; omega) | decide)) <| rN ?_
  have hd18 : (((ks.getD i D7).c) == ((ks.getD i D7).c) && (((ks.getD i D7).n) == ((ks.getD i D7).n) && (((ks.getD i D7).k) == ((ks.getD i D7).k) && true))) = true := by simp
  have hd19 : (!(((ks.getD i D7).c) == ((ks.getD i D7).c) && (((ks.getD i D7).n) == ((ks.getD i D7).n) && (((ks.getD i D7).k) == ((ks.getD i D7).k) && true)))) = false := congrArg Bool.not hd18
  refine Yy rfl hd19 ?_
  refine Qs (Qh (Qb ?_))
  refine Ya s5 <| Qd (Zg (b := 1) rfl rfl oM oM) <| Zz (i64 ((i : Int) + 1)) <| rN ?_
  exact ⟨⟨(i + 1), oM, s0, s1, s2, s3, rfl, s82, hm17⟩, Uo rfl z5 oM oM⟩
 ·
  have hc16p := of_decide_eq_false hc16
  refine X6 ?_
  refine Qm (Qm (Xi ?_))
  refine sR <| Zz (bl true) ?_
  refine rN (Xb ?_)
  refine Qv [(bl true)] ⟨rfl, trivial⟩ ?_
  exact ⟨rfl, hm15.toExt⟩
theorem Qpw (S : Sn) (vk : Value) (vb : Value) (lb : Xg) (vp : Value) (lp : Xg) (w0 : World) (hT : Tabs (Jl w0)) (hk : RdK (Jl w0) Jt 65 vk S.ks) (hkl : S.ks.length ≤ 1048576) (hrb : Rd (Jl w0) u8 vb lb) (hlb : lb.length ≤ 90000) (hrp : Rd (Jl w0) u8 vp lp) (hlp : lp.length ≤ 90000) (hn1 : 0 ≤ S.n1 ∧ S.n1 ≤ 2147483647) (hn3 : 0 ≤ S.n3 ∧ S.n3 ≤ 2147483647) : X9 prog 12 #[(Value.agg (Qo (sS S vk))), vb, vp] w0 (fun r w1 => ∃ vq Hq vc Hc, r = Value.tuple #[(Value.agg (Qo (sS (Y2 S) (if Jq S = 0 then vq else vk)))), vc, i64 (Jq S)] ∧ Yz Jt 65 69 vq (encK S) Hq ∧ Xe u8 5 vc (Yi S lb lp) Hc ∧ Mem w1 (Qu w0) (Hq ++ Hc)) := by
 cases hsb : S.sb with
 | false =>
  refine (Qpx S.r S.w S.o S.sb S.tb S.s S.t S.n1 S.n2 S.n3 vk S.ks vb lb vp lp w0 S.l5 hk hkl hrb hlb hrp hlp hn1 hn3 hsb).mono ?_
  rintro r w1 ⟨rfl, he⟩
  have h0 := enc_13 hsb
  have hz : Jq S ≠ 0 := by rw [h0]; decide
  obtain ⟨h1, h2, h3⟩ := Qpg (b := lb) (p := lp) hz
  rw [h1, h2, h3]
  exact ⟨Value.slice none 0 0, [], Value.slice none 0 0, [], by rw [if_neg hz, h0], Yz.none Jt 65 69, Xe.none u8 5, by simpa using (Mem.of_world w0).ext he⟩
 | true =>
  by_cases hmx : S.n1 = 2147483647
  ·refine (Qpy S.r S.w S.o S.sb S.tb S.s S.t S.n1 S.n2 S.n3 vk S.ks vb lb vp lp w0 S.l5 hk hkl hrb hlb hrp hlp hn1 hn3 hsb hmx).mono ?_
   rintro r w1 ⟨rfl, he⟩
   have h0 := enc_12 hsb hmx
   have hz : Jq S ≠ 0 := by rw [h0]; decide
   obtain ⟨h1, h2, h3⟩ := Qpg (b := lb) (p := lp) hz
   rw [h1, h2, h3]
   exact ⟨Value.slice none 0 0, [], Value.slice none 0 0, [], by rw [if_neg hz, h0], Yz.none Jt 65 69, Xe.none u8 5, by simpa using (Mem.of_world w0).ext he⟩
  refine (c_enc19 S.r S.w S.o S.sb S.tb S.s S.t S.n1 S.n2 S.n3 vk S.ks vb lb vp lp w0 hT S.l5 hk hkl hrb hlb hrp hlp hn1 hn3 hsb oM).mono ?_
  rintro r w1 ⟨v2, H2, vc, Hc, rfl, g2, gc, hm⟩
  have h0 := enc_00 hsb hmx
  obtain ⟨h1, h2, h3⟩ := enc_z (b := lb) (p := lp) h0
  rw [h1, h2, h3]
  exact ⟨v2, H2, vc, Hc, by rw [if_pos h0, h0]; rfl, g2, gc, hm⟩
theorem Qn4 (ro ow pu ot : Xg) (w0 : World) (hT : Tabs (Jl w0)) (hro : ro.length = 32) (how : ow.length = 32) (hpu : pu.length = 32) (hot : ot.length = 32) : X9 prog 16 #[agg u8 ro, (Value.agg (Qo [ow.map u8, pu.map u8])), agg u8 ot] w0 (fun r w1 => r = (Value.agg (Qo (sS (Qg ro ow ot) Yj))) ∧ Ext w0 w1) := by
 rw [first_eq how hot]; exact Qsa ro ow pu ot w0 hT hro how hpu hot
theorem Qld (ro ow pu : Xg) (w0 : World) (hro : ro.length = 32) (how : ow.length = 32) (hpu : pu.length = 32) : X9 prog 18 #[agg u8 ro, (Value.agg (Qo [ow.map u8, pu.map u8]))] w0 (fun r w1 => r = (Value.agg (Qo (sS (Q9 ro ow) Yj))) ∧ Ext w0 w1) := by
 rw [Qra hro how]; exact Qpq ro ow pu w0 hro how hpu
theorem Si (S T : Sn) (vk vq : Value) (w0 : World) (hk : RdK (Jl w0) Jt 65 vk S.ks) (hq : RdK (Jl w0) Jt 65 vq T.ks) (hn : S.ks.length ≤ 1048576) (hst : T = S) : X9 prog 14 #[(Value.agg (Qo (sS S vk))), (Value.agg (Qo (sS T vq)))] w0 (fun r w1 => r = bl true ∧ Ext w0 w1) := by
 subst hst; exact c_sameS T.r T.w T.o T.sb T.tb T.s T.t T.n1 T.n2 T.n3 vk T.ks vq w0 T.l5 hk hn hq
end Go.Proofs.YtkmiemlpfkfiiaaDoor
