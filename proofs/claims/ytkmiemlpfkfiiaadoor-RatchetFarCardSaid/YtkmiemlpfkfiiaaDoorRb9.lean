/- The ratchet: contracts over sessions as records. Conditions: none beyond those that each theorem states. -/
import Derived.Test.YtkmiemlpfkfiiaaDoorRb8
namespace Go.Proofs.YtkmiemlpfkfiiaaDoor
open Tryd
set_option linter.unusedVariables false
set_option linter.unusedSimpArgs false
def encK (S : Sn) : List Kp := if Ua S = 0 then S.ks else []
theorem Qlt {S : Sn} (h : S.sb = false) : Ua S = 13 := by unfold Ua; rw [h]; rfl
theorem enc_12 {S : Sn} (h : S.sb = true) (h1 : S.n1 = 2147483647) : Ua S = 12 := by unfold Ua; rw [h, if_pos rfl, if_pos h1]
theorem Qiw {S : Sn} (h : S.sb = true) (h1 : S.n1 ≠ 2147483647) : Ua S = 0 := by unfold Ua; rw [h, if_pos rfl, if_neg h1]
theorem Qls {S : Sn} {b p : Zj} (h : Ua S ≠ 0) : Qbb S = S ∧ Eg S b p = [] ∧ encK S = [] := ⟨by unfold Qbb; rw [if_neg h], by unfold Eg; rw [if_neg h], by unfold encK; rw [if_neg h]⟩
theorem Qkq {S : Sn} {b p : Zj} (h : Ua S = 0) : Qbb S = S.one ∧ Eg S b p = Gy S.w S.s S.n3 S.n1 b p ∧ encK S = S.ks := ⟨by unfold Qbb; rw [if_pos h], by unfold Eg; rw [if_pos h], by unfold encK; rw [if_pos h]⟩
theorem Ar {S : Sn} (h : Ua S = 0) : encK S = (Qbb S).ks := by rw [(Qkq (b := []) (p := []) h).2.2, Bq]
theorem Au {S : Sn} (h : Ua S ≠ 0) : S.ks = (Qbb S).ks := (Bq S).symm
theorem Qmx {S : Sn} {b p : Zj} : (Eg S b p).length ≤ p.length + 72 := by
 unfold Eg; split
 ·unfold Gy; rw [List.length_append, Qay (Jy _ _), Eh]; omega
 exact Nat.zero_le _
theorem first_eq {ro ow ot : Zj} {v : Value} (how : ow.length = 32) (hot : ot.length = 32) : sS (Ze ro ow ot) v = sE (Ya ro (Qi ow ot)) ow ot true false (Yq ro (Qi ow ot)) (List.replicate 32 0) 0 0 0 v := by
 show sE _ (Gf ow) (Gf ot) _ _ _ _ _ _ _ _ = _; rw [Ut how, Ut hot]; rfl
theorem Qnj {ro ow : Zj} {v : Value} (hro : ro.length = 32) (how : ow.length = 32) : sS (Zq ro ow) v = sE ro ow (List.replicate 32 0) false false (List.replicate 32 0) (List.replicate 32 0) 0 0 0 v := by
 show sE (Gf ro) (Gf ow) _ _ _ _ _ _ _ _ _ = _; rw [Ut hro, Ut how]; rfl
attribute [local irreducible] Ak Va D7 Ya Yq Gy J9 Jz Ja Zu Wi Ko Qi Q7 Gf D5 Kt hdR hdE Wv Qba Rz Dz Pi Ns Jl
attribute [local irreducible] Ua Gz Ls F5 Qem Eg Qbb encK Ze Zq
set_option maxHeartbeats 2000000 in
theorem c_sameS (ra wa oa : Zj) (sb tb : Bool) (sa ta : Zj) (n1 n2 n3 : Int) (vk : Value) (ks : List Kp) (vq : Value) (w0 : World)  (hl : ra.length = 32 ∧ wa.length = 32 ∧ oa.length = 32 ∧ sa.length = 32 ∧ ta.length = 32) (hk : RdK (Yn w0) Yz 65 vk ks) (hn : ks.length ≤ 1048576) (hq : RdK (Yn w0) Yz 65 vq ks) : Xm prog 14 #[(Value.agg (Qp (sE ra wa oa sb tb sa ta n1 n2 n3 vk))), (Value.agg (Qp (sE ra wa oa sb tb sa ta n1 n2 n3 vq)))] w0 (fun r w1 => r = (bl true) ∧ Ext w0 w1) := by
 refine Qy (args := [(Value.agg (Qp (sE ra wa oa sb tb sa ta n1 n2 n3 vk))), (Value.agg (Qp (sE ra wa oa sb tb sa ta n1 n2 n3 vq)))]) func14 rfl ntmps14 results14 rfl ?_
 have hm0 : Mem w0 (Qu w0) [] := Mem.of_world w0
 obtain ⟨hl1, hl2, hl3, hl4, hl5⟩ := hl
 refine sR <| Y5 (Uk (cs := (Qp (sE ra wa oa sb tb sa ta n1 n2 n3 vk))) hm0 rfl) fun w1 b2 hm1 => Y5 (Uk (cs := (Qp (sE ra wa oa sb tb sa ta n1 n2 n3 vq))) hm1 rfl) fun w2 b3 hm2 => Zv (bl false) ?_
 refine rN (Qc (sR ?_))
 refine Qd (Zd (r := 0) X6 rfl Yy Zi rfl rfl) <| Qd (Y8 0 Xf Zi rfl hm2.h1 rfl) <| Qd (Zd (r := 0) X6 rfl Yy Zi rfl rfl) <| Qd (Y8 0 Xf Zi rfl hm2.h0 rfl) <| Qd (Fg (l := ra) (m := ra) Xf Uu Yw eqGuardType23 rfl rfl ysF ysF) <| Zb (bl (ra != ra)) ?_
 have hd3 : (ra != ra) = false := by simp
 refine Zt (s := 11) rfl rfl hd3 rfl (Zd (r := 32) X6 rfl Yy Zi rfl rfl) <| Zt (s := 11) rfl rfl hd3 rfl (Y8 1 Xf Zi rfl hm2.h1 rfl) <| Zt (s := 11) rfl rfl hd3 rfl (Zd (r := 32) X6 rfl Yy Zi rfl rfl) <| Zt (s := 11) rfl rfl hd3 rfl (Y8 1 Xf Zi rfl hm2.h0 rfl) <| Zt (s := 11) rfl rfl hd3 rfl (Fg (l := wa) (m := wa) Xf Uu Yw eqGuardType23 rfl rfl ysF ysF) <| Qd (Js rfl hd3 rfl) <| Zb (bl (wa != wa)) ?_
 have hd4 : (wa != wa) = false := by simp
 refine Zt (s := 18) rfl rfl hd4 rfl (Zd (r := 64) X6 rfl Yy Zi rfl rfl) <| Zt (s := 18) rfl rfl hd4 rfl (Y8 2 Xf Zi rfl hm2.h1 rfl) <| Zt (s := 18) rfl rfl hd4 rfl (Zd (r := 64) X6 rfl Yy Zi rfl rfl) <| Zt (s := 18) rfl rfl hd4 rfl (Y8 2 Xf Zi rfl hm2.h0 rfl) <| Zt (s := 18) rfl rfl hd4 rfl (Fg (l := oa) (m := oa) Xf Uu Yw eqGuardType23 rfl rfl ysF ysF) <| Qd (Js rfl hd4 rfl) <| Zb (bl (oa != oa)) ?_
 have hd5 : (oa != oa) = false := by simp
 refine Zt (s := 25) rfl rfl hd5 rfl (Zd (r := 96) X6 rfl Yy ti4 rfl rfl) <| Zt (s := 25) rfl rfl hd5 rfl (Yp 3 uT4 rfl hm2.h1 rfl) <| Zt (s := 25) rfl rfl hd5 rfl (Zd (r := 96) X6 rfl Yy ti4 rfl rfl) <| Zt (s := 25) rfl rfl hd5 rfl (Yp 3 uT4 rfl hm2.h0 rfl) <| Zt (s := 25) rfl rfl hd5 rfl (Qd9 uT4 rfl rfl) <| Qd (Js rfl hd5 rfl) <| Zb (bl (sb != sb)) ?_
 have hd6 : (sb != sb) = false := by simp
 refine Zt (s := 32) rfl rfl hd6 rfl (Zd (r := 97) X6 rfl Yy ti4 rfl rfl) <| Zt (s := 32) rfl rfl hd6 rfl (Yp 4 uT4 rfl hm2.h1 rfl) <| Zt (s := 32) rfl rfl hd6 rfl (Zd (r := 97) X6 rfl Yy ti4 rfl rfl) <| Zt (s := 32) rfl rfl hd6 rfl (Yp 4 uT4 rfl hm2.h0 rfl) <| Zt (s := 32) rfl rfl hd6 rfl (Qd9 uT4 rfl rfl) <| Qd (Js rfl hd6 rfl) <| Zb (bl (tb != tb)) ?_
 have hd7 : (tb != tb) = false := by simp
 refine Zt (s := 39) rfl rfl hd7 rfl (Zd (r := 98) X6 rfl Yy Zi rfl rfl) <| Zt (s := 39) rfl rfl hd7 rfl (Y8 5 Xf Zi rfl hm2.h1 rfl) <| Zt (s := 39) rfl rfl hd7 rfl (Zd (r := 98) X6 rfl Yy Zi rfl rfl) <| Zt (s := 39) rfl rfl hd7 rfl (Y8 5 Xf Zi rfl hm2.h0 rfl) <| Zt (s := 39) rfl rfl hd7 rfl (Fg (l := sa) (m := sa) Xf Uu Yw eqGuardType23 rfl rfl ysF ysF) <| Qd (Js rfl hd7 rfl) <| Zb (bl (sa != sa)) ?_
 have hd8 : (sa != sa) = false := by simp
 refine Zt (s := 46) rfl rfl hd8 rfl (Zd (r := 130) X6 rfl Yy Zi rfl rfl) <| Zt (s := 46) rfl rfl hd8 rfl (Y8 6 Xf Zi rfl hm2.h1 rfl) <| Zt (s := 46) rfl rfl hd8 rfl (Zd (r := 130) X6 rfl Yy Zi rfl rfl) <| Zt (s := 46) rfl rfl hd8 rfl (Y8 6 Xf Zi rfl hm2.h0 rfl) <| Zt (s := 46) rfl rfl hd8 rfl (Fg (l := ta) (m := ta) Xf Uu Yw eqGuardType23 rfl rfl ysF ysF) <| Qd (Js rfl hd8 rfl) <| Zb (bl (ta != ta)) ?_
 have hd9 : (ta != ta) = false := by simp
 refine Zt (s := 53) rfl rfl hd9 rfl (Zd (r := 162) X6 rfl Yy Dj rfl rfl) <| Zt (s := 53) rfl rfl hd9 rfl (Yp 7 Di rfl hm2.h1 rfl) <| Zt (s := 53) rfl rfl hd9 rfl (Zd (r := 162) X6 rfl Yy Dj rfl rfl) <| Zt (s := 53) rfl rfl hd9 rfl (Yp 7 Di rfl hm2.h0 rfl) <| Zt (s := 53) rfl rfl hd9 rfl (Je rfl rfl) <| Qd (Js rfl hd9 rfl) <| Zb (bl (n1 != n1)) ?_
 have hd10 : (n1 != n1) = false := by simp
 refine Zt (s := 60) rfl rfl hd10 rfl (Zd (r := 163) X6 rfl Yy Dj rfl rfl) <| Zt (s := 60) rfl rfl hd10 rfl (Yp 8 Di rfl hm2.h1 rfl) <| Zt (s := 60) rfl rfl hd10 rfl (Zd (r := 163) X6 rfl Yy Dj rfl rfl) <| Zt (s := 60) rfl rfl hd10 rfl (Yp 8 Di rfl hm2.h0 rfl) <| Zt (s := 60) rfl rfl hd10 rfl (Je rfl rfl) <| Qd (Js rfl hd10 rfl) <| Zb (bl (n2 != n2)) ?_
 have hd11 : (n2 != n2) = false := by simp
 refine Zt (s := 67) rfl rfl hd11 rfl (Zd (r := 164) X6 rfl Yy Dj rfl rfl) <| Zt (s := 67) rfl rfl hd11 rfl (Yp 9 Di rfl hm2.h1 rfl) <| Zt (s := 67) rfl rfl hd11 rfl (Zd (r := 164) X6 rfl Yy Dj rfl rfl) <| Zt (s := 67) rfl rfl hd11 rfl (Yp 9 Di rfl hm2.h0 rfl) <| Zt (s := 67) rfl rfl hd11 rfl (Je rfl rfl) <| Qd (Js rfl hd11 rfl) <| Zb (bl (n3 != n3)) ?_
 have hd12 : (n3 != n3) = false := by simp
 refine Zt (s := 74) rfl rfl hd12 rfl (Zd (r := 165) X6 rfl Yy Ah rfl rfl) <| Zt (s := 74) rfl rfl hd12 rfl (Yp 10 Gt rfl hm2.h1 rfl) <| Zt (s := 74) rfl rfl hd12 rfl (Ux (RdK.ofRest hk hm2) Gt rfl) <| Zt (s := 74) rfl rfl hd12 rfl (Zd (r := 165) X6 rfl Yy Ah rfl rfl) <| Zt (s := 74) rfl rfl hd12 rfl (Yp 10 Gt rfl hm2.h0 rfl) <| Zt (s := 74) rfl rfl hd12 rfl (Ux (RdK.ofRest hq hm2) Gt rfl) <| Zt (s := 74) rfl rfl hd12 rfl (Je rfl rfl) <| Qd (Js rfl hd12 rfl) <| rN ?_
 have hd13 : ((ks.length : Int) != (ks.length : Int)) = false := by simp
 refine Ym rfl hd13 ?_
 refine Qo (Qa (Qc (sR ?_)))
 refine Zv (i64 0) ?_
 refine rN (Qj ?_)
 refine Jq (fun g wv => ∃ (i : Nat), (i ≤ ks.length) ∧ g 0 = (Value.agg (Qp (sE ra wa oa sb tb sa ta n1 n2 n3 vk))) ∧ g 1 = (Value.agg (Qp (sE ra wa oa sb tb sa ta n1 n2 n3 vq))) ∧ g 2 = (ptr b2 0) ∧ g 3 = (ptr b3 0) ∧ g 5 = (i64 (i : Int)) ∧ g 82 = (bl ((ks.length : Int) != (ks.length : Int))) ∧ Mem wv (Qu w0) [(b3, .cells (Qp (sE ra wa oa sb tb sa ta n1 n2 n3 vq)) 26 (0, 0)), (b2, .cells (Qp (sE ra wa oa sb tb sa ta n1 n2 n3 vk)) 26 (0, 0))]) (fun g wv => ((ks.length : Int) - RowKit.intOf (g 5)).toNat) ?_ ?_
 ·exact ⟨0, oM, rfl, rfl, rfl, rfl, rfl, rfl, hm2⟩
 rintro fr14 w15 ⟨i, hi, s0, s1, s2, s3, s5, s82, hm15⟩
 have z5 := s5
 refine Qc (sR ?_)
 refine Yk s5 <| Qd (Zd (r := 165) X6 rfl Yy Ah rfl s2) <| Qd (Yp 10 Gt rfl hm15.h1 rfl) <| Qd (Ux (RdK.ofRest hk hm15) Gt rfl) <| Qd (Xy rfl rfl) <| rN ?_
 refine Xb rfl (fun hc16 => ?_) (fun hc16 => ?_)
 ·
  have hc16p := of_decide_eq_true hc16
  refine Qo (Qa (Qc (Qj (Qc ?_))))
  refine Xj (dl 10) 10 Xh <| Xq rfl (Zd (r := 165) X6 rfl Yy Ah rfl s2) <| Y6 rfl (fun _ e' => Yp 10 Gt rfl (hm15.ext e').h1 rfl) <| yqE rfl s5 <| Y6 rfl (fun _ e' => Wx (i := (i : Int)) (RdK.ofRest hk (hm15.ext e')) Gt Np rfl rfl oM sL) <| Y6 (v := (Value.agg (Qp (sK ((ks.getD i Ep).c) ((ks.getD i Ep).n) ((ks.getD i Ep).k))))) rfl (fun _ e' => Af (i := (i : Int)) (dflt := Ep) (cs := (Qp (sK ((ks.getD i Ep).c) ((ks.getD i Ep).n) ((ks.getD i Ep).k)))) (RdK.ofRest hk (hm15.ext e')) sL Qe4 rfl Np rfl rfl Yh (kp_a (ks.getD i Ep))) <| Xq rfl (Zd (r := 165) X6 rfl Yy Ah rfl s3) <| Y6 rfl (fun _ e' => Yp 10 Gt rfl (hm15.ext e').h0 rfl) <| yqE rfl s5 <| Y6 rfl (fun _ e' => Wx (i := (i : Int)) (RdK.ofRest hq (hm15.ext e')) Gt Np rfl rfl oM sL) <| Y6 (v := (Value.agg (Qp (sK ((ks.getD i Ep).c) ((ks.getD i Ep).n) ((ks.getD i Ep).k))))) rfl (fun _ e' => Af (i := (i : Int)) (dflt := Ep) (cs := (Qp (sK ((ks.getD i Ep).c) ((ks.getD i Ep).n) ((ks.getD i Ep).k)))) (RdK.ofRest hq (hm15.ext e')) sL Qe4 rfl Np rfl rfl Yh (kp_a (ks.getD i Ep))) <| Ug hm15 fun w17 hm17 => Qd (Qn7 (l1 := (ks.getD i Ep).c) (l2 := (ks.getD i Ep).n) (l3 := (ks.getD i Ep).k) (m1 := (ks.getD i Ep).c) (m2 := (ks.getD i Ep).n) (m3 := (ks.getD i Ep).k) Qe4 Xh Yh Yh Yh rfl rfl rfl rfl rfl rfl Xf Zi Uu Yw Di eqGuardType69 rfl rfl (by first | rfl | exact Kp.hc _ | exact Kp.hk _ | first | omega | (simp only [List.length_set, List.length_append, List.length_replicate, List.length_map, List.length_cons, List.length_nil]; omega) | (simp; done) | (simp; omega) | decide) (by first | rfl | exact Kp.hc _ | exact Kp.hk _ | first | omega | (simp only [List.length_set, List.length_append, List.length_replicate, List.length_map, List.length_cons, List.length_nil]; omega) | (simp; done) | (simp; omega) | decide) (by first | rfl | exact Kp.hc _ | exact Kp.hk _ | first | omega | (simp only [List.length_set, List.length_append, List.length_replicate, List.length_map, List.length_cons, List.length_nil]; omega) | (simp; done) | (simp; omega) | decide) (by first | rfl | exact Kp.hc _ | exact Kp.hk _ | first | omega | (simp only [List.length_set, List.length_append, List.length_replicate, List.length_map, List.length_cons, List.length_nil]; omega) | (simp; done) | (simp; omega) | decide)) <| rN ?_
  have hd18 : (((ks.getD i Ep).c) == ((ks.getD i Ep).c) && (((ks.getD i Ep).n) == ((ks.getD i Ep).n) && (((ks.getD i Ep).k) == ((ks.getD i Ep).k) && true))) = true := by simp
  have hd19 : (!(((ks.getD i Ep).c) == ((ks.getD i Ep).c) && (((ks.getD i Ep).n) == ((ks.getD i Ep).n) && (((ks.getD i Ep).k) == ((ks.getD i Ep).k) && true)))) = false := congrArg Bool.not hd18
  refine Ym rfl hd19 ?_
  refine Qo (Qh (Qb ?_))
  refine Yk s5 <| Qd (Z9 (b := 1) rfl rfl oM oM) <| Zv (i64 ((i : Int) + 1)) <| rN ?_
  exact ⟨⟨(i + 1), oM, s0, s1, s2, s3, rfl, s82, hm17⟩, Am rfl z5 oM oM⟩
 ·
  have hc16p := of_decide_eq_false hc16
  refine Yc ?_
  refine Qr (Qr (Xp ?_))
  refine sR <| Zv (bl true) ?_
  refine rN (Zy ?_)
  refine Qs [(bl true)] ⟨rfl, trivial⟩ ?_
  exact ⟨rfl, hm15.toExt⟩
theorem Qi8 (S : Sn) (vk : Value) (vb : Value) (lb : Zj) (vp : Value) (lp : Zj) (w0 : World) (hT : Tabs (Yn w0)) (hk : RdK (Yn w0) Yz 65 vk S.ks) (hkl : S.ks.length ≤ 1048576) (hrb : Rd (Yn w0) u8 vb lb) (hlb : lb.length ≤ 90000) (hrp : Rd (Yn w0) u8 vp lp) (hlp : lp.length ≤ 90000) (hn1 : 0 ≤ S.n1 ∧ S.n1 ≤ 2147483647) (hn3 : 0 ≤ S.n3 ∧ S.n3 ≤ 2147483647) : Xm prog 12 #[(Value.agg (Qp (sS S vk))), vb, vp] w0 (fun r w1 => ∃ vq Hq vc Hc, r = Value.tuple #[(Value.agg (Qp (sS (Qbb S) (if Ua S = 0 then vq else vk)))), vc, i64 (Ua S)] ∧ Yf Yz 65 69 vq (encK S) Hq ∧ Xl u8 5 vc (Eg S lb lp) Hc ∧ Mem w1 (Qu w0) (Hq ++ Hc)) := by
 cases hsb : S.sb with
 | false =>
  refine (Ql1 S.r S.w S.o S.sb S.tb S.s S.t S.n1 S.n2 S.n3 vk S.ks vb lb vp lp w0 S.l5 hk hkl hrb hlb hrp hlp hn1 hn3 hsb).mono ?_
  rintro r w1 ⟨rfl, he⟩
  have h0 := Qlt hsb
  have hz : Ua S ≠ 0 := by rw [h0]; decide
  obtain ⟨h1, h2, h3⟩ := Qls (b := lb) (p := lp) hz
  rw [h1, h2, h3]
  exact ⟨Value.slice none 0 0, [], Value.slice none 0 0, [], by rw [if_neg hz, h0], Yf.none Yz 65 69, Xl.none u8 5, by simpa using (Mem.of_world w0).ext he⟩
 | true =>
  by_cases hmx : S.n1 = 2147483647
  ·refine (Ql2 S.r S.w S.o S.sb S.tb S.s S.t S.n1 S.n2 S.n3 vk S.ks vb lb vp lp w0 S.l5 hk hkl hrb hlb hrp hlp hn1 hn3 hsb hmx).mono ?_
   rintro r w1 ⟨rfl, he⟩
   have h0 := enc_12 hsb hmx
   have hz : Ua S ≠ 0 := by rw [h0]; decide
   obtain ⟨h1, h2, h3⟩ := Qls (b := lb) (p := lp) hz
   rw [h1, h2, h3]
   exact ⟨Value.slice none 0 0, [], Value.slice none 0 0, [], by rw [if_neg hz, h0], Yf.none Yz 65 69, Xl.none u8 5, by simpa using (Mem.of_world w0).ext he⟩
  refine (c_enc19 S.r S.w S.o S.sb S.tb S.s S.t S.n1 S.n2 S.n3 vk S.ks vb lb vp lp w0 hT S.l5 hk hkl hrb hlb hrp hlp hn1 hn3 hsb oM).mono ?_
  rintro r w1 ⟨v2, H2, vc, Hc, rfl, g2, gc, hm⟩
  have h0 := Qiw hsb hmx
  obtain ⟨h1, h2, h3⟩ := Qkq (b := lb) (p := lp) h0
  rw [h1, h2, h3]
  exact ⟨v2, H2, vc, Hc, by rw [if_pos h0, h0]; rfl, g2, gc, hm⟩
theorem Qkx (ro ow pu ot : Zj) (w0 : World) (hT : Tabs (Yn w0)) (hro : ro.length = 32) (how : ow.length = 32) (hpu : pu.length = 32) (hot : ot.length = 32) : Xm prog 16 #[agg u8 ro, (Value.agg (Qp [ow.map u8, pu.map u8])), agg u8 ot] w0 (fun r w1 => r = (Value.agg (Qp (sS (Ze ro ow ot) Jp))) ∧ Ext w0 w1) := by
 rw [first_eq how hot]; exact Qoe ro ow pu ot w0 hT hro how hpu hot
theorem Qho (ro ow pu : Zj) (w0 : World) (hro : ro.length = 32) (how : ow.length = 32) (hpu : pu.length = 32) : Xm prog 18 #[agg u8 ro, (Value.agg (Qp [ow.map u8, pu.map u8]))] w0 (fun r w1 => r = (Value.agg (Qp (sS (Zq ro ow) Jp))) ∧ Ext w0 w1) := by
 rw [Qnj hro how]; exact Qly ro ow pu w0 hro how hpu
theorem c_sameSS (S T : Sn) (vk vq : Value) (w0 : World) (hk : RdK (Yn w0) Yz 65 vk S.ks) (hq : RdK (Yn w0) Yz 65 vq T.ks) (hn : S.ks.length ≤ 1048576) (hst : T = S) : Xm prog 14 #[(Value.agg (Qp (sS S vk))), (Value.agg (Qp (sS T vq)))] w0 (fun r w1 => r = bl true ∧ Ext w0 w1) := by
 subst hst; exact c_sameS T.r T.w T.o T.sb T.tb T.s T.t T.n1 T.n2 T.n3 vk T.ks vq w0 T.l5 hk hn hq
end Go.Proofs.YtkmiemlpfkfiiaaDoor
