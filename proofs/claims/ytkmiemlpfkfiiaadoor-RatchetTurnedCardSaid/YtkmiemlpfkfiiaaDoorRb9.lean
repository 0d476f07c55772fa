/- The ratchet: contracts over sessions as records. Conditions: none beyond those that each theorem states. -/
import Derived.Test.YtkmiemlpfkfiiaaDoorRb8
namespace Go.Proofs.YtkmiemlpfkfiiaaDoor
open List renaming length_append → ag, length_cons → au, length_map → bH, length_set → cu, replicate → aA
open RdK renaming ofRest → af
open Value renaming agg → aO, slice → bK
open Tryd
set_option linter.unusedVariables false
set_option linter.unusedSimpArgs false
def encK (S : Sn) : List Kp := if Lt S = 0 then S.ks else []
theorem Qq9 {S : Sn} (h : S.sb = false) : Lt S = 13 := by unfold Lt; rw [h]; rfl
theorem enc_12 {S : Sn} (h : S.sb = true) (h1 : S.n1 = 2147483647) : Lt S = 12 := by unfold Lt; rw [h, if_pos rfl, if_pos h1]
theorem Qno {S : Sn} (h : S.sb = true) (h1 : S.n1 ≠ 2147483647) : Lt S = 0 := by unfold Lt; rw [h, if_pos rfl, if_neg h1]
theorem Qq6 {S : Sn} {b p : Z4} (h : Lt S ≠ 0) : Qgq S = S ∧ Qb1 S b p = [] ∧ encK S = [] := ⟨by unfold Qgq; rw [if_neg h], by unfold Qb1; rw [if_neg h], by unfold encK; rw [if_neg h]⟩
theorem Qpk {S : Sn} {b p : Z4} (h : Lt S = 0) : Qgq S = S.one ∧ Qb1 S b p = Ba S.w S.s S.n3 S.n1 b p ∧ encK S = S.ks := ⟨by unfold Qgq; rw [if_pos h], by unfold Qb1; rw [if_pos h], by unfold encK; rw [if_pos h]⟩
theorem Qq7 {S : Sn} (h : Lt S = 0) : encK S = (Qgq S).ks := by rw [(Qpk (b := []) (p := []) h).2.2, Qsp]
theorem Qq8 {S : Sn} (h : Lt S ≠ 0) : S.ks = (Qgq S).ks := (Qsp S).symm
theorem first_eq {ro ow ot : Z4} {v : Value} (how : ow.length = 32) (hot : ot.length = 32) : sS (Ea ro ow ot) v = sE (X8 ro (Zu ow ot)) ow ot true false (Y7 ro (Zu ow ot)) (aA 32 0) 0 0 0 v := by
 show sE _ (F7 ow) (F7 ot) _ _ _ _ _ _ _ _ = _; rw [Ci how, Ci hot]; rfl
theorem Qtj {ro ow : Z4} {v : Value} (hro : ro.length = 32) (how : ow.length = 32) : sS (Xo ro ow) v = sE ro ow (aA 32 0) false false (aA 32 0) (aA 32 0) 0 0 0 v := by
 show sE (F7 ro) (F7 ow) _ _ _ _ _ _ _ _ _ = _; rw [Ci hro, Ci how]; rfl
attribute [local irreducible] Si We Eg X8 Y7 Ba Wh Wv Kw Xc Gv Gn Zu Yn Yy F7 Ns Xf hdR hdE V5 Su Td Nq Qbq Qbd Jo
attribute [local irreducible] Lt Ez Sv Bo Qho Qb1 Qgq encK Ea Xo
set_option maxHeartbeats 2000000 in
theorem c_sameS (ra wa oa : Z4) (sb tb : Bool) (sa ta : Z4) (n1 n2 n3 : Int) (vk : Value) (ks : List Kp) (vq : Value) (w0 : World)  (hl : ra.length = 32 ∧ wa.length = 32 ∧ oa.length = 32 ∧ sa.length = 32 ∧ ta.length = 32) (hk : RdK (Jd w0) Jl 65 vk ks) (hn : ks.length ≤ 1048576) (hq : RdK (Jd w0) Jl 65 vq ks) : Xz prog 14 #[(aO (Qy (sE ra wa oa sb tb sa ta n1 n2 n3 vk))), (aO (Qy (sE ra wa oa sb tb sa ta n1 n2 n3 vq)))] w0 (fun r w1 => r = (bl true) ∧ Ext w0 w1) := by
 refine Qz (args := [(aO (Qy (sE ra wa oa sb tb sa ta n1 n2 n3 vk))), (aO (Qy (sE ra wa oa sb tb sa ta n1 n2 n3 vq)))]) func14 rfl ntmps14 results14 rfl ?_
 have hm0 : Mem w0 (Qs w0) [] := Mem.of_world w0
 obtain ⟨hl1, hl2, hl3, hl4, hl5⟩ := hl
 refine sR <| Y5 (Fz (cs := (Qy (sE ra wa oa sb tb sa ta n1 n2 n3 vk))) hm0 rfl) fun w1 b2 hm1 => Y5 (Fz (cs := (Qy (sE ra wa oa sb tb sa ta n1 n2 n3 vq))) hm1 rfl) fun w2 b3 hm2 => Zx (bl false) ?_
 refine rN (Qa (sR ?_))
 refine Qd (Zl (r := 0) Yc rfl Jj Zh rfl rfl) <| Qd (Jn 0 Xn Zh rfl hm2.h1 rfl) <| Qd (Zl (r := 0) Yc rfl Jj Zh rfl rfl) <| Qd (Jn 0 Xn Zh rfl hm2.h0 rfl) <| Qd (D9 (l := ra) (m := ra) Xn V3 Yr eqGuardType23 rfl rfl ysF ysF) <| Zm (bl (ra != ra)) ?_
 have hd3 : (ra != ra) = false := by simp
 refine Yf (s := 11) rfl rfl hd3 rfl (Zl (r := 32) Yc rfl Jj Zh rfl rfl) <| Yf (s := 11) rfl rfl hd3 rfl (Jn 1 Xn Zh rfl hm2.h1 rfl) <| Yf (s := 11) rfl rfl hd3 rfl (Zl (r := 32) Yc rfl Jj Zh rfl rfl) <| Yf (s := 11) rfl rfl hd3 rfl (Jn 1 Xn Zh rfl hm2.h0 rfl) <| Yf (s := 11) rfl rfl hd3 rfl (D9 (l := wa) (m := wa) Xn V3 Yr eqGuardType23 rfl rfl ysF ysF) <| Qd (Wn rfl hd3 rfl) <| Zm (bl (wa != wa)) ?_
 have hd4 : (wa != wa) = false := by simp
 refine Yf (s := 18) rfl rfl hd4 rfl (Zl (r := 64) Yc rfl Jj Zh rfl rfl) <| Yf (s := 18) rfl rfl hd4 rfl (Jn 2 Xn Zh rfl hm2.h1 rfl) <| Yf (s := 18) rfl rfl hd4 rfl (Zl (r := 64) Yc rfl Jj Zh rfl rfl) <| Yf (s := 18) rfl rfl hd4 rfl (Jn 2 Xn Zh rfl hm2.h0 rfl) <| Yf (s := 18) rfl rfl hd4 rfl (D9 (l := oa) (m := oa) Xn V3 Yr eqGuardType23 rfl rfl ysF ysF) <| Qd (Wn rfl hd4 rfl) <| Zm (bl (oa != oa)) ?_
 have hd5 : (oa != oa) = false := by simp
 refine Yf (s := 25) rfl rfl hd5 rfl (Zl (r := 96) Yc rfl Jj ti4 rfl rfl) <| Yf (s := 25) rfl rfl hd5 rfl (Y2 3 uT4 rfl hm2.h1 rfl) <| Yf (s := 25) rfl rfl hd5 rfl (Zl (r := 96) Yc rfl Jj ti4 rfl rfl) <| Yf (s := 25) rfl rfl hd5 rfl (Y2 3 uT4 rfl hm2.h0 rfl) <| Yf (s := 25) rfl rfl hd5 rfl (Qig uT4 rfl rfl) <| Qd (Wn rfl hd5 rfl) <| Zm (bl (sb != sb)) ?_
 have hd6 : (sb != sb) = false := by simp
 refine Yf (s := 32) rfl rfl hd6 rfl (Zl (r := 97) Yc rfl Jj ti4 rfl rfl) <| Yf (s := 32) rfl rfl hd6 rfl (Y2 4 uT4 rfl hm2.h1 rfl) <| Yf (s := 32) rfl rfl hd6 rfl (Zl (r := 97) Yc rfl Jj ti4 rfl rfl) <| Yf (s := 32) rfl rfl hd6 rfl (Y2 4 uT4 rfl hm2.h0 rfl) <| Yf (s := 32) rfl rfl hd6 rfl (Qig uT4 rfl rfl) <| Qd (Wn rfl hd6 rfl) <| Zm (bl (tb != tb)) ?_
 have hd7 : (tb != tb) = false := by simp
 refine Yf (s := 39) rfl rfl hd7 rfl (Zl (r := 98) Yc rfl Jj Zh rfl rfl) <| Yf (s := 39) rfl rfl hd7 rfl (Jn 5 Xn Zh rfl hm2.h1 rfl) <| Yf (s := 39) rfl rfl hd7 rfl (Zl (r := 98) Yc rfl Jj Zh rfl rfl) <| Yf (s := 39) rfl rfl hd7 rfl (Jn 5 Xn Zh rfl hm2.h0 rfl) <| Yf (s := 39) rfl rfl hd7 rfl (D9 (l := sa) (m := sa) Xn V3 Yr eqGuardType23 rfl rfl ysF ysF) <| Qd (Wn rfl hd7 rfl) <| Zm (bl (sa != sa)) ?_
 have hd8 : (sa != sa) = false := by simp
 refine Yf (s := 46) rfl rfl hd8 rfl (Zl (r := 130) Yc rfl Jj Zh rfl rfl) <| Yf (s := 46) rfl rfl hd8 rfl (Jn 6 Xn Zh rfl hm2.h1 rfl) <| Yf (s := 46) rfl rfl hd8 rfl (Zl (r := 130) Yc rfl Jj Zh rfl rfl) <| Yf (s := 46) rfl rfl hd8 rfl (Jn 6 Xn Zh rfl hm2.h0 rfl) <| Yf (s := 46) rfl rfl hd8 rfl (D9 (l := ta) (m := ta) Xn V3 Yr eqGuardType23 rfl rfl ysF ysF) <| Qd (Wn rfl hd8 rfl) <| Zm (bl (ta != ta)) ?_
 have hd9 : (ta != ta) = false := by simp
 refine Yf (s := 53) rfl rfl hd9 rfl (Zl (r := 162) Yc rfl Jj Uw rfl rfl) <| Yf (s := 53) rfl rfl hd9 rfl (Y2 7 Fa rfl hm2.h1 rfl) <| Yf (s := 53) rfl rfl hd9 rfl (Zl (r := 162) Yc rfl Jj Uw rfl rfl) <| Yf (s := 53) rfl rfl hd9 rfl (Y2 7 Fa rfl hm2.h0 rfl) <| Yf (s := 53) rfl rfl hd9 rfl (Kz rfl rfl) <| Qd (Wn rfl hd9 rfl) <| Zm (bl (n1 != n1)) ?_
 have hd10 : (n1 != n1) = false := by simp
 refine Yf (s := 60) rfl rfl hd10 rfl (Zl (r := 163) Yc rfl Jj Uw rfl rfl) <| Yf (s := 60) rfl rfl hd10 rfl (Y2 8 Fa rfl hm2.h1 rfl) <| Yf (s := 60) rfl rfl hd10 rfl (Zl (r := 163) Yc rfl Jj Uw rfl rfl) <| Yf (s := 60) rfl rfl hd10 rfl (Y2 8 Fa rfl hm2.h0 rfl) <| Yf (s := 60) rfl rfl hd10 rfl (Kz rfl rfl) <| Qd (Wn rfl hd10 rfl) <| Zm (bl (n2 != n2)) ?_
 have hd11 : (n2 != n2) = false := by simp
 refine Yf (s := 67) rfl rfl hd11 rfl (Zl (r := 164) Yc rfl Jj Uw rfl rfl) <| Yf (s := 67) rfl rfl hd11 rfl (Y2 9 Fa rfl hm2.h1 rfl) <| Yf (s := 67) rfl rfl hd11 rfl (Zl (r := 164) Yc rfl Jj Uw rfl rfl) <| Yf (s := 67) rfl rfl hd11 rfl (Y2 9 Fa rfl hm2.h0 rfl) <| Yf (s := 67) rfl rfl hd11 rfl (Kz rfl rfl) <| Qd (Wn rfl hd11 rfl) <| Zm (bl (n3 != n3)) ?_
 have hd12 : (n3 != n3) = false := by simp
 refine Yf (s := 74) rfl rfl hd12 rfl (Zl (r := 165) Yc rfl Jj Ar rfl rfl) <| Yf (s := 74) rfl rfl hd12 rfl (Y2 10 Gi rfl hm2.h1 rfl) <| Yf (s := 74) rfl rfl hd12 rfl (Bh (af hk hm2) Gi rfl) <| Yf (s := 74) rfl rfl hd12 rfl (Zl (r := 165) Yc rfl Jj Ar rfl rfl) <| Yf (s := 74) rfl rfl hd12 rfl (Y2 10 Gi rfl hm2.h0 rfl) <| Yf (s := 74) rfl rfl hd12 rfl (Bh (af hq hm2) Gi rfl) <| Yf (s := 74) rfl rfl hd12 rfl (Kz rfl rfl) <| Qd (Wn rfl hd12 rfl) <| rN ?_
 have hd13 : ((ks.length : Int) != (ks.length : Int)) = false := by simp
 refine Ja rfl hd13 ?_
 refine Qo (Qc (Qa (sR ?_)))
 refine Zx (i64 0) ?_
 refine rN (Qh ?_)
 refine Y1 (fun g wv => ∃ (i : Nat), (i ≤ ks.length) ∧ g 0 = (aO (Qy (sE ra wa oa sb tb sa ta n1 n2 n3 vk))) ∧ g 1 = (aO (Qy (sE ra wa oa sb tb sa ta n1 n2 n3 vq))) ∧ g 2 = (ptr b2 0) ∧ g 3 = (ptr b3 0) ∧ g 5 = (i64 (i : Int)) ∧ g 82 = (bl ((ks.length : Int) != (ks.length : Int))) ∧ Mem wv (Qs w0) [(b3, .cells (Qy (sE ra wa oa sb tb sa ta n1 n2 n3 vq)) 26 (0, 0)), (b2, .cells (Qy (sE ra wa oa sb tb sa ta n1 n2 n3 vk)) 26 (0, 0))]) (fun g wv => ((ks.length : Int) - RowKit.intOf (g 5)).toNat) ?_ ?_
 ·exact ⟨0, oM, rfl, rfl, rfl, rfl, rfl, rfl, hm2⟩
 rintro fr14 w15 ⟨i, hi, s0, s1, s2, s3, s5, s82, hm15⟩
 have z5 := s5
 refine Qa (sR ?_)
 refine X9 s5 <| Qd (Zl (r := 165) Yc rfl Jj Ar rfl s2) <| Qd (Y2 10 Gi rfl hm15.h1 rfl) <| Qd (Bh (af hk hm15) Gi rfl) <| Qd (Xd rfl rfl) <| rN ?_
 refine Zz rfl (fun hc16 => ?_) (fun hc16 => ?_)
 ·
  have hc16p := of_decide_eq_true hc16
  refine Qo (Qc (Qa (Qh (Qa ?_))))
  refine Xi (dl 10) 10 Xv <| X4 rfl (Zl (r := 165) Yc rfl Jj Ar rfl s2) <| Yj rfl (fun _ e' => Y2 10 Gi rfl (hm15.ext e').h1 rfl) <| Uh rfl s5 <| Yj rfl (fun _ e' => Y4 (i := (i : Int)) (af hk (hm15.ext e')) Gi Ac rfl rfl oM sL) <| Yj (v := (aO (Qy (sK ((ks.getD i Dz).c) ((ks.getD i Dz).n) ((ks.getD i Dz).k))))) rfl (fun _ e' => Ah (i := (i : Int)) (dflt := Dz) (cs := (Qy (sK ((ks.getD i Dz).c) ((ks.getD i Dz).n) ((ks.getD i Dz).k)))) (af hk (hm15.ext e')) sL Qez rfl Ac rfl rfl Yx (kp_a (ks.getD i Dz))) <| X4 rfl (Zl (r := 165) Yc rfl Jj Ar rfl s3) <| Yj rfl (fun _ e' => Y2 10 Gi rfl (hm15.ext e').h0 rfl) <| Uh rfl s5 <| Yj rfl (fun _ e' => Y4 (i := (i : Int)) (af hq (hm15.ext e')) Gi Ac rfl rfl oM sL) <| Yj (v := (aO (Qy (sK ((ks.getD i Dz).c) ((ks.getD i Dz).n) ((ks.getD i Dz).k))))) rfl (fun _ e' => Ah (i := (i : Int)) (dflt := Dz) (cs := (Qy (sK ((ks.getD i Dz).c) ((ks.getD i Dz).n) ((ks.getD i Dz).k)))) (af hq (hm15.ext e')) sL Qez rfl Ac rfl rfl Yx (kp_a (ks.getD i Dz))) <| Gf hm15 fun w17 hm17 => Qd (Quh (l1 := (ks.getD i Dz).c) (l2 := (ks.getD i Dz).n) (l3 := (ks.getD i Dz).k) (m1 := (ks.getD i Dz).c) (m2 := (ks.getD i Dz).n) (m3 := (ks.getD i Dz).k) Qez Xv Yx Yx Yx rfl rfl rfl rfl rfl rfl Xn Zh V3 Yr Fa eqGuardType69 rfl rfl (by first | rfl | exact Kp.hc _ | exact Kp.hk _ | first | omega | (simp only [cu, ag, List.length_replicate, bH, au, List.length_nil]; omega) | (simp; done) | (simp; omega) | decide) (by first | rfl | exact Kp.hc _ | exact Kp.hk _ | first | omega | (simp only [cu, ag, List.length_replicate, bH, au, List.length_nil]; omega) | (simp; done) | (simp; omega) | decide) (by first | rfl | exact Kp.hc _ | exact Kp.hk _ | first | omega | (simp only [cu, ag, List.length_replicate, bH, au, List.length_nil]; omega) | (simp; done) | (simp; omega) | decide) (by first | rfl | exact Kp.hc _ | exact Kp.hk _ | first | omega | (simp only [cu, ag, List.length_replicate, bH, au, List.length_nil]; omega) | (simp; done) | (simp; omega) | decide)) <| rN ?_
  have hd18 : (((ks.getD i Dz).c) == ((ks.getD i Dz).c) && (((ks.getD i Dz).n) == ((ks.getD i Dz).n) && (((ks.getD i Dz).k) == ((ks.getD i Dz).k) && true))) = true := by simp
  have hd19 : (!(((ks.getD i Dz).c) == ((ks.getD i Dz).c) && (((ks.getD i Dz).n) == ((ks.getD i Dz).n) && (((ks.getD i Dz).k) == ((ks.getD i Dz).k) && true)))) = false := congrArg Bool.not hd18
  refine Ja rfl hd19 ?_
  refine Qo (Qe (Qb ?_))
  refine X9 s5 <| Qd (Zg (b := 1) rfl rfl oM oM) <| Zx (i64 ((i : Int) + 1)) <| rN ?_
  exact ⟨⟨(i + 1), oM, s0, s1, s2, s3, rfl, s82, hm17⟩, Uj rfl z5 oM oM⟩
 ·
  have hc16p := of_decide_eq_false hc16
  refine X3 ?_
  refine Qj (Qj (Xk ?_))
  refine sR <| Zx (bl true) ?_
  refine rN (Z8 ?_)
  refine Qq [(bl true)] ⟨rfl, trivial⟩ ?_
  exact ⟨rfl, hm15.toExt⟩
theorem Qrr (S : Sn) (vk : Value) (vb : Value) (lb : Z4) (vp : Value) (lp : Z4) (w0 : World) (hT : Tabs (Jd w0)) (hk : RdK (Jd w0) Jl 65 vk S.ks) (hkl : S.ks.length ≤ 1048576) (hrb : Rd (Jd w0) u8 vb lb) (hlb : lb.length ≤ 90000) (hrp : Rd (Jd w0) u8 vp lp) (hlp : lp.length ≤ 90000) (hn1 : 0 ≤ S.n1 ∧ S.n1 ≤ 2147483647) (hn3 : 0 ≤ S.n3 ∧ S.n3 ≤ 2147483647) : Xz prog 12 #[(aO (Qy (sS S vk))), vb, vp] w0 (fun r w1 => ∃ vq Hq vc Hc, r = Value.tuple #[(aO (Qy (sS (Qgq S) (if Lt S = 0 then vq else vk)))), vc, i64 (Lt S)] ∧ Yu Jl 65 69 vq (encK S) Hq ∧ Z9 u8 5 vc (Qb1 S lb lp) Hc ∧ Mem w1 (Qs w0) (Hq ++ Hc)) := by
 cases hsb : S.sb with
 | false =>
  refine (Qrs S.r S.w S.o S.sb S.tb S.s S.t S.n1 S.n2 S.n3 vk S.ks vb lb vp lp w0 S.l5 hk hkl hrb hlb hrp hlp hn1 hn3 hsb).mono ?_
  rintro r w1 ⟨rfl, he⟩
  have h0 := Qq9 hsb
  have hz : Lt S ≠ 0 := by rw [h0]; decide
  obtain ⟨h1, h2, h3⟩ := Qq6 (b := lb) (p := lp) hz
  rw [h1, h2, h3]
  exact ⟨bK none 0 0, [], bK none 0 0, [], by rw [if_neg hz, h0], Yu.none Jl 65 69, Z9.none u8 5, by simpa using (Mem.of_world w0).ext he⟩
 | true =>
  by_cases hmx : S.n1 = 2147483647
  ·refine (Qrt S.r S.w S.o S.sb S.tb S.s S.t S.n1 S.n2 S.n3 vk S.ks vb lb vp lp w0 S.l5 hk hkl hrb hlb hrp hlp hn1 hn3 hsb hmx).mono ?_
   rintro r w1 ⟨rfl, he⟩
   have h0 := enc_12 hsb hmx
   have hz : Lt S ≠ 0 := by rw [h0]; decide
   obtain ⟨h1, h2, h3⟩ := Qq6 (b := lb) (p := lp) hz
   rw [h1, h2, h3]
   exact ⟨bK none 0 0, [], bK none 0 0, [], by rw [if_neg hz, h0], Yu.none Jl 65 69, Z9.none u8 5, by simpa using (Mem.of_world w0).ext he⟩
  refine (c_enc19 S.r S.w S.o S.sb S.tb S.s S.t S.n1 S.n2 S.n3 vk S.ks vb lb vp lp w0 hT S.l5 hk hkl hrb hlb hrp hlp hn1 hn3 hsb oM).mono ?_
  rintro r w1 ⟨v2, H2, vc, Hc, rfl, g2, gc, hm⟩
  have h0 := Qno hsb hmx
  obtain ⟨h1, h2, h3⟩ := Qpk (b := lb) (p := lp) h0
  rw [h1, h2, h3]
  exact ⟨v2, H2, vc, Hc, by rw [if_pos h0, h0]; rfl, g2, gc, hm⟩
theorem Qps (ro ow pu ot : Z4) (w0 : World) (hT : Tabs (Jd w0)) (hro : ro.length = 32) (how : ow.length = 32) (hpu : pu.length = 32) (hot : ot.length = 32) : Xz prog 16 #[agg u8 ro, (aO (Qy [ow.map u8, pu.map u8])), agg u8 ot] w0 (fun r w1 => r = (aO (Qy (sS (Ea ro ow ot) J3))) ∧ Ext w0 w1) := by
 rw [first_eq how hot]; exact Qut ro ow pu ot w0 hT hro how hpu hot
theorem Qma (ro ow pu : Z4) (w0 : World) (hro : ro.length = 32) (how : ow.length = 32) (hpu : pu.length = 32) : Xz prog 18 #[agg u8 ro, (aO (Qy [ow.map u8, pu.map u8]))] w0 (fun r w1 => r = (aO (Qy (sS (Xo ro ow) J3))) ∧ Ext w0 w1) := by
 rw [Qtj hro how]; exact Qrl ro ow pu w0 hro how hpu
theorem c_sameSS (S T : Sn) (vk vq : Value) (w0 : World) (hk : RdK (Jd w0) Jl 65 vk S.ks) (hq : RdK (Jd w0) Jl 65 vq T.ks) (hn : S.ks.length ≤ 1048576) (hst : T = S) : Xz prog 14 #[(aO (Qy (sS S vk))), (aO (Qy (sS T vq)))] w0 (fun r w1 => r = bl true ∧ Ext w0 w1) := by
 subst hst; exact c_sameS T.r T.w T.o T.sb T.tb T.s T.t T.n1 T.n2 T.n3 vk T.ks vq w0 T.l5 hk hn hq
end Go.Proofs.YtkmiemlpfkfiiaaDoor
