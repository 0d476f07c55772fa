/- The ratchet: contracts over sessions as records. Conditions: none beyond those that each theorem states. -/
import Derived.Test.YtkmiemlpfkfiiaaDoorRb8
namespace Go.Proofs.YtkmiemlpfkfiiaaDoor
set_option linter.unusedVariables false
set_option linter.unusedSimpArgs false
def encK (S : Sn) : List Kp := if Ja S = 0 then S.ks else []
theorem Qlw {S : Sn} (h : S.sb = false) : Ja S = 13 := by unfold Ja; rw [h]; rfl
theorem enc_12 {S : Sn} (h : S.sb = true) (h1 : S.n1 = 2147483647) : Ja S = 12 := by unfold Ja; rw [h, if_pos rfl, if_pos h1]
theorem Qlx {S : Sn} (h : S.sb = true) (h1 : S.n1 ≠ 2147483647) : Ja S = 0 := by unfold Ja; rw [h, if_pos rfl, if_neg h1]
theorem Qgj {S : Sn} {b p : List (BitVec 8)} (h : Ja S ≠ 0) : Gf S = S ∧ Rh S b p = [] ∧ encK S = [] := ⟨by unfold Gf; rw [if_neg h], by unfold Rh; rw [if_neg h], by unfold encK; rw [if_neg h]⟩
theorem enc_z {S : Sn} {b p : List (BitVec 8)} (h : Ja S = 0) : Gf S = S.one ∧ Rh S b p = Bi S.w S.s S.n3 S.n1 b p ∧ encK S = S.ks := ⟨by unfold Gf; rw [if_pos h], by unfold Rh; rw [if_pos h], by unfold encK; rw [if_pos h]⟩
theorem Ur {S : Sn} (h : Ja S = 0) : encK S = (Gf S).ks := by rw [(enc_z (b := []) (p := []) h).2.2, Qdk]
theorem Us {S : Sn} (h : Ja S ≠ 0) : S.ks = (Gf S).ks := (Qdk S).symm
theorem encC_le {S : Sn} {b p : List (BitVec 8)} : (Rh S b p).length ≤ p.length + 72 := by
 unfold Rh; split
 ·unfold Bi; rw [List.length_append, Qbj (Ez _ _), A8]; omega
 exact Nat.zero_le _
theorem Qka {ro ow ot : List (BitVec 8)} {v : Value} (how : ow.length = 32) (hot : ot.length = 32) : sS (Eb ro ow ot) v = sE (Gi ro (Y9 ow ot)) ow ot true false (G6 ro (Y9 ow ot)) (List.replicate 32 0) 0 0 0 v := by
 show sE _ (Hm ow) (Hm ot) _ _ _ _ _ _ _ _ = _; rw [Qc4 how, Qc4 hot]; rfl
theorem Qhh {ro ow : List (BitVec 8)} {v : Value} (hro : ro.length = 32) (how : ow.length = 32) : sS (V9 ro ow) v = sE ro ow (List.replicate 32 0) false false (List.replicate 32 0) (List.replicate 32 0) 0 0 0 v := by
 show sE (Hm ro) (Hm ow) _ _ _ _ _ _ _ _ _ = _; rw [Qc4 hro, Qc4 how]; rfl
attribute [local irreducible] Qak Aa Ut Gi G6 Bi Jc J4 Jm X7 G7 Vw Y9 V6 We Ea Hm
attribute [local irreducible] Ja Rh Gf encK Eb V9
set_option maxHeartbeats 2000000 in
theorem c_sameS (ra wa oa : List (BitVec 8)) (sb tb : Bool) (sa ta : List (BitVec 8)) (n1 n2 n3 : Int) (vk : Value) (ks : List Kp) (vq : Value) (w0 : World)  (hl : ra.length = 32 ∧ wa.length = 32 ∧ oa.length = 32 ∧ sa.length = 32 ∧ ta.length = 32) (hk : RdK (Yq w0) J9 65 vk ks) (hn : ks.length ≤ 1048576) (hq : RdK (Yq w0) J9 65 vq ks) : Xz Tryd.prog 14 #[(Value.agg (Zl (sE ra wa oa sb tb sa ta n1 n2 n3 vk))), (Value.agg (Zl (sE ra wa oa sb tb sa ta n1 n2 n3 vq)))] w0 (fun r w1 => r = (bl true) ∧ Ext w0 w1) := by
 refine Zd (args := [(Value.agg (Zl (sE ra wa oa sb tb sa ta n1 n2 n3 vk))), (Value.agg (Zl (sE ra wa oa sb tb sa ta n1 n2 n3 vq)))]) Tryd.func14 rfl Tryd.ntmps14 Tryd.results14 rfl ?_
 have hm0 : Mem w0 (Qy w0) [] := Mem.of_world w0
 obtain ⟨hl1, hl2, hl3, hl4, hl5⟩ := hl
 refine sR <| Za rfl (Gx (cs := (Zl (sE ra wa oa sb tb sa ta n1 n2 n3 vk))) hm0 rfl) ?_
 rintro _ w1 ⟨b2, rfl, e1, hm1⟩
 refine Za rfl (Gx (cs := (Zl (sE ra wa oa sb tb sa ta n1 n2 n3 vq))) hm1 rfl) ?_
 rintro _ w2 ⟨b3, rfl, e2, hm2⟩
 refine Qa rfl (Qc (v := (bl false)) rfl) ?_
 refine rN (Qg (sR ?_))
 refine Qa rfl (Xi (r := 0) Yu rfl (by first | rfl | omega) Z9 rfl rfl) <| Qa rfl (Vk 0 X3 Z9 rfl hm2.h1 rfl) <| Qa rfl (Xi (r := 0) Yu rfl (by first | rfl | omega) Z9 rfl rfl) <| Qa rfl (Vk 0 X3 Z9 rfl hm2.h0 rfl) <| Qa rfl (Gy (l := ra) (m := ra) X3 Vm X6 Tryd.eqGuardType23 rfl rfl (by first | rfl | first | omega | (simp only [List.length_set, List.length_append, List.length_replicate, List.length_map, List.length_cons, List.length_nil]; omega) | (simp; done) | (simp; omega) | decide) (by first | rfl | first | omega | (simp only [List.length_set, List.length_append, List.length_replicate, List.length_map, List.length_cons, List.length_nil]; omega) | (simp; done) | (simp; omega) | decide)) <| Qa rfl (Qb (v := (bl (ra != ra))) rfl) ?_
 have hd3 : (ra != ra) = false := by simp
 refine Zt (s := 11) rfl rfl hd3 rfl (Xi (r := 32) Yu rfl (by first | rfl | omega) Z9 rfl rfl) <| Zt (s := 11) rfl rfl hd3 rfl (Vk 1 X3 Z9 rfl hm2.h1 rfl) <| Zt (s := 11) rfl rfl hd3 rfl (Xi (r := 32) Yu rfl (by first | rfl | omega) Z9 rfl rfl) <| Zt (s := 11) rfl rfl hd3 rfl (Vk 1 X3 Z9 rfl hm2.h0 rfl) <| Zt (s := 11) rfl rfl hd3 rfl (Gy (l := wa) (m := wa) X3 Vm X6 Tryd.eqGuardType23 rfl rfl (by first | rfl | first | omega | (simp only [List.length_set, List.length_append, List.length_replicate, List.length_map, List.length_cons, List.length_nil]; omega) | (simp; done) | (simp; omega) | decide) (by first | rfl | first | omega | (simp only [List.length_set, List.length_append, List.length_replicate, List.length_map, List.length_cons, List.length_nil]; omega) | (simp; done) | (simp; omega) | decide)) <| Qa rfl (Yn rfl hd3 rfl) <| Qa rfl (Qb (v := (bl (wa != wa))) rfl) ?_
 have hd4 : (wa != wa) = false := by simp
 refine Zt (s := 18) rfl rfl hd4 rfl (Xi (r := 64) Yu rfl (by first | rfl | omega) Z9 rfl rfl) <| Zt (s := 18) rfl rfl hd4 rfl (Vk 2 X3 Z9 rfl hm2.h1 rfl) <| Zt (s := 18) rfl rfl hd4 rfl (Xi (r := 64) Yu rfl (by first | rfl | omega) Z9 rfl rfl) <| Zt (s := 18) rfl rfl hd4 rfl (Vk 2 X3 Z9 rfl hm2.h0 rfl) <| Zt (s := 18) rfl rfl hd4 rfl (Gy (l := oa) (m := oa) X3 Vm X6 Tryd.eqGuardType23 rfl rfl (by first | rfl | first | omega | (simp only [List.length_set, List.length_append, List.length_replicate, List.length_map, List.length_cons, List.length_nil]; omega) | (simp; done) | (simp; omega) | decide) (by first | rfl | first | omega | (simp only [List.length_set, List.length_append, List.length_replicate, List.length_map, List.length_cons, List.length_nil]; omega) | (simp; done) | (simp; omega) | decide)) <| Qa rfl (Yn rfl hd4 rfl) <| Qa rfl (Qb (v := (bl (oa != oa))) rfl) ?_
 have hd5 : (oa != oa) = false := by simp
 refine Zt (s := 25) rfl rfl hd5 rfl (Xi (r := 96) Yu rfl (by first | rfl | omega) ti4 rfl rfl) <| Zt (s := 25) rfl rfl hd5 rfl (Y7 3 uT4 rfl hm2.h1 rfl) <| Zt (s := 25) rfl rfl hd5 rfl (Xi (r := 96) Yu rfl (by first | rfl | omega) ti4 rfl rfl) <| Zt (s := 25) rfl rfl hd5 rfl (Y7 3 uT4 rfl hm2.h0 rfl) <| Zt (s := 25) rfl rfl hd5 rfl (Qes uT4 rfl rfl) <| Qa rfl (Yn rfl hd5 rfl) <| Qa rfl (Qb (v := (bl (sb != sb))) rfl) ?_
 have hd6 : (sb != sb) = false := by simp
 refine Zt (s := 32) rfl rfl hd6 rfl (Xi (r := 97) Yu rfl (by first | rfl | omega) ti4 rfl rfl) <| Zt (s := 32) rfl rfl hd6 rfl (Y7 4 uT4 rfl hm2.h1 rfl) <| Zt (s := 32) rfl rfl hd6 rfl (Xi (r := 97) Yu rfl (by first | rfl | omega) ti4 rfl rfl) <| Zt (s := 32) rfl rfl hd6 rfl (Y7 4 uT4 rfl hm2.h0 rfl) <| Zt (s := 32) rfl rfl hd6 rfl (Qes uT4 rfl rfl) <| Qa rfl (Yn rfl hd6 rfl) <| Qa rfl (Qb (v := (bl (tb != tb))) rfl) ?_
 have hd7 : (tb != tb) = false := by simp
 refine Zt (s := 39) rfl rfl hd7 rfl (Xi (r := 98) Yu rfl (by first | rfl | omega) Z9 rfl rfl) <| Zt (s := 39) rfl rfl hd7 rfl (Vk 5 X3 Z9 rfl hm2.h1 rfl) <| Zt (s := 39) rfl rfl hd7 rfl (Xi (r := 98) Yu rfl (by first | rfl | omega) Z9 rfl rfl) <| Zt (s := 39) rfl rfl hd7 rfl (Vk 5 X3 Z9 rfl hm2.h0 rfl) <| Zt (s := 39) rfl rfl hd7 rfl (Gy (l := sa) (m := sa) X3 Vm X6 Tryd.eqGuardType23 rfl rfl (by first | rfl | first | omega | (simp only [List.length_set, List.length_append, List.length_replicate, List.length_map, List.length_cons, List.length_nil]; omega) | (simp; done) | (simp; omega) | decide) (by first | rfl | first | omega | (simp only [List.length_set, List.length_append, List.length_replicate, List.length_map, List.length_cons, List.length_nil]; omega) | (simp; done) | (simp; omega) | decide)) <| Qa rfl (Yn rfl hd7 rfl) <| Qa rfl (Qb (v := (bl (sa != sa))) rfl) ?_
 have hd8 : (sa != sa) = false := by simp
 refine Zt (s := 46) rfl rfl hd8 rfl (Xi (r := 130) Yu rfl (by first | rfl | omega) Z9 rfl rfl) <| Zt (s := 46) rfl rfl hd8 rfl (Vk 6 X3 Z9 rfl hm2.h1 rfl) <| Zt (s := 46) rfl rfl hd8 rfl (Xi (r := 130) Yu rfl (by first | rfl | omega) Z9 rfl rfl) <| Zt (s := 46) rfl rfl hd8 rfl (Vk 6 X3 Z9 rfl hm2.h0 rfl) <| Zt (s := 46) rfl rfl hd8 rfl (Gy (l := ta) (m := ta) X3 Vm X6 Tryd.eqGuardType23 rfl rfl (by first | rfl | first | omega | (simp only [List.length_set, List.length_append, List.length_replicate, List.length_map, List.length_cons, List.length_nil]; omega) | (simp; done) | (simp; omega) | decide) (by first | rfl | first | omega | (simp only [List.length_set, List.length_append, List.length_replicate, List.length_map, List.length_cons, List.length_nil]; omega) | (simp; done) | (simp; omega) | decide)) <| Qa rfl (Yn rfl hd8 rfl) <| Qa rfl (Qb (v := (bl (ta != ta))) rfl) ?_
 have hd9 : (ta != ta) = false := by simp
 refine Zt (s := 53) rfl rfl hd9 rfl (Xi (r := 162) Yu rfl (by first | rfl | omega) Dy rfl rfl) <| Zt (s := 53) rfl rfl hd9 rfl (Y7 7 Fj rfl hm2.h1 rfl) <| Zt (s := 53) rfl rfl hd9 rfl (Xi (r := 162) Yu rfl (by first | rfl | omega) Dy rfl rfl) <| Zt (s := 53) rfl rfl hd9 rfl (Y7 7 Fj rfl hm2.h0 rfl) <| Zt (s := 53) rfl rfl hd9 rfl (Gu rfl rfl) <| Qa rfl (Yn rfl hd9 rfl) <| Qa rfl (Qb (v := (bl (n1 != n1))) rfl) ?_
 have hd10 : (n1 != n1) = false := by simp
 refine Zt (s := 60) rfl rfl hd10 rfl (Xi (r := 163) Yu rfl (by first | rfl | omega) Dy rfl rfl) <| Zt (s := 60) rfl rfl hd10 rfl (Y7 8 Fj rfl hm2.h1 rfl) <| Zt (s := 60) rfl rfl hd10 rfl (Xi (r := 163) Yu rfl (by first | rfl | omega) Dy rfl rfl) <| Zt (s := 60) rfl rfl hd10 rfl (Y7 8 Fj rfl hm2.h0 rfl) <| Zt (s := 60) rfl rfl hd10 rfl (Gu rfl rfl) <| Qa rfl (Yn rfl hd10 rfl) <| Qa rfl (Qb (v := (bl (n2 != n2))) rfl) ?_
 have hd11 : (n2 != n2) = false := by simp
 refine Zt (s := 67) rfl rfl hd11 rfl (Xi (r := 164) Yu rfl (by first | rfl | omega) Dy rfl rfl) <| Zt (s := 67) rfl rfl hd11 rfl (Y7 9 Fj rfl hm2.h1 rfl) <| Zt (s := 67) rfl rfl hd11 rfl (Xi (r := 164) Yu rfl (by first | rfl | omega) Dy rfl rfl) <| Zt (s := 67) rfl rfl hd11 rfl (Y7 9 Fj rfl hm2.h0 rfl) <| Zt (s := 67) rfl rfl hd11 rfl (Gu rfl rfl) <| Qa rfl (Yn rfl hd11 rfl) <| Qa rfl (Qb (v := (bl (n3 != n3))) rfl) ?_
 have hd12 : (n3 != n3) = false := by simp
 refine Zt (s := 74) rfl rfl hd12 rfl (Xi (r := 165) Yu rfl (by first | rfl | omega) Qbu rfl rfl) <| Zt (s := 74) rfl rfl hd12 rfl (Y7 10 Dl rfl hm2.h1 rfl) <| Zt (s := 74) rfl rfl hd12 rfl (L8 (RdK.ofRest hk hm2) Dl rfl) <| Zt (s := 74) rfl rfl hd12 rfl (Xi (r := 165) Yu rfl (by first | rfl | omega) Qbu rfl rfl) <| Zt (s := 74) rfl rfl hd12 rfl (Y7 10 Dl rfl hm2.h0 rfl) <| Zt (s := 74) rfl rfl hd12 rfl (L8 (RdK.ofRest hq hm2) Dl rfl) <| Zt (s := 74) rfl rfl hd12 rfl (Gu rfl rfl) <| Qa rfl (Yn rfl hd12 rfl) <| rN ?_
 have hd13 : ((ks.length : Int) != (ks.length : Int)) = false := by simp
 refine Yp rfl hd13 ?_
 refine Q7 (Qh (Qg (sR ?_)))
 refine Qa rfl (Qc (v := (i64 0)) rfl) ?_
 refine rN (Qo ?_)
 refine Yo (fun g wv => ∃ (i : Nat), (i ≤ ks.length) ∧ g 0 = (Value.agg (Zl (sE ra wa oa sb tb sa ta n1 n2 n3 vk))) ∧ g 1 = (Value.agg (Zl (sE ra wa oa sb tb sa ta n1 n2 n3 vq))) ∧ g 2 = (ptr b2 0) ∧ g 3 = (ptr b3 0) ∧ g 5 = (i64 (i : Int)) ∧ g 82 = (bl ((ks.length : Int) != (ks.length : Int))) ∧ Mem wv (Qy w0) [(b3, .cells (Zl (sE ra wa oa sb tb sa ta n1 n2 n3 vq)) 26 (0, 0)), (b2, .cells (Zl (sE ra wa oa sb tb sa ta n1 n2 n3 vk)) 26 (0, 0))]) (fun g wv => ((ks.length : Int) - RowKit.intOf (g 5)).toNat) ?_ ?_
 ·exact ⟨0, oM, rfl, rfl, rfl, rfl, rfl, rfl, hm2⟩
 rintro fr14 w15 ⟨i, hi, s0, s1, s2, s3, s5, s82, hm15⟩
 have z5 := s5
 refine Qg (sR ?_)
 refine rM rfl s5 <| Qa rfl (Xi (r := 165) Yu rfl (by first | rfl | omega) Qbu rfl s2) <| Qa rfl (Y7 10 Dl rfl hm15.h1 rfl) <| Qa rfl (L8 (RdK.ofRest hk hm15) Dl rfl) <| Qa rfl (Qs rfl rfl) <| rN ?_
 refine Xv rfl (fun hc16 => ?_) (fun hc16 => ?_)
 ·
  have hc16p := of_decide_eq_true hc16
  refine Q7 (Qh (Qg (Qo (Qg ?_))))
  refine Xq (dl 10) 10 (by kernel_rfl) <| Qj rfl rfl (fun _ _hx => Xi (r := 165) Yu rfl (by first | rfl | omega) Qbu rfl s2) <| Qj rfl rfl (fun _ _hx => Y7 10 Dl rfl (hm15.ext _hx).h1 rfl) <| dM rfl rfl s5 <| Qj rfl rfl (fun _ _hx => Ym (i := (i : Int)) (RdK.ofRest hk (hm15.ext _hx)) Dl Qfm rfl rfl oM sL) <| Qj (v := (Value.agg (Zl (sK ((ks.getD i F7).c) ((ks.getD i F7).n) ((ks.getD i F7).k))))) rfl rfl (fun _ _hx => Hz (i := (i : Int)) (dflt := F7) (cs := (Zl (sK ((ks.getD i F7).c) ((ks.getD i F7).n) ((ks.getD i F7).k)))) (RdK.ofRest hk (hm15.ext _hx)) sL uT69 rfl Qfm rfl rfl (by decide) (kp_a (ks.getD i F7))) <| Qj rfl rfl (fun _ _hx => Xi (r := 165) Yu rfl (by first | rfl | omega) Qbu rfl s3) <| Qj rfl rfl (fun _ _hx => Y7 10 Dl rfl (hm15.ext _hx).h0 rfl) <| dM rfl rfl s5 <| Qj rfl rfl (fun _ _hx => Ym (i := (i : Int)) (RdK.ofRest hq (hm15.ext _hx)) Dl Qfm rfl rfl oM sL) <| Qj (v := (Value.agg (Zl (sK ((ks.getD i F7).c) ((ks.getD i F7).n) ((ks.getD i F7).k))))) rfl rfl (fun _ _hx => Hz (i := (i : Int)) (dflt := F7) (cs := (Zl (sK ((ks.getD i F7).c) ((ks.getD i F7).n) ((ks.getD i F7).k)))) (RdK.ofRest hq (hm15.ext _hx)) sL uT69 rfl Qfm rfl rfl (by decide) (kp_a (ks.getD i F7))) ?_
  refine Xd (fun w17 e17 => ?_)
  have hm17 := hm15.ext e17
  refine Qa rfl (Qn9 (l1 := (ks.getD i F7).c) (l2 := (ks.getD i F7).n) (l3 := (ks.getD i F7).k) (m1 := (ks.getD i F7).c) (m2 := (ks.getD i F7).n) (m3 := (ks.getD i F7).k) uT69 (by kernel_rfl) (by decide) (by decide) (by decide) rfl rfl rfl rfl rfl rfl X3 Z9 Vm X6 Fj Tryd.eqGuardType69 rfl rfl (by first | rfl | exact Kp.hc _ | exact Kp.hk _ | first | omega | (simp only [List.length_set, List.length_append, List.length_replicate, List.length_map, List.length_cons, List.length_nil]; omega) | (simp; done) | (simp; omega) | decide) (by first | rfl | exact Kp.hc _ | exact Kp.hk _ | first | omega | (simp only [List.length_set, List.length_append, List.length_replicate, List.length_map, List.length_cons, List.length_nil]; omega) | (simp; done) | (simp; omega) | decide) (by first | rfl | exact Kp.hc _ | exact Kp.hk _ | first | omega | (simp only [List.length_set, List.length_append, List.length_replicate, List.length_map, List.length_cons, List.length_nil]; omega) | (simp; done) | (simp; omega) | decide) (by first | rfl | exact Kp.hc _ | exact Kp.hk _ | first | omega | (simp only [List.length_set, List.length_append, List.length_replicate, List.length_map, List.length_cons, List.length_nil]; omega) | (simp; done) | (simp; omega) | decide)) <| rN ?_
  have hd18 : (((ks.getD i F7).c) == ((ks.getD i F7).c) && (((ks.getD i F7).n) == ((ks.getD i F7).n) && (((ks.getD i F7).k) == ((ks.getD i F7).k) && true))) = true := by simp
  have hd19 : (!(((ks.getD i F7).c) == ((ks.getD i F7).c) && (((ks.getD i F7).n) == ((ks.getD i F7).n) && (((ks.getD i F7).k) == ((ks.getD i F7).k) && true)))) = false := congrArg Bool.not hd18
  refine Yp rfl hd19 ?_
  refine Q7 (Qi (Qe ?_))
  refine rM rfl s5 <| Qa rfl (Qk (b := 1) rfl rfl oM oM) <| Qa rfl (Qc (v := (i64 ((i : Int) + 1))) rfl) <| rN ?_
  exact ⟨⟨(i + 1), oM, s0, s1, s2, s3, rfl, s82, hm17⟩, Gl rfl z5 oM oM⟩
 ·
  have hc16p := of_decide_eq_false hc16
  refine X0 ?_
  refine Qr (Qr (Xf ?_))
  refine sR <| Qa rfl (Qc (v := (bl true)) rfl) ?_
  refine rN (Xt ?_)
  refine Ze [(bl true)] ⟨rfl, trivial⟩ ?_
  exact ⟨rfl, hm15.toExt⟩
theorem U7 (S : Sn) (vk : Value) (vb : Value) (lb : List (BitVec 8)) (vp : Value) (lp : List (BitVec 8)) (w0 : World) (hT : Tabs (Yq w0)) (hk : RdK (Yq w0) J9 65 vk S.ks) (hkl : S.ks.length ≤ 1048576) (hrb : Rd (Yq w0) u8 vb lb) (hlb : lb.length ≤ 90000) (hrp : Rd (Yq w0) u8 vp lp) (hlp : lp.length ≤ 90000) (hn1 : 0 ≤ S.n1 ∧ S.n1 ≤ 2147483647) (hn3 : 0 ≤ S.n3 ∧ S.n3 ≤ 2147483647) : Xz Tryd.prog 12 #[(Value.agg (Zl (sS S vk))), vb, vp] w0 (fun r w1 => ∃ vq Hq vc Hc, r = Value.tuple #[(Value.agg (Zl (sS (Gf S) (if Ja S = 0 then vq else vk)))), vc, i64 (Ja S)] ∧ J6 J9 65 69 vq (encK S) Hq ∧ Zv u8 5 vc (Rh S lb lp) Hc ∧ Mem w1 (Qy w0) (Hq ++ Hc)) := by
 cases hsb : S.sb with
 | false =>
  refine (Qmc S.r S.w S.o S.sb S.tb S.s S.t S.n1 S.n2 S.n3 vk S.ks vb lb vp lp w0 S.l5 hk hkl hrb hlb hrp hlp hn1 hn3 hsb).mono ?_
  rintro r w1 ⟨rfl, he⟩
  have h0 := Qlw hsb
  have hz : Ja S ≠ 0 := by rw [h0]; decide
  obtain ⟨h1, h2, h3⟩ := Qgj (b := lb) (p := lp) hz
  rw [h1, h2, h3]
  exact ⟨Value.slice none 0 0, [], Value.slice none 0 0, [], by rw [if_neg hz, h0], J6.none J9 65 69, Zv.none u8 5, by simpa using (Mem.of_world w0).ext he⟩
 | true =>
  by_cases hmx : S.n1 = 2147483647
  ·refine (Qmd S.r S.w S.o S.sb S.tb S.s S.t S.n1 S.n2 S.n3 vk S.ks vb lb vp lp w0 S.l5 hk hkl hrb hlb hrp hlp hn1 hn3 hsb hmx).mono ?_
   rintro r w1 ⟨rfl, he⟩
   have h0 := enc_12 hsb hmx
   have hz : Ja S ≠ 0 := by rw [h0]; decide
   obtain ⟨h1, h2, h3⟩ := Qgj (b := lb) (p := lp) hz
   rw [h1, h2, h3]
   exact ⟨Value.slice none 0 0, [], Value.slice none 0 0, [], by rw [if_neg hz, h0], J6.none J9 65 69, Zv.none u8 5, by simpa using (Mem.of_world w0).ext he⟩
  refine (c_enc19 S.r S.w S.o S.sb S.tb S.s S.t S.n1 S.n2 S.n3 vk S.ks vb lb vp lp w0 hT S.l5 hk hkl hrb hlb hrp hlp hn1 hn3 hsb oM).mono ?_
  rintro r w1 ⟨v2, H2, vc, Hc, rfl, g2, gc, hm⟩
  have h0 := Qlx hsb hmx
  obtain ⟨h1, h2, h3⟩ := enc_z (b := lb) (p := lp) h0
  rw [h1, h2, h3]
  exact ⟨v2, H2, vc, Hc, by rw [if_pos h0, h0]; rfl, g2, gc, hm⟩
theorem c_rencS (S : Sn) (vk : Value) (vb : Value) (lb : List (BitVec 8)) (vp : Value) (lp : List (BitVec 8)) (w0 : World) (hk : RdK (Yq w0) J9 65 vk S.ks) (hkl : S.ks.length ≤ 1048576) (hrb : Rd (Yq w0) u8 vb lb) (hlb : lb.length ≤ 90000) (hrp : Rd (Yq w0) u8 vp lp) (hlp : lp.length ≤ 90000) (hn1 : 0 ≤ S.n1 ∧ S.n1 ≤ 2147483647) (hn3 : 0 ≤ S.n3 ∧ S.n3 ≤ 2147483647) : Xz Tryd.prog 13 #[(Value.agg (Zl (sS S vk))), vb, vp] w0 (fun r w1 => ∃ vc Hc, r = Value.tuple #[(Value.agg (Zl (sS (Gf S) vk))), vc, i64 (Ja S)] ∧ Zv u8 5 vc (Rh S lb lp) Hc ∧ Mem w1 (Qy w0) Hc) := by
 cases hsb : S.sb with
 | false =>
  refine (Qkn S.r S.w S.o S.sb S.tb S.s S.t S.n1 S.n2 S.n3 vk S.ks vb lb vp lp w0 S.l5 hk hkl hrb hlb hrp hlp hn1 hn3 hsb).mono ?_
  rintro r w1 ⟨rfl, he⟩
  have h0 := Qlw hsb
  have hz : Ja S ≠ 0 := by rw [h0]; decide
  obtain ⟨h1, h2, h3⟩ := Qgj (b := lb) (p := lp) hz
  rw [h1, h2]
  exact ⟨Value.slice none 0 0, [], by rw [h0], Zv.none u8 5, by simpa using (Mem.of_world w0).ext he⟩
 | true =>
  by_cases hmx : S.n1 = 2147483647
  ·refine (Qko S.r S.w S.o S.sb S.tb S.s S.t S.n1 S.n2 S.n3 vk S.ks vb lb vp lp w0 S.l5 hk hkl hrb hlb hrp hlp hn1 hn3 hsb hmx).mono ?_
   rintro r w1 ⟨rfl, he⟩
   have h0 := enc_12 hsb hmx
   have hz : Ja S ≠ 0 := by rw [h0]; decide
   obtain ⟨h1, h2, h3⟩ := Qgj (b := lb) (p := lp) hz
   rw [h1, h2]
   exact ⟨Value.slice none 0 0, [], by rw [h0], Zv.none u8 5, by simpa using (Mem.of_world w0).ext he⟩
  refine (c_renc19 S.r S.w S.o S.sb S.tb S.s S.t S.n1 S.n2 S.n3 vk S.ks vb lb vp lp w0 S.l5 hk hkl hrb hlb hrp hlp hn1 hn3 hsb oM).mono ?_
  rintro r w1 ⟨vc, Hc, rfl, gc, hm⟩
  have h0 := Qlx hsb hmx
  obtain ⟨h1, h2, h3⟩ := enc_z (b := lb) (p := lp) h0
  rw [h1, h2]
  exact ⟨vc, Hc, by rw [h0]; rfl, gc, hm⟩
theorem Qkq (ro ow pu ot : List (BitVec 8)) (w0 : World) (hT : Tabs (Yq w0)) (hro : ro.length = 32) (how : ow.length = 32) (hpu : pu.length = 32) (hot : ot.length = 32) : Xz Tryd.prog 16 #[agg u8 ro, (Value.agg (Zl [ow.map u8, pu.map u8])), agg u8 ot] w0 (fun r w1 => r = (Value.agg (Zl (sS (Eb ro ow ot) (Value.slice none 0 0)))) ∧ Ext w0 w1) := by
 rw [Qka how hot]; exact Qop ro ow pu ot w0 hT hro how hpu hot
theorem Qol (ro ow ot : List (BitVec 8)) (w0 : World) (hro : ro.length = 32) (how : ow.length = 32) (hot : ot.length = 32) : Xz Tryd.prog 17 #[agg u8 ro, agg u8 ow, agg u8 ot] w0 (fun r w1 => r = (Value.agg (Zl (sS (Eb ro ow ot) (Value.slice none 0 0)))) ∧ Ext w0 w1) := by
 rw [Qka how hot]; exact Ql9 ro ow ot w0 hro how hot
theorem Qh6 (ro ow pu : List (BitVec 8)) (w0 : World) (hro : ro.length = 32) (how : ow.length = 32) (hpu : pu.length = 32) : Xz Tryd.prog 18 #[agg u8 ro, (Value.agg (Zl [ow.map u8, pu.map u8]))] w0 (fun r w1 => r = (Value.agg (Zl (sS (V9 ro ow) (Value.slice none 0 0)))) ∧ Ext w0 w1) := by
 rw [Qhh hro how]; exact Ql6 ro ow pu w0 hro how hpu
theorem Qgm (S T : Sn) (vk vq : Value) (w0 : World) (hk : RdK (Yq w0) J9 65 vk S.ks) (hq : RdK (Yq w0) J9 65 vq T.ks) (hn : S.ks.length ≤ 1048576) (hst : T = S) : Xz Tryd.prog 14 #[(Value.agg (Zl (sS S vk))), (Value.agg (Zl (sS T vq)))] w0 (fun r w1 => r = bl true ∧ Ext w0 w1) := by
 subst hst; exact c_sameS T.r T.w T.o T.sb T.tb T.s T.t T.n1 T.n2 T.n3 vk T.ks vq w0 T.l5 hk hn hq
def Qfv (S : Sn) : Bool := Aa (Ss.mk S.r S.w S.o S.sb S.tb S.s S.t S.n1 S.n2 S.n3 S.ks)
theorem Qoj (S : Sn) (vk : Value) (w0 : World) (hk : RdK (Yq w0) J9 65 vk S.ks) (hn : S.ks.length ≤ 1048576) : Xz Tryd.prog 11 #[(Value.agg (Zl (sS S vk)))] w0 (fun r w1 => r = bl (Qfv S) ∧ Ext w0 w1) := c_rright S.r S.w S.o S.sb S.tb S.s S.t S.n1 S.n2 S.n3 vk S.ks w0 S.l5 hk hn
theorem Qnl {S : Sn} (h : Qfv S = true) : (0 ≤ S.n1 ∧ S.n1 ≤ 2147483647) ∧ (0 ≤ S.n2 ∧ S.n2 ≤ 2147483647) ∧ (0 ≤ S.n3 ∧ S.n3 ≤ 2147483647) := right_of h
theorem c_greatS (S : Sn) (vk : Value) (va : Value) (la : List (BitVec 8)) (vc : Value) (lc : List (BitVec 8)) (w0 : World) (hk : RdK (Yq w0) J9 65 vk S.ks) (hn : S.ks.length ≤ 9223372036854775807) (hra : Rd (Yq w0) u8 va la) (hrc : Rd (Yq w0) u8 vc lc) (hla : la.length ≤ 9223372036854775807) (hlc : lc.length ≤ 9223372036854775807) : Xz Tryd.prog 10 #[(Value.agg (Zl (sS S vk))), va, vc] w0 (fun r w1 => r = bl (Ea S.ks.length la.length lc.length) ∧ Ext w0 w1) := Qoo S.r S.w S.o S.sb S.tb S.s S.t S.n1 S.n2 S.n3 vk S.ks va la vc lc w0 S.l5 hk hn hra hrc hla hlc
end Go.Proofs.YtkmiemlpfkfiiaaDoor
