/- The ratchet: what is deciphered (the document). Conditions: none beyond those that each theorem states. -/
import Derived.Test.YtkmiemlpfkfiiaaDoorRb7
namespace Go.Proofs.YtkmiemlpfkfiiaaDoor
open Bool renaming eq_false_or_eq_true → eX
open List renaming append_assoc → aQ, append_nil → aZ, cons_append → aW, mem_append_left → aS, mem_append_right → aG, nil_append → aX, replicate → aA
open List.Mem renaming head → aU, tail → aH
open Mem renaming addOwn → ae, addRest → bV, drop → aF, new → bY, pick → aC, pick2 → aN, pick3 → ai, pick4 → dO, pick5 → dn, upd0 → bM
open RdK renaming ofRest → af, one → eU
open Value renaming agg → aO, slice → bK, tuple → ak
open Tryd
set_option linter.unusedVariables false
set_option linter.unusedSimpArgs false
def HK (R : Rest) (Hs : List (Nat × Obj)) (v : Value) (l : List Kp) : Prop := ∀ m, (∀ b o, R.blk b = some o → m b = some o) → (∀ p ∈ Hs, m p.1 = some p.2) → RdK m Jl 65 v l
theorem HK.own {R : Rest} {Hs : List (Nat × Obj)} {v : Value} {l l' : List Kp} {E : TypeId} (g : Yu Jl 65 E v l Hs) (e : l = l') : HK R Hs v l' := fun m _ h => e ▸ g.rdIn h
theorem HK.old {w : World} {v : Value} {l l' : List Kp} (h : RdK (Jd w) Jl 65 v l) (e : l = l') : HK (Qs w) [] v l' := fun m h1 _ => e ▸ h.mono h1
theorem HK.rd {w : World} {R : Rest} {Hs H : List (Nat × Obj)} {v : Value} {l : List Kp} (h : HK R Hs v l) (hm : Mem w R (Hs ++ H)) : RdK (Jd w) Jl 65 v l := h _ (fun b o e => hm.rest b o e) fun p hp => hm.own p (aS _ hp)
theorem Qda {S : Sn} {s f : Z4} {e : Int} (h : Ns s = true) (h1 : ¬ 0 ≤ Cm S s) (h2 : Nq S (Xf s) f = e) : Qds S s f = e := (Qgt h h1).trans h2
theorem cut_sl (l : List Kp) (i : Nat) : (l.drop (0 : Int).toNat).take ((i : Int).toNat - (0 : Int).toNat) ++ (l.drop ((i : Int) + 1).toNat).take ((l.length : Int).toNat - ((i : Int) + 1).toNat) = l.take i ++ l.drop (i + 1) := by
 rw [show ((i : Int) + 1).toNat = i + 1 by omega, Int.toNat_natCast, Int.toNat_natCast, show (0 : Int).toNat = 0 from rfl, List.drop_zero, Nat.sub_zero, List.take_of_length_le (l := l.drop (i + 1)) (by rw [List.length_drop]; exact Nat.le_refl _)]
attribute [local irreducible] Si We Eg X8 Y7 Ba Wh Wv Kw Xc Gv Gn Zu Yn Yy F7 Ns Xf hdR hdE V5 Su Td Nq Qbq Qbd Jo
set_option maxHeartbeats 2000000 in
theorem c_rdec19 (S : Sn) (vk : Value) (vb : Value) (lb : Z4) (vs : Value) (ls : Z4) (f : Z4) (w0 : World)  (hk : RdK (Jd w0) Jl 65 vk S.ks) (hrb : Rd (Jd w0) u8 vb lb) (hlb : lb.length ≤ 90000) (hrs : Rd (Jd w0) u8 vs ls) (hls : ls.length ≤ 90000) (hfl : f.length = 32) (hn2 : 0 ≤ S.n2 ∧ S.n2 ≤ 2147483647) (hkl : S.ks.length ≤ 5000) : Xz prog 26 #[(aO (Qy (sS S vk))), vb, vs, (agg u8 f)] w0 (fun r w1 => ∃ vq Hq vp Hp, r = ak #[(aO (Qy (sS (Bo S lb ls f) (if Ez S lb ls f = 0 then vq else vk)))), vp, i64 (Ez S lb ls f)] ∧ Yu Jl 65 69 vq (Qho S lb ls f) Hq ∧ Z9 u8 5 vp (Sv S lb ls f) Hp ∧ Mem w1 (Qs w0) (Hq ++ Hp)) := by
 refine Qz (args := [(aO (Qy (sS S vk))), vb, vs, (agg u8 f)]) func26 rfl ntmps26 results26 rfl ?_
 have m0 : Mem w0 (Qs w0) [] := Mem.of_world w0
 have hhc := (Xf ls).hc
 have hkal := Qo6 (S := S) (s := ls) (f := f)
 have hmll := Qna (S := S) (s := ls) (f := f)
 have hrkl := Qju S (Xf ls) f
 refine sR <| Y5 (Fz (cs := (Qy (sS S vk))) m0 rfl) fun w1 b4 m1 => Y5 (Z5 (f := u8) (l := f) m1 rfl) fun w2 b7 m2 => Y5 (Ju m2 J5) fun w3 b8 m3 => Zx J3 <| Zx (i64 0) ?_
 refine rN (sR ?_)
 refine Zm vs <| Vr (oc24 (Jz rfl) (Quq vs ls _ (Rd.ofRest hrs m3) sL)) ?_
 rintro _ w4 ⟨vrq5, Hrq5, rfl, grq5, k_w4⟩
 have m4 : Mem _ _ (Hrq5 ++ ([_, _, _])) := bY (H := [_, _, _]) (H' := Hrq5) m3 k_w4
 refine X9 rfl <| Qd (v := (aO (Qy (sH ((Xf ls).c) ((Xf ls).p) ((Xf ls).n))))) (Zr rfl rfl) <| Qd (v := vrq5) (Zr rfl rfl) <| Qd (v := (i64 (hdE ls))) (Zr rfl rfl) <| Y5 (Ju m4 Aq) fun w6 b11 m6 => Ye m6 (Ko Aq rfl rfl m6.h0 (Ym (Jf Qr _) (Ym (X0 (Zw _) J6) (Ym (X0 (Zw _) J6) U6)))) fun w7 m7 => Zx vrq5 <| Zx (i64 (hdE ls)) ?_
 refine rN (Qa (sR ?_))
 refine Zm (i64 (hdE ls)) <| Qd (Kz (b := 0) rfl rfl) <| rN ?_
 refine Zz rfl (fun hc8 => ?_) (fun hc8 => ?_)
 ·
  have hc8p := bne_iff_ne.1 hc8
  refine sR <| Qd (Ky Yc J5 rfl ((ai [_] Hrq5 [_, _] [_] _ m7)).h0) <| Zm (i64 (hdE ls)) <| Vd (Ko J5 rfl rfl ((aN [_] Hrq5 [_] _ m7)).h0 (Ur (eU (af hk m7)))) ?_
  rintro _ w9 uq9
  have m9 : Mem _ _ ([_, _] ++ (Hrq5 ++ ([_, _]))) := bM (aN [_] Hrq5 [_] _ m7) uq9
  refine Zx J3 <| Zx (i64 (hdE ls)) ?_
  refine rN (Z8 (Yz ?_))
  refine Qq [(aO (Qy (sS S vk))), J3, (i64 (hdE ls))] ⟨⟨_, rfl, Jq Yc J5 m9.h0⟩, rfl, rfl, trivial⟩ ?_
  have m10 := aF [_] _ m9
  have m11 := aF [_] _ m10
  have m12 := aF Hrq5 _ m11
  have m13 := aF [_] _ m12
  have m14 := aF [_] _ m13
  obtain ⟨ho1, ho2, ho3, ho4⟩ := Qlq (b := lb) (Qsr (f := f) (S := S) (hdE_3 (bne_iff_ne.1 hc8)).1) Yx
  rw [ho1, ho2, ho3, ho4]
  exact ⟨bK none 0 0, [], bK none 0 0, [], by rw [if_neg Yx]; rw [(hdE_3 (bne_iff_ne.1 hc8)).2]; rfl, Yu.none Jl 65 69, Z9.none u8 5, by simpa using m14⟩
 ·
  have hc8p := Yd hc8
  have hok := hdE_0 (Yd hc8)
  obtain ⟨hl40, hhp, hhn⟩ := hd_of hok
  have hrr := (Qe9 hok).2.2
  have hrl : (hdR ls).length = ls.length - 40 := by rw [hrr, List.length_drop]
  refine Qo (Qc (sR ?_))
  refine Zm vb <| Zm vs <| Qd (Y8 (i := 0) (j := 40) (Rd.ofRest hrs m7) Zn Yr rfl (Zd _ _) (Yb (k := .i64) (i := 40) rfl) oM sL sL) <| Vr (oc38 (Xl rfl rfl) (c_rjoin vb lb (Cf vs 0 40) ((ls.drop 0).take 40) _ (Rd.ofRest hrb m7) sL (Rd.cast (l' := (ls.drop 0).take 40) (Rd.sub (Rd.ofRest hrs m7) oM sL sL) rfl) sL)) ?_
  rintro rq16 w15 ⟨Hsq16, grq16, k_w15⟩
  have m15 : Mem _ _ (Hsq16 ++ ([_] ++ (Hrq5 ++ ([_, _, _])))) := bY (H := [_] ++ (Hrq5 ++ ([_, _, _]))) (H' := Hsq16) m7 k_w15
  refine Zx rq16 ?_
  refine rN (Qa (sR ?_))
  refine Zx (i64 0) ?_
  refine rN (Qh ?_)
  refine Y1 (fun g wv => ∃ (i : Nat), (i ≤ S.ks.length) ∧ (∀ j, j < i → Qch (Xf ls).c (Xf ls).n (S.ks.getD j Dz) = false) ∧ g 0 = (aO (Qy (sS S vk))) ∧ g 1 = vb ∧ g 2 = vs ∧ g 3 = (agg u8 f) ∧ g 4 = (ptr b4 0) ∧ g 7 = (ptr b7 0) ∧ g 8 = (ptr b8 0) ∧ g 11 = (ptr b11 0) ∧ g 12 = vrq5 ∧ g 13 = (i64 (hdE ls)) ∧ g 14 = rq16 ∧ g 15 = (i64 (i : Int)) ∧ g 31 = (bl ((hdE ls) != 0)) ∧ Mem wv (Qs w0) (Hsq16 ++ ([(b11, .cells (Qy (sH ((Xf ls).c) ((Xf ls).p) ((Xf ls).n))) 53 (0, 0))] ++ (Hrq5 ++ ([(b8, .cells (Qy (sE (aA 32 0) (aA 32 0) (aA 32 0) false false (aA 32 0) (aA 32 0) 0 0 0 J3)) 26 (0, 0)), (b7, .cells (cl u8 f) 23 (0, 0)), (b4, .cells (Qy (sS S vk)) 26 (0, 0))]))))) (fun g wv => ((S.ks.length : Int) - RowKit.intOf (g 15)).toNat) ?_ ?_
  ·exact ⟨0, (Nat.zero_le _), (fun j hj => absurd hj (Nat.not_lt_zero j)), rfl, rfl, rfl, rfl, rfl, rfl, rfl, rfl, rfl, rfl, rfl, rfl, rfl, m15⟩
  rintro fr17 w18 ⟨i, hi, hno, s0, s1, s2, s3, s4, s7, s8, s11, s12, s13, s14, s15, s31, m18⟩
  have z15 := s15
  have hkc := (S.ks.getD i Dz).hc; have hkk := (S.ks.getD i Dz).hk
  refine Qa (sR ?_)
  refine X9 s15 <| Qd (Zl (r := 165) Yc rfl Jj Ar rfl s4) <| Qd (Y2 10 Gi rfl ((dO Hsq16 [_] Hrq5 [_, _] [_] _ m18)).h0 rfl) <| Qd (Bh (af hk m18) Gi rfl) <| Qd (Xd rfl rfl) <| rN ?_
  refine Zz rfl (fun hc19 => ?_) (fun hc19 => ?_)
  ·
   have hc19p := of_decide_eq_true hc19
   refine Qo (Qc (Qa (Qh (Qa ?_))))
   refine Xi (dl 18) 18 Xv <| X4 rfl (Zl (r := 165) Yc rfl Jj Ar rfl s4) <| Yj rfl (fun _ e' => Y2 10 Gi rfl ((dO Hsq16 [_] Hrq5 [_, _] [_] _ (m18.ext e'))).h0 rfl) <| Uh rfl s15 <| Yj rfl (fun _ e' => Y4 (i := (i : Int)) (af hk (m18.ext e')) Gi Ac rfl rfl oM sL) <| Yj rfl (fun _ e' => Qgo (i := (i : Int)) (af hk (m18.ext e')) sL Qez rfl Jj Zh rfl rfl) <| Yj (v := (agg u8 ((S.ks.getD i Dz).c))) rfl (fun _ e' => Ah (i := (i : Int)) (dflt := Dz) (cs := (cl u8 ((S.ks.getD i Dz).c))) (af hk (m18.ext e')) sL Xn rfl Zh rfl rfl Yx (kp_c (S.ks.getD i Dz))) <| X4 rfl (Zl (r := 0) F8 rfl Jj Zh rfl s11) <| Yj rfl (fun _ e' => Jn 0 Xn Zh rfl ((aC Hsq16 [_] _ (m18.ext e'))).h0 rfl) <| X4 rfl (Qcl (l := (S.ks.getD i Dz).c) (m := (Xf ls).c) Xn V3 Yr eqGuardType23 rfl rfl ysF ysF) <| J7 rfl (bl (((S.ks.getD i Dz).c) == ((Xf ls).c))) ?_
   rcases eX (((S.ks.getD i Dz).c) == ((Xf ls).c)) with hb20 | hb20
   ·
    have hb20p := eq_of_beq hb20
    refine Qdq (s := 54) rfl rfl rfl hb20 rfl (fun _ _hx => Zl (r := 165) Yc rfl Jj Ar rfl s4) <| Qdq (s := 54) rfl rfl rfl hb20 rfl (fun _ _hx => Y2 10 Gi rfl ((dO Hsq16 [_] Hrq5 [_, _] [_] _ (m18.ext _hx))).h0 rfl) <| Qdq (s := 54) rfl rfl rfl hb20 rfl (fun _ _hx => Jb s15) <| Qdq (s := 54) rfl rfl rfl hb20 rfl (fun _ _hx => Y4 (i := (i : Int)) (af hk (m18.ext _hx)) Gi Ac rfl rfl oM sL) <| Qdq (s := 54) rfl rfl rfl hb20 rfl (fun _ _hx => Qgo (i := (i : Int)) (af hk (m18.ext _hx)) sL Qez rfl Jj Uw rfl rfl) <| Qdq (s := 54) rfl rfl rfl hb20 rfl (fun _ _hx => Nc (i := (i : Int)) (dflt := Dz) (u := (i64 ((S.ks.getD i Dz).n))) (af hk (m18.ext _hx)) sL Fa rfl rfl Yx (kp_n (S.ks.getD i Dz))) <| Qdq (s := 54) rfl rfl rfl hb20 rfl (fun _ _hx => Zl (r := 33) F8 rfl Jj Uw rfl s11) <| Qdq (s := 54) rfl rfl rfl hb20 rfl (fun _ _hx => Y2 2 Fa rfl ((aC Hsq16 [_] _ (m18.ext _hx))).h0 rfl) <| Gf m18 fun w21 m21 => Yf (s := 54) rfl rfl hb20 rfl (G8 rfl rfl) <| Qd (G6 rfl hb20 rfl) <| rN ?_
    refine Zz rfl (fun hc22 => ?_) (fun hc22 => ?_)
    ·
     have hc22p := eq_of_beq hc22
     refine sR <| Qd (Zl (r := 165) Yc rfl Jj Ar rfl s4) <| Qd (Y2 10 Gi rfl ((dO Hsq16 [_] Hrq5 [_, _] [_] _ m21)).h0 rfl) <| X9 s15 <| Qd (Y4 (i := (i : Int)) (af hk m21) Gi Ac rfl rfl oM sL) <| Qd (Qgo (i := (i : Int)) (af hk m21) sL Qez rfl Jj Zh rfl rfl) <| Qd (v := (agg u8 ((S.ks.getD i Dz).k))) (Ah (i := (i : Int)) (dflt := Dz) (cs := (cl u8 ((S.ks.getD i Dz).k))) (af hk m21) sL Xn rfl Zh rfl rfl Yx (kp_k (S.ks.getD i Dz))) <| Qd (Ve (ps := []) (c := (cl u8 (aA 12 0))) Qba Pm Yr Ya rfl) <| X9 s14 <| X9 s12 <| Vr (oc55 (Ry rfl rfl rfl rfl) (Qs0 _ _ rq16 (lb ++ ((ls.drop 0).take 40)) vrq5 (hdR ls) _ sL sL (grq16.rd m21) sL (grq5.rd (aN Hsq16 [_] Hrq5 _ m21)) sL)) ?_
     rintro _ w23 ⟨vxq24, Hsq24, rfl, gvxq24, k_w23⟩
     have m23 : Mem _ _ (Hsq24 ++ (Hsq16 ++ ([_] ++ (Hrq5 ++ ([_, _, _]))))) := bY (H := Hsq16 ++ ([_] ++ (Hrq5 ++ ([_, _, _])))) (H' := Hsq24) m21 k_w23
     refine X9 rfl <| Qd (v := vxq24) (Zr rfl rfl) <| Qd (v := (i64 (Su ((S.ks.getD i Dz).k) (aA 12 0) (lb ++ ((ls.drop 0).take 40)) (hdR ls)))) (Zr rfl rfl) <| Zx vxq24 <| Tc rfl ?_
     refine rN (Qa (sR ?_))
     refine X9 rfl <| Qd (Kz (b := 0) rfl rfl) <| rN ?_
     refine Zz rfl (fun hc25 => ?_) (fun hc25 => ?_)
     ·
      have hc25p := bne_iff_ne.1 hc25
      refine sR <| Qd (Ky Yc J5 s4 ((dn Hsq24 Hsq16 [_] Hrq5 [_, _] [_] _ m23)).h0) <| X9 rfl <| Vd (Ko J5 s8 rfl ((dO Hsq24 Hsq16 [_] Hrq5 [_] _ m23)).h0 (Ur (eU (af hk m23)))) ?_
      rintro _ w26 uq26
      have m26 : Mem _ _ ([_] ++ (Hsq24 ++ (Hsq16 ++ ([_] ++ (Hrq5 ++ ([_, _])))))) := bM (dO Hsq24 Hsq16 [_] Hrq5 [_] _ m23) uq26
      refine Zx J3 <| Tc rfl ?_
      refine rN (Z8 ?_)
      refine Yz (H6 (Yz (H6 ?_)))
      refine Qq [(aO (Qy (sS S vk))), J3, (i64 (Su ((S.ks.getD i Dz).k) (aA 12 0) (lb ++ ((ls.drop 0).take 40)) (hdR ls)))] ⟨⟨_, s8, Jq Yc J5 m26.h0⟩, rfl, rfl, trivial⟩ ?_
      have hfi : V5 S.ks (Xf ls).c (Xf ls).n = i := Qnh oM hno (by unfold Qch; rw [hb20, hc22]; rfl)
      have hin : 0 ≤ Cm S ls := by show 0 ≤ V5 S.ks (Xf ls).c (Xf ls).n; omega
      have hit : (Cm S ls).toNat = i := by show (V5 S.ks (Xf ls).c (Xf ls).n).toNat = i; omega
      have hd1 := Qnp (f := f) hok hin
      have hj1 := Qnc (f := f) hin
      have hj0 := Qqi (f := f) hin
      rw [hit] at hj0 hj1
      have hon : Qcy (Nk S ls f) lb ls = (Su ((S.ks.getD i Dz).k) (aA 12 0) (lb ++ ((ls.drop 0).take 40)) (hdR ls)) := by unfold Qcy; rw [hj1, ← hrr]; rfl
      have m27 := aF [_] _ m26
      have m28 := aF Hsq24 _ m27
      have m29 := aF Hsq16 _ m28
      have m30 := aF [_] _ m29
      have m31 := aF Hrq5 _ m30
      have m32 := aF [_] _ m31
      have m33 := aF [_] _ m32
      obtain ⟨ho1, ho2, ho3, ho4⟩ := out_2 hd1 (by rw [hon]; exact bne_iff_ne.1 hc25)
      rw [ho1, ho2, ho3, ho4]
      exact ⟨bK none 0 0, [], bK none 0 0, [], by rw [if_neg (by rw [hon]; exact bne_iff_ne.1 hc25)]; rw [hon]; rfl, Yu.none Jl 65 69, Z9.none u8 5, by simpa using m33⟩
     ·
      have hc25p := Yd hc25
      refine Qo (Qc (sR ?_))
      refine Qd (Ky Yc J5 s4 ((dn Hsq24 Hsq16 [_] Hrq5 [_, _] [_] _ m23)).h0) <| Y5 (Ju m23 J5) fun w34 b18 m34 => Ye m34 (Ko J5 rfl rfl m34.h0 (Ur (eU (af hk m34)))) fun w35 m35 => ?_
      refine rN (Qa ?_)
      refine Jy Xv ?_
      have hFM36 : Mem w35 (Qs w0) ([] ++ ([(b18, .cells (Qy (sS S vk)) 26 (0, 0))] ++ (Hsq24 ++ (Hsq16 ++ ([(b11, .cells (Qy (sH ((Xf ls).c) ((Xf ls).p) ((Xf ls).n))) 53 (0, 0))] ++ (Hrq5 ++ ([(b8, .cells (Qy (sE (aA 32 0) (aA 32 0) (aA 32 0) false false (aA 32 0) (aA 32 0) 0 0 0 J3)) 26 (0, 0)), (b7, .cells (cl u8 f) 23 (0, 0)), (b4, .cells (Qy (sS S vk)) 26 (0, 0))]))))))) := m35
      obtain ⟨RM36, hRM36⟩ : ∃ R2, R2 = Rest.add (Qs w0) ([(b18, .cells (Qy (sS S vk)) 26 (0, 0))] ++ (Hsq24 ++ (Hsq16 ++ ([(b11, .cells (Qy (sH ((Xf ls).c) ((Xf ls).p) ((Xf ls).n))) 53 (0, 0))] ++ (Hrq5 ++ ([(b8, .cells (Qy (sE (aA 32 0) (aA 32 0) (aA 32 0) false false (aA 32 0) (aA 32 0) 0 0 0 J3)) 26 (0, 0)), (b7, .cells (cl u8 f) 23 (0, 0)), (b4, .cells (Qy (sS S vk)) 26 (0, 0))])))))) := ⟨_, rfl⟩
      have M360 : Mem w35 RM36 [] := by rw [hRM36]; exact Mem.give hFM36
      have hr37 : Rd RM36.blk u8 vb lb := by rw [hRM36]; exact Rd.mono hrb fun b o e => bV hFM36 e
      have hr38 : Rd RM36.blk u8 vs ls := by rw [hRM36]; exact Rd.mono hrs fun b o e => bV hFM36 e
      have hg39 : Rd RM36.blk u8 vrq5 (hdR ls) := grq5.rdIn (fun p hp => by rw [hRM36]; exact ae hFM36 (aG _ (aG _ (aG _ (aG _ (aS _ hp))))))
      have hg40 : Rd RM36.blk u8 rq16 (lb ++ ((ls.drop 0).take 40)) := grq16.rdIn (fun p hp => by rw [hRM36]; exact ae hFM36 (aG _ (aG _ (aS _ hp))))
      have hr41 : RdK RM36.blk Jl 65 vk S.ks := by rw [hRM36]; exact RdK.mono hk fun b o e => bV hFM36 e
      have hg42 : Rd RM36.blk u8 vxq24 (Td ((S.ks.getD i Dz).k) (aA 12 0) (lb ++ ((ls.drop 0).take 40)) (hdR ls)) := gvxq24.rdIn (fun p hp => by rw [hRM36]; exact ae hFM36 (aG _ (aS _ hp)))
      have ho43 : RM36.blk b18 = some (.cells (Qy (sS S vk)) 26 (0, 0)) := by rw [hRM36]; exact ae hFM36 (aS _ (aU _))
      have ho44 : RM36.blk b11 = some (.cells (Qy (sH ((Xf ls).c) ((Xf ls).p) ((Xf ls).n))) 53 (0, 0)) := by rw [hRM36]; exact ae hFM36 (aG _ (aG _ (aG _ (aS _ (aU _)))))
      have ho45 : RM36.blk b8 = some (.cells (Qy (sE (aA 32 0) (aA 32 0) (aA 32 0) false false (aA 32 0) (aA 32 0) 0 0 0 J3)) 26 (0, 0)) := by rw [hRM36]; exact ae hFM36 (aG _ (aG _ (aG _ (aG _ (aG _ (aU _))))))
      have ho46 : RM36.blk b7 = some (.cells (cl u8 f) 23 (0, 0)) := by rw [hRM36]; exact ae hFM36 (aG _ (aG _ (aG _ (aG _ (aG _ (aH _ (aU _)))))))
      have ho47 : RM36.blk b4 = some (.cells (Qy (sS S vk)) 26 (0, 0)) := by rw [hRM36]; exact ae hFM36 (aG _ (aG _ (aG _ (aG _ (aG _ (aH _ (aH _ (aU _))))))))
      refine Dk M360 [(1, false), (2, false), (3, false), (4, false), (6, false), (7, false), (8, false), (9, false), (10, false), (0, true), (5, true)] 11 rfl Xv <| N8 rfl (Zl (r := 165) Yc rfl Jj Ar rfl s4) <| yqH rfl (fun w _H _hx => Y2 10 Gi rfl (_hx.rest _ _ ho47) rfl) <| N8 rfl (Jb s15) <| yqH rfl (fun w _H _hx => Ru (i := 0) (j := (i : Int)) (af hr41 _hx) Gi Ac rfl (Zd _ _) (Yb (k := .i64) (i := (i : Int)) rfl) oM sL sL) <| N8 rfl (Zl (r := 165) Yc rfl Jj Ar rfl s4) <| yqH rfl (fun w _H _hx => Y2 10 Gi rfl (_hx.rest _ _ ho47) rfl) <| N8 rfl (Jb s15) <| N8 rfl (Zg (b := 1) rfl rfl oM oM) <| yqH rfl (fun w _H _hx => Ru (i := (i : Int) + 1) (j := (S.ks.length : Int)) (af hr41 _hx) Gi Ac rfl (Yb (k := .i64) (i := (i : Int) + 1) rfl) (Zd _ _) oM sL sL) ?_
      refine Qfb rfl rfl (fun w48 e48 => ?_)
      have m48 := M360.ext e48
      refine Vf.mono (Cj (c := #[]) m48 Gi Ac rfl Vt Xv) ?_
      rintro _ w49 ⟨b83, rfl, e49, m49⟩
      have m49 : Mem w49 RM36 [(b83, .cells #[] 69 (0, 0))] := m49
      refine ⟨⟨_, m49⟩, ?_⟩
      refine Qfb rfl rfl (fun w50 e50 => ?_)
      have m50 := m49.ext e50
      refine Vf.mono (Ae (enc := Jl) (k := 65) (Hs := [(b83, .cells #[] 69 (0, 0))]) (H := []) m50 (Yu.of Jl 65 69 b83 [] rfl Ya) rfl rfl (RdK.cast (l' := ((S.ks.drop (0 : Int).toNat).take (((i : Int) : Int).toNat - (0 : Int).toNat))) (RdK.sub (i := 0) (j := (i : Int)) (af hr41 m50) oM sL sL) rfl) Gi Gi Ac rfl rfl (fun a _ => Pz a) sL sL) ?_
      rintro sv51 w51 ⟨Hs51, m51, g51⟩
      replace g51 : Yu Jl 65 69 sv51 ((S.ks.drop (0 : Int).toNat).take (((i : Int) : Int).toNat - (0 : Int).toNat)) Hs51 := g51
      refine ⟨⟨_, m51⟩, ?_⟩
      refine Gf m51 fun w52 m52 => ?_
      have hX53 := m52
      rw [hRM36] at hX53
      have m54 : Mem w52 (Qs w0) (Hs51 ++ ([(b18, .cells (Qy (sS S vk)) 26 (0, 0))] ++ (Hsq24 ++ (Hsq16 ++ ([(b11, .cells (Qy (sH ((Xf ls).c) ((Xf ls).p) ((Xf ls).n))) 53 (0, 0))] ++ (Hrq5 ++ ([(b8, .cells (Qy (sE (aA 32 0) (aA 32 0) (aA 32 0) false false (aA 32 0) (aA 32 0) 0 0 0 J3)) 26 (0, 0)), (b7, .cells (cl u8 f) 23 (0, 0)), (b4, .cells (Qy (sS S vk)) 26 (0, 0))]))))))) := ymA (Mem.back hFM36 hX53)
      refine Vr (Ae (enc := Jl) (k := 65) (Hs := Hs51) (H := [_] ++ (Hsq24 ++ (Hsq16 ++ ([_] ++ (Hrq5 ++ ([_, _, _])))))) m54 g51 rfl rfl (RdK.cast (l' := ((S.ks.drop ((i : Int) + 1 : Int).toNat).take (((S.ks.length : Int) : Int).toNat - ((i : Int) + 1 : Int).toNat))) (RdK.sub (i := (i : Int) + 1) (j := (S.ks.length : Int)) (af hk m54) oM sL sL) rfl) Gi Gi Ac rfl rfl (fun a _ => Pz a) sL sL) ?_
      rintro sv55 w55 ⟨Hs55, m55, g55⟩
      replace g55 : Yu Jl 65 69 sv55 (((S.ks.drop (0 : Int).toNat).take (((i : Int) : Int).toNat - (0 : Int).toNat)) ++ ((S.ks.drop ((i : Int) + 1 : Int).toNat).take (((S.ks.length : Int) : Int).toNat - ((i : Int) + 1 : Int).toNat))) Hs55 := g55
      refine Qd (Zl (r := 165) Yc rfl Jj Ar rfl rfl) <| Vd (Ud 10 (sS S sv55) Ar rfl rfl g55.one ((aC Hs55 [_] _ m55)).h0 rfl rfl) ?_
      rintro _ w56 uq56
      have m56 : Mem _ _ ([_] ++ (Hs55 ++ (Hsq24 ++ (Hsq16 ++ ([_] ++ (Hrq5 ++ ([_, _, _]))))))) := bM (aC Hs55 [_] _ m55) uq56
      refine rN (sR ?_)
      refine Qd (Ky Yc J5 rfl m56.h0) <| Zm vxq24 <| Vd (Ko J5 s8 rfl ((Mem.pick6 [_] Hs55 Hsq24 Hsq16 [_] Hrq5 [_] _ m56)).h0 (Ur g55.one)) ?_
      rintro _ w57 uq57
      have m57 : Mem _ _ ([_, _] ++ (Hs55 ++ (Hsq24 ++ (Hsq16 ++ ([_] ++ (Hrq5 ++ ([_, _]))))))) := bM (Mem.pick6 [_] Hs55 Hsq24 Hsq16 [_] Hrq5 [_] _ m56) uq57
      refine Zx vxq24 <| Zx (i64 0) ?_
      refine rN (Z8 ?_)
      refine H6 (Yz (H6 ?_))
      refine Qq [(aO (Qy (sS S sv55))), vxq24, (i64 0)] ⟨⟨_, s8, Jq Yc J5 m57.h0⟩, rfl, rfl, trivial⟩ ?_
      have hfi : V5 S.ks (Xf ls).c (Xf ls).n = i := Qnh oM hno (by unfold Qch; rw [hb20, hc22]; rfl)
      have hin : 0 ≤ Cm S ls := by show 0 ≤ V5 S.ks (Xf ls).c (Xf ls).n; omega
      have hit : (Cm S ls).toNat = i := by show (V5 S.ks (Xf ls).c (Xf ls).n).toNat = i; omega
      have hd1 := Qnp (f := f) hok hin
      have hj1 := Qnc (f := f) hin
      have hj0 := Qqi (f := f) hin
      rw [hit] at hj0 hj1
      have hon : Qcy (Nk S ls f) lb ls = (Su ((S.ks.getD i Dz).k) (aA 12 0) (lb ++ ((ls.drop 0).take 40)) (hdR ls)) := by unfold Qcy; rw [hj1, ← hrr]; rfl
      have m58 := aF [_] _ m57
      have m59 := aF [_] _ m58
      have m60 := aF Hsq16 _ (aN Hs55 Hsq24 Hsq16 _ m59)
      have m61 := aF [_] _ (aN Hs55 Hsq24 [_] _ m60)
      have m62 := aF Hrq5 _ (aN Hs55 Hsq24 Hrq5 _ m61)
      have m63 := aF [_] _ (aN Hs55 Hsq24 [_] _ m62)
      have m64 := aF [_] _ (aN Hs55 Hsq24 [_] _ m63)
      obtain ⟨ho1, ho2, ho3, ho4⟩ := out_3 hd1 (by rw [hon]; exact Yd hc25)
      rw [ho1, ho2, ho3, ho4]
      rw [hj0]
      exact ⟨sv55, Hs55, vxq24, Hsq24, by rw [if_pos rfl]; rfl, Yu.cast g55 (by first | rfl | exact (cut_sl _ _).trans (Qre _ _).symm), Z9.cast gvxq24 (by unfold opnP; rw [hj1, ← hrr]; rfl), (by
       have hT := m64
       try simp only [aQ, aW, aX, aZ] at hT ⊢
       exact hT)⟩
    ·
     have hc22p := ne_of_beq_false hc22
     refine Qo (Qe (Qb ?_))
     refine X9 s15 <| Qd (Zg (b := 1) rfl rfl oM oM) <| Zx (i64 ((i : Int) + 1)) <| rN ?_
     exact ⟨⟨(i + 1), oM, (Qqq hno (by unfold Qch; rw [hb20, hc22]; rfl)), s0, s1, s2, s3, s4, s7, s8, s11, s12, s13, s14, rfl, s31, m21⟩, Uj rfl z15 oM oM⟩
   ·
    have hb20p := ne_of_beq_false hb20
    refine Qdr (s := 54) rfl rfl rfl hb20 rfl <| Qdr (s := 54) rfl rfl rfl hb20 rfl <| Qdr (s := 54) rfl rfl rfl hb20 rfl <| Qdr (s := 54) rfl rfl rfl hb20 rfl <| Qdr (s := 54) rfl rfl rfl hb20 rfl <| Qdr (s := 54) rfl rfl rfl hb20 rfl <| Qdr (s := 54) rfl rfl rfl hb20 rfl <| Qdr (s := 54) rfl rfl rfl hb20 rfl <| Gf m18 fun w65 m65 => Fe (s := 54) rfl rfl hb20 rfl <| Qd (Wn rfl hb20 rfl) <| rN <| Ja rfl Yx ?_
    refine Qo (Qe (Qb ?_))
    refine X9 s15 <| Qd (Zg (b := 1) rfl rfl oM oM) <| Zx (i64 ((i : Int) + 1)) <| rN ?_
    exact ⟨⟨(i + 1), oM, (Qqq hno (by unfold Qch; rw [hb20]; rfl)), s0, s1, s2, s3, s4, s7, s8, s11, s12, s13, s14, rfl, s31, m65⟩, Uj rfl z15 oM oM⟩
  ·
   have hc19p := of_decide_eq_false hc19
   have hfn : V5 S.ks (Xf ls).c (Xf ls).n = -1 := Ql2 (fun j hj => hno j oM)
   have hin : ¬ 0 ≤ Cm S ls := by show ¬ 0 ≤ V5 S.ks (Xf ls).c (Xf ls).n; omega
   have h02 := Qsf S (Xf ls) f ⟨by omega, by omega⟩
   have h0l := Qjv S (Xf ls) f
   have hll := Qbv S (Xf ls).p
   have hl2 := Qo2 (Jo S (Xf ls) f) (Xf ls).n h02.1 hhn.1 h02.2 hhn.2
   have hl3 := Qbv (Jo S (Xf ls) f) (Xf ls).n
   refine X3 ?_
   refine Qj (Qj (Xk ?_))
   refine sR <| Qd (Ky Yc J5 s4 ((dO Hsq16 [_] Hrq5 [_, _] [_] _ m18)).h0) <| Y5 (Ju m18 J5) fun w66 b19 m66 => Ye m66 (Ko J5 rfl rfl m66.h0 (Ur (eU (af hk m66)))) fun w67 m67 => ?_
   refine rN (sR ?_)
   refine Zx (bl true) ?_
   refine rN (Qa (Qa ?_))
   refine Ri (J := fun g wv => g 0 = (aO (Qy (sS S vk))) ∧ g 1 = vb ∧ g 2 = vs ∧ g 3 = (agg u8 f) ∧ g 4 = (ptr b4 0) ∧ g 7 = (ptr b7 0) ∧ g 8 = (ptr b8 0) ∧ g 11 = (ptr b11 0) ∧ g 12 = vrq5 ∧ g 13 = (i64 (hdE ls)) ∧ g 14 = rq16 ∧ g 15 = (i64 (i : Int)) ∧ g 19 = (ptr b19 0) ∧ g 20 = (bl true) ∧ g 31 = (bl ((hdE ls) != 0)) ∧ g 42 = (bl (decide ((i : Int) < (S.ks.length : Int)))) ∧ g 108 = (bl (Qej S (Xf ls))) ∧ Mem wv (Qs w0) ([(b19, .cells (Qy (sS S vk)) 26 (0, 0))] ++ (Hsq16 ++ ([(b11, .cells (Qy (sH ((Xf ls).c) ((Xf ls).p) ((Xf ls).n))) 53 (0, 0))] ++ (Hrq5 ++ ([(b8, .cells (Qy (sE (aA 32 0) (aA 32 0) (aA 32 0) false false (aA 32 0) (aA 32 0) 0 0 0 J3)) 26 (0, 0)), (b7, .cells (cl u8 f) 23 (0, 0)), (b4, .cells (Qy (sS S vk)) 26 (0, 0))])))))) ?_ ?_
   ·skip
    refine Qb <| Qd (Zl (r := 0) F8 rfl Jj Zh rfl s11) <| Qd (Jn 0 Xn Zh rfl ((aN [_] Hsq16 [_] _ m67)).h0 rfl) <| Qd (Zl (r := 64) Yc rfl Jj Zh rfl s4) <| Qd (Jn 2 Xn Zh rfl ((dn [_] Hsq16 [_] Hrq5 [_, _] [_] _ m67)).h0 rfl) <| Qd (D9 (l := (Xf ls).c) (m := S.o) Xn V3 Yr eqGuardType23 rfl rfl ysF ysF) <| Zm (bl (((Xf ls).c) != S.o)) ?_
    rcases eX (((Xf ls).c) != S.o) with hb68 | hb68
    ·
     have hb68p := bne_iff_ne.1 hb68
     refine Fe (s := 104) rfl rfl hb68 rfl <| Fe (s := 104) rfl rfl hb68 rfl <| Fe (s := 104) rfl rfl hb68 rfl <| Qd (G6 rfl hb68 rfl) <| rN ?_
     exact ⟨s0, s1, s2, s3, s4, s7, s8, s11, s12, s13, s14, s15, rfl, rfl, s31, rfl, (Eq.trans rfl (congrArg bl (by unfold Qej; rw [hb68]; rfl))), m67⟩
    ·
     have hb68p := Yd hb68
     refine Yf (s := 104) rfl rfl hb68 rfl (Zl (r := 97) Yc rfl Jj ti4 rfl s4) <| Yf (s := 104) rfl rfl hb68 rfl (Y2 4 uT4 rfl ((dn [_] Hsq16 [_] Hrq5 [_, _] [_] _ m67)).h0 rfl) <| Yf (s := 104) rfl rfl hb68 rfl (Ag rfl) <| Qd (Wn rfl hb68 rfl) <| rN ?_
     exact ⟨s0, s1, s2, s3, s4, s7, s8, s11, s12, s13, s14, s15, rfl, rfl, s31, rfl, (Eq.trans rfl (congrArg bl (by unfold Qej; rw [hb68]; rfl))), m67⟩
   rintro fr69 w70 ⟨s0, s1, s2, s3, s4, s7, s8, s11, s12, s13, s14, s15, s19, s20, s31, s42, s108, m70⟩
   refine Ri (J := fun g wv => ∃ (vj : Value) (Hj : List (Nat × Obj)), (HK (Qs w0) Hj vj (Jo S (Xf ls) f).ks) ∧ (Qc6 S (Xf ls) = false) ∧ g 0 = (aO (Qy (sS S vk))) ∧ g 1 = vb ∧ g 2 = vs ∧ g 3 = (agg u8 f) ∧ g 4 = (ptr b4 0) ∧ g 7 = (ptr b7 0) ∧ g 8 = (ptr b8 0) ∧ g 11 = (ptr b11 0) ∧ g 12 = vrq5 ∧ g 13 = (i64 (hdE ls)) ∧ g 14 = rq16 ∧ g 15 = (i64 (i : Int)) ∧ g 19 = (ptr b19 0) ∧ g 20 = (bl true) ∧ g 31 = (bl ((hdE ls) != 0)) ∧ g 42 = (bl (decide ((i : Int) < (S.ks.length : Int)))) ∧ g 108 = (bl (Qej S (Xf ls))) ∧ Mem wv (Qs w0) ([(b19, .cells (Qy (sS (Jo S (Xf ls) f) vj)) 26 (0, 0))] ++ (Hj ++ (Hsq16 ++ ([(b11, .cells (Qy (sH ((Xf ls).c) ((Xf ls).p) ((Xf ls).n))) 53 (0, 0))] ++ (Hrq5 ++ ([(b8, .cells (Qy (sE (aA 32 0) (aA 32 0) (aA 32 0) false false (aA 32 0) (aA 32 0) 0 0 0 J3)) 26 (0, 0)), (b7, .cells (cl u8 f) 23 (0, 0)), (b4, .cells (Qy (sS S vk)) 26 (0, 0))]))))))) ?_ ?_
   ·skip
    refine Zz s108 (fun hc71 => ?_) (fun hc71 => ?_)
    ·
     refine Qa (sR ?_)
     refine Qd (Zl (r := 97) Yc rfl Jj ti4 rfl s4) <| Qd (Y2 4 uT4 rfl ((dn [_] Hsq16 [_] Hrq5 [_, _] [_] _ m70)).h0 rfl) <| rN ?_
     refine Zz rfl (fun hc72 => ?_) (fun hc72 => ?_)
     ·
      refine Qa ?_
      rcases eX (Qar S (Xf ls).p) with hb73 | hb73
      ·
       refine Qb <| Qd (Ky Yc J5 s19 m70.h0) <| Qd (Zl (r := 32) F8 rfl Jj Uw rfl s11) <| Qd (Y2 1 Fa rfl ((aN [_] Hsq16 [_] _ m70)).h0 rfl) <| U5 m70 (oc56 (Xl rfl rfl) (Qkn S vk _ _ (af hk m70) sL sL sL (by assumption))) fun w74 m74 => Zm (ak #[(aO (Qy (sS S vk))), (bl false)]) <| Qd (v := (aO (Qy (sS S vk)))) (Zr rfl rfl) <| Qd (v := (bl false)) (Zr rfl rfl) <| Ye m74 (Ko J5 s19 rfl m74.h0 (Ur (eU (af hk m74)))) fun w76 m76 => Zx (bl false) ?_
       refine rN (sR ?_)
       refine Zm (bl false) <| Qd (v := (bl true)) (Ag (b := false) rfl) <| rN <| Za rfl Yx <| sR <| Qd (Ky Yc J5 s4 ((dn [_] Hsq16 [_] Hrq5 [_, _] [_] _ m76)).h0) <| Vd (Ko J5 s8 rfl ((dO [_] Hsq16 [_] Hrq5 [_] _ m76)).h0 (Ur (eU (af hk m76)))) ?_
       rintro _ w77 uq77
       have m77 : Mem _ _ ([_, _] ++ (Hsq16 ++ ([_] ++ (Hrq5 ++ ([_, _]))))) := bM (dO [_] Hsq16 [_] Hrq5 [_] _ m76) uq77
       refine Zx J3 <| Zx (i64 12) ?_
       refine rN (Z8 ?_)
       refine Yz (Yz ?_)
       refine Qq [(aO (Qy (sS S vk))), J3, (i64 12)] ⟨⟨_, s8, Jq Yc J5 m77.h0⟩, rfl, rfl, trivial⟩ ?_
       have hrc := Qsc (f := f) (too_t hc71 hc72 (by rw [Qdg hb73]; decide))
       have m78 := aF [_] _ m77
       have m79 := aF [_] _ m78
       have m80 := aF Hsq16 _ m79
       have m81 := aF [_] _ m80
       have m82 := aF Hrq5 _ m81
       have m83 := aF [_] _ m82
       have m84 := aF [_] _ m83
       obtain ⟨ho1, ho2, ho3, ho4⟩ := Qlq (b := lb) (Qda hok hin hrc.1) Yx
       rw [ho1, ho2, ho3, ho4]
       exact ⟨bK none 0 0, [], bK none 0 0, [], by rw [if_neg Yx]; rfl, Yu.none Jl 65 69, Z9.none u8 5, by simpa using m84⟩
      ·
       refine Qb <| Qd (Ky Yc J5 s19 m70.h0) <| Qd (Zl (r := 32) F8 rfl Jj Uw rfl s11) <| Qd (Y2 1 Fa rfl ((aN [_] Hsq16 [_] _ m70)).h0 rfl) <| Vr (oc56 (Xl rfl rfl) (Qpq S vk _ _ (af hk m70) sL sL sL (by assumption))) ?_
       rintro _ w85 ⟨vqq86, Hqq86, rfl, gqq86, k_w85⟩
       have m85 : Mem _ _ (Hqq86 ++ ([_] ++ (Hsq16 ++ ([_] ++ (Hrq5 ++ ([_, _, _])))))) := bY (H := [_] ++ (Hsq16 ++ ([_] ++ (Hrq5 ++ ([_, _, _]))))) (H' := Hqq86) m70 k_w85
       refine X9 rfl <| Qd (v := (aO (Qy (sS (Q9 S ((Xf ls).p)) vqq86)))) (Zr rfl rfl) <| Qd (v := (bl true)) (Zr rfl rfl) <| Vd (Ko J5 s19 rfl ((aC Hqq86 [_] _ m85)).h0 (Ur gqq86.one)) ?_
       rintro _ w87 uq87
       have m87 : Mem _ _ ([_] ++ (Hqq86 ++ (Hsq16 ++ ([_] ++ (Hrq5 ++ ([_, _, _])))))) := bM (aC Hqq86 [_] _ m85) uq87
       refine Zx (bl true) ?_
       refine rN (sR ?_)
       refine Zm (bl true) <| Qd (v := (bl false)) (Ag (b := true) rfl) <| rN <| Ja rfl Yx ?_
       refine Qo (Qc (Qa ?_))
       have hb0 := Di (Q9 S (Xf ls).p).r (Yn (Q9 S (Xf ls).p).w (Xf ls).c)
       have hb1 := Ec (Q9 S (Xf ls).p).r (Yn (Q9 S (Xf ls).p).w (Xf ls).c)
       have hb2 := Di (X8 (Q9 S (Xf ls).p).r (Yn (Q9 S (Xf ls).p).w (Xf ls).c)) (Yn f (Xf ls).c)
       have hb3 := Ec (X8 (Q9 S (Xf ls).p).r (Yn (Q9 S (Xf ls).p).w (Xf ls).c)) (Yn f (Xf ls).c)
       have hb4 := Tm (Q9 S (Xf ls).p).w (Xf ls).c
       have hb5 := Tm f (Xf ls).c
       refine Qb <| Qd (Zl (r := 0) F8 rfl Jj Zh rfl s11) <| Qd (Jn 0 Xn Zh rfl ((ai [_] Hqq86 Hsq16 [_] _ m87)).h0 rfl) <| Qd (Zl (r := 64) Yc rfl Jj Zh rfl s19) <| Ye m87 (Ue 2 (sE ((Q9 S ((Xf ls).p)).r) ((Q9 S ((Xf ls).p)).w) ((Xf ls).c) ((Q9 S ((Xf ls).p)).sb) ((Q9 S ((Xf ls).p)).tb) ((Q9 S ((Xf ls).p)).s) ((Q9 S ((Xf ls).p)).t) ((Q9 S ((Xf ls).p)).n1) ((Q9 S ((Xf ls).p)).n2) ((Q9 S ((Xf ls).p)).n3) vqq86) Qr Zh rfl rfl m87.h0 rfl) fun w88 m88 => ?_
       refine rN (Qa ?_)
       refine Jy Xv <| Qbp [(0, false), (1, false), (2, false), (3, false), (4, false), (5, false), (6, false), (7, false), (8, false), (9, false), (10, false), (11, false), (12, true)] 13 [10] rfl Xv <| Gu rfl rfl rfl (fun _ _hx => Zl (r := 0) Yc rfl Jj Zh rfl s19) <| Gu rfl rfl rfl (fun _ _hx => Jn 0 Xn Zh rfl (m88.ext _hx).h0 rfl) <| Gu rfl rfl rfl (fun _ _hx => Zl (r := 32) Yc rfl Jj Zh rfl s19) <| Gu rfl rfl rfl (fun _ _hx => Jn 1 Xn Zh rfl (m88.ext _hx).h0 rfl) <| Gu rfl rfl rfl (fun _ _hx => Zl (r := 64) Yc rfl Jj Zh rfl s19) <| Gu rfl rfl rfl (fun _ _hx => Jn 2 Xn Zh rfl (m88.ext _hx).h0 rfl) <| Qhp (v := (agg u8 (Yn ((Q9 S ((Xf ls).p)).w) ((Xf ls).c)))) rfl rfl rfl (fun w89 e89 => oc36 (Xl rfl rfl) (Qi5 _ _ _ sL sL)) <| Qhp (v := (ak #[(agg u8 (X8 ((Q9 S ((Xf ls).p)).r) (Yn ((Q9 S ((Xf ls).p)).w) ((Xf ls).c)))), (agg u8 (Y7 ((Q9 S ((Xf ls).p)).r) (Yn ((Q9 S ((Xf ls).p)).w) ((Xf ls).c))))])) rfl rfl rfl (fun w92 e92 => oc42 (Xl rfl rfl) (Qed _ _ _ sL sL)) <| Gu rfl rfl rfl (fun _ _hx => Jb rfl) <| Gu rfl rfl rfl (fun _ _hx => Zr rfl rfl) ?_
       refine db_f rfl rfl (fun _ => Zr rfl rfl) <| Gu rfl rfl rfl (fun _ _hx => Zl (r := 0) Yc rfl Jj Zh rfl s19) ?_
       refine db_n Xv rfl (fun w95 e95 => ?_)
       have m95 := m88.ext e95
       refine Vf.mono (Ue 0 (sE (X8 ((Q9 S ((Xf ls).p)).r) (Yn ((Q9 S ((Xf ls).p)).w) ((Xf ls).c))) ((Q9 S ((Xf ls).p)).w) ((Xf ls).c) ((Q9 S ((Xf ls).p)).sb) ((Q9 S ((Xf ls).p)).tb) ((Q9 S ((Xf ls).p)).s) ((Q9 S ((Xf ls).p)).t) ((Q9 S ((Xf ls).p)).n1) ((Q9 S ((Xf ls).p)).n2) ((Q9 S ((Xf ls).p)).n3) vqq86) Qr Zh rfl rfl m95.h0 rfl) ?_
       rintro _ w96 uq96
       have m96 := m95.upd0 uq96
       refine Qhq (fun w97 e97 => ?_)
       have m97 := m96.ext e97
       refine Qd (Zl (r := 130) Yc rfl Jj Zh rfl s19) <| Ye m97 (Ue 6 (sE (X8 ((Q9 S ((Xf ls).p)).r) (Yn ((Q9 S ((Xf ls).p)).w) ((Xf ls).c))) ((Q9 S ((Xf ls).p)).w) ((Xf ls).c) ((Q9 S ((Xf ls).p)).sb) ((Q9 S ((Xf ls).p)).tb) ((Q9 S ((Xf ls).p)).s) (Y7 ((Q9 S ((Xf ls).p)).r) (Yn ((Q9 S ((Xf ls).p)).w) ((Xf ls).c))) ((Q9 S ((Xf ls).p)).n1) ((Q9 S ((Xf ls).p)).n2) ((Q9 S ((Xf ls).p)).n3) vqq86) Qr Zh rfl rfl m97.h0 rfl) fun w98 m98 => ?_
       refine rN (sR ?_)
       refine Qd (Qn Xn rfl Zh s7 ((Mem.pick6 [_] Hqq86 Hsq16 [_] Hrq5 [_] [_] _ m98)).h0 Ph) <| Qd (Zl (r := 32) Yc rfl Jj Zh rfl s19) <| Ye m98 (Ue 1 (sE (X8 ((Q9 S ((Xf ls).p)).r) (Yn ((Q9 S ((Xf ls).p)).w) ((Xf ls).c))) f ((Xf ls).c) ((Q9 S ((Xf ls).p)).sb) ((Q9 S ((Xf ls).p)).tb) ((Q9 S ((Xf ls).p)).s) (Y7 ((Q9 S ((Xf ls).p)).r) (Yn ((Q9 S ((Xf ls).p)).w) ((Xf ls).c))) ((Q9 S ((Xf ls).p)).n1) ((Q9 S ((Xf ls).p)).n2) ((Q9 S ((Xf ls).p)).n3) vqq86) Qr Zh rfl rfl m98.h0 rfl) fun w99 m99 => ?_
       refine rN (Qa ?_)
       refine Jy Xv <| Qbp [(0, false), (1, false), (2, false), (3, false), (4, false), (5, false), (6, false), (7, false), (8, false), (9, false), (10, false), (11, false), (12, true)] 13 [10] rfl Xv <| Gu rfl rfl rfl (fun _ _hx => Zl (r := 0) Yc rfl Jj Zh rfl s19) <| Gu rfl rfl rfl (fun _ _hx => Jn 0 Xn Zh rfl (m99.ext _hx).h0 rfl) <| Gu rfl rfl rfl (fun _ _hx => Zl (r := 32) Yc rfl Jj Zh rfl s19) <| Gu rfl rfl rfl (fun _ _hx => Jn 1 Xn Zh rfl (m99.ext _hx).h0 rfl) <| Gu rfl rfl rfl (fun _ _hx => Zl (r := 64) Yc rfl Jj Zh rfl s19) <| Gu rfl rfl rfl (fun _ _hx => Jn 2 Xn Zh rfl (m99.ext _hx).h0 rfl) <| Qhp (v := (agg u8 (Yn f ((Xf ls).c)))) rfl rfl rfl (fun w100 e100 => oc36 (Xl rfl rfl) (Qi5 _ _ _ sL sL)) <| Qhp (v := (ak #[(agg u8 (X8 (X8 ((Q9 S ((Xf ls).p)).r) (Yn ((Q9 S ((Xf ls).p)).w) ((Xf ls).c))) (Yn f ((Xf ls).c)))), (agg u8 (Y7 (X8 ((Q9 S ((Xf ls).p)).r) (Yn ((Q9 S ((Xf ls).p)).w) ((Xf ls).c))) (Yn f ((Xf ls).c))))])) rfl rfl rfl (fun w103 e103 => oc42 (Xl rfl rfl) (Qed _ _ _ sL sL)) <| Gu rfl rfl rfl (fun _ _hx => Jb rfl) <| Gu rfl rfl rfl (fun _ _hx => Zr rfl rfl) ?_
       refine db_f rfl rfl (fun _ => Zr rfl rfl) <| Gu rfl rfl rfl (fun _ _hx => Zl (r := 0) Yc rfl Jj Zh rfl s19) ?_
       refine db_n Xv rfl (fun w106 e106 => ?_)
       have m106 := m99.ext e106
       refine Vf.mono (Ue 0 (sE (X8 (X8 ((Q9 S ((Xf ls).p)).r) (Yn ((Q9 S ((Xf ls).p)).w) ((Xf ls).c))) (Yn f ((Xf ls).c))) f ((Xf ls).c) ((Q9 S ((Xf ls).p)).sb) ((Q9 S ((Xf ls).p)).tb) ((Q9 S ((Xf ls).p)).s) (Y7 ((Q9 S ((Xf ls).p)).r) (Yn ((Q9 S ((Xf ls).p)).w) ((Xf ls).c))) ((Q9 S ((Xf ls).p)).n1) ((Q9 S ((Xf ls).p)).n2) ((Q9 S ((Xf ls).p)).n3) vqq86) Qr Zh rfl rfl m106.h0 rfl) ?_
       rintro _ w107 uq107
       have m107 := m106.upd0 uq107
       refine Qhq (fun w108 e108 => ?_)
       have m108 := m107.ext e108
       refine Qd (Zl (r := 98) Yc rfl Jj Zh rfl s19) <| Ye m108 (Ue 5 (sE (X8 (X8 ((Q9 S ((Xf ls).p)).r) (Yn ((Q9 S ((Xf ls).p)).w) ((Xf ls).c))) (Yn f ((Xf ls).c))) f ((Xf ls).c) ((Q9 S ((Xf ls).p)).sb) ((Q9 S ((Xf ls).p)).tb) (Y7 (X8 ((Q9 S ((Xf ls).p)).r) (Yn ((Q9 S ((Xf ls).p)).w) ((Xf ls).c))) (Yn f ((Xf ls).c))) (Y7 ((Q9 S ((Xf ls).p)).r) (Yn ((Q9 S ((Xf ls).p)).w) ((Xf ls).c))) ((Q9 S ((Xf ls).p)).n1) ((Q9 S ((Xf ls).p)).n2) ((Q9 S ((Xf ls).p)).n3) vqq86) Qr Zh rfl rfl m108.h0 rfl) fun w109 m109 => ?_
       refine rN (sR ?_)
       refine Qd (Zl (r := 96) Yc rfl Jj ti4 rfl s19) <| Ye m109 (Ud 3 (sE (X8 (X8 ((Q9 S ((Xf ls).p)).r) (Yn ((Q9 S ((Xf ls).p)).w) ((Xf ls).c))) (Yn f ((Xf ls).c))) f ((Xf ls).c) true ((Q9 S ((Xf ls).p)).tb) (Y7 (X8 ((Q9 S ((Xf ls).p)).r) (Yn ((Q9 S ((Xf ls).p)).w) ((Xf ls).c))) (Yn f ((Xf ls).c))) (Y7 ((Q9 S ((Xf ls).p)).r) (Yn ((Q9 S ((Xf ls).p)).w) ((Xf ls).c))) ((Q9 S ((Xf ls).p)).n1) ((Q9 S ((Xf ls).p)).n2) ((Q9 S ((Xf ls).p)).n3) vqq86) ti4 rfl rfl rfl m109.h0 rfl rfl) fun w110 m110 => ?_
       refine rN (sR ?_)
       refine Qd (Zl (r := 97) Yc rfl Jj ti4 rfl s19) <| Ye m110 (Ud 4 (sE (X8 (X8 ((Q9 S ((Xf ls).p)).r) (Yn ((Q9 S ((Xf ls).p)).w) ((Xf ls).c))) (Yn f ((Xf ls).c))) f ((Xf ls).c) true true (Y7 (X8 ((Q9 S ((Xf ls).p)).r) (Yn ((Q9 S ((Xf ls).p)).w) ((Xf ls).c))) (Yn f ((Xf ls).c))) (Y7 ((Q9 S ((Xf ls).p)).r) (Yn ((Q9 S ((Xf ls).p)).w) ((Xf ls).c))) ((Q9 S ((Xf ls).p)).n1) ((Q9 S ((Xf ls).p)).n2) ((Q9 S ((Xf ls).p)).n3) vqq86) ti4 rfl rfl rfl m110.h0 rfl rfl) fun w111 m111 => ?_
       refine rN (sR ?_)
       refine Qd (Zl (r := 162) Yc rfl Jj Uw rfl s19) <| Qd (Y2 7 Fa rfl m111.h0 rfl) <| Qd (Zl (r := 164) Yc rfl Jj Uw rfl s19) <| Ye m111 (Ud 9 (sE (X8 (X8 ((Q9 S ((Xf ls).p)).r) (Yn ((Q9 S ((Xf ls).p)).w) ((Xf ls).c))) (Yn f ((Xf ls).c))) f ((Xf ls).c) true true (Y7 (X8 ((Q9 S ((Xf ls).p)).r) (Yn ((Q9 S ((Xf ls).p)).w) ((Xf ls).c))) (Yn f ((Xf ls).c))) (Y7 ((Q9 S ((Xf ls).p)).r) (Yn ((Q9 S ((Xf ls).p)).w) ((Xf ls).c))) ((Q9 S ((Xf ls).p)).n1) ((Q9 S ((Xf ls).p)).n2) ((Q9 S ((Xf ls).p)).n1) vqq86) Uw rfl rfl (Zw _) m111.h0 rfl rfl) fun w112 m112 => ?_
       refine rN (sR ?_)
       refine Qd (Zl (r := 162) Yc rfl Jj Uw rfl s19) <| Ye m112 (Ud 7 (sE (X8 (X8 ((Q9 S ((Xf ls).p)).r) (Yn ((Q9 S ((Xf ls).p)).w) ((Xf ls).c))) (Yn f ((Xf ls).c))) f ((Xf ls).c) true true (Y7 (X8 ((Q9 S ((Xf ls).p)).r) (Yn ((Q9 S ((Xf ls).p)).w) ((Xf ls).c))) (Yn f ((Xf ls).c))) (Y7 ((Q9 S ((Xf ls).p)).r) (Yn ((Q9 S ((Xf ls).p)).w) ((Xf ls).c))) 0 ((Q9 S ((Xf ls).p)).n2) ((Q9 S ((Xf ls).p)).n1) vqq86) Uw rfl rfl (Zw _) m112.h0 rfl rfl) fun w113 m113 => ?_
       refine rN (Qb ?_)
       refine Qd (Zl (r := 163) Yc rfl Jj Uw rfl s19) <| Ye m113 (Ud 8 (sE (X8 (X8 ((Q9 S ((Xf ls).p)).r) (Yn ((Q9 S ((Xf ls).p)).w) ((Xf ls).c))) (Yn f ((Xf ls).c))) f ((Xf ls).c) true true (Y7 (X8 ((Q9 S ((Xf ls).p)).r) (Yn ((Q9 S ((Xf ls).p)).w) ((Xf ls).c))) (Yn f ((Xf ls).c))) (Y7 ((Q9 S ((Xf ls).p)).r) (Yn ((Q9 S ((Xf ls).p)).w) ((Xf ls).c))) 0 0 ((Q9 S ((Xf ls).p)).n1) vqq86) Uw rfl rfl (Zw _) m113.h0 rfl rfl) fun w114 m114 => rN ?_
       have hj0 := rch0_c (f := f) hc71 hc72
       exact ⟨vqq86, Hqq86, (by rw [hj0]; exact HK.own gqq86 rfl), (too_c (Qdh hb73)), s0, s1, s2, s3, s4, s7, s8, s11, s12, s13, s14, s15, s19, rfl, s31, s42, s108, (by rw [hj0, Qjo hhc hfl, Qd3 (Q9 S (Xf ls).p).hw hhc, Qd3 hfl hhc]; exact (by
        have hT := m114
        try simp only [aQ, aW, aX, aZ] at hT ⊢
        exact hT))⟩
     ·
      refine Qo (Qc (Qa ?_))
      have hb0 := Di S.r (Yn S.w (Xf ls).c)
      have hb1 := Ec S.r (Yn S.w (Xf ls).c)
      have hb2 := Di (X8 S.r (Yn S.w (Xf ls).c)) (Yn f (Xf ls).c)
      have hb3 := Ec (X8 S.r (Yn S.w (Xf ls).c)) (Yn f (Xf ls).c)
      have hb4 := Tm S.w (Xf ls).c
      have hb5 := Tm f (Xf ls).c
      refine Qb <| Qd (Zl (r := 0) F8 rfl Jj Zh rfl s11) <| Qd (Jn 0 Xn Zh rfl ((aN [_] Hsq16 [_] _ m70)).h0 rfl) <| Qd (Zl (r := 64) Yc rfl Jj Zh rfl s19) <| Ye m70 (Ue 2 (sE S.r S.w ((Xf ls).c) S.sb S.tb S.s S.t S.n1 S.n2 S.n3 vk) Qr Zh rfl rfl m70.h0 rfl) fun w115 m115 => ?_
      refine rN (Qa ?_)
      refine Jy Xv <| Qbp [(0, false), (1, false), (2, false), (3, false), (4, false), (5, false), (6, false), (7, false), (8, false), (9, false), (10, false), (11, false), (12, true)] 13 [10] rfl Xv <| Gu rfl rfl rfl (fun _ _hx => Zl (r := 0) Yc rfl Jj Zh rfl s19) <| Gu rfl rfl rfl (fun _ _hx => Jn 0 Xn Zh rfl (m115.ext _hx).h0 rfl) <| Gu rfl rfl rfl (fun _ _hx => Zl (r := 32) Yc rfl Jj Zh rfl s19) <| Gu rfl rfl rfl (fun _ _hx => Jn 1 Xn Zh rfl (m115.ext _hx).h0 rfl) <| Gu rfl rfl rfl (fun _ _hx => Zl (r := 64) Yc rfl Jj Zh rfl s19) <| Gu rfl rfl rfl (fun _ _hx => Jn 2 Xn Zh rfl (m115.ext _hx).h0 rfl) <| Qhp (v := (agg u8 (Yn S.w ((Xf ls).c)))) rfl rfl rfl (fun w116 e116 => oc36 (Xl rfl rfl) (Qi5 _ _ _ sL sL)) <| Qhp (v := (ak #[(agg u8 (X8 S.r (Yn S.w ((Xf ls).c)))), (agg u8 (Y7 S.r (Yn S.w ((Xf ls).c))))])) rfl rfl rfl (fun w119 e119 => oc42 (Xl rfl rfl) (Qed _ _ _ sL sL)) <| Gu rfl rfl rfl (fun _ _hx => Jb rfl) <| Gu rfl rfl rfl (fun _ _hx => Zr rfl rfl) ?_
      refine db_f rfl rfl (fun _ => Zr rfl rfl) <| Gu rfl rfl rfl (fun _ _hx => Zl (r := 0) Yc rfl Jj Zh rfl s19) ?_
      refine db_n Xv rfl (fun w122 e122 => ?_)
      have m122 := m115.ext e122
      refine Vf.mono (Ue 0 (sE (X8 S.r (Yn S.w ((Xf ls).c))) S.w ((Xf ls).c) S.sb S.tb S.s S.t S.n1 S.n2 S.n3 vk) Qr Zh rfl rfl m122.h0 rfl) ?_
      rintro _ w123 uq123
      have m123 := m122.upd0 uq123
      refine Qhq (fun w124 e124 => ?_)
      have m124 := m123.ext e124
      refine Qd (Zl (r := 130) Yc rfl Jj Zh rfl s19) <| Ye m124 (Ue 6 (sE (X8 S.r (Yn S.w ((Xf ls).c))) S.w ((Xf ls).c) S.sb S.tb S.s (Y7 S.r (Yn S.w ((Xf ls).c))) S.n1 S.n2 S.n3 vk) Qr Zh rfl rfl m124.h0 rfl) fun w125 m125 => ?_
      refine rN (sR ?_)
      refine Qd (Qn Xn rfl Zh s7 ((dn [_] Hsq16 [_] Hrq5 [_] [_] _ m125)).h0 Ph) <| Qd (Zl (r := 32) Yc rfl Jj Zh rfl s19) <| Ye m125 (Ue 1 (sE (X8 S.r (Yn S.w ((Xf ls).c))) f ((Xf ls).c) S.sb S.tb S.s (Y7 S.r (Yn S.w ((Xf ls).c))) S.n1 S.n2 S.n3 vk) Qr Zh rfl rfl m125.h0 rfl) fun w126 m126 => ?_
      refine rN (Qa ?_)
      refine Jy Xv <| Qbp [(0, false), (1, false), (2, false), (3, false), (4, false), (5, false), (6, false), (7, false), (8, false), (9, false), (10, false), (11, false), (12, true)] 13 [10] rfl Xv <| Gu rfl rfl rfl (fun _ _hx => Zl (r := 0) Yc rfl Jj Zh rfl s19) <| Gu rfl rfl rfl (fun _ _hx => Jn 0 Xn Zh rfl (m126.ext _hx).h0 rfl) <| Gu rfl rfl rfl (fun _ _hx => Zl (r := 32) Yc rfl Jj Zh rfl s19) <| Gu rfl rfl rfl (fun _ _hx => Jn 1 Xn Zh rfl (m126.ext _hx).h0 rfl) <| Gu rfl rfl rfl (fun _ _hx => Zl (r := 64) Yc rfl Jj Zh rfl s19) <| Gu rfl rfl rfl (fun _ _hx => Jn 2 Xn Zh rfl (m126.ext _hx).h0 rfl) <| Qhp (v := (agg u8 (Yn f ((Xf ls).c)))) rfl rfl rfl (fun w127 e127 => oc36 (Xl rfl rfl) (Qi5 _ _ _ sL sL)) <| Qhp (v := (ak #[(agg u8 (X8 (X8 S.r (Yn S.w ((Xf ls).c))) (Yn f ((Xf ls).c)))), (agg u8 (Y7 (X8 S.r (Yn S.w ((Xf ls).c))) (Yn f ((Xf ls).c))))])) rfl rfl rfl (fun w130 e130 => oc42 (Xl rfl rfl) (Qed _ _ _ sL sL)) <| Gu rfl rfl rfl (fun _ _hx => Jb rfl) <| Gu rfl rfl rfl (fun _ _hx => Zr rfl rfl) ?_
      refine db_f rfl rfl (fun _ => Zr rfl rfl) <| Gu rfl rfl rfl (fun _ _hx => Zl (r := 0) Yc rfl Jj Zh rfl s19) ?_
      refine db_n Xv rfl (fun w133 e133 => ?_)
      have m133 := m126.ext e133
      refine Vf.mono (Ue 0 (sE (X8 (X8 S.r (Yn S.w ((Xf ls).c))) (Yn f ((Xf ls).c))) f ((Xf ls).c) S.sb S.tb S.s (Y7 S.r (Yn S.w ((Xf ls).c))) S.n1 S.n2 S.n3 vk) Qr Zh rfl rfl m133.h0 rfl) ?_
      rintro _ w134 uq134
      have m134 := m133.upd0 uq134
      refine Qhq (fun w135 e135 => ?_)
      have m135 := m134.ext e135
      refine Qd (Zl (r := 98) Yc rfl Jj Zh rfl s19) <| Ye m135 (Ue 5 (sE (X8 (X8 S.r (Yn S.w ((Xf ls).c))) (Yn f ((Xf ls).c))) f ((Xf ls).c) S.sb S.tb (Y7 (X8 S.r (Yn S.w ((Xf ls).c))) (Yn f ((Xf ls).c))) (Y7 S.r (Yn S.w ((Xf ls).c))) S.n1 S.n2 S.n3 vk) Qr Zh rfl rfl m135.h0 rfl) fun w136 m136 => ?_
      refine rN (sR ?_)
      refine Qd (Zl (r := 96) Yc rfl Jj ti4 rfl s19) <| Ye m136 (Ud 3 (sE (X8 (X8 S.r (Yn S.w ((Xf ls).c))) (Yn f ((Xf ls).c))) f ((Xf ls).c) true S.tb (Y7 (X8 S.r (Yn S.w ((Xf ls).c))) (Yn f ((Xf ls).c))) (Y7 S.r (Yn S.w ((Xf ls).c))) S.n1 S.n2 S.n3 vk) ti4 rfl rfl rfl m136.h0 rfl rfl) fun w137 m137 => ?_
      refine rN (sR ?_)
      refine Qd (Zl (r := 97) Yc rfl Jj ti4 rfl s19) <| Ye m137 (Ud 4 (sE (X8 (X8 S.r (Yn S.w ((Xf ls).c))) (Yn f ((Xf ls).c))) f ((Xf ls).c) true true (Y7 (X8 S.r (Yn S.w ((Xf ls).c))) (Yn f ((Xf ls).c))) (Y7 S.r (Yn S.w ((Xf ls).c))) S.n1 S.n2 S.n3 vk) ti4 rfl rfl rfl m137.h0 rfl rfl) fun w138 m138 => ?_
      refine rN (sR ?_)
      refine Qd (Zl (r := 162) Yc rfl Jj Uw rfl s19) <| Qd (Y2 7 Fa rfl m138.h0 rfl) <| Qd (Zl (r := 164) Yc rfl Jj Uw rfl s19) <| Ye m138 (Ud 9 (sE (X8 (X8 S.r (Yn S.w ((Xf ls).c))) (Yn f ((Xf ls).c))) f ((Xf ls).c) true true (Y7 (X8 S.r (Yn S.w ((Xf ls).c))) (Yn f ((Xf ls).c))) (Y7 S.r (Yn S.w ((Xf ls).c))) S.n1 S.n2 S.n1 vk) Uw rfl rfl (Zw _) m138.h0 rfl rfl) fun w139 m139 => ?_
      refine rN (sR ?_)
      refine Qd (Zl (r := 162) Yc rfl Jj Uw rfl s19) <| Ye m139 (Ud 7 (sE (X8 (X8 S.r (Yn S.w ((Xf ls).c))) (Yn f ((Xf ls).c))) f ((Xf ls).c) true true (Y7 (X8 S.r (Yn S.w ((Xf ls).c))) (Yn f ((Xf ls).c))) (Y7 S.r (Yn S.w ((Xf ls).c))) 0 S.n2 S.n1 vk) Uw rfl rfl (Zw _) m139.h0 rfl rfl) fun w140 m140 => ?_
      refine rN (Qb ?_)
      refine Qd (Zl (r := 163) Yc rfl Jj Uw rfl s19) <| Ye m140 (Ud 8 (sE (X8 (X8 S.r (Yn S.w ((Xf ls).c))) (Yn f ((Xf ls).c))) f ((Xf ls).c) true true (Y7 (X8 S.r (Yn S.w ((Xf ls).c))) (Yn f ((Xf ls).c))) (Y7 S.r (Yn S.w ((Xf ls).c))) 0 0 S.n1 vk) Uw rfl rfl (Zw _) m140.h0 rfl rfl) fun w141 m141 => rN ?_
      have hj0 := Qp7 (f := f) hc71 hc72
      exact ⟨vk, [], (by rw [hj0]; exact HK.old hk rfl), (too_b hc72), s0, s1, s2, s3, s4, s7, s8, s11, s12, s13, s14, s15, s19, s20, s31, s42, s108, (by rw [hj0, Qjo hhc hfl, Qd3 S.hw hhc, Qd3 hfl hhc]; exact (by
       have hT := m141
       try simp only [aQ, aW, aX, aZ] at hT ⊢
       exact hT))⟩
    ·
     refine Qo (Qc ?_)
     have hj0 := rch0_a (f := f) hc71
     exact ⟨vk, [], (by rw [hj0]; exact HK.old hk rfl), (too_a hc71), s0, s1, s2, s3, s4, s7, s8, s11, s12, s13, s14, s15, s19, s20, s31, s42, s108, (by rw [hj0]; exact (by
      have hT := m70
      try simp only [aQ, aW, aX, aZ] at hT ⊢
      exact hT))⟩
   rintro fr142 w143 ⟨vj, Hj, hkj, htoo, s0, s1, s2, s3, s4, s7, s8, s11, s12, s13, s14, s15, s19, s20, s31, s42, s108, m143⟩
   refine Qa (sR ?_)
   refine Qd (Zl (r := 33) F8 rfl Jj Uw rfl s11) <| Qd (Y2 2 Fa rfl ((ai [_] Hj Hsq16 [_] _ m143)).h0 rfl) <| Qd (Zl (r := 163) Yc rfl Jj Uw rfl s19) <| Qd (Y2 8 Fa rfl m143.h0 rfl) <| Qd (Xd rfl rfl) <| rN ?_
   refine Zz rfl (fun hc144 => ?_) (fun hc144 => ?_)
   ·
    have hc144p := of_decide_eq_true hc144
    refine sR <| Qd (Ky Yc J5 s4 ((Mem.pick6 [_] Hj Hsq16 [_] Hrq5 [_, _] [_] _ m143)).h0) <| Vd (Ko J5 s8 rfl ((dn [_] Hj Hsq16 [_] Hrq5 [_] _ m143)).h0 (Ur (eU (af hk m143)))) ?_
    rintro _ w145 uq145
    have m145 : Mem _ _ ([_, _] ++ (Hj ++ (Hsq16 ++ ([_] ++ (Hrq5 ++ ([_, _])))))) := bM (dn [_] Hj Hsq16 [_] Hrq5 [_] _ m143) uq145
    refine Zx J3 <| Zx (i64 11) ?_
    refine rN (Z8 (Yz ?_))
    refine Qq [(aO (Qy (sS S vk))), J3, (i64 11)] ⟨⟨_, s8, Jq Yc J5 m145.h0⟩, rfl, rfl, trivial⟩ ?_
    have hrc := Qsd htoo hc144p
    have m146 := aF [_] _ m145
    have m147 := aF [_] _ m146
    have m148 := aF Hj _ m147
    have m149 := aF Hsq16 _ m148
    have m150 := aF [_] _ m149
    have m151 := aF Hrq5 _ m150
    have m152 := aF [_] _ m151
    have m153 := aF [_] _ m152
    obtain ⟨ho1, ho2, ho3, ho4⟩ := Qlq (b := lb) (Qda hok hin hrc.1) Yx
    rw [ho1, ho2, ho3, ho4]
    exact ⟨bK none 0 0, [], bK none 0 0, [], by rw [if_neg Yx]; rfl, Yu.none Jl 65 69, Z9.none u8 5, by simpa using m153⟩
   ·
    have hc144p := of_decide_eq_false hc144
    refine Qo (Qc (Qa ?_))
    rcases eX (Qar (Jo S (Xf ls) f) (Xf ls).n) with hb154 | hb154
    ·
     refine Qb <| Qd (Ky Yc J5 s19 m143.h0) <| Qd (Zl (r := 33) F8 rfl Jj Uw rfl s11) <| Qd (Y2 2 Fa rfl ((ai [_] Hj Hsq16 [_] _ m143)).h0 rfl) <| U5 m143 (oc56 (Xl rfl rfl) (Qkn (Jo S (Xf ls) f) vj _ _ (HK.rd hkj (aC [_] Hj _ m143)) sL sL sL (by assumption))) fun w155 m155 => Zm (ak #[(aO (Qy (sS (Jo S (Xf ls) f) vj))), (bl false)]) <| Qd (v := (aO (Qy (sS (Jo S (Xf ls) f) vj)))) (Zr rfl rfl) <| Qd (v := (bl false)) (Zr rfl rfl) <| Ye m155 (Ko J5 s19 rfl m155.h0 (Ur (eU (HK.rd hkj (aC [_] Hj _ m155))))) fun w157 m157 => Zx (bl false) ?_
     refine rN (Qa (sR ?_))
     refine Zm (bl false) <| Qd (v := (bl true)) (Ag (b := false) rfl) <| rN <| Za rfl Yx <| sR <| Qd (Ky Yc J5 s4 ((Mem.pick6 [_] Hj Hsq16 [_] Hrq5 [_, _] [_] _ m157)).h0) <| Vd (Ko J5 s8 rfl ((dn [_] Hj Hsq16 [_] Hrq5 [_] _ m157)).h0 (Ur (eU (af hk m157)))) ?_
     rintro _ w158 uq158
     have m158 : Mem _ _ ([_, _] ++ (Hj ++ (Hsq16 ++ ([_] ++ (Hrq5 ++ ([_, _])))))) := bM (dn [_] Hj Hsq16 [_] Hrq5 [_] _ m157) uq158
     refine Zx J3 <| Zx (i64 12) ?_
     refine rN (Z8 (Yz ?_))
     refine Qq [(aO (Qy (sS S vk))), J3, (i64 12)] ⟨⟨_, s8, Jq Yc J5 m158.h0⟩, rfl, rfl, trivial⟩ ?_
     have hrc := Qse htoo hc144p (by rw [Qdg hb154]; decide)
     have m159 := aF [_] _ m158
     have m160 := aF [_] _ m159
     have m161 := aF Hj _ m160
     have m162 := aF Hsq16 _ m161
     have m163 := aF [_] _ m162
     have m164 := aF Hrq5 _ m163
     have m165 := aF [_] _ m164
     have m166 := aF [_] _ m165
     obtain ⟨ho1, ho2, ho3, ho4⟩ := Qlq (b := lb) (Qda hok hin (hrc.1.trans (Qdg hb154))) Yx
     rw [ho1, ho2, ho3, ho4]
     exact ⟨bK none 0 0, [], bK none 0 0, [], by rw [if_neg Yx]; rfl, Yu.none Jl 65 69, Z9.none u8 5, by simpa using m166⟩
    ·
     refine Qb <| Qd (Ky Yc J5 s19 m143.h0) <| Qd (Zl (r := 33) F8 rfl Jj Uw rfl s11) <| Qd (Y2 2 Fa rfl ((ai [_] Hj Hsq16 [_] _ m143)).h0 rfl) <| Vr (oc56 (Xl rfl rfl) (Qpq (Jo S (Xf ls) f) vj _ _ (HK.rd hkj (aC [_] Hj _ m143)) sL sL sL (by assumption))) ?_
     rintro _ w167 ⟨vqq168, Hqq168, rfl, gqq168, k_w167⟩
     have m167 : Mem _ _ (Hqq168 ++ ([_] ++ (Hj ++ (Hsq16 ++ ([_] ++ (Hrq5 ++ ([_, _, _]))))))) := bY (H := [_] ++ (Hj ++ (Hsq16 ++ ([_] ++ (Hrq5 ++ ([_, _, _])))))) (H' := Hqq168) m143 k_w167
     refine X9 rfl <| Qd (v := (aO (Qy (sS (Q9 (Jo S (Xf ls) f) ((Xf ls).n)) vqq168)))) (Zr rfl rfl) <| Qd (v := (bl true)) (Zr rfl rfl) <| Vd (Ko J5 s19 rfl ((aC Hqq168 [_] _ m167)).h0 (Ur gqq168.one)) ?_
     rintro _ w169 uq169
     have m169 : Mem _ _ ([_] ++ (Hqq168 ++ (Hj ++ (Hsq16 ++ ([_] ++ (Hrq5 ++ ([_, _, _]))))))) := bM (aC Hqq168 [_] _ m167) uq169
     refine Zx (bl true) <| rN ?_
     have m170 := aF Hj _ (aN [_] Hqq168 Hj _ m169)
     refine Qa (sR ?_)
     refine Zm (bl true) <| Qd (v := (bl false)) (Ag (b := true) rfl) <| rN <| Ja rfl Yx ?_
     refine Qo (Qc (sR ?_))
     refine Qd (Zl (r := 130) Yc rfl Jj Zh rfl s19) <| Qd (Jn 6 Xn Zh rfl m170.h0 rfl) <| U5 m170 (oc37 (Jz rfl) (Qsz _ _ sL)) fun w171 m171 => X9 rfl <| Qd (v := (agg u8 (Xc ((Q9 (Jo S (Xf ls) f) ((Xf ls).n)).t) [2#8]))) (Zr rfl rfl) <| Qd (v := (agg u8 (Xc ((Q9 (Jo S (Xf ls) f) ((Xf ls).n)).t) [1#8]))) (Zr rfl rfl) <| Y5 (Q7 m171 Zh) fun w173 b21 m173 => Y5 (Q7 m173 Zh) fun w174 b22 m174 => Vs m174 (Qg (f := u8) (l := Xc ((Q9 (Jo S (Xf ls) f) ((Xf ls).n)).t) [2#8]) Qr Zh rfl rfl sL m174.h1 Ph rfl) fun w175 m175 => Ye m175 (Qg (f := u8) (l := Xc ((Q9 (Jo S (Xf ls) f) ((Xf ls).n)).t) [1#8]) Qr Zh rfl rfl sL m175.h0 Ph rfl) fun w176 m176 => ?_
     refine rN (sR ?_)
     refine Qd (Qn Xn rfl Zh rfl m176.h1 Ph) <| Qd (Zl (r := 130) Yc rfl Jj Zh rfl s19) <| Bj m176 (Ue 6 (sE ((Q9 (Jo S (Xf ls) f) ((Xf ls).n)).r) ((Q9 (Jo S (Xf ls) f) ((Xf ls).n)).w) ((Q9 (Jo S (Xf ls) f) ((Xf ls).n)).o) ((Q9 (Jo S (Xf ls) f) ((Xf ls).n)).sb) ((Q9 (Jo S (Xf ls) f) ((Xf ls).n)).tb) ((Q9 (Jo S (Xf ls) f) ((Xf ls).n)).s) (Xc ((Q9 (Jo S (Xf ls) f) ((Xf ls).n)).t) [2#8]) ((Q9 (Jo S (Xf ls) f) ((Xf ls).n)).n1) ((Q9 (Jo S (Xf ls) f) ((Xf ls).n)).n2) ((Q9 (Jo S (Xf ls) f) ((Xf ls).n)).n3) vqq168) Qr Zh rfl rfl m176.h2 rfl) fun w177 m177 => ?_
     refine rN (sR ?_)
     refine Qd (Zl (r := 163) Yc rfl Jj Uw rfl s19) <| Qd (Y2 8 Fa rfl m177.h2 rfl) <| Qd (Zg (b := 1) rfl rfl oM oM) <| Qd (Zl (r := 163) Yc rfl Jj Uw rfl s19) <| Bj m177 (Ud 8 (sE ((Q9 (Jo S (Xf ls) f) ((Xf ls).n)).r) ((Q9 (Jo S (Xf ls) f) ((Xf ls).n)).w) ((Q9 (Jo S (Xf ls) f) ((Xf ls).n)).o) ((Q9 (Jo S (Xf ls) f) ((Xf ls).n)).sb) ((Q9 (Jo S (Xf ls) f) ((Xf ls).n)).tb) ((Q9 (Jo S (Xf ls) f) ((Xf ls).n)).s) (Xc ((Q9 (Jo S (Xf ls) f) ((Xf ls).n)).t) [2#8]) ((Q9 (Jo S (Xf ls) f) ((Xf ls).n)).n1) (((Q9 (Jo S (Xf ls) f) ((Xf ls).n)).n2) + 1) ((Q9 (Jo S (Xf ls) f) ((Xf ls).n)).n3) vqq168) Uw rfl rfl (Zw _) m177.h2 rfl rfl) fun w178 m178 => ?_
     refine rN (sR ?_)
     refine Qd (Qn Xn rfl Zh rfl m178.h0 Ph) <| Qd (Ve (ps := []) (c := (cl u8 (aA 12 0))) Qba Pm Yr Ya rfl) <| X9 s14 <| X9 s12 <| Vr (oc55 (Ry rfl rfl rfl rfl) (Qs0 _ _ rq16 (lb ++ ((ls.drop 0).take 40)) vrq5 (hdR ls) _ sL sL (grq16.rd (aN [_, _, _] Hqq168 Hsq16 _ m178)) sL (grq5.rd (dO [_, _, _] Hqq168 Hsq16 [_] Hrq5 _ m178)) sL)) ?_
     rintro _ w179 ⟨vxq180, Hsq180, rfl, gvxq180, k_w179⟩
     have m179 : Mem _ _ (Hsq180 ++ ([_, _, _] ++ (Hqq168 ++ (Hsq16 ++ ([_] ++ (Hrq5 ++ ([_, _, _]))))))) := bY (H := [_, _, _] ++ (Hqq168 ++ (Hsq16 ++ ([_] ++ (Hrq5 ++ ([_, _, _])))))) (H' := Hsq180) m178 k_w179
     refine X9 rfl <| Qd (v := vxq180) (Zr rfl rfl) <| Qd (v := (i64 (Su (Xc ((Q9 (Jo S (Xf ls) f) ((Xf ls).n)).t) [1#8]) (aA 12 0) (lb ++ ((ls.drop 0).take 40)) (hdR ls)))) (Zr rfl rfl) <| Zx vxq180 <| Tc rfl ?_
     refine rN (Qa (sR ?_))
     refine X9 rfl <| Qd (Kz (b := 0) rfl rfl) <| rN ?_
     refine Zz rfl (fun hc181 => ?_) (fun hc181 => ?_)
     ·
      have hc181p := bne_iff_ne.1 hc181
      refine sR <| Qd (Ky Yc J5 s4 ((Mem.pick7 Hsq180 [_, _, _] Hqq168 Hsq16 [_] Hrq5 [_, _] [_] _ m179)).h0) <| X9 rfl <| Vd (Ko J5 s8 rfl ((Mem.pick6 Hsq180 [_, _, _] Hqq168 Hsq16 [_] Hrq5 [_] _ m179)).h0 (Ur (eU (af hk m179)))) ?_
      rintro _ w182 uq182
      have m182 : Mem _ _ ([_] ++ (Hsq180 ++ ([_, _, _] ++ (Hqq168 ++ (Hsq16 ++ ([_] ++ (Hrq5 ++ ([_, _])))))))) := bM (Mem.pick6 Hsq180 [_, _, _] Hqq168 Hsq16 [_] Hrq5 [_] _ m179) uq182
      refine Zx J3 <| Tc rfl ?_
      refine rN (Z8 (Yz ?_))
      refine Qq [(aO (Qy (sS S vk))), J3, (i64 (Su (Xc ((Q9 (Jo S (Xf ls) f) ((Xf ls).n)).t) [1#8]) (aA 12 0) (lb ++ ((ls.drop 0).take 40)) (hdR ls)))] ⟨⟨_, s8, Jq Yc J5 m182.h0⟩, rfl, rfl, trivial⟩ ?_
      have hrc := Qmy htoo hc144p (Qdh hb154)
      have hd1 := Qda hok hin hrc.1
      have hj1 := (Qgc (f := f) hin).trans hrc.2.2
      have hj0 := (Qiz (f := f) hin).trans hrc.2.1
      have hon : Qcy (Nk S ls f) lb ls = (Su (Xc ((Q9 (Jo S (Xf ls) f) ((Xf ls).n)).t) [1#8]) (aA 12 0) (lb ++ ((ls.drop 0).take 40)) (hdR ls)) := by unfold Qcy; rw [hj1, ← hrr]; rfl
      have m183 := aF [_] _ m182
      have m184 := aF Hsq180 _ m183
      have m185 := aF [_] _ m184
      have m186 := aF [_] _ m185
      have m187 := aF [_] _ m186
      have m188 := aF Hqq168 _ m187
      have m189 := aF Hsq16 _ m188
      have m190 := aF [_] _ m189
      have m191 := aF Hrq5 _ m190
      have m192 := aF [_] _ m191
      have m193 := aF [_] _ m192
      obtain ⟨ho1, ho2, ho3, ho4⟩ := out_2 hd1 (by rw [hon]; exact bne_iff_ne.1 hc181)
      rw [ho1, ho2, ho3, ho4]
      exact ⟨bK none 0 0, [], bK none 0 0, [], by rw [if_neg (by rw [hon]; exact bne_iff_ne.1 hc181)]; rw [hon]; rfl, Yu.none Jl 65 69, Z9.none u8 5, by simpa using m193⟩
     ·
      have hc181p := Yd hc181
      refine Qo (Qc (sR ?_))
      refine Qd (Ky Yc J5 s19 ((aN Hsq180 [_, _] [_] _ m179)).h0) <| Zm vxq180 <| Vd (Ko J5 s8 rfl ((Mem.pick6 Hsq180 [_, _, _] Hqq168 Hsq16 [_] Hrq5 [_] _ m179)).h0 (Ur gqq168.one)) ?_
      rintro _ w194 uq194
      have m194 : Mem _ _ ([_] ++ (Hsq180 ++ ([_, _, _] ++ (Hqq168 ++ (Hsq16 ++ ([_] ++ (Hrq5 ++ ([_, _])))))))) := bM (Mem.pick6 Hsq180 [_, _, _] Hqq168 Hsq16 [_] Hrq5 [_] _ m179) uq194
      refine Zx vxq180 <| Zx (i64 0) ?_
      refine rN (Z8 ?_)
      refine Qq [(aO (Qy (sE ((Q9 (Jo S (Xf ls) f) ((Xf ls).n)).r) ((Q9 (Jo S (Xf ls) f) ((Xf ls).n)).w) ((Q9 (Jo S (Xf ls) f) ((Xf ls).n)).o) ((Q9 (Jo S (Xf ls) f) ((Xf ls).n)).sb) ((Q9 (Jo S (Xf ls) f) ((Xf ls).n)).tb) ((Q9 (Jo S (Xf ls) f) ((Xf ls).n)).s) (Xc ((Q9 (Jo S (Xf ls) f) ((Xf ls).n)).t) [2#8]) ((Q9 (Jo S (Xf ls) f) ((Xf ls).n)).n1) (((Q9 (Jo S (Xf ls) f) ((Xf ls).n)).n2) + 1) ((Q9 (Jo S (Xf ls) f) ((Xf ls).n)).n3) vqq168))), vxq180, (i64 0)] ⟨⟨_, s8, Jq Yc J5 m194.h0⟩, rfl, rfl, trivial⟩ ?_
      have hrc := Qmy htoo hc144p (Qdh hb154)
      have hd1 := Qda hok hin hrc.1
      have hj1 := (Qgc (f := f) hin).trans hrc.2.2
      have hj0 := (Qiz (f := f) hin).trans hrc.2.1
      have hon : Qcy (Nk S ls f) lb ls = (Su (Xc ((Q9 (Jo S (Xf ls) f) ((Xf ls).n)).t) [1#8]) (aA 12 0) (lb ++ ((ls.drop 0).take 40)) (hdR ls)) := by unfold Qcy; rw [hj1, ← hrr]; rfl
      have m195 := aF [_] _ m194
      have m196 := aF [_] _ (aC Hsq180 [_] _ m195)
      have m197 := aF [_] _ (aC Hsq180 [_] _ m196)
      have m198 := aF [_] _ (aC Hsq180 [_] _ m197)
      have m199 := aF Hsq16 _ (aN Hsq180 Hqq168 Hsq16 _ m198)
      have m200 := aF [_] _ (aN Hsq180 Hqq168 [_] _ m199)
      have m201 := aF Hrq5 _ (aN Hsq180 Hqq168 Hrq5 _ m200)
      have m202 := aF [_] _ (aN Hsq180 Hqq168 [_] _ m201)
      have m203 := aF [_] _ (aN Hsq180 Hqq168 [_] _ m202)
      have m204 := (aC Hsq180 Hqq168 _ m203)
      obtain ⟨ho1, ho2, ho3, ho4⟩ := out_3 hd1 (by rw [hon]; exact Yd hc181)
      rw [ho1, ho2, ho3, ho4]
      rw [hj0]
      exact ⟨vqq168, Hqq168, vxq180, Hsq180, by rw [if_pos rfl]; rfl, Yu.cast gqq168 (by first | rfl | exact (cut_sl _ _).trans (Qre _ _).symm), Z9.cast gvxq180 (by unfold opnP; rw [hj1, ← hrr]; rfl), (by
       have hT := m204
       try simp only [aQ, aW, aX, aZ] at hT ⊢
       exact hT)⟩
end Go.Proofs.YtkmiemlpfkfiiaaDoor
