/- The ratchet: what is deciphered (the document). Conditions: none beyond those that each theorem states. -/
import Derived.Test.YtkmiemlpfkfiiaaDoorRb7
namespace Go.Proofs.YtkmiemlpfkfiiaaDoor
open Tryd
set_option linter.unusedVariables false
set_option linter.unusedSimpArgs false
def HK (R : Rest) (Hs : List (Nat × Obj)) (v : Value) (l : List Kp) : Prop := ∀ m, (∀ b o, R.blk b = some o → m b = some o) → (∀ p ∈ Hs, m p.1 = some p.2) → RdK m Y3 65 v l
theorem HK.own {R : Rest} {Hs : List (Nat × Obj)} {v : Value} {l l' : List Kp} {E : TypeId} (g : Yx Y3 65 E v l Hs) (e : l = l') : HK R Hs v l' := fun m _ h => e ▸ g.rdIn h
theorem HK.old {w : World} {v : Value} {l l' : List Kp} (h : RdK (Y8 w) Y3 65 v l) (e : l = l') : HK (Qr w) [] v l' := fun m h1 _ => e ▸ h.mono h1
theorem HK.rd {w : World} {R : Rest} {Hs H : List (Nat × Obj)} {v : Value} {l : List Kp} (h : HK R Hs v l) (hm : Mem w R (Hs ++ H)) : RdK (Y8 w) Y3 65 v l := h _ (fun b o e => hm.rest b o e) fun p hp => hm.own p (List.mem_append_left _ hp)
theorem Qdb {S : Sn} {s f : Z8} {e : Int} (h : P7 s = true) (h1 : ¬ 0 ≤ Ae S s) (h2 : Pi S (Xe s) f = e) : Qei S s f = e := (Qjw h h1).trans h2
theorem cut_sl (l : List Kp) (i : Nat) : (l.drop (0 : Int).toNat).take ((i : Int).toNat - (0 : Int).toNat) ++ (l.drop ((i : Int) + 1).toNat).take ((l.length : Int).toNat - ((i : Int) + 1).toNat) = l.take i ++ l.drop (i + 1) := by
 rw [show ((i : Int) + 1).toNat = i + 1 by omega, Int.toNat_natCast, Int.toNat_natCast, show (0 : Int).toNat = 0 from rfl, List.drop_zero, Nat.sub_zero, List.take_of_length_le (l := l.drop (i + 1)) (by rw [List.length_drop]; exact Nat.le_refl _)]
attribute [local irreducible] Qee Pq Wn Dh Yc Jf Qaz Wh Vb Kz Xj Lc Ef Xr Yu V5 Ac Ai P7 Xe hdR hdE V9 Qaw Qbd Pi Qcf Qbz Jp
set_option maxHeartbeats 2000000 in
theorem c_rdec19 (S : Sn) (vk : Value) (vb : Value) (lb : Z8) (vs : Value) (ls : Z8) (f : Z8) (w0 : World)  (hk : RdK (Y8 w0) Y3 65 vk S.ks) (hrb : Rd (Y8 w0) u8 vb lb) (hlb : lb.length ≤ 90000) (hrs : Rd (Y8 w0) u8 vs ls) (hls : ls.length ≤ 90000) (hfl : f.length = 32) (hn2 : 0 ≤ S.n2 ∧ S.n2 ≤ 2147483647) (hkl : S.ks.length ≤ 5000) : X0 prog 26 #[(Value.agg (Qz (sS S vk))), vb, vs, (agg u8 f)] w0 (fun r w1 => ∃ vq Hq vp Hp, r = Value.tuple #[(Value.agg (Qz (sS (Tz S lb ls f) (if Dk S lb ls f = 0 then vq else vk)))), vp, i64 (Dk S lb ls f)] ∧ Yx Y3 65 69 vq (Qg4 S lb ls f) Hq ∧ Z5 u8 5 vp (Qb7 S lb ls f) Hp ∧ Mem w1 (Qr w0) (Hq ++ Hp)) := by
 refine Qy (args := [(Value.agg (Qz (sS S vk))), vb, vs, (agg u8 f)]) func26 rfl ntmps26 results26 rfl ?_
 have m0 : Mem w0 (Qr w0) [] := Mem.of_world w0
 have hhc := (Xe ls).hc
 have hkal := Qnv (S := S) (s := ls) (f := f)
 have hmll := Ql8 (S := S) (s := ls) (f := f)
 have hrkl := Qi7 S (Xe ls) f
 refine sR <| Y9 (Us (cs := (Qz (sS S vk))) m0 rfl) fun w1 b4 m1 => Y9 (Xc (f := u8) (l := f) m1 rfl) fun w2 b7 m2 => Y9 (Jw m2 J6) fun w3 b8 m3 => Zx Wl <| Zx (i64 0) ?_
 refine rN (sR ?_)
 refine Zm vs <| Vw (oc24 (Jv rfl) (Qli vs ls _ (Rd.ofRest hrs m3) sL)) ?_
 rintro _ w4 ⟨vrq5, Hrq5, rfl, grq5, k_w4⟩
 have m4 : Mem _ _ (Hrq5 ++ ([_, _, _])) := Mem.new (H := [_, _, _]) (H' := Hrq5) m3 k_w4
 refine Yb rfl <| Qd (v := (Value.agg (Qz (sH ((Xe ls).c) ((Xe ls).p) ((Xe ls).n))))) (Zr rfl rfl) <| Qd (v := vrq5) (Zr rfl rfl) <| Qd (v := (i64 (hdE ls))) (Zr rfl rfl) <| Y9 (Jw m4 D9) fun w6 b11 m6 => Ye m6 (Kt D9 rfl rfl m6.h0 (Yl (Jj Qs _) (Yl (Xy (Zv _) Jz) (Yl (Xy (Zv _) Jz) Uw)))) fun w7 m7 => Zx vrq5 <| Zx (i64 (hdE ls)) ?_
 refine rN (Qa (sR ?_))
 refine Zm (i64 (hdE ls)) <| Qd (We (b := 0) rfl rfl) <| rN ?_
 refine Zy rfl (fun hc8 => ?_) (fun hc8 => ?_)
 ·
  have hc8p := bne_iff_ne.1 hc8
  refine sR <| Qd (J7 Xt J6 rfl ((Mem.pick3 [_] Hrq5 [_, _] [_] _ m7)).h0) <| Zm (i64 (hdE ls)) <| Vf (Kt J6 rfl rfl ((Mem.pick2 [_] Hrq5 [_] _ m7)).h0 (Fa (RdK.one (RdK.ofRest hk m7)))) ?_
  rintro _ w9 uq9
  have m9 : Mem _ _ ([_, _] ++ (Hrq5 ++ ([_, _]))) := Mem.upd0 (Mem.pick2 [_] Hrq5 [_] _ m7) uq9
  refine Zx Wl <| Zx (i64 (hdE ls)) ?_
  refine rN (Zz (Yv ?_))
  refine Qp [(Value.agg (Qz (sS S vk))), Wl, (i64 (hdE ls))] ⟨⟨_, rfl, Jr Xt J6 m9.h0⟩, rfl, rfl, trivial⟩ ?_
  have m10 := Mem.drop [_] _ m9
  have m11 := Mem.drop [_] _ m10
  have m12 := Mem.drop Hrq5 _ m11
  have m13 := Mem.drop [_] _ m12
  have m14 := Mem.drop [_] _ m13
  obtain ⟨ho1, ho2, ho3, ho4⟩ := Qk1 (b := lb) (Qqy (f := f) (S := S) (hdE_3 (bne_iff_ne.1 hc8)).1) Jb
  rw [ho1, ho2, ho3, ho4]
  exact ⟨Value.slice none 0 0, [], Value.slice none 0 0, [], by rw [if_neg Jb]; rw [(hdE_3 (bne_iff_ne.1 hc8)).2]; rfl, Yx.none Y3 65 69, Z5.none u8 5, by simpa using m14⟩
 ·
  have hc8p := X3 hc8
  have hok := hdE_0 (X3 hc8)
  obtain ⟨hl40, hhp, hhn⟩ := hd_of hok
  have hrr := (Qe3 hok).2.2
  have hrl : (hdR ls).length = ls.length - 40 := by rw [hrr, List.length_drop]
  refine Qn (Qc (sR ?_))
  refine Zm vb <| Zm vs <| Qd (Y6 (i := 0) (j := 40) (Rd.ofRest hrs m7) Zo Yw rfl (Zd _ _) (Yd (k := .i64) (i := 40) rfl) oM sL sL) <| Vw (oc38 (Xm rfl rfl) (c_rjoin vb lb (Bg vs 0 40) ((ls.drop 0).take 40) _ (Rd.ofRest hrb m7) sL (Rd.cast (l' := (ls.drop 0).take 40) (Rd.sub (Rd.ofRest hrs m7) oM sL sL) rfl) sL)) ?_
  rintro rq16 w15 ⟨Hsq16, grq16, k_w15⟩
  have m15 : Mem _ _ (Hsq16 ++ ([_] ++ (Hrq5 ++ ([_, _, _])))) := Mem.new (H := [_] ++ (Hrq5 ++ ([_, _, _]))) (H' := Hsq16) m7 k_w15
  refine Zx rq16 ?_
  refine rN (Qa (sR ?_))
  refine Zx (i64 0) ?_
  refine rN (Qh ?_)
  refine Y1 (fun g wv => ∃ (i : Nat), (i ≤ S.ks.length) ∧ (∀ j, j < i → Qck (Xe ls).c (Xe ls).n (S.ks.getD j Gu) = false) ∧ g 0 = (Value.agg (Qz (sS S vk))) ∧ g 1 = vb ∧ g 2 = vs ∧ g 3 = (agg u8 f) ∧ g 4 = (ptr b4 0) ∧ g 7 = (ptr b7 0) ∧ g 8 = (ptr b8 0) ∧ g 11 = (ptr b11 0) ∧ g 12 = vrq5 ∧ g 13 = (i64 (hdE ls)) ∧ g 14 = rq16 ∧ g 15 = (i64 (i : Int)) ∧ g 31 = (bl ((hdE ls) != 0)) ∧ Mem wv (Qr w0) (Hsq16 ++ ([(b11, .cells (Qz (sH ((Xe ls).c) ((Xe ls).p) ((Xe ls).n))) 53 (0, 0))] ++ (Hrq5 ++ ([(b8, .cells (Qz (sE (List.replicate 32 0) (List.replicate 32 0) (List.replicate 32 0) false false (List.replicate 32 0) (List.replicate 32 0) 0 0 0 Wl)) 26 (0, 0)), (b7, .cells (cl u8 f) 23 (0, 0)), (b4, .cells (Qz (sS S vk)) 26 (0, 0))]))))) (fun g wv => ((S.ks.length : Int) - RowKit.intOf (g 15)).toNat) ?_ ?_
  ·exact ⟨0, (Nat.zero_le _), (fun j hj => absurd hj (Nat.not_lt_zero j)), rfl, rfl, rfl, rfl, rfl, rfl, rfl, rfl, rfl, rfl, rfl, rfl, rfl, m15⟩
  rintro fr17 w18 ⟨i, hi, hno, s0, s1, s2, s3, s4, s7, s8, s11, s12, s13, s14, s15, s31, m18⟩
  have z15 := s15
  have hkc := (S.ks.getD i Gu).hc; have hkk := (S.ks.getD i Gu).hk
  refine Qa (sR ?_)
  refine Yb s15 <| Qd (Zi (r := 165) Xt rfl Je Ec rfl s4) <| Qd (Yi 10 Wq rfl ((Mem.pick4 Hsq16 [_] Hrq5 [_, _] [_] _ m18)).h0 rfl) <| Qd (Fp (RdK.ofRest hk m18) Wq rfl) <| Qd (Xa rfl rfl) <| rN ?_
  refine Zy rfl (fun hc19 => ?_) (fun hc19 => ?_)
  ·
   have hc19p := of_decide_eq_true hc19
   refine Qn (Qc (Qa (Qh (Qa ?_))))
   refine Xg (dl 18) 18 Xo <| X6 rfl (Zi (r := 165) Xt rfl Je Ec rfl s4) <| Ym rfl (fun _ e' => Yi 10 Wq rfl ((Mem.pick4 Hsq16 [_] Hrq5 [_, _] [_] _ (m18.ext e'))).h0 rfl) <| Uh rfl s15 <| Ym rfl (fun _ e' => Yn (i := (i : Int)) (RdK.ofRest hk (m18.ext e')) Wq Dj rfl rfl oM sL) <| Ym rfl (fun _ e' => N8 (i := (i : Int)) (RdK.ofRest hk (m18.ext e')) sL Qbk rfl Je Zg rfl rfl) <| Ym (v := (agg u8 ((S.ks.getD i Gu).c))) rfl (fun _ e' => Eo (i := (i : Int)) (dflt := Gu) (cs := (cl u8 ((S.ks.getD i Gu).c))) (RdK.ofRest hk (m18.ext e')) sL Xl rfl Zg rfl rfl Jb (kp_c (S.ks.getD i Gu))) <| X6 rfl (Zi (r := 0) Fj rfl Je Zg rfl s11) <| Ym rfl (fun _ e' => Jk 0 Xl Zg rfl ((Mem.pick Hsq16 [_] _ (m18.ext e'))).h0 rfl) <| X6 rfl (Tu (l := (S.ks.getD i Gu).c) (m := (Xe ls).c) Xl Vs Yw eqGuardType23 rfl rfl ysF ysF) <| J8 rfl (bl (((S.ks.getD i Gu).c) == ((Xe ls).c))) ?_
   rcases Bool.eq_false_or_eq_true (((S.ks.getD i Gu).c) == ((Xe ls).c)) with hb20 | hb20
   ·
    have hb20p := eq_of_beq hb20
    refine D5 (s := 54) rfl rfl rfl hb20 rfl (fun _ _hx => Zi (r := 165) Xt rfl Je Ec rfl s4) <| D5 (s := 54) rfl rfl rfl hb20 rfl (fun _ _hx => Yi 10 Wq rfl ((Mem.pick4 Hsq16 [_] Hrq5 [_, _] [_] _ (m18.ext _hx))).h0 rfl) <| D5 (s := 54) rfl rfl rfl hb20 rfl (fun _ _hx => Yh s15) <| D5 (s := 54) rfl rfl rfl hb20 rfl (fun _ _hx => Yn (i := (i : Int)) (RdK.ofRest hk (m18.ext _hx)) Wq Dj rfl rfl oM sL) <| D5 (s := 54) rfl rfl rfl hb20 rfl (fun _ _hx => N8 (i := (i : Int)) (RdK.ofRest hk (m18.ext _hx)) sL Qbk rfl Je Ui rfl rfl) <| D5 (s := 54) rfl rfl rfl hb20 rfl (fun _ _hx => Ep (i := (i : Int)) (dflt := Gu) (u := (i64 ((S.ks.getD i Gu).n))) (RdK.ofRest hk (m18.ext _hx)) sL Uu rfl rfl Jb (kp_n (S.ks.getD i Gu))) <| D5 (s := 54) rfl rfl rfl hb20 rfl (fun _ _hx => Zi (r := 33) Fj rfl Je Ui rfl s11) <| D5 (s := 54) rfl rfl rfl hb20 rfl (fun _ _hx => Yi 2 Uu rfl ((Mem.pick Hsq16 [_] _ (m18.ext _hx))).h0 rfl) <| Gf m18 fun w21 m21 => Zj (s := 54) rfl rfl hb20 rfl (Gq rfl rfl) <| Qd (Jg rfl hb20 rfl) <| rN ?_
    refine Zy rfl (fun hc22 => ?_) (fun hc22 => ?_)
    ·
     have hc22p := eq_of_beq hc22
     refine sR <| Qd (Zi (r := 165) Xt rfl Je Ec rfl s4) <| Qd (Yi 10 Wq rfl ((Mem.pick4 Hsq16 [_] Hrq5 [_, _] [_] _ m21)).h0 rfl) <| Yb s15 <| Qd (Yn (i := (i : Int)) (RdK.ofRest hk m21) Wq Dj rfl rfl oM sL) <| Qd (N8 (i := (i : Int)) (RdK.ofRest hk m21) sL Qbk rfl Je Zg rfl rfl) <| Qd (v := (agg u8 ((S.ks.getD i Gu).k))) (Eo (i := (i : Int)) (dflt := Gu) (cs := (cl u8 ((S.ks.getD i Gu).k))) (RdK.ofRest hk m21) sL Xl rfl Zg rfl rfl Jb (kp_k (S.ks.getD i Gu))) <| Qd (Kw (ps := []) (c := (cl u8 (List.replicate 12 0))) Qbl Po Yw Ya rfl) <| Yb s14 <| Yb s12 <| Vw (oc55 (Tm rfl rfl rfl rfl) (Qq5 _ _ rq16 (lb ++ ((ls.drop 0).take 40)) vrq5 (hdR ls) _ sL sL (grq16.rd m21) sL (grq5.rd (Mem.pick2 Hsq16 [_] Hrq5 _ m21)) sL)) ?_
     rintro _ w23 ⟨vxq24, Hsq24, rfl, gvxq24, k_w23⟩
     have m23 : Mem _ _ (Hsq24 ++ (Hsq16 ++ ([_] ++ (Hrq5 ++ ([_, _, _]))))) := Mem.new (H := Hsq16 ++ ([_] ++ (Hrq5 ++ ([_, _, _])))) (H' := Hsq24) m21 k_w23
     refine Yb rfl <| Qd (v := vxq24) (Zr rfl rfl) <| Qd (v := (i64 (Qaw ((S.ks.getD i Gu).k) (List.replicate 12 0) (lb ++ ((ls.drop 0).take 40)) (hdR ls)))) (Zr rfl rfl) <| Zx vxq24 <| yqA rfl ?_
     refine rN (Qa (sR ?_))
     refine Yb rfl <| Qd (We (b := 0) rfl rfl) <| rN ?_
     refine Zy rfl (fun hc25 => ?_) (fun hc25 => ?_)
     ·
      have hc25p := bne_iff_ne.1 hc25
      refine sR <| Qd (J7 Xt J6 s4 ((Mem.pick5 Hsq24 Hsq16 [_] Hrq5 [_, _] [_] _ m23)).h0) <| Yb rfl <| Vf (Kt J6 s8 rfl ((Mem.pick4 Hsq24 Hsq16 [_] Hrq5 [_] _ m23)).h0 (Fa (RdK.one (RdK.ofRest hk m23)))) ?_
      rintro _ w26 uq26
      have m26 : Mem _ _ ([_] ++ (Hsq24 ++ (Hsq16 ++ ([_] ++ (Hrq5 ++ ([_, _])))))) := Mem.upd0 (Mem.pick4 Hsq24 Hsq16 [_] Hrq5 [_] _ m23) uq26
      refine Zx Wl <| yqA rfl ?_
      refine rN (Zz ?_)
      refine Yv (Fe (Yv (Fe ?_)))
      refine Qp [(Value.agg (Qz (sS S vk))), Wl, (i64 (Qaw ((S.ks.getD i Gu).k) (List.replicate 12 0) (lb ++ ((ls.drop 0).take 40)) (hdR ls)))] ⟨⟨_, s8, Jr Xt J6 m26.h0⟩, rfl, rfl, trivial⟩ ?_
      have hfi : V9 S.ks (Xe ls).c (Xe ls).n = i := Qmf oM hno (by unfold Qck; rw [hb20, hc22]; rfl)
      have hin : 0 ≤ Ae S ls := by show 0 ≤ V9 S.ks (Xe ls).c (Xe ls).n; omega
      have hit : (Ae S ls).toNat = i := by show (V9 S.ks (Xe ls).c (Xe ls).n).toNat = i; omega
      have hd1 := Qmo (f := f) hok hin
      have hj1 := Qmb (f := f) hin
      have hj0 := Qo0 (f := f) hin
      rw [hit] at hj0 hj1
      have hon : Qdf (N7 S ls f) lb ls = (Qaw ((S.ks.getD i Gu).k) (List.replicate 12 0) (lb ++ ((ls.drop 0).take 40)) (hdR ls)) := by unfold Qdf; rw [hj1, ← hrr]; rfl
      have m27 := Mem.drop [_] _ m26
      have m28 := Mem.drop Hsq24 _ m27
      have m29 := Mem.drop Hsq16 _ m28
      have m30 := Mem.drop [_] _ m29
      have m31 := Mem.drop Hrq5 _ m30
      have m32 := Mem.drop [_] _ m31
      have m33 := Mem.drop [_] _ m32
      obtain ⟨ho1, ho2, ho3, ho4⟩ := out_2 hd1 (by rw [hon]; exact bne_iff_ne.1 hc25)
      rw [ho1, ho2, ho3, ho4]
      exact ⟨Value.slice none 0 0, [], Value.slice none 0 0, [], by rw [if_neg (by rw [hon]; exact bne_iff_ne.1 hc25)]; rw [hon]; rfl, Yx.none Y3 65 69, Z5.none u8 5, by simpa using m33⟩
     ·
      have hc25p := X3 hc25
      refine Qn (Qc (sR ?_))
      refine Qd (J7 Xt J6 s4 ((Mem.pick5 Hsq24 Hsq16 [_] Hrq5 [_, _] [_] _ m23)).h0) <| Y9 (Jw m23 J6) fun w34 b18 m34 => Ye m34 (Kt J6 rfl rfl m34.h0 (Fa (RdK.one (RdK.ofRest hk m34)))) fun w35 m35 => ?_
      refine rN (Qa ?_)
      refine J4 Xo ?_
      have hFM36 : Mem w35 (Qr w0) ([] ++ ([(b18, .cells (Qz (sS S vk)) 26 (0, 0))] ++ (Hsq24 ++ (Hsq16 ++ ([(b11, .cells (Qz (sH ((Xe ls).c) ((Xe ls).p) ((Xe ls).n))) 53 (0, 0))] ++ (Hrq5 ++ ([(b8, .cells (Qz (sE (List.replicate 32 0) (List.replicate 32 0) (List.replicate 32 0) false false (List.replicate 32 0) (List.replicate 32 0) 0 0 0 Wl)) 26 (0, 0)), (b7, .cells (cl u8 f) 23 (0, 0)), (b4, .cells (Qz (sS S vk)) 26 (0, 0))]))))))) := m35
      obtain ⟨RM36, hRM36⟩ : ∃ R2, R2 = Rest.add (Qr w0) ([(b18, .cells (Qz (sS S vk)) 26 (0, 0))] ++ (Hsq24 ++ (Hsq16 ++ ([(b11, .cells (Qz (sH ((Xe ls).c) ((Xe ls).p) ((Xe ls).n))) 53 (0, 0))] ++ (Hrq5 ++ ([(b8, .cells (Qz (sE (List.replicate 32 0) (List.replicate 32 0) (List.replicate 32 0) false false (List.replicate 32 0) (List.replicate 32 0) 0 0 0 Wl)) 26 (0, 0)), (b7, .cells (cl u8 f) 23 (0, 0)), (b4, .cells (Qz (sS S vk)) 26 (0, 0))])))))) := ⟨_, rfl⟩
      have M360 : Mem w35 RM36 [] := by rw [hRM36]; exact Mem.give hFM36
      have hr37 : Rd RM36.blk u8 vb lb := by rw [hRM36]; exact Rd.mono hrb fun b o e => Mem.addRest hFM36 e
      have hr38 : Rd RM36.blk u8 vs ls := by rw [hRM36]; exact Rd.mono hrs fun b o e => Mem.addRest hFM36 e
      have hg39 : Rd RM36.blk u8 vrq5 (hdR ls) := grq5.rdIn (fun p hp => by rw [hRM36]; exact Mem.addOwn hFM36 (List.mem_append_right _ (List.mem_append_right _ (List.mem_append_right _ (List.mem_append_right _ (List.mem_append_left _ hp))))))
      have hg40 : Rd RM36.blk u8 rq16 (lb ++ ((ls.drop 0).take 40)) := grq16.rdIn (fun p hp => by rw [hRM36]; exact Mem.addOwn hFM36 (List.mem_append_right _ (List.mem_append_right _ (List.mem_append_left _ hp))))
      have hr41 : RdK RM36.blk Y3 65 vk S.ks := by rw [hRM36]; exact RdK.mono hk fun b o e => Mem.addRest hFM36 e
      have hg42 : Rd RM36.blk u8 vxq24 (Qbd ((S.ks.getD i Gu).k) (List.replicate 12 0) (lb ++ ((ls.drop 0).take 40)) (hdR ls)) := gvxq24.rdIn (fun p hp => by rw [hRM36]; exact Mem.addOwn hFM36 (List.mem_append_right _ (List.mem_append_left _ hp)))
      have ho43 : RM36.blk b18 = some (.cells (Qz (sS S vk)) 26 (0, 0)) := by rw [hRM36]; exact Mem.addOwn hFM36 (List.mem_append_left _ (List.Mem.head _))
      have ho44 : RM36.blk b11 = some (.cells (Qz (sH ((Xe ls).c) ((Xe ls).p) ((Xe ls).n))) 53 (0, 0)) := by rw [hRM36]; exact Mem.addOwn hFM36 (List.mem_append_right _ (List.mem_append_right _ (List.mem_append_right _ (List.mem_append_left _ (List.Mem.head _)))))
      have ho45 : RM36.blk b8 = some (.cells (Qz (sE (List.replicate 32 0) (List.replicate 32 0) (List.replicate 32 0) false false (List.replicate 32 0) (List.replicate 32 0) 0 0 0 Wl)) 26 (0, 0)) := by rw [hRM36]; exact Mem.addOwn hFM36 (List.mem_append_right _ (List.mem_append_right _ (List.mem_append_right _ (List.mem_append_right _ (List.mem_append_right _ (List.Mem.head _))))))
      have ho46 : RM36.blk b7 = some (.cells (cl u8 f) 23 (0, 0)) := by rw [hRM36]; exact Mem.addOwn hFM36 (List.mem_append_right _ (List.mem_append_right _ (List.mem_append_right _ (List.mem_append_right _ (List.mem_append_right _ (List.Mem.tail _ (List.Mem.head _)))))))
      have ho47 : RM36.blk b4 = some (.cells (Qz (sS S vk)) 26 (0, 0)) := by rw [hRM36]; exact Mem.addOwn hFM36 (List.mem_append_right _ (List.mem_append_right _ (List.mem_append_right _ (List.mem_append_right _ (List.mem_append_right _ (List.Mem.tail _ (List.Mem.tail _ (List.Mem.head _))))))))
      refine Dv M360 [(1, false), (2, false), (3, false), (4, false), (6, false), (7, false), (8, false), (9, false), (10, false), (0, true), (5, true)] 11 rfl Xo <| Ns rfl (Zi (r := 165) Xt rfl Je Ec rfl s4) <| yqH rfl (fun w _H _hx => Yi 10 Wq rfl (_hx.rest _ _ ho47) rfl) <| Ns rfl (Yh s15) <| yqH rfl (fun w _H _hx => Sl (i := 0) (j := (i : Int)) (RdK.ofRest hr41 _hx) Wq Dj rfl (Zd _ _) (Yd (k := .i64) (i := (i : Int)) rfl) oM sL sL) <| Ns rfl (Zi (r := 165) Xt rfl Je Ec rfl s4) <| yqH rfl (fun w _H _hx => Yi 10 Wq rfl (_hx.rest _ _ ho47) rfl) <| Ns rfl (Yh s15) <| Ns rfl (Zf (b := 1) rfl rfl oM oM) <| yqH rfl (fun w _H _hx => Sl (i := (i : Int) + 1) (j := (S.ks.length : Int)) (RdK.ofRest hr41 _hx) Wq Dj rfl (Yd (k := .i64) (i := (i : Int) + 1) rfl) (Zd _ _) oM sL sL) ?_
      refine Qe6 rfl rfl (fun w48 e48 => ?_)
      have m48 := M360.ext e48
      refine Wu.mono (Ei (c := #[]) m48 Wq Dj rfl Vq Xo) ?_
      rintro _ w49 ⟨b83, rfl, e49, m49⟩
      have m49 : Mem w49 RM36 [(b83, .cells #[] 69 (0, 0))] := m49
      refine ⟨⟨_, m49⟩, ?_⟩
      refine Qe6 rfl rfl (fun w50 e50 => ?_)
      have m50 := m49.ext e50
      refine Wu.mono (C9 (enc := Y3) (k := 65) (Hs := [(b83, .cells #[] 69 (0, 0))]) (H := []) m50 (Yx.of Y3 65 69 b83 [] rfl Ya) rfl rfl (RdK.cast (l' := ((S.ks.drop (0 : Int).toNat).take (((i : Int) : Int).toNat - (0 : Int).toNat))) (RdK.sub (i := 0) (j := (i : Int)) (RdK.ofRest hr41 m50) oM sL sL) rfl) Wq Wq Dj rfl rfl (fun a _ => Nq a) sL sL) ?_
      rintro sv51 w51 ⟨Hs51, m51, g51⟩
      replace g51 : Yx Y3 65 69 sv51 ((S.ks.drop (0 : Int).toNat).take (((i : Int) : Int).toNat - (0 : Int).toNat)) Hs51 := g51
      refine ⟨⟨_, m51⟩, ?_⟩
      refine Gf m51 fun w52 m52 => ?_
      have hX53 := m52
      rw [hRM36] at hX53
      have m54 : Mem w52 (Qr w0) (Hs51 ++ ([(b18, .cells (Qz (sS S vk)) 26 (0, 0))] ++ (Hsq24 ++ (Hsq16 ++ ([(b11, .cells (Qz (sH ((Xe ls).c) ((Xe ls).p) ((Xe ls).n))) 53 (0, 0))] ++ (Hrq5 ++ ([(b8, .cells (Qz (sE (List.replicate 32 0) (List.replicate 32 0) (List.replicate 32 0) false false (List.replicate 32 0) (List.replicate 32 0) 0 0 0 Wl)) 26 (0, 0)), (b7, .cells (cl u8 f) 23 (0, 0)), (b4, .cells (Qz (sS S vk)) 26 (0, 0))]))))))) := ymA (Mem.back hFM36 hX53)
      refine Vw (C9 (enc := Y3) (k := 65) (Hs := Hs51) (H := [_] ++ (Hsq24 ++ (Hsq16 ++ ([_] ++ (Hrq5 ++ ([_, _, _])))))) m54 g51 rfl rfl (RdK.cast (l' := ((S.ks.drop ((i : Int) + 1 : Int).toNat).take (((S.ks.length : Int) : Int).toNat - ((i : Int) + 1 : Int).toNat))) (RdK.sub (i := (i : Int) + 1) (j := (S.ks.length : Int)) (RdK.ofRest hk m54) oM sL sL) rfl) Wq Wq Dj rfl rfl (fun a _ => Nq a) sL sL) ?_
      rintro sv55 w55 ⟨Hs55, m55, g55⟩
      replace g55 : Yx Y3 65 69 sv55 (((S.ks.drop (0 : Int).toNat).take (((i : Int) : Int).toNat - (0 : Int).toNat)) ++ ((S.ks.drop ((i : Int) + 1 : Int).toNat).take (((S.ks.length : Int) : Int).toNat - ((i : Int) + 1 : Int).toNat))) Hs55 := g55
      refine Qd (Zi (r := 165) Xt rfl Je Ec rfl rfl) <| Vf (G5 10 (sS S sv55) Ec rfl rfl g55.one ((Mem.pick Hs55 [_] _ m55)).h0 rfl rfl) ?_
      rintro _ w56 uq56
      have m56 : Mem _ _ ([_] ++ (Hs55 ++ (Hsq24 ++ (Hsq16 ++ ([_] ++ (Hrq5 ++ ([_, _, _]))))))) := Mem.upd0 (Mem.pick Hs55 [_] _ m55) uq56
      refine rN (sR ?_)
      refine Qd (J7 Xt J6 rfl m56.h0) <| Zm vxq24 <| Vf (Kt J6 s8 rfl ((Mem.pick6 [_] Hs55 Hsq24 Hsq16 [_] Hrq5 [_] _ m56)).h0 (Fa g55.one)) ?_
      rintro _ w57 uq57
      have m57 : Mem _ _ ([_, _] ++ (Hs55 ++ (Hsq24 ++ (Hsq16 ++ ([_] ++ (Hrq5 ++ ([_, _]))))))) := Mem.upd0 (Mem.pick6 [_] Hs55 Hsq24 Hsq16 [_] Hrq5 [_] _ m56) uq57
      refine Zx vxq24 <| Zx (i64 0) ?_
      refine rN (Zz ?_)
      refine Fe (Yv (Fe ?_))
      refine Qp [(Value.agg (Qz (sS S sv55))), vxq24, (i64 0)] ⟨⟨_, s8, Jr Xt J6 m57.h0⟩, rfl, rfl, trivial⟩ ?_
      have hfi : V9 S.ks (Xe ls).c (Xe ls).n = i := Qmf oM hno (by unfold Qck; rw [hb20, hc22]; rfl)
      have hin : 0 ≤ Ae S ls := by show 0 ≤ V9 S.ks (Xe ls).c (Xe ls).n; omega
      have hit : (Ae S ls).toNat = i := by show (V9 S.ks (Xe ls).c (Xe ls).n).toNat = i; omega
      have hd1 := Qmo (f := f) hok hin
      have hj1 := Qmb (f := f) hin
      have hj0 := Qo0 (f := f) hin
      rw [hit] at hj0 hj1
      have hon : Qdf (N7 S ls f) lb ls = (Qaw ((S.ks.getD i Gu).k) (List.replicate 12 0) (lb ++ ((ls.drop 0).take 40)) (hdR ls)) := by unfold Qdf; rw [hj1, ← hrr]; rfl
      have m58 := Mem.drop [_] _ m57
      have m59 := Mem.drop [_] _ m58
      have m60 := Mem.drop Hsq16 _ (Mem.pick2 Hs55 Hsq24 Hsq16 _ m59)
      have m61 := Mem.drop [_] _ (Mem.pick2 Hs55 Hsq24 [_] _ m60)
      have m62 := Mem.drop Hrq5 _ (Mem.pick2 Hs55 Hsq24 Hrq5 _ m61)
      have m63 := Mem.drop [_] _ (Mem.pick2 Hs55 Hsq24 [_] _ m62)
      have m64 := Mem.drop [_] _ (Mem.pick2 Hs55 Hsq24 [_] _ m63)
      obtain ⟨ho1, ho2, ho3, ho4⟩ := out_3 hd1 (by rw [hon]; exact X3 hc25)
      rw [ho1, ho2, ho3, ho4]
      rw [hj0]
      exact ⟨sv55, Hs55, vxq24, Hsq24, by rw [if_pos rfl]; rfl, Yx.cast g55 (by first | rfl | exact (cut_sl _ _).trans (Qpr _ _).symm), Z5.cast gvxq24 (by unfold opnP; rw [hj1, ← hrr]; rfl), (by
       have hT := m64
       try simp only [List.append_assoc, List.cons_append, List.nil_append, List.append_nil] at hT ⊢
       exact hT)⟩
    ·
     have hc22p := ne_of_beq_false hc22
     refine Qn (Qe (Qb ?_))
     refine Yb s15 <| Qd (Zf (b := 1) rfl rfl oM oM) <| Zx (i64 ((i : Int) + 1)) <| rN ?_
     exact ⟨⟨(i + 1), oM, (Qo8 hno (by unfold Qck; rw [hb20, hc22]; rfl)), s0, s1, s2, s3, s4, s7, s8, s11, s12, s13, s14, rfl, s31, m21⟩, Ue rfl z15 oM oM⟩
   ·
    have hb20p := ne_of_beq_false hb20
    refine D6 (s := 54) rfl rfl rfl hb20 rfl <| D6 (s := 54) rfl rfl rfl hb20 rfl <| D6 (s := 54) rfl rfl rfl hb20 rfl <| D6 (s := 54) rfl rfl rfl hb20 rfl <| D6 (s := 54) rfl rfl rfl hb20 rfl <| D6 (s := 54) rfl rfl rfl hb20 rfl <| D6 (s := 54) rfl rfl rfl hb20 rfl <| D6 (s := 54) rfl rfl rfl hb20 rfl <| Gf m18 fun w65 m65 => Yg (s := 54) rfl rfl hb20 rfl <| Qd (Yz rfl hb20 rfl) <| rN <| Ja rfl Jb ?_
    refine Qn (Qe (Qb ?_))
    refine Yb s15 <| Qd (Zf (b := 1) rfl rfl oM oM) <| Zx (i64 ((i : Int) + 1)) <| rN ?_
    exact ⟨⟨(i + 1), oM, (Qo8 hno (by unfold Qck; rw [hb20]; rfl)), s0, s1, s2, s3, s4, s7, s8, s11, s12, s13, s14, rfl, s31, m65⟩, Ue rfl z15 oM oM⟩
  ·
   have hc19p := of_decide_eq_false hc19
   have hfn : V9 S.ks (Xe ls).c (Xe ls).n = -1 := Qld (fun j hj => hno j oM)
   have hin : ¬ 0 ≤ Ae S ls := by show ¬ 0 ≤ V9 S.ks (Xe ls).c (Xe ls).n; omega
   have h02 := Qqn S (Xe ls) f ⟨by omega, by omega⟩
   have h0l := Qi8 S (Xe ls) f
   have hll := Qb2 S (Xe ls).p
   have hl2 := Qnt (Jp S (Xe ls) f) (Xe ls).n h02.1 hhn.1 h02.2 hhn.2
   have hl3 := Qb2 (Jp S (Xe ls) f) (Xe ls).n
   refine X4 ?_
   refine Qj (Qj (Xi ?_))
   refine sR <| Qd (J7 Xt J6 s4 ((Mem.pick4 Hsq16 [_] Hrq5 [_, _] [_] _ m18)).h0) <| Y9 (Jw m18 J6) fun w66 b19 m66 => Ye m66 (Kt J6 rfl rfl m66.h0 (Fa (RdK.one (RdK.ofRest hk m66)))) fun w67 m67 => ?_
   refine rN (sR ?_)
   refine Zx (bl true) ?_
   refine rN (Qa (Qa ?_))
   refine H5 (J := fun g wv => g 0 = (Value.agg (Qz (sS S vk))) ∧ g 1 = vb ∧ g 2 = vs ∧ g 3 = (agg u8 f) ∧ g 4 = (ptr b4 0) ∧ g 7 = (ptr b7 0) ∧ g 8 = (ptr b8 0) ∧ g 11 = (ptr b11 0) ∧ g 12 = vrq5 ∧ g 13 = (i64 (hdE ls)) ∧ g 14 = rq16 ∧ g 15 = (i64 (i : Int)) ∧ g 19 = (ptr b19 0) ∧ g 20 = (bl true) ∧ g 31 = (bl ((hdE ls) != 0)) ∧ g 42 = (bl (decide ((i : Int) < (S.ks.length : Int)))) ∧ g 108 = (bl (Qe1 S (Xe ls))) ∧ Mem wv (Qr w0) ([(b19, .cells (Qz (sS S vk)) 26 (0, 0))] ++ (Hsq16 ++ ([(b11, .cells (Qz (sH ((Xe ls).c) ((Xe ls).p) ((Xe ls).n))) 53 (0, 0))] ++ (Hrq5 ++ ([(b8, .cells (Qz (sE (List.replicate 32 0) (List.replicate 32 0) (List.replicate 32 0) false false (List.replicate 32 0) (List.replicate 32 0) 0 0 0 Wl)) 26 (0, 0)), (b7, .cells (cl u8 f) 23 (0, 0)), (b4, .cells (Qz (sS S vk)) 26 (0, 0))])))))) ?_ ?_
   ·skip
    refine Qb <| Qd (Zi (r := 0) Fj rfl Je Zg rfl s11) <| Qd (Jk 0 Xl Zg rfl ((Mem.pick2 [_] Hsq16 [_] _ m67)).h0 rfl) <| Qd (Zi (r := 64) Xt rfl Je Zg rfl s4) <| Qd (Jk 2 Xl Zg rfl ((Mem.pick5 [_] Hsq16 [_] Hrq5 [_, _] [_] _ m67)).h0 rfl) <| Qd (G8 (l := (Xe ls).c) (m := S.o) Xl Vs Yw eqGuardType23 rfl rfl ysF ysF) <| Zm (bl (((Xe ls).c) != S.o)) ?_
    rcases Bool.eq_false_or_eq_true (((Xe ls).c) != S.o) with hb68 | hb68
    ·
     have hb68p := bne_iff_ne.1 hb68
     refine Yg (s := 104) rfl rfl hb68 rfl <| Yg (s := 104) rfl rfl hb68 rfl <| Yg (s := 104) rfl rfl hb68 rfl <| Qd (Jg rfl hb68 rfl) <| rN ?_
     exact ⟨s0, s1, s2, s3, s4, s7, s8, s11, s12, s13, s14, s15, rfl, rfl, s31, rfl, (Eq.trans rfl (congrArg bl (by unfold Qe1; rw [hb68]; rfl))), m67⟩
    ·
     have hb68p := X3 hb68
     refine Zj (s := 104) rfl rfl hb68 rfl (Zi (r := 97) Xt rfl Je ti4 rfl s4) <| Zj (s := 104) rfl rfl hb68 rfl (Yi 4 uT4 rfl ((Mem.pick5 [_] Hsq16 [_] Hrq5 [_, _] [_] _ m67)).h0 rfl) <| Zj (s := 104) rfl rfl hb68 rfl (Gw rfl) <| Qd (Yz rfl hb68 rfl) <| rN ?_
     exact ⟨s0, s1, s2, s3, s4, s7, s8, s11, s12, s13, s14, s15, rfl, rfl, s31, rfl, (Eq.trans rfl (congrArg bl (by unfold Qe1; rw [hb68]; rfl))), m67⟩
   rintro fr69 w70 ⟨s0, s1, s2, s3, s4, s7, s8, s11, s12, s13, s14, s15, s19, s20, s31, s42, s108, m70⟩
   refine H5 (J := fun g wv => ∃ (vj : Value) (Hj : List (Nat × Obj)), (HK (Qr w0) Hj vj (Jp S (Xe ls) f).ks) ∧ (Qeb S (Xe ls) = false) ∧ g 0 = (Value.agg (Qz (sS S vk))) ∧ g 1 = vb ∧ g 2 = vs ∧ g 3 = (agg u8 f) ∧ g 4 = (ptr b4 0) ∧ g 7 = (ptr b7 0) ∧ g 8 = (ptr b8 0) ∧ g 11 = (ptr b11 0) ∧ g 12 = vrq5 ∧ g 13 = (i64 (hdE ls)) ∧ g 14 = rq16 ∧ g 15 = (i64 (i : Int)) ∧ g 19 = (ptr b19 0) ∧ g 20 = (bl true) ∧ g 31 = (bl ((hdE ls) != 0)) ∧ g 42 = (bl (decide ((i : Int) < (S.ks.length : Int)))) ∧ g 108 = (bl (Qe1 S (Xe ls))) ∧ Mem wv (Qr w0) ([(b19, .cells (Qz (sS (Jp S (Xe ls) f) vj)) 26 (0, 0))] ++ (Hj ++ (Hsq16 ++ ([(b11, .cells (Qz (sH ((Xe ls).c) ((Xe ls).p) ((Xe ls).n))) 53 (0, 0))] ++ (Hrq5 ++ ([(b8, .cells (Qz (sE (List.replicate 32 0) (List.replicate 32 0) (List.replicate 32 0) false false (List.replicate 32 0) (List.replicate 32 0) 0 0 0 Wl)) 26 (0, 0)), (b7, .cells (cl u8 f) 23 (0, 0)), (b4, .cells (Qz (sS S vk)) 26 (0, 0))]))))))) ?_ ?_
   ·skip
    refine Zy s108 (fun hc71 => ?_) (fun hc71 => ?_)
    ·
     refine Qa (sR ?_)
     refine Qd (Zi (r := 97) Xt rfl Je ti4 rfl s4) <| Qd (Yi 4 uT4 rfl ((Mem.pick5 [_] Hsq16 [_] Hrq5 [_, _] [_] _ m70)).h0 rfl) <| rN ?_
     refine Zy rfl (fun hc72 => ?_) (fun hc72 => ?_)
     ·
      refine Qa ?_
      rcases Bool.eq_false_or_eq_true (Qco S (Xe ls).p) with hb73 | hb73
      ·
       refine Qb <| Qd (J7 Xt J6 s19 m70.h0) <| Qd (Zi (r := 32) Fj rfl Je Ui rfl s11) <| Qd (Yi 1 Uu rfl ((Mem.pick2 [_] Hsq16 [_] _ m70)).h0 rfl) <| U3 m70 (oc56 (Xm rfl rfl) (Qj2 S vk _ _ (RdK.ofRest hk m70) sL sL sL (by assumption))) fun w74 m74 => Zm (Value.tuple #[(Value.agg (Qz (sS S vk))), (bl false)]) <| Qd (v := (Value.agg (Qz (sS S vk)))) (Zr rfl rfl) <| Qd (v := (bl false)) (Zr rfl rfl) <| Ye m74 (Kt J6 s19 rfl m74.h0 (Fa (RdK.one (RdK.ofRest hk m74)))) fun w76 m76 => Zx (bl false) ?_
       refine rN (sR ?_)
       refine Zm (bl false) <| Qd (v := (bl true)) (Gw (b := false) rfl) <| rN <| Q9 rfl Jb <| sR <| Qd (J7 Xt J6 s4 ((Mem.pick5 [_] Hsq16 [_] Hrq5 [_, _] [_] _ m76)).h0) <| Vf (Kt J6 s8 rfl ((Mem.pick4 [_] Hsq16 [_] Hrq5 [_] _ m76)).h0 (Fa (RdK.one (RdK.ofRest hk m76)))) ?_
       rintro _ w77 uq77
       have m77 : Mem _ _ ([_, _] ++ (Hsq16 ++ ([_] ++ (Hrq5 ++ ([_, _]))))) := Mem.upd0 (Mem.pick4 [_] Hsq16 [_] Hrq5 [_] _ m76) uq77
       refine Zx Wl <| Zx (i64 12) ?_
       refine rN (Zz ?_)
       refine Yv (Yv ?_)
       refine Qp [(Value.agg (Qz (sS S vk))), Wl, (i64 12)] ⟨⟨_, s8, Jr Xt J6 m77.h0⟩, rfl, rfl, trivial⟩ ?_
       have hrc := Qqk (f := f) (too_t hc71 hc72 (by rw [Qdi hb73]; decide))
       have m78 := Mem.drop [_] _ m77
       have m79 := Mem.drop [_] _ m78
       have m80 := Mem.drop Hsq16 _ m79
       have m81 := Mem.drop [_] _ m80
       have m82 := Mem.drop Hrq5 _ m81
       have m83 := Mem.drop [_] _ m82
       have m84 := Mem.drop [_] _ m83
       obtain ⟨ho1, ho2, ho3, ho4⟩ := Qk1 (b := lb) (Qdb hok hin hrc.1) Jb
       rw [ho1, ho2, ho3, ho4]
       exact ⟨Value.slice none 0 0, [], Value.slice none 0 0, [], by rw [if_neg Jb]; rfl, Yx.none Y3 65 69, Z5.none u8 5, by simpa using m84⟩
      ·
       refine Qb <| Qd (J7 Xt J6 s19 m70.h0) <| Qd (Zi (r := 32) Fj rfl Je Ui rfl s11) <| Qd (Yi 1 Uu rfl ((Mem.pick2 [_] Hsq16 [_] _ m70)).h0 rfl) <| Vw (oc56 (Xm rfl rfl) (Qoa S vk _ _ (RdK.ofRest hk m70) sL sL sL (by assumption))) ?_
       rintro _ w85 ⟨vqq86, Hqq86, rfl, gqq86, k_w85⟩
       have m85 : Mem _ _ (Hqq86 ++ ([_] ++ (Hsq16 ++ ([_] ++ (Hrq5 ++ ([_, _, _])))))) := Mem.new (H := [_] ++ (Hsq16 ++ ([_] ++ (Hrq5 ++ ([_, _, _]))))) (H' := Hqq86) m70 k_w85
       refine Yb rfl <| Qd (v := (Value.agg (Qz (sS (Za S ((Xe ls).p)) vqq86)))) (Zr rfl rfl) <| Qd (v := (bl true)) (Zr rfl rfl) <| Vf (Kt J6 s19 rfl ((Mem.pick Hqq86 [_] _ m85)).h0 (Fa gqq86.one)) ?_
       rintro _ w87 uq87
       have m87 : Mem _ _ ([_] ++ (Hqq86 ++ (Hsq16 ++ ([_] ++ (Hrq5 ++ ([_, _, _])))))) := Mem.upd0 (Mem.pick Hqq86 [_] _ m85) uq87
       refine Zx (bl true) ?_
       refine rN (sR ?_)
       refine Zm (bl true) <| Qd (v := (bl false)) (Gw (b := true) rfl) <| rN <| Ja rfl Jb ?_
       refine Qn (Qc (Qa ?_))
       have hb0 := Dt (Za S (Xe ls).p).r (Yu (Za S (Xe ls).p).w (Xe ls).c)
       have hb1 := Eh (Za S (Xe ls).p).r (Yu (Za S (Xe ls).p).w (Xe ls).c)
       have hb2 := Dt (Yc (Za S (Xe ls).p).r (Yu (Za S (Xe ls).p).w (Xe ls).c)) (Yu f (Xe ls).c)
       have hb3 := Eh (Yc (Za S (Xe ls).p).r (Yu (Za S (Xe ls).p).w (Xe ls).c)) (Yu f (Xe ls).c)
       have hb4 := Tn (Za S (Xe ls).p).w (Xe ls).c
       have hb5 := Tn f (Xe ls).c
       refine Qb <| Qd (Zi (r := 0) Fj rfl Je Zg rfl s11) <| Qd (Jk 0 Xl Zg rfl ((Mem.pick3 [_] Hqq86 Hsq16 [_] _ m87)).h0 rfl) <| Qd (Zi (r := 64) Xt rfl Je Zg rfl s19) <| Ye m87 (Ug 2 (sE ((Za S ((Xe ls).p)).r) ((Za S ((Xe ls).p)).w) ((Xe ls).c) ((Za S ((Xe ls).p)).sb) ((Za S ((Xe ls).p)).tb) ((Za S ((Xe ls).p)).s) ((Za S ((Xe ls).p)).t) ((Za S ((Xe ls).p)).n1) ((Za S ((Xe ls).p)).n2) ((Za S ((Xe ls).p)).n3) vqq86) Qs Zg rfl rfl m87.h0 rfl) fun w88 m88 => ?_
       refine rN (Qa ?_)
       refine J4 Xo <| Qby [(0, false), (1, false), (2, false), (3, false), (4, false), (5, false), (6, false), (7, false), (8, false), (9, false), (10, false), (11, false), (12, true)] 13 [10] rfl Xo <| Gx rfl rfl rfl (fun _ _hx => Zi (r := 0) Xt rfl Je Zg rfl s19) <| Gx rfl rfl rfl (fun _ _hx => Jk 0 Xl Zg rfl (m88.ext _hx).h0 rfl) <| Gx rfl rfl rfl (fun _ _hx => Zi (r := 32) Xt rfl Je Zg rfl s19) <| Gx rfl rfl rfl (fun _ _hx => Jk 1 Xl Zg rfl (m88.ext _hx).h0 rfl) <| Gx rfl rfl rfl (fun _ _hx => Zi (r := 64) Xt rfl Je Zg rfl s19) <| Gx rfl rfl rfl (fun _ _hx => Jk 2 Xl Zg rfl (m88.ext _hx).h0 rfl) <| Qg5 (v := (agg u8 (Yu ((Za S ((Xe ls).p)).w) ((Xe ls).c)))) rfl rfl rfl (fun w89 e89 => oc36 (Xm rfl rfl) (Qii _ _ _ sL sL)) <| Qg5 (v := (Value.tuple #[(agg u8 (Yc ((Za S ((Xe ls).p)).r) (Yu ((Za S ((Xe ls).p)).w) ((Xe ls).c)))), (agg u8 (Jf ((Za S ((Xe ls).p)).r) (Yu ((Za S ((Xe ls).p)).w) ((Xe ls).c))))])) rfl rfl rfl (fun w92 e92 => oc42 (Xm rfl rfl) (Qd7 _ _ _ sL sL)) <| Gx rfl rfl rfl (fun _ _hx => Yh rfl) <| Gx rfl rfl rfl (fun _ _hx => Zr rfl rfl) ?_
       refine db_f rfl rfl (fun _ => Zr rfl rfl) <| Gx rfl rfl rfl (fun _ _hx => Zi (r := 0) Xt rfl Je Zg rfl s19) ?_
       refine db_n Xo rfl (fun w95 e95 => ?_)
       have m95 := m88.ext e95
       refine Wu.mono (Ug 0 (sE (Yc ((Za S ((Xe ls).p)).r) (Yu ((Za S ((Xe ls).p)).w) ((Xe ls).c))) ((Za S ((Xe ls).p)).w) ((Xe ls).c) ((Za S ((Xe ls).p)).sb) ((Za S ((Xe ls).p)).tb) ((Za S ((Xe ls).p)).s) ((Za S ((Xe ls).p)).t) ((Za S ((Xe ls).p)).n1) ((Za S ((Xe ls).p)).n2) ((Za S ((Xe ls).p)).n3) vqq86) Qs Zg rfl rfl m95.h0 rfl) ?_
       rintro _ w96 uq96
       have m96 := m95.upd0 uq96
       refine Qg6 (fun w97 e97 => ?_)
       have m97 := m96.ext e97
       refine Qd (Zi (r := 130) Xt rfl Je Zg rfl s19) <| Ye m97 (Ug 6 (sE (Yc ((Za S ((Xe ls).p)).r) (Yu ((Za S ((Xe ls).p)).w) ((Xe ls).c))) ((Za S ((Xe ls).p)).w) ((Xe ls).c) ((Za S ((Xe ls).p)).sb) ((Za S ((Xe ls).p)).tb) ((Za S ((Xe ls).p)).s) (Jf ((Za S ((Xe ls).p)).r) (Yu ((Za S ((Xe ls).p)).w) ((Xe ls).c))) ((Za S ((Xe ls).p)).n1) ((Za S ((Xe ls).p)).n2) ((Za S ((Xe ls).p)).n3) vqq86) Qs Zg rfl rfl m97.h0 rfl) fun w98 m98 => ?_
       refine rN (sR ?_)
       refine Qd (Qo Xl rfl Zg s7 ((Mem.pick6 [_] Hqq86 Hsq16 [_] Hrq5 [_] [_] _ m98)).h0 Sv) <| Qd (Zi (r := 32) Xt rfl Je Zg rfl s19) <| Ye m98 (Ug 1 (sE (Yc ((Za S ((Xe ls).p)).r) (Yu ((Za S ((Xe ls).p)).w) ((Xe ls).c))) f ((Xe ls).c) ((Za S ((Xe ls).p)).sb) ((Za S ((Xe ls).p)).tb) ((Za S ((Xe ls).p)).s) (Jf ((Za S ((Xe ls).p)).r) (Yu ((Za S ((Xe ls).p)).w) ((Xe ls).c))) ((Za S ((Xe ls).p)).n1) ((Za S ((Xe ls).p)).n2) ((Za S ((Xe ls).p)).n3) vqq86) Qs Zg rfl rfl m98.h0 rfl) fun w99 m99 => ?_
       refine rN (Qa ?_)
       refine J4 Xo <| Qby [(0, false), (1, false), (2, false), (3, false), (4, false), (5, false), (6, false), (7, false), (8, false), (9, false), (10, false), (11, false), (12, true)] 13 [10] rfl Xo <| Gx rfl rfl rfl (fun _ _hx => Zi (r := 0) Xt rfl Je Zg rfl s19) <| Gx rfl rfl rfl (fun _ _hx => Jk 0 Xl Zg rfl (m99.ext _hx).h0 rfl) <| Gx rfl rfl rfl (fun _ _hx => Zi (r := 32) Xt rfl Je Zg rfl s19) <| Gx rfl rfl rfl (fun _ _hx => Jk 1 Xl Zg rfl (m99.ext _hx).h0 rfl) <| Gx rfl rfl rfl (fun _ _hx => Zi (r := 64) Xt rfl Je Zg rfl s19) <| Gx rfl rfl rfl (fun _ _hx => Jk 2 Xl Zg rfl (m99.ext _hx).h0 rfl) <| Qg5 (v := (agg u8 (Yu f ((Xe ls).c)))) rfl rfl rfl (fun w100 e100 => oc36 (Xm rfl rfl) (Qii _ _ _ sL sL)) <| Qg5 (v := (Value.tuple #[(agg u8 (Yc (Yc ((Za S ((Xe ls).p)).r) (Yu ((Za S ((Xe ls).p)).w) ((Xe ls).c))) (Yu f ((Xe ls).c)))), (agg u8 (Jf (Yc ((Za S ((Xe ls).p)).r) (Yu ((Za S ((Xe ls).p)).w) ((Xe ls).c))) (Yu f ((Xe ls).c))))])) rfl rfl rfl (fun w103 e103 => oc42 (Xm rfl rfl) (Qd7 _ _ _ sL sL)) <| Gx rfl rfl rfl (fun _ _hx => Yh rfl) <| Gx rfl rfl rfl (fun _ _hx => Zr rfl rfl) ?_
       refine db_f rfl rfl (fun _ => Zr rfl rfl) <| Gx rfl rfl rfl (fun _ _hx => Zi (r := 0) Xt rfl Je Zg rfl s19) ?_
       refine db_n Xo rfl (fun w106 e106 => ?_)
       have m106 := m99.ext e106
       refine Wu.mono (Ug 0 (sE (Yc (Yc ((Za S ((Xe ls).p)).r) (Yu ((Za S ((Xe ls).p)).w) ((Xe ls).c))) (Yu f ((Xe ls).c))) f ((Xe ls).c) ((Za S ((Xe ls).p)).sb) ((Za S ((Xe ls).p)).tb) ((Za S ((Xe ls).p)).s) (Jf ((Za S ((Xe ls).p)).r) (Yu ((Za S ((Xe ls).p)).w) ((Xe ls).c))) ((Za S ((Xe ls).p)).n1) ((Za S ((Xe ls).p)).n2) ((Za S ((Xe ls).p)).n3) vqq86) Qs Zg rfl rfl m106.h0 rfl) ?_
       rintro _ w107 uq107
       have m107 := m106.upd0 uq107
       refine Qg6 (fun w108 e108 => ?_)
       have m108 := m107.ext e108
       refine Qd (Zi (r := 98) Xt rfl Je Zg rfl s19) <| Ye m108 (Ug 5 (sE (Yc (Yc ((Za S ((Xe ls).p)).r) (Yu ((Za S ((Xe ls).p)).w) ((Xe ls).c))) (Yu f ((Xe ls).c))) f ((Xe ls).c) ((Za S ((Xe ls).p)).sb) ((Za S ((Xe ls).p)).tb) (Jf (Yc ((Za S ((Xe ls).p)).r) (Yu ((Za S ((Xe ls).p)).w) ((Xe ls).c))) (Yu f ((Xe ls).c))) (Jf ((Za S ((Xe ls).p)).r) (Yu ((Za S ((Xe ls).p)).w) ((Xe ls).c))) ((Za S ((Xe ls).p)).n1) ((Za S ((Xe ls).p)).n2) ((Za S ((Xe ls).p)).n3) vqq86) Qs Zg rfl rfl m108.h0 rfl) fun w109 m109 => ?_
       refine rN (sR ?_)
       refine Qd (Zi (r := 96) Xt rfl Je ti4 rfl s19) <| Ye m109 (G5 3 (sE (Yc (Yc ((Za S ((Xe ls).p)).r) (Yu ((Za S ((Xe ls).p)).w) ((Xe ls).c))) (Yu f ((Xe ls).c))) f ((Xe ls).c) true ((Za S ((Xe ls).p)).tb) (Jf (Yc ((Za S ((Xe ls).p)).r) (Yu ((Za S ((Xe ls).p)).w) ((Xe ls).c))) (Yu f ((Xe ls).c))) (Jf ((Za S ((Xe ls).p)).r) (Yu ((Za S ((Xe ls).p)).w) ((Xe ls).c))) ((Za S ((Xe ls).p)).n1) ((Za S ((Xe ls).p)).n2) ((Za S ((Xe ls).p)).n3) vqq86) ti4 rfl rfl rfl m109.h0 rfl rfl) fun w110 m110 => ?_
       refine rN (sR ?_)
       refine Qd (Zi (r := 97) Xt rfl Je ti4 rfl s19) <| Ye m110 (G5 4 (sE (Yc (Yc ((Za S ((Xe ls).p)).r) (Yu ((Za S ((Xe ls).p)).w) ((Xe ls).c))) (Yu f ((Xe ls).c))) f ((Xe ls).c) true true (Jf (Yc ((Za S ((Xe ls).p)).r) (Yu ((Za S ((Xe ls).p)).w) ((Xe ls).c))) (Yu f ((Xe ls).c))) (Jf ((Za S ((Xe ls).p)).r) (Yu ((Za S ((Xe ls).p)).w) ((Xe ls).c))) ((Za S ((Xe ls).p)).n1) ((Za S ((Xe ls).p)).n2) ((Za S ((Xe ls).p)).n3) vqq86) ti4 rfl rfl rfl m110.h0 rfl rfl) fun w111 m111 => ?_
       refine rN (sR ?_)
       refine Qd (Zi (r := 162) Xt rfl Je Ui rfl s19) <| Qd (Yi 7 Uu rfl m111.h0 rfl) <| Qd (Zi (r := 164) Xt rfl Je Ui rfl s19) <| Ye m111 (G5 9 (sE (Yc (Yc ((Za S ((Xe ls).p)).r) (Yu ((Za S ((Xe ls).p)).w) ((Xe ls).c))) (Yu f ((Xe ls).c))) f ((Xe ls).c) true true (Jf (Yc ((Za S ((Xe ls).p)).r) (Yu ((Za S ((Xe ls).p)).w) ((Xe ls).c))) (Yu f ((Xe ls).c))) (Jf ((Za S ((Xe ls).p)).r) (Yu ((Za S ((Xe ls).p)).w) ((Xe ls).c))) ((Za S ((Xe ls).p)).n1) ((Za S ((Xe ls).p)).n2) ((Za S ((Xe ls).p)).n1) vqq86) Ui rfl rfl (Zv _) m111.h0 rfl rfl) fun w112 m112 => ?_
       refine rN (sR ?_)
       refine Qd (Zi (r := 162) Xt rfl Je Ui rfl s19) <| Ye m112 (G5 7 (sE (Yc (Yc ((Za S ((Xe ls).p)).r) (Yu ((Za S ((Xe ls).p)).w) ((Xe ls).c))) (Yu f ((Xe ls).c))) f ((Xe ls).c) true true (Jf (Yc ((Za S ((Xe ls).p)).r) (Yu ((Za S ((Xe ls).p)).w) ((Xe ls).c))) (Yu f ((Xe ls).c))) (Jf ((Za S ((Xe ls).p)).r) (Yu ((Za S ((Xe ls).p)).w) ((Xe ls).c))) 0 ((Za S ((Xe ls).p)).n2) ((Za S ((Xe ls).p)).n1) vqq86) Ui rfl rfl (Zv _) m112.h0 rfl rfl) fun w113 m113 => ?_
       refine rN (Qb ?_)
       refine Qd (Zi (r := 163) Xt rfl Je Ui rfl s19) <| Ye m113 (G5 8 (sE (Yc (Yc ((Za S ((Xe ls).p)).r) (Yu ((Za S ((Xe ls).p)).w) ((Xe ls).c))) (Yu f ((Xe ls).c))) f ((Xe ls).c) true true (Jf (Yc ((Za S ((Xe ls).p)).r) (Yu ((Za S ((Xe ls).p)).w) ((Xe ls).c))) (Yu f ((Xe ls).c))) (Jf ((Za S ((Xe ls).p)).r) (Yu ((Za S ((Xe ls).p)).w) ((Xe ls).c))) 0 0 ((Za S ((Xe ls).p)).n1) vqq86) Ui rfl rfl (Zv _) m113.h0 rfl rfl) fun w114 m114 => rN ?_
       have hj0 := rch0_c (f := f) hc71 hc72
       exact ⟨vqq86, Hqq86, (by rw [hj0]; exact HK.own gqq86 rfl), (too_c (Qfx hb73)), s0, s1, s2, s3, s4, s7, s8, s11, s12, s13, s14, s15, s19, rfl, s31, s42, s108, (by rw [hj0, Qi2 hhc hfl, Qdx (Za S (Xe ls).p).hw hhc, Qdx hfl hhc]; exact (by
        have hT := m114
        try simp only [List.append_assoc, List.cons_append, List.nil_append, List.append_nil] at hT ⊢
        exact hT))⟩
     ·
      refine Qn (Qc (Qa ?_))
      have hb0 := Dt S.r (Yu S.w (Xe ls).c)
      have hb1 := Eh S.r (Yu S.w (Xe ls).c)
      have hb2 := Dt (Yc S.r (Yu S.w (Xe ls).c)) (Yu f (Xe ls).c)
      have hb3 := Eh (Yc S.r (Yu S.w (Xe ls).c)) (Yu f (Xe ls).c)
      have hb4 := Tn S.w (Xe ls).c
      have hb5 := Tn f (Xe ls).c
      refine Qb <| Qd (Zi (r := 0) Fj rfl Je Zg rfl s11) <| Qd (Jk 0 Xl Zg rfl ((Mem.pick2 [_] Hsq16 [_] _ m70)).h0 rfl) <| Qd (Zi (r := 64) Xt rfl Je Zg rfl s19) <| Ye m70 (Ug 2 (sE S.r S.w ((Xe ls).c) S.sb S.tb S.s S.t S.n1 S.n2 S.n3 vk) Qs Zg rfl rfl m70.h0 rfl) fun w115 m115 => ?_
      refine rN (Qa ?_)
      refine J4 Xo <| Qby [(0, false), (1, false), (2, false), (3, false), (4, false), (5, false), (6, false), (7, false), (8, false), (9, false), (10, false), (11, false), (12, true)] 13 [10] rfl Xo <| Gx rfl rfl rfl (fun _ _hx => Zi (r := 0) Xt rfl Je Zg rfl s19) <| Gx rfl rfl rfl (fun _ _hx => Jk 0 Xl Zg rfl (m115.ext _hx).h0 rfl) <| Gx rfl rfl rfl (fun _ _hx => Zi (r := 32) Xt rfl Je Zg rfl s19) <| Gx rfl rfl rfl (fun _ _hx => Jk 1 Xl Zg rfl (m115.ext _hx).h0 rfl) <| Gx rfl rfl rfl (fun _ _hx => Zi (r := 64) Xt rfl Je Zg rfl s19) <| Gx rfl rfl rfl (fun _ _hx => Jk 2 Xl Zg rfl (m115.ext _hx).h0 rfl) <| Qg5 (v := (agg u8 (Yu S.w ((Xe ls).c)))) rfl rfl rfl (fun w116 e116 => oc36 (Xm rfl rfl) (Qii _ _ _ sL sL)) <| Qg5 (v := (Value.tuple #[(agg u8 (Yc S.r (Yu S.w ((Xe ls).c)))), (agg u8 (Jf S.r (Yu S.w ((Xe ls).c))))])) rfl rfl rfl (fun w119 e119 => oc42 (Xm rfl rfl) (Qd7 _ _ _ sL sL)) <| Gx rfl rfl rfl (fun _ _hx => Yh rfl) <| Gx rfl rfl rfl (fun _ _hx => Zr rfl rfl) ?_
      refine db_f rfl rfl (fun _ => Zr rfl rfl) <| Gx rfl rfl rfl (fun _ _hx => Zi (r := 0) Xt rfl Je Zg rfl s19) ?_
      refine db_n Xo rfl (fun w122 e122 => ?_)
      have m122 := m115.ext e122
      refine Wu.mono (Ug 0 (sE (Yc S.r (Yu S.w ((Xe ls).c))) S.w ((Xe ls).c) S.sb S.tb S.s S.t S.n1 S.n2 S.n3 vk) Qs Zg rfl rfl m122.h0 rfl) ?_
      rintro _ w123 uq123
      have m123 := m122.upd0 uq123
      refine Qg6 (fun w124 e124 => ?_)
      have m124 := m123.ext e124
      refine Qd (Zi (r := 130) Xt rfl Je Zg rfl s19) <| Ye m124 (Ug 6 (sE (Yc S.r (Yu S.w ((Xe ls).c))) S.w ((Xe ls).c) S.sb S.tb S.s (Jf S.r (Yu S.w ((Xe ls).c))) S.n1 S.n2 S.n3 vk) Qs Zg rfl rfl m124.h0 rfl) fun w125 m125 => ?_
      refine rN (sR ?_)
      refine Qd (Qo Xl rfl Zg s7 ((Mem.pick5 [_] Hsq16 [_] Hrq5 [_] [_] _ m125)).h0 Sv) <| Qd (Zi (r := 32) Xt rfl Je Zg rfl s19) <| Ye m125 (Ug 1 (sE (Yc S.r (Yu S.w ((Xe ls).c))) f ((Xe ls).c) S.sb S.tb S.s (Jf S.r (Yu S.w ((Xe ls).c))) S.n1 S.n2 S.n3 vk) Qs Zg rfl rfl m125.h0 rfl) fun w126 m126 => ?_
      refine rN (Qa ?_)
      refine J4 Xo <| Qby [(0, false), (1, false), (2, false), (3, false), (4, false), (5, false), (6, false), (7, false), (8, false), (9, false), (10, false), (11, false), (12, true)] 13 [10] rfl Xo <| Gx rfl rfl rfl (fun _ _hx => Zi (r := 0) Xt rfl Je Zg rfl s19) <| Gx rfl rfl rfl (fun _ _hx => Jk 0 Xl Zg rfl (m126.ext _hx).h0 rfl) <| Gx rfl rfl rfl (fun _ _hx => Zi (r := 32) Xt rfl Je Zg rfl s19) <| Gx rfl rfl rfl (fun _ _hx => Jk 1 Xl Zg rfl (m126.ext _hx).h0 rfl) <| Gx rfl rfl rfl (fun _ _hx => Zi (r := 64) Xt rfl Je Zg rfl s19) <| Gx rfl rfl rfl (fun _ _hx => Jk 2 Xl Zg rfl (m126.ext _hx).h0 rfl) <| Qg5 (v := (agg u8 (Yu f ((Xe ls).c)))) rfl rfl rfl (fun w127 e127 => oc36 (Xm rfl rfl) (Qii _ _ _ sL sL)) <| Qg5 (v := (Value.tuple #[(agg u8 (Yc (Yc S.r (Yu S.w ((Xe ls).c))) (Yu f ((Xe ls).c)))), (agg u8 (Jf (Yc S.r (Yu S.w ((Xe ls).c))) (Yu f ((Xe ls).c))))])) rfl rfl rfl (fun w130 e130 => oc42 (Xm rfl rfl) (Qd7 _ _ _ sL sL)) <| Gx rfl rfl rfl (fun _ _hx => Yh rfl) <| Gx rfl rfl rfl (fun _ _hx => Zr rfl rfl) ?_
      refine db_f rfl rfl (fun _ => Zr rfl rfl) <| Gx rfl rfl rfl (fun _ _hx => Zi (r := 0) Xt rfl Je Zg rfl s19) ?_
      refine db_n Xo rfl (fun w133 e133 => ?_)
      have m133 := m126.ext e133
      refine Wu.mono (Ug 0 (sE (Yc (Yc S.r (Yu S.w ((Xe ls).c))) (Yu f ((Xe ls).c))) f ((Xe ls).c) S.sb S.tb S.s (Jf S.r (Yu S.w ((Xe ls).c))) S.n1 S.n2 S.n3 vk) Qs Zg rfl rfl m133.h0 rfl) ?_
      rintro _ w134 uq134
      have m134 := m133.upd0 uq134
      refine Qg6 (fun w135 e135 => ?_)
      have m135 := m134.ext e135
      refine Qd (Zi (r := 98) Xt rfl Je Zg rfl s19) <| Ye m135 (Ug 5 (sE (Yc (Yc S.r (Yu S.w ((Xe ls).c))) (Yu f ((Xe ls).c))) f ((Xe ls).c) S.sb S.tb (Jf (Yc S.r (Yu S.w ((Xe ls).c))) (Yu f ((Xe ls).c))) (Jf S.r (Yu S.w ((Xe ls).c))) S.n1 S.n2 S.n3 vk) Qs Zg rfl rfl m135.h0 rfl) fun w136 m136 => ?_
      refine rN (sR ?_)
      refine Qd (Zi (r := 96) Xt rfl Je ti4 rfl s19) <| Ye m136 (G5 3 (sE (Yc (Yc S.r (Yu S.w ((Xe ls).c))) (Yu f ((Xe ls).c))) f ((Xe ls).c) true S.tb (Jf (Yc S.r (Yu S.w ((Xe ls).c))) (Yu f ((Xe ls).c))) (Jf S.r (Yu S.w ((Xe ls).c))) S.n1 S.n2 S.n3 vk) ti4 rfl rfl rfl m136.h0 rfl rfl) fun w137 m137 => ?_
      refine rN (sR ?_)
      refine Qd (Zi (r := 97) Xt rfl Je ti4 rfl s19) <| Ye m137 (G5 4 (sE (Yc (Yc S.r (Yu S.w ((Xe ls).c))) (Yu f ((Xe ls).c))) f ((Xe ls).c) true true (Jf (Yc S.r (Yu S.w ((Xe ls).c))) (Yu f ((Xe ls).c))) (Jf S.r (Yu S.w ((Xe ls).c))) S.n1 S.n2 S.n3 vk) ti4 rfl rfl rfl m137.h0 rfl rfl) fun w138 m138 => ?_
      refine rN (sR ?_)
      refine Qd (Zi (r := 162) Xt rfl Je Ui rfl s19) <| Qd (Yi 7 Uu rfl m138.h0 rfl) <| Qd (Zi (r := 164) Xt rfl Je Ui rfl s19) <| Ye m138 (G5 9 (sE (Yc (Yc S.r (Yu S.w ((Xe ls).c))) (Yu f ((Xe ls).c))) f ((Xe ls).c) true true (Jf (Yc S.r (Yu S.w ((Xe ls).c))) (Yu f ((Xe ls).c))) (Jf S.r (Yu S.w ((Xe ls).c))) S.n1 S.n2 S.n1 vk) Ui rfl rfl (Zv _) m138.h0 rfl rfl) fun w139 m139 => ?_
      refine rN (sR ?_)
      refine Qd (Zi (r := 162) Xt rfl Je Ui rfl s19) <| Ye m139 (G5 7 (sE (Yc (Yc S.r (Yu S.w ((Xe ls).c))) (Yu f ((Xe ls).c))) f ((Xe ls).c) true true (Jf (Yc S.r (Yu S.w ((Xe ls).c))) (Yu f ((Xe ls).c))) (Jf S.r (Yu S.w ((Xe ls).c))) 0 S.n2 S.n1 vk) Ui rfl rfl (Zv _) m139.h0 rfl rfl) fun w140 m140 => ?_
      refine rN (Qb ?_)
      refine Qd (Zi (r := 163) Xt rfl Je Ui rfl s19) <| Ye m140 (G5 8 (sE (Yc (Yc S.r (Yu S.w ((Xe ls).c))) (Yu f ((Xe ls).c))) f ((Xe ls).c) true true (Jf (Yc S.r (Yu S.w ((Xe ls).c))) (Yu f ((Xe ls).c))) (Jf S.r (Yu S.w ((Xe ls).c))) 0 0 S.n1 vk) Ui rfl rfl (Zv _) m140.h0 rfl rfl) fun w141 m141 => rN ?_
      have hj0 := rch0_b (f := f) hc71 hc72
      exact ⟨vk, [], (by rw [hj0]; exact HK.old hk rfl), (too_b hc72), s0, s1, s2, s3, s4, s7, s8, s11, s12, s13, s14, s15, s19, s20, s31, s42, s108, (by rw [hj0, Qi2 hhc hfl, Qdx S.hw hhc, Qdx hfl hhc]; exact (by
       have hT := m141
       try simp only [List.append_assoc, List.cons_append, List.nil_append, List.append_nil] at hT ⊢
       exact hT))⟩
    ·
     refine Qn (Qc ?_)
     have hj0 := rch0_a (f := f) hc71
     exact ⟨vk, [], (by rw [hj0]; exact HK.old hk rfl), (too_a hc71), s0, s1, s2, s3, s4, s7, s8, s11, s12, s13, s14, s15, s19, s20, s31, s42, s108, (by rw [hj0]; exact (by
      have hT := m70
      try simp only [List.append_assoc, List.cons_append, List.nil_append, List.append_nil] at hT ⊢
      exact hT))⟩
   rintro fr142 w143 ⟨vj, Hj, hkj, htoo, s0, s1, s2, s3, s4, s7, s8, s11, s12, s13, s14, s15, s19, s20, s31, s42, s108, m143⟩
   refine Qa (sR ?_)
   refine Qd (Zi (r := 33) Fj rfl Je Ui rfl s11) <| Qd (Yi 2 Uu rfl ((Mem.pick3 [_] Hj Hsq16 [_] _ m143)).h0 rfl) <| Qd (Zi (r := 163) Xt rfl Je Ui rfl s19) <| Qd (Yi 8 Uu rfl m143.h0 rfl) <| Qd (Xa rfl rfl) <| rN ?_
   refine Zy rfl (fun hc144 => ?_) (fun hc144 => ?_)
   ·
    have hc144p := of_decide_eq_true hc144
    refine sR <| Qd (J7 Xt J6 s4 ((Mem.pick6 [_] Hj Hsq16 [_] Hrq5 [_, _] [_] _ m143)).h0) <| Vf (Kt J6 s8 rfl ((Mem.pick5 [_] Hj Hsq16 [_] Hrq5 [_] _ m143)).h0 (Fa (RdK.one (RdK.ofRest hk m143)))) ?_
    rintro _ w145 uq145
    have m145 : Mem _ _ ([_, _] ++ (Hj ++ (Hsq16 ++ ([_] ++ (Hrq5 ++ ([_, _])))))) := Mem.upd0 (Mem.pick5 [_] Hj Hsq16 [_] Hrq5 [_] _ m143) uq145
    refine Zx Wl <| Zx (i64 11) ?_
    refine rN (Zz (Yv ?_))
    refine Qp [(Value.agg (Qz (sS S vk))), Wl, (i64 11)] ⟨⟨_, s8, Jr Xt J6 m145.h0⟩, rfl, rfl, trivial⟩ ?_
    have hrc := Qql htoo hc144p
    have m146 := Mem.drop [_] _ m145
    have m147 := Mem.drop [_] _ m146
    have m148 := Mem.drop Hj _ m147
    have m149 := Mem.drop Hsq16 _ m148
    have m150 := Mem.drop [_] _ m149
    have m151 := Mem.drop Hrq5 _ m150
    have m152 := Mem.drop [_] _ m151
    have m153 := Mem.drop [_] _ m152
    obtain ⟨ho1, ho2, ho3, ho4⟩ := Qk1 (b := lb) (Qdb hok hin hrc.1) Jb
    rw [ho1, ho2, ho3, ho4]
    exact ⟨Value.slice none 0 0, [], Value.slice none 0 0, [], by rw [if_neg Jb]; rfl, Yx.none Y3 65 69, Z5.none u8 5, by simpa using m153⟩
   ·
    have hc144p := of_decide_eq_false hc144
    refine Qn (Qc (Qa ?_))
    rcases Bool.eq_false_or_eq_true (Qco (Jp S (Xe ls) f) (Xe ls).n) with hb154 | hb154
    ·
     refine Qb <| Qd (J7 Xt J6 s19 m143.h0) <| Qd (Zi (r := 33) Fj rfl Je Ui rfl s11) <| Qd (Yi 2 Uu rfl ((Mem.pick3 [_] Hj Hsq16 [_] _ m143)).h0 rfl) <| U3 m143 (oc56 (Xm rfl rfl) (Qj2 (Jp S (Xe ls) f) vj _ _ (HK.rd hkj (Mem.pick [_] Hj _ m143)) sL sL sL (by assumption))) fun w155 m155 => Zm (Value.tuple #[(Value.agg (Qz (sS (Jp S (Xe ls) f) vj))), (bl false)]) <| Qd (v := (Value.agg (Qz (sS (Jp S (Xe ls) f) vj)))) (Zr rfl rfl) <| Qd (v := (bl false)) (Zr rfl rfl) <| Ye m155 (Kt J6 s19 rfl m155.h0 (Fa (RdK.one (HK.rd hkj (Mem.pick [_] Hj _ m155))))) fun w157 m157 => Zx (bl false) ?_
     refine rN (Qa (sR ?_))
     refine Zm (bl false) <| Qd (v := (bl true)) (Gw (b := false) rfl) <| rN <| Q9 rfl Jb <| sR <| Qd (J7 Xt J6 s4 ((Mem.pick6 [_] Hj Hsq16 [_] Hrq5 [_, _] [_] _ m157)).h0) <| Vf (Kt J6 s8 rfl ((Mem.pick5 [_] Hj Hsq16 [_] Hrq5 [_] _ m157)).h0 (Fa (RdK.one (RdK.ofRest hk m157)))) ?_
     rintro _ w158 uq158
     have m158 : Mem _ _ ([_, _] ++ (Hj ++ (Hsq16 ++ ([_] ++ (Hrq5 ++ ([_, _])))))) := Mem.upd0 (Mem.pick5 [_] Hj Hsq16 [_] Hrq5 [_] _ m157) uq158
     refine Zx Wl <| Zx (i64 12) ?_
     refine rN (Zz (Yv ?_))
     refine Qp [(Value.agg (Qz (sS S vk))), Wl, (i64 12)] ⟨⟨_, s8, Jr Xt J6 m158.h0⟩, rfl, rfl, trivial⟩ ?_
     have hrc := Qqm htoo hc144p (by rw [Qdi hb154]; decide)
     have m159 := Mem.drop [_] _ m158
     have m160 := Mem.drop [_] _ m159
     have m161 := Mem.drop Hj _ m160
     have m162 := Mem.drop Hsq16 _ m161
     have m163 := Mem.drop [_] _ m162
     have m164 := Mem.drop Hrq5 _ m163
     have m165 := Mem.drop [_] _ m164
     have m166 := Mem.drop [_] _ m165
     obtain ⟨ho1, ho2, ho3, ho4⟩ := Qk1 (b := lb) (Qdb hok hin (hrc.1.trans (Qdi hb154))) Jb
     rw [ho1, ho2, ho3, ho4]
     exact ⟨Value.slice none 0 0, [], Value.slice none 0 0, [], by rw [if_neg Jb]; rfl, Yx.none Y3 65 69, Z5.none u8 5, by simpa using m166⟩
    ·
     refine Qb <| Qd (J7 Xt J6 s19 m143.h0) <| Qd (Zi (r := 33) Fj rfl Je Ui rfl s11) <| Qd (Yi 2 Uu rfl ((Mem.pick3 [_] Hj Hsq16 [_] _ m143)).h0 rfl) <| Vw (oc56 (Xm rfl rfl) (Qoa (Jp S (Xe ls) f) vj _ _ (HK.rd hkj (Mem.pick [_] Hj _ m143)) sL sL sL (by assumption))) ?_
     rintro _ w167 ⟨vqq168, Hqq168, rfl, gqq168, k_w167⟩
     have m167 : Mem _ _ (Hqq168 ++ ([_] ++ (Hj ++ (Hsq16 ++ ([_] ++ (Hrq5 ++ ([_, _, _]))))))) := Mem.new (H := [_] ++ (Hj ++ (Hsq16 ++ ([_] ++ (Hrq5 ++ ([_, _, _])))))) (H' := Hqq168) m143 k_w167
     refine Yb rfl <| Qd (v := (Value.agg (Qz (sS (Za (Jp S (Xe ls) f) ((Xe ls).n)) vqq168)))) (Zr rfl rfl) <| Qd (v := (bl true)) (Zr rfl rfl) <| Vf (Kt J6 s19 rfl ((Mem.pick Hqq168 [_] _ m167)).h0 (Fa gqq168.one)) ?_
     rintro _ w169 uq169
     have m169 : Mem _ _ ([_] ++ (Hqq168 ++ (Hj ++ (Hsq16 ++ ([_] ++ (Hrq5 ++ ([_, _, _]))))))) := Mem.upd0 (Mem.pick Hqq168 [_] _ m167) uq169
     refine Zx (bl true) <| rN ?_
     have m170 := Mem.drop Hj _ (Mem.pick2 [_] Hqq168 Hj _ m169)
     refine Qa (sR ?_)
     refine Zm (bl true) <| Qd (v := (bl false)) (Gw (b := true) rfl) <| rN <| Ja rfl Jb ?_
     refine Qn (Qc (sR ?_))
     refine Qd (Zi (r := 130) Xt rfl Je Zg rfl s19) <| Qd (Jk 6 Xl Zg rfl m170.h0 rfl) <| U3 m170 (oc37 (Jv rfl) (Qq4 _ _ sL)) fun w171 m171 => Yb rfl <| Qd (v := (agg u8 (Xj ((Za (Jp S (Xe ls) f) ((Xe ls).n)).t) [2#8]))) (Zr rfl rfl) <| Qd (v := (agg u8 (Xj ((Za (Jp S (Xe ls) f) ((Xe ls).n)).t) [1#8]))) (Zr rfl rfl) <| Y9 (Q7 m171 Zg) fun w173 b21 m173 => Y9 (Q7 m173 Zg) fun w174 b22 m174 => Vu m174 (Qg (f := u8) (l := Xj ((Za (Jp S (Xe ls) f) ((Xe ls).n)).t) [2#8]) Qs Zg rfl rfl sL m174.h1 Sv rfl) fun w175 m175 => Ye m175 (Qg (f := u8) (l := Xj ((Za (Jp S (Xe ls) f) ((Xe ls).n)).t) [1#8]) Qs Zg rfl rfl sL m175.h0 Sv rfl) fun w176 m176 => ?_
     refine rN (sR ?_)
     refine Qd (Qo Xl rfl Zg rfl m176.h1 Sv) <| Qd (Zi (r := 130) Xt rfl Je Zg rfl s19) <| Aa m176 (Ug 6 (sE ((Za (Jp S (Xe ls) f) ((Xe ls).n)).r) ((Za (Jp S (Xe ls) f) ((Xe ls).n)).w) ((Za (Jp S (Xe ls) f) ((Xe ls).n)).o) ((Za (Jp S (Xe ls) f) ((Xe ls).n)).sb) ((Za (Jp S (Xe ls) f) ((Xe ls).n)).tb) ((Za (Jp S (Xe ls) f) ((Xe ls).n)).s) (Xj ((Za (Jp S (Xe ls) f) ((Xe ls).n)).t) [2#8]) ((Za (Jp S (Xe ls) f) ((Xe ls).n)).n1) ((Za (Jp S (Xe ls) f) ((Xe ls).n)).n2) ((Za (Jp S (Xe ls) f) ((Xe ls).n)).n3) vqq168) Qs Zg rfl rfl m176.h2 rfl) fun w177 m177 => ?_
     refine rN (sR ?_)
     refine Qd (Zi (r := 163) Xt rfl Je Ui rfl s19) <| Qd (Yi 8 Uu rfl m177.h2 rfl) <| Qd (Zf (b := 1) rfl rfl oM oM) <| Qd (Zi (r := 163) Xt rfl Je Ui rfl s19) <| Aa m177 (G5 8 (sE ((Za (Jp S (Xe ls) f) ((Xe ls).n)).r) ((Za (Jp S (Xe ls) f) ((Xe ls).n)).w) ((Za (Jp S (Xe ls) f) ((Xe ls).n)).o) ((Za (Jp S (Xe ls) f) ((Xe ls).n)).sb) ((Za (Jp S (Xe ls) f) ((Xe ls).n)).tb) ((Za (Jp S (Xe ls) f) ((Xe ls).n)).s) (Xj ((Za (Jp S (Xe ls) f) ((Xe ls).n)).t) [2#8]) ((Za (Jp S (Xe ls) f) ((Xe ls).n)).n1) (((Za (Jp S (Xe ls) f) ((Xe ls).n)).n2) + 1) ((Za (Jp S (Xe ls) f) ((Xe ls).n)).n3) vqq168) Ui rfl rfl (Zv _) m177.h2 rfl rfl) fun w178 m178 => ?_
     refine rN (sR ?_)
     refine Qd (Qo Xl rfl Zg rfl m178.h0 Sv) <| Qd (Kw (ps := []) (c := (cl u8 (List.replicate 12 0))) Qbl Po Yw Ya rfl) <| Yb s14 <| Yb s12 <| Vw (oc55 (Tm rfl rfl rfl rfl) (Qq5 _ _ rq16 (lb ++ ((ls.drop 0).take 40)) vrq5 (hdR ls) _ sL sL (grq16.rd (Mem.pick2 [_, _, _] Hqq168 Hsq16 _ m178)) sL (grq5.rd (Mem.pick4 [_, _, _] Hqq168 Hsq16 [_] Hrq5 _ m178)) sL)) ?_
     rintro _ w179 ⟨vxq180, Hsq180, rfl, gvxq180, k_w179⟩
     have m179 : Mem _ _ (Hsq180 ++ ([_, _, _] ++ (Hqq168 ++ (Hsq16 ++ ([_] ++ (Hrq5 ++ ([_, _, _]))))))) := Mem.new (H := [_, _, _] ++ (Hqq168 ++ (Hsq16 ++ ([_] ++ (Hrq5 ++ ([_, _, _])))))) (H' := Hsq180) m178 k_w179
     refine Yb rfl <| Qd (v := vxq180) (Zr rfl rfl) <| Qd (v := (i64 (Qaw (Xj ((Za (Jp S (Xe ls) f) ((Xe ls).n)).t) [1#8]) (List.replicate 12 0) (lb ++ ((ls.drop 0).take 40)) (hdR ls)))) (Zr rfl rfl) <| Zx vxq180 <| yqA rfl ?_
     refine rN (Qa (sR ?_))
     refine Yb rfl <| Qd (We (b := 0) rfl rfl) <| rN ?_
     refine Zy rfl (fun hc181 => ?_) (fun hc181 => ?_)
     ·
      have hc181p := bne_iff_ne.1 hc181
      refine sR <| Qd (J7 Xt J6 s4 ((Mem.pick7 Hsq180 [_, _, _] Hqq168 Hsq16 [_] Hrq5 [_, _] [_] _ m179)).h0) <| Yb rfl <| Vf (Kt J6 s8 rfl ((Mem.pick6 Hsq180 [_, _, _] Hqq168 Hsq16 [_] Hrq5 [_] _ m179)).h0 (Fa (RdK.one (RdK.ofRest hk m179)))) ?_
      rintro _ w182 uq182
      have m182 : Mem _ _ ([_] ++ (Hsq180 ++ ([_, _, _] ++ (Hqq168 ++ (Hsq16 ++ ([_] ++ (Hrq5 ++ ([_, _])))))))) := Mem.upd0 (Mem.pick6 Hsq180 [_, _, _] Hqq168 Hsq16 [_] Hrq5 [_] _ m179) uq182
      refine Zx Wl <| yqA rfl ?_
      refine rN (Zz (Yv ?_))
      refine Qp [(Value.agg (Qz (sS S vk))), Wl, (i64 (Qaw (Xj ((Za (Jp S (Xe ls) f) ((Xe ls).n)).t) [1#8]) (List.replicate 12 0) (lb ++ ((ls.drop 0).take 40)) (hdR ls)))] ⟨⟨_, s8, Jr Xt J6 m182.h0⟩, rfl, rfl, trivial⟩ ?_
      have hrc := Qos htoo hc144p (Qfx hb154)
      have hd1 := Qdb hok hin hrc.1
      have hj1 := (Qjf (f := f) hin).trans hrc.2.2
      have hj0 := (Ql7 (f := f) hin).trans hrc.2.1
      have hon : Qdf (N7 S ls f) lb ls = (Qaw (Xj ((Za (Jp S (Xe ls) f) ((Xe ls).n)).t) [1#8]) (List.replicate 12 0) (lb ++ ((ls.drop 0).take 40)) (hdR ls)) := by unfold Qdf; rw [hj1, ← hrr]; rfl
      have m183 := Mem.drop [_] _ m182
      have m184 := Mem.drop Hsq180 _ m183
      have m185 := Mem.drop [_] _ m184
      have m186 := Mem.drop [_] _ m185
      have m187 := Mem.drop [_] _ m186
      have m188 := Mem.drop Hqq168 _ m187
      have m189 := Mem.drop Hsq16 _ m188
      have m190 := Mem.drop [_] _ m189
      have m191 := Mem.drop Hrq5 _ m190
      have m192 := Mem.drop [_] _ m191
      have m193 := Mem.drop [_] _ m192
      obtain ⟨ho1, ho2, ho3, ho4⟩ := out_2 hd1 (by rw [hon]; exact bne_iff_ne.1 hc181)
      rw [ho1, ho2, ho3, ho4]
      exact ⟨Value.slice none 0 0, [], Value.slice none 0 0, [], by rw [if_neg (by rw [hon]; exact bne_iff_ne.1 hc181)]; rw [hon]; rfl, Yx.none Y3 65 69, Z5.none u8 5, by simpa using m193⟩
     ·
      have hc181p := X3 hc181
      refine Qn (Qc (sR ?_))
      refine Qd (J7 Xt J6 s19 ((Mem.pick2 Hsq180 [_, _] [_] _ m179)).h0) <| Zm vxq180 <| Vf (Kt J6 s8 rfl ((Mem.pick6 Hsq180 [_, _, _] Hqq168 Hsq16 [_] Hrq5 [_] _ m179)).h0 (Fa gqq168.one)) ?_
      rintro _ w194 uq194
      have m194 : Mem _ _ ([_] ++ (Hsq180 ++ ([_, _, _] ++ (Hqq168 ++ (Hsq16 ++ ([_] ++ (Hrq5 ++ ([_, _])))))))) := Mem.upd0 (Mem.pick6 Hsq180 [_, _, _] Hqq168 Hsq16 [_] Hrq5 [_] _ m179) uq194
      refine Zx vxq180 <| Zx (i64 0) ?_
      refine rN (Zz ?_)
      refine Qp [(Value.agg (Qz (sE ((Za (Jp S (Xe ls) f) ((Xe ls).n)).r) ((Za (Jp S (Xe ls) f) ((Xe ls).n)).w) ((Za (Jp S (Xe ls) f) ((Xe ls).n)).o) ((Za (Jp S (Xe ls) f) ((Xe ls).n)).sb) ((Za (Jp S (Xe ls) f) ((Xe ls).n)).tb) ((Za (Jp S (Xe ls) f) ((Xe ls).n)).s) (Xj ((Za (Jp S (Xe ls) f) ((Xe ls).n)).t) [2#8]) ((Za (Jp S (Xe ls) f) ((Xe ls).n)).n1) (((Za (Jp S (Xe ls) f) ((Xe ls).n)).n2) + 1) ((Za (Jp S (Xe ls) f) ((Xe ls).n)).n3) vqq168))), vxq180, (i64 0)] ⟨⟨_, s8, Jr Xt J6 m194.h0⟩, rfl, rfl, trivial⟩ ?_
      have hrc := Qos htoo hc144p (Qfx hb154)
      have hd1 := Qdb hok hin hrc.1
      have hj1 := (Qjf (f := f) hin).trans hrc.2.2
      have hj0 := (Ql7 (f := f) hin).trans hrc.2.1
      have hon : Qdf (N7 S ls f) lb ls = (Qaw (Xj ((Za (Jp S (Xe ls) f) ((Xe ls).n)).t) [1#8]) (List.replicate 12 0) (lb ++ ((ls.drop 0).take 40)) (hdR ls)) := by unfold Qdf; rw [hj1, ← hrr]; rfl
      have m195 := Mem.drop [_] _ m194
      have m196 := Mem.drop [_] _ (Mem.pick Hsq180 [_] _ m195)
      have m197 := Mem.drop [_] _ (Mem.pick Hsq180 [_] _ m196)
      have m198 := Mem.drop [_] _ (Mem.pick Hsq180 [_] _ m197)
      have m199 := Mem.drop Hsq16 _ (Mem.pick2 Hsq180 Hqq168 Hsq16 _ m198)
      have m200 := Mem.drop [_] _ (Mem.pick2 Hsq180 Hqq168 [_] _ m199)
      have m201 := Mem.drop Hrq5 _ (Mem.pick2 Hsq180 Hqq168 Hrq5 _ m200)
      have m202 := Mem.drop [_] _ (Mem.pick2 Hsq180 Hqq168 [_] _ m201)
      have m203 := Mem.drop [_] _ (Mem.pick2 Hsq180 Hqq168 [_] _ m202)
      have m204 := (Mem.pick Hsq180 Hqq168 _ m203)
      obtain ⟨ho1, ho2, ho3, ho4⟩ := out_3 hd1 (by rw [hon]; exact X3 hc181)
      rw [ho1, ho2, ho3, ho4]
      rw [hj0]
      exact ⟨vqq168, Hqq168, vxq180, Hsq180, by rw [if_pos rfl]; rfl, Yx.cast gqq168 (by first | rfl | exact (cut_sl _ _).trans (Qpr _ _).symm), Z5.cast gvxq180 (by unfold opnP; rw [hj1, ← hrr]; rfl), (by
       have hT := m204
       try simp only [List.append_assoc, List.cons_append, List.nil_append, List.append_nil] at hT ⊢
       exact hT)⟩
end Go.Proofs.YtkmiemlpfkfiiaaDoor
