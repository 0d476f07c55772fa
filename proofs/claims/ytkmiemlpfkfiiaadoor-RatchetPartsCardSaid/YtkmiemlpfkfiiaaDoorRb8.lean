/- The ratchet: what is deciphered (the document). Conditions: none beyond those that each theorem states. -/
import Derived.Test.YtkmiemlpfkfiiaaDoorRb7
namespace Go.Proofs.YtkmiemlpfkfiiaaDoor
open Tryd
set_option linter.unusedVariables false
set_option linter.unusedSimpArgs false
def HK (R : Rest) (Hs : List (Nat × Obj)) (v : Value) (l : List Kp) : Prop := ∀ m, (∀ b o, R.blk b = some o → m b = some o) → (∀ p ∈ Hs, m p.1 = some p.2) → RdK m Jt 65 v l
theorem HK.own {R : Rest} {Hs : List (Nat × Obj)} {v : Value} {l l' : List Kp} {E : TypeId} (g : Yz Jt 65 E v l Hs) (e : l = l') : HK R Hs v l' := fun m _ h => e ▸ g.rdIn h
theorem HK.old {w : World} {v : Value} {l l' : List Kp} (h : RdK (Jl w) Jt 65 v l) (e : l = l') : HK (Qu w) [] v l' := fun m h1 _ => e ▸ h.mono h1
theorem HK.rd {w : World} {R : Rest} {Hs H : List (Nat × Obj)} {v : Value} {l : List Kp} (h : HK R Hs v l) (hm : Mem w R (Hs ++ H)) : RdK (Jl w) Jt 65 v l := h _ (fun b o e => hm.rest b o e) fun p hp => hm.own p (List.mem_append_left _ hp)
theorem Qc0 {S : Sn} {s f : Xg} {e : Int} (h : Px s = true) (h1 : ¬ 0 ≤ Bo S s) (h2 : Nr S (Xn s) f = e) : Qd4 S s f = e := (Qjm h h1).trans h2
theorem cut_sl (l : List Kp) (i : Nat) : (l.drop (0 : Int).toNat).take ((i : Int).toNat - (0 : Int).toNat) ++ (l.drop ((i : Int) + 1).toNat).take ((l.length : Int).toNat - ((i : Int) + 1).toNat) = l.take i ++ l.drop (i + 1) := by
 rw [show ((i : Int) + 1).toNat = i + 1 by omega, Int.toNat_natCast, Int.toNat_natCast, show (0 : Int).toNat = 0 from rfl, List.drop_zero, Nat.sub_zero, List.take_of_length_le (l := l.drop (i + 1)) (by rw [List.length_drop]; exact Nat.le_refl _)]
attribute [local irreducible] Qc5 Wu Eh Yg Jj Tc Wp Vd Wn Xk Ae F6 Qe Yt Qi Bl Px Xn hdR hdE Gh Tn Qam Nr Qbp Qbc Jz
set_option maxHeartbeats 2000000 in
theorem Qfx (S : Sn) (vk : Value) (vb : Value) (lb : Xg) (vs : Value) (ls : Xg) (f : Xg) (w0 : World)  (hk : RdK (Jl w0) Jt 65 vk S.ks) (hrb : Rd (Jl w0) u8 vb lb) (hlb : lb.length ≤ 90000) (hrs : Rd (Jl w0) u8 vs ls) (hls : ls.length ≤ 90000) (hfl : f.length = 32) (hn2 : 0 ≤ S.n2 ∧ S.n2 ≤ 2147483647) (hkl : S.ks.length ≤ 5000) : X9 prog 26 #[(Value.agg (Qo (sS S vk))), vb, vs, (agg u8 f)] w0 (fun r w1 => ∃ vq Hq vp Hp, r = Value.tuple #[(Value.agg (Qo (sS (V6 S lb ls f) (if J9 S lb ls f = 0 then vq else vk)))), vp, i64 (J9 S lb ls f)] ∧ Yz Jt 65 69 vq (Qgv S lb ls f) Hq ∧ Xe u8 5 vp (Cm S lb ls f) Hp ∧ Mem w1 (Qu w0) (Hq ++ Hp)) := by
 refine Zb (args := [(Value.agg (Qo (sS S vk))), vb, vs, (agg u8 f)]) func26 rfl ntmps26 results26 rfl ?_
 have m0 : Mem w0 (Qu w0) [] := Mem.of_world w0
 have hhc := (Xn ls).hc
 have hkal := Qnn (S := S) (s := ls) (f := f)
 have hmll := Ql3 (S := S) (s := ls) (f := f)
 have hrkl := Qi1 S (Xn ls) f
 refine sR <| Y9 (F8 (cs := (Qo (sS S vk))) m0 rfl) fun w1 b4 m1 => Y9 (Xa (f := u8) (l := f) m1 rfl) fun w2 b7 m2 => Y9 (Ji m2 Ja) fun w3 b8 m3 => Zz Yj <| Zz (i64 0) ?_
 refine rN (sR ?_)
 refine Zp vs <| Vy (oc24 (Kt rfl) (Qr7 vs ls _ (Rd.ofRest hrs m3) sL)) ?_
 rintro _ w4 ⟨vrq5, Hrq5, rfl, grq5, k_w4⟩
 have m4 : Mem _ _ (Hrq5 ++ ([_, _, _])) := Mem.new (H := [_, _, _]) (H' := Hrq5) m3 k_w4
 refine Ya rfl <| Qd (v := (Value.agg (Qo (sH ((Xn ls).c) ((Xn ls).p) ((Xn ls).n))))) (Zm rfl rfl) <| Qd (v := vrq5) (Zm rfl rfl) <| Qd (v := (i64 (hdE ls))) (Zm rfl rfl) <| Y9 (Ji m4 Ap) fun w6 b11 m6 => Ye m6 (J8 Ap rfl rfl m6.h0 (Yr (Jo Qy _) (Yr (X4 (Z4 _) Kw) (Yr (X4 (Z4 _) Kw) Fa)))) fun w7 m7 => Zz vrq5 <| Zz (i64 (hdE ls)) ?_
 refine rN (Qa (sR ?_))
 refine Zp (i64 (hdE ls)) <| Qd (Jw (b := 0) rfl rfl) <| rN ?_
 refine Z8 rfl (fun hc8 => ?_) (fun hc8 => ?_)
 ·
  have hc8p := bne_iff_ne.1 hc8
  refine sR <| Qd (Jk X3 Ja rfl ((Mem.pick3 [_] Hrq5 [_, _] [_] _ m7)).h0) <| Zp (i64 (hdE ls)) <| Vk (J8 Ja rfl rfl ((Mem.pick2 [_] Hrq5 [_] _ m7)).h0 (Gx (RdK.one (RdK.ofRest hk m7)))) ?_
  rintro _ w9 uq9
  have m9 : Mem _ _ ([_, _] ++ (Hrq5 ++ ([_, _]))) := Mem.upd0 (Mem.pick2 [_] Hrq5 [_] _ m7) uq9
  refine Zz Yj <| Zz (i64 (hdE ls)) ?_
  refine rN (Xb (Y3 ?_))
  refine Qv [(Value.agg (Qo (sS S vk))), Yj, (i64 (hdE ls))] ⟨⟨_, rfl, J4 X3 Ja m9.h0⟩, rfl, rfl, trivial⟩ ?_
  have m10 := Mem.drop [_] _ m9
  have m11 := Mem.drop [_] _ m10
  have m12 := Mem.drop Hrq5 _ m11
  have m13 := Mem.drop [_] _ m12
  have m14 := Mem.drop [_] _ m13
  obtain ⟨ho1, ho2, ho3, ho4⟩ := Qks (b := lb) (Qqp (f := f) (S := S) (hdE_3 (bne_iff_ne.1 hc8)).1) Jg
  rw [ho1, ho2, ho3, ho4]
  exact ⟨Value.slice none 0 0, [], Value.slice none 0 0, [], by rw [if_neg Jg]; rw [(hdE_3 (bne_iff_ne.1 hc8)).2]; rfl, Yz.none Jt 65 69, Xe.none u8 5, by simpa using m14⟩
 ·
  have hc8p := X0 hc8
  have hok := hdE_0 (X0 hc8)
  obtain ⟨hl40, hhp, hhn⟩ := hd_of hok
  have hrr := (Qgm hok).2.2
  have hrl : (hdR ls).length = ls.length - 40 := by rw [hrr, List.length_drop]
  refine Qs (Qc (sR ?_))
  refine Zp vb <| Zp vs <| Qd (Jd (i := 0) (j := 40) (Rd.ofRest hrs m7) Zu Y0 rfl (Zi _ _) (Yh (k := .i64) (i := 40) rfl) oM sL sL) <| Vy (oc38 (Xm rfl rfl) (c_rjoin vb lb (Ci vs 0 40) ((ls.drop 0).take 40) _ (Rd.ofRest hrb m7) sL (Rd.cast (l' := (ls.drop 0).take 40) (Rd.sub (Rd.ofRest hrs m7) oM sL sL) rfl) sL)) ?_
  rintro rq16 w15 ⟨Hsq16, grq16, k_w15⟩
  have m15 : Mem _ _ (Hsq16 ++ ([_] ++ (Hrq5 ++ ([_, _, _])))) := Mem.new (H := [_] ++ (Hrq5 ++ ([_, _, _]))) (H' := Hsq16) m7 k_w15
  refine Zz rq16 ?_
  refine rN (Qa (sR ?_))
  refine Zz (i64 0) ?_
  refine rN (Qk ?_)
  refine Y7 (fun g wv => ∃ (i : Nat), (i ≤ S.ks.length) ∧ (∀ j, j < i → Qb7 (Xn ls).c (Xn ls).n (S.ks.getD j D7) = false) ∧ g 0 = (Value.agg (Qo (sS S vk))) ∧ g 1 = vb ∧ g 2 = vs ∧ g 3 = (agg u8 f) ∧ g 4 = (ptr b4 0) ∧ g 7 = (ptr b7 0) ∧ g 8 = (ptr b8 0) ∧ g 11 = (ptr b11 0) ∧ g 12 = vrq5 ∧ g 13 = (i64 (hdE ls)) ∧ g 14 = rq16 ∧ g 15 = (i64 (i : Int)) ∧ g 31 = (bl ((hdE ls) != 0)) ∧ Mem wv (Qu w0) (Hsq16 ++ ([(b11, .cells (Qo (sH ((Xn ls).c) ((Xn ls).p) ((Xn ls).n))) 53 (0, 0))] ++ (Hrq5 ++ ([(b8, .cells (Qo (sE (List.replicate 32 0) (List.replicate 32 0) (List.replicate 32 0) false false (List.replicate 32 0) (List.replicate 32 0) 0 0 0 Yj)) 26 (0, 0)), (b7, .cells (cl u8 f) 23 (0, 0)), (b4, .cells (Qo (sS S vk)) 26 (0, 0))]))))) (fun g wv => ((S.ks.length : Int) - RowKit.intOf (g 15)).toNat) ?_ ?_
  ·exact ⟨0, (Nat.zero_le _), (fun j hj => absurd hj (Nat.not_lt_zero j)), rfl, rfl, rfl, rfl, rfl, rfl, rfl, rfl, rfl, rfl, rfl, rfl, rfl, m15⟩
  rintro fr17 w18 ⟨i, hi, hno, s0, s1, s2, s3, s4, s7, s8, s11, s12, s13, s14, s15, s31, m18⟩
  have z15 := s15
  have hkc := (S.ks.getD i D7).hc; have hkk := (S.ks.getD i D7).hk
  refine Qa (sR ?_)
  refine Ya s15 <| Qd (Zr (r := 165) X3 rfl Jr Aq rfl s4) <| Qd (Y8 10 Gu rfl ((Mem.pick4 Hsq16 [_] Hrq5 [_, _] [_] _ m18)).h0 rfl) <| Qd (Be (RdK.ofRest hk m18) Gu rfl) <| Qd (Z9 rfl rfl) <| rN ?_
  refine Z8 rfl (fun hc19 => ?_) (fun hc19 => ?_)
  ·
   have hc19p := of_decide_eq_true hc19
   refine Qs (Qc (Qa (Qk (Qa ?_))))
   refine Xl (dl 18) 18 Xw <| Yb rfl (Zr (r := 165) X3 rfl Jr Aq rfl s4) <| Yn rfl (fun _ e' => Y8 10 Gu rfl ((Mem.pick4 Hsq16 [_] Hrq5 [_, _] [_] _ (m18.ext e'))).h0 rfl) <| Um rfl s15 <| Yn rfl (fun _ e' => Jb (i := (i : Int)) (RdK.ofRest hk (m18.ext e')) Gu Bz rfl rfl oM sL) <| Yn rfl (fun _ e' => Qfr (i := (i : Int)) (RdK.ofRest hk (m18.ext e')) sL Qei rfl Jr Zl rfl rfl) <| Yn (v := (agg u8 ((S.ks.getD i D7).c))) rfl (fun _ e' => Ah (i := (i : Int)) (dflt := D7) (cs := (cl u8 ((S.ks.getD i D7).c))) (RdK.ofRest hk (m18.ext e')) sL Xq rfl Zl rfl rfl Jg (kp_c (S.ks.getD i D7))) <| Yb rfl (Zr (r := 0) Ea rfl Jr Zl rfl s11) <| Yn rfl (fun _ e' => Jv 0 Xq Zl rfl ((Mem.pick Hsq16 [_] _ (m18.ext e'))).h0 rfl) <| Yb rfl (Qcc (l := (S.ks.getD i D7).c) (m := (Xn ls).c) Xq Gl Y0 eqGuardType23 rfl rfl ysF ysF) <| Ky rfl (bl (((S.ks.getD i D7).c) == ((Xn ls).c))) ?_
   rcases Bool.eq_false_or_eq_true (((S.ks.getD i D7).c) == ((Xn ls).c)) with hb20 | hb20
   ·
    have hb20p := eq_of_beq hb20
    refine Qdf (s := 54) rfl rfl rfl hb20 rfl (fun _ _hx => Zr (r := 165) X3 rfl Jr Aq rfl s4) <| Qdf (s := 54) rfl rfl rfl hb20 rfl (fun _ _hx => Y8 10 Gu rfl ((Mem.pick4 Hsq16 [_] Hrq5 [_, _] [_] _ (m18.ext _hx))).h0 rfl) <| Qdf (s := 54) rfl rfl rfl hb20 rfl (fun _ _hx => Yp s15) <| Qdf (s := 54) rfl rfl rfl hb20 rfl (fun _ _hx => Jb (i := (i : Int)) (RdK.ofRest hk (m18.ext _hx)) Gu Bz rfl rfl oM sL) <| Qdf (s := 54) rfl rfl rfl hb20 rfl (fun _ _hx => Qfr (i := (i : Int)) (RdK.ofRest hk (m18.ext _hx)) sL Qei rfl Jr U0 rfl rfl) <| Qdf (s := 54) rfl rfl rfl hb20 rfl (fun _ _hx => Nb (i := (i : Int)) (dflt := D7) (u := (i64 ((S.ks.getD i D7).n))) (RdK.ofRest hk (m18.ext _hx)) sL Fj rfl rfl Jg (kp_n (S.ks.getD i D7))) <| Qdf (s := 54) rfl rfl rfl hb20 rfl (fun _ _hx => Zr (r := 33) Ea rfl Jr U0 rfl s11) <| Qdf (s := 54) rfl rfl rfl hb20 rfl (fun _ _hx => Y8 2 Fj rfl ((Mem.pick Hsq16 [_] _ (m18.ext _hx))).h0 rfl) <| Gs m18 fun w21 m21 => Z5 (s := 54) rfl rfl hb20 rfl (Fb rfl rfl) <| Qd (Vm rfl hb20 rfl) <| rN ?_
    refine Z8 rfl (fun hc22 => ?_) (fun hc22 => ?_)
    ·
     have hc22p := eq_of_beq hc22
     refine sR <| Qd (Zr (r := 165) X3 rfl Jr Aq rfl s4) <| Qd (Y8 10 Gu rfl ((Mem.pick4 Hsq16 [_] Hrq5 [_, _] [_] _ m21)).h0 rfl) <| Ya s15 <| Qd (Jb (i := (i : Int)) (RdK.ofRest hk m21) Gu Bz rfl rfl oM sL) <| Qd (Qfr (i := (i : Int)) (RdK.ofRest hk m21) sL Qei rfl Jr Zl rfl rfl) <| Qd (v := (agg u8 ((S.ks.getD i D7).k))) (Ah (i := (i : Int)) (dflt := D7) (cs := (cl u8 ((S.ks.getD i D7).k))) (RdK.ofRest hk m21) sL Xq rfl Zl rfl rfl Jg (kp_k (S.ks.getD i D7))) <| Qd (Vo (ps := []) (c := (cl u8 (List.replicate 12 0))) Qa9 Pj Y0 X7 rfl) <| Ya s14 <| Ya s12 <| Vy (oc55 (Hm rfl rfl rfl rfl) (Qqw _ _ rq16 (lb ++ ((ls.drop 0).take 40)) vrq5 (hdR ls) _ sL sL (grq16.rd m21) sL (grq5.rd (Mem.pick2 Hsq16 [_] Hrq5 _ m21)) sL)) ?_
     rintro _ w23 ⟨vxq24, Hsq24, rfl, gvxq24, k_w23⟩
     have m23 : Mem _ _ (Hsq24 ++ (Hsq16 ++ ([_] ++ (Hrq5 ++ ([_, _, _]))))) := Mem.new (H := Hsq16 ++ ([_] ++ (Hrq5 ++ ([_, _, _])))) (H' := Hsq24) m21 k_w23
     refine Ya rfl <| Qd (v := vxq24) (Zm rfl rfl) <| Qd (v := (i64 (Tn ((S.ks.getD i D7).k) (List.replicate 12 0) (lb ++ ((ls.drop 0).take 40)) (hdR ls)))) (Zm rfl rfl) <| Zz vxq24 <| Sz rfl ?_
     refine rN (Qa (sR ?_))
     refine Ya rfl <| Qd (Jw (b := 0) rfl rfl) <| rN ?_
     refine Z8 rfl (fun hc25 => ?_) (fun hc25 => ?_)
     ·
      have hc25p := bne_iff_ne.1 hc25
      refine sR <| Qd (Jk X3 Ja s4 ((Mem.pick5 Hsq24 Hsq16 [_] Hrq5 [_, _] [_] _ m23)).h0) <| Ya rfl <| Vk (J8 Ja s8 rfl ((Mem.pick4 Hsq24 Hsq16 [_] Hrq5 [_] _ m23)).h0 (Gx (RdK.one (RdK.ofRest hk m23)))) ?_
      rintro _ w26 uq26
      have m26 : Mem _ _ ([_] ++ (Hsq24 ++ (Hsq16 ++ ([_] ++ (Hrq5 ++ ([_, _])))))) := Mem.upd0 (Mem.pick4 Hsq24 Hsq16 [_] Hrq5 [_] _ m23) uq26
      refine Zz Yj <| Sz rfl ?_
      refine rN (Xb ?_)
      refine Y3 (La (Y3 (La ?_)))
      refine Qv [(Value.agg (Qo (sS S vk))), Yj, (i64 (Tn ((S.ks.getD i D7).k) (List.replicate 12 0) (lb ++ ((ls.drop 0).take 40)) (hdR ls)))] ⟨⟨_, s8, J4 X3 Ja m26.h0⟩, rfl, rfl, trivial⟩ ?_
      have hfi : Gh S.ks (Xn ls).c (Xn ls).n = i := Ql9 oM hno (by unfold Qb7; rw [hb20, hc22]; rfl)
      have hin : 0 ≤ Bo S ls := by show 0 ≤ Gh S.ks (Xn ls).c (Xn ls).n; omega
      have hit : (Bo S ls).toNat = i := by show (Gh S.ks (Xn ls).c (Xn ls).n).toNat = i; omega
      have hd1 := Qmh (f := f) hok hin
      have hj1 := Ql5 (f := f) hin
      have hj0 := Qos (f := f) hin
      rw [hit] at hj0 hj1
      have hon : Qc3 (Nu S ls f) lb ls = (Tn ((S.ks.getD i D7).k) (List.replicate 12 0) (lb ++ ((ls.drop 0).take 40)) (hdR ls)) := by unfold Qc3; rw [hj1, ← hrr]; rfl
      have m27 := Mem.drop [_] _ m26
      have m28 := Mem.drop Hsq24 _ m27
      have m29 := Mem.drop Hsq16 _ m28
      have m30 := Mem.drop [_] _ m29
      have m31 := Mem.drop Hrq5 _ m30
      have m32 := Mem.drop [_] _ m31
      have m33 := Mem.drop [_] _ m32
      obtain ⟨ho1, ho2, ho3, ho4⟩ := out_2 hd1 (by rw [hon]; exact bne_iff_ne.1 hc25)
      rw [ho1, ho2, ho3, ho4]
      exact ⟨Value.slice none 0 0, [], Value.slice none 0 0, [], by rw [if_neg (by rw [hon]; exact bne_iff_ne.1 hc25)]; rw [hon]; rfl, Yz.none Jt 65 69, Xe.none u8 5, by simpa using m33⟩
     ·
      have hc25p := X0 hc25
      refine Qs (Qc (sR ?_))
      refine Qd (Jk X3 Ja s4 ((Mem.pick5 Hsq24 Hsq16 [_] Hrq5 [_, _] [_] _ m23)).h0) <| Y9 (Ji m23 Ja) fun w34 b18 m34 => Ye m34 (J8 Ja rfl rfl m34.h0 (Gx (RdK.one (RdK.ofRest hk m34)))) fun w35 m35 => ?_
      refine rN (Qa ?_)
      refine Kr Xw ?_
      have hFM36 : Mem w35 (Qu w0) ([] ++ ([(b18, .cells (Qo (sS S vk)) 26 (0, 0))] ++ (Hsq24 ++ (Hsq16 ++ ([(b11, .cells (Qo (sH ((Xn ls).c) ((Xn ls).p) ((Xn ls).n))) 53 (0, 0))] ++ (Hrq5 ++ ([(b8, .cells (Qo (sE (List.replicate 32 0) (List.replicate 32 0) (List.replicate 32 0) false false (List.replicate 32 0) (List.replicate 32 0) 0 0 0 Yj)) 26 (0, 0)), (b7, .cells (cl u8 f) 23 (0, 0)), (b4, .cells (Qo (sS S vk)) 26 (0, 0))]))))))) := m35
      obtain ⟨RM36, hRM36⟩ : ∃ R2, R2 = Rest.add (Qu w0) ([(b18, .cells (Qo (sS S vk)) 26 (0, 0))] ++ (Hsq24 ++ (Hsq16 ++ ([(b11, .cells (Qo (sH ((Xn ls).c) ((Xn ls).p) ((Xn ls).n))) 53 (0, 0))] ++ (Hrq5 ++ ([(b8, .cells (Qo (sE (List.replicate 32 0) (List.replicate 32 0) (List.replicate 32 0) false false (List.replicate 32 0) (List.replicate 32 0) 0 0 0 Yj)) 26 (0, 0)), (b7, .cells (cl u8 f) 23 (0, 0)), (b4, .cells (Qo (sS S vk)) 26 (0, 0))])))))) := ⟨_, rfl⟩
      have M360 : Mem w35 RM36 [] := by rw [hRM36]; exact Mem.give hFM36
      have hr37 : Rd RM36.blk u8 vb lb := by rw [hRM36]; exact Rd.mono hrb fun b o e => Mem.addRest hFM36 e
      have hr38 : Rd RM36.blk u8 vs ls := by rw [hRM36]; exact Rd.mono hrs fun b o e => Mem.addRest hFM36 e
      have hg39 : Rd RM36.blk u8 vrq5 (hdR ls) := grq5.rdIn (fun p hp => by rw [hRM36]; exact Mem.addOwn hFM36 (List.mem_append_right _ (List.mem_append_right _ (List.mem_append_right _ (List.mem_append_right _ (List.mem_append_left _ hp))))))
      have hg40 : Rd RM36.blk u8 rq16 (lb ++ ((ls.drop 0).take 40)) := grq16.rdIn (fun p hp => by rw [hRM36]; exact Mem.addOwn hFM36 (List.mem_append_right _ (List.mem_append_right _ (List.mem_append_left _ hp))))
      have hr41 : RdK RM36.blk Jt 65 vk S.ks := by rw [hRM36]; exact RdK.mono hk fun b o e => Mem.addRest hFM36 e
      have hg42 : Rd RM36.blk u8 vxq24 (Qam ((S.ks.getD i D7).k) (List.replicate 12 0) (lb ++ ((ls.drop 0).take 40)) (hdR ls)) := gvxq24.rdIn (fun p hp => by rw [hRM36]; exact Mem.addOwn hFM36 (List.mem_append_right _ (List.mem_append_left _ hp)))
      have ho43 : RM36.blk b18 = some (.cells (Qo (sS S vk)) 26 (0, 0)) := by rw [hRM36]; exact Mem.addOwn hFM36 (List.mem_append_left _ (List.Mem.head _))
      have ho44 : RM36.blk b11 = some (.cells (Qo (sH ((Xn ls).c) ((Xn ls).p) ((Xn ls).n))) 53 (0, 0)) := by rw [hRM36]; exact Mem.addOwn hFM36 (List.mem_append_right _ (List.mem_append_right _ (List.mem_append_right _ (List.mem_append_left _ (List.Mem.head _)))))
      have ho45 : RM36.blk b8 = some (.cells (Qo (sE (List.replicate 32 0) (List.replicate 32 0) (List.replicate 32 0) false false (List.replicate 32 0) (List.replicate 32 0) 0 0 0 Yj)) 26 (0, 0)) := by rw [hRM36]; exact Mem.addOwn hFM36 (List.mem_append_right _ (List.mem_append_right _ (List.mem_append_right _ (List.mem_append_right _ (List.mem_append_right _ (List.Mem.head _))))))
      have ho46 : RM36.blk b7 = some (.cells (cl u8 f) 23 (0, 0)) := by rw [hRM36]; exact Mem.addOwn hFM36 (List.mem_append_right _ (List.mem_append_right _ (List.mem_append_right _ (List.mem_append_right _ (List.mem_append_right _ (List.Mem.tail _ (List.Mem.head _)))))))
      have ho47 : RM36.blk b4 = some (.cells (Qo (sS S vk)) 26 (0, 0)) := by rw [hRM36]; exact Mem.addOwn hFM36 (List.mem_append_right _ (List.mem_append_right _ (List.mem_append_right _ (List.mem_append_right _ (List.mem_append_right _ (List.Mem.tail _ (List.Mem.tail _ (List.Mem.head _))))))))
      refine Dl M360 [(1, false), (2, false), (3, false), (4, false), (6, false), (7, false), (8, false), (9, false), (10, false), (0, true), (5, true)] 11 rfl Xw <| N8 rfl (Zr (r := 165) X3 rfl Jr Aq rfl s4) <| yqH rfl (fun w _H _hx => Y8 10 Gu rfl (_hx.rest _ _ ho47) rfl) <| N8 rfl (Yp s15) <| yqH rfl (fun w _H _hx => Rx (i := 0) (j := (i : Int)) (RdK.ofRest hr41 _hx) Gu Bz rfl (Zi _ _) (Yh (k := .i64) (i := (i : Int)) rfl) oM sL sL) <| N8 rfl (Zr (r := 165) X3 rfl Jr Aq rfl s4) <| yqH rfl (fun w _H _hx => Y8 10 Gu rfl (_hx.rest _ _ ho47) rfl) <| N8 rfl (Yp s15) <| N8 rfl (Zg (b := 1) rfl rfl oM oM) <| yqH rfl (fun w _H _hx => Rx (i := (i : Int) + 1) (j := (S.ks.length : Int)) (RdK.ofRest hr41 _hx) Gu Bz rfl (Yh (k := .i64) (i := (i : Int) + 1) rfl) (Zi _ _) oM sL sL) ?_
      refine Qeu rfl rfl (fun w48 e48 => ?_)
      have m48 := M360.ext e48
      refine Vp.mono (Ee (c := #[]) m48 Gu Bz rfl V3 Xw) ?_
      rintro _ w49 ⟨b83, rfl, e49, m49⟩
      have m49 : Mem w49 RM36 [(b83, .cells #[] 69 (0, 0))] := m49
      refine ⟨⟨_, m49⟩, ?_⟩
      refine Qeu rfl rfl (fun w50 e50 => ?_)
      have m50 := m49.ext e50
      refine Vp.mono (Ad (enc := Jt) (k := 65) (Hs := [(b83, .cells #[] 69 (0, 0))]) (H := []) m50 (Yz.of Jt 65 69 b83 [] rfl X7) rfl rfl (RdK.cast (l' := ((S.ks.drop (0 : Int).toNat).take (((i : Int) : Int).toNat - (0 : Int).toNat))) (RdK.sub (i := 0) (j := (i : Int)) (RdK.ofRest hr41 m50) oM sL sL) rfl) Gu Gu Bz rfl rfl (fun a _ => P6 a) sL sL) ?_
      rintro sv51 w51 ⟨Hs51, m51, g51⟩
      replace g51 : Yz Jt 65 69 sv51 ((S.ks.drop (0 : Int).toNat).take (((i : Int) : Int).toNat - (0 : Int).toNat)) Hs51 := g51
      refine ⟨⟨_, m51⟩, ?_⟩
      refine Gs m51 fun w52 m52 => ?_
      have hX53 := m52
      rw [hRM36] at hX53
      have m54 : Mem w52 (Qu w0) (Hs51 ++ ([(b18, .cells (Qo (sS S vk)) 26 (0, 0))] ++ (Hsq24 ++ (Hsq16 ++ ([(b11, .cells (Qo (sH ((Xn ls).c) ((Xn ls).p) ((Xn ls).n))) 53 (0, 0))] ++ (Hrq5 ++ ([(b8, .cells (Qo (sE (List.replicate 32 0) (List.replicate 32 0) (List.replicate 32 0) false false (List.replicate 32 0) (List.replicate 32 0) 0 0 0 Yj)) 26 (0, 0)), (b7, .cells (cl u8 f) 23 (0, 0)), (b4, .cells (Qo (sS S vk)) 26 (0, 0))]))))))) := ymA (Mem.back hFM36 hX53)
      refine Vy (Ad (enc := Jt) (k := 65) (Hs := Hs51) (H := [_] ++ (Hsq24 ++ (Hsq16 ++ ([_] ++ (Hrq5 ++ ([_, _, _])))))) m54 g51 rfl rfl (RdK.cast (l' := ((S.ks.drop ((i : Int) + 1 : Int).toNat).take (((S.ks.length : Int) : Int).toNat - ((i : Int) + 1 : Int).toNat))) (RdK.sub (i := (i : Int) + 1) (j := (S.ks.length : Int)) (RdK.ofRest hk m54) oM sL sL) rfl) Gu Gu Bz rfl rfl (fun a _ => P6 a) sL sL) ?_
      rintro sv55 w55 ⟨Hs55, m55, g55⟩
      replace g55 : Yz Jt 65 69 sv55 (((S.ks.drop (0 : Int).toNat).take (((i : Int) : Int).toNat - (0 : Int).toNat)) ++ ((S.ks.drop ((i : Int) + 1 : Int).toNat).take (((S.ks.length : Int) : Int).toNat - ((i : Int) + 1 : Int).toNat))) Hs55 := g55
      refine Qd (Zr (r := 165) X3 rfl Jr Aq rfl rfl) <| Vk (Ui 10 (sS S sv55) Aq rfl rfl g55.one ((Mem.pick Hs55 [_] _ m55)).h0 rfl rfl) ?_
      rintro _ w56 uq56
      have m56 : Mem _ _ ([_] ++ (Hs55 ++ (Hsq24 ++ (Hsq16 ++ ([_] ++ (Hrq5 ++ ([_, _, _]))))))) := Mem.upd0 (Mem.pick Hs55 [_] _ m55) uq56
      refine rN (sR ?_)
      refine Qd (Jk X3 Ja rfl m56.h0) <| Zp vxq24 <| Vk (J8 Ja s8 rfl ((Mem.pick6 [_] Hs55 Hsq24 Hsq16 [_] Hrq5 [_] _ m56)).h0 (Gx g55.one)) ?_
      rintro _ w57 uq57
      have m57 : Mem _ _ ([_, _] ++ (Hs55 ++ (Hsq24 ++ (Hsq16 ++ ([_] ++ (Hrq5 ++ ([_, _]))))))) := Mem.upd0 (Mem.pick6 [_] Hs55 Hsq24 Hsq16 [_] Hrq5 [_] _ m56) uq57
      refine Zz vxq24 <| Zz (i64 0) ?_
      refine rN (Xb ?_)
      refine La (Y3 (La ?_))
      refine Qv [(Value.agg (Qo (sS S sv55))), vxq24, (i64 0)] ⟨⟨_, s8, J4 X3 Ja m57.h0⟩, rfl, rfl, trivial⟩ ?_
      have hfi : Gh S.ks (Xn ls).c (Xn ls).n = i := Ql9 oM hno (by unfold Qb7; rw [hb20, hc22]; rfl)
      have hin : 0 ≤ Bo S ls := by show 0 ≤ Gh S.ks (Xn ls).c (Xn ls).n; omega
      have hit : (Bo S ls).toNat = i := by show (Gh S.ks (Xn ls).c (Xn ls).n).toNat = i; omega
      have hd1 := Qmh (f := f) hok hin
      have hj1 := Ql5 (f := f) hin
      have hj0 := Qos (f := f) hin
      rw [hit] at hj0 hj1
      have hon : Qc3 (Nu S ls f) lb ls = (Tn ((S.ks.getD i D7).k) (List.replicate 12 0) (lb ++ ((ls.drop 0).take 40)) (hdR ls)) := by unfold Qc3; rw [hj1, ← hrr]; rfl
      have m58 := Mem.drop [_] _ m57
      have m59 := Mem.drop [_] _ m58
      have m60 := Mem.drop Hsq16 _ (Mem.pick2 Hs55 Hsq24 Hsq16 _ m59)
      have m61 := Mem.drop [_] _ (Mem.pick2 Hs55 Hsq24 [_] _ m60)
      have m62 := Mem.drop Hrq5 _ (Mem.pick2 Hs55 Hsq24 Hrq5 _ m61)
      have m63 := Mem.drop [_] _ (Mem.pick2 Hs55 Hsq24 [_] _ m62)
      have m64 := Mem.drop [_] _ (Mem.pick2 Hs55 Hsq24 [_] _ m63)
      obtain ⟨ho1, ho2, ho3, ho4⟩ := out_3 hd1 (by rw [hon]; exact X0 hc25)
      rw [ho1, ho2, ho3, ho4]
      rw [hj0]
      exact ⟨sv55, Hs55, vxq24, Hsq24, by rw [if_pos rfl]; rfl, Yz.cast g55 (by first | rfl | exact (cut_sl _ _).trans (Qpk _ _).symm), Xe.cast gvxq24 (by unfold opnP; rw [hj1, ← hrr]; rfl), (by
       have hT := m64
       try simp only [List.append_assoc, List.cons_append, List.nil_append, List.append_nil] at hT ⊢
       exact hT)⟩
    ·
     have hc22p := ne_of_beq_false hc22
     refine Qs (Qh (Qb ?_))
     refine Ya s15 <| Qd (Zg (b := 1) rfl rfl oM oM) <| Zz (i64 ((i : Int) + 1)) <| rN ?_
     exact ⟨⟨(i + 1), oM, (Qo1 hno (by unfold Qb7; rw [hb20, hc22]; rfl)), s0, s1, s2, s3, s4, s7, s8, s11, s12, s13, s14, rfl, s31, m21⟩, Uo rfl z15 oM oM⟩
   ·
    have hb20p := ne_of_beq_false hb20
    refine Qdg (s := 54) rfl rfl rfl hb20 rfl <| Qdg (s := 54) rfl rfl rfl hb20 rfl <| Qdg (s := 54) rfl rfl rfl hb20 rfl <| Qdg (s := 54) rfl rfl rfl hb20 rfl <| Qdg (s := 54) rfl rfl rfl hb20 rfl <| Qdg (s := 54) rfl rfl rfl hb20 rfl <| Qdg (s := 54) rfl rfl rfl hb20 rfl <| Qdg (s := 54) rfl rfl rfl hb20 rfl <| Gs m18 fun w65 m65 => W9 (s := 54) rfl rfl hb20 rfl <| Qd (Y4 rfl hb20 rfl) <| rN <| Yy rfl Jg ?_
    refine Qs (Qh (Qb ?_))
    refine Ya s15 <| Qd (Zg (b := 1) rfl rfl oM oM) <| Zz (i64 ((i : Int) + 1)) <| rN ?_
    exact ⟨⟨(i + 1), oM, (Qo1 hno (by unfold Qb7; rw [hb20]; rfl)), s0, s1, s2, s3, s4, s7, s8, s11, s12, s13, s14, rfl, s31, m65⟩, Uo rfl z15 oM oM⟩
  ·
   have hc19p := of_decide_eq_false hc19
   have hfn : Gh S.ks (Xn ls).c (Xn ls).n = -1 := Qk5 (fun j hj => hno j oM)
   have hin : ¬ 0 ≤ Bo S ls := by show ¬ 0 ≤ Gh S.ks (Xn ls).c (Xn ls).n; omega
   have h02 := Qqi S (Xn ls) f ⟨by omega, by omega⟩
   have h0l := Qi2 S (Xn ls) f
   have hll := Qbs S (Xn ls).p
   have hl2 := Qnl (Jz S (Xn ls) f) (Xn ls).n h02.1 hhn.1 h02.2 hhn.2
   have hl3 := Qbs (Jz S (Xn ls) f) (Xn ls).n
   refine X6 ?_
   refine Qm (Qm (Xi ?_))
   refine sR <| Qd (Jk X3 Ja s4 ((Mem.pick4 Hsq16 [_] Hrq5 [_, _] [_] _ m18)).h0) <| Y9 (Ji m18 Ja) fun w66 b19 m66 => Ye m66 (J8 Ja rfl rfl m66.h0 (Gx (RdK.one (RdK.ofRest hk m66)))) fun w67 m67 => ?_
   refine rN (sR ?_)
   refine Zz (bl true) ?_
   refine rN (Qa (Qa ?_))
   refine Bq (J := fun g wv => g 0 = (Value.agg (Qo (sS S vk))) ∧ g 1 = vb ∧ g 2 = vs ∧ g 3 = (agg u8 f) ∧ g 4 = (ptr b4 0) ∧ g 7 = (ptr b7 0) ∧ g 8 = (ptr b8 0) ∧ g 11 = (ptr b11 0) ∧ g 12 = vrq5 ∧ g 13 = (i64 (hdE ls)) ∧ g 14 = rq16 ∧ g 15 = (i64 (i : Int)) ∧ g 19 = (ptr b19 0) ∧ g 20 = (bl true) ∧ g 31 = (bl ((hdE ls) != 0)) ∧ g 42 = (bl (decide ((i : Int) < (S.ks.length : Int)))) ∧ g 108 = (bl (Qeq S (Xn ls))) ∧ Mem wv (Qu w0) ([(b19, .cells (Qo (sS S vk)) 26 (0, 0))] ++ (Hsq16 ++ ([(b11, .cells (Qo (sH ((Xn ls).c) ((Xn ls).p) ((Xn ls).n))) 53 (0, 0))] ++ (Hrq5 ++ ([(b8, .cells (Qo (sE (List.replicate 32 0) (List.replicate 32 0) (List.replicate 32 0) false false (List.replicate 32 0) (List.replicate 32 0) 0 0 0 Yj)) 26 (0, 0)), (b7, .cells (cl u8 f) 23 (0, 0)), (b4, .cells (Qo (sS S vk)) 26 (0, 0))])))))) ?_ ?_
   ·skip
    refine Qb <| Qd (Zr (r := 0) Ea rfl Jr Zl rfl s11) <| Qd (Jv 0 Xq Zl rfl ((Mem.pick2 [_] Hsq16 [_] _ m67)).h0 rfl) <| Qd (Zr (r := 64) X3 rfl Jr Zl rfl s4) <| Qd (Jv 2 Xq Zl rfl ((Mem.pick5 [_] Hsq16 [_] Hrq5 [_, _] [_] _ m67)).h0 rfl) <| Qd (Ce (l := (Xn ls).c) (m := S.o) Xq Gl Y0 eqGuardType23 rfl rfl ysF ysF) <| Zp (bl (((Xn ls).c) != S.o)) ?_
    rcases Bool.eq_false_or_eq_true (((Xn ls).c) != S.o) with hb68 | hb68
    ·
     have hb68p := bne_iff_ne.1 hb68
     refine W9 (s := 104) rfl rfl hb68 rfl <| W9 (s := 104) rfl rfl hb68 rfl <| W9 (s := 104) rfl rfl hb68 rfl <| Qd (Vm rfl hb68 rfl) <| rN ?_
     exact ⟨s0, s1, s2, s3, s4, s7, s8, s11, s12, s13, s14, s15, rfl, rfl, s31, rfl, (Eq.trans rfl (congrArg bl (by unfold Qeq; rw [hb68]; rfl))), m67⟩
    ·
     have hb68p := X0 hb68
     refine Z5 (s := 104) rfl rfl hb68 rfl (Zr (r := 97) X3 rfl Jr ti4 rfl s4) <| Z5 (s := 104) rfl rfl hb68 rfl (Y8 4 uT4 rfl ((Mem.pick5 [_] Hsq16 [_] Hrq5 [_, _] [_] _ m67)).h0 rfl) <| Z5 (s := 104) rfl rfl hb68 rfl (Ut rfl) <| Qd (Y4 rfl hb68 rfl) <| rN ?_
     exact ⟨s0, s1, s2, s3, s4, s7, s8, s11, s12, s13, s14, s15, rfl, rfl, s31, rfl, (Eq.trans rfl (congrArg bl (by unfold Qeq; rw [hb68]; rfl))), m67⟩
   rintro fr69 w70 ⟨s0, s1, s2, s3, s4, s7, s8, s11, s12, s13, s14, s15, s19, s20, s31, s42, s108, m70⟩
   refine Bq (J := fun g wv => ∃ (vj : Value) (Hj : List (Nat × Obj)), (HK (Qu w0) Hj vj (Jz S (Xn ls) f).ks) ∧ (Qdz S (Xn ls) = false) ∧ g 0 = (Value.agg (Qo (sS S vk))) ∧ g 1 = vb ∧ g 2 = vs ∧ g 3 = (agg u8 f) ∧ g 4 = (ptr b4 0) ∧ g 7 = (ptr b7 0) ∧ g 8 = (ptr b8 0) ∧ g 11 = (ptr b11 0) ∧ g 12 = vrq5 ∧ g 13 = (i64 (hdE ls)) ∧ g 14 = rq16 ∧ g 15 = (i64 (i : Int)) ∧ g 19 = (ptr b19 0) ∧ g 20 = (bl true) ∧ g 31 = (bl ((hdE ls) != 0)) ∧ g 42 = (bl (decide ((i : Int) < (S.ks.length : Int)))) ∧ g 108 = (bl (Qeq S (Xn ls))) ∧ Mem wv (Qu w0) ([(b19, .cells (Qo (sS (Jz S (Xn ls) f) vj)) 26 (0, 0))] ++ (Hj ++ (Hsq16 ++ ([(b11, .cells (Qo (sH ((Xn ls).c) ((Xn ls).p) ((Xn ls).n))) 53 (0, 0))] ++ (Hrq5 ++ ([(b8, .cells (Qo (sE (List.replicate 32 0) (List.replicate 32 0) (List.replicate 32 0) false false (List.replicate 32 0) (List.replicate 32 0) 0 0 0 Yj)) 26 (0, 0)), (b7, .cells (cl u8 f) 23 (0, 0)), (b4, .cells (Qo (sS S vk)) 26 (0, 0))]))))))) ?_ ?_
   ·skip
    refine Z8 s108 (fun hc71 => ?_) (fun hc71 => ?_)
    ·
     refine Qa (sR ?_)
     refine Qd (Zr (r := 97) X3 rfl Jr ti4 rfl s4) <| Qd (Y8 4 uT4 rfl ((Mem.pick5 [_] Hsq16 [_] Hrq5 [_, _] [_] _ m70)).h0 rfl) <| rN ?_
     refine Z8 rfl (fun hc72 => ?_) (fun hc72 => ?_)
     ·
      refine Qa ?_
      rcases Bool.eq_false_or_eq_true (Qcb S (Xn ls).p) with hb73 | hb73
      ·
       refine Qb <| Qd (Jk X3 Ja s19 m70.h0) <| Qd (Zr (r := 32) Ea rfl Jr U0 rfl s11) <| Qd (Y8 1 Fj rfl ((Mem.pick2 [_] Hsq16 [_] _ m70)).h0 rfl) <| U9 m70 (oc56 (Xm rfl rfl) (Qjr S vk _ _ (RdK.ofRest hk m70) sL sL sL (by assumption))) fun w74 m74 => Zp (Value.tuple #[(Value.agg (Qo (sS S vk))), (bl false)]) <| Qd (v := (Value.agg (Qo (sS S vk)))) (Zm rfl rfl) <| Qd (v := (bl false)) (Zm rfl rfl) <| Ye m74 (J8 Ja s19 rfl m74.h0 (Gx (RdK.one (RdK.ofRest hk m74)))) fun w76 m76 => Zz (bl false) ?_
       refine rN (sR ?_)
       refine Zp (bl false) <| Qd (v := (bl true)) (Ut (b := false) rfl) <| rN <| Za rfl Jg <| sR <| Qd (Jk X3 Ja s4 ((Mem.pick5 [_] Hsq16 [_] Hrq5 [_, _] [_] _ m76)).h0) <| Vk (J8 Ja s8 rfl ((Mem.pick4 [_] Hsq16 [_] Hrq5 [_] _ m76)).h0 (Gx (RdK.one (RdK.ofRest hk m76)))) ?_
       rintro _ w77 uq77
       have m77 : Mem _ _ ([_, _] ++ (Hsq16 ++ ([_] ++ (Hrq5 ++ ([_, _]))))) := Mem.upd0 (Mem.pick4 [_] Hsq16 [_] Hrq5 [_] _ m76) uq77
       refine Zz Yj <| Zz (i64 12) ?_
       refine rN (Xb ?_)
       refine Y3 (Y3 ?_)
       refine Qv [(Value.agg (Qo (sS S vk))), Yj, (i64 12)] ⟨⟨_, s8, J4 X3 Ja m77.h0⟩, rfl, rfl, trivial⟩ ?_
       have hrc := Qqf (f := f) (too_t hc71 hc72 (by rw [Qc7 hb73]; decide))
       have m78 := Mem.drop [_] _ m77
       have m79 := Mem.drop [_] _ m78
       have m80 := Mem.drop Hsq16 _ m79
       have m81 := Mem.drop [_] _ m80
       have m82 := Mem.drop Hrq5 _ m81
       have m83 := Mem.drop [_] _ m82
       have m84 := Mem.drop [_] _ m83
       obtain ⟨ho1, ho2, ho3, ho4⟩ := Qks (b := lb) (Qc0 hok hin hrc.1) Jg
       rw [ho1, ho2, ho3, ho4]
       exact ⟨Value.slice none 0 0, [], Value.slice none 0 0, [], by rw [if_neg Jg]; rfl, Yz.none Jt 65 69, Xe.none u8 5, by simpa using m84⟩
      ·
       refine Qb <| Qd (Jk X3 Ja s19 m70.h0) <| Qd (Zr (r := 32) Ea rfl Jr U0 rfl s11) <| Qd (Y8 1 Fj rfl ((Mem.pick2 [_] Hsq16 [_] _ m70)).h0 rfl) <| Vy (oc56 (Xm rfl rfl) (Qn2 S vk _ _ (RdK.ofRest hk m70) sL sL sL (by assumption))) ?_
       rintro _ w85 ⟨vqq86, Hqq86, rfl, gqq86, k_w85⟩
       have m85 : Mem _ _ (Hqq86 ++ ([_] ++ (Hsq16 ++ ([_] ++ (Hrq5 ++ ([_, _, _])))))) := Mem.new (H := [_] ++ (Hsq16 ++ ([_] ++ (Hrq5 ++ ([_, _, _]))))) (H' := Hqq86) m70 k_w85
       refine Ya rfl <| Qd (v := (Value.agg (Qo (sS (Ze S ((Xn ls).p)) vqq86)))) (Zm rfl rfl) <| Qd (v := (bl true)) (Zm rfl rfl) <| Vk (J8 Ja s19 rfl ((Mem.pick Hqq86 [_] _ m85)).h0 (Gx gqq86.one)) ?_
       rintro _ w87 uq87
       have m87 : Mem _ _ ([_] ++ (Hqq86 ++ (Hsq16 ++ ([_] ++ (Hrq5 ++ ([_, _, _])))))) := Mem.upd0 (Mem.pick Hqq86 [_] _ m85) uq87
       refine Zz (bl true) ?_
       refine rN (sR ?_)
       refine Zp (bl true) <| Qd (v := (bl false)) (Ut (b := true) rfl) <| rN <| Yy rfl Jg ?_
       refine Qs (Qc (Qa ?_))
       have hb0 := Dj (Ze S (Xn ls).p).r (Yt (Ze S (Xn ls).p).w (Xn ls).c)
       have hb1 := Ed (Ze S (Xn ls).p).r (Yt (Ze S (Xn ls).p).w (Xn ls).c)
       have hb2 := Dj (Yg (Ze S (Xn ls).p).r (Yt (Ze S (Xn ls).p).w (Xn ls).c)) (Yt f (Xn ls).c)
       have hb3 := Ed (Yg (Ze S (Xn ls).p).r (Yt (Ze S (Xn ls).p).w (Xn ls).c)) (Yt f (Xn ls).c)
       have hb4 := Tf (Ze S (Xn ls).p).w (Xn ls).c
       have hb5 := Tf f (Xn ls).c
       refine Qb <| Qd (Zr (r := 0) Ea rfl Jr Zl rfl s11) <| Qd (Jv 0 Xq Zl rfl ((Mem.pick3 [_] Hqq86 Hsq16 [_] _ m87)).h0 rfl) <| Qd (Zr (r := 64) X3 rfl Jr Zl rfl s19) <| Ye m87 (Uj 2 (sE ((Ze S ((Xn ls).p)).r) ((Ze S ((Xn ls).p)).w) ((Xn ls).c) ((Ze S ((Xn ls).p)).sb) ((Ze S ((Xn ls).p)).tb) ((Ze S ((Xn ls).p)).s) ((Ze S ((Xn ls).p)).t) ((Ze S ((Xn ls).p)).n1) ((Ze S ((Xn ls).p)).n2) ((Ze S ((Xn ls).p)).n3) vqq86) Qy Zl rfl rfl m87.h0 rfl) fun w88 m88 => ?_
       refine rN (Qa ?_)
       refine Kr Xw <| Qbo [(0, false), (1, false), (2, false), (3, false), (4, false), (5, false), (6, false), (7, false), (8, false), (9, false), (10, false), (11, false), (12, true)] 13 [10] rfl Xw <| G8 rfl rfl rfl (fun _ _hx => Zr (r := 0) X3 rfl Jr Zl rfl s19) <| G8 rfl rfl rfl (fun _ _hx => Jv 0 Xq Zl rfl (m88.ext _hx).h0 rfl) <| G8 rfl rfl rfl (fun _ _hx => Zr (r := 32) X3 rfl Jr Zl rfl s19) <| G8 rfl rfl rfl (fun _ _hx => Jv 1 Xq Zl rfl (m88.ext _hx).h0 rfl) <| G8 rfl rfl rfl (fun _ _hx => Zr (r := 64) X3 rfl Jr Zl rfl s19) <| G8 rfl rfl rfl (fun _ _hx => Jv 2 Xq Zl rfl (m88.ext _hx).h0 rfl) <| Qgw (v := (agg u8 (Yt ((Ze S ((Xn ls).p)).w) ((Xn ls).c)))) rfl rfl rfl (fun w89 e89 => oc36 (Xm rfl rfl) (Qh9 _ _ _ sL sL)) <| Qgw (v := (Value.tuple #[(agg u8 (Yg ((Ze S ((Xn ls).p)).r) (Yt ((Ze S ((Xn ls).p)).w) ((Xn ls).c)))), (agg u8 (Jj ((Ze S ((Xn ls).p)).r) (Yt ((Ze S ((Xn ls).p)).w) ((Xn ls).c))))])) rfl rfl rfl (fun w92 e92 => oc42 (Xm rfl rfl) (Qdx _ _ _ sL sL)) <| G8 rfl rfl rfl (fun _ _hx => Yp rfl) <| G8 rfl rfl rfl (fun _ _hx => Zm rfl rfl) ?_
       refine db_f rfl rfl (fun _ => Zm rfl rfl) <| G8 rfl rfl rfl (fun _ _hx => Zr (r := 0) X3 rfl Jr Zl rfl s19) ?_
       refine db_n Xw rfl (fun w95 e95 => ?_)
       have m95 := m88.ext e95
       refine Vp.mono (Uj 0 (sE (Yg ((Ze S ((Xn ls).p)).r) (Yt ((Ze S ((Xn ls).p)).w) ((Xn ls).c))) ((Ze S ((Xn ls).p)).w) ((Xn ls).c) ((Ze S ((Xn ls).p)).sb) ((Ze S ((Xn ls).p)).tb) ((Ze S ((Xn ls).p)).s) ((Ze S ((Xn ls).p)).t) ((Ze S ((Xn ls).p)).n1) ((Ze S ((Xn ls).p)).n2) ((Ze S ((Xn ls).p)).n3) vqq86) Qy Zl rfl rfl m95.h0 rfl) ?_
       rintro _ w96 uq96
       have m96 := m95.upd0 uq96
       refine Qgx (fun w97 e97 => ?_)
       have m97 := m96.ext e97
       refine Qd (Zr (r := 130) X3 rfl Jr Zl rfl s19) <| Ye m97 (Uj 6 (sE (Yg ((Ze S ((Xn ls).p)).r) (Yt ((Ze S ((Xn ls).p)).w) ((Xn ls).c))) ((Ze S ((Xn ls).p)).w) ((Xn ls).c) ((Ze S ((Xn ls).p)).sb) ((Ze S ((Xn ls).p)).tb) ((Ze S ((Xn ls).p)).s) (Jj ((Ze S ((Xn ls).p)).r) (Yt ((Ze S ((Xn ls).p)).w) ((Xn ls).c))) ((Ze S ((Xn ls).p)).n1) ((Ze S ((Xn ls).p)).n2) ((Ze S ((Xn ls).p)).n3) vqq86) Qy Zl rfl rfl m97.h0 rfl) fun w98 m98 => ?_
       refine rN (sR ?_)
       refine Qd (Qp Xq rfl Zl s7 ((Mem.pick6 [_] Hqq86 Hsq16 [_] Hrq5 [_] [_] _ m98)).h0 Nj) <| Qd (Zr (r := 32) X3 rfl Jr Zl rfl s19) <| Ye m98 (Uj 1 (sE (Yg ((Ze S ((Xn ls).p)).r) (Yt ((Ze S ((Xn ls).p)).w) ((Xn ls).c))) f ((Xn ls).c) ((Ze S ((Xn ls).p)).sb) ((Ze S ((Xn ls).p)).tb) ((Ze S ((Xn ls).p)).s) (Jj ((Ze S ((Xn ls).p)).r) (Yt ((Ze S ((Xn ls).p)).w) ((Xn ls).c))) ((Ze S ((Xn ls).p)).n1) ((Ze S ((Xn ls).p)).n2) ((Ze S ((Xn ls).p)).n3) vqq86) Qy Zl rfl rfl m98.h0 rfl) fun w99 m99 => ?_
       refine rN (Qa ?_)
       refine Kr Xw <| Qbo [(0, false), (1, false), (2, false), (3, false), (4, false), (5, false), (6, false), (7, false), (8, false), (9, false), (10, false), (11, false), (12, true)] 13 [10] rfl Xw <| G8 rfl rfl rfl (fun _ _hx => Zr (r := 0) X3 rfl Jr Zl rfl s19) <| G8 rfl rfl rfl (fun _ _hx => Jv 0 Xq Zl rfl (m99.ext _hx).h0 rfl) <| G8 rfl rfl rfl (fun _ _hx => Zr (r := 32) X3 rfl Jr Zl rfl s19) <| G8 rfl rfl rfl (fun _ _hx => Jv 1 Xq Zl rfl (m99.ext _hx).h0 rfl) <| G8 rfl rfl rfl (fun _ _hx => Zr (r := 64) X3 rfl Jr Zl rfl s19) <| G8 rfl rfl rfl (fun _ _hx => Jv 2 Xq Zl rfl (m99.ext _hx).h0 rfl) <| Qgw (v := (agg u8 (Yt f ((Xn ls).c)))) rfl rfl rfl (fun w100 e100 => oc36 (Xm rfl rfl) (Qh9 _ _ _ sL sL)) <| Qgw (v := (Value.tuple #[(agg u8 (Yg (Yg ((Ze S ((Xn ls).p)).r) (Yt ((Ze S ((Xn ls).p)).w) ((Xn ls).c))) (Yt f ((Xn ls).c)))), (agg u8 (Jj (Yg ((Ze S ((Xn ls).p)).r) (Yt ((Ze S ((Xn ls).p)).w) ((Xn ls).c))) (Yt f ((Xn ls).c))))])) rfl rfl rfl (fun w103 e103 => oc42 (Xm rfl rfl) (Qdx _ _ _ sL sL)) <| G8 rfl rfl rfl (fun _ _hx => Yp rfl) <| G8 rfl rfl rfl (fun _ _hx => Zm rfl rfl) ?_
       refine db_f rfl rfl (fun _ => Zm rfl rfl) <| G8 rfl rfl rfl (fun _ _hx => Zr (r := 0) X3 rfl Jr Zl rfl s19) ?_
       refine db_n Xw rfl (fun w106 e106 => ?_)
       have m106 := m99.ext e106
       refine Vp.mono (Uj 0 (sE (Yg (Yg ((Ze S ((Xn ls).p)).r) (Yt ((Ze S ((Xn ls).p)).w) ((Xn ls).c))) (Yt f ((Xn ls).c))) f ((Xn ls).c) ((Ze S ((Xn ls).p)).sb) ((Ze S ((Xn ls).p)).tb) ((Ze S ((Xn ls).p)).s) (Jj ((Ze S ((Xn ls).p)).r) (Yt ((Ze S ((Xn ls).p)).w) ((Xn ls).c))) ((Ze S ((Xn ls).p)).n1) ((Ze S ((Xn ls).p)).n2) ((Ze S ((Xn ls).p)).n3) vqq86) Qy Zl rfl rfl m106.h0 rfl) ?_
       rintro _ w107 uq107
       have m107 := m106.upd0 uq107
       refine Qgx (fun w108 e108 => ?_)
       have m108 := m107.ext e108
       refine Qd (Zr (r := 98) X3 rfl Jr Zl rfl s19) <| Ye m108 (Uj 5 (sE (Yg (Yg ((Ze S ((Xn ls).p)).r) (Yt ((Ze S ((Xn ls).p)).w) ((Xn ls).c))) (Yt f ((Xn ls).c))) f ((Xn ls).c) ((Ze S ((Xn ls).p)).sb) ((Ze S ((Xn ls).p)).tb) (Jj (Yg ((Ze S ((Xn ls).p)).r) (Yt ((Ze S ((Xn ls).p)).w) ((Xn ls).c))) (Yt f ((Xn ls).c))) (Jj ((Ze S ((Xn ls).p)).r) (Yt ((Ze S ((Xn ls).p)).w) ((Xn ls).c))) ((Ze S ((Xn ls).p)).n1) ((Ze S ((Xn ls).p)).n2) ((Ze S ((Xn ls).p)).n3) vqq86) Qy Zl rfl rfl m108.h0 rfl) fun w109 m109 => ?_
       refine rN (sR ?_)
       refine Qd (Zr (r := 96) X3 rfl Jr ti4 rfl s19) <| Ye m109 (Ui 3 (sE (Yg (Yg ((Ze S ((Xn ls).p)).r) (Yt ((Ze S ((Xn ls).p)).w) ((Xn ls).c))) (Yt f ((Xn ls).c))) f ((Xn ls).c) true ((Ze S ((Xn ls).p)).tb) (Jj (Yg ((Ze S ((Xn ls).p)).r) (Yt ((Ze S ((Xn ls).p)).w) ((Xn ls).c))) (Yt f ((Xn ls).c))) (Jj ((Ze S ((Xn ls).p)).r) (Yt ((Ze S ((Xn ls).p)).w) ((Xn ls).c))) ((Ze S ((Xn ls).p)).n1) ((Ze S ((Xn ls).p)).n2) ((Ze S ((Xn ls).p)).n3) vqq86) ti4 rfl rfl rfl m109.h0 rfl rfl) fun w110 m110 => ?_
       refine rN (sR ?_)
       refine Qd (Zr (r := 97) X3 rfl Jr ti4 rfl s19) <| Ye m110 (Ui 4 (sE (Yg (Yg ((Ze S ((Xn ls).p)).r) (Yt ((Ze S ((Xn ls).p)).w) ((Xn ls).c))) (Yt f ((Xn ls).c))) f ((Xn ls).c) true true (Jj (Yg ((Ze S ((Xn ls).p)).r) (Yt ((Ze S ((Xn ls).p)).w) ((Xn ls).c))) (Yt f ((Xn ls).c))) (Jj ((Ze S ((Xn ls).p)).r) (Yt ((Ze S ((Xn ls).p)).w) ((Xn ls).c))) ((Ze S ((Xn ls).p)).n1) ((Ze S ((Xn ls).p)).n2) ((Ze S ((Xn ls).p)).n3) vqq86) ti4 rfl rfl rfl m110.h0 rfl rfl) fun w111 m111 => ?_
       refine rN (sR ?_)
       refine Qd (Zr (r := 162) X3 rfl Jr U0 rfl s19) <| Qd (Y8 7 Fj rfl m111.h0 rfl) <| Qd (Zr (r := 164) X3 rfl Jr U0 rfl s19) <| Ye m111 (Ui 9 (sE (Yg (Yg ((Ze S ((Xn ls).p)).r) (Yt ((Ze S ((Xn ls).p)).w) ((Xn ls).c))) (Yt f ((Xn ls).c))) f ((Xn ls).c) true true (Jj (Yg ((Ze S ((Xn ls).p)).r) (Yt ((Ze S ((Xn ls).p)).w) ((Xn ls).c))) (Yt f ((Xn ls).c))) (Jj ((Ze S ((Xn ls).p)).r) (Yt ((Ze S ((Xn ls).p)).w) ((Xn ls).c))) ((Ze S ((Xn ls).p)).n1) ((Ze S ((Xn ls).p)).n2) ((Ze S ((Xn ls).p)).n1) vqq86) U0 rfl rfl (Z4 _) m111.h0 rfl rfl) fun w112 m112 => ?_
       refine rN (sR ?_)
       refine Qd (Zr (r := 162) X3 rfl Jr U0 rfl s19) <| Ye m112 (Ui 7 (sE (Yg (Yg ((Ze S ((Xn ls).p)).r) (Yt ((Ze S ((Xn ls).p)).w) ((Xn ls).c))) (Yt f ((Xn ls).c))) f ((Xn ls).c) true true (Jj (Yg ((Ze S ((Xn ls).p)).r) (Yt ((Ze S ((Xn ls).p)).w) ((Xn ls).c))) (Yt f ((Xn ls).c))) (Jj ((Ze S ((Xn ls).p)).r) (Yt ((Ze S ((Xn ls).p)).w) ((Xn ls).c))) 0 ((Ze S ((Xn ls).p)).n2) ((Ze S ((Xn ls).p)).n1) vqq86) U0 rfl rfl (Z4 _) m112.h0 rfl rfl) fun w113 m113 => ?_
       refine rN (Qb ?_)
       refine Qd (Zr (r := 163) X3 rfl Jr U0 rfl s19) <| Ye m113 (Ui 8 (sE (Yg (Yg ((Ze S ((Xn ls).p)).r) (Yt ((Ze S ((Xn ls).p)).w) ((Xn ls).c))) (Yt f ((Xn ls).c))) f ((Xn ls).c) true true (Jj (Yg ((Ze S ((Xn ls).p)).r) (Yt ((Ze S ((Xn ls).p)).w) ((Xn ls).c))) (Yt f ((Xn ls).c))) (Jj ((Ze S ((Xn ls).p)).r) (Yt ((Ze S ((Xn ls).p)).w) ((Xn ls).c))) 0 0 ((Ze S ((Xn ls).p)).n1) vqq86) U0 rfl rfl (Z4 _) m113.h0 rfl rfl) fun w114 m114 => rN ?_
       have hj0 := rch0_c (f := f) hc71 hc72
       exact ⟨vqq86, Hqq86, (by rw [hj0]; exact HK.own gqq86 rfl), (too_c (Qfk hb73)), s0, s1, s2, s3, s4, s7, s8, s11, s12, s13, s14, s15, s19, rfl, s31, s42, s108, (by rw [hj0, Qiv hhc hfl, Qdo (Ze S (Xn ls).p).hw hhc, Qdo hfl hhc]; exact (by
        have hT := m114
        try simp only [List.append_assoc, List.cons_append, List.nil_append, List.append_nil] at hT ⊢
        exact hT))⟩
     ·
      refine Qs (Qc (Qa ?_))
      have hb0 := Dj S.r (Yt S.w (Xn ls).c)
      have hb1 := Ed S.r (Yt S.w (Xn ls).c)
      have hb2 := Dj (Yg S.r (Yt S.w (Xn ls).c)) (Yt f (Xn ls).c)
      have hb3 := Ed (Yg S.r (Yt S.w (Xn ls).c)) (Yt f (Xn ls).c)
      have hb4 := Tf S.w (Xn ls).c
      have hb5 := Tf f (Xn ls).c
      refine Qb <| Qd (Zr (r := 0) Ea rfl Jr Zl rfl s11) <| Qd (Jv 0 Xq Zl rfl ((Mem.pick2 [_] Hsq16 [_] _ m70)).h0 rfl) <| Qd (Zr (r := 64) X3 rfl Jr Zl rfl s19) <| Ye m70 (Uj 2 (sE S.r S.w ((Xn ls).c) S.sb S.tb S.s S.t S.n1 S.n2 S.n3 vk) Qy Zl rfl rfl m70.h0 rfl) fun w115 m115 => ?_
      refine rN (Qa ?_)
      refine Kr Xw <| Qbo [(0, false), (1, false), (2, false), (3, false), (4, false), (5, false), (6, false), (7, false), (8, false), (9, false), (10, false), (11, false), (12, true)] 13 [10] rfl Xw <| G8 rfl rfl rfl (fun _ _hx => Zr (r := 0) X3 rfl Jr Zl rfl s19) <| G8 rfl rfl rfl (fun _ _hx => Jv 0 Xq Zl rfl (m115.ext _hx).h0 rfl) <| G8 rfl rfl rfl (fun _ _hx => Zr (r := 32) X3 rfl Jr Zl rfl s19) <| G8 rfl rfl rfl (fun _ _hx => Jv 1 Xq Zl rfl (m115.ext _hx).h0 rfl) <| G8 rfl rfl rfl (fun _ _hx => Zr (r := 64) X3 rfl Jr Zl rfl s19) <| G8 rfl rfl rfl (fun _ _hx => Jv 2 Xq Zl rfl (m115.ext _hx).h0 rfl) <| Qgw (v := (agg u8 (Yt S.w ((Xn ls).c)))) rfl rfl rfl (fun w116 e116 => oc36 (Xm rfl rfl) (Qh9 _ _ _ sL sL)) <| Qgw (v := (Value.tuple #[(agg u8 (Yg S.r (Yt S.w ((Xn ls).c)))), (agg u8 (Jj S.r (Yt S.w ((Xn ls).c))))])) rfl rfl rfl (fun w119 e119 => oc42 (Xm rfl rfl) (Qdx _ _ _ sL sL)) <| G8 rfl rfl rfl (fun _ _hx => Yp rfl) <| G8 rfl rfl rfl (fun _ _hx => Zm rfl rfl) ?_
      refine db_f rfl rfl (fun _ => Zm rfl rfl) <| G8 rfl rfl rfl (fun _ _hx => Zr (r := 0) X3 rfl Jr Zl rfl s19) ?_
      refine db_n Xw rfl (fun w122 e122 => ?_)
      have m122 := m115.ext e122
      refine Vp.mono (Uj 0 (sE (Yg S.r (Yt S.w ((Xn ls).c))) S.w ((Xn ls).c) S.sb S.tb S.s S.t S.n1 S.n2 S.n3 vk) Qy Zl rfl rfl m122.h0 rfl) ?_
      rintro _ w123 uq123
      have m123 := m122.upd0 uq123
      refine Qgx (fun w124 e124 => ?_)
      have m124 := m123.ext e124
      refine Qd (Zr (r := 130) X3 rfl Jr Zl rfl s19) <| Ye m124 (Uj 6 (sE (Yg S.r (Yt S.w ((Xn ls).c))) S.w ((Xn ls).c) S.sb S.tb S.s (Jj S.r (Yt S.w ((Xn ls).c))) S.n1 S.n2 S.n3 vk) Qy Zl rfl rfl m124.h0 rfl) fun w125 m125 => ?_
      refine rN (sR ?_)
      refine Qd (Qp Xq rfl Zl s7 ((Mem.pick5 [_] Hsq16 [_] Hrq5 [_] [_] _ m125)).h0 Nj) <| Qd (Zr (r := 32) X3 rfl Jr Zl rfl s19) <| Ye m125 (Uj 1 (sE (Yg S.r (Yt S.w ((Xn ls).c))) f ((Xn ls).c) S.sb S.tb S.s (Jj S.r (Yt S.w ((Xn ls).c))) S.n1 S.n2 S.n3 vk) Qy Zl rfl rfl m125.h0 rfl) fun w126 m126 => ?_
      refine rN (Qa ?_)
      refine Kr Xw <| Qbo [(0, false), (1, false), (2, false), (3, false), (4, false), (5, false), (6, false), (7, false), (8, false), (9, false), (10, false), (11, false), (12, true)] 13 [10] rfl Xw <| G8 rfl rfl rfl (fun _ _hx => Zr (r := 0) X3 rfl Jr Zl rfl s19) <| G8 rfl rfl rfl (fun _ _hx => Jv 0 Xq Zl rfl (m126.ext _hx).h0 rfl) <| G8 rfl rfl rfl (fun _ _hx => Zr (r := 32) X3 rfl Jr Zl rfl s19) <| G8 rfl rfl rfl (fun _ _hx => Jv 1 Xq Zl rfl (m126.ext _hx).h0 rfl) <| G8 rfl rfl rfl (fun _ _hx => Zr (r := 64) X3 rfl Jr Zl rfl s19) <| G8 rfl rfl rfl (fun _ _hx => Jv 2 Xq Zl rfl (m126.ext _hx).h0 rfl) <| Qgw (v := (agg u8 (Yt f ((Xn ls).c)))) rfl rfl rfl (fun w127 e127 => oc36 (Xm rfl rfl) (Qh9 _ _ _ sL sL)) <| Qgw (v := (Value.tuple #[(agg u8 (Yg (Yg S.r (Yt S.w ((Xn ls).c))) (Yt f ((Xn ls).c)))), (agg u8 (Jj (Yg S.r (Yt S.w ((Xn ls).c))) (Yt f ((Xn ls).c))))])) rfl rfl rfl (fun w130 e130 => oc42 (Xm rfl rfl) (Qdx _ _ _ sL sL)) <| G8 rfl rfl rfl (fun _ _hx => Yp rfl) <| G8 rfl rfl rfl (fun _ _hx => Zm rfl rfl) ?_
      refine db_f rfl rfl (fun _ => Zm rfl rfl) <| G8 rfl rfl rfl (fun _ _hx => Zr (r := 0) X3 rfl Jr Zl rfl s19) ?_
      refine db_n Xw rfl (fun w133 e133 => ?_)
      have m133 := m126.ext e133
      refine Vp.mono (Uj 0 (sE (Yg (Yg S.r (Yt S.w ((Xn ls).c))) (Yt f ((Xn ls).c))) f ((Xn ls).c) S.sb S.tb S.s (Jj S.r (Yt S.w ((Xn ls).c))) S.n1 S.n2 S.n3 vk) Qy Zl rfl rfl m133.h0 rfl) ?_
      rintro _ w134 uq134
      have m134 := m133.upd0 uq134
      refine Qgx (fun w135 e135 => ?_)
      have m135 := m134.ext e135
      refine Qd (Zr (r := 98) X3 rfl Jr Zl rfl s19) <| Ye m135 (Uj 5 (sE (Yg (Yg S.r (Yt S.w ((Xn ls).c))) (Yt f ((Xn ls).c))) f ((Xn ls).c) S.sb S.tb (Jj (Yg S.r (Yt S.w ((Xn ls).c))) (Yt f ((Xn ls).c))) (Jj S.r (Yt S.w ((Xn ls).c))) S.n1 S.n2 S.n3 vk) Qy Zl rfl rfl m135.h0 rfl) fun w136 m136 => ?_
      refine rN (sR ?_)
      refine Qd (Zr (r := 96) X3 rfl Jr ti4 rfl s19) <| Ye m136 (Ui 3 (sE (Yg (Yg S.r (Yt S.w ((Xn ls).c))) (Yt f ((Xn ls).c))) f ((Xn ls).c) true S.tb (Jj (Yg S.r (Yt S.w ((Xn ls).c))) (Yt f ((Xn ls).c))) (Jj S.r (Yt S.w ((Xn ls).c))) S.n1 S.n2 S.n3 vk) ti4 rfl rfl rfl m136.h0 rfl rfl) fun w137 m137 => ?_
      refine rN (sR ?_)
      refine Qd (Zr (r := 97) X3 rfl Jr ti4 rfl s19) <| Ye m137 (Ui 4 (sE (Yg (Yg S.r (Yt S.w ((Xn ls).c))) (Yt f ((Xn ls).c))) f ((Xn ls).c) true true (Jj (Yg S.r (Yt S.w ((Xn ls).c))) (Yt f ((Xn ls).c))) (Jj S.r (Yt S.w ((Xn ls).c))) S.n1 S.n2 S.n3 vk) ti4 rfl rfl rfl m137.h0 rfl rfl) fun w138 m138 => ?_
      refine rN (sR ?_)
      refine Qd (Zr (r := 162) X3 rfl Jr U0 rfl s19) <| Qd (Y8 7 Fj rfl m138.h0 rfl) <| Qd (Zr (r := 164) X3 rfl Jr U0 rfl s19) <| Ye m138 (Ui 9 (sE (Yg (Yg S.r (Yt S.w ((Xn ls).c))) (Yt f ((Xn ls).c))) f ((Xn ls).c) true true (Jj (Yg S.r (Yt S.w ((Xn ls).c))) (Yt f ((Xn ls).c))) (Jj S.r (Yt S.w ((Xn ls).c))) S.n1 S.n2 S.n1 vk) U0 rfl rfl (Z4 _) m138.h0 rfl rfl) fun w139 m139 => ?_
      refine rN (sR ?_)
      refine Qd (Zr (r := 162) X3 rfl Jr U0 rfl s19) <| Ye m139 (Ui 7 (sE (Yg (Yg S.r (Yt S.w ((Xn ls).c))) (Yt f ((Xn ls).c))) f ((Xn ls).c) true true (Jj (Yg S.r (Yt S.w ((Xn ls).c))) (Yt f ((Xn ls).c))) (Jj S.r (Yt S.w ((Xn ls).c))) 0 S.n2 S.n1 vk) U0 rfl rfl (Z4 _) m139.h0 rfl rfl) fun w140 m140 => ?_
      refine rN (Qb ?_)
      refine Qd (Zr (r := 163) X3 rfl Jr U0 rfl s19) <| Ye m140 (Ui 8 (sE (Yg (Yg S.r (Yt S.w ((Xn ls).c))) (Yt f ((Xn ls).c))) f ((Xn ls).c) true true (Jj (Yg S.r (Yt S.w ((Xn ls).c))) (Yt f ((Xn ls).c))) (Jj S.r (Yt S.w ((Xn ls).c))) 0 0 S.n1 vk) U0 rfl rfl (Z4 _) m140.h0 rfl rfl) fun w141 m141 => rN ?_
      have hj0 := rch0_b (f := f) hc71 hc72
      exact ⟨vk, [], (by rw [hj0]; exact HK.old hk rfl), (too_b hc72), s0, s1, s2, s3, s4, s7, s8, s11, s12, s13, s14, s15, s19, s20, s31, s42, s108, (by rw [hj0, Qiv hhc hfl, Qdo S.hw hhc, Qdo hfl hhc]; exact (by
       have hT := m141
       try simp only [List.append_assoc, List.cons_append, List.nil_append, List.append_nil] at hT ⊢
       exact hT))⟩
    ·
     refine Qs (Qc ?_)
     have hj0 := rch0_a (f := f) hc71
     exact ⟨vk, [], (by rw [hj0]; exact HK.old hk rfl), (too_a hc71), s0, s1, s2, s3, s4, s7, s8, s11, s12, s13, s14, s15, s19, s20, s31, s42, s108, (by rw [hj0]; exact (by
      have hT := m70
      try simp only [List.append_assoc, List.cons_append, List.nil_append, List.append_nil] at hT ⊢
      exact hT))⟩
   rintro fr142 w143 ⟨vj, Hj, hkj, htoo, s0, s1, s2, s3, s4, s7, s8, s11, s12, s13, s14, s15, s19, s20, s31, s42, s108, m143⟩
   refine Qa (sR ?_)
   refine Qd (Zr (r := 33) Ea rfl Jr U0 rfl s11) <| Qd (Y8 2 Fj rfl ((Mem.pick3 [_] Hj Hsq16 [_] _ m143)).h0 rfl) <| Qd (Zr (r := 163) X3 rfl Jr U0 rfl s19) <| Qd (Y8 8 Fj rfl m143.h0 rfl) <| Qd (Z9 rfl rfl) <| rN ?_
   refine Z8 rfl (fun hc144 => ?_) (fun hc144 => ?_)
   ·
    have hc144p := of_decide_eq_true hc144
    refine sR <| Qd (Jk X3 Ja s4 ((Mem.pick6 [_] Hj Hsq16 [_] Hrq5 [_, _] [_] _ m143)).h0) <| Vk (J8 Ja s8 rfl ((Mem.pick5 [_] Hj Hsq16 [_] Hrq5 [_] _ m143)).h0 (Gx (RdK.one (RdK.ofRest hk m143)))) ?_
    rintro _ w145 uq145
    have m145 : Mem _ _ ([_, _] ++ (Hj ++ (Hsq16 ++ ([_] ++ (Hrq5 ++ ([_, _])))))) := Mem.upd0 (Mem.pick5 [_] Hj Hsq16 [_] Hrq5 [_] _ m143) uq145
    refine Zz Yj <| Zz (i64 11) ?_
    refine rN (Xb (Y3 ?_))
    refine Qv [(Value.agg (Qo (sS S vk))), Yj, (i64 11)] ⟨⟨_, s8, J4 X3 Ja m145.h0⟩, rfl, rfl, trivial⟩ ?_
    have hrc := Qqg htoo hc144p
    have m146 := Mem.drop [_] _ m145
    have m147 := Mem.drop [_] _ m146
    have m148 := Mem.drop Hj _ m147
    have m149 := Mem.drop Hsq16 _ m148
    have m150 := Mem.drop [_] _ m149
    have m151 := Mem.drop Hrq5 _ m150
    have m152 := Mem.drop [_] _ m151
    have m153 := Mem.drop [_] _ m152
    obtain ⟨ho1, ho2, ho3, ho4⟩ := Qks (b := lb) (Qc0 hok hin hrc.1) Jg
    rw [ho1, ho2, ho3, ho4]
    exact ⟨Value.slice none 0 0, [], Value.slice none 0 0, [], by rw [if_neg Jg]; rfl, Yz.none Jt 65 69, Xe.none u8 5, by simpa using m153⟩
   ·
    have hc144p := of_decide_eq_false hc144
    refine Qs (Qc (Qa ?_))
    rcases Bool.eq_false_or_eq_true (Qcb (Jz S (Xn ls) f) (Xn ls).n) with hb154 | hb154
    ·
     refine Qb <| Qd (Jk X3 Ja s19 m143.h0) <| Qd (Zr (r := 33) Ea rfl Jr U0 rfl s11) <| Qd (Y8 2 Fj rfl ((Mem.pick3 [_] Hj Hsq16 [_] _ m143)).h0 rfl) <| U9 m143 (oc56 (Xm rfl rfl) (Qjr (Jz S (Xn ls) f) vj _ _ (HK.rd hkj (Mem.pick [_] Hj _ m143)) sL sL sL (by assumption))) fun w155 m155 => Zp (Value.tuple #[(Value.agg (Qo (sS (Jz S (Xn ls) f) vj))), (bl false)]) <| Qd (v := (Value.agg (Qo (sS (Jz S (Xn ls) f) vj)))) (Zm rfl rfl) <| Qd (v := (bl false)) (Zm rfl rfl) <| Ye m155 (J8 Ja s19 rfl m155.h0 (Gx (RdK.one (HK.rd hkj (Mem.pick [_] Hj _ m155))))) fun w157 m157 => Zz (bl false) ?_
     refine rN (Qa (sR ?_))
     refine Zp (bl false) <| Qd (v := (bl true)) (Ut (b := false) rfl) <| rN <| Za rfl Jg <| sR <| Qd (Jk X3 Ja s4 ((Mem.pick6 [_] Hj Hsq16 [_] Hrq5 [_, _] [_] _ m157)).h0) <| Vk (J8 Ja s8 rfl ((Mem.pick5 [_] Hj Hsq16 [_] Hrq5 [_] _ m157)).h0 (Gx (RdK.one (RdK.ofRest hk m157)))) ?_
     rintro _ w158 uq158
     have m158 : Mem _ _ ([_, _] ++ (Hj ++ (Hsq16 ++ ([_] ++ (Hrq5 ++ ([_, _])))))) := Mem.upd0 (Mem.pick5 [_] Hj Hsq16 [_] Hrq5 [_] _ m157) uq158
     refine Zz Yj <| Zz (i64 12) ?_
     refine rN (Xb (Y3 ?_))
     refine Qv [(Value.agg (Qo (sS S vk))), Yj, (i64 12)] ⟨⟨_, s8, J4 X3 Ja m158.h0⟩, rfl, rfl, trivial⟩ ?_
     have hrc := Qqh htoo hc144p (by rw [Qc7 hb154]; decide)
     have m159 := Mem.drop [_] _ m158
     have m160 := Mem.drop [_] _ m159
     have m161 := Mem.drop Hj _ m160
     have m162 := Mem.drop Hsq16 _ m161
     have m163 := Mem.drop [_] _ m162
     have m164 := Mem.drop Hrq5 _ m163
     have m165 := Mem.drop [_] _ m164
     have m166 := Mem.drop [_] _ m165
     obtain ⟨ho1, ho2, ho3, ho4⟩ := Qks (b := lb) (Qc0 hok hin (hrc.1.trans (Qc7 hb154))) Jg
     rw [ho1, ho2, ho3, ho4]
     exact ⟨Value.slice none 0 0, [], Value.slice none 0 0, [], by rw [if_neg Jg]; rfl, Yz.none Jt 65 69, Xe.none u8 5, by simpa using m166⟩
    ·
     refine Qb <| Qd (Jk X3 Ja s19 m143.h0) <| Qd (Zr (r := 33) Ea rfl Jr U0 rfl s11) <| Qd (Y8 2 Fj rfl ((Mem.pick3 [_] Hj Hsq16 [_] _ m143)).h0 rfl) <| Vy (oc56 (Xm rfl rfl) (Qn2 (Jz S (Xn ls) f) vj _ _ (HK.rd hkj (Mem.pick [_] Hj _ m143)) sL sL sL (by assumption))) ?_
     rintro _ w167 ⟨vqq168, Hqq168, rfl, gqq168, k_w167⟩
     have m167 : Mem _ _ (Hqq168 ++ ([_] ++ (Hj ++ (Hsq16 ++ ([_] ++ (Hrq5 ++ ([_, _, _]))))))) := Mem.new (H := [_] ++ (Hj ++ (Hsq16 ++ ([_] ++ (Hrq5 ++ ([_, _, _])))))) (H' := Hqq168) m143 k_w167
     refine Ya rfl <| Qd (v := (Value.agg (Qo (sS (Ze (Jz S (Xn ls) f) ((Xn ls).n)) vqq168)))) (Zm rfl rfl) <| Qd (v := (bl true)) (Zm rfl rfl) <| Vk (J8 Ja s19 rfl ((Mem.pick Hqq168 [_] _ m167)).h0 (Gx gqq168.one)) ?_
     rintro _ w169 uq169
     have m169 : Mem _ _ ([_] ++ (Hqq168 ++ (Hj ++ (Hsq16 ++ ([_] ++ (Hrq5 ++ ([_, _, _]))))))) := Mem.upd0 (Mem.pick Hqq168 [_] _ m167) uq169
     refine Zz (bl true) <| rN ?_
     have m170 := Mem.drop Hj _ (Mem.pick2 [_] Hqq168 Hj _ m169)
     refine Qa (sR ?_)
     refine Zp (bl true) <| Qd (v := (bl false)) (Ut (b := true) rfl) <| rN <| Yy rfl Jg ?_
     refine Qs (Qc (sR ?_))
     refine Qd (Zr (r := 130) X3 rfl Jr Zl rfl s19) <| Qd (Jv 6 Xq Zl rfl m170.h0 rfl) <| U9 m170 (oc37 (Kt rfl) (Qqv _ _ sL)) fun w171 m171 => Ya rfl <| Qd (v := (agg u8 (Xk ((Ze (Jz S (Xn ls) f) ((Xn ls).n)).t) [2#8]))) (Zm rfl rfl) <| Qd (v := (agg u8 (Xk ((Ze (Jz S (Xn ls) f) ((Xn ls).n)).t) [1#8]))) (Zm rfl rfl) <| Y9 (Zc m171 Zl) fun w173 b21 m173 => Y9 (Zc m173 Zl) fun w174 b22 m174 => Vz m174 (Qj (f := u8) (l := Xk ((Ze (Jz S (Xn ls) f) ((Xn ls).n)).t) [2#8]) Qy Zl rfl rfl sL m174.h1 Nj rfl) fun w175 m175 => Ye m175 (Qj (f := u8) (l := Xk ((Ze (Jz S (Xn ls) f) ((Xn ls).n)).t) [1#8]) Qy Zl rfl rfl sL m175.h0 Nj rfl) fun w176 m176 => ?_
     refine rN (sR ?_)
     refine Qd (Qp Xq rfl Zl rfl m176.h1 Nj) <| Qd (Zr (r := 130) X3 rfl Jr Zl rfl s19) <| Bh m176 (Uj 6 (sE ((Ze (Jz S (Xn ls) f) ((Xn ls).n)).r) ((Ze (Jz S (Xn ls) f) ((Xn ls).n)).w) ((Ze (Jz S (Xn ls) f) ((Xn ls).n)).o) ((Ze (Jz S (Xn ls) f) ((Xn ls).n)).sb) ((Ze (Jz S (Xn ls) f) ((Xn ls).n)).tb) ((Ze (Jz S (Xn ls) f) ((Xn ls).n)).s) (Xk ((Ze (Jz S (Xn ls) f) ((Xn ls).n)).t) [2#8]) ((Ze (Jz S (Xn ls) f) ((Xn ls).n)).n1) ((Ze (Jz S (Xn ls) f) ((Xn ls).n)).n2) ((Ze (Jz S (Xn ls) f) ((Xn ls).n)).n3) vqq168) Qy Zl rfl rfl m176.h2 rfl) fun w177 m177 => ?_
     refine rN (sR ?_)
     refine Qd (Zr (r := 163) X3 rfl Jr U0 rfl s19) <| Qd (Y8 8 Fj rfl m177.h2 rfl) <| Qd (Zg (b := 1) rfl rfl oM oM) <| Qd (Zr (r := 163) X3 rfl Jr U0 rfl s19) <| Bh m177 (Ui 8 (sE ((Ze (Jz S (Xn ls) f) ((Xn ls).n)).r) ((Ze (Jz S (Xn ls) f) ((Xn ls).n)).w) ((Ze (Jz S (Xn ls) f) ((Xn ls).n)).o) ((Ze (Jz S (Xn ls) f) ((Xn ls).n)).sb) ((Ze (Jz S (Xn ls) f) ((Xn ls).n)).tb) ((Ze (Jz S (Xn ls) f) ((Xn ls).n)).s) (Xk ((Ze (Jz S (Xn ls) f) ((Xn ls).n)).t) [2#8]) ((Ze (Jz S (Xn ls) f) ((Xn ls).n)).n1) (((Ze (Jz S (Xn ls) f) ((Xn ls).n)).n2) + 1) ((Ze (Jz S (Xn ls) f) ((Xn ls).n)).n3) vqq168) U0 rfl rfl (Z4 _) m177.h2 rfl rfl) fun w178 m178 => ?_
     refine rN (sR ?_)
     refine Qd (Qp Xq rfl Zl rfl m178.h0 Nj) <| Qd (Vo (ps := []) (c := (cl u8 (List.replicate 12 0))) Qa9 Pj Y0 X7 rfl) <| Ya s14 <| Ya s12 <| Vy (oc55 (Hm rfl rfl rfl rfl) (Qqw _ _ rq16 (lb ++ ((ls.drop 0).take 40)) vrq5 (hdR ls) _ sL sL (grq16.rd (Mem.pick2 [_, _, _] Hqq168 Hsq16 _ m178)) sL (grq5.rd (Mem.pick4 [_, _, _] Hqq168 Hsq16 [_] Hrq5 _ m178)) sL)) ?_
     rintro _ w179 ⟨vxq180, Hsq180, rfl, gvxq180, k_w179⟩
     have m179 : Mem _ _ (Hsq180 ++ ([_, _, _] ++ (Hqq168 ++ (Hsq16 ++ ([_] ++ (Hrq5 ++ ([_, _, _]))))))) := Mem.new (H := [_, _, _] ++ (Hqq168 ++ (Hsq16 ++ ([_] ++ (Hrq5 ++ ([_, _, _])))))) (H' := Hsq180) m178 k_w179
     refine Ya rfl <| Qd (v := vxq180) (Zm rfl rfl) <| Qd (v := (i64 (Tn (Xk ((Ze (Jz S (Xn ls) f) ((Xn ls).n)).t) [1#8]) (List.replicate 12 0) (lb ++ ((ls.drop 0).take 40)) (hdR ls)))) (Zm rfl rfl) <| Zz vxq180 <| Sz rfl ?_
     refine rN (Qa (sR ?_))
     refine Ya rfl <| Qd (Jw (b := 0) rfl rfl) <| rN ?_
     refine Z8 rfl (fun hc181 => ?_) (fun hc181 => ?_)
     ·
      have hc181p := bne_iff_ne.1 hc181
      refine sR <| Qd (Jk X3 Ja s4 ((Mem.pick7 Hsq180 [_, _, _] Hqq168 Hsq16 [_] Hrq5 [_, _] [_] _ m179)).h0) <| Ya rfl <| Vk (J8 Ja s8 rfl ((Mem.pick6 Hsq180 [_, _, _] Hqq168 Hsq16 [_] Hrq5 [_] _ m179)).h0 (Gx (RdK.one (RdK.ofRest hk m179)))) ?_
      rintro _ w182 uq182
      have m182 : Mem _ _ ([_] ++ (Hsq180 ++ ([_, _, _] ++ (Hqq168 ++ (Hsq16 ++ ([_] ++ (Hrq5 ++ ([_, _])))))))) := Mem.upd0 (Mem.pick6 Hsq180 [_, _, _] Hqq168 Hsq16 [_] Hrq5 [_] _ m179) uq182
      refine Zz Yj <| Sz rfl ?_
      refine rN (Xb (Y3 ?_))
      refine Qv [(Value.agg (Qo (sS S vk))), Yj, (i64 (Tn (Xk ((Ze (Jz S (Xn ls) f) ((Xn ls).n)).t) [1#8]) (List.replicate 12 0) (lb ++ ((ls.drop 0).take 40)) (hdR ls)))] ⟨⟨_, s8, J4 X3 Ja m182.h0⟩, rfl, rfl, trivial⟩ ?_
      have hrc := Qoj htoo hc144p (Qfk hb154)
      have hd1 := Qc0 hok hin hrc.1
      have hj1 := (Qi8 (f := f) hin).trans hrc.2.2
      have hj0 := (Ql2 (f := f) hin).trans hrc.2.1
      have hon : Qc3 (Nu S ls f) lb ls = (Tn (Xk ((Ze (Jz S (Xn ls) f) ((Xn ls).n)).t) [1#8]) (List.replicate 12 0) (lb ++ ((ls.drop 0).take 40)) (hdR ls)) := by unfold Qc3; rw [hj1, ← hrr]; rfl
      have m183 := Mem.drop [_] _ m182
      have m184 := Mem.drop Hsq180 _ m183
      have m185 := Mem.drop [_] _ m184
      have m186 := Mem.drop [_] _ m185
      have m187 := Mem.drop [_] _ m186
      have m188 := Mem.drop Hqq168 _ m187
      have m189 := Mem.drop Hsq16 _ m188
      have m190 := Mem.drop [_] _ m189
      have m191 := Mem.drop Hrq5 _ m190
      have m192 := Mem.drop [_] _ m191
      have m193 := Mem.drop [_] _ m192
      obtain ⟨ho1, ho2, ho3, ho4⟩ := out_2 hd1 (by rw [hon]; exact bne_iff_ne.1 hc181)
      rw [ho1, ho2, ho3, ho4]
      exact ⟨Value.slice none 0 0, [], Value.slice none 0 0, [], by rw [if_neg (by rw [hon]; exact bne_iff_ne.1 hc181)]; rw [hon]; rfl, Yz.none Jt 65 69, Xe.none u8 5, by simpa using m193⟩
     ·
      have hc181p := X0 hc181
      refine Qs (Qc (sR ?_))
      refine Qd (Jk X3 Ja s19 ((Mem.pick2 Hsq180 [_, _] [_] _ m179)).h0) <| Zp vxq180 <| Vk (J8 Ja s8 rfl ((Mem.pick6 Hsq180 [_, _, _] Hqq168 Hsq16 [_] Hrq5 [_] _ m179)).h0 (Gx gqq168.one)) ?_
      rintro _ w194 uq194
      have m194 : Mem _ _ ([_] ++ (Hsq180 ++ ([_, _, _] ++ (Hqq168 ++ (Hsq16 ++ ([_] ++ (Hrq5 ++ ([_, _])))))))) := Mem.upd0 (Mem.pick6 Hsq180 [_, _, _] Hqq168 Hsq16 [_] Hrq5 [_] _ m179) uq194
      refine Zz vxq180 <| Zz (i64 0) ?_
      refine rN (Xb ?_)
      refine Qv [(Value.agg (Qo (sE ((Ze (Jz S (Xn ls) f) ((Xn ls).n)).r) ((Ze (Jz S (Xn ls) f) ((Xn ls).n)).w) ((Ze (Jz S (Xn ls) f) ((Xn ls).n)).o) ((Ze (Jz S (Xn ls) f) ((Xn ls).n)).sb) ((Ze (Jz S (Xn ls) f) ((Xn ls).n)).tb) ((Ze (Jz S (Xn ls) f) ((Xn ls).n)).s) (Xk ((Ze (Jz S (Xn ls) f) ((Xn ls).n)).t) [2#8]) ((Ze (Jz S (Xn ls) f) ((Xn ls).n)).n1) (((Ze (Jz S (Xn ls) f) ((Xn ls).n)).n2) + 1) ((Ze (Jz S (Xn ls) f) ((Xn ls).n)).n3) vqq168))), vxq180, (i64 0)] ⟨⟨_, s8, J4 X3 Ja m194.h0⟩, rfl, rfl, trivial⟩ ?_
      have hrc := Qoj htoo hc144p (Qfk hb154)
      have hd1 := Qc0 hok hin hrc.1
      have hj1 := (Qi8 (f := f) hin).trans hrc.2.2
      have hj0 := (Ql2 (f := f) hin).trans hrc.2.1
      have hon : Qc3 (Nu S ls f) lb ls = (Tn (Xk ((Ze (Jz S (Xn ls) f) ((Xn ls).n)).t) [1#8]) (List.replicate 12 0) (lb ++ ((ls.drop 0).take 40)) (hdR ls)) := by unfold Qc3; rw [hj1, ← hrr]; rfl
      have m195 := Mem.drop [_] _ m194
      have m196 := Mem.drop [_] _ (Mem.pick Hsq180 [_] _ m195)
      have m197 := Mem.drop [_] _ (Mem.pick Hsq180 [_] _ m196)
      have m198 := Mem.drop [_] _ (Mem.pick Hsq180 [_] _ m197)
      have m199 := Mem.drop Hsq16 _ (Mem.pick2 Hsq180 Hqq168 Hsq16 _ m198)
      have m200 := Mem.drop [_] _ (Mem.pick2 Hsq180 Hqq168 [_] _ m199)
      have m201 := Mem.drop Hrq5 _ (Mem.pick2 Hsq180 Hqq168 Hrq5 _ m200)
      have m202 := Mem.drop [_] _ (Mem.pick2 Hsq180 Hqq168 [_] _ m201)
      have m203 := Mem.drop [_] _ (Mem.pick2 Hsq180 Hqq168 [_] _ m202)
      have m204 := (Mem.pick Hsq180 Hqq168 _ m203)
      obtain ⟨ho1, ho2, ho3, ho4⟩ := out_3 hd1 (by rw [hon]; exact X0 hc181)
      rw [ho1, ho2, ho3, ho4]
      rw [hj0]
      exact ⟨vqq168, Hqq168, vxq180, Hsq180, by rw [if_pos rfl]; rfl, Yz.cast gqq168 (by first | rfl | exact (cut_sl _ _).trans (Qpk _ _).symm), Xe.cast gvxq180 (by unfold opnP; rw [hj1, ← hrr]; rfl), (by
       have hT := m204
       try simp only [List.append_assoc, List.cons_append, List.nil_append, List.append_nil] at hT ⊢
       exact hT)⟩
end Go.Proofs.YtkmiemlpfkfiiaaDoor
