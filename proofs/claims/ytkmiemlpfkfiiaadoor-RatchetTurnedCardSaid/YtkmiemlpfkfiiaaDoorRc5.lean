/- The ratchet: the law of a mail that is turned. Conditions: none beyond those that each theorem states. -/
import Derived.Test.YtkmiemlpfkfiiaaDoorRc4
namespace Go.Proofs.YtkmiemlpfkfiiaaDoor
open List renaming length_map → bH, replicate → aA
open Mem renaming drop → aF, new → bY, pick → aC, pick3 → ai, pick4 → dO
open RdK renaming cast → dA, one → eU
open Value renaming agg → aO
open Tryd
set_option linter.unusedVariables false
set_option linter.unusedSimpArgs false
abbrev fqT (ro ow ot : Z4) : Sn := Ea ro ow (Zu ot Yy)
abbrev cqT (ro ow ot lp : Z4) : Z4 := Qb1 (fqT ro ow ot) [120#8] lp
abbrev bqT (ro ow ot lp : Z4) (j : Nat) (tn : BitVec 8) : Z4 := (cqT ro ow ot lp).set j ((cqT ro ow ot lp).getD j 0 ^^^ tn)
attribute [local irreducible] Si We Eg X8 Y7 Ba Wh Wv Kw Xc Gv Gn Zu Yn Yy F7 Ns Xf hdR hdE V5 Su Td Nq Qbq Qbd Jo
attribute [local irreducible] Lt Ez Sv Bo Qho Qb1 Qgq encK Ea Xo
set_option maxHeartbeats 2000000 in
theorem Qo4 (ro ow ot f : Z4) (vp : Value) (lp : Z4) (at_ : Int) (tn : BitVec 8) (w0 : World)  (hT : Tabs (Jd w0)) (hro : ro.length = 32) (how : ow.length = 32) (hot : ot.length = 32) (hf : f.length = 32) (hrp : Rd (Jd w0) u8 vp lp) (hlp : lp.length ≤ 9223372036854775807) (hat : -9223372036854775808 ≤ at_ ∧ at_ ≤ 9223372036854775807) : Xz prog 7 #[(agg u8 ro), (agg u8 ow), (agg u8 ot), (agg u8 f), vp, (i64 at_), (u8 tn)] w0 (fun r w1 => r = bl true ∧ RowKit.Below w0.heap.size w0 w1) := by
 refine Qz (args := [(agg u8 ro), (agg u8 ow), (agg u8 ot), (agg u8 f), vp, (i64 at_), (u8 tn)]) func7 rfl ntmps7 results7 rfl ?_
 have m0 : Mem w0 (Qs w0) [] := Mem.of_world w0
 have hmo := Gz ot Yy
 have hcl := Ql1 ro ow (Zu ot Yy) ([120#8]) lp
 obtain ⟨t1, t2⟩ := trip_0 hro how hot f ([120#8]) lp
 have hcl2 : (Qb1 (fqT ro ow ot) [120#8] lp).length = lp.length + 72 := hcl
 have hcl3 : (cqT ro ow ot lp).length = lp.length + 72 := hcl
 have h0k : (Xo ro ot).ks.length = 0 := by rw [Qlh]; rfl
 refine sR <| Y5 (Z5 (f := u8) (l := ro) m0 rfl) fun w1 b7 m1 => Y5 (Z5 (f := u8) (l := ow) m1 rfl) fun w2 b8 m2 => Y5 (Z5 (f := u8) (l := ot) m2 rfl) fun w3 b9 m3 => Y5 (Z5 (f := u8) (l := f) m3 rfl) fun w4 b10 m4 => Zx (bl false) ?_
 refine rN (Qa (sR ?_))
 refine U5 m4 (oc9 (Qpx) (Qrk _ (hT.mono fun b o e => (m4).rest b o e))) fun w5 m5 => Qd (v := (bl false)) (Ag (b := true) rfl) <| rN <| Ja rfl Yx ?_
 refine Qo (Qc (Qa (sR ?_)))
 refine Zm vp <| Qd (Yi (Rd.ofRest hrp m5) Zn rfl) <| Qd (G7 (b := 300) rfl rfl) <| rN ?_
 refine Zz rfl (fun hc7 => ?_) (fun hc7 => ?_)
 ·
  have hc7p := of_decide_eq_true hc7
  refine sR <| Zx (bl true) ?_
  refine rN (Z8 (Yz ?_))
  refine Qq [(bl true)] ⟨rfl, trivial⟩ ?_
  exact ⟨rfl, Mem.below w0 m5⟩
 ·
  have hc7p := of_decide_eq_false hc7
  refine Qo (Qc (sR ?_))
  refine Qd (Qn Xn rfl Zh rfl m5.h1 Ph) <| U5 m5 (oc27 (Jz rfl) (Qrq _ _ sL)) fun w8 m8 => Y5 (Ju m8 Qil) fun w10 b15 m10 => Vd (Gy [ot.map u8, (Zu ot Yy).map u8] Qil rfl rfl (Eh (n := 32) (m := 32) (k := 64) (by first | rfl | (rw [bH]; first | omega | (simp; done) | (simp; omega))) (Eh (n := 32) (m := 0) (k := 32) (by first | rfl | (rw [bH]; first | omega | (simp; done) | (simp; omega))) Qdl rfl) rfl) (Ym (Jf Qr _) (Ym (Jf Qr _) U6)) m10.h0 rfl rfl) ?_
  rintro _ w11 uq11
  have m11 : Mem _ _ [(b15, .cells (Qy [ot.map u8, (Zu ot Yy).map u8]) 39 (0, 0)), _, _, _, _] := m10.upd0 uq11
  refine rN (Qa ?_)
  refine Jy Xv ?_
  refine Qeq [9, 10] (dl 9) 11 (luN [(9, 16), (10, 17)]) (luN [(9, 26), (10, 26)]) (luV [(9, (aO (Qy (sE (aA 32 0) (aA 32 0) (aA 32 0) false false (aA 32 0) (aA 32 0) 0 0 0 J3)))), (10, (aO (Qy (sE (aA 32 0) (aA 32 0) (aA 32 0) false false (aA 32 0) (aA 32 0) 0 0 0 J3))))]) (fun g => g 0 = (agg u8 ro) ∧ g 1 = (agg u8 ow) ∧ g 2 = (agg u8 ot) ∧ g 3 = (agg u8 f) ∧ g 4 = vp ∧ g 5 = (i64 at_) ∧ g 6 = (u8 tn) ∧ g 7 = (ptr b7 0) ∧ g 8 = (ptr b8 0) ∧ g 9 = (ptr b9 0) ∧ g 10 = (ptr b10 0) ∧ g 14 = (bl false) ∧ g 15 = (ptr b15 0) ∧ g 31 = (bl false) ∧ g 34 = (bl (decide (300 < (lp.length : Int)))) ∧ g 42 = (aO (Qy (sS (fqT ro ow ot) J3))) ∧ g 45 = (aO (Qy (sS (Xo ro ot) J3))) ∧ True) m11 (Wq ⟨⟨_, _, _, rfl⟩, rfl, _, _, J5⟩ (Wq ⟨⟨_, _, _, rfl⟩, rfl, _, _, J5⟩ Sz)) (fun sx12 hS12 => ?_) ?_
  ·skip
   refine Yj rfl (fun _ e' => Qn Xn rfl Zh rfl (m11.ext e').h4 Ph) <| Yj rfl (fun _ e' => Qn Xn rfl Zh rfl (m11.ext e').h3 Ph) <| Wy (v := (aO (Qy [ow.map u8, (Zu ow Yy).map u8]))) rfl rfl (fun w13 e13 => oc27 (Jz rfl) (Qrq _ _ sL)) <| X4 rfl (Zl (r := 32) Qjc rfl Jj Zh rfl rfl) <| Yj rfl (fun _ e' => Jn 1 Xn Zh rfl (m11.ext e').h0 rfl) <| Wy (v := (aO (Qy (sS (fqT ro ow ot) J3)))) rfl rfl (fun w16 e16 => oc16 (Dy rfl rfl rfl) (Qps _ _ _ _ _ (hT.mono fun b o e => ((m11.ext e16)).rest b o e) sL sL sL sL)) <| Yj rfl (fun _ e' => Qn Xn rfl Zh rfl (m11.ext e').h4 Ph) <| Yj rfl (fun _ e' => Ky Qjc Qil rfl (m11.ext e').h0) <| Wy (v := (aO (Qy (sS (Xo ro ot) J3)))) rfl rfl (fun w19 e19 => oc18 (Xl rfl rfl) (Qma _ _ _ _ sL sL sL)) ?_
   exact hS12 _ ⟨rfl, rfl, rfl, rfl, rfl, rfl, rfl, rfl, rfl, rfl, rfl, rfl, rfl, rfl, rfl, rfl, rfl, trivial⟩
  rintro g22 ⟨s0, s1, s2, s3, s4, s5, s6, s7, s8, s9, s10, s14, s15, s31, s34, s42, s45, _⟩ w24 ps24 hmm24
  have m24 : Mem _ _ [((ps24 9), .cells (Qy (sE (aA 32 0) (aA 32 0) (aA 32 0) false false (aA 32 0) (aA 32 0) 0 0 0 J3)) 26 (0, 0)), ((ps24 10), .cells (Qy (sE (aA 32 0) (aA 32 0) (aA 32 0) false false (aA 32 0) (aA 32 0) 0 0 0 J3)) 26 (0, 0)), _, _, _, _, _] := hmm24
  show RW _ _ _ _ _ (upd (upd g22 17 (ptr (ps24 10) 0)) 16 (ptr (ps24 9) 0)) _
  generalize ps24 9 = b16, ps24 10 = b17 at m24 ⊢
  refine Ye m24 (Ko J5 rfl s42 m24.h0 (Ur rfl)) fun w25 m25 => Vs m25 (Ko J5 rfl s45 m25.h1 (Ur rfl)) fun w26 m26 => ?_
  refine rN (sR ?_)
  refine Qd (Ky Yc J5 rfl m26.h0) <| Y5 (Qp u8 [120#8] Qr m26 Zn Yr rfl rfl rfl) fun w27 b48 m27 => Vr (Tj (m := 1) Zn V3 rfl m27.h0 rfl) ?_
  rintro _ w28 ⟨rfl, uq28⟩
  have m28 : Mem w28 (Qs w0) [(b48, .cells (cl u8 ([120#8])) 5 (1, 2)), (b16, .cells (Qy (sS (fqT ro ow ot) J3)) 26 (0, 0)), (b17, .cells (Qy (sS (Xo ro ot) J3)) 26 (0, 0)), (b15, .cells (Qy [ot.map u8, (Zu ot Yy).map u8]) 39 (0, 0)), (b10, .cells (cl u8 f) 23 (0, 0)), (b9, .cells (cl u8 ot) 23 (0, 0)), (b8, .cells (cl u8 ow) 23 (0, 0)), (b7, .cells (cl u8 ro) 23 (0, 0))] := m27.upd0 uq28
  refine X9 s4 <| Vr (oc12 (Dy rfl rfl rfl) (Qrr (fqT ro ow ot) J3 (Wi b48 0 1 1) ([120#8]) vp lp _ (hT.mono fun b o e => (m28).rest b o e) (RdK.nilE Ya) sL (Rd.mkA m28.h0) sL (Rd.ofRest hrp m28) sL sL sL)) ?_
  rintro _ w29 ⟨vqq30, Hqq30, vcq30, Hcq30, rfl, gqq30, gcq30, k_w29⟩
  have m29 : Mem w29 (Qs w0) (Hqq30 ++ (Hcq30 ++ ([(b48, .cells (cl u8 ([120#8])) 5 (1, 2)), (b16, .cells (Qy (sS (fqT ro ow ot) J3)) 26 (0, 0)), (b17, .cells (Qy (sS (Xo ro ot) J3)) 26 (0, 0)), (b15, .cells (Qy [ot.map u8, (Zu ot Yy).map u8]) 39 (0, 0)), (b10, .cells (cl u8 f) 23 (0, 0)), (b9, .cells (cl u8 ot) 23 (0, 0)), (b8, .cells (cl u8 ow) 23 (0, 0)), (b7, .cells (cl u8 ro) 23 (0, 0))]))) := ymA (bY (H := [(b48, .cells (cl u8 ([120#8])) 5 (1, 2)), (b16, .cells (Qy (sS (fqT ro ow ot) J3)) 26 (0, 0)), (b17, .cells (Qy (sS (Xo ro ot) J3)) 26 (0, 0)), (b15, .cells (Qy [ot.map u8, (Zu ot Yy).map u8]) 39 (0, 0)), (b10, .cells (cl u8 f) 23 (0, 0)), (b9, .cells (cl u8 ot) 23 (0, 0)), (b8, .cells (cl u8 ow) 23 (0, 0)), (b7, .cells (cl u8 ro) 23 (0, 0))]) (H' := _) m28 k_w29)
  refine X9 rfl <| Qd (v := (aO (Qy (sS (Qgq (fqT ro ow ot)) (if Lt (fqT ro ow ot) = 0 then vqq30 else J3))))) (Zr rfl rfl) <| Qd (v := vcq30) (Zr rfl rfl) <| Qd (v := (i64 (Lt (fqT ro ow ot)))) (Zr rfl rfl) <| Y5 (Ju m29 J5) fun w31 b18 m31 => Ye m31 (Ko J5 rfl rfl m31.h0 (Ur (eU (RdK.ite (fun h => dA (gqq30.rd (aC [_] Hqq30 _ m31)) (Qq7 h)) (fun h => dA (RdK.nilE Ya) (Qq8 h)))))) fun w32 m32 => Zx vcq30 <| Zx (i64 (Lt (fqT ro ow ot))) <| rN ?_
  have m33 := aF [_] _ m32
  have m34 := aF Hqq30 _ m33
  have m35 := aF [_] _ (aC Hcq30 [_] _ m34)
  refine Qa (sR ?_)
  refine Zm (i64 (Lt (fqT ro ow ot))) <| Qd (Kz (b := 0) rfl rfl) <| rN ?_
  have hd36 : ((Lt (fqT ro ow ot)) != 0) = false := by rw [Qng]; rfl
  refine Ja rfl hd36 ?_
  refine Qo (Qc (sR ?_))
  refine Y5 (Qp u8 [] Qr m35 Zn Yr rfl (by simp [Bz]) rfl) fun w37 b57 m37 => Zm vcq30 <| Vr (Xh (f := u8) (Hs := [(b57, .cells (cl u8 ([])) 5 (0, 0))]) (H := Hcq30 ++ ([_, _, _, _, _, _, _])) m37 (Z9.of u8 5 b57 ([])) rfl rfl (gcq30.rd (aC [_] Hcq30 _ m37)) Zn Zn Yr rfl Qr sL sL) ?_
  rintro sv38 w38 ⟨Hs38, m38, g38⟩
  replace g38 : Z9 u8 5 sv38 (cqT ro ow ot lp) Hs38 := g38
  refine Zx sv38 ?_
  refine rN (sR ?_)
  refine Zm sv38 <| X9 s5 <| Qd (Vy (b := 65535) rfl rfl oM oM) <| Zm sv38 <| Qd (Yi (g38.rd m38) Zn rfl) ?_
  have han : (BitVec.ofInt 64 at_).toNat &&& (65535 : Int).toNat ≤ 65535 := Nat.and_le_right
  obtain ⟨j, hj, hjl⟩ : ∃ q : Nat, (((BitVec.ofInt 64 at_).toNat &&& (65535 : Int).toNat : Nat) : Int) % ((cqT ro ow ot lp).length : Int) = (q : Int) ∧ (q : Int) < ((cqT ro ow ot lp).length : Int) := rem_nat oM oM
  refine Qd (Jv.cast (congrArg i64 hj) (Wp rfl rfl oM oM oM)) <| Qd (Zo (g38.rd m38) Zn Yr rfl rfl oM sL) <| Qd (v := (u8 ((cqT ro ow ot lp).getD j 0))) (Xy (l := (cqT ro ow ot lp)) (i := (j : Int)) (dflt := 0) (g38.rd m38) V3 rfl oM sL rfl) <| X9 s6 <| Qd (Nb rfl rfl) <| Qd (Zo (g38.rd m38) Zn Yr rfl rfl oM sL) <| Vd (Qet (Hs := Hs38) (H := Hcq30 ++ ([_, _, _, _, _, _, _])) (i := (j : Int)) (a := ((cqT ro ow ot lp).getD j 0) ^^^ tn) m38 g38 Qr Yr oM sL rfl rfl) ?_
  rintro _ w39 ⟨Hs39, m39, g39⟩
  replace g39 : Z9 u8 5 sv38 (bqT ro ow ot lp j tn) Hs39 := g39
  refine rN (Qa ?_)
  have hbl : (bqT ro ow ot lp j tn).length = lp.length + 72 := List.length_set.trans hcl
  have hdn := decN_len (S := (Xo ro ot)) (b := ([120#8])) (s := (bqT ro ow ot lp j tn)) (f := f)
  have hdl := Qsq (S := (Xo ro ot)) (b := ([120#8])) (s := (bqT ro ow ot lp j tn)) (f := f)
  refine Qb <| Qd (Ky Yc J5 rfl ((ai Hs39 Hcq30 [_] [_] _ m39)).h0) <| Y5 (Qp u8 [120#8] Qr m39 Zn Yr rfl rfl rfl) fun w40 b73 m40 => Vr (Tj (m := 1) Zn V3 rfl m40.h0 rfl) ?_
  rintro _ w41 ⟨rfl, uq41⟩
  have m41 : Mem w41 (Qs w0) ([(b73, .cells (cl u8 ([120#8])) 5 (1, 2))] ++ (Hs39 ++ (Hcq30 ++ ([(b16, .cells (Qy (sS (fqT ro ow ot) J3)) 26 (0, 0)), (b17, .cells (Qy (sS (Xo ro ot) J3)) 26 (0, 0)), (b15, .cells (Qy [ot.map u8, (Zu ot Yy).map u8]) 39 (0, 0)), (b10, .cells (cl u8 f) 23 (0, 0)), (b9, .cells (cl u8 ot) 23 (0, 0)), (b8, .cells (cl u8 ow) 23 (0, 0)), (b7, .cells (cl u8 ro) 23 (0, 0))])))) := m40.upd0 uq41
  refine Zm sv38 <| Qd (Qn Xn rfl Zh s10 ((dO [_] Hs39 Hcq30 [_, _, _] [_] _ m41)).h0 Ph) <| Vr (oc25 (Ry rfl rfl rfl rfl) (Qs5 (Xo ro ot) J3 (Wi b73 0 1 1) ([120#8]) sv38 (bqT ro ow ot lp j tn) _ _ (hT.mono fun b o e => (m41).rest b o e) (RdK.nilE Ya) (Rd.mkA m41.h0) sL (g39.rd (aC [_] Hs39 _ m41)) sL sL sL sL)) ?_
  rintro _ w42 ⟨vqq43, Hqq43, vpq43, Hpq43, rfl, gqq43, gpq43, k_w42⟩
  have m42 : Mem w42 (Qs w0) (Hqq43 ++ (Hpq43 ++ ([(b73, .cells (cl u8 ([120#8])) 5 (1, 2))] ++ (Hs39 ++ (Hcq30 ++ ([(b16, .cells (Qy (sS (fqT ro ow ot) J3)) 26 (0, 0)), (b17, .cells (Qy (sS (Xo ro ot) J3)) 26 (0, 0)), (b15, .cells (Qy [ot.map u8, (Zu ot Yy).map u8]) 39 (0, 0)), (b10, .cells (cl u8 f) 23 (0, 0)), (b9, .cells (cl u8 ot) 23 (0, 0)), (b8, .cells (cl u8 ow) 23 (0, 0)), (b7, .cells (cl u8 ro) 23 (0, 0))])))))) := ymA (bY (H := [(b73, .cells (cl u8 ([120#8])) 5 (1, 2))] ++ (Hs39 ++ (Hcq30 ++ ([(b16, .cells (Qy (sS (fqT ro ow ot) J3)) 26 (0, 0)), (b17, .cells (Qy (sS (Xo ro ot) J3)) 26 (0, 0)), (b15, .cells (Qy [ot.map u8, (Zu ot Yy).map u8]) 39 (0, 0)), (b10, .cells (cl u8 f) 23 (0, 0)), (b9, .cells (cl u8 ot) 23 (0, 0)), (b8, .cells (cl u8 ow) 23 (0, 0)), (b7, .cells (cl u8 ro) 23 (0, 0))])))) (H' := _) m41 k_w42)
  refine X9 rfl <| Qd (Zr rfl rfl) <| Qd (v := vpq43) (Zr rfl rfl) <| Qd (v := (i64 (Ez (Xo ro ot) ([120#8]) (bqT ro ow ot lp j tn) f))) (Zr rfl rfl) <| Y5 (Ju m42 J5) fun w44 b22 m44 => Ye m44 (Ko J5 rfl rfl m44.h0 (Ur (eU (RdK.ite (fun h => dA (gqq43.rd (aC [_] Hqq43 _ m44)) (Qfd h)) (fun h => dA (RdK.nilE Ya) (Qfe h)))))) fun w45 m45 => Zx vpq43 <| Tc rfl <| rN ?_
  have m46 := aF [_] _ (ai [_] Hqq43 Hpq43 [_] _ m45)
  refine sR <| Qd (Ky Yc J5 rfl ((Mem.pick6 [_] Hqq43 Hpq43 Hs39 Hcq30 [_] [_] _ m46)).h0) <| Y5 (Qp u8 [120#8] Qr m46 Zn Yr rfl rfl rfl) fun w47 b83 m47 => Vr (Tj (m := 1) Zn V3 rfl m47.h0 rfl) ?_
  rintro _ w48 ⟨rfl, uq48⟩
  have m48 : Mem w48 (Qs w0) ([(b83, .cells (cl u8 ([120#8])) 5 (1, 2)), (b22, .cells (Qy (sS (Bo (Xo ro ot) ([120#8]) (bqT ro ow ot lp j tn) f) (if Ez (Xo ro ot) ([120#8]) (bqT ro ow ot lp j tn) f = 0 then vqq43 else J3))) 26 (0, 0))] ++ (Hqq43 ++ (Hpq43 ++ (Hs39 ++ (Hcq30 ++ ([(b16, .cells (Qy (sS (fqT ro ow ot) J3)) 26 (0, 0)), (b17, .cells (Qy (sS (Xo ro ot) J3)) 26 (0, 0)), (b15, .cells (Qy [ot.map u8, (Zu ot Yy).map u8]) 39 (0, 0)), (b10, .cells (cl u8 f) 23 (0, 0)), (b9, .cells (cl u8 ot) 23 (0, 0)), (b8, .cells (cl u8 ow) 23 (0, 0)), (b7, .cells (cl u8 ro) 23 (0, 0))])))))) := m47.upd0 uq48
  refine Zm sv38 <| Qd (Qn Xn rfl Zh s10 ((Mem.pick6 [_, _] Hqq43 Hpq43 Hs39 Hcq30 [_, _, _] [_] _ m48)).h0 Ph) <| Vr (oc26 (Ry rfl rfl rfl rfl) (c_rdec19 (Xo ro ot) J3 (Wi b83 0 1 1) ([120#8]) sv38 (bqT ro ow ot lp j tn) _ _ (RdK.nilE Ya) (Rd.mkA m48.h0) sL (g39.rd (ai [_, _] Hqq43 Hpq43 Hs39 _ m48)) sL sL sL sL)) ?_
  rintro _ w49 ⟨vqq50, Hqq50, vpq50, Hpq50, rfl, gqq50, gpq50, k_w49⟩
  have m49 : Mem w49 (Qs w0) (Hqq50 ++ (Hpq50 ++ ([(b83, .cells (cl u8 ([120#8])) 5 (1, 2)), (b22, .cells (Qy (sS (Bo (Xo ro ot) ([120#8]) (bqT ro ow ot lp j tn) f) (if Ez (Xo ro ot) ([120#8]) (bqT ro ow ot lp j tn) f = 0 then vqq43 else J3))) 26 (0, 0))] ++ (Hqq43 ++ (Hpq43 ++ (Hs39 ++ (Hcq30 ++ ([(b16, .cells (Qy (sS (fqT ro ow ot) J3)) 26 (0, 0)), (b17, .cells (Qy (sS (Xo ro ot) J3)) 26 (0, 0)), (b15, .cells (Qy [ot.map u8, (Zu ot Yy).map u8]) 39 (0, 0)), (b10, .cells (cl u8 f) 23 (0, 0)), (b9, .cells (cl u8 ot) 23 (0, 0)), (b8, .cells (cl u8 ow) 23 (0, 0)), (b7, .cells (cl u8 ro) 23 (0, 0))])))))))) := ymA (bY (H := [(b83, .cells (cl u8 ([120#8])) 5 (1, 2)), (b22, .cells (Qy (sS (Bo (Xo ro ot) ([120#8]) (bqT ro ow ot lp j tn) f) (if Ez (Xo ro ot) ([120#8]) (bqT ro ow ot lp j tn) f = 0 then vqq43 else J3))) 26 (0, 0))] ++ (Hqq43 ++ (Hpq43 ++ (Hs39 ++ (Hcq30 ++ ([(b16, .cells (Qy (sS (fqT ro ow ot) J3)) 26 (0, 0)), (b17, .cells (Qy (sS (Xo ro ot) J3)) 26 (0, 0)), (b15, .cells (Qy [ot.map u8, (Zu ot Yy).map u8]) 39 (0, 0)), (b10, .cells (cl u8 f) 23 (0, 0)), (b9, .cells (cl u8 ot) 23 (0, 0)), (b8, .cells (cl u8 ow) 23 (0, 0)), (b7, .cells (cl u8 ro) 23 (0, 0))])))))) (H' := _) m48 k_w49)
  refine X9 rfl <| Qd (Zr rfl rfl) <| Qd (v := vpq50) (Zr rfl rfl) <| Qd (v := (i64 (Ez (Xo ro ot) ([120#8]) (bqT ro ow ot lp j tn) f))) (Zr rfl rfl) <| Y5 (Ju m49 J5) fun w51 b25 m51 => Ye m51 (Ko J5 rfl rfl m51.h0 (Ur (eU (RdK.ite (fun h => dA (gqq50.rd (aC [_] Hqq50 _ m51)) (Qfd h)) (fun h => dA (RdK.nilE Ya) (Qfe h)))))) fun w52 m52 => Zx vpq50 <| Tc rfl <| rN ?_
  have m53 := aF [_] _ (ai [_] Hqq50 Hpq50 [_] _ m52)
  refine Qa (sR ?_)
  refine X9 rfl <| X9 rfl <| Qd (Kz rfl rfl) <| X9 rfl ?_
  have hd54 : ((Ez (Xo ro ot) ([120#8]) (bqT ro ow ot lp j tn) f) != (Ez (Xo ro ot) ([120#8]) (bqT ro ow ot lp j tn) f)) = false := Ya
  refine Yf (s := 94) rfl rfl hd54 rfl (Ky Yc J5 rfl ((ai [_] Hqq50 Hpq50 [_] _ m53)).h0) <| Yf (s := 94) rfl rfl hd54 rfl (Ky Yc J5 rfl m53.h0) <| rw_gy (s := 94) rfl rfl hd54 rfl (oc14 (Xl rfl rfl) (c_sameSS (Bo (Xo ro ot) ([120#8]) (bqT ro ow ot lp j tn) f) (Bo (Xo ro ot) ([120#8]) (bqT ro ow ot lp j tn) f) (if Ez (Xo ro ot) ([120#8]) (bqT ro ow ot lp j tn) f = 0 then vqq43 else J3) (if Ez (Xo ro ot) ([120#8]) (bqT ro ow ot lp j tn) f = 0 then vqq50 else J3) _ (RdK.ite (fun h => dA (gqq43.rd (dO [_] Hqq50 Hpq50 [_] Hqq43 _ m53)) (Qfd h)) (fun h => dA (RdK.nilE Ya) (Qfe h))) (RdK.ite (fun h => dA (gqq50.rd (aC [_] Hqq50 _ m53)) (Qfd h)) (fun h => dA (RdK.nilE Ya) (Qfe h))) sL rfl)) ?_
  rintro _ w55 ⟨rfl, e55⟩
  have m55 := m53.ext e55
  refine Yf (s := 94) rfl rfl hd54 rfl (Ag (b := true) rfl) <| Qd (Wn rfl hd54 rfl) <| Zm (bl false) <| Yf (s := 100) rfl rfl rfl rfl (Jb (v := vpq43) rfl) <| Yf (s := 100) rfl rfl rfl rfl (Jb (v := vpq50) rfl) <| rw_gy (s := 100) rfl rfl rfl rfl (oc15 (Xl rfl rfl) (Qnx vpq43 vpq50 (Sv (Xo ro ot) ([120#8]) (bqT ro ow ot lp j tn) f) (Sv (Xo ro ot) ([120#8]) (bqT ro ow ot lp j tn) f) _ (gpq43.rd (Mem.pick5 [_] Hqq50 Hpq50 [_] Hqq43 Hpq43 _ m55)) (gpq50.rd (Mem.pick2 [_] Hqq50 Hpq50 _ m55)) sL)) ?_
  rintro _ w57 ⟨rfl, e57⟩
  have m57 := m55.ext e57
  refine Yf (s := 100) rfl rfl rfl rfl (Ag rfl) <| Qd (Ql6 rfl rfl) <| rN ?_
  have hd59 : ((Sv (Xo ro ot) ([120#8]) (bqT ro ow ot lp j tn) f) == (Sv (Xo ro ot) ([120#8]) (bqT ro ow ot lp j tn) f)) = true := beq_self_eq_true _
  have hd60 : (!((Sv (Xo ro ot) ([120#8]) (bqT ro ow ot lp j tn) f) == (Sv (Xo ro ot) ([120#8]) (bqT ro ow ot lp j tn) f))) = false := congrArg Bool.not hd59
  refine Ja rfl hd60 ?_
  refine Qo (Qc (Qa (sR ?_)))
  refine X9 rfl <| Qd (G8 (b := 0) rfl rfl) <| rN ?_
  refine Zz rfl (fun hc61 => ?_) (fun hc61 => ?_)
  ·
   have hc61p := eq_of_beq hc61
   refine sR <| Zx (bl true) ?_
   refine rN (Z8 (Yz ?_))
   refine Qq [(bl true)] ⟨rfl, trivial⟩ ?_
   exact ⟨rfl, Mem.below w0 m57⟩
  ·
   have hc61p := ne_of_beq_false hc61
   have hq2 : (Bo (Xo ro ot) ([120#8]) (bqT ro ow ot lp j tn) f).n2 = 0 := by rw [(Qfc (beq_eq_false_iff_ne.1 hc61)).1]; exact Qti _ _
   have hq3 : (Bo (Xo ro ot) ([120#8]) (bqT ro ow ot lp j tn) f).ks.length = 0 := by rw [(Qfc (beq_eq_false_iff_ne.1 hc61)).1, Qlh]; rfl
   have hd2 := Qsq (S := (Bo (Xo ro ot) ([120#8]) (bqT ro ow ot lp j tn) f)) (b := ([120#8])) (s := (cqT ro ow ot lp)) (f := f)
   refine Qo (Qc (sR ?_))
   refine Qd (Ky Yc J5 rfl ((ai [_] Hqq50 Hpq50 [_] _ m57)).h0) <| Y5 (Qp u8 [120#8] Qr m57 Zn Yr rfl rfl rfl) fun w62 b110 m62 => Vr (Tj (m := 1) Zn V3 rfl m62.h0 rfl) ?_
   rintro _ w63 ⟨rfl, uq63⟩
   have m63 : Mem w63 (Qs w0) ([(b110, .cells (cl u8 ([120#8])) 5 (1, 2)), (b25, .cells (Qy (sS (Bo (Xo ro ot) ([120#8]) (bqT ro ow ot lp j tn) f) (if Ez (Xo ro ot) ([120#8]) (bqT ro ow ot lp j tn) f = 0 then vqq50 else J3))) 26 (0, 0))] ++ (Hqq50 ++ (Hpq50 ++ ([(b22, .cells (Qy (sS (Bo (Xo ro ot) ([120#8]) (bqT ro ow ot lp j tn) f) (if Ez (Xo ro ot) ([120#8]) (bqT ro ow ot lp j tn) f = 0 then vqq43 else J3))) 26 (0, 0))] ++ (Hqq43 ++ (Hpq43 ++ (Hs39 ++ (Hcq30 ++ ([(b16, .cells (Qy (sS (fqT ro ow ot) J3)) 26 (0, 0)), (b17, .cells (Qy (sS (Xo ro ot) J3)) 26 (0, 0)), (b15, .cells (Qy [ot.map u8, (Zu ot Yy).map u8]) 39 (0, 0)), (b10, .cells (cl u8 f) 23 (0, 0)), (b9, .cells (cl u8 ot) 23 (0, 0)), (b8, .cells (cl u8 ow) 23 (0, 0)), (b7, .cells (cl u8 ro) 23 (0, 0))]))))))))) := m62.upd0 uq63
   refine Zm vcq30 <| Qd (Qn Xn rfl Zh s10 ((Mem.pick9 [_, _] Hqq50 Hpq50 [_] Hqq43 Hpq43 Hs39 Hcq30 [_, _, _] [_] _ m63)).h0 Ph) <| Vr (oc25 (Ry rfl rfl rfl rfl) (Qs5 (Bo (Xo ro ot) ([120#8]) (bqT ro ow ot lp j tn) f) (if Ez (Xo ro ot) ([120#8]) (bqT ro ow ot lp j tn) f = 0 then vqq43 else J3) (Wi b110 0 1 1) ([120#8]) vcq30 (cqT ro ow ot lp) _ _ (hT.mono fun b o e => (m63).rest b o e) (RdK.ite (fun h => dA (gqq43.rd (dO [_, _] Hqq50 Hpq50 [_] Hqq43 _ m63)) (Qfd h)) (fun h => dA (RdK.nilE Ya) (Qfe h))) (Rd.mkA m63.h0) sL (gcq30.rd (Mem.pick7 [_, _] Hqq50 Hpq50 [_] Hqq43 Hpq43 Hs39 Hcq30 _ m63)) sL sL sL sL)) ?_
   rintro _ w64 ⟨vqq65, Hqq65, vpq65, Hpq65, rfl, gqq65, gpq65, k_w64⟩
   have m64 : Mem w64 (Qs w0) (Hqq65 ++ (Hpq65 ++ ([(b110, .cells (cl u8 ([120#8])) 5 (1, 2)), (b25, .cells (Qy (sS (Bo (Xo ro ot) ([120#8]) (bqT ro ow ot lp j tn) f) (if Ez (Xo ro ot) ([120#8]) (bqT ro ow ot lp j tn) f = 0 then vqq50 else J3))) 26 (0, 0))] ++ (Hqq50 ++ (Hpq50 ++ ([(b22, .cells (Qy (sS (Bo (Xo ro ot) ([120#8]) (bqT ro ow ot lp j tn) f) (if Ez (Xo ro ot) ([120#8]) (bqT ro ow ot lp j tn) f = 0 then vqq43 else J3))) 26 (0, 0))] ++ (Hqq43 ++ (Hpq43 ++ (Hs39 ++ (Hcq30 ++ ([(b16, .cells (Qy (sS (fqT ro ow ot) J3)) 26 (0, 0)), (b17, .cells (Qy (sS (Xo ro ot) J3)) 26 (0, 0)), (b15, .cells (Qy [ot.map u8, (Zu ot Yy).map u8]) 39 (0, 0)), (b10, .cells (cl u8 f) 23 (0, 0)), (b9, .cells (cl u8 ot) 23 (0, 0)), (b8, .cells (cl u8 ow) 23 (0, 0)), (b7, .cells (cl u8 ro) 23 (0, 0))]))))))))))) := ymA (bY (H := [(b110, .cells (cl u8 ([120#8])) 5 (1, 2)), (b25, .cells (Qy (sS (Bo (Xo ro ot) ([120#8]) (bqT ro ow ot lp j tn) f) (if Ez (Xo ro ot) ([120#8]) (bqT ro ow ot lp j tn) f = 0 then vqq50 else J3))) 26 (0, 0))] ++ (Hqq50 ++ (Hpq50 ++ ([(b22, .cells (Qy (sS (Bo (Xo ro ot) ([120#8]) (bqT ro ow ot lp j tn) f) (if Ez (Xo ro ot) ([120#8]) (bqT ro ow ot lp j tn) f = 0 then vqq43 else J3))) 26 (0, 0))] ++ (Hqq43 ++ (Hpq43 ++ (Hs39 ++ (Hcq30 ++ ([(b16, .cells (Qy (sS (fqT ro ow ot) J3)) 26 (0, 0)), (b17, .cells (Qy (sS (Xo ro ot) J3)) 26 (0, 0)), (b15, .cells (Qy [ot.map u8, (Zu ot Yy).map u8]) 39 (0, 0)), (b10, .cells (cl u8 f) 23 (0, 0)), (b9, .cells (cl u8 ot) 23 (0, 0)), (b8, .cells (cl u8 ow) 23 (0, 0)), (b7, .cells (cl u8 ro) 23 (0, 0))]))))))))) (H' := _) m63 k_w64)
   refine X9 rfl <| Qd (Zr rfl rfl) <| Qd (v := vpq65) (Zr rfl rfl) <| Qd (v := (i64 (Ez (Bo (Xo ro ot) ([120#8]) (bqT ro ow ot lp j tn) f) ([120#8]) (cqT ro ow ot lp) f))) (Zr rfl rfl) <| Y5 (Ju m64 J5) fun w66 b28 m66 => Ye m66 (Ko J5 rfl rfl m66.h0 (Ur (eU (RdK.ite (fun h => dA (gqq65.rd (aC [_] Hqq65 _ m66)) (Qfd h)) (fun h => dA (RdK.ite (fun h => dA (gqq43.rd (Mem.pick7 [_] Hqq65 Hpq65 [_, _] Hqq50 Hpq50 [_] Hqq43 _ m66)) (Qfd h)) (fun h => dA (RdK.nilE Ya) (Qfe h))) (Qfe h)))))) fun w67 m67 => Zx vpq65 <| Tc rfl <| rN ?_
   have m68 := aF [_] _ m67
   have m69 := aF Hqq65 _ m68
   have m70 := aF [_] _ (aC Hpq65 [_] _ m69)
   have m71 := aF Hpq43 _ (Mem.pick6 Hpq65 [_] Hqq50 Hpq50 [_] Hqq43 Hpq43 _ m70)
   refine sR <| X9 rfl <| Qd (G8 (b := 0) rfl rfl) <| X9 rfl ?_
   have hd72 : ((Ez (Bo (Xo ro ot) ([120#8]) (bqT ro ow ot lp j tn) f) ([120#8]) (cqT ro ow ot lp) f) == 0) = true := by rw [(Qfc (beq_eq_false_iff_ne.1 hc61)).1, t1]; exact beq_self_eq_true (0 : Int)
   refine Yf (s := 120) rfl rfl hd72 rfl (Jb (v := vpq65) rfl) <| Yf (s := 120) rfl rfl hd72 rfl (Jb s4) <| rw_gy (s := 120) rfl rfl hd72 rfl (oc15 (Xl rfl rfl) (Qnx vpq65 vp (Sv (Bo (Xo ro ot) ([120#8]) (bqT ro ow ot lp j tn) f) ([120#8]) (cqT ro ow ot lp) f) lp _ (gpq65.rd m71) (Rd.ofRest hrp m71) sL)) ?_
   rintro _ w73 ⟨rfl, e73⟩
   have m73 := m71.ext e73
   refine Qd (G6 rfl hd72 rfl) <| Tc rfl ?_
   refine rN (Z8 ?_)
   refine Qq [(bl ((Sv (Bo (Xo ro ot) ([120#8]) (bqT ro ow ot lp j tn) f) ([120#8]) (cqT ro ow ot lp) f) == lp))] ⟨rfl, trivial⟩ ?_
   have hd75 : ((Sv (Bo (Xo ro ot) ([120#8]) (bqT ro ow ot lp j tn) f) ([120#8]) (cqT ro ow ot lp) f) == lp) = true := by rw [(Qfc (beq_eq_false_iff_ne.1 hc61)).1, t2]; exact beq_self_eq_true _
   exact ⟨congrArg bl hd75, Mem.below w0 m73⟩
end Go.Proofs.YtkmiemlpfkfiiaaDoor
