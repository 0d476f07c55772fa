/- The ratchet: roots, sessions begun, what is enciphered. Conditions: none beyond those that each theorem states. -/
import Derived.Test.YtkmiemlpfkfiiaaDoorRa2
namespace Go.Proofs.YtkmiemlpfkfiiaaDoor
open List renaming append_assoc → aQ, mem_append_left → aS, mem_append_right → aG, replicate → aA
open List.Mem renaming head → aU, tail → aH
open Mem renaming addOwn → ae, addRest → bV, back → dJ, drop → aF, give → dI, new → bY, of_world → aY, pick → aC, pick2 → aN, pick3 → ai, upd0 → bM
open RdK renaming ofRest → af, one → eU
open Value renaming agg → aO, tuple → ak
open Tryd
set_option linter.unusedVariables false
set_option linter.unusedSimpArgs false
def Eg (root sh : Z4) : List Z4 := Wh root sh (J4 ⟨#[114, 97, 116, 99, 104, 101, 116]⟩) 2
def X8 (root sh : Z4) : Z4 := (Eg root sh).getD 0 []
def Y7 (root sh : Z4) : Z4 := (Eg root sh).getD 1 []
theorem Qje (root sh : Z4) : Eg root sh = Df 2 (Wv (Kw root sh) (J4 ⟨#[114, 97, 116, 99, 104, 101, 116]⟩) 64) := Qbw Yx Yx
theorem Qlf (root sh : Z4) : (Eg root sh).length = 2 := by rw [Qje]; exact Qdt _ _
theorem Di (root sh : Z4) : (X8 root sh).length = 32 := by unfold X8; rw [Qje]; exact Qea Yx (by rw [Du])
theorem Ec (root sh : Z4) : (Y7 root sh).length = 32 := by unfold Y7; rw [Qje]; exact Qea Yx (by rw [Du])
def Ba (own chain : Z4) (p n : Int) (beside plain : Z4) : Z4 :=
 Gv (Zu own Yy) p n ++ Gn (Xc chain [1#8]) (aA 12 0) (beside ++ Gv (Zu own Yy) p n) plain
attribute [local irreducible] Eg X8 Y7 Ba Wh Wv Kw Xc Gv Si Gn Zu Yy
set_option maxHeartbeats 2000000 in
theorem Qkl (ro sh : Z4) (w0 : World)  (hT : Tabs (Jd w0)) (hro : ro.length = 32) (hsh : sh.length = 32) : Xz prog 40 #[(agg u8 ro), (agg u8 sh)] w0 (fun r w1 => r = (ak #[(agg u8 (X8 ro sh)), (agg u8 (Y7 ro sh))]) ∧ Ext w0 w1) := by
 refine Qz (args := [(agg u8 ro), (agg u8 sh)]) func40 rfl ntmps40 results40 rfl ?_
 have m0 : Mem w0 (Qs w0) [] := aY w0
 have htl := Qlf ro sh
 have ht0 := Di ro sh
 have ht1 := Ec ro sh
 unfold X8 at ht0; unfold Y7 at ht1
 unfold Eg at htl ht0 ht1
 refine sR <| Y5 (Z5 (f := u8) (l := ro) m0 rfl) fun w1 b2 m1 => Y5 (Z5 (f := u8) (l := sh) m1 rfl) fun w2 b3 m2 => Y5 (Q7 m2 Zh) fun w3 b4 m3 => Y5 (Q7 m3 Zh) fun w4 b5 m4 => ?_
 refine rN (Qa ?_)
 refine Xi [(0, false), (1, false), (2, true), (3, false), (4, false), (5, false), (6, false)] 7 Xv <| X4 rfl (Xj (i := 0) (j := 32) Xn Yr rfl (Zd _ _) (Zd _ _) oM sL sL) <| X4 rfl (Xj (i := 0) (j := 32) Xn Yr rfl (Zd _ _) (Zd _ _) oM sL sL) ?_
 refine C9 rfl rfl (fun w5 e5 => ?_)
 have m5 := m4.ext e5
 refine Vf.mono (oc73 (Ry rfl rfl rfl rfl) (c_keys (sla b2 0 1 0 32 32) ro (sla b3 0 1 0 32 32) sh (⟨#[114, 97, 116, 99, 104, 101, 116]⟩) _ _ (hT.mono fun b o e => (m5).rest b o e) (Rd.slaAll m5.h3 sL) sL (Rd.slaAll m5.h2 sL) sL sL sL)) ?_
 rintro _ w6 ⟨vxq7, Hsq7, rfl, gvxq7, k_w6⟩
 refine ⟨k_w6.toExt, ?_⟩
 have m6 : Mem _ _ (Hsq7 ++ ([_, _, _, _])) := bY (H := [_, _, _, _]) (H' := Hsq7) m5 k_w6
 refine J7 rfl (ak #[vxq7, (i64 (Qgp (2 : Int)))]) <| X4 (v := vxq7) rfl (Zr rfl rfl) <| X4 (v := (i64 (Qgp (2 : Int)))) rfl (Zr rfl rfl) <| X4 rfl (Un (v := vxq7) rfl) <| Gf m6 fun w8 m8 => Zx (i64 (Qgp (2 : Int))) ?_
 refine rN (Qa ?_)
 refine Jy Xv ?_
 have m9 := (aN Hsq7 [_, _, _] [_] _ m8)
 have m10 := (ai [_] Hsq7 [_, _] [_] _ m9)
 have m11 := (aN [_, _] Hsq7 [_] _ m10)
 have m12 := (aC [_, _, _] Hsq7 _ m11)
 have m13 := (aN Hsq7 [_, _, _] [_] _ m12)
 have hFM14 : Mem w8 (Qs w0) ([(b4, .cells (cl u8 (aA 32 0)) 23 (0, 0))] ++ (Hsq7 ++ ([(b5, .cells (cl u8 (aA 32 0)) 23 (0, 0)), (b3, .cells (cl u8 sh) 23 (0, 0)), (b2, .cells (cl u8 ro) 23 (0, 0))]))) := m13
 obtain ⟨RM14, hRM14⟩ : ∃ R2, R2 = Rest.add (Qs w0) (Hsq7 ++ ([(b5, .cells (cl u8 (aA 32 0)) 23 (0, 0)), (b3, .cells (cl u8 sh) 23 (0, 0)), (b2, .cells (cl u8 ro) 23 (0, 0))])) := ⟨_, rfl⟩
 have M140 : Mem w8 RM14 [(b4, .cells (cl u8 (aA 32 0)) 23 (0, 0))] := by rw [hRM14]; exact dI hFM14
 have hg15 : RdK RM14.blk (F6 u8) 32 vxq7 (Wh ro sh (J4 (⟨#[114, 97, 116, 99, 104, 101, 116]⟩)) (2 : Int)) := gvxq7.rdIn (fun p hp => by rw [hRM14]; exact ae hFM14 (aS _ hp))
 have ho16 : RM14.blk b5 = some (.cells (cl u8 (aA 32 0)) 23 (0, 0)) := by rw [hRM14]; exact ae hFM14 (aG _ (aU _))
 have ho17 : RM14.blk b3 = some (.cells (cl u8 sh) 23 (0, 0)) := by rw [hRM14]; exact ae hFM14 (aG _ (aH _ (aU _)))
 have ho18 : RM14.blk b2 = some (.cells (cl u8 ro) 23 (0, 0)) := by rw [hRM14]; exact ae hFM14 (aG _ (aH _ (aH _ (aU _))))
 have hT19 : Tabs RM14.blk := by rw [hRM14]; exact Tabs.mono hT fun b o e => bV hFM14 e
 refine Dk M140 [(0, false), (1, false), (2, false), (3, false), (4, false), (5, false), (6, true)] 7 rfl Xv <| N8 rfl (Jb (v := vxq7) rfl) <| yqH rfl (fun w _H _hx => Y4 (i := 0) (af hg15 _hx) Qc5 Zh rfl rfl oM sL) <| yqH (v := (agg u8 ((Wh ro sh (J4 (⟨#[114, 97, 116, 99, 104, 101, 116]⟩)) (2 : Int)).getD 0 []))) rfl (fun w _H _hx => D7 (i := (0 : Int)) (af hg15 _hx) sL Xn Zh rfl rfl) <| N8 rfl (Jb (v := vxq7) rfl) <| yqH rfl (fun w _H _hx => Y4 (i := 1) (af hg15 _hx) Qc5 Zh rfl rfl oM sL) <| yqH (v := (agg u8 ((Wh ro sh (J4 (⟨#[114, 97, 116, 99, 104, 101, 116]⟩)) (2 : Int)).getD 1 []))) rfl (fun w _H _hx => D7 (i := (1 : Int)) (af hg15 _hx) sL Xn Zh rfl rfl) ?_
 refine Qhn rfl (fun w20 e20 => ?_)
 have m20 := M140.ext e20
 refine Vf.mono (Qg (f := u8) (l := (Wh ro sh (J4 (⟨#[114, 97, 116, 99, 104, 101, 116]⟩)) (2 : Int)).getD 0 []) Qr Zh rfl rfl sL m20.h0 Ph rfl) ?_
 rintro _ w21 uq21
 have m21 := m20.upd0 uq21
 refine ⟨⟨_, m21⟩, ?_⟩
 refine Gf m21 fun w22 m22 => ?_
 have hX23 := m22
 rw [hRM14] at hX23
 have m24 : Mem w22 (Qs w0) ([(b4, .cells (cl u8 ((Wh ro sh (J4 (⟨#[114, 97, 116, 99, 104, 101, 116]⟩)) (2 : Int)).getD 0 [])) 23 (0, 0))] ++ (Hsq7 ++ ([(b5, .cells (cl u8 (aA 32 0)) 23 (0, 0)), (b3, .cells (cl u8 sh) 23 (0, 0)), (b2, .cells (cl u8 ro) 23 (0, 0))]))) := ymA (dJ hFM14 hX23)
 refine Vd (Qg (f := u8) (l := (Wh ro sh (J4 (⟨#[114, 97, 116, 99, 104, 101, 116]⟩)) (2 : Int)).getD 1 []) Qr Zh rfl rfl sL ((aN [_] Hsq7 [_] _ m24)).h0 Ph rfl) ?_
 rintro _ w25 uq25
 have m25 : Mem _ _ ([_, _] ++ (Hsq7 ++ ([_, _]))) := bM (aN [_] Hsq7 [_] _ m24) uq25
 refine rN (Z8 ?_)
 refine Qq [(agg u8 ((Wh ro sh (J4 (⟨#[114, 97, 116, 99, 104, 101, 116]⟩)) (2 : Int)).getD 0 [])), (agg u8 ((Wh ro sh (J4 (⟨#[114, 97, 116, 99, 104, 101, 116]⟩)) (2 : Int)).getD 1 []))] ⟨⟨_, rfl, Xm Xn rfl Zh m25.h1 Ph⟩, ⟨_, rfl, Xm Xn rfl Zh m25.h0 Ph⟩, trivial⟩ ?_
 exact ⟨by unfold X8 Y7 Eg; rfl, m25.toExt⟩
set_option maxHeartbeats 2000000 in
theorem Qut (ro ow pu ot : Z4) (w0 : World)  (hT : Tabs (Jd w0)) (hro : ro.length = 32) (how : ow.length = 32) (hpu : pu.length = 32) (hot : ot.length = 32) : Xz prog 16 #[(agg u8 ro), (aO (Qy [ow.map u8, pu.map u8])), (agg u8 ot)] w0 (fun r w1 => r = (aO (Qy (sE (X8 ro (Zu ow ot)) ow ot true false (Y7 ro (Zu ow ot)) (aA 32 0) 0 0 0 J3))) ∧ Ext w0 w1) := by
 refine Qz (args := [(agg u8 ro), (aO (Qy [ow.map u8, pu.map u8])), (agg u8 ot)]) func16 rfl ntmps16 results16 rfl ?_
 have m0 : Mem w0 (Qs w0) [] := aY w0
 have ht0 := Di ro (Zu ow ot)
 have ht1 := Ec ro (Zu ow ot)
 have hml := Gz ow ot
 refine sR <| Y5 (Z5 (f := u8) (l := ro) m0 rfl) fun w1 b3 m1 => Y5 (Fz (cs := (Qy [ow.map u8, pu.map u8])) m1 rfl) fun w2 b4 m2 => Y5 (Z5 (f := u8) (l := ot) m2 rfl) fun w3 b5 m3 => Y5 (Ju m3 J5) fun w4 b6 m4 => ?_
 refine rN (Qa ?_)
 refine Jy Xv ?_
 have hFM5 : Mem w4 (Qs w0) ([(b6, .cells (Qy (sE (aA 32 0) (aA 32 0) (aA 32 0) false false (aA 32 0) (aA 32 0) 0 0 0 J3)) 26 (0, 0))] ++ [(b5, .cells (cl u8 ot) 23 (0, 0)), (b4, .cells (Qy [ow.map u8, pu.map u8]) 39 (0, 0)), (b3, .cells (cl u8 ro) 23 (0, 0))]) := m4
 obtain ⟨RM5, hRM5⟩ : ∃ R2, R2 = Rest.add (Qs w0) [(b5, .cells (cl u8 ot) 23 (0, 0)), (b4, .cells (Qy [ow.map u8, pu.map u8]) 39 (0, 0)), (b3, .cells (cl u8 ro) 23 (0, 0))] := ⟨_, rfl⟩
 have M50 : Mem w4 RM5 [(b6, .cells (Qy (sE (aA 32 0) (aA 32 0) (aA 32 0) false false (aA 32 0) (aA 32 0) 0 0 0 J3)) 26 (0, 0))] := by rw [hRM5]; exact dI hFM5
 have ho6 : RM5.blk b5 = some (.cells (cl u8 ot) 23 (0, 0)) := by rw [hRM5]; exact ae hFM5 (aU _)
 have ho7 : RM5.blk b4 = some (.cells (Qy [ow.map u8, pu.map u8]) 39 (0, 0)) := by rw [hRM5]; exact ae hFM5 (aH _ (aU _))
 have ho8 : RM5.blk b3 = some (.cells (cl u8 ro) 23 (0, 0)) := by rw [hRM5]; exact ae hFM5 (aH _ (aH _ (aU _)))
 have hT9 : Tabs RM5.blk := by rw [hRM5]; exact Tabs.mono hT fun b o e => bV hFM5 e
 refine Dk M50 [(0, false), (1, false), (2, false), (3, false), (4, true)] 5 rfl Xv <| N8 rfl (Zl (r := 0) Qjc rfl Jj Zh rfl rfl) <| yqH rfl (fun w _H _hx => Jn 0 Xn Zh rfl (_hx.rest _ _ ho7) rfl) <| yqH rfl (fun w _H _hx => Qn Xn rfl Zh rfl (_hx.rest _ _ ho6) Ph) <| N8 rfl (Zl (r := 32) Yc rfl Jj Zh rfl rfl) ?_
 refine Qhn rfl (fun w10 e10 => ?_)
 have m10 := M50.ext e10
 refine Vf.mono (Ue 1 (sE (aA 32 0) ow (aA 32 0) false false (aA 32 0) (aA 32 0) 0 0 0 J3) Qr Zh rfl rfl m10.h0 rfl) ?_
 rintro _ w11 uq11
 have m11 := m10.upd0 uq11
 refine ⟨⟨_, m11⟩, ?_⟩
 refine Gf m11 fun w12 m12 => ?_
 have hX13 := m12
 rw [hRM5] at hX13
 have m14 : Mem w12 (Qs w0) [(b6, .cells (Qy (sE (aA 32 0) ow (aA 32 0) false false (aA 32 0) (aA 32 0) 0 0 0 J3)) 26 (0, 0)), (b5, .cells (cl u8 ot) 23 (0, 0)), (b4, .cells (Qy [ow.map u8, pu.map u8]) 39 (0, 0)), (b3, .cells (cl u8 ro) 23 (0, 0))] := ymA (dJ hFM5 hX13)
 refine Qd (Zl (r := 64) Yc rfl Jj Zh rfl rfl) <| Ye m14 (Ue 2 (sE (aA 32 0) ow ot false false (aA 32 0) (aA 32 0) 0 0 0 J3) Qr Zh rfl rfl m14.h0 rfl) fun w15 m15 => Qd (Zl (r := 96) Yc rfl Jj ti4 rfl rfl) <| Ye m15 (Ud 3 (sE (aA 32 0) ow ot true false (aA 32 0) (aA 32 0) 0 0 0 J3) ti4 rfl rfl rfl m15.h0 rfl rfl) fun w16 m16 => ?_
 refine rN (Qa ?_)
 refine Jy Xv ?_
 have hFM17 : Mem w16 (Qs w0) ([(b6, .cells (Qy (sE (aA 32 0) ow ot true false (aA 32 0) (aA 32 0) 0 0 0 J3)) 26 (0, 0))] ++ [(b5, .cells (cl u8 ot) 23 (0, 0)), (b4, .cells (Qy [ow.map u8, pu.map u8]) 39 (0, 0)), (b3, .cells (cl u8 ro) 23 (0, 0))]) := m16
 obtain ⟨RM17, hRM17⟩ : ∃ R2, R2 = Rest.add (Qs w0) [(b5, .cells (cl u8 ot) 23 (0, 0)), (b4, .cells (Qy [ow.map u8, pu.map u8]) 39 (0, 0)), (b3, .cells (cl u8 ro) 23 (0, 0))] := ⟨_, rfl⟩
 have M170 : Mem w16 RM17 [(b6, .cells (Qy (sE (aA 32 0) ow ot true false (aA 32 0) (aA 32 0) 0 0 0 J3)) 26 (0, 0))] := by rw [hRM17]; exact dI hFM17
 have ho18 : RM17.blk b5 = some (.cells (cl u8 ot) 23 (0, 0)) := by rw [hRM17]; exact ae hFM17 (aU _)
 have ho19 : RM17.blk b4 = some (.cells (Qy [ow.map u8, pu.map u8]) 39 (0, 0)) := by rw [hRM17]; exact ae hFM17 (aH _ (aU _))
 have ho20 : RM17.blk b3 = some (.cells (cl u8 ro) 23 (0, 0)) := by rw [hRM17]; exact ae hFM17 (aH _ (aH _ (aU _)))
 have hT21 : Tabs RM17.blk := by rw [hRM17]; exact Tabs.mono hT fun b o e => bV hFM17 e
 refine Dk M170 [(0, false), (1, false), (2, false), (3, false), (4, false), (5, false), (6, false), (7, false), (8, false), (9, true)] 10 rfl Xv <| yqH rfl (fun w _H _hx => Qn Xn rfl Zh rfl (_hx.rest _ _ ho20) Ph) <| yqH rfl (fun w _H _hx => Ky Qjc Qil rfl (_hx.rest _ _ ho19)) <| yqH rfl (fun w _H _hx => Qn Xn rfl Zh rfl (_hx.rest _ _ ho18) Ph) <| dk_x rfl rfl (fun w22 _Hw22 _hw22 => oc41 (Xl rfl rfl) (Qup _ _ _ _ sL sL sL)) <| dk_x (v := (ak #[(agg u8 (X8 ro (Zu ow ot))), (agg u8 (Y7 ro (Zu ow ot)))])) rfl rfl (fun w25 _Hw25 _hw25 => oc40 (Xl rfl rfl) (Qkl _ _ _ (hT21.mono fun b o e => (_hw25).rest b o e) sL sL)) <| N8 rfl (Jb rfl) <| N8 (v := (agg u8 (X8 ro (Zu ow ot)))) rfl (Zr rfl rfl) <| N8 (v := (agg u8 (Y7 ro (Zu ow ot)))) rfl (Zr rfl rfl) <| N8 rfl (Zl (r := 0) Yc rfl Jj Zh rfl rfl) ?_
 refine Qhn rfl (fun w28 e28 => ?_)
 have m28 := M170.ext e28
 refine Vf.mono (Ue 0 (sE (X8 ro (Zu ow ot)) ow ot true false (aA 32 0) (aA 32 0) 0 0 0 J3) Qr Zh rfl rfl m28.h0 rfl) ?_
 rintro _ w29 uq29
 have m29 := m28.upd0 uq29
 refine ⟨⟨_, m29⟩, ?_⟩
 refine Gf m29 fun w30 m30 => ?_
 have hX31 := m30
 rw [hRM17] at hX31
 have m32 : Mem w30 (Qs w0) [(b6, .cells (Qy (sE (X8 ro (Zu ow ot)) ow ot true false (aA 32 0) (aA 32 0) 0 0 0 J3)) 26 (0, 0)), (b5, .cells (cl u8 ot) 23 (0, 0)), (b4, .cells (Qy [ow.map u8, pu.map u8]) 39 (0, 0)), (b3, .cells (cl u8 ro) 23 (0, 0))] := ymA (dJ hFM17 hX31)
 refine Qd (Zl (r := 98) Yc rfl Jj Zh rfl rfl) <| Ye m32 (Ue 5 (sE (X8 ro (Zu ow ot)) ow ot true false (Y7 ro (Zu ow ot)) (aA 32 0) 0 0 0 J3) Qr Zh rfl rfl m32.h0 rfl) fun w33 m33 => ?_
 refine rN (sR ?_)
 refine Qd (Ky Yc J5 rfl m33.h0) <| Ye m33 (Ko J5 rfl rfl m33.h0 (Ur rfl)) fun w34 m34 => ?_
 refine rN (Z8 ?_)
 refine Qq [(aO (Qy (sE (X8 ro (Zu ow ot)) ow ot true false (Y7 ro (Zu ow ot)) (aA 32 0) 0 0 0 J3)))] ⟨⟨_, rfl, Jq Yc J5 m34.h0⟩, trivial⟩ ?_
 exact ⟨rfl, m34.toExt⟩
set_option maxHeartbeats 2000000 in
theorem Qrl (ro ow pu : Z4) (w0 : World)  (hro : ro.length = 32) (how : ow.length = 32) (hpu : pu.length = 32) : Xz prog 18 #[(agg u8 ro), (aO (Qy [ow.map u8, pu.map u8]))] w0 (fun r w1 => r = (aO (Qy (sE ro ow (aA 32 0) false false (aA 32 0) (aA 32 0) 0 0 0 J3))) ∧ Ext w0 w1) := by
 refine Qz (args := [(agg u8 ro), (aO (Qy [ow.map u8, pu.map u8]))]) func18 rfl ntmps18 results18 rfl ?_
 have m0 : Mem w0 (Qs w0) [] := aY w0
 refine sR <| Y5 (Z5 (f := u8) (l := ro) m0 rfl) fun w1 b2 m1 => Y5 (Fz (cs := (Qy [ow.map u8, pu.map u8])) m1 rfl) fun w2 b3 m2 => Y5 (Ju m2 J5) fun w3 b4 m3 => ?_
 refine rN (sR ?_)
 refine Qd (Qn Xn rfl Zh rfl m3.h2 Ph) <| Qd (Zl (r := 0) Qjc rfl Jj Zh rfl rfl) <| Qd (Jn 0 Xn Zh rfl m3.h1 rfl) <| Qd (Ws (c := (Qy (sE ro ow (aA 32 0) false false (aA 32 0) (aA 32 0) 0 0 0 J3))) (pl := [(0, 32), (32, 32), (64, 32), (96, 1), (97, 1), (98, 32), (130, 32), (162, 1), (163, 1), (164, 1), (165, 1)]) J5 Yc Xv (Jp (i := 0) (v := (agg u8 ro)) (cs := (cl u8 ro)) rfl rfl (Jp (i := 1) (v := (agg u8 ow)) (cs := (cl u8 ow)) rfl rfl Vt)) (Vx (L := (sE (aA 32 0) (aA 32 0) (aA 32 0) false false (aA 32 0) (aA 32 0) 0 0 0 J3)) 0 (sE ro (aA 32 0) (aA 32 0) false false (aA 32 0) (aA 32 0) 0 0 0 J3) rfl (Gg u8 _).symm rfl (Vx 1 (sE ro ow (aA 32 0) false false (aA 32 0) (aA 32 0) 0 0 0 J3) rfl (Gg u8 _).symm rfl Bg))) <| Ye m3 (Ko J5 rfl rfl m3.h0 (Ur rfl)) fun w4 m4 => ?_
 refine rN (Z8 ?_)
 refine Qq [(aO (Qy (sE ro ow (aA 32 0) false false (aA 32 0) (aA 32 0) 0 0 0 J3)))] ⟨⟨_, rfl, Jq Yc J5 m4.h0⟩, trivial⟩ ?_
 exact ⟨rfl, m4.toExt⟩
set_option maxHeartbeats 2000000 in
theorem Qrs (ra wa oa : Z4) (sb tb : Bool) (sa ta : Z4) (n1 n2 n3 : Int) (vk : Value) (ks : List Kp) (vb : Value) (lb : Z4) (vp : Value) (lp : Z4) (w0 : World)  (hl : ra.length = 32 ∧ wa.length = 32 ∧ oa.length = 32 ∧ sa.length = 32 ∧ ta.length = 32) (hk : RdK (Jd w0) Jl 65 vk ks) (hn : ks.length ≤ 1048576) (hrb : Rd (Jd w0) u8 vb lb) (hlb : lb.length ≤ 90000) (hrp : Rd (Jd w0) u8 vp lp) (hlp : lp.length ≤ 90000) (hn1 : 0 ≤ n1 ∧ n1 ≤ 2147483647) (hn3 : 0 ≤ n3 ∧ n3 ≤ 2147483647) (hsb : sb = false) : Xz prog 12 #[(aO (Qy (sE ra wa oa sb tb sa ta n1 n2 n3 vk))), vb, vp] w0 (fun r w1 => r = (ak #[(aO (Qy (sE ra wa oa sb tb sa ta n1 n2 n3 vk))), J3, (i64 13)]) ∧ Ext w0 w1) := by
 refine Qz (args := [(aO (Qy (sE ra wa oa sb tb sa ta n1 n2 n3 vk))), vb, vp]) func12 rfl ntmps12 results12 rfl ?_
 have m0 : Mem w0 (Qs w0) [] := aY w0
 obtain ⟨hl1, hl2, hl3, hl4, hl5⟩ := hl
 have hnsb : (!sb) = true := by rw [hsb]; rfl
 refine sR <| Y5 (Fz (cs := (Qy (sE ra wa oa sb tb sa ta n1 n2 n3 vk))) m0 rfl) fun w1 b3 m1 => Y5 (Ju m1 J5) fun w2 b6 m2 => Zx J3 <| Zx (i64 0) ?_
 refine rN (Qa (Qh (sR ?_)))
 refine Qd (Zl (r := 96) Yc rfl Jj ti4 rfl rfl) <| Qd (Y2 3 uT4 rfl m2.h1 rfl) <| Qd (Ag rfl) <| Zx (bl (!sb)) <| rN <| Za rfl hnsb <| sR <| Qd (Ky Yc J5 rfl m2.h1) <| Ye m2 (Ko J5 rfl rfl m2.h0 (Ur (eU (af hk m2)))) fun w3 m3 => Zx J3 <| Zx (i64 13) ?_
 refine rN (Z8 ?_)
 refine H6 <| Qq [(aO (Qy (sE ra wa oa sb tb sa ta n1 n2 n3 vk))), J3, (i64 13)] ⟨⟨_, rfl, Jq Yc J5 m3.h0⟩, rfl, rfl, trivial⟩ ?_
 exact ⟨rfl, m3.toExt⟩
set_option maxHeartbeats 2000000 in
theorem Qrt (ra wa oa : Z4) (sb tb : Bool) (sa ta : Z4) (n1 n2 n3 : Int) (vk : Value) (ks : List Kp) (vb : Value) (lb : Z4) (vp : Value) (lp : Z4) (w0 : World)  (hl : ra.length = 32 ∧ wa.length = 32 ∧ oa.length = 32 ∧ sa.length = 32 ∧ ta.length = 32) (hk : RdK (Jd w0) Jl 65 vk ks) (hn : ks.length ≤ 1048576) (hrb : Rd (Jd w0) u8 vb lb) (hlb : lb.length ≤ 90000) (hrp : Rd (Jd w0) u8 vp lp) (hlp : lp.length ≤ 90000) (hn1 : 0 ≤ n1 ∧ n1 ≤ 2147483647) (hn3 : 0 ≤ n3 ∧ n3 ≤ 2147483647) (hsb : sb = true) (hmost : n1 = 2147483647) : Xz prog 12 #[(aO (Qy (sE ra wa oa sb tb sa ta n1 n2 n3 vk))), vb, vp] w0 (fun r w1 => r = (ak #[(aO (Qy (sE ra wa oa sb tb sa ta n1 n2 n3 vk))), J3, (i64 12)]) ∧ Ext w0 w1) := by
 refine Qz (args := [(aO (Qy (sE ra wa oa sb tb sa ta n1 n2 n3 vk))), vb, vp]) func12 rfl ntmps12 results12 rfl ?_
 have m0 : Mem w0 (Qs w0) [] := aY w0
 obtain ⟨hl1, hl2, hl3, hl4, hl5⟩ := hl
 have hnsb : (!sb) = false := by rw [hsb]; rfl
 refine sR <| Y5 (Fz (cs := (Qy (sE ra wa oa sb tb sa ta n1 n2 n3 vk))) m0 rfl) fun w1 b3 m1 => Y5 (Ju m1 J5) fun w2 b6 m2 => Zx J3 <| Zx (i64 0) ?_
 refine rN (Qa (Qh (sR ?_)))
 refine Qd (Zl (r := 96) Yc rfl Jj ti4 rfl rfl) <| Qd (Y2 3 uT4 rfl m2.h1 rfl) <| Qd (Ag rfl) <| Zx (bl (!sb)) <| rN <| Ja rfl hnsb <| sR <| Qd (Zl (r := 162) Yc rfl Jj Uw rfl rfl) <| Qd (Y2 7 Fa rfl m2.h1 rfl) <| Qd (Ey (b := 2147483647) rfl rfl) <| Zx (bl (decide (2147483647 ≤ n1))) <| rN ?_
 have hd3 : (decide (2147483647 ≤ n1)) = true := decide_eq_true oM
 refine Za rfl hd3 <| sR <| Qd (Ky Yc J5 rfl m2.h1) <| Ye m2 (Ko J5 rfl rfl m2.h0 (Ur (eU (af hk m2)))) fun w4 m4 => Zx J3 <| Zx (i64 12) ?_
 refine rN (Z8 ?_)
 refine H6 <| Qq [(aO (Qy (sE ra wa oa sb tb sa ta n1 n2 n3 vk))), J3, (i64 12)] ⟨⟨_, rfl, Jq Yc J5 m4.h0⟩, rfl, rfl, trivial⟩ ?_
 exact ⟨rfl, m4.toExt⟩
set_option maxHeartbeats 2000000 in
theorem c_enc19 (ra wa oa : Z4) (sb tb : Bool) (sa ta : Z4) (n1 n2 n3 : Int) (vk : Value) (ks : List Kp) (vb : Value) (lb : Z4) (vp : Value) (lp : Z4) (w0 : World)  (hT : Tabs (Jd w0)) (hl : ra.length = 32 ∧ wa.length = 32 ∧ oa.length = 32 ∧ sa.length = 32 ∧ ta.length = 32) (hk : RdK (Jd w0) Jl 65 vk ks) (hn : ks.length ≤ 1048576) (hrb : Rd (Jd w0) u8 vb lb) (hlb : lb.length ≤ 90000) (hrp : Rd (Jd w0) u8 vp lp) (hlp : lp.length ≤ 90000) (hn1 : 0 ≤ n1 ∧ n1 ≤ 2147483647) (hn3 : 0 ≤ n3 ∧ n3 ≤ 2147483647) (hsb : sb = true) (hless : n1 < 2147483647) : Xz prog 12 #[(aO (Qy (sE ra wa oa sb tb sa ta n1 n2 n3 vk))), vb, vp] w0 (fun r w1 => ∃ vk2 Hk2 vc Hc, r = ak #[(aO (Qy (sE ra wa oa sb tb (Xc sa [2#8]) ta (n1 + 1) n2 n3 vk2))), vc, i64 0] ∧ Yu Jl 65 69 vk2 ks Hk2 ∧ Z9 u8 5 vc (Ba wa sa n3 n1 lb lp) Hc ∧ Mem w1 (Qs w0) (Hk2 ++ Hc)) := by
 refine Qz (args := [(aO (Qy (sE ra wa oa sb tb sa ta n1 n2 n3 vk))), vb, vp]) func12 rfl ntmps12 results12 rfl ?_
 have m0 : Mem w0 (Qs w0) [] := aY w0
 obtain ⟨hl1, hl2, hl3, hl4, hl5⟩ := hl
 have hnsb : (!sb) = false := by rw [hsb]; rfl
 have hhl := Qhh (p := n3) (n := n1) (Gz wa Yy)
 have hc1 : (Xc sa [1#8]).length = 32 := V6 _ _
 have hc2 : (Xc sa [2#8]).length = 32 := V6 _ _
 have hml := Gz wa Yy
 have hcl := Rk (key := Xc sa [1#8]) (nz := aA 12 0) (beside := lb ++ Gv (Zu wa Yy) n3 n1) (plain := lp)
 refine sR <| Y5 (Fz (cs := (Qy (sE ra wa oa sb tb sa ta n1 n2 n3 vk))) m0 rfl) fun w1 b3 m1 => Y5 (Ju m1 J5) fun w2 b6 m2 => Zx J3 <| Zx (i64 0) ?_
 refine rN (Qa (Qh (sR ?_)))
 refine Qd (Zl (r := 96) Yc rfl Jj ti4 rfl rfl) <| Qd (Y2 3 uT4 rfl m2.h1 rfl) <| Qd (Ag rfl) <| Zx (bl (!sb)) <| rN <| Ja rfl hnsb <| sR <| Qd (Zl (r := 162) Yc rfl Jj Uw rfl rfl) <| Qd (Y2 7 Fa rfl m2.h1 rfl) <| Qd (Ey (b := 2147483647) rfl rfl) <| Zx (bl (decide (2147483647 ≤ n1))) <| rN ?_
 have hd3 : (decide (2147483647 ≤ n1)) = false := decide_eq_false oM
 refine Ja rfl hd3 ?_
 refine Qo (Qe (sR ?_))
 refine Qd (Ky Yc J5 rfl m2.h1) <| Ye m2 (Ko J5 rfl rfl m2.h0 (Ur (eU (af hk m2)))) fun w4 m4 => ?_
 refine rN (sR ?_)
 refine Qd (Zl (r := 165) Yc rfl Jj Ar rfl rfl) <| Qd (Y2 10 Gi rfl m4.h1 rfl) <| Vr (oc29 (Jz rfl) (Qpt vk ks _ (af hk m4) sL)) ?_
 rintro rq6 w5 ⟨Hsq6, grq6, k_w5⟩
 have m5 : Mem _ _ (Hsq6 ++ ([_, _])) := bY (H := [_, _]) (H' := Hsq6) m4 k_w5
 refine Qd (Zl (r := 165) Yc rfl Jj Ar rfl rfl) <| Vd (Ud 10 (sE ra wa oa sb tb sa ta n1 n2 n3 rq6) Ar rfl rfl grq6.one ((aC Hsq6 [_] _ m5)).h0 rfl rfl) ?_
 rintro _ w7 uq7
 have m7 : Mem _ _ ([_] ++ (Hsq6 ++ ([_]))) := bM (aC Hsq6 [_] _ m5) uq7
 refine rN (Qa ?_)
 refine Xi (dl 7) 7 Xv <| X4 rfl (Zl (r := 32) Yc rfl Jj Zh rfl rfl) <| Yj rfl (fun _ e' => Jn 1 Xn Zh rfl ((aN [_] Hsq6 [_] _ (m7.ext e'))).h0 rfl) <| Wy rfl rfl (fun w8 e8 => oc31 (Jz rfl) (Qmb _ _ sL)) <| X4 rfl (Zl (r := 164) Yc rfl Jj Uw rfl rfl) <| Yj rfl (fun _ e' => Y2 9 Fa rfl ((aN [_] Hsq6 [_] _ (m7.ext e'))).h0 rfl) <| X4 rfl (Zl (r := 162) Yc rfl Jj Uw rfl rfl) <| Yj rfl (fun _ e' => Y2 7 Fa rfl ((aN [_] Hsq6 [_] _ (m7.ext e'))).h0 rfl) <| Gf m7 fun w11 m11 => Qd (Ws (c := (Qy (sH (Zu wa Yy) n3 n1))) (pl := [(0, 32), (32, 1), (33, 1)]) Aq F8 Xv (Jp (i := 0) (v := (agg u8 (Zu wa Yy))) (cs := (cl u8 (Zu wa Yy))) rfl rfl (Jp (i := 1) (v := (i64 n3)) (cs := #[(i64 n3)]) rfl rfl (Jp (i := 2) (v := (i64 n1)) (cs := #[(i64 n1)]) rfl rfl Vt))) (Vx (L := (sH (aA 32 0) 0 0)) 0 (sH (Zu wa Yy) 0 0) rfl (Gg u8 _).symm rfl (Vx 1 (sH (Zu wa Yy) n3 0) rfl rfl rfl (Vx 2 (sH (Zu wa Yy) n3 n1) rfl rfl rfl Bg)))) <| Vr (oc30 (Jz rfl) (c_header _ _ _ _ sL sL sL)) ?_
 rintro rq13 w12 ⟨Hsq13, grq13, k_w12⟩
 have m12 : Mem _ _ (Hsq13 ++ ([_] ++ (Hsq6 ++ ([_])))) := bY (H := [_] ++ (Hsq6 ++ ([_]))) (H' := Hsq13) m11 k_w12
 refine Zx rq13 ?_
 refine rN (sR ?_)
 refine Y5 (Q7 m12 Zh) fun w14 b10 m14 => ?_
 refine rN (sR ?_)
 refine Qd (Zl (r := 98) Yc rfl Jj Zh rfl rfl) <| Qd (Jn 5 Xn Zh rfl ((Mem.pick4 [_] Hsq13 [_] Hsq6 [_] _ m14)).h0 rfl) <| U5 m14 (oc32 (Jz rfl) (Qrj _ _ (hT.mono fun b o e => (m14).rest b o e) sL)) fun w15 m15 => Zm (ak #[(agg u8 (Xc sa [2#8])), (agg u8 (Xc sa [1#8]))]) <| Qd (v := (agg u8 (Xc sa [2#8]))) (Zr rfl rfl) <| Qd (v := (agg u8 (Xc sa [1#8]))) (Zr rfl rfl) <| Qd (Zl (r := 98) Yc rfl Jj Zh rfl rfl) <| Vd (Ue 5 (sE ra wa oa sb tb (Xc sa [2#8]) ta n1 n2 n3 rq6) Qr Zh rfl rfl ((aN [_] Hsq13 [_] _ m15)).h0 rfl) ?_
 rintro _ w17 uq17
 have m17 : Mem _ _ ([_, _] ++ (Hsq13 ++ (Hsq6 ++ ([_])))) := bM (aN [_] Hsq13 [_] _ m15) uq17
 refine Vs m17 (Qg (f := u8) (l := Xc sa [1#8]) Qr Zh rfl rfl sL m17.h1 Ph rfl) fun w18 m18 => ?_
 refine rN (sR ?_)
 refine Qd (Zl (r := 162) Yc rfl Jj Uw rfl rfl) <| Qd (Y2 7 Fa rfl m18.h0 rfl) <| Qd (Zg (b := 1) rfl rfl oM oM) <| Qd (Zl (r := 162) Yc rfl Jj Uw rfl rfl) <| Ye m18 (Ud 7 (sE ra wa oa sb tb (Xc sa [2#8]) ta (n1 + 1) n2 n3 rq6) Uw rfl rfl (Zw _) m18.h0 rfl rfl) fun w19 m19 => ?_
 refine rN (Qa ?_)
 refine Jy Xv ?_
 have m20 := (ai [_, _] Hsq13 Hsq6 [_] _ m19)
 have m21 := (aN [_, _, _] Hsq13 Hsq6 _ m20)
 have m22 := (aN Hsq6 [_, _] [_] _ m21)
 have m23 := (ai [_] Hsq6 [_] [_] _ m22)
 have m24 := (ai [_, _] Hsq6 [_] Hsq13 _ m23)
 have hFM25 : Mem w19 (Qs w0) ((Hsq13 ++ ([])) ++ ([(b6, .cells (Qy (sE ra wa oa sb tb (Xc sa [2#8]) ta (n1 + 1) n2 n3 rq6)) 26 (0, 0)), (b10, .cells (cl u8 (Xc sa [1#8])) 23 (0, 0))] ++ (Hsq6 ++ ([(b3, .cells (Qy (sE ra wa oa sb tb sa ta n1 n2 n3 vk)) 26 (0, 0))])))) := ymA m24
 obtain ⟨RM25, hRM25⟩ : ∃ R2, R2 = Rest.add (Qs w0) ([(b6, .cells (Qy (sE ra wa oa sb tb (Xc sa [2#8]) ta (n1 + 1) n2 n3 rq6)) 26 (0, 0)), (b10, .cells (cl u8 (Xc sa [1#8])) 23 (0, 0))] ++ (Hsq6 ++ ([(b3, .cells (Qy (sE ra wa oa sb tb sa ta n1 n2 n3 vk)) 26 (0, 0))]))) := ⟨_, rfl⟩
 have M250 : Mem w19 RM25 (Hsq13 ++ ([])) := by rw [hRM25]; exact dI hFM25
 have hr26 : Rd RM25.blk u8 vb lb := by rw [hRM25]; exact Rd.mono hrb fun b o e => bV hFM25 e
 have hr27 : Rd RM25.blk u8 vp lp := by rw [hRM25]; exact Rd.mono hrp fun b o e => bV hFM25 e
 have hr28 : RdK RM25.blk Jl 65 vk ks := by rw [hRM25]; exact RdK.mono hk fun b o e => bV hFM25 e
 have hg29 : RdK RM25.blk Jl 65 rq6 ks := grq6.rdIn (fun p hp => by rw [hRM25]; exact ae hFM25 (aG _ (aS _ hp)))
 have ho30 : RM25.blk b6 = some (.cells (Qy (sE ra wa oa sb tb (Xc sa [2#8]) ta (n1 + 1) n2 n3 rq6)) 26 (0, 0)) := by rw [hRM25]; exact ae hFM25 (aS _ (aU _))
 have ho31 : RM25.blk b10 = some (.cells (cl u8 (Xc sa [1#8])) 23 (0, 0)) := by rw [hRM25]; exact ae hFM25 (aS _ (aH _ (aU _)))
 have ho32 : RM25.blk b3 = some (.cells (Qy (sE ra wa oa sb tb sa ta n1 n2 n3 vk)) 26 (0, 0)) := by rw [hRM25]; exact ae hFM25 (aG _ (aG _ (aU _)))
 have hT33 : Tabs RM25.blk := by rw [hRM25]; exact Tabs.mono hT fun b o e => bV hFM25 e
 refine Dk M250 [(0, false), (1, false), (2, false), (3, false), (4, false), (6, false), (8, false), (5, true), (7, true), (9, true), (10, true)] 11 rfl Xv <| yqH rfl (fun w _H _hx => Ky Yc J5 rfl (_hx.rest _ _ ho30)) <| N8 rfl (Jb (v := rq13) rfl) <| yqH rfl (fun w _H _hx => Qn Xn rfl Zh rfl (_hx.rest _ _ ho31) Ph) <| N8 rfl (Ve (ps := []) (c := (cl u8 (aA 12 0))) Qba Pm Yr Ya rfl) <| N8 rfl (Jb (v := vb) rfl) <| N8 rfl (Jb (v := rq13) rfl) <| N8 rfl (Jb (v := vp) rfl) ?_
 refine Qfb rfl rfl (fun w34 e34 => ?_)
 have m34 := M250.ext e34
 refine Vf.mono (oc34 (Jz rfl) (Qco vb lb _ (Rd.ofRest hr26 m34) sL)) ?_
 rintro rq36 w35 ⟨Hsq36, grq36, k_w35⟩
 have m35 : Mem _ _ (Hsq36 ++ (Hsq13 ++ ([]))) := bY (H := Hsq13 ++ ([])) (H' := Hsq36) m34 k_w35
 refine ⟨⟨_, m35⟩, ?_⟩
 refine Qfb rfl rfl (fun w37 e37 => ?_)
 have m37 := m35.ext e37
 refine Vf.mono (Xh (f := u8) (Hs := Hsq36) (H := Hsq13 ++ ([])) m37 grq36 rfl rfl (grq13.rd (aC Hsq36 Hsq13 _ m37)) Zn Zn Yr rfl Qr sL sL) ?_
 rintro sv38 w38 ⟨Hs38, m38, g38⟩
 replace g38 : Z9 u8 5 sv38 (lb ++ (Gv (Zu wa Yy) n3 n1)) Hs38 := g38
 refine ⟨⟨_, m38⟩, ?_⟩
 refine Qfb rfl rfl (fun w39 e39 => ?_)
 have m39 := m38.ext e39
 refine Vf.mono (oc33 (Ry rfl rfl rfl rfl) (c_seal _ _ sv38 (lb ++ (Gv (Zu wa Yy) n3 n1)) vp lp _ (hT33.mono fun b o e => (m39).rest b o e) sL sL (g38.rd m39) sL (Rd.ofRest hr27 m39) sL)) ?_
 rintro rxq41 w40 ⟨Hsq41, grxq41, k_w40⟩
 have m40 : Mem _ _ (Hsq41 ++ (Hs38 ++ (Hsq13 ++ ([])))) := bY (H := Hs38 ++ (Hsq13 ++ ([]))) (H' := Hsq41) m39 k_w40
 refine ⟨⟨_, m40⟩, ?_⟩
 refine Qfb rfl rfl (fun w42 e42 => ?_)
 have m42 := m40.ext e42
 refine Vf.mono (Xh (f := u8) (Hs := Hsq13) (H := Hsq41 ++ (Hs38 ++ ([]))) (aN Hsq41 Hs38 Hsq13 _ m42) grq13 rfl rfl (grxq41.rd m42) Zn Zn Yr rfl Qr sL sL) ?_
 rintro sv43 w43 ⟨Hs43, m43, g43⟩
 replace g43 : Z9 u8 5 sv43 ((Gv (Zu wa Yy) n3 n1) ++ (Gn (Xc sa [1#8]) (aA 12 0) (lb ++ (Gv (Zu wa Yy) n3 n1)) lp)) Hs43 := g43
 refine ⟨⟨_, m43⟩, ?_⟩
 refine Gf m43 fun w44 m44 => ?_
 have hX45 := m44
 rw [hRM25] at hX45
 have m46 : Mem w44 (Qs w0) (Hs43 ++ (Hsq41 ++ (Hs38 ++ ([(b6, .cells (Qy (sE ra wa oa sb tb (Xc sa [2#8]) ta (n1 + 1) n2 n3 rq6)) 26 (0, 0)), (b10, .cells (cl u8 (Xc sa [1#8])) 23 (0, 0))] ++ (Hsq6 ++ ([(b3, .cells (Qy (sE ra wa oa sb tb sa ta n1 n2 n3 vk)) 26 (0, 0))])))))) := ymA (dJ hFM25 hX45)
 refine Vd (Ko J5 rfl rfl ((ai Hs43 Hsq41 Hs38 [_] _ m46)).h0 (Ur grq6.one)) ?_
 rintro _ w47 uq47
 have m47 : Mem _ _ ([_] ++ (Hs43 ++ (Hsq41 ++ (Hs38 ++ ([_] ++ (Hsq6 ++ ([_]))))))) := bM (ai Hs43 Hsq41 Hs38 [_] _ m46) uq47
 refine Zx sv43 <| Zx (i64 0) <| rN ?_
 have m48 := aF Hsq41 _ (aN [_] Hs43 Hsq41 _ m47)
 have m49 := aF Hs38 _ (aN [_] Hs43 Hs38 _ m48)
 refine Z8 <| Qq [(aO (Qy (sE ra wa oa sb tb (Xc sa [2#8]) ta (n1 + 1) n2 n3 rq6))), sv43, (i64 0)] ⟨⟨_, rfl, Jq Yc J5 m49.h0⟩, rfl, rfl, trivial⟩ ?_
 have m50 := aF [_] _ m49
 have m51 := aF [_] _ (aC Hs43 [_] _ m50)
 have m52 := aF [_] _ (aN Hs43 Hsq6 [_] _ m51)
 have m53 := (aC Hs43 Hsq6 _ m52)
 exact ⟨rq6, Hsq6, sv43, Hs43, rfl, grq6, Z9.cast g43 (by unfold Ba; simp only [aQ]), (by
  have hT := m53
  try simp only [aQ, List.cons_append, List.nil_append, List.append_nil] at hT ⊢
  exact hT)⟩
end Go.Proofs.YtkmiemlpfkfiiaaDoor
