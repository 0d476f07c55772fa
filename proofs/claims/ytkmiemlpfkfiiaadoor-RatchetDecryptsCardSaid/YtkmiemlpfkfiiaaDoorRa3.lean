/- The ratchet: roots, sessions begun, what is enciphered. Conditions: none beyond those that each theorem states. -/
import Derived.Test.YtkmiemlpfkfiiaaDoorRa2
namespace Go.Proofs.YtkmiemlpfkfiiaaDoor
open Tryd
set_option linter.unusedVariables false
set_option linter.unusedSimpArgs false
def Dh (root sh : Z8) : List Z8 := Wh root sh (J5 ⟨#[114, 97, 116, 99, 104, 101, 116]⟩) 2
def Yc (root sh : Z8) : Z8 := (Dh root sh).getD 0 []
def Jf (root sh : Z8) : Z8 := (Dh root sh).getD 1 []
theorem Qip (root sh : Z8) : Dh root sh = Dp 2 (Vb (Kz root sh) (J5 ⟨#[114, 97, 116, 99, 104, 101, 116]⟩) 64) := Qb3 Jb Jb
theorem Qku (root sh : Z8) : (Dh root sh).length = 2 := by rw [Qip]; exact Qdp _ _
theorem Dt (root sh : Z8) : (Yc root sh).length = 32 := by unfold Yc; rw [Qip]; exact Qd4 Jb (by rw [Dy])
theorem Eh (root sh : Z8) : (Jf root sh).length = 32 := by unfold Jf; rw [Qip]; exact Qd4 Jb (by rw [Dy])
def Qaz (own chain : Z8) (p n : Int) (beside plain : Z8) : Z8 :=
 Lc (Xr own V5) p n ++ Ef (Xj chain [1#8]) (List.replicate 12 0) (beside ++ Lc (Xr own V5) p n) plain
attribute [local irreducible] Dh Yc Jf Qaz Wh Vb Kz Xj Lc Qee Ef Xr V5
set_option maxHeartbeats 2000000 in
theorem Qjz (ro sh : Z8) (w0 : World)  (hT : Tabs (Y8 w0)) (hro : ro.length = 32) (hsh : sh.length = 32) : X0 prog 40 #[(agg u8 ro), (agg u8 sh)] w0 (fun r w1 => r = (Value.tuple #[(agg u8 (Yc ro sh)), (agg u8 (Jf ro sh))]) ∧ Ext w0 w1) := by
 refine Qy (args := [(agg u8 ro), (agg u8 sh)]) func40 rfl ntmps40 results40 rfl ?_
 have m0 : Mem w0 (Qr w0) [] := Mem.of_world w0
 have htl := Qku ro sh
 have ht0 := Dt ro sh
 have ht1 := Eh ro sh
 unfold Yc at ht0; unfold Jf at ht1
 unfold Dh at htl ht0 ht1
 refine sR <| Y9 (Xc (f := u8) (l := ro) m0 rfl) fun w1 b2 m1 => Y9 (Xc (f := u8) (l := sh) m1 rfl) fun w2 b3 m2 => Y9 (Q7 m2 Zg) fun w3 b4 m3 => Y9 (Q7 m3 Zg) fun w4 b5 m4 => ?_
 refine rN (Qa ?_)
 refine Xg [(0, false), (1, false), (2, true), (3, false), (4, false), (5, false), (6, false)] 7 Xo <| X6 rfl (Xk (i := 0) (j := 32) Xl Yw rfl (Zd _ _) (Zd _ _) oM sL sL) <| X6 rfl (Xk (i := 0) (j := 32) Xl Yw rfl (Zd _ _) (Zd _ _) oM sL sL) ?_
 refine Bi rfl rfl (fun w5 e5 => ?_)
 have m5 := m4.ext e5
 refine Wu.mono (oc73 (Tm rfl rfl rfl rfl) (c_keys (sla b2 0 1 0 32 32) ro (sla b3 0 1 0 32 32) sh (⟨#[114, 97, 116, 99, 104, 101, 116]⟩) _ _ (hT.mono fun b o e => (m5).rest b o e) (Rd.slaAll m5.h3 sL) sL (Rd.slaAll m5.h2 sL) sL sL sL)) ?_
 rintro _ w6 ⟨vxq7, Hsq7, rfl, gvxq7, k_w6⟩
 refine ⟨k_w6.toExt, ?_⟩
 have m6 : Mem _ _ (Hsq7 ++ ([_, _, _, _])) := Mem.new (H := [_, _, _, _]) (H' := Hsq7) m5 k_w6
 refine J8 rfl (Value.tuple #[vxq7, (i64 (Qf5 (2 : Int)))]) <| X6 (v := vxq7) rfl (Zr rfl rfl) <| X6 (v := (i64 (Qf5 (2 : Int)))) rfl (Zr rfl rfl) <| X6 rfl (Ud (v := vxq7) rfl) <| Gf m6 fun w8 m8 => Zx (i64 (Qf5 (2 : Int))) ?_
 refine rN (Qa ?_)
 refine J4 Xo ?_
 have m9 := (Mem.pick2 Hsq7 [_, _, _] [_] _ m8)
 have m10 := (Mem.pick3 [_] Hsq7 [_, _] [_] _ m9)
 have m11 := (Mem.pick2 [_, _] Hsq7 [_] _ m10)
 have m12 := (Mem.pick [_, _, _] Hsq7 _ m11)
 have m13 := (Mem.pick2 Hsq7 [_, _, _] [_] _ m12)
 have hFM14 : Mem w8 (Qr w0) ([(b4, .cells (cl u8 (List.replicate 32 0)) 23 (0, 0))] ++ (Hsq7 ++ ([(b5, .cells (cl u8 (List.replicate 32 0)) 23 (0, 0)), (b3, .cells (cl u8 sh) 23 (0, 0)), (b2, .cells (cl u8 ro) 23 (0, 0))]))) := m13
 obtain ⟨RM14, hRM14⟩ : ∃ R2, R2 = Rest.add (Qr w0) (Hsq7 ++ ([(b5, .cells (cl u8 (List.replicate 32 0)) 23 (0, 0)), (b3, .cells (cl u8 sh) 23 (0, 0)), (b2, .cells (cl u8 ro) 23 (0, 0))])) := ⟨_, rfl⟩
 have M140 : Mem w8 RM14 [(b4, .cells (cl u8 (List.replicate 32 0)) 23 (0, 0))] := by rw [hRM14]; exact Mem.give hFM14
 have hg15 : RdK RM14.blk (Eb u8) 32 vxq7 (Wh ro sh (J5 (⟨#[114, 97, 116, 99, 104, 101, 116]⟩)) (2 : Int)) := gvxq7.rdIn (fun p hp => by rw [hRM14]; exact Mem.addOwn hFM14 (List.mem_append_left _ hp))
 have ho16 : RM14.blk b5 = some (.cells (cl u8 (List.replicate 32 0)) 23 (0, 0)) := by rw [hRM14]; exact Mem.addOwn hFM14 (List.mem_append_right _ (List.Mem.head _))
 have ho17 : RM14.blk b3 = some (.cells (cl u8 sh) 23 (0, 0)) := by rw [hRM14]; exact Mem.addOwn hFM14 (List.mem_append_right _ (List.Mem.tail _ (List.Mem.head _)))
 have ho18 : RM14.blk b2 = some (.cells (cl u8 ro) 23 (0, 0)) := by rw [hRM14]; exact Mem.addOwn hFM14 (List.mem_append_right _ (List.Mem.tail _ (List.Mem.tail _ (List.Mem.head _))))
 have hT19 : Tabs RM14.blk := by rw [hRM14]; exact Tabs.mono hT fun b o e => Mem.addRest hFM14 e
 refine Dv M140 [(0, false), (1, false), (2, false), (3, false), (4, false), (5, false), (6, true)] 7 rfl Xo <| Ns rfl (Yh (v := vxq7) rfl) <| yqH rfl (fun w _H _hx => Yn (i := 0) (RdK.ofRest hg15 _hx) Qc6 Zg rfl rfl oM sL) <| yqH (v := (agg u8 ((Wh ro sh (J5 (⟨#[114, 97, 116, 99, 104, 101, 116]⟩)) (2 : Int)).getD 0 []))) rfl (fun w _H _hx => Cf (i := (0 : Int)) (RdK.ofRest hg15 _hx) sL Xl Zg rfl rfl) <| Ns rfl (Yh (v := vxq7) rfl) <| yqH rfl (fun w _H _hx => Yn (i := 1) (RdK.ofRest hg15 _hx) Qc6 Zg rfl rfl oM sL) <| yqH (v := (agg u8 ((Wh ro sh (J5 (⟨#[114, 97, 116, 99, 104, 101, 116]⟩)) (2 : Int)).getD 1 []))) rfl (fun w _H _hx => Cf (i := (1 : Int)) (RdK.ofRest hg15 _hx) sL Xl Zg rfl rfl) ?_
 refine Qf8 rfl (fun w20 e20 => ?_)
 have m20 := M140.ext e20
 refine Wu.mono (Qg (f := u8) (l := (Wh ro sh (J5 (⟨#[114, 97, 116, 99, 104, 101, 116]⟩)) (2 : Int)).getD 0 []) Qs Zg rfl rfl sL m20.h0 Sv rfl) ?_
 rintro _ w21 uq21
 have m21 := m20.upd0 uq21
 refine ⟨⟨_, m21⟩, ?_⟩
 refine Gf m21 fun w22 m22 => ?_
 have hX23 := m22
 rw [hRM14] at hX23
 have m24 : Mem w22 (Qr w0) ([(b4, .cells (cl u8 ((Wh ro sh (J5 (⟨#[114, 97, 116, 99, 104, 101, 116]⟩)) (2 : Int)).getD 0 [])) 23 (0, 0))] ++ (Hsq7 ++ ([(b5, .cells (cl u8 (List.replicate 32 0)) 23 (0, 0)), (b3, .cells (cl u8 sh) 23 (0, 0)), (b2, .cells (cl u8 ro) 23 (0, 0))]))) := ymA (Mem.back hFM14 hX23)
 refine Vf (Qg (f := u8) (l := (Wh ro sh (J5 (⟨#[114, 97, 116, 99, 104, 101, 116]⟩)) (2 : Int)).getD 1 []) Qs Zg rfl rfl sL ((Mem.pick2 [_] Hsq7 [_] _ m24)).h0 Sv rfl) ?_
 rintro _ w25 uq25
 have m25 : Mem _ _ ([_, _] ++ (Hsq7 ++ ([_, _]))) := Mem.upd0 (Mem.pick2 [_] Hsq7 [_] _ m24) uq25
 refine rN (Zz ?_)
 refine Qp [(agg u8 ((Wh ro sh (J5 (⟨#[114, 97, 116, 99, 104, 101, 116]⟩)) (2 : Int)).getD 0 [])), (agg u8 ((Wh ro sh (J5 (⟨#[114, 97, 116, 99, 104, 101, 116]⟩)) (2 : Int)).getD 1 []))] ⟨⟨_, rfl, Xn Xl rfl Zg m25.h1 Sv⟩, ⟨_, rfl, Xn Xl rfl Zg m25.h0 Sv⟩, trivial⟩ ?_
 exact ⟨by unfold Yc Jf Dh; rfl, m25.toExt⟩
set_option maxHeartbeats 2000000 in
theorem Qsp (ro ow pu ot : Z8) (w0 : World)  (hT : Tabs (Y8 w0)) (hro : ro.length = 32) (how : ow.length = 32) (hpu : pu.length = 32) (hot : ot.length = 32) : X0 prog 16 #[(agg u8 ro), (Value.agg (Qz [ow.map u8, pu.map u8])), (agg u8 ot)] w0 (fun r w1 => r = (Value.agg (Qz (sE (Yc ro (Xr ow ot)) ow ot true false (Jf ro (Xr ow ot)) (List.replicate 32 0) 0 0 0 Wl))) ∧ Ext w0 w1) := by
 refine Qy (args := [(agg u8 ro), (Value.agg (Qz [ow.map u8, pu.map u8])), (agg u8 ot)]) func16 rfl ntmps16 results16 rfl ?_
 have m0 : Mem w0 (Qr w0) [] := Mem.of_world w0
 have ht0 := Dt ro (Xr ow ot)
 have ht1 := Eh ro (Xr ow ot)
 have hml := Ba ow ot
 refine sR <| Y9 (Xc (f := u8) (l := ro) m0 rfl) fun w1 b3 m1 => Y9 (Us (cs := (Qz [ow.map u8, pu.map u8])) m1 rfl) fun w2 b4 m2 => Y9 (Xc (f := u8) (l := ot) m2 rfl) fun w3 b5 m3 => Y9 (Jw m3 J6) fun w4 b6 m4 => ?_
 refine rN (Qa ?_)
 refine J4 Xo ?_
 have hFM5 : Mem w4 (Qr w0) ([(b6, .cells (Qz (sE (List.replicate 32 0) (List.replicate 32 0) (List.replicate 32 0) false false (List.replicate 32 0) (List.replicate 32 0) 0 0 0 Wl)) 26 (0, 0))] ++ [(b5, .cells (cl u8 ot) 23 (0, 0)), (b4, .cells (Qz [ow.map u8, pu.map u8]) 39 (0, 0)), (b3, .cells (cl u8 ro) 23 (0, 0))]) := m4
 obtain ⟨RM5, hRM5⟩ : ∃ R2, R2 = Rest.add (Qr w0) [(b5, .cells (cl u8 ot) 23 (0, 0)), (b4, .cells (Qz [ow.map u8, pu.map u8]) 39 (0, 0)), (b3, .cells (cl u8 ro) 23 (0, 0))] := ⟨_, rfl⟩
 have M50 : Mem w4 RM5 [(b6, .cells (Qz (sE (List.replicate 32 0) (List.replicate 32 0) (List.replicate 32 0) false false (List.replicate 32 0) (List.replicate 32 0) 0 0 0 Wl)) 26 (0, 0))] := by rw [hRM5]; exact Mem.give hFM5
 have ho6 : RM5.blk b5 = some (.cells (cl u8 ot) 23 (0, 0)) := by rw [hRM5]; exact Mem.addOwn hFM5 (List.Mem.head _)
 have ho7 : RM5.blk b4 = some (.cells (Qz [ow.map u8, pu.map u8]) 39 (0, 0)) := by rw [hRM5]; exact Mem.addOwn hFM5 (List.Mem.tail _ (List.Mem.head _))
 have ho8 : RM5.blk b3 = some (.cells (cl u8 ro) 23 (0, 0)) := by rw [hRM5]; exact Mem.addOwn hFM5 (List.Mem.tail _ (List.Mem.tail _ (List.Mem.head _)))
 have hT9 : Tabs RM5.blk := by rw [hRM5]; exact Tabs.mono hT fun b o e => Mem.addRest hFM5 e
 refine Dv M50 [(0, false), (1, false), (2, false), (3, false), (4, true)] 5 rfl Xo <| Ns rfl (Zi (r := 0) uT39 rfl Je Zg rfl rfl) <| yqH rfl (fun w _H _hx => Jk 0 Xl Zg rfl (_hx.rest _ _ ho7) rfl) <| yqH rfl (fun w _H _hx => Qo Xl rfl Zg rfl (_hx.rest _ _ ho6) Sv) <| Ns rfl (Zi (r := 32) Xt rfl Je Zg rfl rfl) ?_
 refine Qf8 rfl (fun w10 e10 => ?_)
 have m10 := M50.ext e10
 refine Wu.mono (Ug 1 (sE (List.replicate 32 0) ow (List.replicate 32 0) false false (List.replicate 32 0) (List.replicate 32 0) 0 0 0 Wl) Qs Zg rfl rfl m10.h0 rfl) ?_
 rintro _ w11 uq11
 have m11 := m10.upd0 uq11
 refine ⟨⟨_, m11⟩, ?_⟩
 refine Gf m11 fun w12 m12 => ?_
 have hX13 := m12
 rw [hRM5] at hX13
 have m14 : Mem w12 (Qr w0) [(b6, .cells (Qz (sE (List.replicate 32 0) ow (List.replicate 32 0) false false (List.replicate 32 0) (List.replicate 32 0) 0 0 0 Wl)) 26 (0, 0)), (b5, .cells (cl u8 ot) 23 (0, 0)), (b4, .cells (Qz [ow.map u8, pu.map u8]) 39 (0, 0)), (b3, .cells (cl u8 ro) 23 (0, 0))] := ymA (Mem.back hFM5 hX13)
 refine Qd (Zi (r := 64) Xt rfl Je Zg rfl rfl) <| Ye m14 (Ug 2 (sE (List.replicate 32 0) ow ot false false (List.replicate 32 0) (List.replicate 32 0) 0 0 0 Wl) Qs Zg rfl rfl m14.h0 rfl) fun w15 m15 => Qd (Zi (r := 96) Xt rfl Je ti4 rfl rfl) <| Ye m15 (G5 3 (sE (List.replicate 32 0) ow ot true false (List.replicate 32 0) (List.replicate 32 0) 0 0 0 Wl) ti4 rfl rfl rfl m15.h0 rfl rfl) fun w16 m16 => ?_
 refine rN (Qa ?_)
 refine J4 Xo ?_
 have hFM17 : Mem w16 (Qr w0) ([(b6, .cells (Qz (sE (List.replicate 32 0) ow ot true false (List.replicate 32 0) (List.replicate 32 0) 0 0 0 Wl)) 26 (0, 0))] ++ [(b5, .cells (cl u8 ot) 23 (0, 0)), (b4, .cells (Qz [ow.map u8, pu.map u8]) 39 (0, 0)), (b3, .cells (cl u8 ro) 23 (0, 0))]) := m16
 obtain ⟨RM17, hRM17⟩ : ∃ R2, R2 = Rest.add (Qr w0) [(b5, .cells (cl u8 ot) 23 (0, 0)), (b4, .cells (Qz [ow.map u8, pu.map u8]) 39 (0, 0)), (b3, .cells (cl u8 ro) 23 (0, 0))] := ⟨_, rfl⟩
 have M170 : Mem w16 RM17 [(b6, .cells (Qz (sE (List.replicate 32 0) ow ot true false (List.replicate 32 0) (List.replicate 32 0) 0 0 0 Wl)) 26 (0, 0))] := by rw [hRM17]; exact Mem.give hFM17
 have ho18 : RM17.blk b5 = some (.cells (cl u8 ot) 23 (0, 0)) := by rw [hRM17]; exact Mem.addOwn hFM17 (List.Mem.head _)
 have ho19 : RM17.blk b4 = some (.cells (Qz [ow.map u8, pu.map u8]) 39 (0, 0)) := by rw [hRM17]; exact Mem.addOwn hFM17 (List.Mem.tail _ (List.Mem.head _))
 have ho20 : RM17.blk b3 = some (.cells (cl u8 ro) 23 (0, 0)) := by rw [hRM17]; exact Mem.addOwn hFM17 (List.Mem.tail _ (List.Mem.tail _ (List.Mem.head _)))
 have hT21 : Tabs RM17.blk := by rw [hRM17]; exact Tabs.mono hT fun b o e => Mem.addRest hFM17 e
 refine Dv M170 [(0, false), (1, false), (2, false), (3, false), (4, false), (5, false), (6, false), (7, false), (8, false), (9, true)] 10 rfl Xo <| yqH rfl (fun w _H _hx => Qo Xl rfl Zg rfl (_hx.rest _ _ ho20) Sv) <| yqH rfl (fun w _H _hx => J7 uT39 ti39 rfl (_hx.rest _ _ ho19)) <| yqH rfl (fun w _H _hx => Qo Xl rfl Zg rfl (_hx.rest _ _ ho18) Sv) <| dk_x rfl rfl (fun w22 _Hw22 _hw22 => oc41 (Xm rfl rfl) (Qsj _ _ _ _ sL sL sL)) <| dk_x (v := (Value.tuple #[(agg u8 (Yc ro (Xr ow ot))), (agg u8 (Jf ro (Xr ow ot)))])) rfl rfl (fun w25 _Hw25 _hw25 => oc40 (Xm rfl rfl) (Qjz _ _ _ (hT21.mono fun b o e => (_hw25).rest b o e) sL sL)) <| Ns rfl (Yh rfl) <| Ns (v := (agg u8 (Yc ro (Xr ow ot)))) rfl (Zr rfl rfl) <| Ns (v := (agg u8 (Jf ro (Xr ow ot)))) rfl (Zr rfl rfl) <| Ns rfl (Zi (r := 0) Xt rfl Je Zg rfl rfl) ?_
 refine Qf8 rfl (fun w28 e28 => ?_)
 have m28 := M170.ext e28
 refine Wu.mono (Ug 0 (sE (Yc ro (Xr ow ot)) ow ot true false (List.replicate 32 0) (List.replicate 32 0) 0 0 0 Wl) Qs Zg rfl rfl m28.h0 rfl) ?_
 rintro _ w29 uq29
 have m29 := m28.upd0 uq29
 refine ⟨⟨_, m29⟩, ?_⟩
 refine Gf m29 fun w30 m30 => ?_
 have hX31 := m30
 rw [hRM17] at hX31
 have m32 : Mem w30 (Qr w0) [(b6, .cells (Qz (sE (Yc ro (Xr ow ot)) ow ot true false (List.replicate 32 0) (List.replicate 32 0) 0 0 0 Wl)) 26 (0, 0)), (b5, .cells (cl u8 ot) 23 (0, 0)), (b4, .cells (Qz [ow.map u8, pu.map u8]) 39 (0, 0)), (b3, .cells (cl u8 ro) 23 (0, 0))] := ymA (Mem.back hFM17 hX31)
 refine Qd (Zi (r := 98) Xt rfl Je Zg rfl rfl) <| Ye m32 (Ug 5 (sE (Yc ro (Xr ow ot)) ow ot true false (Jf ro (Xr ow ot)) (List.replicate 32 0) 0 0 0 Wl) Qs Zg rfl rfl m32.h0 rfl) fun w33 m33 => ?_
 refine rN (sR ?_)
 refine Qd (J7 Xt J6 rfl m33.h0) <| Ye m33 (Kt J6 rfl rfl m33.h0 (Fa rfl)) fun w34 m34 => ?_
 refine rN (Zz ?_)
 refine Qp [(Value.agg (Qz (sE (Yc ro (Xr ow ot)) ow ot true false (Jf ro (Xr ow ot)) (List.replicate 32 0) 0 0 0 Wl)))] ⟨⟨_, rfl, Jr Xt J6 m34.h0⟩, trivial⟩ ?_
 exact ⟨rfl, m34.toExt⟩
set_option maxHeartbeats 2000000 in
theorem Qpx (ro ow pu : Z8) (w0 : World)  (hro : ro.length = 32) (how : ow.length = 32) (hpu : pu.length = 32) : X0 prog 18 #[(agg u8 ro), (Value.agg (Qz [ow.map u8, pu.map u8]))] w0 (fun r w1 => r = (Value.agg (Qz (sE ro ow (List.replicate 32 0) false false (List.replicate 32 0) (List.replicate 32 0) 0 0 0 Wl))) ∧ Ext w0 w1) := by
 refine Qy (args := [(agg u8 ro), (Value.agg (Qz [ow.map u8, pu.map u8]))]) func18 rfl ntmps18 results18 rfl ?_
 have m0 : Mem w0 (Qr w0) [] := Mem.of_world w0
 refine sR <| Y9 (Xc (f := u8) (l := ro) m0 rfl) fun w1 b2 m1 => Y9 (Us (cs := (Qz [ow.map u8, pu.map u8])) m1 rfl) fun w2 b3 m2 => Y9 (Jw m2 J6) fun w3 b4 m3 => ?_
 refine rN (sR ?_)
 refine Qd (Qo Xl rfl Zg rfl m3.h2 Sv) <| Qd (Zi (r := 0) uT39 rfl Je Zg rfl rfl) <| Qd (Jk 0 Xl Zg rfl m3.h1 rfl) <| Qd (Wv (c := (Qz (sE ro ow (List.replicate 32 0) false false (List.replicate 32 0) (List.replicate 32 0) 0 0 0 Wl))) (pl := [(0, 32), (32, 32), (64, 32), (96, 1), (97, 1), (98, 32), (130, 32), (162, 1), (163, 1), (164, 1), (165, 1)]) J6 Xt Xo (Jq (i := 0) (v := (agg u8 ro)) (cs := (cl u8 ro)) rfl rfl (Jq (i := 1) (v := (agg u8 ow)) (cs := (cl u8 ow)) rfl rfl Vq)) (Vy (L := (sE (List.replicate 32 0) (List.replicate 32 0) (List.replicate 32 0) false false (List.replicate 32 0) (List.replicate 32 0) 0 0 0 Wl)) 0 (sE ro (List.replicate 32 0) (List.replicate 32 0) false false (List.replicate 32 0) (List.replicate 32 0) 0 0 0 Wl) rfl (Gj u8 _).symm rfl (Vy 1 (sE ro ow (List.replicate 32 0) false false (List.replicate 32 0) (List.replicate 32 0) 0 0 0 Wl) rfl (Gj u8 _).symm rfl Bq))) <| Ye m3 (Kt J6 rfl rfl m3.h0 (Fa rfl)) fun w4 m4 => ?_
 refine rN (Zz ?_)
 refine Qp [(Value.agg (Qz (sE ro ow (List.replicate 32 0) false false (List.replicate 32 0) (List.replicate 32 0) 0 0 0 Wl)))] ⟨⟨_, rfl, Jr Xt J6 m4.h0⟩, trivial⟩ ?_
 exact ⟨rfl, m4.toExt⟩
set_option maxHeartbeats 2000000 in
theorem Qp2 (ra wa oa : Z8) (sb tb : Bool) (sa ta : Z8) (n1 n2 n3 : Int) (vk : Value) (ks : List Kp) (vb : Value) (lb : Z8) (vp : Value) (lp : Z8) (w0 : World)  (hl : ra.length = 32 ∧ wa.length = 32 ∧ oa.length = 32 ∧ sa.length = 32 ∧ ta.length = 32) (hk : RdK (Y8 w0) Y3 65 vk ks) (hn : ks.length ≤ 1048576) (hrb : Rd (Y8 w0) u8 vb lb) (hlb : lb.length ≤ 90000) (hrp : Rd (Y8 w0) u8 vp lp) (hlp : lp.length ≤ 90000) (hn1 : 0 ≤ n1 ∧ n1 ≤ 2147483647) (hn3 : 0 ≤ n3 ∧ n3 ≤ 2147483647) (hsb : sb = false) : X0 prog 12 #[(Value.agg (Qz (sE ra wa oa sb tb sa ta n1 n2 n3 vk))), vb, vp] w0 (fun r w1 => r = (Value.tuple #[(Value.agg (Qz (sE ra wa oa sb tb sa ta n1 n2 n3 vk))), Wl, (i64 13)]) ∧ Ext w0 w1) := by
 refine Qy (args := [(Value.agg (Qz (sE ra wa oa sb tb sa ta n1 n2 n3 vk))), vb, vp]) func12 rfl ntmps12 results12 rfl ?_
 have m0 : Mem w0 (Qr w0) [] := Mem.of_world w0
 obtain ⟨hl1, hl2, hl3, hl4, hl5⟩ := hl
 have hnsb : (!sb) = true := by rw [hsb]; rfl
 refine sR <| Y9 (Us (cs := (Qz (sE ra wa oa sb tb sa ta n1 n2 n3 vk))) m0 rfl) fun w1 b3 m1 => Y9 (Jw m1 J6) fun w2 b6 m2 => Zx Wl <| Zx (i64 0) ?_
 refine rN (Qa (Qh (sR ?_)))
 refine Qd (Zi (r := 96) Xt rfl Je ti4 rfl rfl) <| Qd (Yi 3 uT4 rfl m2.h1 rfl) <| Qd (Gw rfl) <| Zx (bl (!sb)) <| rN <| Q9 rfl hnsb <| sR <| Qd (J7 Xt J6 rfl m2.h1) <| Ye m2 (Kt J6 rfl rfl m2.h0 (Fa (RdK.one (RdK.ofRest hk m2)))) fun w3 m3 => Zx Wl <| Zx (i64 13) ?_
 refine rN (Zz ?_)
 refine Fe <| Qp [(Value.agg (Qz (sE ra wa oa sb tb sa ta n1 n2 n3 vk))), Wl, (i64 13)] ⟨⟨_, rfl, Jr Xt J6 m3.h0⟩, rfl, rfl, trivial⟩ ?_
 exact ⟨rfl, m3.toExt⟩
set_option maxHeartbeats 2000000 in
theorem Qp3 (ra wa oa : Z8) (sb tb : Bool) (sa ta : Z8) (n1 n2 n3 : Int) (vk : Value) (ks : List Kp) (vb : Value) (lb : Z8) (vp : Value) (lp : Z8) (w0 : World)  (hl : ra.length = 32 ∧ wa.length = 32 ∧ oa.length = 32 ∧ sa.length = 32 ∧ ta.length = 32) (hk : RdK (Y8 w0) Y3 65 vk ks) (hn : ks.length ≤ 1048576) (hrb : Rd (Y8 w0) u8 vb lb) (hlb : lb.length ≤ 90000) (hrp : Rd (Y8 w0) u8 vp lp) (hlp : lp.length ≤ 90000) (hn1 : 0 ≤ n1 ∧ n1 ≤ 2147483647) (hn3 : 0 ≤ n3 ∧ n3 ≤ 2147483647) (hsb : sb = true) (hmost : n1 = 2147483647) : X0 prog 12 #[(Value.agg (Qz (sE ra wa oa sb tb sa ta n1 n2 n3 vk))), vb, vp] w0 (fun r w1 => r = (Value.tuple #[(Value.agg (Qz (sE ra wa oa sb tb sa ta n1 n2 n3 vk))), Wl, (i64 12)]) ∧ Ext w0 w1) := by
 refine Qy (args := [(Value.agg (Qz (sE ra wa oa sb tb sa ta n1 n2 n3 vk))), vb, vp]) func12 rfl ntmps12 results12 rfl ?_
 have m0 : Mem w0 (Qr w0) [] := Mem.of_world w0
 obtain ⟨hl1, hl2, hl3, hl4, hl5⟩ := hl
 have hnsb : (!sb) = false := by rw [hsb]; rfl
 refine sR <| Y9 (Us (cs := (Qz (sE ra wa oa sb tb sa ta n1 n2 n3 vk))) m0 rfl) fun w1 b3 m1 => Y9 (Jw m1 J6) fun w2 b6 m2 => Zx Wl <| Zx (i64 0) ?_
 refine rN (Qa (Qh (sR ?_)))
 refine Qd (Zi (r := 96) Xt rfl Je ti4 rfl rfl) <| Qd (Yi 3 uT4 rfl m2.h1 rfl) <| Qd (Gw rfl) <| Zx (bl (!sb)) <| rN <| Ja rfl hnsb <| sR <| Qd (Zi (r := 162) Xt rfl Je Ui rfl rfl) <| Qd (Yi 7 Uu rfl m2.h1 rfl) <| Qd (F5 (b := 2147483647) rfl rfl) <| Zx (bl (decide (2147483647 ≤ n1))) <| rN ?_
 have hd3 : (decide (2147483647 ≤ n1)) = true := decide_eq_true oM
 refine Q9 rfl hd3 <| sR <| Qd (J7 Xt J6 rfl m2.h1) <| Ye m2 (Kt J6 rfl rfl m2.h0 (Fa (RdK.one (RdK.ofRest hk m2)))) fun w4 m4 => Zx Wl <| Zx (i64 12) ?_
 refine rN (Zz ?_)
 refine Fe <| Qp [(Value.agg (Qz (sE ra wa oa sb tb sa ta n1 n2 n3 vk))), Wl, (i64 12)] ⟨⟨_, rfl, Jr Xt J6 m4.h0⟩, rfl, rfl, trivial⟩ ?_
 exact ⟨rfl, m4.toExt⟩
set_option maxHeartbeats 2000000 in
theorem c_enc19 (ra wa oa : Z8) (sb tb : Bool) (sa ta : Z8) (n1 n2 n3 : Int) (vk : Value) (ks : List Kp) (vb : Value) (lb : Z8) (vp : Value) (lp : Z8) (w0 : World)  (hT : Tabs (Y8 w0)) (hl : ra.length = 32 ∧ wa.length = 32 ∧ oa.length = 32 ∧ sa.length = 32 ∧ ta.length = 32) (hk : RdK (Y8 w0) Y3 65 vk ks) (hn : ks.length ≤ 1048576) (hrb : Rd (Y8 w0) u8 vb lb) (hlb : lb.length ≤ 90000) (hrp : Rd (Y8 w0) u8 vp lp) (hlp : lp.length ≤ 90000) (hn1 : 0 ≤ n1 ∧ n1 ≤ 2147483647) (hn3 : 0 ≤ n3 ∧ n3 ≤ 2147483647) (hsb : sb = true) (hless : n1 < 2147483647) : X0 prog 12 #[(Value.agg (Qz (sE ra wa oa sb tb sa ta n1 n2 n3 vk))), vb, vp] w0 (fun r w1 => ∃ vk2 Hk2 vc Hc, r = Value.tuple #[(Value.agg (Qz (sE ra wa oa sb tb (Xj sa [2#8]) ta (n1 + 1) n2 n3 vk2))), vc, i64 0] ∧ Yx Y3 65 69 vk2 ks Hk2 ∧ Z5 u8 5 vc (Qaz wa sa n3 n1 lb lp) Hc ∧ Mem w1 (Qr w0) (Hk2 ++ Hc)) := by
 refine Qy (args := [(Value.agg (Qz (sE ra wa oa sb tb sa ta n1 n2 n3 vk))), vb, vp]) func12 rfl ntmps12 results12 rfl ?_
 have m0 : Mem w0 (Qr w0) [] := Mem.of_world w0
 obtain ⟨hl1, hl2, hl3, hl4, hl5⟩ := hl
 have hnsb : (!sb) = false := by rw [hsb]; rfl
 have hhl := Qk9 (p := n3) (n := n1) (Ba wa V5)
 have hc1 : (Xj sa [1#8]).length = 32 := V6 _ _
 have hc2 : (Xj sa [2#8]).length = 32 := V6 _ _
 have hml := Ba wa V5
 have hcl := Qes (key := Xj sa [1#8]) (nz := List.replicate 12 0) (beside := lb ++ Lc (Xr wa V5) n3 n1) (plain := lp)
 refine sR <| Y9 (Us (cs := (Qz (sE ra wa oa sb tb sa ta n1 n2 n3 vk))) m0 rfl) fun w1 b3 m1 => Y9 (Jw m1 J6) fun w2 b6 m2 => Zx Wl <| Zx (i64 0) ?_
 refine rN (Qa (Qh (sR ?_)))
 refine Qd (Zi (r := 96) Xt rfl Je ti4 rfl rfl) <| Qd (Yi 3 uT4 rfl m2.h1 rfl) <| Qd (Gw rfl) <| Zx (bl (!sb)) <| rN <| Ja rfl hnsb <| sR <| Qd (Zi (r := 162) Xt rfl Je Ui rfl rfl) <| Qd (Yi 7 Uu rfl m2.h1 rfl) <| Qd (F5 (b := 2147483647) rfl rfl) <| Zx (bl (decide (2147483647 ≤ n1))) <| rN ?_
 have hd3 : (decide (2147483647 ≤ n1)) = false := decide_eq_false oM
 refine Ja rfl hd3 ?_
 refine Qn (Qe (sR ?_))
 refine Qd (J7 Xt J6 rfl m2.h1) <| Ye m2 (Kt J6 rfl rfl m2.h0 (Fa (RdK.one (RdK.ofRest hk m2)))) fun w4 m4 => ?_
 refine rN (sR ?_)
 refine Qd (Zi (r := 165) Xt rfl Je Ec rfl rfl) <| Qd (Yi 10 Wq rfl m4.h1 rfl) <| Vw (oc29 (Jv rfl) (Qod vk ks _ (RdK.ofRest hk m4) sL)) ?_
 rintro rq6 w5 ⟨Hsq6, grq6, k_w5⟩
 have m5 : Mem _ _ (Hsq6 ++ ([_, _])) := Mem.new (H := [_, _]) (H' := Hsq6) m4 k_w5
 refine Qd (Zi (r := 165) Xt rfl Je Ec rfl rfl) <| Vf (G5 10 (sE ra wa oa sb tb sa ta n1 n2 n3 rq6) Ec rfl rfl grq6.one ((Mem.pick Hsq6 [_] _ m5)).h0 rfl rfl) ?_
 rintro _ w7 uq7
 have m7 : Mem _ _ ([_] ++ (Hsq6 ++ ([_]))) := Mem.upd0 (Mem.pick Hsq6 [_] _ m5) uq7
 refine rN (Qa ?_)
 refine Xg (dl 7) 7 Xo <| X6 rfl (Zi (r := 32) Xt rfl Je Zg rfl rfl) <| Ym rfl (fun _ e' => Jk 1 Xl Zg rfl ((Mem.pick2 [_] Hsq6 [_] _ (m7.ext e'))).h0 rfl) <| Vg rfl rfl (fun w8 e8 => oc31 (Jv rfl) (Qlj _ _ sL)) <| X6 rfl (Zi (r := 164) Xt rfl Je Ui rfl rfl) <| Ym rfl (fun _ e' => Yi 9 Uu rfl ((Mem.pick2 [_] Hsq6 [_] _ (m7.ext e'))).h0 rfl) <| X6 rfl (Zi (r := 162) Xt rfl Je Ui rfl rfl) <| Ym rfl (fun _ e' => Yi 7 Uu rfl ((Mem.pick2 [_] Hsq6 [_] _ (m7.ext e'))).h0 rfl) <| Gf m7 fun w11 m11 => Qd (Wv (c := (Qz (sH (Xr wa V5) n3 n1))) (pl := [(0, 32), (32, 1), (33, 1)]) D9 Fj Xo (Jq (i := 0) (v := (agg u8 (Xr wa V5))) (cs := (cl u8 (Xr wa V5))) rfl rfl (Jq (i := 1) (v := (i64 n3)) (cs := #[(i64 n3)]) rfl rfl (Jq (i := 2) (v := (i64 n1)) (cs := #[(i64 n1)]) rfl rfl Vq))) (Vy (L := (sH (List.replicate 32 0) 0 0)) 0 (sH (Xr wa V5) 0 0) rfl (Gj u8 _).symm rfl (Vy 1 (sH (Xr wa V5) n3 0) rfl rfl rfl (Vy 2 (sH (Xr wa V5) n3 n1) rfl rfl rfl Bq)))) <| Vw (oc30 (Jv rfl) (c_header _ _ _ _ sL sL sL)) ?_
 rintro rq13 w12 ⟨Hsq13, grq13, k_w12⟩
 have m12 : Mem _ _ (Hsq13 ++ ([_] ++ (Hsq6 ++ ([_])))) := Mem.new (H := [_] ++ (Hsq6 ++ ([_]))) (H' := Hsq13) m11 k_w12
 refine Zx rq13 ?_
 refine rN (sR ?_)
 refine Y9 (Q7 m12 Zg) fun w14 b10 m14 => ?_
 refine rN (sR ?_)
 refine Qd (Zi (r := 98) Xt rfl Je Zg rfl rfl) <| Qd (Jk 5 Xl Zg rfl ((Mem.pick4 [_] Hsq13 [_] Hsq6 [_] _ m14)).h0 rfl) <| U3 m14 (oc32 (Jv rfl) (Qpv _ _ (hT.mono fun b o e => (m14).rest b o e) sL)) fun w15 m15 => Zm (Value.tuple #[(agg u8 (Xj sa [2#8])), (agg u8 (Xj sa [1#8]))]) <| Qd (v := (agg u8 (Xj sa [2#8]))) (Zr rfl rfl) <| Qd (v := (agg u8 (Xj sa [1#8]))) (Zr rfl rfl) <| Qd (Zi (r := 98) Xt rfl Je Zg rfl rfl) <| Vf (Ug 5 (sE ra wa oa sb tb (Xj sa [2#8]) ta n1 n2 n3 rq6) Qs Zg rfl rfl ((Mem.pick2 [_] Hsq13 [_] _ m15)).h0 rfl) ?_
 rintro _ w17 uq17
 have m17 : Mem _ _ ([_, _] ++ (Hsq13 ++ (Hsq6 ++ ([_])))) := Mem.upd0 (Mem.pick2 [_] Hsq13 [_] _ m15) uq17
 refine Vu m17 (Qg (f := u8) (l := Xj sa [1#8]) Qs Zg rfl rfl sL m17.h1 Sv rfl) fun w18 m18 => ?_
 refine rN (sR ?_)
 refine Qd (Zi (r := 162) Xt rfl Je Ui rfl rfl) <| Qd (Yi 7 Uu rfl m18.h0 rfl) <| Qd (Zf (b := 1) rfl rfl oM oM) <| Qd (Zi (r := 162) Xt rfl Je Ui rfl rfl) <| Ye m18 (G5 7 (sE ra wa oa sb tb (Xj sa [2#8]) ta (n1 + 1) n2 n3 rq6) Ui rfl rfl (Zv _) m18.h0 rfl rfl) fun w19 m19 => ?_
 refine rN (Qa ?_)
 refine J4 Xo ?_
 have m20 := (Mem.pick3 [_, _] Hsq13 Hsq6 [_] _ m19)
 have m21 := (Mem.pick2 [_, _, _] Hsq13 Hsq6 _ m20)
 have m22 := (Mem.pick2 Hsq6 [_, _] [_] _ m21)
 have m23 := (Mem.pick3 [_] Hsq6 [_] [_] _ m22)
 have m24 := (Mem.pick3 [_, _] Hsq6 [_] Hsq13 _ m23)
 have hFM25 : Mem w19 (Qr w0) ((Hsq13 ++ ([])) ++ ([(b6, .cells (Qz (sE ra wa oa sb tb (Xj sa [2#8]) ta (n1 + 1) n2 n3 rq6)) 26 (0, 0)), (b10, .cells (cl u8 (Xj sa [1#8])) 23 (0, 0))] ++ (Hsq6 ++ ([(b3, .cells (Qz (sE ra wa oa sb tb sa ta n1 n2 n3 vk)) 26 (0, 0))])))) := ymA m24
 obtain ⟨RM25, hRM25⟩ : ∃ R2, R2 = Rest.add (Qr w0) ([(b6, .cells (Qz (sE ra wa oa sb tb (Xj sa [2#8]) ta (n1 + 1) n2 n3 rq6)) 26 (0, 0)), (b10, .cells (cl u8 (Xj sa [1#8])) 23 (0, 0))] ++ (Hsq6 ++ ([(b3, .cells (Qz (sE ra wa oa sb tb sa ta n1 n2 n3 vk)) 26 (0, 0))]))) := ⟨_, rfl⟩
 have M250 : Mem w19 RM25 (Hsq13 ++ ([])) := by rw [hRM25]; exact Mem.give hFM25
 have hr26 : Rd RM25.blk u8 vb lb := by rw [hRM25]; exact Rd.mono hrb fun b o e => Mem.addRest hFM25 e
 have hr27 : Rd RM25.blk u8 vp lp := by rw [hRM25]; exact Rd.mono hrp fun b o e => Mem.addRest hFM25 e
 have hr28 : RdK RM25.blk Y3 65 vk ks := by rw [hRM25]; exact RdK.mono hk fun b o e => Mem.addRest hFM25 e
 have hg29 : RdK RM25.blk Y3 65 rq6 ks := grq6.rdIn (fun p hp => by rw [hRM25]; exact Mem.addOwn hFM25 (List.mem_append_right _ (List.mem_append_left _ hp)))
 have ho30 : RM25.blk b6 = some (.cells (Qz (sE ra wa oa sb tb (Xj sa [2#8]) ta (n1 + 1) n2 n3 rq6)) 26 (0, 0)) := by rw [hRM25]; exact Mem.addOwn hFM25 (List.mem_append_left _ (List.Mem.head _))
 have ho31 : RM25.blk b10 = some (.cells (cl u8 (Xj sa [1#8])) 23 (0, 0)) := by rw [hRM25]; exact Mem.addOwn hFM25 (List.mem_append_left _ (List.Mem.tail _ (List.Mem.head _)))
 have ho32 : RM25.blk b3 = some (.cells (Qz (sE ra wa oa sb tb sa ta n1 n2 n3 vk)) 26 (0, 0)) := by rw [hRM25]; exact Mem.addOwn hFM25 (List.mem_append_right _ (List.mem_append_right _ (List.Mem.head _)))
 have hT33 : Tabs RM25.blk := by rw [hRM25]; exact Tabs.mono hT fun b o e => Mem.addRest hFM25 e
 refine Dv M250 [(0, false), (1, false), (2, false), (3, false), (4, false), (6, false), (8, false), (5, true), (7, true), (9, true), (10, true)] 11 rfl Xo <| yqH rfl (fun w _H _hx => J7 Xt J6 rfl (_hx.rest _ _ ho30)) <| Ns rfl (Yh (v := rq13) rfl) <| yqH rfl (fun w _H _hx => Qo Xl rfl Zg rfl (_hx.rest _ _ ho31) Sv) <| Ns rfl (Kw (ps := []) (c := (cl u8 (List.replicate 12 0))) Qbl Po Yw Ya rfl) <| Ns rfl (Yh (v := vb) rfl) <| Ns rfl (Yh (v := rq13) rfl) <| Ns rfl (Yh (v := vp) rfl) ?_
 refine Qe6 rfl rfl (fun w34 e34 => ?_)
 have m34 := M250.ext e34
 refine Wu.mono (oc34 (Jv rfl) (Qcr vb lb _ (Rd.ofRest hr26 m34) sL)) ?_
 rintro rq36 w35 ⟨Hsq36, grq36, k_w35⟩
 have m35 : Mem _ _ (Hsq36 ++ (Hsq13 ++ ([]))) := Mem.new (H := Hsq13 ++ ([])) (H' := Hsq36) m34 k_w35
 refine ⟨⟨_, m35⟩, ?_⟩
 refine Qe6 rfl rfl (fun w37 e37 => ?_)
 have m37 := m35.ext e37
 refine Wu.mono (Xf (f := u8) (Hs := Hsq36) (H := Hsq13 ++ ([])) m37 grq36 rfl rfl (grq13.rd (Mem.pick Hsq36 Hsq13 _ m37)) Zo Zo Yw rfl Qs sL sL) ?_
 rintro sv38 w38 ⟨Hs38, m38, g38⟩
 replace g38 : Z5 u8 5 sv38 (lb ++ (Lc (Xr wa V5) n3 n1)) Hs38 := g38
 refine ⟨⟨_, m38⟩, ?_⟩
 refine Qe6 rfl rfl (fun w39 e39 => ?_)
 have m39 := m38.ext e39
 refine Wu.mono (oc33 (Tm rfl rfl rfl rfl) (c_seal _ _ sv38 (lb ++ (Lc (Xr wa V5) n3 n1)) vp lp _ (hT33.mono fun b o e => (m39).rest b o e) sL sL (g38.rd m39) sL (Rd.ofRest hr27 m39) sL)) ?_
 rintro rxq41 w40 ⟨Hsq41, grxq41, k_w40⟩
 have m40 : Mem _ _ (Hsq41 ++ (Hs38 ++ (Hsq13 ++ ([])))) := Mem.new (H := Hs38 ++ (Hsq13 ++ ([]))) (H' := Hsq41) m39 k_w40
 refine ⟨⟨_, m40⟩, ?_⟩
 refine Qe6 rfl rfl (fun w42 e42 => ?_)
 have m42 := m40.ext e42
 refine Wu.mono (Xf (f := u8) (Hs := Hsq13) (H := Hsq41 ++ (Hs38 ++ ([]))) (Mem.pick2 Hsq41 Hs38 Hsq13 _ m42) grq13 rfl rfl (grxq41.rd m42) Zo Zo Yw rfl Qs sL sL) ?_
 rintro sv43 w43 ⟨Hs43, m43, g43⟩
 replace g43 : Z5 u8 5 sv43 ((Lc (Xr wa V5) n3 n1) ++ (Ef (Xj sa [1#8]) (List.replicate 12 0) (lb ++ (Lc (Xr wa V5) n3 n1)) lp)) Hs43 := g43
 refine ⟨⟨_, m43⟩, ?_⟩
 refine Gf m43 fun w44 m44 => ?_
 have hX45 := m44
 rw [hRM25] at hX45
 have m46 : Mem w44 (Qr w0) (Hs43 ++ (Hsq41 ++ (Hs38 ++ ([(b6, .cells (Qz (sE ra wa oa sb tb (Xj sa [2#8]) ta (n1 + 1) n2 n3 rq6)) 26 (0, 0)), (b10, .cells (cl u8 (Xj sa [1#8])) 23 (0, 0))] ++ (Hsq6 ++ ([(b3, .cells (Qz (sE ra wa oa sb tb sa ta n1 n2 n3 vk)) 26 (0, 0))])))))) := ymA (Mem.back hFM25 hX45)
 refine Vf (Kt J6 rfl rfl ((Mem.pick3 Hs43 Hsq41 Hs38 [_] _ m46)).h0 (Fa grq6.one)) ?_
 rintro _ w47 uq47
 have m47 : Mem _ _ ([_] ++ (Hs43 ++ (Hsq41 ++ (Hs38 ++ ([_] ++ (Hsq6 ++ ([_]))))))) := Mem.upd0 (Mem.pick3 Hs43 Hsq41 Hs38 [_] _ m46) uq47
 refine Zx sv43 <| Zx (i64 0) <| rN ?_
 have m48 := Mem.drop Hsq41 _ (Mem.pick2 [_] Hs43 Hsq41 _ m47)
 have m49 := Mem.drop Hs38 _ (Mem.pick2 [_] Hs43 Hs38 _ m48)
 refine Zz <| Qp [(Value.agg (Qz (sE ra wa oa sb tb (Xj sa [2#8]) ta (n1 + 1) n2 n3 rq6))), sv43, (i64 0)] ⟨⟨_, rfl, Jr Xt J6 m49.h0⟩, rfl, rfl, trivial⟩ ?_
 have m50 := Mem.drop [_] _ m49
 have m51 := Mem.drop [_] _ (Mem.pick Hs43 [_] _ m50)
 have m52 := Mem.drop [_] _ (Mem.pick2 Hs43 Hsq6 [_] _ m51)
 have m53 := (Mem.pick Hs43 Hsq6 _ m52)
 exact ⟨rq6, Hsq6, sv43, Hs43, rfl, grq6, Z5.cast g43 (by unfold Qaz; simp only [List.append_assoc]), (by
  have hT := m53
  try simp only [List.append_assoc, List.cons_append, List.nil_append, List.append_nil] at hT ⊢
  exact hT)⟩
end Go.Proofs.YtkmiemlpfkfiiaaDoor
