/- The ratchet: roots, sessions begun, what is enciphered. Conditions: none beyond those that each theorem states. -/
import Derived.Test.YtkmiemlpfkfiiaaDoorRa2
namespace Go.Proofs.YtkmiemlpfkfiiaaDoor
open Tryd
set_option linter.unusedVariables false
set_option linter.unusedSimpArgs false
def D7 (root sh : Zj) : List Zj := J9 root sh (J6 ⟨#[114, 97, 116, 99, 104, 101, 116]⟩) 2
def Ya (root sh : Zj) : Zj := (D7 root sh).getD 0 []
def Yq (root sh : Zj) : Zj := (D7 root sh).getD 1 []
theorem Qe7 (root sh : Zj) : D7 root sh = Fj 2 (Jz (Ja root sh) (J6 ⟨#[114, 97, 116, 99, 104, 101, 116]⟩) 64) := Tu Yh Yh
theorem Qne (root sh : Zj) : (D7 root sh).length = 2 := by rw [Qe7]; exact Qam _ _
theorem Hy (root sh : Zj) : (Ya root sh).length = 32 := by unfold Ya; rw [Qe7]; exact Qa3 Yh (by rw [U8])
theorem D9 (root sh : Zj) : (Yq root sh).length = 32 := by unfold Yq; rw [Qe7]; exact Qa3 Yh (by rw [U8])
def Gy (own chain : Zj) (p n : Int) (beside plain : Zj) : Zj :=
 Wi (Qi own Q7) p n ++ Ko (Zu chain [1#8]) (List.replicate 12 0) (beside ++ Wi (Qi own Q7) p n) plain
attribute [local irreducible] D7 Ya Yq Gy J9 Jz Ja Zu Wi Ak Ko Qi Q7
set_option maxHeartbeats 2000000 in
theorem Qgc (ro sh : Zj) (w0 : World)  (hT : Tabs (Yn w0)) (hro : ro.length = 32) (hsh : sh.length = 32) : Xm prog 40 #[(agg u8 ro), (agg u8 sh)] w0 (fun r w1 => r = (Value.tuple #[(agg u8 (Ya ro sh)), (agg u8 (Yq ro sh))]) ∧ Ext w0 w1) := by
 refine Qy (args := [(agg u8 ro), (agg u8 sh)]) func40 rfl ntmps40 results40 rfl ?_
 have m0 : Mem w0 (Qu w0) [] := Mem.of_world w0
 have htl := Qne ro sh
 have ht0 := Hy ro sh
 have ht1 := D9 ro sh
 unfold Ya at ht0; unfold Yq at ht1
 unfold D7 at htl ht0 ht1
 refine sR <| Y5 (Zw (f := u8) (l := ro) m0 rfl) fun w1 b2 m1 => Y5 (Zw (f := u8) (l := sh) m1 rfl) fun w2 b3 m2 => Y5 (Zf m2 Zi) fun w3 b4 m3 => Y5 (Zf m3 Zi) fun w4 b5 m4 => ?_
 refine rN (Qc ?_)
 refine Xj [(0, false), (1, false), (2, true), (3, false), (4, false), (5, false), (6, false)] 7 Xh <| Xq rfl (Z7 (i := 0) (j := 32) Xf Yw rfl (Zc _ _) (Zc _ _) oM sL sL) <| Xq rfl (Z7 (i := 0) (j := 32) Xf Yw rfl (Zc _ _) (Zc _ _) oM sL sL) ?_
 refine Ba rfl rfl (fun w5 e5 => ?_)
 have m5 := m4.ext e5
 refine J8.mono (oc73 (Qao rfl rfl rfl rfl) (c_keys (sla b2 0 1 0 32 32) ro (sla b3 0 1 0 32 32) sh (⟨#[114, 97, 116, 99, 104, 101, 116]⟩) _ _ (hT.mono fun b o e => (m5).rest b o e) (Rd.slaAll m5.h3 sL) sL (Rd.slaAll m5.h2 sL) sL sL sL)) ?_
 rintro _ w6 ⟨vxq7, Hsq7, rfl, gvxq7, k_w6⟩
 refine ⟨k_w6.toExt, ?_⟩
 have m6 : Mem _ _ (Hsq7 ++ ([_, _, _, _])) := Mem.new (H := [_, _, _, _]) (H' := Hsq7) m5 k_w6
 refine Jj rfl (Value.tuple #[vxq7, (i64 (Qcw (2 : Int)))]) <| Xq (v := vxq7) rfl (Zg rfl rfl) <| Xq (v := (i64 (Qcw (2 : Int)))) rfl (Zg rfl rfl) <| Xq rfl (Gi (v := vxq7) rfl) <| Ug m6 fun w8 m8 => Zv (i64 (Qcw (2 : Int))) ?_
 refine rN (Qc ?_)
 refine Ju Xh ?_
 have m9 := (Mem.pick2 Hsq7 [_, _, _] [_] _ m8)
 have m10 := (Mem.pick3 [_] Hsq7 [_, _] [_] _ m9)
 have m11 := (Mem.pick2 [_, _] Hsq7 [_] _ m10)
 have m12 := (Mem.pick [_, _, _] Hsq7 _ m11)
 have m13 := (Mem.pick2 Hsq7 [_, _, _] [_] _ m12)
 have hFM14 : Mem w8 (Qu w0) ([(b4, .cells (cl u8 (List.replicate 32 0)) 23 (0, 0))] ++ (Hsq7 ++ ([(b5, .cells (cl u8 (List.replicate 32 0)) 23 (0, 0)), (b3, .cells (cl u8 sh) 23 (0, 0)), (b2, .cells (cl u8 ro) 23 (0, 0))]))) := m13
 obtain ⟨RM14, hRM14⟩ : ∃ R2, R2 = Rest.add (Qu w0) (Hsq7 ++ ([(b5, .cells (cl u8 (List.replicate 32 0)) 23 (0, 0)), (b3, .cells (cl u8 sh) 23 (0, 0)), (b2, .cells (cl u8 ro) 23 (0, 0))])) := ⟨_, rfl⟩
 have M140 : Mem w8 RM14 [(b4, .cells (cl u8 (List.replicate 32 0)) 23 (0, 0))] := by rw [hRM14]; exact Mem.give hFM14
 have hg15 : RdK RM14.blk (Fz u8) 32 vxq7 (J9 ro sh (J6 (⟨#[114, 97, 116, 99, 104, 101, 116]⟩)) (2 : Int)) := gvxq7.rdIn (fun p hp => by rw [hRM14]; exact Mem.addOwn hFM14 (List.mem_append_left _ hp))
 have ho16 : RM14.blk b5 = some (.cells (cl u8 (List.replicate 32 0)) 23 (0, 0)) := by rw [hRM14]; exact Mem.addOwn hFM14 (List.mem_append_right _ (List.Mem.head _))
 have ho17 : RM14.blk b3 = some (.cells (cl u8 sh) 23 (0, 0)) := by rw [hRM14]; exact Mem.addOwn hFM14 (List.mem_append_right _ (List.Mem.tail _ (List.Mem.head _)))
 have ho18 : RM14.blk b2 = some (.cells (cl u8 ro) 23 (0, 0)) := by rw [hRM14]; exact Mem.addOwn hFM14 (List.mem_append_right _ (List.Mem.tail _ (List.Mem.tail _ (List.Mem.head _))))
 have hT19 : Tabs RM14.blk := by rw [hRM14]; exact Tabs.mono hT fun b o e => Mem.addRest hFM14 e
 refine Ea M140 [(0, false), (1, false), (2, false), (3, false), (4, false), (5, false), (6, true)] 7 rfl Xh <| L9 rfl (Ye (v := vxq7) rfl) <| yqH rfl (fun w _H _hx => Wx (i := 0) (RdK.ofRest hg15 _hx) uT82 Zi rfl rfl oM sL) <| yqH (v := (agg u8 ((J9 ro sh (J6 (⟨#[114, 97, 116, 99, 104, 101, 116]⟩)) (2 : Int)).getD 0 []))) rfl (fun w _H _hx => Nj (i := (0 : Int)) (RdK.ofRest hg15 _hx) sL Xf Zi rfl rfl) <| L9 rfl (Ye (v := vxq7) rfl) <| yqH rfl (fun w _H _hx => Wx (i := 1) (RdK.ofRest hg15 _hx) uT82 Zi rfl rfl oM sL) <| yqH (v := (agg u8 ((J9 ro sh (J6 (⟨#[114, 97, 116, 99, 104, 101, 116]⟩)) (2 : Int)).getD 1 []))) rfl (fun w _H _hx => Nj (i := (1 : Int)) (RdK.ofRest hg15 _hx) sL Xf Zi rfl rfl) ?_
 refine dk_n rfl (fun w20 e20 => ?_)
 have m20 := M140.ext e20
 refine J8.mono (Qq (f := u8) (l := (J9 ro sh (J6 (⟨#[114, 97, 116, 99, 104, 101, 116]⟩)) (2 : Int)).getD 0 []) Q9 Zi rfl rfl sL m20.h0 N8 rfl) ?_
 rintro _ w21 uq21
 have m21 := m20.upd0 uq21
 refine ⟨⟨_, m21⟩, ?_⟩
 refine Ug m21 fun w22 m22 => ?_
 have hX23 := m22
 rw [hRM14] at hX23
 have m24 : Mem w22 (Qu w0) ([(b4, .cells (cl u8 ((J9 ro sh (J6 (⟨#[114, 97, 116, 99, 104, 101, 116]⟩)) (2 : Int)).getD 0 [])) 23 (0, 0))] ++ (Hsq7 ++ ([(b5, .cells (cl u8 (List.replicate 32 0)) 23 (0, 0)), (b3, .cells (cl u8 sh) 23 (0, 0)), (b2, .cells (cl u8 ro) 23 (0, 0))]))) := ymA (Mem.back hFM14 hX23)
 refine Ve (Qq (f := u8) (l := (J9 ro sh (J6 (⟨#[114, 97, 116, 99, 104, 101, 116]⟩)) (2 : Int)).getD 1 []) Q9 Zi rfl rfl sL ((Mem.pick2 [_] Hsq7 [_] _ m24)).h0 N8 rfl) ?_
 rintro _ w25 uq25
 have m25 : Mem _ _ ([_, _] ++ (Hsq7 ++ ([_, _]))) := Mem.upd0 (Mem.pick2 [_] Hsq7 [_] _ m24) uq25
 refine rN (Zy ?_)
 refine Qs [(agg u8 ((J9 ro sh (J6 (⟨#[114, 97, 116, 99, 104, 101, 116]⟩)) (2 : Int)).getD 0 [])), (agg u8 ((J9 ro sh (J6 (⟨#[114, 97, 116, 99, 104, 101, 116]⟩)) (2 : Int)).getD 1 []))] ⟨⟨_, rfl, Xi Xf rfl Zi m25.h1 N8⟩, ⟨_, rfl, Xi Xf rfl Zi m25.h0 N8⟩, trivial⟩ ?_
 exact ⟨by unfold Ya Yq D7; rfl, m25.toExt⟩
set_option maxHeartbeats 2000000 in
theorem Qoe (ro ow pu ot : Zj) (w0 : World)  (hT : Tabs (Yn w0)) (hro : ro.length = 32) (how : ow.length = 32) (hpu : pu.length = 32) (hot : ot.length = 32) : Xm prog 16 #[(agg u8 ro), (Value.agg (Qp [ow.map u8, pu.map u8])), (agg u8 ot)] w0 (fun r w1 => r = (Value.agg (Qp (sE (Ya ro (Qi ow ot)) ow ot true false (Yq ro (Qi ow ot)) (List.replicate 32 0) 0 0 0 Jp))) ∧ Ext w0 w1) := by
 refine Qy (args := [(agg u8 ro), (Value.agg (Qp [ow.map u8, pu.map u8])), (agg u8 ot)]) func16 rfl ntmps16 results16 rfl ?_
 have m0 : Mem w0 (Qu w0) [] := Mem.of_world w0
 have ht0 := Hy ro (Qi ow ot)
 have ht1 := D9 ro (Qi ow ot)
 have hml := Jy ow ot
 refine sR <| Y5 (Zw (f := u8) (l := ro) m0 rfl) fun w1 b3 m1 => Y5 (Uk (cs := (Qp [ow.map u8, pu.map u8])) m1 rfl) fun w2 b4 m2 => Y5 (Zw (f := u8) (l := ot) m2 rfl) fun w3 b5 m3 => Y5 (Yu m3 Jo) fun w4 b6 m4 => ?_
 refine rN (Qc ?_)
 refine Ju Xh ?_
 have hFM5 : Mem w4 (Qu w0) ([(b6, .cells (Qp (sE (List.replicate 32 0) (List.replicate 32 0) (List.replicate 32 0) false false (List.replicate 32 0) (List.replicate 32 0) 0 0 0 Jp)) 26 (0, 0))] ++ [(b5, .cells (cl u8 ot) 23 (0, 0)), (b4, .cells (Qp [ow.map u8, pu.map u8]) 39 (0, 0)), (b3, .cells (cl u8 ro) 23 (0, 0))]) := m4
 obtain ⟨RM5, hRM5⟩ : ∃ R2, R2 = Rest.add (Qu w0) [(b5, .cells (cl u8 ot) 23 (0, 0)), (b4, .cells (Qp [ow.map u8, pu.map u8]) 39 (0, 0)), (b3, .cells (cl u8 ro) 23 (0, 0))] := ⟨_, rfl⟩
 have M50 : Mem w4 RM5 [(b6, .cells (Qp (sE (List.replicate 32 0) (List.replicate 32 0) (List.replicate 32 0) false false (List.replicate 32 0) (List.replicate 32 0) 0 0 0 Jp)) 26 (0, 0))] := by rw [hRM5]; exact Mem.give hFM5
 have ho6 : RM5.blk b5 = some (.cells (cl u8 ot) 23 (0, 0)) := by rw [hRM5]; exact Mem.addOwn hFM5 (List.Mem.head _)
 have ho7 : RM5.blk b4 = some (.cells (Qp [ow.map u8, pu.map u8]) 39 (0, 0)) := by rw [hRM5]; exact Mem.addOwn hFM5 (List.Mem.tail _ (List.Mem.head _))
 have ho8 : RM5.blk b3 = some (.cells (cl u8 ro) 23 (0, 0)) := by rw [hRM5]; exact Mem.addOwn hFM5 (List.Mem.tail _ (List.Mem.tail _ (List.Mem.head _)))
 have hT9 : Tabs RM5.blk := by rw [hRM5]; exact Tabs.mono hT fun b o e => Mem.addRest hFM5 e
 refine Ea M50 [(0, false), (1, false), (2, false), (3, false), (4, true)] 5 rfl Xh <| L9 rfl (Zd (r := 0) Qe5 rfl Yy Zi rfl rfl) <| yqH rfl (fun w _H _hx => Y8 0 Xf Zi rfl (_hx.rest _ _ ho7) rfl) <| yqH rfl (fun w _H _hx => Qw Xf rfl Zi rfl (_hx.rest _ _ ho6) N8) <| L9 rfl (Zd (r := 32) X6 rfl Yy Zi rfl rfl) ?_
 refine dk_n rfl (fun w10 e10 => ?_)
 have m10 := M50.ext e10
 refine J8.mono (Dp 1 (sE (List.replicate 32 0) ow (List.replicate 32 0) false false (List.replicate 32 0) (List.replicate 32 0) 0 0 0 Jp) Q9 Zi rfl rfl m10.h0 rfl) ?_
 rintro _ w11 uq11
 have m11 := m10.upd0 uq11
 refine ⟨⟨_, m11⟩, ?_⟩
 refine Ug m11 fun w12 m12 => ?_
 have hX13 := m12
 rw [hRM5] at hX13
 have m14 : Mem w12 (Qu w0) [(b6, .cells (Qp (sE (List.replicate 32 0) ow (List.replicate 32 0) false false (List.replicate 32 0) (List.replicate 32 0) 0 0 0 Jp)) 26 (0, 0)), (b5, .cells (cl u8 ot) 23 (0, 0)), (b4, .cells (Qp [ow.map u8, pu.map u8]) 39 (0, 0)), (b3, .cells (cl u8 ro) 23 (0, 0))] := ymA (Mem.back hFM5 hX13)
 refine Qd (Zd (r := 64) X6 rfl Yy Zi rfl rfl) <| Yb m14 (Dp 2 (sE (List.replicate 32 0) ow ot false false (List.replicate 32 0) (List.replicate 32 0) 0 0 0 Jp) Q9 Zi rfl rfl m14.h0 rfl) fun w15 m15 => Qd (Zd (r := 96) X6 rfl Yy ti4 rfl rfl) <| Yb m15 (Dn 3 (sE (List.replicate 32 0) ow ot true false (List.replicate 32 0) (List.replicate 32 0) 0 0 0 Jp) ti4 rfl rfl rfl m15.h0 rfl rfl) fun w16 m16 => ?_
 refine rN (Qc ?_)
 refine Ju Xh ?_
 have hFM17 : Mem w16 (Qu w0) ([(b6, .cells (Qp (sE (List.replicate 32 0) ow ot true false (List.replicate 32 0) (List.replicate 32 0) 0 0 0 Jp)) 26 (0, 0))] ++ [(b5, .cells (cl u8 ot) 23 (0, 0)), (b4, .cells (Qp [ow.map u8, pu.map u8]) 39 (0, 0)), (b3, .cells (cl u8 ro) 23 (0, 0))]) := m16
 obtain ⟨RM17, hRM17⟩ : ∃ R2, R2 = Rest.add (Qu w0) [(b5, .cells (cl u8 ot) 23 (0, 0)), (b4, .cells (Qp [ow.map u8, pu.map u8]) 39 (0, 0)), (b3, .cells (cl u8 ro) 23 (0, 0))] := ⟨_, rfl⟩
 have M170 : Mem w16 RM17 [(b6, .cells (Qp (sE (List.replicate 32 0) ow ot true false (List.replicate 32 0) (List.replicate 32 0) 0 0 0 Jp)) 26 (0, 0))] := by rw [hRM17]; exact Mem.give hFM17
 have ho18 : RM17.blk b5 = some (.cells (cl u8 ot) 23 (0, 0)) := by rw [hRM17]; exact Mem.addOwn hFM17 (List.Mem.head _)
 have ho19 : RM17.blk b4 = some (.cells (Qp [ow.map u8, pu.map u8]) 39 (0, 0)) := by rw [hRM17]; exact Mem.addOwn hFM17 (List.Mem.tail _ (List.Mem.head _))
 have ho20 : RM17.blk b3 = some (.cells (cl u8 ro) 23 (0, 0)) := by rw [hRM17]; exact Mem.addOwn hFM17 (List.Mem.tail _ (List.Mem.tail _ (List.Mem.head _)))
 have hT21 : Tabs RM17.blk := by rw [hRM17]; exact Tabs.mono hT fun b o e => Mem.addRest hFM17 e
 refine Ea M170 [(0, false), (1, false), (2, false), (3, false), (4, false), (5, false), (6, false), (7, false), (8, false), (9, true)] 10 rfl Xh <| yqH rfl (fun w _H _hx => Qw Xf rfl Zi rfl (_hx.rest _ _ ho20) N8) <| yqH rfl (fun w _H _hx => Jt Qe5 Qec rfl (_hx.rest _ _ ho19)) <| yqH rfl (fun w _H _hx => Qw Xf rfl Zi rfl (_hx.rest _ _ ho18) N8) <| dk_x rfl rfl (fun w22 _Hw22 _hw22 => oc41 (X3 rfl rfl) (Qoc _ _ _ _ sL sL sL)) <| dk_x (v := (Value.tuple #[(agg u8 (Ya ro (Qi ow ot))), (agg u8 (Yq ro (Qi ow ot)))])) rfl rfl (fun w25 _Hw25 _hw25 => oc40 (X3 rfl rfl) (Qgc _ _ _ (hT21.mono fun b o e => (_hw25).rest b o e) sL sL)) <| L9 rfl (Ye rfl) <| L9 (v := (agg u8 (Ya ro (Qi ow ot)))) rfl (Zg rfl rfl) <| L9 (v := (agg u8 (Yq ro (Qi ow ot)))) rfl (Zg rfl rfl) <| L9 rfl (Zd (r := 0) X6 rfl Yy Zi rfl rfl) ?_
 refine dk_n rfl (fun w28 e28 => ?_)
 have m28 := M170.ext e28
 refine J8.mono (Dp 0 (sE (Ya ro (Qi ow ot)) ow ot true false (List.replicate 32 0) (List.replicate 32 0) 0 0 0 Jp) Q9 Zi rfl rfl m28.h0 rfl) ?_
 rintro _ w29 uq29
 have m29 := m28.upd0 uq29
 refine ⟨⟨_, m29⟩, ?_⟩
 refine Ug m29 fun w30 m30 => ?_
 have hX31 := m30
 rw [hRM17] at hX31
 have m32 : Mem w30 (Qu w0) [(b6, .cells (Qp (sE (Ya ro (Qi ow ot)) ow ot true false (List.replicate 32 0) (List.replicate 32 0) 0 0 0 Jp)) 26 (0, 0)), (b5, .cells (cl u8 ot) 23 (0, 0)), (b4, .cells (Qp [ow.map u8, pu.map u8]) 39 (0, 0)), (b3, .cells (cl u8 ro) 23 (0, 0))] := ymA (Mem.back hFM17 hX31)
 refine Qd (Zd (r := 98) X6 rfl Yy Zi rfl rfl) <| Yb m32 (Dp 5 (sE (Ya ro (Qi ow ot)) ow ot true false (Yq ro (Qi ow ot)) (List.replicate 32 0) 0 0 0 Jp) Q9 Zi rfl rfl m32.h0 rfl) fun w33 m33 => ?_
 refine rN (sR ?_)
 refine Qd (Jt X6 Jo rfl m33.h0) <| Yb m33 (Jw Jo rfl rfl m33.h0 (Us rfl)) fun w34 m34 => ?_
 refine rN (Zy ?_)
 refine Qs [(Value.agg (Qp (sE (Ya ro (Qi ow ot)) ow ot true false (Yq ro (Qi ow ot)) (List.replicate 32 0) 0 0 0 Jp)))] ⟨⟨_, rfl, Ku X6 Jo m34.h0⟩, trivial⟩ ?_
 exact ⟨rfl, m34.toExt⟩
set_option maxHeartbeats 2000000 in
theorem Qly (ro ow pu : Zj) (w0 : World)  (hro : ro.length = 32) (how : ow.length = 32) (hpu : pu.length = 32) : Xm prog 18 #[(agg u8 ro), (Value.agg (Qp [ow.map u8, pu.map u8]))] w0 (fun r w1 => r = (Value.agg (Qp (sE ro ow (List.replicate 32 0) false false (List.replicate 32 0) (List.replicate 32 0) 0 0 0 Jp))) ∧ Ext w0 w1) := by
 refine Qy (args := [(agg u8 ro), (Value.agg (Qp [ow.map u8, pu.map u8]))]) func18 rfl ntmps18 results18 rfl ?_
 have m0 : Mem w0 (Qu w0) [] := Mem.of_world w0
 refine sR <| Y5 (Zw (f := u8) (l := ro) m0 rfl) fun w1 b2 m1 => Y5 (Uk (cs := (Qp [ow.map u8, pu.map u8])) m1 rfl) fun w2 b3 m2 => Y5 (Yu m2 Jo) fun w3 b4 m3 => ?_
 refine rN (sR ?_)
 refine Qd (Qw Xf rfl Zi rfl m3.h2 N8) <| Qd (Zd (r := 0) Qe5 rfl Yy Zi rfl rfl) <| Qd (Y8 0 Xf Zi rfl m3.h1 rfl) <| Qd (Ky (c := (Qp (sE ro ow (List.replicate 32 0) false false (List.replicate 32 0) (List.replicate 32 0) 0 0 0 Jp))) (pl := [(0, 32), (32, 32), (64, 32), (96, 1), (97, 1), (98, 32), (130, 32), (162, 1), (163, 1), (164, 1), (165, 1)]) Jo X6 Xh (Yx (i := 0) (v := (agg u8 ro)) (cs := (cl u8 ro)) rfl rfl (Yx (i := 1) (v := (agg u8 ow)) (cs := (cl u8 ow)) rfl rfl V5)) (Vb (L := (sE (List.replicate 32 0) (List.replicate 32 0) (List.replicate 32 0) false false (List.replicate 32 0) (List.replicate 32 0) 0 0 0 Jp)) 0 (sE ro (List.replicate 32 0) (List.replicate 32 0) false false (List.replicate 32 0) (List.replicate 32 0) 0 0 0 Jp) rfl (Ws u8 _).symm rfl (Vb 1 (sE ro ow (List.replicate 32 0) false false (List.replicate 32 0) (List.replicate 32 0) 0 0 0 Jp) rfl (Ws u8 _).symm rfl Dc))) <| Yb m3 (Jw Jo rfl rfl m3.h0 (Us rfl)) fun w4 m4 => ?_
 refine rN (Zy ?_)
 refine Qs [(Value.agg (Qp (sE ro ow (List.replicate 32 0) false false (List.replicate 32 0) (List.replicate 32 0) 0 0 0 Jp)))] ⟨⟨_, rfl, Ku X6 Jo m4.h0⟩, trivial⟩ ?_
 exact ⟨rfl, m4.toExt⟩
set_option maxHeartbeats 2000000 in
theorem Ql1 (ra wa oa : Zj) (sb tb : Bool) (sa ta : Zj) (n1 n2 n3 : Int) (vk : Value) (ks : List Kp) (vb : Value) (lb : Zj) (vp : Value) (lp : Zj) (w0 : World)  (hl : ra.length = 32 ∧ wa.length = 32 ∧ oa.length = 32 ∧ sa.length = 32 ∧ ta.length = 32) (hk : RdK (Yn w0) Yz 65 vk ks) (hn : ks.length ≤ 1048576) (hrb : Rd (Yn w0) u8 vb lb) (hlb : lb.length ≤ 90000) (hrp : Rd (Yn w0) u8 vp lp) (hlp : lp.length ≤ 90000) (hn1 : 0 ≤ n1 ∧ n1 ≤ 2147483647) (hn3 : 0 ≤ n3 ∧ n3 ≤ 2147483647) (hsb : sb = false) : Xm prog 12 #[(Value.agg (Qp (sE ra wa oa sb tb sa ta n1 n2 n3 vk))), vb, vp] w0 (fun r w1 => r = (Value.tuple #[(Value.agg (Qp (sE ra wa oa sb tb sa ta n1 n2 n3 vk))), Jp, (i64 13)]) ∧ Ext w0 w1) := by
 refine Qy (args := [(Value.agg (Qp (sE ra wa oa sb tb sa ta n1 n2 n3 vk))), vb, vp]) func12 rfl ntmps12 results12 rfl ?_
 have m0 : Mem w0 (Qu w0) [] := Mem.of_world w0
 obtain ⟨hl1, hl2, hl3, hl4, hl5⟩ := hl
 have hnsb : (!sb) = true := by rw [hsb]; rfl
 refine sR <| Y5 (Uk (cs := (Qp (sE ra wa oa sb tb sa ta n1 n2 n3 vk))) m0 rfl) fun w1 b3 m1 => Y5 (Yu m1 Jo) fun w2 b6 m2 => Zv Jp <| Zv (i64 0) ?_
 refine rN (Qc (Qj (sR ?_)))
 refine Qd (Zd (r := 96) X6 rfl Yy ti4 rfl rfl) <| Qd (Yp 3 uT4 rfl m2.h1 rfl) <| Qd (Qac rfl) <| Zv (bl (!sb)) <| rN <| Qx rfl hnsb <| sR <| Qd (Jt X6 Jo rfl m2.h1) <| Yb m2 (Jw Jo rfl rfl m2.h0 (Us (RdK.one (RdK.ofRest hk m2)))) fun w3 m3 => Zv Jp <| Zv (i64 13) ?_
 refine rN (Zy ?_)
 refine Qco <| Qs [(Value.agg (Qp (sE ra wa oa sb tb sa ta n1 n2 n3 vk))), Jp, (i64 13)] ⟨⟨_, rfl, Ku X6 Jo m3.h0⟩, rfl, rfl, trivial⟩ ?_
 exact ⟨rfl, m3.toExt⟩
set_option maxHeartbeats 2000000 in
theorem Ql2 (ra wa oa : Zj) (sb tb : Bool) (sa ta : Zj) (n1 n2 n3 : Int) (vk : Value) (ks : List Kp) (vb : Value) (lb : Zj) (vp : Value) (lp : Zj) (w0 : World)  (hl : ra.length = 32 ∧ wa.length = 32 ∧ oa.length = 32 ∧ sa.length = 32 ∧ ta.length = 32) (hk : RdK (Yn w0) Yz 65 vk ks) (hn : ks.length ≤ 1048576) (hrb : Rd (Yn w0) u8 vb lb) (hlb : lb.length ≤ 90000) (hrp : Rd (Yn w0) u8 vp lp) (hlp : lp.length ≤ 90000) (hn1 : 0 ≤ n1 ∧ n1 ≤ 2147483647) (hn3 : 0 ≤ n3 ∧ n3 ≤ 2147483647) (hsb : sb = true) (hmost : n1 = 2147483647) : Xm prog 12 #[(Value.agg (Qp (sE ra wa oa sb tb sa ta n1 n2 n3 vk))), vb, vp] w0 (fun r w1 => r = (Value.tuple #[(Value.agg (Qp (sE ra wa oa sb tb sa ta n1 n2 n3 vk))), Jp, (i64 12)]) ∧ Ext w0 w1) := by
 refine Qy (args := [(Value.agg (Qp (sE ra wa oa sb tb sa ta n1 n2 n3 vk))), vb, vp]) func12 rfl ntmps12 results12 rfl ?_
 have m0 : Mem w0 (Qu w0) [] := Mem.of_world w0
 obtain ⟨hl1, hl2, hl3, hl4, hl5⟩ := hl
 have hnsb : (!sb) = false := by rw [hsb]; rfl
 refine sR <| Y5 (Uk (cs := (Qp (sE ra wa oa sb tb sa ta n1 n2 n3 vk))) m0 rfl) fun w1 b3 m1 => Y5 (Yu m1 Jo) fun w2 b6 m2 => Zv Jp <| Zv (i64 0) ?_
 refine rN (Qc (Qj (sR ?_)))
 refine Qd (Zd (r := 96) X6 rfl Yy ti4 rfl rfl) <| Qd (Yp 3 uT4 rfl m2.h1 rfl) <| Qd (Qac rfl) <| Zv (bl (!sb)) <| rN <| Ym rfl hnsb <| sR <| Qd (Zd (r := 162) X6 rfl Yy Dj rfl rfl) <| Qd (Yp 7 Di rfl m2.h1 rfl) <| Qd (Eu (b := 2147483647) rfl rfl) <| Zv (bl (decide (2147483647 ≤ n1))) <| rN ?_
 have hd3 : (decide (2147483647 ≤ n1)) = true := decide_eq_true oM
 refine Qx rfl hd3 <| sR <| Qd (Jt X6 Jo rfl m2.h1) <| Yb m2 (Jw Jo rfl rfl m2.h0 (Us (RdK.one (RdK.ofRest hk m2)))) fun w4 m4 => Zv Jp <| Zv (i64 12) ?_
 refine rN (Zy ?_)
 refine Qco <| Qs [(Value.agg (Qp (sE ra wa oa sb tb sa ta n1 n2 n3 vk))), Jp, (i64 12)] ⟨⟨_, rfl, Ku X6 Jo m4.h0⟩, rfl, rfl, trivial⟩ ?_
 exact ⟨rfl, m4.toExt⟩
set_option maxHeartbeats 2000000 in
theorem c_enc19 (ra wa oa : Zj) (sb tb : Bool) (sa ta : Zj) (n1 n2 n3 : Int) (vk : Value) (ks : List Kp) (vb : Value) (lb : Zj) (vp : Value) (lp : Zj) (w0 : World)  (hT : Tabs (Yn w0)) (hl : ra.length = 32 ∧ wa.length = 32 ∧ oa.length = 32 ∧ sa.length = 32 ∧ ta.length = 32) (hk : RdK (Yn w0) Yz 65 vk ks) (hn : ks.length ≤ 1048576) (hrb : Rd (Yn w0) u8 vb lb) (hlb : lb.length ≤ 90000) (hrp : Rd (Yn w0) u8 vp lp) (hlp : lp.length ≤ 90000) (hn1 : 0 ≤ n1 ∧ n1 ≤ 2147483647) (hn3 : 0 ≤ n3 ∧ n3 ≤ 2147483647) (hsb : sb = true) (hless : n1 < 2147483647) : Xm prog 12 #[(Value.agg (Qp (sE ra wa oa sb tb sa ta n1 n2 n3 vk))), vb, vp] w0 (fun r w1 => ∃ vk2 Hk2 vc Hc, r = Value.tuple #[(Value.agg (Qp (sE ra wa oa sb tb (Zu sa [2#8]) ta (n1 + 1) n2 n3 vk2))), vc, i64 0] ∧ Yf Yz 65 69 vk2 ks Hk2 ∧ Xl u8 5 vc (Gy wa sa n3 n1 lb lp) Hc ∧ Mem w1 (Qu w0) (Hk2 ++ Hc)) := by
 refine Qy (args := [(Value.agg (Qp (sE ra wa oa sb tb sa ta n1 n2 n3 vk))), vb, vp]) func12 rfl ntmps12 results12 rfl ?_
 have m0 : Mem w0 (Qu w0) [] := Mem.of_world w0
 obtain ⟨hl1, hl2, hl3, hl4, hl5⟩ := hl
 have hnsb : (!sb) = false := by rw [hsb]; rfl
 have hhl := Qay (p := n3) (n := n1) (Jy wa Q7)
 have hc1 : (Zu sa [1#8]).length = 32 := Jd _ _
 have hc2 : (Zu sa [2#8]).length = 32 := Jd _ _
 have hml := Jy wa Q7
 have hcl := Eh (key := Zu sa [1#8]) (nz := List.replicate 12 0) (beside := lb ++ Wi (Qi wa Q7) n3 n1) (plain := lp)
 refine sR <| Y5 (Uk (cs := (Qp (sE ra wa oa sb tb sa ta n1 n2 n3 vk))) m0 rfl) fun w1 b3 m1 => Y5 (Yu m1 Jo) fun w2 b6 m2 => Zv Jp <| Zv (i64 0) ?_
 refine rN (Qc (Qj (sR ?_)))
 refine Qd (Zd (r := 96) X6 rfl Yy ti4 rfl rfl) <| Qd (Yp 3 uT4 rfl m2.h1 rfl) <| Qd (Qac rfl) <| Zv (bl (!sb)) <| rN <| Ym rfl hnsb <| sR <| Qd (Zd (r := 162) X6 rfl Yy Dj rfl rfl) <| Qd (Yp 7 Di rfl m2.h1 rfl) <| Qd (Eu (b := 2147483647) rfl rfl) <| Zv (bl (decide (2147483647 ≤ n1))) <| rN ?_
 have hd3 : (decide (2147483647 ≤ n1)) = false := decide_eq_false oM
 refine Ym rfl hd3 ?_
 refine Qo (Qh (sR ?_))
 refine Qd (Jt X6 Jo rfl m2.h1) <| Yb m2 (Jw Jo rfl rfl m2.h0 (Us (RdK.one (RdK.ofRest hk m2)))) fun w4 m4 => ?_
 refine rN (sR ?_)
 refine Qd (Zd (r := 165) X6 rfl Yy Ah rfl rfl) <| Qd (Yp 10 Gt rfl m4.h1 rfl) <| G5 (oc29 (Jb rfl) (Qky vk ks _ (RdK.ofRest hk m4) sL)) ?_
 rintro rq6 w5 ⟨Hsq6, grq6, k_w5⟩
 have m5 : Mem _ _ (Hsq6 ++ ([_, _])) := Mem.new (H := [_, _]) (H' := Hsq6) m4 k_w5
 refine Qd (Zd (r := 165) X6 rfl Yy Ah rfl rfl) <| Ve (Dn 10 (sE ra wa oa sb tb sa ta n1 n2 n3 rq6) Ah rfl rfl grq6.one ((Mem.pick Hsq6 [_] _ m5)).h0 rfl rfl) ?_
 rintro _ w7 uq7
 have m7 : Mem _ _ ([_] ++ (Hsq6 ++ ([_]))) := Mem.upd0 (Mem.pick Hsq6 [_] _ m5) uq7
 refine rN (Qc ?_)
 refine Xj (dl 7) 7 Xh <| Xq rfl (Zd (r := 32) X6 rfl Yy Zi rfl rfl) <| Y6 rfl (fun _ e' => Y8 1 Xf Zi rfl ((Mem.pick2 [_] Hsq6 [_] _ (m7.ext e'))).h0 rfl) <| U4 rfl rfl (fun w8 e8 => oc31 (Jb rfl) (Qhp _ _ sL)) <| Xq rfl (Zd (r := 164) X6 rfl Yy Dj rfl rfl) <| Y6 rfl (fun _ e' => Yp 9 Di rfl ((Mem.pick2 [_] Hsq6 [_] _ (m7.ext e'))).h0 rfl) <| Xq rfl (Zd (r := 162) X6 rfl Yy Dj rfl rfl) <| Y6 rfl (fun _ e' => Yp 7 Di rfl ((Mem.pick2 [_] Hsq6 [_] _ (m7.ext e'))).h0 rfl) <| Ug m7 fun w11 m11 => Qd (Ky (c := (Qp (sH (Qi wa Q7) n3 n1))) (pl := [(0, 32), (32, 1), (33, 1)]) Qa6 La Xh (Yx (i := 0) (v := (agg u8 (Qi wa Q7))) (cs := (cl u8 (Qi wa Q7))) rfl rfl (Yx (i := 1) (v := (i64 n3)) (cs := #[(i64 n3)]) rfl rfl (Yx (i := 2) (v := (i64 n1)) (cs := #[(i64 n1)]) rfl rfl V5))) (Vb (L := (sH (List.replicate 32 0) 0 0)) 0 (sH (Qi wa Q7) 0 0) rfl (Ws u8 _).symm rfl (Vb 1 (sH (Qi wa Q7) n3 0) rfl rfl rfl (Vb 2 (sH (Qi wa Q7) n3 n1) rfl rfl rfl Dc)))) <| G5 (oc30 (Jb rfl) (c_header _ _ _ _ sL sL sL)) ?_
 rintro rq13 w12 ⟨Hsq13, grq13, k_w12⟩
 have m12 : Mem _ _ (Hsq13 ++ ([_] ++ (Hsq6 ++ ([_])))) := Mem.new (H := [_] ++ (Hsq6 ++ ([_]))) (H' := Hsq13) m11 k_w12
 refine Zv rq13 ?_
 refine rN (sR ?_)
 refine Y5 (Zf m12 Zi) fun w14 b10 m14 => ?_
 refine rN (sR ?_)
 refine Qd (Zd (r := 98) X6 rfl Yy Zi rfl rfl) <| Qd (Y8 5 Xf Zi rfl ((Mem.pick4 [_] Hsq13 [_] Hsq6 [_] _ m14)).h0 rfl) <| Dx m14 (oc32 (Jb rfl) (Qlw _ _ (hT.mono fun b o e => (m14).rest b o e) sL)) fun w15 m15 => Zb (Value.tuple #[(agg u8 (Zu sa [2#8])), (agg u8 (Zu sa [1#8]))]) <| Qd (v := (agg u8 (Zu sa [2#8]))) (Zg rfl rfl) <| Qd (v := (agg u8 (Zu sa [1#8]))) (Zg rfl rfl) <| Qd (Zd (r := 98) X6 rfl Yy Zi rfl rfl) <| Ve (Dp 5 (sE ra wa oa sb tb (Zu sa [2#8]) ta n1 n2 n3 rq6) Q9 Zi rfl rfl ((Mem.pick2 [_] Hsq13 [_] _ m15)).h0 rfl) ?_
 rintro _ w17 uq17
 have m17 : Mem _ _ ([_, _] ++ (Hsq13 ++ (Hsq6 ++ ([_])))) := Mem.upd0 (Mem.pick2 [_] Hsq13 [_] _ m15) uq17
 refine Vq m17 (Qq (f := u8) (l := Zu sa [1#8]) Q9 Zi rfl rfl sL m17.h1 N8 rfl) fun w18 m18 => ?_
 refine rN (sR ?_)
 refine Qd (Zd (r := 162) X6 rfl Yy Dj rfl rfl) <| Qd (Yp 7 Di rfl m18.h0 rfl) <| Qd (Z9 (b := 1) rfl rfl oM oM) <| Qd (Zd (r := 162) X6 rfl Yy Dj rfl rfl) <| Yb m18 (Dn 7 (sE ra wa oa sb tb (Zu sa [2#8]) ta (n1 + 1) n2 n3 rq6) Dj rfl rfl (Jn _) m18.h0 rfl rfl) fun w19 m19 => ?_
 refine rN (Qc ?_)
 refine Ju Xh ?_
 have m20 := (Mem.pick3 [_, _] Hsq13 Hsq6 [_] _ m19)
 have m21 := (Mem.pick2 [_, _, _] Hsq13 Hsq6 _ m20)
 have m22 := (Mem.pick2 Hsq6 [_, _] [_] _ m21)
 have m23 := (Mem.pick3 [_] Hsq6 [_] [_] _ m22)
 have m24 := (Mem.pick3 [_, _] Hsq6 [_] Hsq13 _ m23)
 have hFM25 : Mem w19 (Qu w0) ((Hsq13 ++ ([])) ++ ([(b6, .cells (Qp (sE ra wa oa sb tb (Zu sa [2#8]) ta (n1 + 1) n2 n3 rq6)) 26 (0, 0)), (b10, .cells (cl u8 (Zu sa [1#8])) 23 (0, 0))] ++ (Hsq6 ++ ([(b3, .cells (Qp (sE ra wa oa sb tb sa ta n1 n2 n3 vk)) 26 (0, 0))])))) := ymA m24
 obtain ⟨RM25, hRM25⟩ : ∃ R2, R2 = Rest.add (Qu w0) ([(b6, .cells (Qp (sE ra wa oa sb tb (Zu sa [2#8]) ta (n1 + 1) n2 n3 rq6)) 26 (0, 0)), (b10, .cells (cl u8 (Zu sa [1#8])) 23 (0, 0))] ++ (Hsq6 ++ ([(b3, .cells (Qp (sE ra wa oa sb tb sa ta n1 n2 n3 vk)) 26 (0, 0))]))) := ⟨_, rfl⟩
 have M250 : Mem w19 RM25 (Hsq13 ++ ([])) := by rw [hRM25]; exact Mem.give hFM25
 have hr26 : Rd RM25.blk u8 vb lb := by rw [hRM25]; exact Rd.mono hrb fun b o e => Mem.addRest hFM25 e
 have hr27 : Rd RM25.blk u8 vp lp := by rw [hRM25]; exact Rd.mono hrp fun b o e => Mem.addRest hFM25 e
 have hr28 : RdK RM25.blk Yz 65 vk ks := by rw [hRM25]; exact RdK.mono hk fun b o e => Mem.addRest hFM25 e
 have hg29 : RdK RM25.blk Yz 65 rq6 ks := grq6.rdIn (fun p hp => by rw [hRM25]; exact Mem.addOwn hFM25 (List.mem_append_right _ (List.mem_append_left _ hp)))
 have ho30 : RM25.blk b6 = some (.cells (Qp (sE ra wa oa sb tb (Zu sa [2#8]) ta (n1 + 1) n2 n3 rq6)) 26 (0, 0)) := by rw [hRM25]; exact Mem.addOwn hFM25 (List.mem_append_left _ (List.Mem.head _))
 have ho31 : RM25.blk b10 = some (.cells (cl u8 (Zu sa [1#8])) 23 (0, 0)) := by rw [hRM25]; exact Mem.addOwn hFM25 (List.mem_append_left _ (List.Mem.tail _ (List.Mem.head _)))
 have ho32 : RM25.blk b3 = some (.cells (Qp (sE ra wa oa sb tb sa ta n1 n2 n3 vk)) 26 (0, 0)) := by rw [hRM25]; exact Mem.addOwn hFM25 (List.mem_append_right _ (List.mem_append_right _ (List.Mem.head _)))
 have hT33 : Tabs RM25.blk := by rw [hRM25]; exact Tabs.mono hT fun b o e => Mem.addRest hFM25 e
 refine Ea M250 [(0, false), (1, false), (2, false), (3, false), (4, false), (6, false), (8, false), (5, true), (7, true), (9, true), (10, true)] 11 rfl Xh <| yqH rfl (fun w _H _hx => Jt X6 Jo rfl (_hx.rest _ _ ho30)) <| L9 rfl (Ye (v := rq13) rfl) <| yqH rfl (fun w _H _hx => Qw Xf rfl Zi rfl (_hx.rest _ _ ho31) N8) <| L9 rfl (Hu (ps := []) (c := (cl u8 (List.replicate 12 0))) Qb4 Sl Yw Xk rfl) <| L9 rfl (Ye (v := vb) rfl) <| L9 rfl (Ye (v := rq13) rfl) <| L9 rfl (Ye (v := vp) rfl) ?_
 refine Qf7 rfl rfl (fun w34 e34 => ?_)
 have m34 := M250.ext e34
 refine J8.mono (oc34 (Jb rfl) (Rt vb lb _ (Rd.ofRest hr26 m34) sL)) ?_
 rintro rq36 w35 ⟨Hsq36, grq36, k_w35⟩
 have m35 : Mem _ _ (Hsq36 ++ (Hsq13 ++ ([]))) := Mem.new (H := Hsq13 ++ ([])) (H' := Hsq36) m34 k_w35
 refine ⟨⟨_, m35⟩, ?_⟩
 refine Qf7 rfl rfl (fun w37 e37 => ?_)
 have m37 := m35.ext e37
 refine J8.mono (Yl (f := u8) (Hs := Hsq36) (H := Hsq13 ++ ([])) m37 grq36 rfl rfl (grq13.rd (Mem.pick Hsq36 Hsq13 _ m37)) Zx Zx Yw rfl Q9 sL sL) ?_
 rintro sv38 w38 ⟨Hs38, m38, g38⟩
 replace g38 : Xl u8 5 sv38 (lb ++ (Wi (Qi wa Q7) n3 n1)) Hs38 := g38
 refine ⟨⟨_, m38⟩, ?_⟩
 refine Qf7 rfl rfl (fun w39 e39 => ?_)
 have m39 := m38.ext e39
 refine J8.mono (oc33 (Qao rfl rfl rfl rfl) (c_seal _ _ sv38 (lb ++ (Wi (Qi wa Q7) n3 n1)) vp lp _ (hT33.mono fun b o e => (m39).rest b o e) sL sL (g38.rd m39) sL (Rd.ofRest hr27 m39) sL)) ?_
 rintro rxq41 w40 ⟨Hsq41, grxq41, k_w40⟩
 have m40 : Mem _ _ (Hsq41 ++ (Hs38 ++ (Hsq13 ++ ([])))) := Mem.new (H := Hs38 ++ (Hsq13 ++ ([]))) (H' := Hsq41) m39 k_w40
 refine ⟨⟨_, m40⟩, ?_⟩
 refine Qf7 rfl rfl (fun w42 e42 => ?_)
 have m42 := m40.ext e42
 refine J8.mono (Yl (f := u8) (Hs := Hsq13) (H := Hsq41 ++ (Hs38 ++ ([]))) (Mem.pick2 Hsq41 Hs38 Hsq13 _ m42) grq13 rfl rfl (grxq41.rd m42) Zx Zx Yw rfl Q9 sL sL) ?_
 rintro sv43 w43 ⟨Hs43, m43, g43⟩
 replace g43 : Xl u8 5 sv43 ((Wi (Qi wa Q7) n3 n1) ++ (Ko (Zu sa [1#8]) (List.replicate 12 0) (lb ++ (Wi (Qi wa Q7) n3 n1)) lp)) Hs43 := g43
 refine ⟨⟨_, m43⟩, ?_⟩
 refine Ug m43 fun w44 m44 => ?_
 have hX45 := m44
 rw [hRM25] at hX45
 have m46 : Mem w44 (Qu w0) (Hs43 ++ (Hsq41 ++ (Hs38 ++ ([(b6, .cells (Qp (sE ra wa oa sb tb (Zu sa [2#8]) ta (n1 + 1) n2 n3 rq6)) 26 (0, 0)), (b10, .cells (cl u8 (Zu sa [1#8])) 23 (0, 0))] ++ (Hsq6 ++ ([(b3, .cells (Qp (sE ra wa oa sb tb sa ta n1 n2 n3 vk)) 26 (0, 0))])))))) := ymA (Mem.back hFM25 hX45)
 refine Ve (Jw Jo rfl rfl ((Mem.pick3 Hs43 Hsq41 Hs38 [_] _ m46)).h0 (Us grq6.one)) ?_
 rintro _ w47 uq47
 have m47 : Mem _ _ ([_] ++ (Hs43 ++ (Hsq41 ++ (Hs38 ++ ([_] ++ (Hsq6 ++ ([_]))))))) := Mem.upd0 (Mem.pick3 Hs43 Hsq41 Hs38 [_] _ m46) uq47
 refine Zv sv43 <| Zv (i64 0) <| rN ?_
 have m48 := Mem.drop Hsq41 _ (Mem.pick2 [_] Hs43 Hsq41 _ m47)
 have m49 := Mem.drop Hs38 _ (Mem.pick2 [_] Hs43 Hs38 _ m48)
 refine Zy <| Qs [(Value.agg (Qp (sE ra wa oa sb tb (Zu sa [2#8]) ta (n1 + 1) n2 n3 rq6))), sv43, (i64 0)] ⟨⟨_, rfl, Ku X6 Jo m49.h0⟩, rfl, rfl, trivial⟩ ?_
 have m50 := Mem.drop [_] _ m49
 have m51 := Mem.drop [_] _ (Mem.pick Hs43 [_] _ m50)
 have m52 := Mem.drop [_] _ (Mem.pick2 Hs43 Hsq6 [_] _ m51)
 have m53 := (Mem.pick Hs43 Hsq6 _ m52)
 exact ⟨rq6, Hsq6, sv43, Hs43, rfl, grq6, Xl.cast g43 (by unfold Gy; simp only [List.append_assoc]), (by
  have hT := m53
  try simp only [List.append_assoc, List.cons_append, List.nil_append, List.append_nil] at hT ⊢
  exact hT)⟩
end Go.Proofs.YtkmiemlpfkfiiaaDoor
