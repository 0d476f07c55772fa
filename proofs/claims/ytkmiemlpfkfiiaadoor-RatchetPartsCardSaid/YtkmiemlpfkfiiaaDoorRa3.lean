/- The ratchet: roots, sessions begun, what is enciphered. Conditions: none beyond those that each theorem states. -/
import Derived.Test.YtkmiemlpfkfiiaaDoorRa2
namespace Go.Proofs.YtkmiemlpfkfiiaaDoor
open Tryd
set_option linter.unusedVariables false
set_option linter.unusedSimpArgs false
def Eh (root sh : Xg) : List Xg := Wp root sh (Kv ⟨#[114, 97, 116, 99, 104, 101, 116]⟩) 2
def Yg (root sh : Xg) : Xg := (Eh root sh).getD 0 []
def Jj (root sh : Xg) : Xg := (Eh root sh).getD 1 []
theorem Qij (root sh : Xg) : Eh root sh = Dh 2 (Vd (Wn root sh) (Kv ⟨#[114, 97, 116, 99, 104, 101, 116]⟩) 64) := Qbt Jg Jg
theorem Qkk (root sh : Xg) : (Eh root sh).length = 2 := by rw [Qij]; exact Qdh _ _
theorem Dj (root sh : Xg) : (Yg root sh).length = 32 := by unfold Yg; rw [Qij]; exact Qdu Jg (by rw [Dt])
theorem Ed (root sh : Xg) : (Jj root sh).length = 32 := by unfold Jj; rw [Qij]; exact Qdu Jg (by rw [Dt])
def Tc (own chain : Xg) (p n : Int) (beside plain : Xg) : Xg :=
 Ae (Qe own Qi) p n ++ F6 (Xk chain [1#8]) (List.replicate 12 0) (beside ++ Ae (Qe own Qi) p n) plain
attribute [local irreducible] Eh Yg Jj Tc Wp Vd Wn Xk Ae Qc5 F6 Qe Qi
set_option maxHeartbeats 2000000 in
theorem Qjp (ro sh : Xg) (w0 : World)  (hT : Tabs (Jl w0)) (hro : ro.length = 32) (hsh : sh.length = 32) : X9 prog 40 #[(agg u8 ro), (agg u8 sh)] w0 (fun r w1 => r = (Value.tuple #[(agg u8 (Yg ro sh)), (agg u8 (Jj ro sh))]) ∧ Ext w0 w1) := by
 refine Zb (args := [(agg u8 ro), (agg u8 sh)]) func40 rfl ntmps40 results40 rfl ?_
 have m0 : Mem w0 (Qu w0) [] := Mem.of_world w0
 have htl := Qkk ro sh
 have ht0 := Dj ro sh
 have ht1 := Ed ro sh
 unfold Yg at ht0; unfold Jj at ht1
 unfold Eh at htl ht0 ht1
 refine sR <| Y9 (Xa (f := u8) (l := ro) m0 rfl) fun w1 b2 m1 => Y9 (Xa (f := u8) (l := sh) m1 rfl) fun w2 b3 m2 => Y9 (Zc m2 Zl) fun w3 b4 m3 => Y9 (Zc m3 Zl) fun w4 b5 m4 => ?_
 refine rN (Qa ?_)
 refine Xl [(0, false), (1, false), (2, true), (3, false), (4, false), (5, false), (6, false)] 7 Xw <| Yb rfl (Xo (i := 0) (j := 32) Xq Y0 rfl (Zi _ _) (Zi _ _) oM sL sL) <| Yb rfl (Xo (i := 0) (j := 32) Xq Y0 rfl (Zi _ _) (Zi _ _) oM sL sL) ?_
 refine Cj rfl rfl (fun w5 e5 => ?_)
 have m5 := m4.ext e5
 refine Vp.mono (oc73 (Hm rfl rfl rfl rfl) (c_keys (sla b2 0 1 0 32 32) ro (sla b3 0 1 0 32 32) sh (⟨#[114, 97, 116, 99, 104, 101, 116]⟩) _ _ (hT.mono fun b o e => (m5).rest b o e) (Rd.slaAll m5.h3 sL) sL (Rd.slaAll m5.h2 sL) sL sL sL)) ?_
 rintro _ w6 ⟨vxq7, Hsq7, rfl, gvxq7, k_w6⟩
 refine ⟨k_w6.toExt, ?_⟩
 have m6 : Mem _ _ (Hsq7 ++ ([_, _, _, _])) := Mem.new (H := [_, _, _, _]) (H' := Hsq7) m5 k_w6
 refine Ky rfl (Value.tuple #[vxq7, (i64 (Qfs (2 : Int)))]) <| Yb (v := vxq7) rfl (Zm rfl rfl) <| Yb (v := (i64 (Qfs (2 : Int)))) rfl (Zm rfl rfl) <| Yb rfl (Uw (v := vxq7) rfl) <| Gs m6 fun w8 m8 => Zz (i64 (Qfs (2 : Int))) ?_
 refine rN (Qa ?_)
 refine Kr Xw ?_
 have m9 := (Mem.pick2 Hsq7 [_, _, _] [_] _ m8)
 have m10 := (Mem.pick3 [_] Hsq7 [_, _] [_] _ m9)
 have m11 := (Mem.pick2 [_, _] Hsq7 [_] _ m10)
 have m12 := (Mem.pick [_, _, _] Hsq7 _ m11)
 have m13 := (Mem.pick2 Hsq7 [_, _, _] [_] _ m12)
 have hFM14 : Mem w8 (Qu w0) ([(b4, .cells (cl u8 (List.replicate 32 0)) 23 (0, 0))] ++ (Hsq7 ++ ([(b5, .cells (cl u8 (List.replicate 32 0)) 23 (0, 0)), (b3, .cells (cl u8 sh) 23 (0, 0)), (b2, .cells (cl u8 ro) 23 (0, 0))]))) := m13
 obtain ⟨RM14, hRM14⟩ : ∃ R2, R2 = Rest.add (Qu w0) (Hsq7 ++ ([(b5, .cells (cl u8 (List.replicate 32 0)) 23 (0, 0)), (b3, .cells (cl u8 sh) 23 (0, 0)), (b2, .cells (cl u8 ro) 23 (0, 0))])) := ⟨_, rfl⟩
 have M140 : Mem w8 RM14 [(b4, .cells (cl u8 (List.replicate 32 0)) 23 (0, 0))] := by rw [hRM14]; exact Mem.give hFM14
 have hg15 : RdK RM14.blk (Ug u8) 32 vxq7 (Wp ro sh (Kv (⟨#[114, 97, 116, 99, 104, 101, 116]⟩)) (2 : Int)) := gvxq7.rdIn (fun p hp => by rw [hRM14]; exact Mem.addOwn hFM14 (List.mem_append_left _ hp))
 have ho16 : RM14.blk b5 = some (.cells (cl u8 (List.replicate 32 0)) 23 (0, 0)) := by rw [hRM14]; exact Mem.addOwn hFM14 (List.mem_append_right _ (List.Mem.head _))
 have ho17 : RM14.blk b3 = some (.cells (cl u8 sh) 23 (0, 0)) := by rw [hRM14]; exact Mem.addOwn hFM14 (List.mem_append_right _ (List.Mem.tail _ (List.Mem.head _)))
 have ho18 : RM14.blk b2 = some (.cells (cl u8 ro) 23 (0, 0)) := by rw [hRM14]; exact Mem.addOwn hFM14 (List.mem_append_right _ (List.Mem.tail _ (List.Mem.tail _ (List.Mem.head _))))
 have hT19 : Tabs RM14.blk := by rw [hRM14]; exact Tabs.mono hT fun b o e => Mem.addRest hFM14 e
 refine Dl M140 [(0, false), (1, false), (2, false), (3, false), (4, false), (5, false), (6, true)] 7 rfl Xw <| N8 rfl (Yp (v := vxq7) rfl) <| yqH rfl (fun w _H _hx => Jb (i := 0) (RdK.ofRest hg15 _hx) Qcx Zl rfl rfl oM sL) <| yqH (v := (agg u8 ((Wp ro sh (Kv (⟨#[114, 97, 116, 99, 104, 101, 116]⟩)) (2 : Int)).getD 0 []))) rfl (fun w _H _hx => D9 (i := (0 : Int)) (RdK.ofRest hg15 _hx) sL Xq Zl rfl rfl) <| N8 rfl (Yp (v := vxq7) rfl) <| yqH rfl (fun w _H _hx => Jb (i := 1) (RdK.ofRest hg15 _hx) Qcx Zl rfl rfl oM sL) <| yqH (v := (agg u8 ((Wp ro sh (Kv (⟨#[114, 97, 116, 99, 104, 101, 116]⟩)) (2 : Int)).getD 1 []))) rfl (fun w _H _hx => D9 (i := (1 : Int)) (RdK.ofRest hg15 _hx) sL Xq Zl rfl rfl) ?_
 refine Qgu rfl (fun w20 e20 => ?_)
 have m20 := M140.ext e20
 refine Vp.mono (Qj (f := u8) (l := (Wp ro sh (Kv (⟨#[114, 97, 116, 99, 104, 101, 116]⟩)) (2 : Int)).getD 0 []) Qy Zl rfl rfl sL m20.h0 Nj rfl) ?_
 rintro _ w21 uq21
 have m21 := m20.upd0 uq21
 refine ⟨⟨_, m21⟩, ?_⟩
 refine Gs m21 fun w22 m22 => ?_
 have hX23 := m22
 rw [hRM14] at hX23
 have m24 : Mem w22 (Qu w0) ([(b4, .cells (cl u8 ((Wp ro sh (Kv (⟨#[114, 97, 116, 99, 104, 101, 116]⟩)) (2 : Int)).getD 0 [])) 23 (0, 0))] ++ (Hsq7 ++ ([(b5, .cells (cl u8 (List.replicate 32 0)) 23 (0, 0)), (b3, .cells (cl u8 sh) 23 (0, 0)), (b2, .cells (cl u8 ro) 23 (0, 0))]))) := ymA (Mem.back hFM14 hX23)
 refine Vk (Qj (f := u8) (l := (Wp ro sh (Kv (⟨#[114, 97, 116, 99, 104, 101, 116]⟩)) (2 : Int)).getD 1 []) Qy Zl rfl rfl sL ((Mem.pick2 [_] Hsq7 [_] _ m24)).h0 Nj rfl) ?_
 rintro _ w25 uq25
 have m25 : Mem _ _ ([_, _] ++ (Hsq7 ++ ([_, _]))) := Mem.upd0 (Mem.pick2 [_] Hsq7 [_] _ m24) uq25
 refine rN (Xb ?_)
 refine Qv [(agg u8 ((Wp ro sh (Kv (⟨#[114, 97, 116, 99, 104, 101, 116]⟩)) (2 : Int)).getD 0 [])), (agg u8 ((Wp ro sh (Kv (⟨#[114, 97, 116, 99, 104, 101, 116]⟩)) (2 : Int)).getD 1 []))] ⟨⟨_, rfl, Xr Xq rfl Zl m25.h1 Nj⟩, ⟨_, rfl, Xr Xq rfl Zl m25.h0 Nj⟩, trivial⟩ ?_
 exact ⟨by unfold Yg Jj Eh; rfl, m25.toExt⟩
set_option maxHeartbeats 2000000 in
theorem Qsa (ro ow pu ot : Xg) (w0 : World)  (hT : Tabs (Jl w0)) (hro : ro.length = 32) (how : ow.length = 32) (hpu : pu.length = 32) (hot : ot.length = 32) : X9 prog 16 #[(agg u8 ro), (Value.agg (Qo [ow.map u8, pu.map u8])), (agg u8 ot)] w0 (fun r w1 => r = (Value.agg (Qo (sE (Yg ro (Qe ow ot)) ow ot true false (Jj ro (Qe ow ot)) (List.replicate 32 0) 0 0 0 Yj))) ∧ Ext w0 w1) := by
 refine Zb (args := [(agg u8 ro), (Value.agg (Qo [ow.map u8, pu.map u8])), (agg u8 ot)]) func16 rfl ntmps16 results16 rfl ?_
 have m0 : Mem w0 (Qu w0) [] := Mem.of_world w0
 have ht0 := Dj ro (Qe ow ot)
 have ht1 := Ed ro (Qe ow ot)
 have hml := Ei ow ot
 refine sR <| Y9 (Xa (f := u8) (l := ro) m0 rfl) fun w1 b3 m1 => Y9 (F8 (cs := (Qo [ow.map u8, pu.map u8])) m1 rfl) fun w2 b4 m2 => Y9 (Xa (f := u8) (l := ot) m2 rfl) fun w3 b5 m3 => Y9 (Ji m3 Ja) fun w4 b6 m4 => ?_
 refine rN (Qa ?_)
 refine Kr Xw ?_
 have hFM5 : Mem w4 (Qu w0) ([(b6, .cells (Qo (sE (List.replicate 32 0) (List.replicate 32 0) (List.replicate 32 0) false false (List.replicate 32 0) (List.replicate 32 0) 0 0 0 Yj)) 26 (0, 0))] ++ [(b5, .cells (cl u8 ot) 23 (0, 0)), (b4, .cells (Qo [ow.map u8, pu.map u8]) 39 (0, 0)), (b3, .cells (cl u8 ro) 23 (0, 0))]) := m4
 obtain ⟨RM5, hRM5⟩ : ∃ R2, R2 = Rest.add (Qu w0) [(b5, .cells (cl u8 ot) 23 (0, 0)), (b4, .cells (Qo [ow.map u8, pu.map u8]) 39 (0, 0)), (b3, .cells (cl u8 ro) 23 (0, 0))] := ⟨_, rfl⟩
 have M50 : Mem w4 RM5 [(b6, .cells (Qo (sE (List.replicate 32 0) (List.replicate 32 0) (List.replicate 32 0) false false (List.replicate 32 0) (List.replicate 32 0) 0 0 0 Yj)) 26 (0, 0))] := by rw [hRM5]; exact Mem.give hFM5
 have ho6 : RM5.blk b5 = some (.cells (cl u8 ot) 23 (0, 0)) := by rw [hRM5]; exact Mem.addOwn hFM5 (List.Mem.head _)
 have ho7 : RM5.blk b4 = some (.cells (Qo [ow.map u8, pu.map u8]) 39 (0, 0)) := by rw [hRM5]; exact Mem.addOwn hFM5 (List.Mem.tail _ (List.Mem.head _))
 have ho8 : RM5.blk b3 = some (.cells (cl u8 ro) 23 (0, 0)) := by rw [hRM5]; exact Mem.addOwn hFM5 (List.Mem.tail _ (List.Mem.tail _ (List.Mem.head _)))
 have hT9 : Tabs RM5.blk := by rw [hRM5]; exact Tabs.mono hT fun b o e => Mem.addRest hFM5 e
 refine Dl M50 [(0, false), (1, false), (2, false), (3, false), (4, true)] 5 rfl Xw <| N8 rfl (Zr (r := 0) Qih rfl Jr Zl rfl rfl) <| yqH rfl (fun w _H _hx => Jv 0 Xq Zl rfl (_hx.rest _ _ ho7) rfl) <| yqH rfl (fun w _H _hx => Qp Xq rfl Zl rfl (_hx.rest _ _ ho6) Nj) <| N8 rfl (Zr (r := 32) X3 rfl Jr Zl rfl rfl) ?_
 refine Qgu rfl (fun w10 e10 => ?_)
 have m10 := M50.ext e10
 refine Vp.mono (Uj 1 (sE (List.replicate 32 0) ow (List.replicate 32 0) false false (List.replicate 32 0) (List.replicate 32 0) 0 0 0 Yj) Qy Zl rfl rfl m10.h0 rfl) ?_
 rintro _ w11 uq11
 have m11 := m10.upd0 uq11
 refine ⟨⟨_, m11⟩, ?_⟩
 refine Gs m11 fun w12 m12 => ?_
 have hX13 := m12
 rw [hRM5] at hX13
 have m14 : Mem w12 (Qu w0) [(b6, .cells (Qo (sE (List.replicate 32 0) ow (List.replicate 32 0) false false (List.replicate 32 0) (List.replicate 32 0) 0 0 0 Yj)) 26 (0, 0)), (b5, .cells (cl u8 ot) 23 (0, 0)), (b4, .cells (Qo [ow.map u8, pu.map u8]) 39 (0, 0)), (b3, .cells (cl u8 ro) 23 (0, 0))] := ymA (Mem.back hFM5 hX13)
 refine Qd (Zr (r := 64) X3 rfl Jr Zl rfl rfl) <| Ye m14 (Uj 2 (sE (List.replicate 32 0) ow ot false false (List.replicate 32 0) (List.replicate 32 0) 0 0 0 Yj) Qy Zl rfl rfl m14.h0 rfl) fun w15 m15 => Qd (Zr (r := 96) X3 rfl Jr ti4 rfl rfl) <| Ye m15 (Ui 3 (sE (List.replicate 32 0) ow ot true false (List.replicate 32 0) (List.replicate 32 0) 0 0 0 Yj) ti4 rfl rfl rfl m15.h0 rfl rfl) fun w16 m16 => ?_
 refine rN (Qa ?_)
 refine Kr Xw ?_
 have hFM17 : Mem w16 (Qu w0) ([(b6, .cells (Qo (sE (List.replicate 32 0) ow ot true false (List.replicate 32 0) (List.replicate 32 0) 0 0 0 Yj)) 26 (0, 0))] ++ [(b5, .cells (cl u8 ot) 23 (0, 0)), (b4, .cells (Qo [ow.map u8, pu.map u8]) 39 (0, 0)), (b3, .cells (cl u8 ro) 23 (0, 0))]) := m16
 obtain ⟨RM17, hRM17⟩ : ∃ R2, R2 = Rest.add (Qu w0) [(b5, .cells (cl u8 ot) 23 (0, 0)), (b4, .cells (Qo [ow.map u8, pu.map u8]) 39 (0, 0)), (b3, .cells (cl u8 ro) 23 (0, 0))] := ⟨_, rfl⟩
 have M170 : Mem w16 RM17 [(b6, .cells (Qo (sE (List.replicate 32 0) ow ot true false (List.replicate 32 0) (List.replicate 32 0) 0 0 0 Yj)) 26 (0, 0))] := by rw [hRM17]; exact Mem.give hFM17
 have ho18 : RM17.blk b5 = some (.cells (cl u8 ot) 23 (0, 0)) := by rw [hRM17]; exact Mem.addOwn hFM17 (List.Mem.head _)
 have ho19 : RM17.blk b4 = some (.cells (Qo [ow.map u8, pu.map u8]) 39 (0, 0)) := by rw [hRM17]; exact Mem.addOwn hFM17 (List.Mem.tail _ (List.Mem.head _))
 have ho20 : RM17.blk b3 = some (.cells (cl u8 ro) 23 (0, 0)) := by rw [hRM17]; exact Mem.addOwn hFM17 (List.Mem.tail _ (List.Mem.tail _ (List.Mem.head _)))
 have hT21 : Tabs RM17.blk := by rw [hRM17]; exact Tabs.mono hT fun b o e => Mem.addRest hFM17 e
 refine Dl M170 [(0, false), (1, false), (2, false), (3, false), (4, false), (5, false), (6, false), (7, false), (8, false), (9, true)] 10 rfl Xw <| yqH rfl (fun w _H _hx => Qp Xq rfl Zl rfl (_hx.rest _ _ ho20) Nj) <| yqH rfl (fun w _H _hx => Jk Qih Qhp rfl (_hx.rest _ _ ho19)) <| yqH rfl (fun w _H _hx => Qp Xq rfl Zl rfl (_hx.rest _ _ ho18) Nj) <| dk_x rfl rfl (fun w22 _Hw22 _hw22 => oc41 (Xm rfl rfl) (Qr6 _ _ _ _ sL sL sL)) <| dk_x (v := (Value.tuple #[(agg u8 (Yg ro (Qe ow ot))), (agg u8 (Jj ro (Qe ow ot)))])) rfl rfl (fun w25 _Hw25 _hw25 => oc40 (Xm rfl rfl) (Qjp _ _ _ (hT21.mono fun b o e => (_hw25).rest b o e) sL sL)) <| N8 rfl (Yp rfl) <| N8 (v := (agg u8 (Yg ro (Qe ow ot)))) rfl (Zm rfl rfl) <| N8 (v := (agg u8 (Jj ro (Qe ow ot)))) rfl (Zm rfl rfl) <| N8 rfl (Zr (r := 0) X3 rfl Jr Zl rfl rfl) ?_
 refine Qgu rfl (fun w28 e28 => ?_)
 have m28 := M170.ext e28
 refine Vp.mono (Uj 0 (sE (Yg ro (Qe ow ot)) ow ot true false (List.replicate 32 0) (List.replicate 32 0) 0 0 0 Yj) Qy Zl rfl rfl m28.h0 rfl) ?_
 rintro _ w29 uq29
 have m29 := m28.upd0 uq29
 refine ⟨⟨_, m29⟩, ?_⟩
 refine Gs m29 fun w30 m30 => ?_
 have hX31 := m30
 rw [hRM17] at hX31
 have m32 : Mem w30 (Qu w0) [(b6, .cells (Qo (sE (Yg ro (Qe ow ot)) ow ot true false (List.replicate 32 0) (List.replicate 32 0) 0 0 0 Yj)) 26 (0, 0)), (b5, .cells (cl u8 ot) 23 (0, 0)), (b4, .cells (Qo [ow.map u8, pu.map u8]) 39 (0, 0)), (b3, .cells (cl u8 ro) 23 (0, 0))] := ymA (Mem.back hFM17 hX31)
 refine Qd (Zr (r := 98) X3 rfl Jr Zl rfl rfl) <| Ye m32 (Uj 5 (sE (Yg ro (Qe ow ot)) ow ot true false (Jj ro (Qe ow ot)) (List.replicate 32 0) 0 0 0 Yj) Qy Zl rfl rfl m32.h0 rfl) fun w33 m33 => ?_
 refine rN (sR ?_)
 refine Qd (Jk X3 Ja rfl m33.h0) <| Ye m33 (J8 Ja rfl rfl m33.h0 (Gx rfl)) fun w34 m34 => ?_
 refine rN (Xb ?_)
 refine Qv [(Value.agg (Qo (sE (Yg ro (Qe ow ot)) ow ot true false (Jj ro (Qe ow ot)) (List.replicate 32 0) 0 0 0 Yj)))] ⟨⟨_, rfl, J4 X3 Ja m34.h0⟩, trivial⟩ ?_
 exact ⟨rfl, m34.toExt⟩
set_option maxHeartbeats 2000000 in
theorem Qpq (ro ow pu : Xg) (w0 : World)  (hro : ro.length = 32) (how : ow.length = 32) (hpu : pu.length = 32) : X9 prog 18 #[(agg u8 ro), (Value.agg (Qo [ow.map u8, pu.map u8]))] w0 (fun r w1 => r = (Value.agg (Qo (sE ro ow (List.replicate 32 0) false false (List.replicate 32 0) (List.replicate 32 0) 0 0 0 Yj))) ∧ Ext w0 w1) := by
 refine Zb (args := [(agg u8 ro), (Value.agg (Qo [ow.map u8, pu.map u8]))]) func18 rfl ntmps18 results18 rfl ?_
 have m0 : Mem w0 (Qu w0) [] := Mem.of_world w0
 refine sR <| Y9 (Xa (f := u8) (l := ro) m0 rfl) fun w1 b2 m1 => Y9 (F8 (cs := (Qo [ow.map u8, pu.map u8])) m1 rfl) fun w2 b3 m2 => Y9 (Ji m2 Ja) fun w3 b4 m3 => ?_
 refine rN (sR ?_)
 refine Qd (Qp Xq rfl Zl rfl m3.h2 Nj) <| Qd (Zr (r := 0) Qih rfl Jr Zl rfl rfl) <| Qd (Jv 0 Xq Zl rfl m3.h1 rfl) <| Qd (Va (c := (Qo (sE ro ow (List.replicate 32 0) false false (List.replicate 32 0) (List.replicate 32 0) 0 0 0 Yj))) (pl := [(0, 32), (32, 32), (64, 32), (96, 1), (97, 1), (98, 32), (130, 32), (162, 1), (163, 1), (164, 1), (165, 1)]) Ja X3 Xw (J3 (i := 0) (v := (agg u8 ro)) (cs := (cl u8 ro)) rfl rfl (J3 (i := 1) (v := (agg u8 ow)) (cs := (cl u8 ow)) rfl rfl V3)) (V9 (L := (sE (List.replicate 32 0) (List.replicate 32 0) (List.replicate 32 0) false false (List.replicate 32 0) (List.replicate 32 0) 0 0 0 Yj)) 0 (sE ro (List.replicate 32 0) (List.replicate 32 0) false false (List.replicate 32 0) (List.replicate 32 0) 0 0 0 Yj) rfl (Gt u8 _).symm rfl (V9 1 (sE ro ow (List.replicate 32 0) false false (List.replicate 32 0) (List.replicate 32 0) 0 0 0 Yj) rfl (Gt u8 _).symm rfl Dq))) <| Ye m3 (J8 Ja rfl rfl m3.h0 (Gx rfl)) fun w4 m4 => ?_
 refine rN (Xb ?_)
 refine Qv [(Value.agg (Qo (sE ro ow (List.replicate 32 0) false false (List.replicate 32 0) (List.replicate 32 0) 0 0 0 Yj)))] ⟨⟨_, rfl, J4 X3 Ja m4.h0⟩, trivial⟩ ?_
 exact ⟨rfl, m4.toExt⟩
set_option maxHeartbeats 2000000 in
theorem Qpx (ra wa oa : Xg) (sb tb : Bool) (sa ta : Xg) (n1 n2 n3 : Int) (vk : Value) (ks : List Kp) (vb : Value) (lb : Xg) (vp : Value) (lp : Xg) (w0 : World)  (hl : ra.length = 32 ∧ wa.length = 32 ∧ oa.length = 32 ∧ sa.length = 32 ∧ ta.length = 32) (hk : RdK (Jl w0) Jt 65 vk ks) (hn : ks.length ≤ 1048576) (hrb : Rd (Jl w0) u8 vb lb) (hlb : lb.length ≤ 90000) (hrp : Rd (Jl w0) u8 vp lp) (hlp : lp.length ≤ 90000) (hn1 : 0 ≤ n1 ∧ n1 ≤ 2147483647) (hn3 : 0 ≤ n3 ∧ n3 ≤ 2147483647) (hsb : sb = false) : X9 prog 12 #[(Value.agg (Qo (sE ra wa oa sb tb sa ta n1 n2 n3 vk))), vb, vp] w0 (fun r w1 => r = (Value.tuple #[(Value.agg (Qo (sE ra wa oa sb tb sa ta n1 n2 n3 vk))), Yj, (i64 13)]) ∧ Ext w0 w1) := by
 refine Zb (args := [(Value.agg (Qo (sE ra wa oa sb tb sa ta n1 n2 n3 vk))), vb, vp]) func12 rfl ntmps12 results12 rfl ?_
 have m0 : Mem w0 (Qu w0) [] := Mem.of_world w0
 obtain ⟨hl1, hl2, hl3, hl4, hl5⟩ := hl
 have hnsb : (!sb) = true := by rw [hsb]; rfl
 refine sR <| Y9 (F8 (cs := (Qo (sE ra wa oa sb tb sa ta n1 n2 n3 vk))) m0 rfl) fun w1 b3 m1 => Y9 (Ji m1 Ja) fun w2 b6 m2 => Zz Yj <| Zz (i64 0) ?_
 refine rN (Qa (Qk (sR ?_)))
 refine Qd (Zr (r := 96) X3 rfl Jr ti4 rfl rfl) <| Qd (Y8 3 uT4 rfl m2.h1 rfl) <| Qd (Ut rfl) <| Zz (bl (!sb)) <| rN <| Za rfl hnsb <| sR <| Qd (Jk X3 Ja rfl m2.h1) <| Ye m2 (J8 Ja rfl rfl m2.h0 (Gx (RdK.one (RdK.ofRest hk m2)))) fun w3 m3 => Zz Yj <| Zz (i64 13) ?_
 refine rN (Xb ?_)
 refine La <| Qv [(Value.agg (Qo (sE ra wa oa sb tb sa ta n1 n2 n3 vk))), Yj, (i64 13)] ⟨⟨_, rfl, J4 X3 Ja m3.h0⟩, rfl, rfl, trivial⟩ ?_
 exact ⟨rfl, m3.toExt⟩
set_option maxHeartbeats 2000000 in
theorem Qpy (ra wa oa : Xg) (sb tb : Bool) (sa ta : Xg) (n1 n2 n3 : Int) (vk : Value) (ks : List Kp) (vb : Value) (lb : Xg) (vp : Value) (lp : Xg) (w0 : World)  (hl : ra.length = 32 ∧ wa.length = 32 ∧ oa.length = 32 ∧ sa.length = 32 ∧ ta.length = 32) (hk : RdK (Jl w0) Jt 65 vk ks) (hn : ks.length ≤ 1048576) (hrb : Rd (Jl w0) u8 vb lb) (hlb : lb.length ≤ 90000) (hrp : Rd (Jl w0) u8 vp lp) (hlp : lp.length ≤ 90000) (hn1 : 0 ≤ n1 ∧ n1 ≤ 2147483647) (hn3 : 0 ≤ n3 ∧ n3 ≤ 2147483647) (hsb : sb = true) (hmost : n1 = 2147483647) : X9 prog 12 #[(Value.agg (Qo (sE ra wa oa sb tb sa ta n1 n2 n3 vk))), vb, vp] w0 (fun r w1 => r = (Value.tuple #[(Value.agg (Qo (sE ra wa oa sb tb sa ta n1 n2 n3 vk))), Yj, (i64 12)]) ∧ Ext w0 w1) := by
 refine Zb (args := [(Value.agg (Qo (sE ra wa oa sb tb sa ta n1 n2 n3 vk))), vb, vp]) func12 rfl ntmps12 results12 rfl ?_
 have m0 : Mem w0 (Qu w0) [] := Mem.of_world w0
 obtain ⟨hl1, hl2, hl3, hl4, hl5⟩ := hl
 have hnsb : (!sb) = false := by rw [hsb]; rfl
 refine sR <| Y9 (F8 (cs := (Qo (sE ra wa oa sb tb sa ta n1 n2 n3 vk))) m0 rfl) fun w1 b3 m1 => Y9 (Ji m1 Ja) fun w2 b6 m2 => Zz Yj <| Zz (i64 0) ?_
 refine rN (Qa (Qk (sR ?_)))
 refine Qd (Zr (r := 96) X3 rfl Jr ti4 rfl rfl) <| Qd (Y8 3 uT4 rfl m2.h1 rfl) <| Qd (Ut rfl) <| Zz (bl (!sb)) <| rN <| Yy rfl hnsb <| sR <| Qd (Zr (r := 162) X3 rfl Jr U0 rfl rfl) <| Qd (Y8 7 Fj rfl m2.h1 rfl) <| Qd (E8 (b := 2147483647) rfl rfl) <| Zz (bl (decide (2147483647 ≤ n1))) <| rN ?_
 have hd3 : (decide (2147483647 ≤ n1)) = true := decide_eq_true oM
 refine Za rfl hd3 <| sR <| Qd (Jk X3 Ja rfl m2.h1) <| Ye m2 (J8 Ja rfl rfl m2.h0 (Gx (RdK.one (RdK.ofRest hk m2)))) fun w4 m4 => Zz Yj <| Zz (i64 12) ?_
 refine rN (Xb ?_)
 refine La <| Qv [(Value.agg (Qo (sE ra wa oa sb tb sa ta n1 n2 n3 vk))), Yj, (i64 12)] ⟨⟨_, rfl, J4 X3 Ja m4.h0⟩, rfl, rfl, trivial⟩ ?_
 exact ⟨rfl, m4.toExt⟩
set_option maxHeartbeats 2000000 in
theorem c_enc19 (ra wa oa : Xg) (sb tb : Bool) (sa ta : Xg) (n1 n2 n3 : Int) (vk : Value) (ks : List Kp) (vb : Value) (lb : Xg) (vp : Value) (lp : Xg) (w0 : World)  (hT : Tabs (Jl w0)) (hl : ra.length = 32 ∧ wa.length = 32 ∧ oa.length = 32 ∧ sa.length = 32 ∧ ta.length = 32) (hk : RdK (Jl w0) Jt 65 vk ks) (hn : ks.length ≤ 1048576) (hrb : Rd (Jl w0) u8 vb lb) (hlb : lb.length ≤ 90000) (hrp : Rd (Jl w0) u8 vp lp) (hlp : lp.length ≤ 90000) (hn1 : 0 ≤ n1 ∧ n1 ≤ 2147483647) (hn3 : 0 ≤ n3 ∧ n3 ≤ 2147483647) (hsb : sb = true) (hless : n1 < 2147483647) : X9 prog 12 #[(Value.agg (Qo (sE ra wa oa sb tb sa ta n1 n2 n3 vk))), vb, vp] w0 (fun r w1 => ∃ vk2 Hk2 vc Hc, r = Value.tuple #[(Value.agg (Qo (sE ra wa oa sb tb (Xk sa [2#8]) ta (n1 + 1) n2 n3 vk2))), vc, i64 0] ∧ Yz Jt 65 69 vk2 ks Hk2 ∧ Xe u8 5 vc (Tc wa sa n3 n1 lb lp) Hc ∧ Mem w1 (Qu w0) (Hk2 ++ Hc)) := by
 refine Zb (args := [(Value.agg (Qo (sE ra wa oa sb tb sa ta n1 n2 n3 vk))), vb, vp]) func12 rfl ntmps12 results12 rfl ?_
 have m0 : Mem w0 (Qu w0) [] := Mem.of_world w0
 obtain ⟨hl1, hl2, hl3, hl4, hl5⟩ := hl
 have hnsb : (!sb) = false := by rw [hsb]; rfl
 have hhl := Qkz (p := n3) (n := n1) (Ei wa Qi)
 have hc1 : (Xk sa [1#8]).length = 32 := Gi _ _
 have hc2 : (Xk sa [2#8]).length = 32 := Gi _ _
 have hml := Ei wa Qi
 have hcl := Qef (key := Xk sa [1#8]) (nz := List.replicate 12 0) (beside := lb ++ Ae (Qe wa Qi) n3 n1) (plain := lp)
 refine sR <| Y9 (F8 (cs := (Qo (sE ra wa oa sb tb sa ta n1 n2 n3 vk))) m0 rfl) fun w1 b3 m1 => Y9 (Ji m1 Ja) fun w2 b6 m2 => Zz Yj <| Zz (i64 0) ?_
 refine rN (Qa (Qk (sR ?_)))
 refine Qd (Zr (r := 96) X3 rfl Jr ti4 rfl rfl) <| Qd (Y8 3 uT4 rfl m2.h1 rfl) <| Qd (Ut rfl) <| Zz (bl (!sb)) <| rN <| Yy rfl hnsb <| sR <| Qd (Zr (r := 162) X3 rfl Jr U0 rfl rfl) <| Qd (Y8 7 Fj rfl m2.h1 rfl) <| Qd (E8 (b := 2147483647) rfl rfl) <| Zz (bl (decide (2147483647 ≤ n1))) <| rN ?_
 have hd3 : (decide (2147483647 ≤ n1)) = false := decide_eq_false oM
 refine Yy rfl hd3 ?_
 refine Qs (Qh (sR ?_))
 refine Qd (Jk X3 Ja rfl m2.h1) <| Ye m2 (J8 Ja rfl rfl m2.h0 (Gx (RdK.one (RdK.ofRest hk m2)))) fun w4 m4 => ?_
 refine rN (sR ?_)
 refine Qd (Zr (r := 165) X3 rfl Jr Aq rfl rfl) <| Qd (Y8 10 Gu rfl m4.h1 rfl) <| Vy (oc29 (Kt rfl) (Qn5 vk ks _ (RdK.ofRest hk m4) sL)) ?_
 rintro rq6 w5 ⟨Hsq6, grq6, k_w5⟩
 have m5 : Mem _ _ (Hsq6 ++ ([_, _])) := Mem.new (H := [_, _]) (H' := Hsq6) m4 k_w5
 refine Qd (Zr (r := 165) X3 rfl Jr Aq rfl rfl) <| Vk (Ui 10 (sE ra wa oa sb tb sa ta n1 n2 n3 rq6) Aq rfl rfl grq6.one ((Mem.pick Hsq6 [_] _ m5)).h0 rfl rfl) ?_
 rintro _ w7 uq7
 have m7 : Mem _ _ ([_] ++ (Hsq6 ++ ([_]))) := Mem.upd0 (Mem.pick Hsq6 [_] _ m5) uq7
 refine rN (Qa ?_)
 refine Xl (dl 7) 7 Xw <| Yb rfl (Zr (r := 32) X3 rfl Jr Zl rfl rfl) <| Yn rfl (fun _ e' => Jv 1 Xq Zl rfl ((Mem.pick2 [_] Hsq6 [_] _ (m7.ext e'))).h0 rfl) <| Vg rfl rfl (fun w8 e8 => oc31 (Kt rfl) (Qle _ _ sL)) <| Yb rfl (Zr (r := 164) X3 rfl Jr U0 rfl rfl) <| Yn rfl (fun _ e' => Y8 9 Fj rfl ((Mem.pick2 [_] Hsq6 [_] _ (m7.ext e'))).h0 rfl) <| Yb rfl (Zr (r := 162) X3 rfl Jr U0 rfl rfl) <| Yn rfl (fun _ e' => Y8 7 Fj rfl ((Mem.pick2 [_] Hsq6 [_] _ (m7.ext e'))).h0 rfl) <| Gs m7 fun w11 m11 => Qd (Va (c := (Qo (sH (Qe wa Qi) n3 n1))) (pl := [(0, 32), (32, 1), (33, 1)]) Ap Ea Xw (J3 (i := 0) (v := (agg u8 (Qe wa Qi))) (cs := (cl u8 (Qe wa Qi))) rfl rfl (J3 (i := 1) (v := (i64 n3)) (cs := #[(i64 n3)]) rfl rfl (J3 (i := 2) (v := (i64 n1)) (cs := #[(i64 n1)]) rfl rfl V3))) (V9 (L := (sH (List.replicate 32 0) 0 0)) 0 (sH (Qe wa Qi) 0 0) rfl (Gt u8 _).symm rfl (V9 1 (sH (Qe wa Qi) n3 0) rfl rfl rfl (V9 2 (sH (Qe wa Qi) n3 n1) rfl rfl rfl Dq)))) <| Vy (oc30 (Kt rfl) (c_header _ _ _ _ sL sL sL)) ?_
 rintro rq13 w12 ⟨Hsq13, grq13, k_w12⟩
 have m12 : Mem _ _ (Hsq13 ++ ([_] ++ (Hsq6 ++ ([_])))) := Mem.new (H := [_] ++ (Hsq6 ++ ([_]))) (H' := Hsq13) m11 k_w12
 refine Zz rq13 ?_
 refine rN (sR ?_)
 refine Y9 (Zc m12 Zl) fun w14 b10 m14 => ?_
 refine rN (sR ?_)
 refine Qd (Zr (r := 98) X3 rfl Jr Zl rfl rfl) <| Qd (Jv 5 Xq Zl rfl ((Mem.pick4 [_] Hsq13 [_] Hsq6 [_] _ m14)).h0 rfl) <| U9 m14 (oc32 (Kt rfl) (Qpo _ _ (hT.mono fun b o e => (m14).rest b o e) sL)) fun w15 m15 => Zp (Value.tuple #[(agg u8 (Xk sa [2#8])), (agg u8 (Xk sa [1#8]))]) <| Qd (v := (agg u8 (Xk sa [2#8]))) (Zm rfl rfl) <| Qd (v := (agg u8 (Xk sa [1#8]))) (Zm rfl rfl) <| Qd (Zr (r := 98) X3 rfl Jr Zl rfl rfl) <| Vk (Uj 5 (sE ra wa oa sb tb (Xk sa [2#8]) ta n1 n2 n3 rq6) Qy Zl rfl rfl ((Mem.pick2 [_] Hsq13 [_] _ m15)).h0 rfl) ?_
 rintro _ w17 uq17
 have m17 : Mem _ _ ([_, _] ++ (Hsq13 ++ (Hsq6 ++ ([_])))) := Mem.upd0 (Mem.pick2 [_] Hsq13 [_] _ m15) uq17
 refine Vz m17 (Qj (f := u8) (l := Xk sa [1#8]) Qy Zl rfl rfl sL m17.h1 Nj rfl) fun w18 m18 => ?_
 refine rN (sR ?_)
 refine Qd (Zr (r := 162) X3 rfl Jr U0 rfl rfl) <| Qd (Y8 7 Fj rfl m18.h0 rfl) <| Qd (Zg (b := 1) rfl rfl oM oM) <| Qd (Zr (r := 162) X3 rfl Jr U0 rfl rfl) <| Ye m18 (Ui 7 (sE ra wa oa sb tb (Xk sa [2#8]) ta (n1 + 1) n2 n3 rq6) U0 rfl rfl (Z4 _) m18.h0 rfl rfl) fun w19 m19 => ?_
 refine rN (Qa ?_)
 refine Kr Xw ?_
 have m20 := (Mem.pick3 [_, _] Hsq13 Hsq6 [_] _ m19)
 have m21 := (Mem.pick2 [_, _, _] Hsq13 Hsq6 _ m20)
 have m22 := (Mem.pick2 Hsq6 [_, _] [_] _ m21)
 have m23 := (Mem.pick3 [_] Hsq6 [_] [_] _ m22)
 have m24 := (Mem.pick3 [_, _] Hsq6 [_] Hsq13 _ m23)
 have hFM25 : Mem w19 (Qu w0) ((Hsq13 ++ ([])) ++ ([(b6, .cells (Qo (sE ra wa oa sb tb (Xk sa [2#8]) ta (n1 + 1) n2 n3 rq6)) 26 (0, 0)), (b10, .cells (cl u8 (Xk sa [1#8])) 23 (0, 0))] ++ (Hsq6 ++ ([(b3, .cells (Qo (sE ra wa oa sb tb sa ta n1 n2 n3 vk)) 26 (0, 0))])))) := ymA m24
 obtain ⟨RM25, hRM25⟩ : ∃ R2, R2 = Rest.add (Qu w0) ([(b6, .cells (Qo (sE ra wa oa sb tb (Xk sa [2#8]) ta (n1 + 1) n2 n3 rq6)) 26 (0, 0)), (b10, .cells (cl u8 (Xk sa [1#8])) 23 (0, 0))] ++ (Hsq6 ++ ([(b3, .cells (Qo (sE ra wa oa sb tb sa ta n1 n2 n3 vk)) 26 (0, 0))]))) := ⟨_, rfl⟩
 have M250 : Mem w19 RM25 (Hsq13 ++ ([])) := by rw [hRM25]; exact Mem.give hFM25
 have hr26 : Rd RM25.blk u8 vb lb := by rw [hRM25]; exact Rd.mono hrb fun b o e => Mem.addRest hFM25 e
 have hr27 : Rd RM25.blk u8 vp lp := by rw [hRM25]; exact Rd.mono hrp fun b o e => Mem.addRest hFM25 e
 have hr28 : RdK RM25.blk Jt 65 vk ks := by rw [hRM25]; exact RdK.mono hk fun b o e => Mem.addRest hFM25 e
 have hg29 : RdK RM25.blk Jt 65 rq6 ks := grq6.rdIn (fun p hp => by rw [hRM25]; exact Mem.addOwn hFM25 (List.mem_append_right _ (List.mem_append_left _ hp)))
 have ho30 : RM25.blk b6 = some (.cells (Qo (sE ra wa oa sb tb (Xk sa [2#8]) ta (n1 + 1) n2 n3 rq6)) 26 (0, 0)) := by rw [hRM25]; exact Mem.addOwn hFM25 (List.mem_append_left _ (List.Mem.head _))
 have ho31 : RM25.blk b10 = some (.cells (cl u8 (Xk sa [1#8])) 23 (0, 0)) := by rw [hRM25]; exact Mem.addOwn hFM25 (List.mem_append_left _ (List.Mem.tail _ (List.Mem.head _)))
 have ho32 : RM25.blk b3 = some (.cells (Qo (sE ra wa oa sb tb sa ta n1 n2 n3 vk)) 26 (0, 0)) := by rw [hRM25]; exact Mem.addOwn hFM25 (List.mem_append_right _ (List.mem_append_right _ (List.Mem.head _)))
 have hT33 : Tabs RM25.blk := by rw [hRM25]; exact Tabs.mono hT fun b o e => Mem.addRest hFM25 e
 refine Dl M250 [(0, false), (1, false), (2, false), (3, false), (4, false), (6, false), (8, false), (5, true), (7, true), (9, true), (10, true)] 11 rfl Xw <| yqH rfl (fun w _H _hx => Jk X3 Ja rfl (_hx.rest _ _ ho30)) <| N8 rfl (Yp (v := rq13) rfl) <| yqH rfl (fun w _H _hx => Qp Xq rfl Zl rfl (_hx.rest _ _ ho31) Nj) <| N8 rfl (Vo (ps := []) (c := (cl u8 (List.replicate 12 0))) Qa9 Pj Y0 X7 rfl) <| N8 rfl (Yp (v := vb) rfl) <| N8 rfl (Yp (v := rq13) rfl) <| N8 rfl (Yp (v := vp) rfl) ?_
 refine Qeu rfl rfl (fun w34 e34 => ?_)
 have m34 := M250.ext e34
 refine Vp.mono (oc34 (Kt rfl) (Qcg vb lb _ (Rd.ofRest hr26 m34) sL)) ?_
 rintro rq36 w35 ⟨Hsq36, grq36, k_w35⟩
 have m35 : Mem _ _ (Hsq36 ++ (Hsq13 ++ ([]))) := Mem.new (H := Hsq13 ++ ([])) (H' := Hsq36) m34 k_w35
 refine ⟨⟨_, m35⟩, ?_⟩
 refine Qeu rfl rfl (fun w37 e37 => ?_)
 have m37 := m35.ext e37
 refine Vp.mono (Xp (f := u8) (Hs := Hsq36) (H := Hsq13 ++ ([])) m37 grq36 rfl rfl (grq13.rd (Mem.pick Hsq36 Hsq13 _ m37)) Zu Zu Y0 rfl Qy sL sL) ?_
 rintro sv38 w38 ⟨Hs38, m38, g38⟩
 replace g38 : Xe u8 5 sv38 (lb ++ (Ae (Qe wa Qi) n3 n1)) Hs38 := g38
 refine ⟨⟨_, m38⟩, ?_⟩
 refine Qeu rfl rfl (fun w39 e39 => ?_)
 have m39 := m38.ext e39
 refine Vp.mono (oc33 (Hm rfl rfl rfl rfl) (c_seal _ _ sv38 (lb ++ (Ae (Qe wa Qi) n3 n1)) vp lp _ (hT33.mono fun b o e => (m39).rest b o e) sL sL (g38.rd m39) sL (Rd.ofRest hr27 m39) sL)) ?_
 rintro rxq41 w40 ⟨Hsq41, grxq41, k_w40⟩
 have m40 : Mem _ _ (Hsq41 ++ (Hs38 ++ (Hsq13 ++ ([])))) := Mem.new (H := Hs38 ++ (Hsq13 ++ ([]))) (H' := Hsq41) m39 k_w40
 refine ⟨⟨_, m40⟩, ?_⟩
 refine Qeu rfl rfl (fun w42 e42 => ?_)
 have m42 := m40.ext e42
 refine Vp.mono (Xp (f := u8) (Hs := Hsq13) (H := Hsq41 ++ (Hs38 ++ ([]))) (Mem.pick2 Hsq41 Hs38 Hsq13 _ m42) grq13 rfl rfl (grxq41.rd m42) Zu Zu Y0 rfl Qy sL sL) ?_
 rintro sv43 w43 ⟨Hs43, m43, g43⟩
 replace g43 : Xe u8 5 sv43 ((Ae (Qe wa Qi) n3 n1) ++ (F6 (Xk sa [1#8]) (List.replicate 12 0) (lb ++ (Ae (Qe wa Qi) n3 n1)) lp)) Hs43 := g43
 refine ⟨⟨_, m43⟩, ?_⟩
 refine Gs m43 fun w44 m44 => ?_
 have hX45 := m44
 rw [hRM25] at hX45
 have m46 : Mem w44 (Qu w0) (Hs43 ++ (Hsq41 ++ (Hs38 ++ ([(b6, .cells (Qo (sE ra wa oa sb tb (Xk sa [2#8]) ta (n1 + 1) n2 n3 rq6)) 26 (0, 0)), (b10, .cells (cl u8 (Xk sa [1#8])) 23 (0, 0))] ++ (Hsq6 ++ ([(b3, .cells (Qo (sE ra wa oa sb tb sa ta n1 n2 n3 vk)) 26 (0, 0))])))))) := ymA (Mem.back hFM25 hX45)
 refine Vk (J8 Ja rfl rfl ((Mem.pick3 Hs43 Hsq41 Hs38 [_] _ m46)).h0 (Gx grq6.one)) ?_
 rintro _ w47 uq47
 have m47 : Mem _ _ ([_] ++ (Hs43 ++ (Hsq41 ++ (Hs38 ++ ([_] ++ (Hsq6 ++ ([_]))))))) := Mem.upd0 (Mem.pick3 Hs43 Hsq41 Hs38 [_] _ m46) uq47
 refine Zz sv43 <| Zz (i64 0) <| rN ?_
 have m48 := Mem.drop Hsq41 _ (Mem.pick2 [_] Hs43 Hsq41 _ m47)
 have m49 := Mem.drop Hs38 _ (Mem.pick2 [_] Hs43 Hs38 _ m48)
 refine Xb <| Qv [(Value.agg (Qo (sE ra wa oa sb tb (Xk sa [2#8]) ta (n1 + 1) n2 n3 rq6))), sv43, (i64 0)] ⟨⟨_, rfl, J4 X3 Ja m49.h0⟩, rfl, rfl, trivial⟩ ?_
 have m50 := Mem.drop [_] _ m49
 have m51 := Mem.drop [_] _ (Mem.pick Hs43 [_] _ m50)
 have m52 := Mem.drop [_] _ (Mem.pick2 Hs43 Hsq6 [_] _ m51)
 have m53 := (Mem.pick Hs43 Hsq6 _ m52)
 exact ⟨rq6, Hsq6, sv43, Hs43, rfl, grq6, Xe.cast g43 (by unfold Tc; simp only [List.append_assoc]), (by
  have hT := m53
  try simp only [List.append_assoc, List.cons_append, List.nil_append, List.append_nil] at hT ⊢
  exact hT)⟩
end Go.Proofs.YtkmiemlpfkfiiaaDoor
