/- The ratchet: roots, sessions begun, what is enciphered. Conditions: none beyond those that each theorem states. -/
import Derived.Test.YtkmiemlpfkfiiaaDoorRa2
namespace Go.Proofs.YtkmiemlpfkfiiaaDoor
set_option linter.unusedVariables false
set_option linter.unusedSimpArgs false
def Ut (root sh : List (BitVec 8)) : List (List (BitVec 8)) := Jc root sh (Yw ⟨#[114, 97, 116, 99, 104, 101, 116]⟩) 2
def Gi (root sh : List (BitVec 8)) : List (BitVec 8) := (Ut root sh).getD 0 []
def G6 (root sh : List (BitVec 8)) : List (BitVec 8) := (Ut root sh).getD 1 []
theorem Qfl (root sh : List (BitVec 8)) : Ut root sh = Uw 2 (J4 (Jm root sh) (Yw ⟨#[114, 97, 116, 99, 104, 101, 116]⟩) 64) := Sj (by decide) (by decide)
theorem Qhf (root sh : List (BitVec 8)) : (Ut root sh).length = 2 := by rw [Qfl]; exact Qa8 _ _
theorem Rl (root sh : List (BitVec 8)) : (Gi root sh).length = 32 := by unfold Gi; rw [Qfl]; exact Qbo (by decide) (by rw [U4])
theorem Rn (root sh : List (BitVec 8)) : (G6 root sh).length = 32 := by unfold G6; rw [Qfl]; exact Qbo (by decide) (by rw [U4])
def Bi (own chain : List (BitVec 8)) (p n : Int) (beside plain : List (BitVec 8)) : List (BitVec 8) :=
 G7 (Y9 own We) p n ++ Vw (X7 chain [1#8]) (List.replicate 12 0) (beside ++ G7 (Y9 own We) p n) plain
attribute [local irreducible] Ut Gi G6 Bi Jc J4 Jm X7 G7 Qak Vw Y9 We
set_option maxHeartbeats 2000000 in
theorem c_turn19 (ro sh : List (BitVec 8)) (w0 : World)  (hT : Tabs (Yq w0)) (hro : ro.length = 32) (hsh : sh.length = 32) : Xz Tryd.prog 40 #[(agg u8 ro), (agg u8 sh)] w0 (fun r w1 => r = (Value.tuple #[(agg u8 (Gi ro sh)), (agg u8 (G6 ro sh))]) ∧ Ext w0 w1) := by
 refine Zd (args := [(agg u8 ro), (agg u8 sh)]) Tryd.func40 rfl Tryd.ntmps40 Tryd.results40 rfl ?_
 have m0 : Mem w0 (Qy w0) [] := Mem.of_world w0
 have htl := Qhf ro sh
 have ht0 := Rl ro sh
 have ht1 := Rn ro sh
 unfold Gi at ht0; unfold G6 at ht1
 unfold Ut at htl ht0 ht1
 refine sR <| Za rfl (Z8 (f := u8) (l := ro) m0 rfl) ?_
 rintro _ w1 ⟨b2, rfl, e1, m1⟩
 refine Za rfl (Z8 (f := u8) (l := sh) m1 rfl) ?_
 rintro _ w2 ⟨b3, rfl, e2, m2⟩
 refine Za rfl (Zg m2 Z9) ?_
 rintro _ w3 ⟨b4, rfl, e3, m3⟩
 refine Za rfl (Zg m3 Z9) ?_
 rintro _ w4 ⟨b5, rfl, e4, m4⟩
 refine rN (Qg ?_)
 refine Xq [(0, false), (1, false), (2, true), (3, false), (4, false), (5, false), (6, false)] 7 (by kernel_rfl) <| Qj rfl rfl (fun _ _hx => Xj (i := 0) (j := 32) X3 X6 rfl (Zy _ _) (Zy _ _) oM sL sL) <| Qj rfl rfl (fun _ _hx => Xj (i := 0) (j := 32) X3 X6 rfl (Zy _ _) (Zy _ _) oM sL sL) ?_
 refine Bf rfl rfl (fun w5 e5 => ?_)
 have m5 := m4.ext e5
 refine Yz.mono (oc73 (Qev rfl rfl rfl rfl) (c_keys (sla b2 0 1 0 32 32) ro (sla b3 0 1 0 32 32) sh (⟨#[114, 97, 116, 99, 104, 101, 116]⟩) _ _ (hT.mono fun b o e => (m5).rest b o e) (Rd.slaAll m5.h3 sL) sL (Rd.slaAll m5.h2 sL) sL sL sL)) ?_
 rintro _ w6 ⟨vxq7, Hsq7, rfl, gvxq7, k_w6⟩
 refine ⟨k_w6.toExt, ?_⟩
 have m6 : Mem _ _ (Hsq7 ++ ([_, _, _, _])) := Mem.new (H := [_, _, _, _]) (H' := Hsq7) m5 k_w6
 refine Qj rfl rfl (fun _ _hx => Qb (v := (Value.tuple #[vxq7, (i64 (Qdj (2 : Int)))])) rfl) <| Qj (v := vxq7) rfl rfl (fun _ _hx => Zo rfl rfl) <| Qj (v := (i64 (Qdj (2 : Int)))) rfl rfl (fun _ _hx => Zo rfl rfl) <| Qj rfl rfl (fun _ _hx => Qc (v := vxq7) rfl) ?_
 refine Xd (fun w8 e8 => ?_)
 have m8 := m6.ext e8
 refine Qa rfl (Qc (v := (i64 (Qdj (2 : Int)))) rfl) ?_
 refine rN (Qg ?_)
 refine Jz (by kernel_rfl) ?_
 have m9 := (Mem.pick2 Hsq7 [_, _, _] [_] _ m8)
 have m10 := (Mem.pick3 [_] Hsq7 [_, _] [_] _ m9)
 have m11 := (Mem.pick2 [_, _] Hsq7 [_] _ m10)
 have m12 := (Mem.pick [_, _, _] Hsq7 _ m11)
 have m13 := (Mem.pick2 Hsq7 [_, _, _] [_] _ m12)
 have hFM14 : Mem w8 (Qy w0) ([(b4, .cells (cl u8 (List.replicate 32 0)) 23 (0, 0))] ++ (Hsq7 ++ ([(b5, .cells (cl u8 (List.replicate 32 0)) 23 (0, 0)), (b3, .cells (cl u8 sh) 23 (0, 0)), (b2, .cells (cl u8 ro) 23 (0, 0))]))) := m13
 obtain ⟨RM14, hRM14⟩ : ∃ R2, R2 = Rest.add (Qy w0) (Hsq7 ++ ([(b5, .cells (cl u8 (List.replicate 32 0)) 23 (0, 0)), (b3, .cells (cl u8 sh) 23 (0, 0)), (b2, .cells (cl u8 ro) 23 (0, 0))])) := ⟨_, rfl⟩
 have M140 : Mem w8 RM14 [(b4, .cells (cl u8 (List.replicate 32 0)) 23 (0, 0))] := by rw [hRM14]; exact Mem.give hFM14
 have hg15 : RdK RM14.blk (Ug u8) 32 vxq7 (Jc ro sh (Yw (⟨#[114, 97, 116, 99, 104, 101, 116]⟩)) (2 : Int)) := gvxq7.rdIn (fun p hp => by rw [hRM14]; exact Mem.addOwn hFM14 (List.mem_append_left _ hp))
 have ho16 : RM14.blk b5 = some (.cells (cl u8 (List.replicate 32 0)) 23 (0, 0)) := by rw [hRM14]; exact Mem.addOwn hFM14 (List.mem_append_right _ (List.Mem.head _))
 have ho17 : RM14.blk b3 = some (.cells (cl u8 sh) 23 (0, 0)) := by rw [hRM14]; exact Mem.addOwn hFM14 (List.mem_append_right _ (List.Mem.tail _ (List.Mem.head _)))
 have ho18 : RM14.blk b2 = some (.cells (cl u8 ro) 23 (0, 0)) := by rw [hRM14]; exact Mem.addOwn hFM14 (List.mem_append_right _ (List.Mem.tail _ (List.Mem.tail _ (List.Mem.head _))))
 have hT19 : Tabs RM14.blk := by rw [hRM14]; exact Tabs.mono hT fun b o e => Mem.addRest hFM14 e
 refine Ju M140 [(0, false), (1, false), (2, false), (3, false), (4, false), (5, false), (6, true)] 7 rfl (by kernel_rfl) <| Xu rfl rfl (fun w _H _hx => Qb (v := vxq7) rfl) <| Xu rfl rfl (fun w _H _hx => Ym (i := 0) (RdK.ofRest hg15 _hx) Qbt Z9 rfl rfl oM sL) <| Xu (v := (agg u8 ((Jc ro sh (Yw (⟨#[114, 97, 116, 99, 104, 101, 116]⟩)) (2 : Int)).getD 0 []))) rfl rfl (fun w _H _hx => Em (i := (0 : Int)) (RdK.ofRest hg15 _hx) sL X3 Z9 rfl rfl) <| Xu rfl rfl (fun w _H _hx => Qb (v := vxq7) rfl) <| Xu rfl rfl (fun w _H _hx => Ym (i := 1) (RdK.ofRest hg15 _hx) Qbt Z9 rfl rfl oM sL) <| Xu (v := (agg u8 ((Jc ro sh (Yw (⟨#[114, 97, 116, 99, 104, 101, 116]⟩)) (2 : Int)).getD 1 []))) rfl rfl (fun w _H _hx => Em (i := (1 : Int)) (RdK.ofRest hg15 _hx) sL X3 Z9 rfl rfl) ?_
 refine Bh rfl (fun w20 e20 => ?_)
 have m20 := M140.ext e20
 refine Yz.mono (Qm (f := u8) (l := (Jc ro sh (Yw (⟨#[114, 97, 116, 99, 104, 101, 116]⟩)) (2 : Int)).getD 0 []) Qu Z9 rfl rfl sL m20.h0 (by rw [Jk]; first | omega | (simp only [List.length_set, List.length_append, List.length_replicate, List.length_map, List.length_cons, List.length_nil]; omega) | (simp; done) | (simp; omega) | decide) rfl) ?_
 rintro _ w21 uq21
 have m21 := m20.upd0 uq21
 refine ⟨⟨_, m21⟩, ?_⟩
 refine Xd (fun w22 e22 => ?_)
 have m22 := m21.ext e22
 have hX23 := m22
 rw [hRM14] at hX23
 have m24 : Mem w22 (Qy w0) ([(b4, .cells (cl u8 ((Jc ro sh (Yw (⟨#[114, 97, 116, 99, 104, 101, 116]⟩)) (2 : Int)).getD 0 [])) 23 (0, 0))] ++ (Hsq7 ++ ([(b5, .cells (cl u8 (List.replicate 32 0)) 23 (0, 0)), (b3, .cells (cl u8 sh) 23 (0, 0)), (b2, .cells (cl u8 ro) 23 (0, 0))]))) := (by
  have hT := Mem.back hFM14 hX23
  try simp only [List.append_assoc, List.cons_append, List.nil_append, List.append_nil] at hT ⊢
  exact hT)
 refine Zw (Qm (f := u8) (l := (Jc ro sh (Yw (⟨#[114, 97, 116, 99, 104, 101, 116]⟩)) (2 : Int)).getD 1 []) Qu Z9 rfl rfl sL ((Mem.pick2 [_] Hsq7 [_] _ m24)).h0 (by rw [Jk]; first | omega | (simp only [List.length_set, List.length_append, List.length_replicate, List.length_map, List.length_cons, List.length_nil]; omega) | (simp; done) | (simp; omega) | decide) rfl) ?_
 rintro _ w25 uq25
 have m25 : Mem _ _ ([_, _] ++ (Hsq7 ++ ([_, _]))) := Mem.upd0 (Mem.pick2 [_] Hsq7 [_] _ m24) uq25
 refine rN (Xt ?_)
 refine Ze [(agg u8 ((Jc ro sh (Yw (⟨#[114, 97, 116, 99, 104, 101, 116]⟩)) (2 : Int)).getD 0 [])), (agg u8 ((Jc ro sh (Yw (⟨#[114, 97, 116, 99, 104, 101, 116]⟩)) (2 : Int)).getD 1 []))] ⟨⟨_, rfl, Xo X3 rfl Z9 m25.h1 (by rw [Jk]; first | omega | (simp only [List.length_set, List.length_append, List.length_replicate, List.length_map, List.length_cons, List.length_nil]; omega) | (simp; done) | (simp; omega) | decide)⟩, ⟨_, rfl, Xo X3 rfl Z9 m25.h0 (by rw [Jk]; first | omega | (simp only [List.length_set, List.length_append, List.length_replicate, List.length_map, List.length_cons, List.length_nil]; omega) | (simp; done) | (simp; omega) | decide)⟩, trivial⟩ ?_
 exact ⟨by unfold Gi G6 Ut; rfl, m25.toExt⟩
set_option maxHeartbeats 2000000 in
theorem Qop (ro ow pu ot : List (BitVec 8)) (w0 : World)  (hT : Tabs (Yq w0)) (hro : ro.length = 32) (how : ow.length = 32) (hpu : pu.length = 32) (hot : ot.length = 32) : Xz Tryd.prog 16 #[(agg u8 ro), (Value.agg (Zl [ow.map u8, pu.map u8])), (agg u8 ot)] w0 (fun r w1 => r = (Value.agg (Zl (sE (Gi ro (Y9 ow ot)) ow ot true false (G6 ro (Y9 ow ot)) (List.replicate 32 0) 0 0 0 (Value.slice none 0 0)))) ∧ Ext w0 w1) := by
 refine Zd (args := [(agg u8 ro), (Value.agg (Zl [ow.map u8, pu.map u8])), (agg u8 ot)]) Tryd.func16 rfl Tryd.ntmps16 Tryd.results16 rfl ?_
 have m0 : Mem w0 (Qy w0) [] := Mem.of_world w0
 have ht0 := Rl ro (Y9 ow ot)
 have ht1 := Rn ro (Y9 ow ot)
 have hml := Ez ow ot
 refine sR <| Za rfl (Z8 (f := u8) (l := ro) m0 rfl) ?_
 rintro _ w1 ⟨b3, rfl, e1, m1⟩
 refine Za rfl (Gx (cs := (Zl [ow.map u8, pu.map u8])) m1 rfl) ?_
 rintro _ w2 ⟨b4, rfl, e2, m2⟩
 refine Za rfl (Z8 (f := u8) (l := ot) m2 rfl) ?_
 rintro _ w3 ⟨b5, rfl, e3, m3⟩
 refine Za rfl (Yj m3 Y8) ?_
 rintro _ w4 ⟨b6, rfl, e4, m4⟩
 refine rN (Qg ?_)
 refine Jz (by kernel_rfl) ?_
 have hFM5 : Mem w4 (Qy w0) ([(b6, .cells (Zl (sE (List.replicate 32 0) (List.replicate 32 0) (List.replicate 32 0) false false (List.replicate 32 0) (List.replicate 32 0) 0 0 0 (Value.slice none 0 0))) 26 (0, 0))] ++ [(b5, .cells (cl u8 ot) 23 (0, 0)), (b4, .cells (Zl [ow.map u8, pu.map u8]) 39 (0, 0)), (b3, .cells (cl u8 ro) 23 (0, 0))]) := m4
 obtain ⟨RM5, hRM5⟩ : ∃ R2, R2 = Rest.add (Qy w0) [(b5, .cells (cl u8 ot) 23 (0, 0)), (b4, .cells (Zl [ow.map u8, pu.map u8]) 39 (0, 0)), (b3, .cells (cl u8 ro) 23 (0, 0))] := ⟨_, rfl⟩
 have M50 : Mem w4 RM5 [(b6, .cells (Zl (sE (List.replicate 32 0) (List.replicate 32 0) (List.replicate 32 0) false false (List.replicate 32 0) (List.replicate 32 0) 0 0 0 (Value.slice none 0 0))) 26 (0, 0))] := by rw [hRM5]; exact Mem.give hFM5
 have ho6 : RM5.blk b5 = some (.cells (cl u8 ot) 23 (0, 0)) := by rw [hRM5]; exact Mem.addOwn hFM5 (List.Mem.head _)
 have ho7 : RM5.blk b4 = some (.cells (Zl [ow.map u8, pu.map u8]) 39 (0, 0)) := by rw [hRM5]; exact Mem.addOwn hFM5 (List.Mem.tail _ (List.Mem.head _))
 have ho8 : RM5.blk b3 = some (.cells (cl u8 ro) 23 (0, 0)) := by rw [hRM5]; exact Mem.addOwn hFM5 (List.Mem.tail _ (List.Mem.tail _ (List.Mem.head _)))
 have hT9 : Tabs RM5.blk := by rw [hRM5]; exact Tabs.mono hT fun b o e => Mem.addRest hFM5 e
 refine Ju M50 [(0, false), (1, false), (2, false), (3, false), (4, true)] 5 rfl (by kernel_rfl) <| Xu rfl rfl (fun w _H _hx => Xi (r := 0) Qex rfl (by first | rfl | omega) Z9 rfl rfl) <| Xu rfl rfl (fun w _H _hx => Vk 0 X3 Z9 rfl (_hx.rest _ _ ho7) rfl) <| Xu rfl rfl (fun w _H _hx => Qw X3 rfl Z9 rfl (_hx.rest _ _ ho6) (by rw [Jk]; first | omega | (simp only [List.length_set, List.length_append, List.length_replicate, List.length_map, List.length_cons, List.length_nil]; omega) | (simp; done) | (simp; omega) | decide)) <| Xu rfl rfl (fun w _H _hx => Xi (r := 32) Yu rfl (by first | rfl | omega) Z9 rfl rfl) ?_
 refine Bh rfl (fun w10 e10 => ?_)
 have m10 := M50.ext e10
 refine Yz.mono (Qax 1 (sE (List.replicate 32 0) ow (List.replicate 32 0) false false (List.replicate 32 0) (List.replicate 32 0) 0 0 0 (Value.slice none 0 0)) Qu Z9 rfl rfl m10.h0 rfl) ?_
 rintro _ w11 uq11
 have m11 := m10.upd0 uq11
 refine ⟨⟨_, m11⟩, ?_⟩
 refine Xd (fun w12 e12 => ?_)
 have m12 := m11.ext e12
 have hX13 := m12
 rw [hRM5] at hX13
 have m14 : Mem w12 (Qy w0) [(b6, .cells (Zl (sE (List.replicate 32 0) ow (List.replicate 32 0) false false (List.replicate 32 0) (List.replicate 32 0) 0 0 0 (Value.slice none 0 0))) 26 (0, 0)), (b5, .cells (cl u8 ot) 23 (0, 0)), (b4, .cells (Zl [ow.map u8, pu.map u8]) 39 (0, 0)), (b3, .cells (cl u8 ro) 23 (0, 0))] := (by
  have hT := Mem.back hFM5 hX13
  try simp only [List.append_assoc, List.cons_append, List.nil_append, List.append_nil] at hT ⊢
  exact hT)
 refine Qa rfl (Xi (r := 64) Yu rfl (by first | rfl | omega) Z9 rfl rfl) <| Zw (Qax 2 (sE (List.replicate 32 0) ow ot false false (List.replicate 32 0) (List.replicate 32 0) 0 0 0 (Value.slice none 0 0)) Qu Z9 rfl rfl m14.h0 rfl) ?_
 rintro _ w15 uq15
 have m15 := m14.upd0 uq15
 refine Qa rfl (Xi (r := 96) Yu rfl (by first | rfl | omega) ti4 rfl rfl) <| Zw (Qiu 3 (sE (List.replicate 32 0) ow ot true false (List.replicate 32 0) (List.replicate 32 0) 0 0 0 (Value.slice none 0 0)) ti4 rfl rfl rfl m15.h0 rfl rfl) ?_
 rintro _ w16 uq16
 have m16 := m15.upd0 uq16
 refine rN (Qg ?_)
 refine Jz (by kernel_rfl) ?_
 have hFM17 : Mem w16 (Qy w0) ([(b6, .cells (Zl (sE (List.replicate 32 0) ow ot true false (List.replicate 32 0) (List.replicate 32 0) 0 0 0 (Value.slice none 0 0))) 26 (0, 0))] ++ [(b5, .cells (cl u8 ot) 23 (0, 0)), (b4, .cells (Zl [ow.map u8, pu.map u8]) 39 (0, 0)), (b3, .cells (cl u8 ro) 23 (0, 0))]) := m16
 obtain ⟨RM17, hRM17⟩ : ∃ R2, R2 = Rest.add (Qy w0) [(b5, .cells (cl u8 ot) 23 (0, 0)), (b4, .cells (Zl [ow.map u8, pu.map u8]) 39 (0, 0)), (b3, .cells (cl u8 ro) 23 (0, 0))] := ⟨_, rfl⟩
 have M170 : Mem w16 RM17 [(b6, .cells (Zl (sE (List.replicate 32 0) ow ot true false (List.replicate 32 0) (List.replicate 32 0) 0 0 0 (Value.slice none 0 0))) 26 (0, 0))] := by rw [hRM17]; exact Mem.give hFM17
 have ho18 : RM17.blk b5 = some (.cells (cl u8 ot) 23 (0, 0)) := by rw [hRM17]; exact Mem.addOwn hFM17 (List.Mem.head _)
 have ho19 : RM17.blk b4 = some (.cells (Zl [ow.map u8, pu.map u8]) 39 (0, 0)) := by rw [hRM17]; exact Mem.addOwn hFM17 (List.Mem.tail _ (List.Mem.head _))
 have ho20 : RM17.blk b3 = some (.cells (cl u8 ro) 23 (0, 0)) := by rw [hRM17]; exact Mem.addOwn hFM17 (List.Mem.tail _ (List.Mem.tail _ (List.Mem.head _)))
 have hT21 : Tabs RM17.blk := by rw [hRM17]; exact Tabs.mono hT fun b o e => Mem.addRest hFM17 e
 refine Ju M170 [(0, false), (1, false), (2, false), (3, false), (4, false), (5, false), (6, false), (7, false), (8, false), (9, true)] 10 rfl (by kernel_rfl) <| Xu rfl rfl (fun w _H _hx => Qw X3 rfl Z9 rfl (_hx.rest _ _ ho20) (by rw [Jk]; first | omega | (simp only [List.length_set, List.length_append, List.length_replicate, List.length_map, List.length_cons, List.length_nil]; omega) | (simp; done) | (simp; omega) | decide)) <| Xu rfl rfl (fun w _H _hx => Jr Qex Qct rfl (_hx.rest _ _ ho19)) <| Xu rfl rfl (fun w _H _hx => Qw X3 rfl Z9 rfl (_hx.rest _ _ ho18) (by rw [Jk]; first | omega | (simp only [List.length_set, List.length_append, List.length_replicate, List.length_map, List.length_cons, List.length_nil]; omega) | (simp; done) | (simp; omega) | decide)) <| dk_x rfl rfl (fun w22 _Hw22 _hw22 => oc41 (Xr rfl rfl) (Qoh _ _ _ _ sL sL sL)) <| dk_x (v := (Value.tuple #[(agg u8 (Gi ro (Y9 ow ot))), (agg u8 (G6 ro (Y9 ow ot)))])) rfl rfl (fun w25 _Hw25 _hw25 => oc40 (Xr rfl rfl) (c_turn19 _ _ _ (hT21.mono fun b o e => (_hw25).rest b o e) sL sL)) <| Xu rfl rfl (fun w _H _hx => Qb rfl) <| Xu (v := (agg u8 (Gi ro (Y9 ow ot)))) rfl rfl (fun w _H _hx => Zo rfl rfl) <| Xu (v := (agg u8 (G6 ro (Y9 ow ot)))) rfl rfl (fun w _H _hx => Zo rfl rfl) <| Xu rfl rfl (fun w _H _hx => Xi (r := 0) Yu rfl (by first | rfl | omega) Z9 rfl rfl) ?_
 refine Bh rfl (fun w28 e28 => ?_)
 have m28 := M170.ext e28
 refine Yz.mono (Qax 0 (sE (Gi ro (Y9 ow ot)) ow ot true false (List.replicate 32 0) (List.replicate 32 0) 0 0 0 (Value.slice none 0 0)) Qu Z9 rfl rfl m28.h0 rfl) ?_
 rintro _ w29 uq29
 have m29 := m28.upd0 uq29
 refine ⟨⟨_, m29⟩, ?_⟩
 refine Xd (fun w30 e30 => ?_)
 have m30 := m29.ext e30
 have hX31 := m30
 rw [hRM17] at hX31
 have m32 : Mem w30 (Qy w0) [(b6, .cells (Zl (sE (Gi ro (Y9 ow ot)) ow ot true false (List.replicate 32 0) (List.replicate 32 0) 0 0 0 (Value.slice none 0 0))) 26 (0, 0)), (b5, .cells (cl u8 ot) 23 (0, 0)), (b4, .cells (Zl [ow.map u8, pu.map u8]) 39 (0, 0)), (b3, .cells (cl u8 ro) 23 (0, 0))] := (by
  have hT := Mem.back hFM17 hX31
  try simp only [List.append_assoc, List.cons_append, List.nil_append, List.append_nil] at hT ⊢
  exact hT)
 refine Qa rfl (Xi (r := 98) Yu rfl (by first | rfl | omega) Z9 rfl rfl) <| Zw (Qax 5 (sE (Gi ro (Y9 ow ot)) ow ot true false (G6 ro (Y9 ow ot)) (List.replicate 32 0) 0 0 0 (Value.slice none 0 0)) Qu Z9 rfl rfl m32.h0 rfl) ?_
 rintro _ w33 uq33
 have m33 := m32.upd0 uq33
 refine rN (sR ?_)
 refine Qa rfl (Jr Yu Y8 rfl m33.h0) <| Zw (Ky Y8 rfl rfl m33.h0 (Gv rfl)) ?_
 rintro _ w34 uq34
 have m34 := m33.upd0 uq34
 refine rN (Xt ?_)
 refine Ze [(Value.agg (Zl (sE (Gi ro (Y9 ow ot)) ow ot true false (G6 ro (Y9 ow ot)) (List.replicate 32 0) 0 0 0 (Value.slice none 0 0))))] ⟨⟨_, rfl, Gt Yu Y8 m34.h0⟩, trivial⟩ ?_
 exact ⟨rfl, m34.toExt⟩
set_option maxHeartbeats 2000000 in
theorem Ql6 (ro ow pu : List (BitVec 8)) (w0 : World)  (hro : ro.length = 32) (how : ow.length = 32) (hpu : pu.length = 32) : Xz Tryd.prog 18 #[(agg u8 ro), (Value.agg (Zl [ow.map u8, pu.map u8]))] w0 (fun r w1 => r = (Value.agg (Zl (sE ro ow (List.replicate 32 0) false false (List.replicate 32 0) (List.replicate 32 0) 0 0 0 (Value.slice none 0 0)))) ∧ Ext w0 w1) := by
 refine Zd (args := [(agg u8 ro), (Value.agg (Zl [ow.map u8, pu.map u8]))]) Tryd.func18 rfl Tryd.ntmps18 Tryd.results18 rfl ?_
 have m0 : Mem w0 (Qy w0) [] := Mem.of_world w0
 refine sR <| Za rfl (Z8 (f := u8) (l := ro) m0 rfl) ?_
 rintro _ w1 ⟨b2, rfl, e1, m1⟩
 refine Za rfl (Gx (cs := (Zl [ow.map u8, pu.map u8])) m1 rfl) ?_
 rintro _ w2 ⟨b3, rfl, e2, m2⟩
 refine Za rfl (Yj m2 Y8) ?_
 rintro _ w3 ⟨b4, rfl, e3, m3⟩
 refine rN (sR ?_)
 refine Qa rfl (Qw X3 rfl Z9 rfl m3.h2 (by rw [Jk]; first | omega | (simp only [List.length_set, List.length_append, List.length_replicate, List.length_map, List.length_cons, List.length_nil]; omega) | (simp; done) | (simp; omega) | decide)) <| Qa rfl (Xi (r := 0) Qex rfl (by first | rfl | omega) Z9 rfl rfl) <| Qa rfl (Vk 0 X3 Z9 rfl m3.h1 rfl) <| Qa rfl (Vd (c := (Zl (sE ro ow (List.replicate 32 0) false false (List.replicate 32 0) (List.replicate 32 0) 0 0 0 (Value.slice none 0 0)))) (pl := [(0, 32), (32, 32), (64, 32), (96, 1), (97, 1), (98, 32), (130, 32), (162, 1), (163, 1), (164, 1), (165, 1)]) Y8 Yu (by kernel_rfl) (Y2 (i := 0) (v := (agg u8 ro)) (cs := (cl u8 ro)) rfl rfl (Y2 (i := 1) (v := (agg u8 ow)) (cs := (cl u8 ow)) rfl rfl Vo)) (Wv (L := (sE (List.replicate 32 0) (List.replicate 32 0) (List.replicate 32 0) false false (List.replicate 32 0) (List.replicate 32 0) 0 0 0 (Value.slice none 0 0))) 0 (sE ro (List.replicate 32 0) (List.replicate 32 0) false false (List.replicate 32 0) (List.replicate 32 0) 0 0 0 (Value.slice none 0 0)) rfl (Wi u8 _).symm rfl (Wv 1 (sE ro ow (List.replicate 32 0) false false (List.replicate 32 0) (List.replicate 32 0) 0 0 0 (Value.slice none 0 0)) rfl (Wi u8 _).symm rfl F8))) <| Zw (Ky Y8 rfl rfl m3.h0 (Gv rfl)) ?_
 rintro _ w4 uq4
 have m4 := m3.upd0 uq4
 refine rN (Xt ?_)
 refine Ze [(Value.agg (Zl (sE ro ow (List.replicate 32 0) false false (List.replicate 32 0) (List.replicate 32 0) 0 0 0 (Value.slice none 0 0))))] ⟨⟨_, rfl, Gt Yu Y8 m4.h0⟩, trivial⟩ ?_
 exact ⟨rfl, m4.toExt⟩
set_option maxHeartbeats 2000000 in
theorem Qmc (ra wa oa : List (BitVec 8)) (sb tb : Bool) (sa ta : List (BitVec 8)) (n1 n2 n3 : Int) (vk : Value) (ks : List Kp) (vb : Value) (lb : List (BitVec 8)) (vp : Value) (lp : List (BitVec 8)) (w0 : World)  (hl : ra.length = 32 ∧ wa.length = 32 ∧ oa.length = 32 ∧ sa.length = 32 ∧ ta.length = 32) (hk : RdK (Yq w0) J9 65 vk ks) (hn : ks.length ≤ 1048576) (hrb : Rd (Yq w0) u8 vb lb) (hlb : lb.length ≤ 90000) (hrp : Rd (Yq w0) u8 vp lp) (hlp : lp.length ≤ 90000) (hn1 : 0 ≤ n1 ∧ n1 ≤ 2147483647) (hn3 : 0 ≤ n3 ∧ n3 ≤ 2147483647) (hsb : sb = false) : Xz Tryd.prog 12 #[(Value.agg (Zl (sE ra wa oa sb tb sa ta n1 n2 n3 vk))), vb, vp] w0 (fun r w1 => r = (Value.tuple #[(Value.agg (Zl (sE ra wa oa sb tb sa ta n1 n2 n3 vk))), (Value.slice none 0 0), (i64 13)]) ∧ Ext w0 w1) := by
 refine Zd (args := [(Value.agg (Zl (sE ra wa oa sb tb sa ta n1 n2 n3 vk))), vb, vp]) Tryd.func12 rfl Tryd.ntmps12 Tryd.results12 rfl ?_
 have m0 : Mem w0 (Qy w0) [] := Mem.of_world w0
 obtain ⟨hl1, hl2, hl3, hl4, hl5⟩ := hl
 have hnsb : (!sb) = true := by rw [hsb]; rfl
 refine sR <| Za rfl (Gx (cs := (Zl (sE ra wa oa sb tb sa ta n1 n2 n3 vk))) m0 rfl) ?_
 rintro _ w1 ⟨b3, rfl, e1, m1⟩
 refine Za rfl (Yj m1 Y8) ?_
 rintro _ w2 ⟨b6, rfl, e2, m2⟩
 refine Qa rfl (Qc (v := (Value.slice none 0 0)) rfl) <| Qa rfl (Qc (v := (i64 0)) rfl) ?_
 refine rN (Qg (Qo (sR ?_)))
 refine Qa rfl (Xi (r := 96) Yu rfl (by first | rfl | omega) ti4 rfl rfl) <| Qa rfl (Y7 3 uT4 rfl m2.h1 rfl) <| Qa rfl (G9 rfl) <| Qa rfl (Qc (v := (bl (!sb))) rfl) <| rN <| Zc rfl hnsb <| sR <| Qa rfl (Jr Yu Y8 rfl m2.h1) <| Zw (Ky Y8 rfl rfl m2.h0 (Gv (RdK.one (RdK.ofRest hk m2)))) ?_
 rintro _ w3 uq3
 have m3 := m2.upd0 uq3
 refine Qa rfl (Qc (v := (Value.slice none 0 0)) rfl) <| Qa rfl (Qc (v := (i64 13)) rfl) ?_
 refine rN (Xt ?_)
 refine Du <| Ze [(Value.agg (Zl (sE ra wa oa sb tb sa ta n1 n2 n3 vk))), (Value.slice none 0 0), (i64 13)] ⟨⟨_, rfl, Gt Yu Y8 m3.h0⟩, rfl, rfl, trivial⟩ ?_
 exact ⟨rfl, m3.toExt⟩
set_option maxHeartbeats 2000000 in
theorem Qmd (ra wa oa : List (BitVec 8)) (sb tb : Bool) (sa ta : List (BitVec 8)) (n1 n2 n3 : Int) (vk : Value) (ks : List Kp) (vb : Value) (lb : List (BitVec 8)) (vp : Value) (lp : List (BitVec 8)) (w0 : World)  (hl : ra.length = 32 ∧ wa.length = 32 ∧ oa.length = 32 ∧ sa.length = 32 ∧ ta.length = 32) (hk : RdK (Yq w0) J9 65 vk ks) (hn : ks.length ≤ 1048576) (hrb : Rd (Yq w0) u8 vb lb) (hlb : lb.length ≤ 90000) (hrp : Rd (Yq w0) u8 vp lp) (hlp : lp.length ≤ 90000) (hn1 : 0 ≤ n1 ∧ n1 ≤ 2147483647) (hn3 : 0 ≤ n3 ∧ n3 ≤ 2147483647) (hsb : sb = true) (hmost : n1 = 2147483647) : Xz Tryd.prog 12 #[(Value.agg (Zl (sE ra wa oa sb tb sa ta n1 n2 n3 vk))), vb, vp] w0 (fun r w1 => r = (Value.tuple #[(Value.agg (Zl (sE ra wa oa sb tb sa ta n1 n2 n3 vk))), (Value.slice none 0 0), (i64 12)]) ∧ Ext w0 w1) := by
 refine Zd (args := [(Value.agg (Zl (sE ra wa oa sb tb sa ta n1 n2 n3 vk))), vb, vp]) Tryd.func12 rfl Tryd.ntmps12 Tryd.results12 rfl ?_
 have m0 : Mem w0 (Qy w0) [] := Mem.of_world w0
 obtain ⟨hl1, hl2, hl3, hl4, hl5⟩ := hl
 have hnsb : (!sb) = false := by rw [hsb]; rfl
 refine sR <| Za rfl (Gx (cs := (Zl (sE ra wa oa sb tb sa ta n1 n2 n3 vk))) m0 rfl) ?_
 rintro _ w1 ⟨b3, rfl, e1, m1⟩
 refine Za rfl (Yj m1 Y8) ?_
 rintro _ w2 ⟨b6, rfl, e2, m2⟩
 refine Qa rfl (Qc (v := (Value.slice none 0 0)) rfl) <| Qa rfl (Qc (v := (i64 0)) rfl) ?_
 refine rN (Qg (Qo (sR ?_)))
 refine Qa rfl (Xi (r := 96) Yu rfl (by first | rfl | omega) ti4 rfl rfl) <| Qa rfl (Y7 3 uT4 rfl m2.h1 rfl) <| Qa rfl (G9 rfl) <| Qa rfl (Qc (v := (bl (!sb))) rfl) <| rN <| Yp rfl hnsb <| sR <| Qa rfl (Xi (r := 162) Yu rfl (by first | rfl | omega) Dy rfl rfl) <| Qa rfl (Y7 7 Fj rfl m2.h1 rfl) <| Qa rfl (X5 (b := 2147483647) rfl rfl) <| Qa rfl (Qc (v := (bl (decide (2147483647 ≤ n1)))) rfl) <| rN ?_
 have hd3 : (decide (2147483647 ≤ n1)) = true := decide_eq_true oM
 refine Zc rfl hd3 <| sR <| Qa rfl (Jr Yu Y8 rfl m2.h1) <| Zw (Ky Y8 rfl rfl m2.h0 (Gv (RdK.one (RdK.ofRest hk m2)))) ?_
 rintro _ w4 uq4
 have m4 := m2.upd0 uq4
 refine Qa rfl (Qc (v := (Value.slice none 0 0)) rfl) <| Qa rfl (Qc (v := (i64 12)) rfl) ?_
 refine rN (Xt ?_)
 refine Du <| Ze [(Value.agg (Zl (sE ra wa oa sb tb sa ta n1 n2 n3 vk))), (Value.slice none 0 0), (i64 12)] ⟨⟨_, rfl, Gt Yu Y8 m4.h0⟩, rfl, rfl, trivial⟩ ?_
 exact ⟨rfl, m4.toExt⟩
set_option maxHeartbeats 2000000 in
theorem c_enc19 (ra wa oa : List (BitVec 8)) (sb tb : Bool) (sa ta : List (BitVec 8)) (n1 n2 n3 : Int) (vk : Value) (ks : List Kp) (vb : Value) (lb : List (BitVec 8)) (vp : Value) (lp : List (BitVec 8)) (w0 : World)  (hT : Tabs (Yq w0)) (hl : ra.length = 32 ∧ wa.length = 32 ∧ oa.length = 32 ∧ sa.length = 32 ∧ ta.length = 32) (hk : RdK (Yq w0) J9 65 vk ks) (hn : ks.length ≤ 1048576) (hrb : Rd (Yq w0) u8 vb lb) (hlb : lb.length ≤ 90000) (hrp : Rd (Yq w0) u8 vp lp) (hlp : lp.length ≤ 90000) (hn1 : 0 ≤ n1 ∧ n1 ≤ 2147483647) (hn3 : 0 ≤ n3 ∧ n3 ≤ 2147483647) (hsb : sb = true) (hless : n1 < 2147483647) : Xz Tryd.prog 12 #[(Value.agg (Zl (sE ra wa oa sb tb sa ta n1 n2 n3 vk))), vb, vp] w0 (fun r w1 => ∃ vk2 Hk2 vc Hc, r = Value.tuple #[(Value.agg (Zl (sE ra wa oa sb tb (X7 sa [2#8]) ta (n1 + 1) n2 n3 vk2))), vc, i64 0] ∧ J6 J9 65 69 vk2 ks Hk2 ∧ Zv u8 5 vc (Bi wa sa n3 n1 lb lp) Hc ∧ Mem w1 (Qy w0) (Hk2 ++ Hc)) := by
 refine Zd (args := [(Value.agg (Zl (sE ra wa oa sb tb sa ta n1 n2 n3 vk))), vb, vp]) Tryd.func12 rfl Tryd.ntmps12 Tryd.results12 rfl ?_
 have m0 : Mem w0 (Qy w0) [] := Mem.of_world w0
 obtain ⟨hl1, hl2, hl3, hl4, hl5⟩ := hl
 have hnsb : (!sb) = false := by rw [hsb]; rfl
 have hhl := Qbj (p := n3) (n := n1) (Ez wa We)
 have hc1 : (X7 sa [1#8]).length = 32 := Wu _ _
 have hc2 : (X7 sa [2#8]).length = 32 := Wu _ _
 have hml := Ez wa We
 have hcl := A8 (key := X7 sa [1#8]) (nonce := List.replicate 12 0) (beside := lb ++ G7 (Y9 wa We) n3 n1) (plain := lp)
 refine sR <| Za rfl (Gx (cs := (Zl (sE ra wa oa sb tb sa ta n1 n2 n3 vk))) m0 rfl) ?_
 rintro _ w1 ⟨b3, rfl, e1, m1⟩
 refine Za rfl (Yj m1 Y8) ?_
 rintro _ w2 ⟨b6, rfl, e2, m2⟩
 refine Qa rfl (Qc (v := (Value.slice none 0 0)) rfl) <| Qa rfl (Qc (v := (i64 0)) rfl) ?_
 refine rN (Qg (Qo (sR ?_)))
 refine Qa rfl (Xi (r := 96) Yu rfl (by first | rfl | omega) ti4 rfl rfl) <| Qa rfl (Y7 3 uT4 rfl m2.h1 rfl) <| Qa rfl (G9 rfl) <| Qa rfl (Qc (v := (bl (!sb))) rfl) <| rN <| Yp rfl hnsb <| sR <| Qa rfl (Xi (r := 162) Yu rfl (by first | rfl | omega) Dy rfl rfl) <| Qa rfl (Y7 7 Fj rfl m2.h1 rfl) <| Qa rfl (X5 (b := 2147483647) rfl rfl) <| Qa rfl (Qc (v := (bl (decide (2147483647 ≤ n1)))) rfl) <| rN ?_
 have hd3 : (decide (2147483647 ≤ n1)) = false := decide_eq_false oM
 refine Yp rfl hd3 ?_
 refine Q7 (Qi (sR ?_))
 refine Qa rfl (Jr Yu Y8 rfl m2.h1) <| Zw (Ky Y8 rfl rfl m2.h0 (Gv (RdK.one (RdK.ofRest hk m2)))) ?_
 rintro _ w4 uq4
 have m4 := m2.upd0 uq4
 refine rN (sR ?_)
 refine Qa rfl (Xi (r := 165) Yu rfl (by first | rfl | omega) Qbu rfl rfl) <| Qa rfl (Y7 10 Dl rfl m4.h1 rfl) <| Za rfl (oc29 (Jj rfl) (c_cloneK vk ks _ (RdK.ofRest hk m4) sL)) ?_
 rintro rq6 w5 ⟨Hsq6, grq6, k_w5⟩
 have m5 : Mem _ _ (Hsq6 ++ ([_, _])) := Mem.new (H := [_, _]) (H' := Hsq6) m4 k_w5
 refine Qa rfl (Xi (r := 165) Yu rfl (by first | rfl | omega) Qbu rfl rfl) <| Zw (Qiu 10 (sE ra wa oa sb tb sa ta n1 n2 n3 rq6) Qbu rfl rfl grq6.one ((Mem.pick Hsq6 [_] _ m5)).h0 rfl rfl) ?_
 rintro _ w7 uq7
 have m7 : Mem _ _ ([_] ++ (Hsq6 ++ ([_]))) := Mem.upd0 (Mem.pick Hsq6 [_] _ m5) uq7
 refine rN (Qg ?_)
 refine Xq (dl 7) 7 (by kernel_rfl) <| Qj rfl rfl (fun _ _hx => Xi (r := 32) Yu rfl (by first | rfl | omega) Z9 rfl rfl) <| Qj rfl rfl (fun _ _hx => Vk 1 X3 Z9 rfl ((Mem.pick2 [_] Hsq6 [_] _ (m7.ext _hx))).h0 rfl) <| Kv rfl rfl (fun w8 e8 => oc31 (Jj rfl) (Qh7 _ _ sL)) <| Qj rfl rfl (fun _ _hx => Xi (r := 164) Yu rfl (by first | rfl | omega) Dy rfl rfl) <| Qj rfl rfl (fun _ _hx => Y7 9 Fj rfl ((Mem.pick2 [_] Hsq6 [_] _ (m7.ext _hx))).h0 rfl) <| Qj rfl rfl (fun _ _hx => Xi (r := 162) Yu rfl (by first | rfl | omega) Dy rfl rfl) <| Qj rfl rfl (fun _ _hx => Y7 7 Fj rfl ((Mem.pick2 [_] Hsq6 [_] _ (m7.ext _hx))).h0 rfl) ?_
 refine Xd (fun w11 e11 => ?_)
 have m11 := m7.ext e11
 refine Qa rfl (Vd (c := (Zl (sH (Y9 wa We) n3 n1))) (pl := [(0, 32), (32, 1), (33, 1)]) ti53 uT53 (by kernel_rfl) (Y2 (i := 0) (v := (agg u8 (Y9 wa We))) (cs := (cl u8 (Y9 wa We))) rfl rfl (Y2 (i := 1) (v := (i64 n3)) (cs := #[(i64 n3)]) rfl rfl (Y2 (i := 2) (v := (i64 n1)) (cs := #[(i64 n1)]) rfl rfl Vo))) (Wv (L := (sH (List.replicate 32 0) 0 0)) 0 (sH (Y9 wa We) 0 0) rfl (Wi u8 _).symm rfl (Wv 1 (sH (Y9 wa We) n3 0) rfl rfl rfl (Wv 2 (sH (Y9 wa We) n3 n1) rfl rfl rfl F8)))) <| Za rfl (oc30 (Jj rfl) (c_header _ _ _ _ sL sL sL)) ?_
 rintro rq13 w12 ⟨Hsq13, grq13, k_w12⟩
 have m12 : Mem _ _ (Hsq13 ++ ([_] ++ (Hsq6 ++ ([_])))) := Mem.new (H := [_] ++ (Hsq6 ++ ([_]))) (H' := Hsq13) m11 k_w12
 refine rA rfl (v := rq13) rfl ?_
 refine rN (sR ?_)
 refine Za rfl (Zg m12 Z9) ?_
 rintro _ w14 ⟨b10, rfl, e14, m14⟩
 refine rN (sR ?_)
 refine Qa rfl (Xi (r := 98) Yu rfl (by first | rfl | omega) Z9 rfl rfl) <| Qa rfl (Vk 5 X3 Z9 rfl ((Mem.pick4 [_] Hsq13 [_] Hsq6 [_] _ m14)).h0 rfl) <| Za rfl (oc32 (Jj rfl) (c_step _ _ (hT.mono fun b o e => (m14).rest b o e) sL)) ?_
 rintro _ w15 ⟨rfl, e15⟩
 have m15 := m14.ext e15
 refine Qa rfl (Qb (v := (Value.tuple #[(agg u8 (X7 sa [2#8])), (agg u8 (X7 sa [1#8]))])) rfl) <| Qa (v := (agg u8 (X7 sa [2#8]))) rfl (Zo rfl rfl) <| Qa (v := (agg u8 (X7 sa [1#8]))) rfl (Zo rfl rfl) <| Qa rfl (Xi (r := 98) Yu rfl (by first | rfl | omega) Z9 rfl rfl) <| Zw (Qax 5 (sE ra wa oa sb tb (X7 sa [2#8]) ta n1 n2 n3 rq6) Qu Z9 rfl rfl ((Mem.pick2 [_] Hsq13 [_] _ m15)).h0 rfl) ?_
 rintro _ w17 uq17
 have m17 : Mem _ _ ([_, _] ++ (Hsq13 ++ (Hsq6 ++ ([_])))) := Mem.upd0 (Mem.pick2 [_] Hsq13 [_] _ m15) uq17
 refine Zw (Qm (f := u8) (l := X7 sa [1#8]) Qu Z9 rfl rfl sL m17.h1 (by rw [Jk]; first | omega | (simp only [List.length_set, List.length_append, List.length_replicate, List.length_map, List.length_cons, List.length_nil]; omega) | (simp; done) | (simp; omega) | decide) rfl) ?_
 rintro _ w18 uq18
 have m18 := m17.upd1 uq18
 refine rN (sR ?_)
 refine Qa rfl (Xi (r := 162) Yu rfl (by first | rfl | omega) Dy rfl rfl) <| Qa rfl (Y7 7 Fj rfl m18.h0 rfl) <| Qa rfl (Qk (b := 1) rfl rfl oM oM) <| Qa rfl (Xi (r := 162) Yu rfl (by first | rfl | omega) Dy rfl rfl) <| Zw (Qiu 7 (sE ra wa oa sb tb (X7 sa [2#8]) ta (n1 + 1) n2 n3 rq6) Dy rfl rfl (Xm _) m18.h0 rfl rfl) ?_
 rintro _ w19 uq19
 have m19 := m18.upd0 uq19
 refine rN (Qg ?_)
 refine Jz (by kernel_rfl) ?_
 have m20 := (Mem.pick3 [_, _] Hsq13 Hsq6 [_] _ m19)
 have m21 := (Mem.pick2 [_, _, _] Hsq13 Hsq6 _ m20)
 have m22 := (Mem.pick2 Hsq6 [_, _] [_] _ m21)
 have m23 := (Mem.pick3 [_] Hsq6 [_] [_] _ m22)
 have m24 := (Mem.pick3 [_, _] Hsq6 [_] Hsq13 _ m23)
 have hFM25 : Mem w19 (Qy w0) ((Hsq13 ++ ([])) ++ ([(b6, .cells (Zl (sE ra wa oa sb tb (X7 sa [2#8]) ta (n1 + 1) n2 n3 rq6)) 26 (0, 0)), (b10, .cells (cl u8 (X7 sa [1#8])) 23 (0, 0))] ++ (Hsq6 ++ ([(b3, .cells (Zl (sE ra wa oa sb tb sa ta n1 n2 n3 vk)) 26 (0, 0))])))) := (by
  have hT := m24
  try simp only [List.append_assoc, List.cons_append, List.nil_append, List.append_nil] at hT ⊢
  exact hT)
 obtain ⟨RM25, hRM25⟩ : ∃ R2, R2 = Rest.add (Qy w0) ([(b6, .cells (Zl (sE ra wa oa sb tb (X7 sa [2#8]) ta (n1 + 1) n2 n3 rq6)) 26 (0, 0)), (b10, .cells (cl u8 (X7 sa [1#8])) 23 (0, 0))] ++ (Hsq6 ++ ([(b3, .cells (Zl (sE ra wa oa sb tb sa ta n1 n2 n3 vk)) 26 (0, 0))]))) := ⟨_, rfl⟩
 have M250 : Mem w19 RM25 (Hsq13 ++ ([])) := by rw [hRM25]; exact Mem.give hFM25
 have hr26 : Rd RM25.blk u8 vb lb := by rw [hRM25]; exact Rd.mono hrb fun b o e => Mem.addRest hFM25 e
 have hr27 : Rd RM25.blk u8 vp lp := by rw [hRM25]; exact Rd.mono hrp fun b o e => Mem.addRest hFM25 e
 have hr28 : RdK RM25.blk J9 65 vk ks := by rw [hRM25]; exact RdK.mono hk fun b o e => Mem.addRest hFM25 e
 have hg29 : RdK RM25.blk J9 65 rq6 ks := grq6.rdIn (fun p hp => by rw [hRM25]; exact Mem.addOwn hFM25 (List.mem_append_right _ (List.mem_append_left _ hp)))
 have ho30 : RM25.blk b6 = some (.cells (Zl (sE ra wa oa sb tb (X7 sa [2#8]) ta (n1 + 1) n2 n3 rq6)) 26 (0, 0)) := by rw [hRM25]; exact Mem.addOwn hFM25 (List.mem_append_left _ (List.Mem.head _))
 have ho31 : RM25.blk b10 = some (.cells (cl u8 (X7 sa [1#8])) 23 (0, 0)) := by rw [hRM25]; exact Mem.addOwn hFM25 (List.mem_append_left _ (List.Mem.tail _ (List.Mem.head _)))
 have ho32 : RM25.blk b3 = some (.cells (Zl (sE ra wa oa sb tb sa ta n1 n2 n3 vk)) 26 (0, 0)) := by rw [hRM25]; exact Mem.addOwn hFM25 (List.mem_append_right _ (List.mem_append_right _ (List.Mem.head _)))
 have hT33 : Tabs RM25.blk := by rw [hRM25]; exact Tabs.mono hT fun b o e => Mem.addRest hFM25 e
 refine Ju M250 [(0, false), (1, false), (2, false), (3, false), (4, false), (6, false), (8, false), (5, true), (7, true), (9, true), (10, true)] 11 rfl (by kernel_rfl) <| Xu rfl rfl (fun w _H _hx => Jr Yu Y8 rfl (_hx.rest _ _ ho30)) <| Xu rfl rfl (fun w _H _hx => Qb (v := rq13) rfl) <| Xu rfl rfl (fun w _H _hx => Qw X3 rfl Z9 rfl (_hx.rest _ _ ho31) (by rw [Jk]; first | omega | (simp only [List.length_set, List.length_append, List.length_replicate, List.length_map, List.length_cons, List.length_nil]; omega) | (simp; done) | (simp; omega) | decide)) <| Xu rfl rfl (fun w _H _hx => Jp (ps := []) (c := (cl u8 (List.replicate 12 0))) Qey Qah X6 (by simp) rfl) <| Xu rfl rfl (fun w _H _hx => Qb (v := vb) rfl) <| Xu rfl rfl (fun w _H _hx => Qb (v := rq13) rfl) <| Xu rfl rfl (fun w _H _hx => Qb (v := vp) rfl) ?_
 refine Y5 rfl rfl (fun w34 e34 => ?_)
 have m34 := M250.ext e34
 refine Yz.mono (oc34 (Jj rfl) (Qdn vb lb _ (Rd.ofRest hr26 m34) sL)) ?_
 rintro rq36 w35 ⟨Hsq36, grq36, k_w35⟩
 have m35 : Mem _ _ (Hsq36 ++ (Hsq13 ++ ([]))) := Mem.new (H := Hsq13 ++ ([])) (H' := Hsq36) m34 k_w35
 refine ⟨⟨_, m35⟩, ?_⟩
 refine Y5 rfl rfl (fun w37 e37 => ?_)
 have m37 := m35.ext e37
 refine Yz.mono (Zk (f := u8) (Hs := Hsq36) (H := Hsq13 ++ ([])) m37 grq36 rfl rfl (grq13.rd (Mem.pick Hsq36 Hsq13 _ m37)) Zi Zi X6 rfl Qu sL sL) ?_
 rintro sv38 w38 ⟨Hs38, m38, g38⟩
 replace g38 : Zv u8 5 sv38 (lb ++ (G7 (Y9 wa We) n3 n1)) Hs38 := g38
 refine ⟨⟨_, m38⟩, ?_⟩
 refine Y5 rfl rfl (fun w39 e39 => ?_)
 have m39 := m38.ext e39
 refine Yz.mono (oc33 (Qev rfl rfl rfl rfl) (c_seal _ _ sv38 (lb ++ (G7 (Y9 wa We) n3 n1)) vp lp _ (hT33.mono fun b o e => (m39).rest b o e) sL sL (g38.rd m39) sL (Rd.ofRest hr27 m39) sL)) ?_
 rintro rxq41 w40 ⟨Hsq41, grxq41, k_w40⟩
 have m40 : Mem _ _ (Hsq41 ++ (Hs38 ++ (Hsq13 ++ ([])))) := Mem.new (H := Hs38 ++ (Hsq13 ++ ([]))) (H' := Hsq41) m39 k_w40
 refine ⟨⟨_, m40⟩, ?_⟩
 refine Y5 rfl rfl (fun w42 e42 => ?_)
 have m42 := m40.ext e42
 refine Yz.mono (Zk (f := u8) (Hs := Hsq13) (H := Hsq41 ++ (Hs38 ++ ([]))) (Mem.pick2 Hsq41 Hs38 Hsq13 _ m42) grq13 rfl rfl (grxq41.rd m42) Zi Zi X6 rfl Qu sL sL) ?_
 rintro sv43 w43 ⟨Hs43, m43, g43⟩
 replace g43 : Zv u8 5 sv43 ((G7 (Y9 wa We) n3 n1) ++ (Vw (X7 sa [1#8]) (List.replicate 12 0) (lb ++ (G7 (Y9 wa We) n3 n1)) lp)) Hs43 := g43
 refine ⟨⟨_, m43⟩, ?_⟩
 refine Xd (fun w44 e44 => ?_)
 have m44 := m43.ext e44
 have hX45 := m44
 rw [hRM25] at hX45
 have m46 : Mem w44 (Qy w0) (Hs43 ++ (Hsq41 ++ (Hs38 ++ ([(b6, .cells (Zl (sE ra wa oa sb tb (X7 sa [2#8]) ta (n1 + 1) n2 n3 rq6)) 26 (0, 0)), (b10, .cells (cl u8 (X7 sa [1#8])) 23 (0, 0))] ++ (Hsq6 ++ ([(b3, .cells (Zl (sE ra wa oa sb tb sa ta n1 n2 n3 vk)) 26 (0, 0))])))))) := (by
  have hT := Mem.back hFM25 hX45
  try simp only [List.append_assoc, List.cons_append, List.nil_append, List.append_nil] at hT ⊢
  exact hT)
 refine Zw (Ky Y8 rfl rfl ((Mem.pick3 Hs43 Hsq41 Hs38 [_] _ m46)).h0 (Gv grq6.one)) ?_
 rintro _ w47 uq47
 have m47 : Mem _ _ ([_] ++ (Hs43 ++ (Hsq41 ++ (Hs38 ++ ([_] ++ (Hsq6 ++ ([_]))))))) := Mem.upd0 (Mem.pick3 Hs43 Hsq41 Hs38 [_] _ m46) uq47
 refine rA rfl (v := sv43) rfl <| Qa rfl (Qc (v := (i64 0)) rfl) <| rN ?_
 have m48 := Mem.drop Hsq41 _ (Mem.pick2 [_] Hs43 Hsq41 _ m47)
 have m49 := Mem.drop Hs38 _ (Mem.pick2 [_] Hs43 Hs38 _ m48)
 refine Xt <| Ze [(Value.agg (Zl (sE ra wa oa sb tb (X7 sa [2#8]) ta (n1 + 1) n2 n3 rq6))), sv43, (i64 0)] ⟨⟨_, rfl, Gt Yu Y8 m49.h0⟩, rfl, rfl, trivial⟩ ?_
 have m50 := Mem.drop [_] _ m49
 have m51 := Mem.drop [_] _ (Mem.pick Hs43 [_] _ m50)
 have m52 := Mem.drop [_] _ (Mem.pick2 Hs43 Hsq6 [_] _ m51)
 have m53 := (Mem.pick Hs43 Hsq6 _ m52)
 exact ⟨rq6, Hsq6, sv43, Hs43, rfl, grq6, Zv.cast g43 (by unfold Bi; simp only [List.append_assoc]), (by
  have hT := m53
  try simp only [List.append_assoc, List.cons_append, List.nil_append, List.append_nil] at hT ⊢
  exact hT)⟩
end Go.Proofs.YtkmiemlpfkfiiaaDoor
