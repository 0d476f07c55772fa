/- The ratchet: the document's side. Conditions: none beyond those that each theorem states. -/
import Derived.Test.YtkmiemlpfkfiiaaDoorRa3
import Derived.Test.YtkmiemlpfkfiiaaDoorCuP
namespace Go.Proofs.YtkmiemlpfkfiiaaDoor
set_option linter.unusedVariables false
set_option linter.unusedSimpArgs false
def Qkl (own chain : List (BitVec 8)) (p n : Int) (beside plain : List (BitVec 8)) : List (BitVec 8) :=
 G7 (V6 own We) p n ++ Vw (X7 chain [1#8]) (List.replicate 12 0) (beside ++ G7 (V6 own We) p n) plain
theorem Qof {own chain : List (BitVec 8)} {p n : Int} {beside plain : List (BitVec 8)} (h : own.length = 32) : Qkl own chain p n beside plain = Bi own chain p n beside plain := by
 unfold Qkl Bi; rw [Qhs h rfl]
theorem great_of {k a b : Nat} (h : Ea k a b = false) : k ≤ 100 ∧ a ≤ 500 ∧ b ≤ 1000 := by
 unfold Ea at h
 rw [Bool.or_eq_false_iff, Bool.or_eq_false_iff, decide_eq_false_iff_not, decide_eq_false_iff_not, decide_eq_false_iff_not] at h
 omega
theorem right_of {s : Ss} (h : Aa s = true) : (0 ≤ s.n1 ∧ s.n1 ≤ 2147483647) ∧ (0 ≤ s.n2 ∧ s.n2 ≤ 2147483647) ∧ (0 ≤ s.n3 ∧ s.n3 ≤ 2147483647) := by
 unfold Aa Be U8 at h
 simp only [Bool.and_eq_true, decide_eq_true_eq] at h
 omega
attribute [local irreducible] Ut Gi G6 Qkl Jc J4 Jm X7 G7 Qak Vw V6 We
set_option maxHeartbeats 2000000 in
theorem Qoi (ro sh : List (BitVec 8)) (w0 : World)  (hro : ro.length = 32) (hsh : sh.length = 32) : Xz Tryd.prog 42 #[(agg u8 ro), (agg u8 sh)] w0 (fun r w1 => r = (Value.tuple #[(agg u8 (Gi ro sh)), (agg u8 (G6 ro sh))]) ∧ Ext w0 w1) := by
 refine Zd (args := [(agg u8 ro), (agg u8 sh)]) Tryd.func42 rfl Tryd.ntmps42 Tryd.results42 rfl ?_
 have m0 : Mem w0 (Qy w0) [] := Mem.of_world w0
 have htl := Qhf ro sh
 have ht0 := Rl ro sh
 have ht1 := Rn ro sh
 unfold Gi at ht0; unfold G6 at ht1
 refine sR <| Za rfl (Z8 (f := u8) (l := ro) m0 rfl) ?_
 rintro _ w1 ⟨b2, rfl, e1, m1⟩
 refine Za rfl (Z8 (f := u8) (l := sh) m1 rfl) ?_
 rintro _ w2 ⟨b3, rfl, e2, m2⟩
 refine Za rfl (Zg m2 Z9) ?_
 rintro _ w3 ⟨b4, rfl, e3, m3⟩
 refine Za rfl (Zg m3 Z9) ?_
 rintro _ w4 ⟨b5, rfl, e4, m4⟩
 refine rN (Qg ?_)
 refine Xq [(0, false), (1, false)] 2 (by kernel_rfl) <| Qj rfl rfl (fun _ _hx => Xj (i := 0) (j := 32) X3 X6 rfl (Zy _ _) (Zy _ _) oM sL sL) <| Qj rfl rfl (fun _ _hx => Xj (i := 0) (j := 32) X3 X6 rfl (Zy _ _) (Zy _ _) oM sL sL) ?_
 refine Xd (fun w5 e5 => ?_)
 have m5 := m4.ext e5
 refine Za rfl (oc70 (Qev rfl rfl rfl rfl) (Qm4 (sla b2 0 1 0 32 32) ro (sla b3 0 1 0 32 32) sh (⟨#[114, 97, 116, 99, 104, 101, 116]⟩) _ _ (Rd.slaAll m5.h3 sL) sL (Rd.slaAll m5.h2 sL) sL sL sL)) ?_
 rintro rxq7 w6 ⟨Hsq7, grxq7, k_w6⟩
 have m6 : Mem _ _ (Hsq7 ++ ([_, _, _, _])) := Mem.new (H := [_, _, _, _]) (H' := Hsq7) m5 k_w6
 have gX8 : J6 (Ug u8) 32 23 rxq7 (Ut ro sh) Hsq7 := J6.cast grxq7 (by unfold Ut; first | rfl | exact (Sj (by decide) (by decide)).symm)
 refine rA rfl (v := rxq7) rfl ?_
 refine rN (Qg ?_)
 refine Jz (by kernel_rfl) ?_
 have m9 := (Mem.pick2 Hsq7 [_, _, _] [_] _ m6)
 have m10 := (Mem.pick3 [_] Hsq7 [_, _] [_] _ m9)
 have m11 := (Mem.pick2 [_, _] Hsq7 [_] _ m10)
 have m12 := (Mem.pick [_, _, _] Hsq7 _ m11)
 have m13 := (Mem.pick2 Hsq7 [_, _, _] [_] _ m12)
 have hFM14 : Mem w6 (Qy w0) ([(b4, .cells (cl u8 (List.replicate 32 0)) 23 (0, 0))] ++ (Hsq7 ++ ([(b5, .cells (cl u8 (List.replicate 32 0)) 23 (0, 0)), (b3, .cells (cl u8 sh) 23 (0, 0)), (b2, .cells (cl u8 ro) 23 (0, 0))]))) := m13
 obtain ⟨RM14, hRM14⟩ : ∃ R2, R2 = Rest.add (Qy w0) (Hsq7 ++ ([(b5, .cells (cl u8 (List.replicate 32 0)) 23 (0, 0)), (b3, .cells (cl u8 sh) 23 (0, 0)), (b2, .cells (cl u8 ro) 23 (0, 0))])) := ⟨_, rfl⟩
 have M140 : Mem w6 RM14 [(b4, .cells (cl u8 (List.replicate 32 0)) 23 (0, 0))] := by rw [hRM14]; exact Mem.give hFM14
 have hg15 : RdK RM14.blk (Ug u8) 32 rxq7 (Ut ro sh) := gX8.rdIn (fun p hp => by rw [hRM14]; exact Mem.addOwn hFM14 (List.mem_append_left _ hp))
 have ho16 : RM14.blk b5 = some (.cells (cl u8 (List.replicate 32 0)) 23 (0, 0)) := by rw [hRM14]; exact Mem.addOwn hFM14 (List.mem_append_right _ (List.Mem.head _))
 have ho17 : RM14.blk b3 = some (.cells (cl u8 sh) 23 (0, 0)) := by rw [hRM14]; exact Mem.addOwn hFM14 (List.mem_append_right _ (List.Mem.tail _ (List.Mem.head _)))
 have ho18 : RM14.blk b2 = some (.cells (cl u8 ro) 23 (0, 0)) := by rw [hRM14]; exact Mem.addOwn hFM14 (List.mem_append_right _ (List.Mem.tail _ (List.Mem.tail _ (List.Mem.head _))))
 refine Ju M140 [(0, false), (1, false), (2, false), (3, false), (4, false), (5, false), (6, true)] 7 rfl (by kernel_rfl) <| Xu rfl rfl (fun w _H _hx => Qb (v := rxq7) rfl) <| Xu rfl rfl (fun w _H _hx => Ym (i := 0) (RdK.ofRest hg15 _hx) Qbt Z9 rfl rfl oM sL) <| Xu (v := (agg u8 ((Ut ro sh).getD 0 []))) rfl rfl (fun w _H _hx => Em (i := (0 : Int)) (RdK.ofRest hg15 _hx) sL X3 Z9 rfl rfl) <| Xu rfl rfl (fun w _H _hx => Qb (v := rxq7) rfl) <| Xu rfl rfl (fun w _H _hx => Ym (i := 1) (RdK.ofRest hg15 _hx) Qbt Z9 rfl rfl oM sL) <| Xu (v := (agg u8 ((Ut ro sh).getD 1 []))) rfl rfl (fun w _H _hx => Em (i := (1 : Int)) (RdK.ofRest hg15 _hx) sL X3 Z9 rfl rfl) ?_
 refine Bh rfl (fun w19 e19 => ?_)
 have m19 := M140.ext e19
 refine Yz.mono (Qm (f := u8) (l := (Ut ro sh).getD 0 []) Qu Z9 rfl rfl sL m19.h0 (by rw [Jk]; first | omega | (simp only [List.length_set, List.length_append, List.length_replicate, List.length_map, List.length_cons, List.length_nil]; omega) | (simp; done) | (simp; omega) | decide) rfl) ?_
 rintro _ w20 uq20
 have m20 := m19.upd0 uq20
 refine ⟨⟨_, m20⟩, ?_⟩
 refine Xd (fun w21 e21 => ?_)
 have m21 := m20.ext e21
 have hX22 := m21
 rw [hRM14] at hX22
 have m23 : Mem w21 (Qy w0) ([(b4, .cells (cl u8 ((Ut ro sh).getD 0 [])) 23 (0, 0))] ++ (Hsq7 ++ ([(b5, .cells (cl u8 (List.replicate 32 0)) 23 (0, 0)), (b3, .cells (cl u8 sh) 23 (0, 0)), (b2, .cells (cl u8 ro) 23 (0, 0))]))) := (by
  have hT := Mem.back hFM14 hX22
  try simp only [List.append_assoc, List.cons_append, List.nil_append, List.append_nil] at hT ⊢
  exact hT)
 refine Zw (Qm (f := u8) (l := (Ut ro sh).getD 1 []) Qu Z9 rfl rfl sL ((Mem.pick2 [_] Hsq7 [_] _ m23)).h0 (by rw [Jk]; first | omega | (simp only [List.length_set, List.length_append, List.length_replicate, List.length_map, List.length_cons, List.length_nil]; omega) | (simp; done) | (simp; omega) | decide) rfl) ?_
 rintro _ w24 uq24
 have m24 : Mem _ _ ([_, _] ++ (Hsq7 ++ ([_, _]))) := Mem.upd0 (Mem.pick2 [_] Hsq7 [_] _ m23) uq24
 refine rN (Xt ?_)
 refine Ze [(agg u8 ((Ut ro sh).getD 0 [])), (agg u8 ((Ut ro sh).getD 1 []))] ⟨⟨_, rfl, Xo X3 rfl Z9 m24.h1 (by rw [Jk]; first | omega | (simp only [List.length_set, List.length_append, List.length_replicate, List.length_map, List.length_cons, List.length_nil]; omega) | (simp; done) | (simp; omega) | decide)⟩, ⟨_, rfl, Xo X3 rfl Z9 m24.h0 (by rw [Jk]; first | omega | (simp only [List.length_set, List.length_append, List.length_replicate, List.length_map, List.length_cons, List.length_nil]; omega) | (simp; done) | (simp; omega) | decide)⟩, trivial⟩ ?_
 exact ⟨by unfold Gi G6 Ut; rfl, m24.toExt⟩
set_option maxHeartbeats 2000000 in
theorem Ql9 (ro ow ot : List (BitVec 8)) (w0 : World)  (hro : ro.length = 32) (how : ow.length = 32) (hot : ot.length = 32) : Xz Tryd.prog 17 #[(agg u8 ro), (agg u8 ow), (agg u8 ot)] w0 (fun r w1 => r = (Value.agg (Zl (sE (Gi ro (Y9 ow ot)) ow ot true false (G6 ro (Y9 ow ot)) (List.replicate 32 0) 0 0 0 (Value.slice none 0 0)))) ∧ Ext w0 w1) := by
 refine Zd (args := [(agg u8 ro), (agg u8 ow), (agg u8 ot)]) Tryd.func17 rfl Tryd.ntmps17 Tryd.results17 rfl ?_
 have m0 : Mem w0 (Qy w0) [] := Mem.of_world w0
 have ht0 := Rl ro (V6 ow ot)
 have ht1 := Rn ro (V6 ow ot)
 have hml := Tj ow ot
 refine sR <| Za rfl (Z8 (f := u8) (l := ro) m0 rfl) ?_
 rintro _ w1 ⟨b3, rfl, e1, m1⟩
 refine Za rfl (Z8 (f := u8) (l := ow) m1 rfl) ?_
 rintro _ w2 ⟨b4, rfl, e2, m2⟩
 refine Za rfl (Z8 (f := u8) (l := ot) m2 rfl) ?_
 rintro _ w3 ⟨b5, rfl, e3, m3⟩
 refine Za rfl (Yj m3 Y8) ?_
 rintro _ w4 ⟨b6, rfl, e4, m4⟩
 refine rN (sR ?_)
 refine Qa rfl (Qw X3 rfl Z9 rfl m4.h2 (by rw [Jk]; first | omega | (simp only [List.length_set, List.length_append, List.length_replicate, List.length_map, List.length_cons, List.length_nil]; omega) | (simp; done) | (simp; omega) | decide)) <| Qa rfl (Qw X3 rfl Z9 rfl m4.h1 (by rw [Jk]; first | omega | (simp only [List.length_set, List.length_append, List.length_replicate, List.length_map, List.length_cons, List.length_nil]; omega) | (simp; done) | (simp; omega) | decide)) <| Qa rfl (Vd (c := (Zl (sE (List.replicate 32 0) ow ot true false (List.replicate 32 0) (List.replicate 32 0) 0 0 0 (Value.slice none 0 0)))) (pl := [(0, 32), (32, 32), (64, 32), (96, 1), (97, 1), (98, 32), (130, 32), (162, 1), (163, 1), (164, 1), (165, 1)]) Y8 Yu (by kernel_rfl) (Y2 (i := 1) (v := (agg u8 ow)) (cs := (cl u8 ow)) rfl rfl (Y2 (i := 2) (v := (agg u8 ot)) (cs := (cl u8 ot)) rfl rfl (Y2 (i := 3) (v := (bl true)) (cs := #[(bl true)]) rfl rfl Vo))) (Wv (L := (sE (List.replicate 32 0) (List.replicate 32 0) (List.replicate 32 0) false false (List.replicate 32 0) (List.replicate 32 0) 0 0 0 (Value.slice none 0 0))) 1 (sE (List.replicate 32 0) ow (List.replicate 32 0) false false (List.replicate 32 0) (List.replicate 32 0) 0 0 0 (Value.slice none 0 0)) rfl (Wi u8 _).symm rfl (Wv 2 (sE (List.replicate 32 0) ow ot false false (List.replicate 32 0) (List.replicate 32 0) 0 0 0 (Value.slice none 0 0)) rfl (Wi u8 _).symm rfl (Wv 3 (sE (List.replicate 32 0) ow ot true false (List.replicate 32 0) (List.replicate 32 0) 0 0 0 (Value.slice none 0 0)) rfl rfl rfl F8)))) <| Za rfl (Yj m4 Y8) ?_
 rintro _ w5 ⟨b7, rfl, e5, m5⟩
 refine Zw (Ky Y8 rfl rfl m5.h0 (Gv rfl)) ?_
 rintro _ w6 uq6
 have m6 := m5.upd0 uq6
 refine rN (Qg ?_)
 refine Jz (by kernel_rfl) ?_
 have hFM7 : Mem w6 (Qy w0) ([(b7, .cells (Zl (sE (List.replicate 32 0) ow ot true false (List.replicate 32 0) (List.replicate 32 0) 0 0 0 (Value.slice none 0 0))) 26 (0, 0))] ++ [(b6, .cells (Zl (sE (List.replicate 32 0) (List.replicate 32 0) (List.replicate 32 0) false false (List.replicate 32 0) (List.replicate 32 0) 0 0 0 (Value.slice none 0 0))) 26 (0, 0)), (b5, .cells (cl u8 ot) 23 (0, 0)), (b4, .cells (cl u8 ow) 23 (0, 0)), (b3, .cells (cl u8 ro) 23 (0, 0))]) := m6
 obtain ⟨RM7, hRM7⟩ : ∃ R2, R2 = Rest.add (Qy w0) [(b6, .cells (Zl (sE (List.replicate 32 0) (List.replicate 32 0) (List.replicate 32 0) false false (List.replicate 32 0) (List.replicate 32 0) 0 0 0 (Value.slice none 0 0))) 26 (0, 0)), (b5, .cells (cl u8 ot) 23 (0, 0)), (b4, .cells (cl u8 ow) 23 (0, 0)), (b3, .cells (cl u8 ro) 23 (0, 0))] := ⟨_, rfl⟩
 have M70 : Mem w6 RM7 [(b7, .cells (Zl (sE (List.replicate 32 0) ow ot true false (List.replicate 32 0) (List.replicate 32 0) 0 0 0 (Value.slice none 0 0))) 26 (0, 0))] := by rw [hRM7]; exact Mem.give hFM7
 have ho8 : RM7.blk b6 = some (.cells (Zl (sE (List.replicate 32 0) (List.replicate 32 0) (List.replicate 32 0) false false (List.replicate 32 0) (List.replicate 32 0) 0 0 0 (Value.slice none 0 0))) 26 (0, 0)) := by rw [hRM7]; exact Mem.addOwn hFM7 (List.Mem.head _)
 have ho9 : RM7.blk b5 = some (.cells (cl u8 ot) 23 (0, 0)) := by rw [hRM7]; exact Mem.addOwn hFM7 (List.Mem.tail _ (List.Mem.head _))
 have ho10 : RM7.blk b4 = some (.cells (cl u8 ow) 23 (0, 0)) := by rw [hRM7]; exact Mem.addOwn hFM7 (List.Mem.tail _ (List.Mem.tail _ (List.Mem.head _)))
 have ho11 : RM7.blk b3 = some (.cells (cl u8 ro) 23 (0, 0)) := by rw [hRM7]; exact Mem.addOwn hFM7 (List.Mem.tail _ (List.Mem.tail _ (List.Mem.tail _ (List.Mem.head _))))
 refine Ju M70 [(0, false), (1, false), (2, false), (3, false), (4, false), (5, false), (6, false), (7, false), (8, false), (9, true)] 10 rfl (by kernel_rfl) <| Xu rfl rfl (fun w _H _hx => Qw X3 rfl Z9 rfl (_hx.rest _ _ ho11) (by rw [Jk]; first | omega | (simp only [List.length_set, List.length_append, List.length_replicate, List.length_map, List.length_cons, List.length_nil]; omega) | (simp; done) | (simp; omega) | decide)) <| Xu rfl rfl (fun w _H _hx => Qw X3 rfl Z9 rfl (_hx.rest _ _ ho10) (by rw [Jk]; first | omega | (simp only [List.length_set, List.length_append, List.length_replicate, List.length_map, List.length_cons, List.length_nil]; omega) | (simp; done) | (simp; omega) | decide)) <| Xu rfl rfl (fun w _H _hx => Qw X3 rfl Z9 rfl (_hx.rest _ _ ho9) (by rw [Jk]; first | omega | (simp only [List.length_set, List.length_append, List.length_replicate, List.length_map, List.length_cons, List.length_nil]; omega) | (simp; done) | (simp; omega) | decide)) <| dk_x rfl rfl (fun w12 _Hw12 _hw12 => oc36 (Xr rfl rfl) (Qm3 _ _ _ sL sL)) <| dk_x (v := (Value.tuple #[(agg u8 (Gi ro (V6 ow ot))), (agg u8 (G6 ro (V6 ow ot)))])) rfl rfl (fun w15 _Hw15 _hw15 => oc42 (Xr rfl rfl) (Qoi _ _ _ sL sL)) <| Xu rfl rfl (fun w _H _hx => Qb rfl) <| Xu (v := (agg u8 (Gi ro (V6 ow ot)))) rfl rfl (fun w _H _hx => Zo rfl rfl) <| Xu (v := (agg u8 (G6 ro (V6 ow ot)))) rfl rfl (fun w _H _hx => Zo rfl rfl) <| Xu rfl rfl (fun w _H _hx => Xi (r := 0) Yu rfl (by first | rfl | omega) Z9 rfl rfl) ?_
 refine Bh rfl (fun w18 e18 => ?_)
 have m18 := M70.ext e18
 refine Yz.mono (Qax 0 (sE (Gi ro (V6 ow ot)) ow ot true false (List.replicate 32 0) (List.replicate 32 0) 0 0 0 (Value.slice none 0 0)) Qu Z9 rfl rfl m18.h0 rfl) ?_
 rintro _ w19 uq19
 have m19 := m18.upd0 uq19
 refine ⟨⟨_, m19⟩, ?_⟩
 refine Xd (fun w20 e20 => ?_)
 have m20 := m19.ext e20
 have hX21 := m20
 rw [hRM7] at hX21
 have m22 : Mem w20 (Qy w0) [(b7, .cells (Zl (sE (Gi ro (V6 ow ot)) ow ot true false (List.replicate 32 0) (List.replicate 32 0) 0 0 0 (Value.slice none 0 0))) 26 (0, 0)), (b6, .cells (Zl (sE (List.replicate 32 0) (List.replicate 32 0) (List.replicate 32 0) false false (List.replicate 32 0) (List.replicate 32 0) 0 0 0 (Value.slice none 0 0))) 26 (0, 0)), (b5, .cells (cl u8 ot) 23 (0, 0)), (b4, .cells (cl u8 ow) 23 (0, 0)), (b3, .cells (cl u8 ro) 23 (0, 0))] := (by
  have hT := Mem.back hFM7 hX21
  try simp only [List.append_assoc, List.cons_append, List.nil_append, List.append_nil] at hT ⊢
  exact hT)
 refine Qa rfl (Xi (r := 98) Yu rfl (by first | rfl | omega) Z9 rfl rfl) <| Zw (Qax 5 (sE (Gi ro (V6 ow ot)) ow ot true false (G6 ro (V6 ow ot)) (List.replicate 32 0) 0 0 0 (Value.slice none 0 0)) Qu Z9 rfl rfl m22.h0 rfl) ?_
 rintro _ w23 uq23
 have m23 := m22.upd0 uq23
 refine rN (sR ?_)
 refine Qa rfl (Jr Yu Y8 rfl m23.h0) <| Zw (Ky Y8 rfl rfl m23.h1 (Gv rfl)) ?_
 rintro _ w24 uq24
 have m24 := m23.upd1 uq24
 refine rN (Xt ?_)
 refine Ze [(Value.agg (Zl (sE (Gi ro (V6 ow ot)) ow ot true false (G6 ro (V6 ow ot)) (List.replicate 32 0) 0 0 0 (Value.slice none 0 0))))] ⟨⟨_, rfl, Gt Yu Y8 m24.h1⟩, trivial⟩ ?_
 exact ⟨by rw [Qhs how hot]; rfl, m24.toExt⟩
set_option maxHeartbeats 2000000 in
theorem Qm5 (va : Value) (la : List (BitVec 8)) (vb : Value) (lb : List (BitVec 8)) (w0 : World)  (hra : Rd (Yq w0) u8 va la) (hla : la.length ≤ 1048576) (hrb : Rd (Yq w0) u8 vb lb) (hlb : lb.length ≤ 1048576) : Xz Tryd.prog 38 #[va, vb] w0 (fun r w1 => ∃ Hs, Zv u8 5 r (la ++ lb) Hs ∧ Mem w1 (Qy w0) Hs) := by
 refine Zd (args := [va, vb]) Tryd.func38 rfl Tryd.ntmps38 Tryd.results38 rfl ?_
 have m0 : Mem w0 (Qy w0) [] := Mem.of_world w0
 refine sR <| Qa rfl (Qc (v := (Value.slice none 0 0)) rfl) ?_
 refine rN (sR ?_)
 refine Za rfl (Ql u8 [] Qu m0 Zi X6 rfl (by simp [Jo]) rfl) ?_
 rintro _ w1 ⟨b6, rfl, e1, m1⟩
 refine rM rfl (v := va) rfl <| Za rfl (Zk (f := u8) (Hs := [(b6, .cells (cl u8 ([])) 5 (0, 0))]) (H := []) m1 (Zv.of u8 5 b6 ([])) rfl rfl (Rd.ofRest hra m1) Zi Zi X6 rfl Qu sL sL) ?_
 rintro sv2 w2 ⟨Hs2, m2, g2⟩
 replace g2 : Zv u8 5 sv2 la Hs2 := g2
 refine rA rfl (v := sv2) rfl ?_
 refine rN (sR ?_)
 refine rM rfl (v := sv2) rfl <| rM rfl (v := vb) rfl <| Za rfl (Zk (f := u8) (Hs := Hs2) (H := []) m2 g2 rfl rfl (Rd.ofRest hrb m2) Zi Zi X6 rfl Qu sL sL) ?_
 rintro sv3 w3 ⟨Hs3, m3, g3⟩
 replace g3 : Zv u8 5 sv3 (la ++ lb) Hs3 := g3
 refine rA rfl (v := sv3) rfl ?_
 refine rN (Xt ?_)
 refine Ze [sv3] ⟨rfl, trivial⟩ ?_
 exact ⟨Hs3, Zv.cast g3 (by simp), (by
  have hT := m3
  try simp only [List.append_assoc, List.cons_append, List.nil_append, List.append_nil] at hT ⊢
  exact hT)⟩
set_option maxHeartbeats 2000000 in
theorem Qkn (ra wa oa : List (BitVec 8)) (sb tb : Bool) (sa ta : List (BitVec 8)) (n1 n2 n3 : Int) (vk : Value) (ks : List Kp) (vb : Value) (lb : List (BitVec 8)) (vp : Value) (lp : List (BitVec 8)) (w0 : World)  (hl : ra.length = 32 ∧ wa.length = 32 ∧ oa.length = 32 ∧ sa.length = 32 ∧ ta.length = 32) (hk : RdK (Yq w0) J9 65 vk ks) (hn : ks.length ≤ 1048576) (hrb : Rd (Yq w0) u8 vb lb) (hlb : lb.length ≤ 90000) (hrp : Rd (Yq w0) u8 vp lp) (hlp : lp.length ≤ 90000) (hn1 : 0 ≤ n1 ∧ n1 ≤ 2147483647) (hn3 : 0 ≤ n3 ∧ n3 ≤ 2147483647) (hsb : sb = false) : Xz Tryd.prog 13 #[(Value.agg (Zl (sE ra wa oa sb tb sa ta n1 n2 n3 vk))), vb, vp] w0 (fun r w1 => r = (Value.tuple #[(Value.agg (Zl (sE ra wa oa sb tb sa ta n1 n2 n3 vk))), (Value.slice none 0 0), (i64 13)]) ∧ Ext w0 w1) := by
 refine Zd (args := [(Value.agg (Zl (sE ra wa oa sb tb sa ta n1 n2 n3 vk))), vb, vp]) Tryd.func13 rfl Tryd.ntmps13 Tryd.results13 rfl ?_
 have m0 : Mem w0 (Qy w0) [] := Mem.of_world w0
 obtain ⟨hl1, hl2, hl3, hl4, hl5⟩ := hl
 have hnsb : (!sb) = true := by rw [hsb]; rfl
 refine sR <| Za rfl (Gx (cs := (Zl (sE ra wa oa sb tb sa ta n1 n2 n3 vk))) m0 rfl) ?_
 rintro _ w1 ⟨b3, rfl, e1, m1⟩
 refine Za rfl (Yj m1 Y8) ?_
 rintro _ w2 ⟨b6, rfl, e2, m2⟩
 refine Qa rfl (Qc (v := (Value.slice none 0 0)) rfl) <| Qa rfl (Qc (v := (i64 0)) rfl) ?_
 refine rN (Qg (sR ?_))
 refine Qa rfl (Xi (r := 96) Yu rfl (by first | rfl | omega) ti4 rfl rfl) <| Qa rfl (Y7 3 uT4 rfl m2.h1 rfl) <| Qa rfl (G9 rfl) <| rN <| Zc rfl hnsb <| sR <| Qa rfl (Jr Yu Y8 rfl m2.h1) <| Zw (Ky Y8 rfl rfl m2.h0 (Gv (RdK.one (RdK.ofRest hk m2)))) ?_
 rintro _ w3 uq3
 have m3 := m2.upd0 uq3
 refine Qa rfl (Qc (v := (Value.slice none 0 0)) rfl) <| Qa rfl (Qc (v := (i64 13)) rfl) ?_
 refine rN (Xt (Vg ?_))
 refine Ze [(Value.agg (Zl (sE ra wa oa sb tb sa ta n1 n2 n3 vk))), (Value.slice none 0 0), (i64 13)] ⟨⟨_, rfl, Gt Yu Y8 m3.h0⟩, rfl, rfl, trivial⟩ ?_
 exact ⟨rfl, m3.toExt⟩
set_option maxHeartbeats 2000000 in
theorem Qko (ra wa oa : List (BitVec 8)) (sb tb : Bool) (sa ta : List (BitVec 8)) (n1 n2 n3 : Int) (vk : Value) (ks : List Kp) (vb : Value) (lb : List (BitVec 8)) (vp : Value) (lp : List (BitVec 8)) (w0 : World)  (hl : ra.length = 32 ∧ wa.length = 32 ∧ oa.length = 32 ∧ sa.length = 32 ∧ ta.length = 32) (hk : RdK (Yq w0) J9 65 vk ks) (hn : ks.length ≤ 1048576) (hrb : Rd (Yq w0) u8 vb lb) (hlb : lb.length ≤ 90000) (hrp : Rd (Yq w0) u8 vp lp) (hlp : lp.length ≤ 90000) (hn1 : 0 ≤ n1 ∧ n1 ≤ 2147483647) (hn3 : 0 ≤ n3 ∧ n3 ≤ 2147483647) (hsb : sb = true) (hmost : n1 = 2147483647) : Xz Tryd.prog 13 #[(Value.agg (Zl (sE ra wa oa sb tb sa ta n1 n2 n3 vk))), vb, vp] w0 (fun r w1 => r = (Value.tuple #[(Value.agg (Zl (sE ra wa oa sb tb sa ta n1 n2 n3 vk))), (Value.slice none 0 0), (i64 12)]) ∧ Ext w0 w1) := by
 refine Zd (args := [(Value.agg (Zl (sE ra wa oa sb tb sa ta n1 n2 n3 vk))), vb, vp]) Tryd.func13 rfl Tryd.ntmps13 Tryd.results13 rfl ?_
 have m0 : Mem w0 (Qy w0) [] := Mem.of_world w0
 obtain ⟨hl1, hl2, hl3, hl4, hl5⟩ := hl
 have hnsb : (!sb) = false := by rw [hsb]; rfl
 refine sR <| Za rfl (Gx (cs := (Zl (sE ra wa oa sb tb sa ta n1 n2 n3 vk))) m0 rfl) ?_
 rintro _ w1 ⟨b3, rfl, e1, m1⟩
 refine Za rfl (Yj m1 Y8) ?_
 rintro _ w2 ⟨b6, rfl, e2, m2⟩
 refine Qa rfl (Qc (v := (Value.slice none 0 0)) rfl) <| Qa rfl (Qc (v := (i64 0)) rfl) ?_
 refine rN (Qg (sR ?_))
 refine Qa rfl (Xi (r := 96) Yu rfl (by first | rfl | omega) ti4 rfl rfl) <| Qa rfl (Y7 3 uT4 rfl m2.h1 rfl) <| Qa rfl (G9 rfl) <| rN <| Yp rfl hnsb ?_
 refine Q7 (Qh (Qg (sR ?_)))
 refine Qa rfl (Xi (r := 162) Yu rfl (by first | rfl | omega) Dy rfl rfl) <| Qa rfl (Y7 7 Fj rfl m2.h1 rfl) <| Qa rfl (Vp (b := 2147483647) rfl rfl) <| rN ?_
 have hd3 : (n1 == 2147483647) = true := beq_iff_eq.2 oM
 refine Zc rfl hd3 <| sR <| Qa rfl (Jr Yu Y8 rfl m2.h1) <| Zw (Ky Y8 rfl rfl m2.h0 (Gv (RdK.one (RdK.ofRest hk m2)))) ?_
 rintro _ w4 uq4
 have m4 := m2.upd0 uq4
 refine Qa rfl (Qc (v := (Value.slice none 0 0)) rfl) <| Qa rfl (Qc (v := (i64 12)) rfl) ?_
 refine rN (Xt (Vg ?_))
 refine Ze [(Value.agg (Zl (sE ra wa oa sb tb sa ta n1 n2 n3 vk))), (Value.slice none 0 0), (i64 12)] ⟨⟨_, rfl, Gt Yu Y8 m4.h0⟩, rfl, rfl, trivial⟩ ?_
 exact ⟨rfl, m4.toExt⟩
set_option maxHeartbeats 2000000 in
theorem c_renc19 (ra wa oa : List (BitVec 8)) (sb tb : Bool) (sa ta : List (BitVec 8)) (n1 n2 n3 : Int) (vk : Value) (ks : List Kp) (vb : Value) (lb : List (BitVec 8)) (vp : Value) (lp : List (BitVec 8)) (w0 : World)  (hl : ra.length = 32 ∧ wa.length = 32 ∧ oa.length = 32 ∧ sa.length = 32 ∧ ta.length = 32) (hk : RdK (Yq w0) J9 65 vk ks) (hn : ks.length ≤ 1048576) (hrb : Rd (Yq w0) u8 vb lb) (hlb : lb.length ≤ 90000) (hrp : Rd (Yq w0) u8 vp lp) (hlp : lp.length ≤ 90000) (hn1 : 0 ≤ n1 ∧ n1 ≤ 2147483647) (hn3 : 0 ≤ n3 ∧ n3 ≤ 2147483647) (hsb : sb = true) (hless : n1 < 2147483647) : Xz Tryd.prog 13 #[(Value.agg (Zl (sE ra wa oa sb tb sa ta n1 n2 n3 vk))), vb, vp] w0 (fun r w1 => ∃ vc Hc, r = Value.tuple #[(Value.agg (Zl (sE ra wa oa sb tb (X7 sa [2#8]) ta (n1 + 1) n2 n3 vk))), vc, i64 0] ∧ Zv u8 5 vc (Bi wa sa n3 n1 lb lp) Hc ∧ Mem w1 (Qy w0) Hc) := by
 refine Zd (args := [(Value.agg (Zl (sE ra wa oa sb tb sa ta n1 n2 n3 vk))), vb, vp]) Tryd.func13 rfl Tryd.ntmps13 Tryd.results13 rfl ?_
 have m0 : Mem w0 (Qy w0) [] := Mem.of_world w0
 obtain ⟨hl1, hl2, hl3, hl4, hl5⟩ := hl
 have hnsb : (!sb) = false := by rw [hsb]; rfl
 have hhl := Qbj (p := n3) (n := n1) (Tj wa [9#8, 0#8, 0#8, 0#8, 0#8, 0#8, 0#8, 0#8, 0#8, 0#8, 0#8, 0#8, 0#8, 0#8, 0#8, 0#8, 0#8, 0#8, 0#8, 0#8, 0#8, 0#8, 0#8, 0#8, 0#8, 0#8, 0#8, 0#8, 0#8, 0#8, 0#8, 0#8])
 have hc1 : (X7 sa [1#8]).length = 32 := Wu _ _
 have hc2 : (X7 sa [2#8]).length = 32 := Wu _ _
 have hml := Tj wa [9#8, 0#8, 0#8, 0#8, 0#8, 0#8, 0#8, 0#8, 0#8, 0#8, 0#8, 0#8, 0#8, 0#8, 0#8, 0#8, 0#8, 0#8, 0#8, 0#8, 0#8, 0#8, 0#8, 0#8, 0#8, 0#8, 0#8, 0#8, 0#8, 0#8, 0#8, 0#8]
 have hcl := A8 (key := X7 sa [1#8]) (nonce := List.replicate 12 0) (beside := lb ++ G7 (V6 wa [9#8, 0#8, 0#8, 0#8, 0#8, 0#8, 0#8, 0#8, 0#8, 0#8, 0#8, 0#8, 0#8, 0#8, 0#8, 0#8, 0#8, 0#8, 0#8, 0#8, 0#8, 0#8, 0#8, 0#8, 0#8, 0#8, 0#8, 0#8, 0#8, 0#8, 0#8, 0#8]) n3 n1) (plain := lp)
 refine sR <| Za rfl (Gx (cs := (Zl (sE ra wa oa sb tb sa ta n1 n2 n3 vk))) m0 rfl) ?_
 rintro _ w1 ⟨b3, rfl, e1, m1⟩
 refine Za rfl (Yj m1 Y8) ?_
 rintro _ w2 ⟨b6, rfl, e2, m2⟩
 refine Qa rfl (Qc (v := (Value.slice none 0 0)) rfl) <| Qa rfl (Qc (v := (i64 0)) rfl) ?_
 refine rN (Qg (sR ?_))
 refine Qa rfl (Xi (r := 96) Yu rfl (by first | rfl | omega) ti4 rfl rfl) <| Qa rfl (Y7 3 uT4 rfl m2.h1 rfl) <| Qa rfl (G9 rfl) <| rN <| Yp rfl hnsb ?_
 refine Q7 (Qh (Qg (sR ?_)))
 refine Qa rfl (Xi (r := 162) Yu rfl (by first | rfl | omega) Dy rfl rfl) <| Qa rfl (Y7 7 Fj rfl m2.h1 rfl) <| Qa rfl (Vp (b := 2147483647) rfl rfl) <| rN ?_
 have hd3 : (n1 == 2147483647) = false := beq_eq_false_iff_ne.2 oM
 refine Yp rfl hd3 ?_
 refine Q7 (Qh (Qg ?_))
 refine Xq (dl 8) 8 (by kernel_rfl) <| Qj rfl rfl (fun _ _hx => Xi (r := 32) Yu rfl (by first | rfl | omega) Z9 rfl rfl) <| Qj rfl rfl (fun _ _hx => Vk 1 X3 Z9 rfl (m2.ext _hx).h1 rfl) <| Qj rfl rfl (fun _ _hx => Ve (c := (cl u8 ([9#8, 0#8, 0#8, 0#8, 0#8, 0#8, 0#8, 0#8, 0#8, 0#8, 0#8, 0#8, 0#8, 0#8, 0#8, 0#8, 0#8, 0#8, 0#8, 0#8, 0#8, 0#8, 0#8, 0#8, 0#8, 0#8, 0#8, 0#8, 0#8, 0#8, 0#8, 0#8]))) Z9 X3 X6 (Y2 (i := 0) (v := (u8 9#8)) (cs := #[(u8 9#8)]) rfl rfl Vo) (by kernel_rfl)) <| Kv rfl rfl (fun w4 e4 => oc36 (Xr rfl rfl) (Qm3 _ _ _ sL sL)) <| Qj rfl rfl (fun _ _hx => Xi (r := 164) Yu rfl (by first | rfl | omega) Dy rfl rfl) <| Qj rfl rfl (fun _ _hx => Y7 9 Fj rfl (m2.ext _hx).h1 rfl) <| Qj rfl rfl (fun _ _hx => Xi (r := 162) Yu rfl (by first | rfl | omega) Dy rfl rfl) <| Qj rfl rfl (fun _ _hx => Y7 7 Fj rfl (m2.ext _hx).h1 rfl) ?_
 refine Xd (fun w7 e7 => ?_)
 have m7 := m2.ext e7
 refine Qa rfl (Vd (c := (Zl (sH (V6 wa ([9#8, 0#8, 0#8, 0#8, 0#8, 0#8, 0#8, 0#8, 0#8, 0#8, 0#8, 0#8, 0#8, 0#8, 0#8, 0#8, 0#8, 0#8, 0#8, 0#8, 0#8, 0#8, 0#8, 0#8, 0#8, 0#8, 0#8, 0#8, 0#8, 0#8, 0#8, 0#8])) n3 n1))) (pl := [(0, 32), (32, 1), (33, 1)]) ti53 uT53 (by kernel_rfl) (Y2 (i := 0) (v := (agg u8 (V6 wa ([9#8, 0#8, 0#8, 0#8, 0#8, 0#8, 0#8, 0#8, 0#8, 0#8, 0#8, 0#8, 0#8, 0#8, 0#8, 0#8, 0#8, 0#8, 0#8, 0#8, 0#8, 0#8, 0#8, 0#8, 0#8, 0#8, 0#8, 0#8, 0#8, 0#8, 0#8, 0#8])))) (cs := (cl u8 (V6 wa ([9#8, 0#8, 0#8, 0#8, 0#8, 0#8, 0#8, 0#8, 0#8, 0#8, 0#8, 0#8, 0#8, 0#8, 0#8, 0#8, 0#8, 0#8, 0#8, 0#8, 0#8, 0#8, 0#8, 0#8, 0#8, 0#8, 0#8, 0#8, 0#8, 0#8, 0#8, 0#8])))) rfl rfl (Y2 (i := 1) (v := (i64 n3)) (cs := #[(i64 n3)]) rfl rfl (Y2 (i := 2) (v := (i64 n1)) (cs := #[(i64 n1)]) rfl rfl Vo))) (Wv (L := (sH (List.replicate 32 0) 0 0)) 0 (sH (V6 wa ([9#8, 0#8, 0#8, 0#8, 0#8, 0#8, 0#8, 0#8, 0#8, 0#8, 0#8, 0#8, 0#8, 0#8, 0#8, 0#8, 0#8, 0#8, 0#8, 0#8, 0#8, 0#8, 0#8, 0#8, 0#8, 0#8, 0#8, 0#8, 0#8, 0#8, 0#8, 0#8])) 0 0) rfl (Wi u8 _).symm rfl (Wv 1 (sH (V6 wa ([9#8, 0#8, 0#8, 0#8, 0#8, 0#8, 0#8, 0#8, 0#8, 0#8, 0#8, 0#8, 0#8, 0#8, 0#8, 0#8, 0#8, 0#8, 0#8, 0#8, 0#8, 0#8, 0#8, 0#8, 0#8, 0#8, 0#8, 0#8, 0#8, 0#8, 0#8, 0#8])) n3 0) rfl rfl rfl (Wv 2 (sH (V6 wa ([9#8, 0#8, 0#8, 0#8, 0#8, 0#8, 0#8, 0#8, 0#8, 0#8, 0#8, 0#8, 0#8, 0#8, 0#8, 0#8, 0#8, 0#8, 0#8, 0#8, 0#8, 0#8, 0#8, 0#8, 0#8, 0#8, 0#8, 0#8, 0#8, 0#8, 0#8, 0#8])) n3 n1) rfl rfl rfl F8)))) <| Za rfl (oc35 (Jj rfl) (Qok _ _ _ _ sL sL sL)) ?_
 rintro rq9 w8 ⟨Hsq9, grq9, k_w8⟩
 have m8 : Mem _ _ (Hsq9 ++ ([_, _])) := Mem.new (H := [_, _]) (H' := Hsq9) m7 k_w8
 refine rA rfl (v := rq9) rfl ?_
 refine rN (sR ?_)
 refine Qa rfl (Xi (r := 98) Yu rfl (by first | rfl | omega) Z9 rfl rfl) <| Qa rfl (Vk 5 X3 Z9 rfl ((Mem.pick2 Hsq9 [_] [_] _ m8)).h0 rfl) <| Za rfl (oc37 (Jj rfl) (c_rstep _ _ sL)) ?_
 rintro _ w10 ⟨rfl, e10⟩
 have m10 := m8.ext e10
 refine Qa rfl (Qb (v := (Value.tuple #[(agg u8 (X7 sa [2#8])), (agg u8 (X7 sa [1#8]))])) rfl) <| Qa (v := (agg u8 (X7 sa [2#8]))) rfl (Zo rfl rfl) <| Qa (v := (agg u8 (X7 sa [1#8]))) rfl (Zo rfl rfl) <| Za rfl (Zg m10 Z9) ?_
 rintro _ w12 ⟨b10, rfl, e12, m12⟩
 refine Za rfl (Zg m12 Z9) ?_
 rintro _ w13 ⟨b11, rfl, e13, m13⟩
 refine Zw (Qm (f := u8) (l := X7 sa [2#8]) Qu Z9 rfl rfl sL m13.h1 (by rw [Jk]; first | omega | (simp only [List.length_set, List.length_append, List.length_replicate, List.length_map, List.length_cons, List.length_nil]; omega) | (simp; done) | (simp; omega) | decide) rfl) ?_
 rintro _ w14 uq14
 have m14 := m13.upd1 uq14
 refine Zw (Qm (f := u8) (l := X7 sa [1#8]) Qu Z9 rfl rfl sL m14.h0 (by rw [Jk]; first | omega | (simp only [List.length_set, List.length_append, List.length_replicate, List.length_map, List.length_cons, List.length_nil]; omega) | (simp; done) | (simp; omega) | decide) rfl) ?_
 rintro _ w15 uq15
 have m15 := m14.upd0 uq15
 refine rN (sR ?_)
 refine Qa rfl (Qw X3 rfl Z9 rfl m15.h1 (by rw [Jk]; first | omega | (simp only [List.length_set, List.length_append, List.length_replicate, List.length_map, List.length_cons, List.length_nil]; omega) | (simp; done) | (simp; omega) | decide)) <| Qa rfl (Xi (r := 98) Yu rfl (by first | rfl | omega) Z9 rfl rfl) <| Zw (Qax 5 (sE ra wa oa sb tb (X7 sa [2#8]) ta n1 n2 n3 vk) Qu Z9 rfl rfl ((Mem.pick3 [_, _] Hsq9 [_] [_] _ m15)).h0 rfl) ?_
 rintro _ w16 uq16
 have m16 : Mem _ _ ([_, _, _] ++ (Hsq9 ++ ([_]))) := Mem.upd0 (Mem.pick3 [_, _] Hsq9 [_] [_] _ m15) uq16
 refine rN (sR ?_)
 refine Qa rfl (Xi (r := 162) Yu rfl (by first | rfl | omega) Dy rfl rfl) <| Qa rfl (Y7 7 Fj rfl m16.h0 rfl) <| Qa rfl (Qk (b := 1) rfl rfl oM oM) <| Qa rfl (Xi (r := 162) Yu rfl (by first | rfl | omega) Dy rfl rfl) <| Zw (Qiu 7 (sE ra wa oa sb tb (X7 sa [2#8]) ta (n1 + 1) n2 n3 vk) Dy rfl rfl (Xm _) m16.h0 rfl rfl) ?_
 rintro _ w17 uq17
 have m17 := m16.upd0 uq17
 refine rN (Qg ?_)
 refine Xq [(0, false), (1, false), (2, false), (3, false), (4, false), (5, false), (7, false), (6, true), (8, true), (9, true)] 10 (by kernel_rfl) <| Qj rfl rfl (fun _ _hx => Jr Yu Y8 rfl (m17.ext _hx).h0) <| dM rfl rfl (v := rq9) rfl <| Qj rfl rfl (fun _ _hx => Qw X3 rfl Z9 rfl (m17.ext _hx).h1 (by rw [Jk]; first | omega | (simp only [List.length_set, List.length_append, List.length_replicate, List.length_map, List.length_cons, List.length_nil]; omega) | (simp; done) | (simp; omega) | decide)) <| Qj rfl rfl (fun _ _hx => Jp (ps := []) (c := (cl u8 (List.replicate 12 0))) Qey Qah X6 (by simp) rfl) <| dM rfl rfl (v := vb) rfl <| dM rfl rfl (v := rq9) rfl <| dM rfl rfl (v := vp) rfl ?_
 refine Bf rfl rfl (fun w18 e18 => ?_)
 have m18 := m17.ext e18
 refine Yz.mono (oc38 (Xr rfl rfl) (Qm5 vb lb rq9 (G7 (V6 wa ([9#8, 0#8, 0#8, 0#8, 0#8, 0#8, 0#8, 0#8, 0#8, 0#8, 0#8, 0#8, 0#8, 0#8, 0#8, 0#8, 0#8, 0#8, 0#8, 0#8, 0#8, 0#8, 0#8, 0#8, 0#8, 0#8, 0#8, 0#8, 0#8, 0#8, 0#8, 0#8])) n3 n1) _ (Rd.ofRest hrb m18) sL (grq9.rd (Mem.pick [_, _, _] Hsq9 _ m18)) sL)) ?_
 rintro rq20 w19 ⟨Hsq20, grq20, k_w19⟩
 refine ⟨k_w19.toExt, ?_⟩
 have m19 : Mem _ _ (Hsq20 ++ ([_, _, _] ++ (Hsq9 ++ ([_])))) := Mem.new (H := [_, _, _] ++ (Hsq9 ++ ([_]))) (H' := Hsq20) m18 k_w19
 refine Bf rfl rfl (fun w21 e21 => ?_)
 have m21 := m19.ext e21
 refine Yz.mono (oc39 (Qev rfl rfl rfl rfl) (c_rseal _ _ rq20 (lb ++ (G7 (V6 wa ([9#8, 0#8, 0#8, 0#8, 0#8, 0#8, 0#8, 0#8, 0#8, 0#8, 0#8, 0#8, 0#8, 0#8, 0#8, 0#8, 0#8, 0#8, 0#8, 0#8, 0#8, 0#8, 0#8, 0#8, 0#8, 0#8, 0#8, 0#8, 0#8, 0#8, 0#8, 0#8])) n3 n1)) vp lp _ sL sL (grq20.rd m21) sL (Rd.ofRest hrp m21) sL)) ?_
 rintro rxq23 w22 ⟨Hsq23, grxq23, k_w22⟩
 refine ⟨k_w22.toExt, ?_⟩
 have m22 : Mem _ _ (Hsq23 ++ (Hsq20 ++ ([_, _, _] ++ (Hsq9 ++ ([_]))))) := Mem.new (H := Hsq20 ++ ([_, _, _] ++ (Hsq9 ++ ([_])))) (H' := Hsq23) m21 k_w22
 refine Bf rfl rfl (fun w24 e24 => ?_)
 have m24 := m22.ext e24
 refine Yz.mono (oc38 (Xr rfl rfl) (Qm5 rq9 (G7 (V6 wa ([9#8, 0#8, 0#8, 0#8, 0#8, 0#8, 0#8, 0#8, 0#8, 0#8, 0#8, 0#8, 0#8, 0#8, 0#8, 0#8, 0#8, 0#8, 0#8, 0#8, 0#8, 0#8, 0#8, 0#8, 0#8, 0#8, 0#8, 0#8, 0#8, 0#8, 0#8, 0#8])) n3 n1) rxq23 (Vw (X7 sa [1#8]) (List.replicate 12 0) (lb ++ (G7 (V6 wa ([9#8, 0#8, 0#8, 0#8, 0#8, 0#8, 0#8, 0#8, 0#8, 0#8, 0#8, 0#8, 0#8, 0#8, 0#8, 0#8, 0#8, 0#8, 0#8, 0#8, 0#8, 0#8, 0#8, 0#8, 0#8, 0#8, 0#8, 0#8, 0#8, 0#8, 0#8, 0#8])) n3 n1)) lp) _ (grq9.rd (Mem.pick3 Hsq23 Hsq20 [_, _, _] Hsq9 _ m24)) sL (grxq23.rd m24) sL)) ?_
 rintro rq26 w25 ⟨Hsq26, grq26, k_w25⟩
 refine ⟨k_w25.toExt, ?_⟩
 have m25 : Mem _ _ (Hsq26 ++ (Hsq23 ++ (Hsq20 ++ ([_, _, _] ++ (Hsq9 ++ ([_])))))) := Mem.new (H := Hsq23 ++ (Hsq20 ++ ([_, _, _] ++ (Hsq9 ++ ([_]))))) (H' := Hsq26) m24 k_w25
 refine Xd (fun w27 e27 => ?_)
 have m27 := m25.ext e27
 refine Zw (Ky Y8 rfl rfl ((Mem.pick5 Hsq26 Hsq23 Hsq20 [_, _, _] Hsq9 [_] _ m27)).h0 (Gv (RdK.one (RdK.ofRest hk m27)))) ?_
 rintro _ w28 uq28
 have m28 : Mem _ _ ([_] ++ (Hsq26 ++ (Hsq23 ++ (Hsq20 ++ ([_, _, _] ++ (Hsq9 ++ ([]))))))) := Mem.upd0 (Mem.pick5 Hsq26 Hsq23 Hsq20 [_, _, _] Hsq9 [_] _ m27) uq28
 refine rA rfl (v := rq26) rfl <| Qa rfl (Qc (v := (i64 0)) rfl) <| rN ?_
 have m29 := Mem.drop Hsq23 _ (Mem.pick2 [_] Hsq26 Hsq23 _ m28)
 have m30 := Mem.drop Hsq20 _ (Mem.pick2 [_] Hsq26 Hsq20 _ m29)
 refine Xt <| Ze [(Value.agg (Zl (sE ra wa oa sb tb (X7 sa [2#8]) ta (n1 + 1) n2 n3 vk))), rq26, (i64 0)] ⟨⟨_, rfl, Gt Yu Y8 m30.h0⟩, rfl, rfl, trivial⟩ ?_
 have m31 := Mem.drop [_] _ m30
 have m32 := Mem.drop [_] _ (Mem.pick Hsq26 [_] _ m31)
 have m33 := Mem.drop [_] _ (Mem.pick Hsq26 [_] _ m32)
 have m34 := Mem.drop [_] _ (Mem.pick Hsq26 [_] _ m33)
 have m35 := Mem.drop Hsq9 _ (Mem.pick Hsq26 Hsq9 _ m34)
 exact ⟨rq26, Hsq26, rfl, Zv.cast grq26 ((show _ = (Qkl wa sa n3 n1 lb lp) from by unfold Qkl We; first | rfl | (simp only [List.append_assoc]; rfl)).trans (Qof hl2)), (by
  have hT := m35
  try simp only [List.append_assoc, List.cons_append, List.nil_append, List.append_nil] at hT ⊢
  exact hT)⟩
end Go.Proofs.YtkmiemlpfkfiiaaDoor
