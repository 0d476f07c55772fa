/- Contracts: the document's code. Conditions: none beyond those that each theorem states. -/
import Derived.Test.YtkmiemlpfkfiiaaDoorHa6
namespace Go.Proofs.YtkmiemlpfkfiiaaDoor
set_option linter.unusedVariables false
set_option linter.unusedSimpArgs false
theorem mask_map {key K : List (BitVec 8)} {bb : BitVec 8} (hK : K = Ph key ++ List.replicate (64 - (Ph key).length) 0) : (List.range 64).map (fun j => K.getD j 0 ^^^ bb) = J3 key bb := by
 have hle := Qfd key
 have e : K.length = 64 := by rw [hK]; simp; omega
 have h := Qj3 (fun x => x ^^^ bb) K 0
 rw [e] at h
 rw [h, hK]; rfl
theorem Lu (v : Value) (l : List (BitVec 8)) : V3 [(v, l)] = l := by simp [V3]
attribute [local irreducible] Gn Uu J3 X7
set_option maxHeartbeats 1000000 in
theorem Lm (vb : Value) (l : List (BitVec 8)) (vc : Value) (m : List (BitVec 8)) (w0 : World)  (hr : Rd (Yq w0) u8 vb l) (hl : l.length ≤ 1099511627776) (hrm : Rd (Yq w0) u8 vc m) (hm : m.length ≤ 1099511627776) : Xz Tryd.prog 69 #[vb, vc] w0 (fun r w1 => r = (agg u8 (X7 l m)) ∧ Ext w0 w1) := by
 refine Zd (args := [vb, vc]) Tryd.func69 rfl Tryd.ntmps69 Tryd.results69 rfl ?_
 have m0 : Mem w0 (Qy w0) [] := Mem.of_world w0
 refine sR <| Za rfl (Zg m0 Z9) ?_
 rintro _ w1 ⟨b4, rfl, e1, m1⟩
 refine rN (sR ?_)
 refine Za rfl (Ql u8 [] Qu m1 Zi X6 rfl (by simp [Jo]) rfl) ?_
 rintro _ w2 ⟨b11, rfl, e2, m2⟩
 refine rM rfl (v := vb) rfl <| Za rfl (Zk (f := u8) (Hs := [(b11, .cells (cl u8 ([])) 5 (0, 0))]) (H := [_]) m2 (Zv.of u8 5 b11 ([])) rfl rfl (Rd.ofRest hr m2) Zi Zi X6 rfl Qu sD sD) ?_
 rintro sv3 w3 ⟨Hs3, m3, g3⟩
 replace g3 : Zv u8 5 sv3 l Hs3 := g3
 refine rA rfl (v := sv3) rfl ?_
 refine rN (Qg (sR ?_))
 refine rM rfl (v := vb) rfl <| Qa rfl (Ye (Rd.ofRest hr m3) Zi rfl) <| Qa rfl (W9 (b := 64) rfl rfl) <| rN ?_
 refine Pv (J := fun g wv => ∃ (sk : Value) (Hk : List (Nat × Obj)), (Zv u8 5 sk (Ph l) Hk) ∧ g 0 = vb ∧ g 1 = vc ∧ g 4 = (ptr b4 0) ∧ g 5 = sk ∧ g 16 = (bl (decide (64 < (l.length : Int)))) ∧ Mem wv (Qy w0) (Hk ++ ([(b4, .cells (cl u8 (List.replicate 32 0)) 23 (0, 0))]))) ?_ ?_
 ·skip
  refine Xv rfl (fun hc4 => ?_) (fun hc4 => ?_)
  ·
   have hc4p := of_decide_eq_true hc4
   refine sR <| rM rfl (v := vb) rfl <| Za rfl (oc91 (Jj rfl) (Ql8 vb l _ (Rd.ofRest hr m3) sD)) ?_
   rintro _ w5 ⟨rfl, e5⟩
   have m5 := m3.ext e5
   refine Za rfl (Zg m5 Z9) ?_
   rintro _ w7 ⟨b6, rfl, e7, m7⟩
   refine Zw (Qm (f := u8) (l := Gn l) Qu Z9 rfl rfl sD m7.h0 sZ rfl) ?_
   rintro _ w8 uq8
   have m8 := m7.upd0 uq8
   refine rN (Qe ?_)
   refine Za rfl (Ql u8 [] Qu m8 Zi X6 rfl (by simp [Jo]) rfl) ?_
   rintro _ w9 ⟨b19, rfl, e9, m9⟩
   refine Qa rfl (Xj (i := 0) (j := 32) X3 X6 rfl (Zy _ _) (Zy _ _) oM sD sD) <| Za rfl (Zk (f := u8) (Hs := [(b19, .cells (cl u8 ([])) 5 (0, 0))]) (H := [_] ++ (Hs3 ++ ([_]))) m9 (Zv.of u8 5 b19 ([])) rfl rfl (Rd.slaAll m9.h1 sD) Zi Zi X6 rfl Qu sD sD) ?_
   rintro sv10 w10 ⟨Hs10, m10, g10⟩
   replace g10 : Zv u8 5 sv10 (Gn l) Hs10 := g10
   refine rA rfl (v := sv10) rfl <| rN ?_
   have hK : Ph l = Gn l := by unfold Ph; rw [if_pos oM]
   have m11 := Mem.drop [_] _ (Mem.pick Hs10 [_] _ m10)
   have m12 := Mem.drop Hs3 _ (Mem.pick Hs10 Hs3 _ m11)
   exact ⟨sv10, Hs10, (Zv.cast g10 hK.symm), rfl, rfl, rfl, rfl, rfl, m12⟩
  ·
   have hc4p := of_decide_eq_false hc4
   refine Q7 (Qh ?_)
   have hK : Ph l = l := by unfold Ph; rw [if_neg oM]
   exact ⟨sv3, Hs3, (Zv.cast g3 hK.symm), rfl, rfl, rfl, rfl, rfl, m3⟩
 rintro fr13 w14 ⟨sk, Hk, gk, s0, s1, s4, s5, s16, m14⟩
 have hle := Qfd l
 refine Qg (Qo ?_)
 refine Yo (fun g wv => ∃ (k : Nat) (kl : List (BitVec 8)) (sk2 : Value) (Hk2 : List (Nat × Obj)), (k ≤ 64 - (Ph l).length) ∧ (kl = Ph l ++ List.replicate k 0) ∧ (Zv u8 5 sk2 kl Hk2) ∧ g 0 = vb ∧ g 1 = vc ∧ g 4 = (ptr b4 0) ∧ g 5 = sk2 ∧ g 16 = (bl (decide (64 < (l.length : Int)))) ∧ Mem wv (Qy w0) (Hk2 ++ ([(b4, .cells (cl u8 (List.replicate 32 0)) 23 (0, 0))]))) (fun g wv => 66 - sllen (g 5)) ?_ ?_
 ·exact ⟨0, (Ph l), sk, Hk, oM, (by simp), gk, s0, s1, s4, s5, s16, m14⟩
 rintro fr15 w16 ⟨k, kl, sk2, Hk2, hk, hkl, gk2, s0, s1, s4, s5, s16, m16⟩
 have z5 := s5
 have hkn : kl.length = (Ph l).length + k := by rw [hkl]; simp
 refine Qg (sR ?_)
 refine rM rfl s5 <| Qa rfl (Ye (gk2.rd m16) Zi rfl) <| Qa rfl (Qs (b := 64) rfl rfl) <| rN ?_
 refine Xv rfl (fun hc17 => ?_) (fun hc17 => ?_)
 ·
  have hc17p := of_decide_eq_true hc17
  refine Q7 (Qh (Vq (Qe ?_)))
  refine rM rfl s5 <| Za rfl (Ql u8 [0#8] Qu m16 Zi X6 rfl rfl rfl) ?_
  rintro _ w18 ⟨b26, rfl, e18, m18⟩
  refine Za rfl (Zk (f := u8) (Hs := Hk2) (H := [_, _]) (Mem.pick [_] Hk2 _ m18) gk2 rfl rfl (Rd.mkA m18.h0) Zi Zi X6 rfl Qu sD sD) ?_
  rintro sv19 w19 ⟨Hs19, m19, g19⟩
  replace g19 : Zv u8 5 sv19 (kl ++ ([0#8])) Hs19 := g19
  refine rA rfl (v := sv19) rfl ?_
  refine Zr (Qi (Qh ?_))
  have m20 := Mem.drop [_] _ (Mem.pick Hs19 [_] _ m19)
  exact ⟨⟨k + 1, kl ++ ([0#8]), sv19, Hs19, oM, (by rw [hkl, List.replicate_succ']; simp), g19, s0, s1, s4, rfl, s16, m20⟩, (by show 66 - sllen sv19 < 66 - sllen _; rw [z5, gk2.sllen, Zv.sllen g19]; simp [hkn]; omega)⟩
 ·
  have hc17p := of_decide_eq_false hc17
  have hkn : kl.length = (Ph l).length + k := by rw [hkl]; simp
  obtain rfl : k = 64 - (Ph l).length := by omega
  have hkl64 : kl.length = 64 := by omega
  have hn0 : True := trivial
  refine X0 ?_
  refine Qr (Qr (Xf ?_))
  refine sR <| Za rfl (Ql u8 [] Qu m16 Zi X6 rfl (by simp [Jo]) rfl) ?_
  rintro _ w21 ⟨b28, rfl, e21, m21⟩
  refine Za rfl (Ql u8 [] Qu m21 Zi X6 rfl (by simp [Jo]) rfl) ?_
  rintro _ w22 ⟨b29, rfl, e22, m22⟩
  refine Qa rfl (Qc (v := (Ko b28 0 0 0)) rfl) <| Qa rfl (Qc (v := (Ko b29 0 0 0)) rfl) ?_
  refine rN (Qg (sR ?_))
  refine Qa rfl (Qc (v := (i64 0)) rfl) ?_
  refine rN (Qo ?_)
  refine Yo (fun g wv => ∃ (i : Nat) (l7 l8 : List (BitVec 8)) (sv7 sv8 : Value) (H7 H8 : List (Nat × Obj)), (i ≤ 64) ∧ (l7 = (List.range i).map (fun j => kl.getD j 0 ^^^ 54#8)) ∧ (l8 = (List.range i).map (fun j => kl.getD j 0 ^^^ 92#8)) ∧ (Zv u8 5 sv7 l7 H7) ∧ (Zv u8 5 sv8 l8 H8) ∧ g 0 = vb ∧ g 1 = vc ∧ g 4 = (ptr b4 0) ∧ g 5 = sk2 ∧ g 7 = sv7 ∧ g 8 = sv8 ∧ g 9 = (i64 (i : Int)) ∧ g 16 = (bl (decide (64 < (l.length : Int)))) ∧ g 24 = (bl (decide ((kl.length : Int) < 64))) ∧ Mem wv (Qy w0) (H7 ++ (H8 ++ (Hk2 ++ ([(b4, .cells (cl u8 (List.replicate 32 0)) 23 (0, 0))]))))) (fun g wv => (64 - RowKit.intOf (g 9)).toNat) ?_ ?_
  have m23 := (Mem.pick2 [_, _] Hk2 [_] _ m22)
  have m24 := (Mem.pick [_, _, _] Hk2 _ m23)
  have m25 := (Mem.pick2 Hk2 [_] [_] _ m24)
  have m26 := (Mem.pick3 [_] Hk2 [_] [_] _ m25)
  ·exact ⟨0, [], [], (Ko b28 0 0 0), (Ko b29 0 0 0), [(b28, .cells (cl u8 ([])) 5 (0, 0))], [(b29, .cells (cl u8 ([])) 5 (0, 0))], oM, rfl, rfl, (Zv.of u8 5 b28 []), (Zv.of u8 5 b29 []), s0, s1, s4, s5, rfl, rfl, rfl, s16, rfl, m26⟩
  rintro fr27 w28 ⟨i, l7, l8, sv7, sv8, H7, H8, hi, h7, h8, gg7, gg8, s0, s1, s4, s5, s7, s8, s9, s16, s24, m28⟩
  have z9 := s9
  have z7 := s7
  have z8 := s8
  have h7n : l7.length = i ∧ l8.length = i := by rw [h7, h8]; simp
  refine Qg (sR ?_)
  refine rM rfl s9 <| Qa rfl (Qs (b := 64) rfl rfl) <| rN ?_
  refine Xv rfl (fun hc29 => ?_) (fun hc29 => ?_)
  ·
   have hc29p := of_decide_eq_true hc29
   refine Q7 (Qh (Qg (Qo (sR ?_))))
   refine rM rfl s7 <| rM rfl s5 <| rM rfl s9 <| Qa rfl (Xa (gk2.rd (Mem.pick2 H7 H8 Hk2 _ m28)) Zi X6 rfl rfl oM sD) <| Qa (v := (u8 (kl.getD i 0))) rfl (Yc (l := kl) (i := (i : Int)) (dflt := 0) (gk2.rd (Mem.pick2 H7 H8 Hk2 _ m28)) Vm rfl oM sD rfl) <| Qa rfl (L6 (b := 54#8) rfl rfl) <| Za rfl (Ql u8 [(kl.getD i 0) ^^^ 54#8] Qu m28 Zi X6 rfl rfl rfl) ?_
   rintro _ w30 ⟨b40, rfl, e30, m30⟩
   refine Za rfl (Zk (f := u8) (Hs := H7) (H := [_] ++ (H8 ++ (Hk2 ++ ([_])))) (Mem.pick [_] H7 _ m30) gg7 rfl rfl (Rd.mkA m30.h0) Zi Zi X6 rfl Qu sD sD) ?_
   rintro sv31 w31 ⟨Hs31, m31, g31⟩
   replace g31 : Zv u8 5 sv31 (l7 ++ ([(kl.getD i 0) ^^^ 54#8])) Hs31 := g31
   refine rA rfl (v := sv31) rfl ?_
   refine rN (Qe ?_)
   refine rM rfl s8 <| rM rfl s5 <| rM rfl s9 <| Qa rfl (Xa (gk2.rd (Mem.pick3 Hs31 [_] H8 Hk2 _ m31)) Zi X6 rfl rfl oM sD) <| Qa (v := (u8 (kl.getD i 0))) rfl (Yc (l := kl) (i := (i : Int)) (dflt := 0) (gk2.rd (Mem.pick3 Hs31 [_] H8 Hk2 _ m31)) Vm rfl oM sD rfl) <| Qa rfl (L6 (b := 92#8) rfl rfl) <| Za rfl (Ql u8 [(kl.getD i 0) ^^^ 92#8] Qu m31 Zi X6 rfl rfl rfl) ?_
   rintro _ w32 ⟨b48, rfl, e32, m32⟩
   refine Za rfl (Zk (f := u8) (Hs := H8) (H := [_] ++ (Hs31 ++ ([_] ++ (Hk2 ++ ([_]))))) (Mem.pick3 [_] Hs31 [_] H8 _ m32) gg8 rfl rfl (Rd.mkA m32.h0) Zi Zi X6 rfl Qu sD sD) ?_
   rintro sv33 w33 ⟨Hs33, m33, g33⟩
   replace g33 : Zv u8 5 sv33 (l8 ++ ([(kl.getD i 0) ^^^ 92#8])) Hs33 := g33
   refine rA rfl (v := sv33) rfl ?_
   refine Zr (Qi ?_)
   have m34 := Mem.drop [_] _ (Mem.pick Hs33 [_] _ m33)
   have m35 := Mem.drop [_] _ (Mem.pick2 Hs33 Hs31 [_] _ m34)
   refine Qe <| rM rfl s9 <| Qa rfl (Qk (b := 1) rfl rfl oM oM) <| Qa rfl (Qc (v := (i64 ((i : Int) + 1))) rfl) <| rN ?_
   have m36 := (Mem.pick3 Hs33 Hs31 Hk2 [_] _ m35)
   have m37 := (Mem.pick3 [_] Hs33 Hs31 Hk2 _ m36)
   have m38 := (Mem.pick2 Hk2 [_] Hs33 _ m37)
   have m39 := (Mem.pick3 Hs33 Hk2 [_] Hs31 _ m38)
   exact ⟨⟨i + 1, l7 ++ ([(kl.getD i 0) ^^^ 54#8]), l8 ++ ([(kl.getD i 0) ^^^ 92#8]), sv31, sv33, Hs31, Hs33, oM, (by rw [h7]; exact Qcd _ _ _ rfl), (by rw [h8]; exact Qcd _ _ _ rfl), g31, g33, s0, s1, s4, s5, rfl, rfl, rfl, s16, s24, m39⟩, Gl rfl z9 oM oM⟩
  ·
   have hc29p := of_decide_eq_false hc29
   obtain rfl : i = 64 := by omega
   rw [mask_map hkl] at h7 h8
   have h7n : l7.length = 64 ∧ l8.length = 64 := by rw [h7, h8]; simp
   refine X0 ?_
   refine Qr (Qr (Xf ?_))
   refine sR <| rM rfl s7 <| rM rfl s1 <| Za rfl (Zk (f := u8) (Hs := H7) (H := H8 ++ (Hk2 ++ ([_]))) m28 gg7 rfl rfl (Rd.ofRest hrm m28) Zi Zi X6 rfl Qu sD sD) ?_
   rintro sv40 w40 ⟨Hs40, m40, g40⟩
   replace g40 : Zv u8 5 sv40 (l7 ++ m) Hs40 := g40
   refine rA rfl (v := sv40) rfl ?_
   refine rN (sR ?_)
   refine rM rfl (v := sv40) rfl <| Za rfl (oc91 (Jj rfl) (Ql8 sv40 (l7 ++ m) _ (g40.rd m40) sD)) ?_
   rintro _ w41 ⟨rfl, e41⟩
   have m41 := m40.ext e41
   refine Za rfl (Zg m41 Z9) ?_
   rintro _ w43 ⟨b10, rfl, e43, m43⟩
   refine Zw (Qm (f := u8) (l := Gn (l7 ++ m)) Qu Z9 rfl rfl sD m43.h0 sZ rfl) ?_
   rintro _ w44 uq44
   have m44 := m43.upd0 uq44
   refine rN (sR ?_)
   refine rM rfl s8 <| Qa rfl (Xj (i := 0) (j := 32) X3 X6 rfl (Zy _ _) (Zy _ _) oM sD sD) <| Za rfl (Zk (f := u8) (Hs := H8) (H := [_] ++ (Hs40 ++ (Hk2 ++ ([_])))) (Mem.pick2 [_] Hs40 H8 _ m44) gg8 rfl rfl (Rd.slaAll m44.h0 sD) Zi Zi X6 rfl Qu sD sD) ?_
   rintro sv45 w45 ⟨Hs45, m45, g45⟩
   replace g45 : Zv u8 5 sv45 (l8 ++ (Gn (l7 ++ m))) Hs45 := g45
   refine rA rfl (v := sv45) rfl ?_
   refine rN (sR ?_)
   refine rM rfl (v := sv45) rfl <| Za rfl (oc91 (Jj rfl) (Ql8 sv45 (l8 ++ (Gn (l7 ++ m))) _ (g45.rd m45) sD)) ?_
   rintro _ w46 ⟨rfl, e46⟩
   have m46 := m45.ext e46
   refine Zw (Qm (f := u8) (l := Gn (l8 ++ (Gn (l7 ++ m)))) Qu Z9 s4 rfl sD ((Mem.pick4 Hs45 [_] Hs40 Hk2 [_] _ m46)).h0 sZ rfl) ?_
   rintro _ w48 uq48
   have m48 : Mem _ _ ([_] ++ (Hs45 ++ ([_] ++ (Hs40 ++ (Hk2 ++ ([])))))) := Mem.upd0 (Mem.pick4 Hs45 [_] Hs40 Hk2 [_] _ m46) uq48
   refine rN (Xt ?_)
   refine Ze [(agg u8 (Gn (l8 ++ (Gn (l7 ++ m)))))] ⟨⟨_, s4, Xo X3 rfl Z9 m48.h0 sZ⟩, trivial⟩ ?_
   exact ⟨congrArg (agg u8) (by unfold X7; rw [h7, h8]), m48.toExt⟩
end Go.Proofs.YtkmiemlpfkfiiaaDoor
