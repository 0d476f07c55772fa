/- The ratchet: openings of the laws' arguments. Conditions: none beyond those that each theorem states. -/
import Derived.Test.YtkmiemlpfkfiiaaDoorRb9
import Derived.Test.YtkmiemlpfkfiiaaDoorFwY
namespace Go.Proofs.YtkmiemlpfkfiiaaDoor
open Tryd
section
set_option linter.unusedVariables false
set_option linter.unusedSimpArgs false
section
variable {w : World} {R : Rest}
theorem Mem.pick8 (A0 A1 A2 A3 A4 A5 A6 A7 B C : List (Nat × Obj)) (h : Mem w R (A0 ++ (A1 ++ (A2 ++ (A3 ++ (A4 ++ (A5 ++ (A6 ++ (A7 ++ (B ++ (C))))))))))) : Mem w R (B ++ (A0 ++ (A1 ++ (A2 ++ (A3 ++ (A4 ++ (A5 ++ (A6 ++ (A7 ++ (C)))))))))) := by
 have := Mem.pick7 (A0 ++ A1) A2 A3 A4 A5 A6 A7 B C (by simpa only [List.append_assoc] using h)
 simpa only [List.append_assoc] using this
theorem Mem.pick9 (A0 A1 A2 A3 A4 A5 A6 A7 A8 B C : List (Nat × Obj)) (h : Mem w R (A0 ++ (A1 ++ (A2 ++ (A3 ++ (A4 ++ (A5 ++ (A6 ++ (A7 ++ (A8 ++ (B ++ (C)))))))))))) : Mem w R (B ++ (A0 ++ (A1 ++ (A2 ++ (A3 ++ (A4 ++ (A5 ++ (A6 ++ (A7 ++ (A8 ++ (C))))))))))) := by
 have := Mem.pick8 (A0 ++ A1) A2 A3 A4 A5 A6 A7 A8 B C (by simpa only [List.append_assoc] using h)
 simpa only [List.append_assoc] using this
theorem Mem.pick10 (A0 A1 A2 A3 A4 A5 A6 A7 A8 A9 B C : List (Nat × Obj)) (h : Mem w R (A0 ++ (A1 ++ (A2 ++ (A3 ++ (A4 ++ (A5 ++ (A6 ++ (A7 ++ (A8 ++ (A9 ++ (B ++ (C))))))))))))) : Mem w R (B ++ (A0 ++ (A1 ++ (A2 ++ (A3 ++ (A4 ++ (A5 ++ (A6 ++ (A7 ++ (A8 ++ (A9 ++ (C)))))))))))) := by
 have := Mem.pick9 (A0 ++ A1) A2 A3 A4 A5 A6 A7 A8 A9 B C (by simpa only [List.append_assoc] using h)
 simpa only [List.append_assoc] using this
end
theorem Qkm (ro ow : Xg) : Jq (Q9 ro ow) = 13 := enc_13 rfl
theorem second_c (ro ow b p : Xg) : Yi (Q9 ro ow) b p = [] := (Qpg (by rw [Qkm]; decide)).2.1
theorem Ql8 (ro ow ot : Xg) : Jq (Qg ro ow ot) = 0 := enc_00 rfl (by show (0 : Int) ≠ 2147483647; decide)
theorem Qk4 (ro ow ot b p : Xg) : (Yi (Qg ro ow ot) b p).length = p.length + 72 := by
 rw [(enc_z (b := b) (p := p) (Ql8 ro ow ot)).2.1]
 unfold Tc; rw [List.length_append, Qkz (Ei _ _), Qef]; omega
@[simp] theorem second_n1 (ro ow : Xg) : (Q9 ro ow).n1 = 0 := rfl
@[simp] theorem second_n2 (ro ow : Xg) : (Q9 ro ow).n2 = 0 := rfl
@[simp] theorem second_n3 (ro ow : Xg) : (Q9 ro ow).n3 = 0 := rfl
@[simp] theorem second_ks (ro ow : Xg) : (Q9 ro ow).ks = [] := rfl
@[simp] theorem first_n1 (ro ow ot : Xg) : (Qg ro ow ot).n1 = 0 := rfl
@[simp] theorem first_n2 (ro ow ot : Xg) : (Qg ro ow ot).n2 = 0 := rfl
@[simp] theorem first_n3 (ro ow ot : Xg) : (Qg ro ow ot).n3 = 0 := rfl
@[simp] theorem first_ks (ro ow ot : Xg) : (Qg ro ow ot).ks = [] := rfl
theorem RdK.nilE {α : Type} {enc : α → List Value} {k : Nat} {m : Nat → Option Obj} {l : List α} (e : l = []) : RdK m enc k (.slice none 0 0) l := e ▸ RdK.nil _ _
section
variable {P : Program} {n : Nat} {l le : List Oper} {N : (Nat → Value) → World → Prop} {R : Rest}
variable {D : Nat → Nat} {Vl : Nat → Nat → Value} {Ob : Nat → Obj} {Fin : (Nat → Value) → List (Nat × Obj) → Prop} {A UF : List Nat} {tail : List Oper} {r2 : List (Nat × Bool)}
variable {d' : Nat} {v' : Nat → Value} {ob' : Obj}
end
attribute [local irreducible] Qc5 Wu Eh Yg Jj Tc Wp Vd Wn Xk Ae F6 Qe Yt Qi Bl Px Xn hdR hdE Gh Tn Qam Nr Qbp Qbc Jz
attribute [local irreducible] Jq J9 Cm V6 Qgv Yi Y2 encK Qg Q9
set_option maxHeartbeats 2000000 in
theorem Qpp  (w0 : World)  (hT : Tabs (Jl w0)) : X9 prog 9 #[] w0 (fun r w1 => r = (bl true) ∧ Ext w0 w1) := by
 refine Zb (args := []) func9 rfl ntmps9 results9 rfl ?_
 have m0 : Mem w0 (Qu w0) [] := Mem.of_world w0
 have hc1 := Ei ([1#8] ++ List.replicate 31 0#8) Qi
 refine sR <| Zz (bl false) ?_
 refine rN (sR ?_)
 refine Qd (G5 (c := (cl u8 ((En 1#8)))) Zl Xq Y0 (J3 (i := 0) (v := (u8 1#8)) (cs := #[(u8 1#8)]) rfl rfl V3) Xw) <| U9 m0 (oc27 (Kt rfl) (Qpv _ _ sL)) fun w1 m1 => Y9 (Ji m1 Qhp) fun w3 b1 m3 => Vk (Ub [((En 1#8)).map u8, (Qe ((En 1#8)) Qi).map u8] Qhp rfl rfl (Ej (n := 32) (m := 32) (k := 64) (by first | rfl | (rw [List.length_map]; first | omega | (simp; done) | (simp; omega))) (Ej (n := 32) (m := 0) (k := 32) (by first | rfl | (rw [List.length_map]; first | omega | (simp; done) | (simp; omega))) Qdb rfl) rfl) (Yr (Jo Qy _) (Yr (Jo Qy _) Fa)) m3.h0 rfl rfl) ?_
 rintro _ w4 uq4
 have m4 : Mem _ _ [(b1, .cells (Qo [((En 1#8)).map u8, (Qe ((En 1#8)) Qi).map u8]) 39 (0, 0))] := m3.upd0 uq4
 refine rN (sR ?_)
 refine Qd (G5 (c := (cl u8 ((En 5#8)))) Zl Xq Y0 (J3 (i := 0) (v := (u8 5#8)) (cs := #[(u8 5#8)]) rfl rfl V3) Xw) <| Qd (Jk Qih Qhp rfl m4.h0) <| U9 m4 (oc18 (Xm rfl rfl) (Qld _ _ _ _ sL sL sL)) fun w5 m5 => Y9 (Ji m5 Ja) fun w7 b2 m7 => Ye m7 (J8 Ja rfl rfl m7.h0 (Gx rfl)) fun w8 m8 => ?_
 refine rN (sR ?_)
 refine Qd (Jk X3 Ja rfl m8.h0) <| Vy (oc12 (D6 rfl rfl rfl) (Qpw (Q9 ((En 5#8)) ((En 1#8))) Yj Yj ([]) Yj ([]) _ (hT.mono fun b o e => (m8).rest b o e) (RdK.nilE X7) sL (Rd.nil _ _) sL (Rd.nil _ _) sL sL sL)) ?_
 rintro _ w9 ⟨vqq10, Hqq10, vcq10, Hcq10, rfl, gqq10, gcq10, k_w9⟩
 have m9 : Mem w9 (Qu w0) (Hqq10 ++ (Hcq10 ++ ([(b2, .cells (Qo (sS (Q9 ((En 5#8)) ((En 1#8))) Yj)) 26 (0, 0)), (b1, .cells (Qo [((En 1#8)).map u8, (Qe ((En 1#8)) Qi).map u8]) 39 (0, 0))]))) := ymA (Mem.new (H := [(b2, .cells (Qo (sS (Q9 ((En 5#8)) ((En 1#8))) Yj)) 26 (0, 0)), (b1, .cells (Qo [((En 1#8)).map u8, (Qe ((En 1#8)) Qi).map u8]) 39 (0, 0))]) (H' := _) m8 k_w9)
 refine Ya rfl <| Qd (Zm rfl rfl) <| Qd (v := vcq10) (Zm rfl rfl) <| Qd (v := (i64 (Jq (Q9 ((En 5#8)) ((En 1#8)))))) (Zm rfl rfl) <| Y9 (Ji m9 Ja) fun w11 b3 m11 => Ye m11 (J8 Ja rfl rfl m11.h0 (Gx (RdK.one (RdK.ite (fun h => RdK.cast (gqq10.rd (Mem.pick [_] Hqq10 _ m11)) (Dw h)) (fun h => RdK.cast (RdK.nilE X7) (Dx h)))))) fun w12 m12 => Zz vcq10 <| Sz rfl <| rN ?_
 have m13 := Mem.drop [_] _ m12
 have m14 := Mem.drop Hqq10 _ m13
 refine sR <| Qd (G5 (c := (cl u8 ((En 5#8)))) Zl Xq Y0 (J3 (i := 0) (v := (u8 5#8)) (cs := #[(u8 5#8)]) rfl rfl V3) Xw) <| Qd (Jk Qih Qhp rfl ((Mem.pick2 Hcq10 [_] [_] _ m14)).h0) <| Qd (Zr (r := 32) Qih rfl Jr Zl rfl rfl) <| Qd (Jv 1 Xq Zl rfl ((Mem.pick2 Hcq10 [_] [_] _ m14)).h0 rfl) <| U9 m14 (oc16 (D6 rfl rfl rfl) (Qn4 _ _ _ _ _ (hT.mono fun b o e => (m14).rest b o e) sL sL sL sL)) fun w15 m15 => Y9 (Qw u8 [1#8] Qy m15 Zu Y0 rfl rfl rfl) fun w17 b26 m17 => Vy (oc12 (D6 rfl rfl rfl) (Qpw (Qg ((En 5#8)) ((En 1#8)) (Qe ((En 1#8)) Qi)) Yj Yj ([]) (Wq b26 0 1 1) ([1#8]) _ (hT.mono fun b o e => (m17).rest b o e) (RdK.nilE X7) sL (Rd.nil _ _) sL (Rd.mkA m17.h0) sL sL sL)) ?_
 rintro _ w18 ⟨vqq19, Hqq19, vcq19, Hcq19, rfl, gqq19, gcq19, k_w18⟩
 have m18 : Mem w18 (Qu w0) (Hqq19 ++ (Hcq19 ++ ([(b26, .cells (cl u8 ([1#8])) 5 (0, 0))] ++ (Hcq10 ++ ([(b2, .cells (Qo (sS (Q9 ((En 5#8)) ((En 1#8))) Yj)) 26 (0, 0)), (b1, .cells (Qo [((En 1#8)).map u8, (Qe ((En 1#8)) Qi).map u8]) 39 (0, 0))]))))) := ymA (Mem.new (H := [(b26, .cells (cl u8 ([1#8])) 5 (0, 0))] ++ (Hcq10 ++ ([(b2, .cells (Qo (sS (Q9 ((En 5#8)) ((En 1#8))) Yj)) 26 (0, 0)), (b1, .cells (Qo [((En 1#8)).map u8, (Qe ((En 1#8)) Qi).map u8]) 39 (0, 0))]))) (H' := _) m17 k_w18)
 refine Ya rfl <| Qd (Zm rfl rfl) <| Qd (v := vcq19) (Zm rfl rfl) <| Qd (Zm rfl rfl) <| Y9 (Ji m18 Ja) fun w20 b6 m20 => Ye m20 (J8 Ja rfl rfl m20.h0 (Gx (RdK.one (RdK.ite (fun h => RdK.cast (gqq19.rd (Mem.pick [_] Hqq19 _ m20)) (Dw h)) (fun h => RdK.cast (RdK.nilE X7) (Dx h)))))) fun w21 m21 => Zz vcq19 <| Sz rfl ?_
 refine rN (sR ?_)
 refine Ya rfl <| Qd (Fb (b := 13) rfl rfl) <| Ya rfl ?_
 have hd22 : ((Jq (Q9 ((En 5#8)) ((En 1#8)))) == 13) = true := by rw [Qkm]; rfl
 refine Z5 (s := 33) rfl rfl hd22 rfl (Yp (v := vcq10) rfl) <| Z5 (s := 33) rfl rfl hd22 rfl (Yl (gcq10.rd (Mem.pick4 [_] Hqq19 Hcq19 [_] Hcq10 _ m21)) Zu rfl) <| Z5 (s := 33) rfl rfl hd22 rfl (Fb (b := 0) rfl rfl) <| Qd (Vm rfl hd22 rfl) <| Ya rfl ?_
 have hd23 : (((Yi (Q9 ((En 5#8)) ((En 1#8))) ([]) ([])).length : Int) == 0) = true := by rw [second_c]; rfl
 refine Z5 (s := 38) rfl rfl hd23 rfl (Yp rfl) <| Z5 (s := 38) rfl rfl hd23 rfl (Fb (b := 0) rfl rfl) <| Qd (Vm rfl hd23 rfl) <| Ya rfl ?_
 have hd24 : ((Jq (Qg ((En 5#8)) ((En 1#8)) (Qe ((En 1#8)) Qi))) == 0) = true := by rw [Ql8]; rfl
 refine Z5 (s := 42) rfl rfl hd24 rfl (Yp (v := vcq19) rfl) <| Z5 (s := 42) rfl rfl hd24 rfl (Yl (gcq19.rd (Mem.pick2 [_] Hqq19 Hcq19 _ m21)) Zu rfl) <| Z5 (s := 42) rfl rfl hd24 rfl (Fb (b := 73) rfl rfl) <| Qd (Vm rfl hd24 rfl) <| Sz rfl <| rN ?_
 have m25 := Mem.drop [_] _ m21
 have m26 := Mem.drop Hqq19 _ m25
 have m27 := Mem.drop [_] _ (Mem.pick Hcq19 [_] _ m26)
 refine Xb <| Qv [(bl (((Yi (Qg ((En 5#8)) ((En 1#8)) (Qe ((En 1#8)) Qi)) ([]) ([1#8])).length : Int) == 73))] ⟨rfl, trivial⟩ ?_
 exact ⟨congrArg bl (by rw [Qk4]; rfl), m27.toExt⟩
end --m
section
set_option linter.unusedVariables false
set_option linter.unusedSimpArgs false
open Go.ChangeShapes Go.WideShapes Go.ChangeAt Go.RowKit
section
variable {P : Program}
end
end --m
end Go.Proofs.YtkmiemlpfkfiiaaDoor
