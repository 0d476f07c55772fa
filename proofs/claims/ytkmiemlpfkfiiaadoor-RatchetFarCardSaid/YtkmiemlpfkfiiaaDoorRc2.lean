/- The ratchet: openings of the laws' arguments. Conditions: none beyond those that each theorem states. -/
import Derived.Test.YtkmiemlpfkfiiaaDoorRb9
import Derived.Test.YtkmiemlpfkfiiaaDoorFwY
namespace Go.Proofs.YtkmiemlpfkfiiaaDoor
open Tryd
section
set_option linter.unusedVariables false
set_option linter.unusedSimpArgs false
section
variable {w : World} {R : Rest}
end
theorem Qgz (ro ow : Zj) : Ua (Zq ro ow) = 13 := Qlt rfl
theorem second_c (ro ow b p : Zj) : Eg (Zq ro ow) b p = [] := (Qls (by rw [Qgz]; decide)).2.1
theorem Qmq (ro ow ot : Zj) : Ua (Ze ro ow ot) = 0 := Qiw rfl (by show (0 : Int) ≠ 2147483647; decide)
theorem Qn2 (ro ow ot b p : Zj) : (Eg (Ze ro ow ot) b p).length = p.length + 72 := by
 rw [(Qkq (b := b) (p := p) (Qmq ro ow ot)).2.1]
 unfold Gy; rw [List.length_append, Qay (Jy _ _), Eh]; omega
@[simp] theorem second_n1 (ro ow : Zj) : (Zq ro ow).n1 = 0 := rfl
@[simp] theorem second_n2 (ro ow : Zj) : (Zq ro ow).n2 = 0 := rfl
@[simp] theorem second_n3 (ro ow : Zj) : (Zq ro ow).n3 = 0 := rfl
@[simp] theorem Qni (ro ow : Zj) : (Zq ro ow).ks = [] := rfl
@[simp] theorem first_n1 (ro ow ot : Zj) : (Ze ro ow ot).n1 = 0 := rfl
@[simp] theorem first_n2 (ro ow ot : Zj) : (Ze ro ow ot).n2 = 0 := rfl
@[simp] theorem first_n3 (ro ow ot : Zj) : (Ze ro ow ot).n3 = 0 := rfl
@[simp] theorem Qkk (ro ow ot : Zj) : (Ze ro ow ot).ks = [] := rfl
theorem RdK.nilE {α : Type} {enc : α → List Value} {k : Nat} {m : Nat → Option Obj} {l : List α} (e : l = []) : RdK m enc k (.slice none 0 0) l := e ▸ RdK.nil _ _
section
variable {P : Program} {n : Nat} {l le : List Oper} {N : (Nat → Value) → World → Prop} {R : Rest}
variable {D : Nat → Nat} {Vl : Nat → Nat → Value} {Ob : Nat → Obj} {Fin : (Nat → Value) → List (Nat × Obj) → Prop} {A UF : List Nat} {tail : List Oper} {r2 : List (Nat × Bool)}
variable {d' : Nat} {v' : Nat → Value} {ob' : Obj}
end
attribute [local irreducible] Ak Va D7 Ya Yq Gy J9 Jz Ja Zu Wi Ko Qi Q7 Gf D5 Kt hdR hdE Wv Qba Rz Dz Pi Ns Jl
attribute [local irreducible] Ua Gz Ls F5 Qem Eg Qbb encK Ze Zq
set_option maxHeartbeats 2000000 in
theorem Qlx  (w0 : World)  (hT : Tabs (Yn w0)) : Xm prog 9 #[] w0 (fun r w1 => r = (bl true) ∧ Ext w0 w1) := by
 refine Qy (args := []) func9 rfl ntmps9 results9 rfl ?_
 have m0 : Mem w0 (Qu w0) [] := Mem.of_world w0
 have hc1 := Jy ([1#8] ++ List.replicate 31 0#8) Q7
 refine sR <| Zv (bl false) ?_
 refine rN (sR ?_)
 refine Qd (Uf (c := (cl u8 ((Gp 1#8)))) Zi Xf Yw (Yx (i := 0) (v := (u8 1#8)) (cs := #[(u8 1#8)]) rfl rfl V5) Xh) <| Dx m0 (oc27 (Jb rfl) (Ql0 _ _ sL)) fun w1 m1 => Y5 (Yu m1 Qec) fun w3 b1 m3 => Ve (Wl [((Gp 1#8)).map u8, (Qi ((Gp 1#8)) Q7).map u8] Qec rfl rfl (Gn (n := 32) (m := 32) (k := 64) (by first | rfl | (rw [List.length_map]; first | omega | (simp; done) | (simp; omega))) (Gn (n := 32) (m := 0) (k := 32) (by first | rfl | (rw [List.length_map]; first | omega | (simp; done) | (simp; omega))) Tz rfl) rfl) (Xt (Yj Q9 _) (Xt (Yj Q9 _) Ui)) m3.h0 rfl rfl) ?_
 rintro _ w4 uq4
 have m4 : Mem _ _ [(b1, .cells (Qp [((Gp 1#8)).map u8, (Qi ((Gp 1#8)) Q7).map u8]) 39 (0, 0))] := m3.upd0 uq4
 refine rN (sR ?_)
 refine Qd (Uf (c := (cl u8 ((Gp 5#8)))) Zi Xf Yw (Yx (i := 0) (v := (u8 5#8)) (cs := #[(u8 5#8)]) rfl rfl V5) Xh) <| Qd (Jt Qe5 Qec rfl m4.h0) <| Dx m4 (oc18 (X3 rfl rfl) (Qho _ _ _ _ sL sL sL)) fun w5 m5 => Y5 (Yu m5 Jo) fun w7 b2 m7 => Yb m7 (Jw Jo rfl rfl m7.h0 (Us rfl)) fun w8 m8 => ?_
 refine rN (sR ?_)
 refine Qd (Jt X6 Jo rfl m8.h0) <| G5 (oc12 (U2 rfl rfl rfl) (Qi8 (Zq ((Gp 5#8)) ((Gp 1#8))) Jp Jp ([]) Jp ([]) _ (hT.mono fun b o e => (m8).rest b o e) (RdK.nilE Xk) sL (Rd.nil _ _) sL (Rd.nil _ _) sL sL sL)) ?_
 rintro _ w9 ⟨vqq10, Hqq10, vcq10, Hcq10, rfl, gqq10, gcq10, k_w9⟩
 have m9 : Mem w9 (Qu w0) (Hqq10 ++ (Hcq10 ++ ([(b2, .cells (Qp (sS (Zq ((Gp 5#8)) ((Gp 1#8))) Jp)) 26 (0, 0)), (b1, .cells (Qp [((Gp 1#8)).map u8, (Qi ((Gp 1#8)) Q7).map u8]) 39 (0, 0))]))) := ymA (Mem.new (H := [(b2, .cells (Qp (sS (Zq ((Gp 5#8)) ((Gp 1#8))) Jp)) 26 (0, 0)), (b1, .cells (Qp [((Gp 1#8)).map u8, (Qi ((Gp 1#8)) Q7).map u8]) 39 (0, 0))]) (H' := _) m8 k_w9)
 refine Yk rfl <| Qd (Zg rfl rfl) <| Qd (v := vcq10) (Zg rfl rfl) <| Qd (v := (i64 (Ua (Zq ((Gp 5#8)) ((Gp 1#8)))))) (Zg rfl rfl) <| Y5 (Yu m9 Jo) fun w11 b3 m11 => Yb m11 (Jw Jo rfl rfl m11.h0 (Us (RdK.one (RdK.ite (fun h => RdK.cast (gqq10.rd (Mem.pick [_] Hqq10 _ m11)) (Ar h)) (fun h => RdK.cast (RdK.nilE Xk) (Au h)))))) fun w12 m12 => Zv vcq10 <| Sv rfl <| rN ?_
 have m13 := Mem.drop [_] _ m12
 have m14 := Mem.drop Hqq10 _ m13
 refine sR <| Qd (Uf (c := (cl u8 ((Gp 5#8)))) Zi Xf Yw (Yx (i := 0) (v := (u8 5#8)) (cs := #[(u8 5#8)]) rfl rfl V5) Xh) <| Qd (Jt Qe5 Qec rfl ((Mem.pick2 Hcq10 [_] [_] _ m14)).h0) <| Qd (Zd (r := 32) Qe5 rfl Yy Zi rfl rfl) <| Qd (Y8 1 Xf Zi rfl ((Mem.pick2 Hcq10 [_] [_] _ m14)).h0 rfl) <| Dx m14 (oc16 (U2 rfl rfl rfl) (Qkx _ _ _ _ _ (hT.mono fun b o e => (m14).rest b o e) sL sL sL sL)) fun w15 m15 => Y5 (Zr u8 [1#8] Q9 m15 Zx Yw rfl rfl rfl) fun w17 b26 m17 => G5 (oc12 (U2 rfl rfl rfl) (Qi8 (Ze ((Gp 5#8)) ((Gp 1#8)) (Qi ((Gp 1#8)) Q7)) Jp Jp ([]) (Kq b26 0 1 1) ([1#8]) _ (hT.mono fun b o e => (m17).rest b o e) (RdK.nilE Xk) sL (Rd.nil _ _) sL (Rd.mkA m17.h0) sL sL sL)) ?_
 rintro _ w18 ⟨vqq19, Hqq19, vcq19, Hcq19, rfl, gqq19, gcq19, k_w18⟩
 have m18 : Mem w18 (Qu w0) (Hqq19 ++ (Hcq19 ++ ([(b26, .cells (cl u8 ([1#8])) 5 (0, 0))] ++ (Hcq10 ++ ([(b2, .cells (Qp (sS (Zq ((Gp 5#8)) ((Gp 1#8))) Jp)) 26 (0, 0)), (b1, .cells (Qp [((Gp 1#8)).map u8, (Qi ((Gp 1#8)) Q7).map u8]) 39 (0, 0))]))))) := ymA (Mem.new (H := [(b26, .cells (cl u8 ([1#8])) 5 (0, 0))] ++ (Hcq10 ++ ([(b2, .cells (Qp (sS (Zq ((Gp 5#8)) ((Gp 1#8))) Jp)) 26 (0, 0)), (b1, .cells (Qp [((Gp 1#8)).map u8, (Qi ((Gp 1#8)) Q7).map u8]) 39 (0, 0))]))) (H' := _) m17 k_w18)
 refine Yk rfl <| Qd (Zg rfl rfl) <| Qd (v := vcq19) (Zg rfl rfl) <| Qd (Zg rfl rfl) <| Y5 (Yu m18 Jo) fun w20 b6 m20 => Yb m20 (Jw Jo rfl rfl m20.h0 (Us (RdK.one (RdK.ite (fun h => RdK.cast (gqq19.rd (Mem.pick [_] Hqq19 _ m20)) (Ar h)) (fun h => RdK.cast (RdK.nilE Xk) (Au h)))))) fun w21 m21 => Zv vcq19 <| Sv rfl ?_
 refine rN (sR ?_)
 refine Yk rfl <| Qd (J5 (b := 13) rfl rfl) <| Yk rfl ?_
 have hd22 : ((Ua (Zq ((Gp 5#8)) ((Gp 1#8)))) == 13) = true := by rw [Qgz]; rfl
 refine Zt (s := 33) rfl rfl hd22 rfl (Ye (v := vcq10) rfl) <| Zt (s := 33) rfl rfl hd22 rfl (Yg (gcq10.rd (Mem.pick4 [_] Hqq19 Hcq19 [_] Hcq10 _ m21)) Zx rfl) <| Zt (s := 33) rfl rfl hd22 rfl (J5 (b := 0) rfl rfl) <| Qd (V7 rfl hd22 rfl) <| Yk rfl ?_
 have hd23 : (((Eg (Zq ((Gp 5#8)) ((Gp 1#8))) ([]) ([])).length : Int) == 0) = true := by rw [second_c]; rfl
 refine Zt (s := 38) rfl rfl hd23 rfl (Ye rfl) <| Zt (s := 38) rfl rfl hd23 rfl (J5 (b := 0) rfl rfl) <| Qd (V7 rfl hd23 rfl) <| Yk rfl ?_
 have hd24 : ((Ua (Ze ((Gp 5#8)) ((Gp 1#8)) (Qi ((Gp 1#8)) Q7))) == 0) = true := by rw [Qmq]; rfl
 refine Zt (s := 42) rfl rfl hd24 rfl (Ye (v := vcq19) rfl) <| Zt (s := 42) rfl rfl hd24 rfl (Yg (gcq19.rd (Mem.pick2 [_] Hqq19 Hcq19 _ m21)) Zx rfl) <| Zt (s := 42) rfl rfl hd24 rfl (J5 (b := 73) rfl rfl) <| Qd (V7 rfl hd24 rfl) <| Sv rfl <| rN ?_
 have m25 := Mem.drop [_] _ m21
 have m26 := Mem.drop Hqq19 _ m25
 have m27 := Mem.drop [_] _ (Mem.pick Hcq19 [_] _ m26)
 refine Zy <| Qs [(bl (((Eg (Ze ((Gp 5#8)) ((Gp 1#8)) (Qi ((Gp 1#8)) Q7)) ([]) ([1#8])).length : Int) == 73))] ⟨rfl, trivial⟩ ?_
 exact ⟨congrArg bl (by rw [Qn2]; rfl), m27.toExt⟩
end --m
section
set_option linter.unusedVariables false
set_option linter.unusedSimpArgs false
open Go.ChangeShapes Go.WideShapes Go.ChangeAt Go.RowKit
section
variable {P : Program}
end
end --m
end Go.Proofs.YtkmiemlpfkfiiaaDoor
