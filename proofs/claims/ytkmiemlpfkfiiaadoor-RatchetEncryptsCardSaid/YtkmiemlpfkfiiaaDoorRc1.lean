/- The ratchet: the laws of what is enciphered and deciphered. Conditions: none beyond those that each theorem states. -/
import Derived.Test.YtkmiemlpfkfiiaaDoorRb9
import Derived.Test.YtkmiemlpfkfiiaaDoorFwL
namespace Go.Proofs.YtkmiemlpfkfiiaaDoor
set_option linter.unusedVariables false
set_option linter.unusedSimpArgs false
section
variable {w : World} {R : Rest}
end
theorem Qhi (ro ow : List (BitVec 8)) : Ja (V9 ro ow) = 13 := Qlw rfl
theorem second_c (ro ow b p : List (BitVec 8)) : Rh (V9 ro ow) b p = [] := (Qgj (by rw [Qhi]; decide)).2.1
theorem Qmw (ro ow ot : List (BitVec 8)) : Ja (Eb ro ow ot) = 0 := Qlx rfl (by show (0 : Int) ≠ 2147483647; decide)
theorem Qn3 (ro ow ot b p : List (BitVec 8)) : (Rh (Eb ro ow ot) b p).length = p.length + 72 := by
 rw [(enc_z (b := b) (p := p) (Qmw ro ow ot)).2.1]
 unfold Bi; rw [List.length_append, Qbj (Ez _ _), A8]; omega
@[simp] theorem second_n1 (ro ow : List (BitVec 8)) : (V9 ro ow).n1 = 0 := rfl
@[simp] theorem second_n2 (ro ow : List (BitVec 8)) : (V9 ro ow).n2 = 0 := rfl
@[simp] theorem second_n3 (ro ow : List (BitVec 8)) : (V9 ro ow).n3 = 0 := rfl
@[simp] theorem second_ks (ro ow : List (BitVec 8)) : (V9 ro ow).ks = [] := rfl
@[simp] theorem first_n1 (ro ow ot : List (BitVec 8)) : (Eb ro ow ot).n1 = 0 := rfl
@[simp] theorem first_n2 (ro ow ot : List (BitVec 8)) : (Eb ro ow ot).n2 = 0 := rfl
@[simp] theorem first_n3 (ro ow ot : List (BitVec 8)) : (Eb ro ow ot).n3 = 0 := rfl
@[simp] theorem first_ks (ro ow ot : List (BitVec 8)) : (Eb ro ow ot).ks = [] := rfl
theorem RdK.nilE {α : Type} {enc : α → List Value} {k : Nat} {m : Nat → Option Obj} {l : List α} (e : l = []) : RdK m enc k (.slice none 0 0) l := e ▸ RdK.nil _ _
attribute [local irreducible] Qak Aa Ut Gi G6 Bi Jc J4 Jm X7 G7 Vw Y9 V6 We Ea Hm
attribute [local irreducible] Ja Rh Gf encK Eb V9
set_option maxHeartbeats 2000000 in
theorem Ql5  (w0 : World)  (hT : Tabs (Yq w0)) : Xz Tryd.prog 9 #[] w0 (fun r w1 => r = (bl true) ∧ Ext w0 w1) := by
 refine Zd (args := []) Tryd.func9 rfl Tryd.ntmps9 Tryd.results9 rfl ?_
 have m0 : Mem w0 (Qy w0) [] := Mem.of_world w0
 have hc1 := Ez ([1#8] ++ List.replicate 31 0#8) We
 refine sR <| Qa rfl (Qc (v := (bl false)) rfl) ?_
 refine rN (sR ?_)
 refine Qa rfl (Ve (c := (cl u8 ([1#8, 0#8, 0#8, 0#8, 0#8, 0#8, 0#8, 0#8, 0#8, 0#8, 0#8, 0#8, 0#8, 0#8, 0#8, 0#8, 0#8, 0#8, 0#8, 0#8, 0#8, 0#8, 0#8, 0#8, 0#8, 0#8, 0#8, 0#8, 0#8, 0#8, 0#8, 0#8]))) Z9 X3 X6 (Y2 (i := 0) (v := (u8 1#8)) (cs := #[(u8 1#8)]) rfl rfl Vo) (by kernel_rfl)) <| Za rfl (oc27 (Jj rfl) (c_new5 _ _ sL)) ?_
 rintro _ w1 ⟨rfl, e1⟩
 have m1 := m0.ext e1
 refine Za rfl (Yj m1 Qct) ?_
 rintro _ w3 ⟨b1, rfl, e3, m3⟩
 refine Zw (Gj [([1#8, 0#8, 0#8, 0#8, 0#8, 0#8, 0#8, 0#8, 0#8, 0#8, 0#8, 0#8, 0#8, 0#8, 0#8, 0#8, 0#8, 0#8, 0#8, 0#8, 0#8, 0#8, 0#8, 0#8, 0#8, 0#8, 0#8, 0#8, 0#8, 0#8, 0#8, 0#8]).map u8, (Y9 ([1#8, 0#8, 0#8, 0#8, 0#8, 0#8, 0#8, 0#8, 0#8, 0#8, 0#8, 0#8, 0#8, 0#8, 0#8, 0#8, 0#8, 0#8, 0#8, 0#8, 0#8, 0#8, 0#8, 0#8, 0#8, 0#8, 0#8, 0#8, 0#8, 0#8, 0#8, 0#8]) We).map u8] Qct rfl rfl (Ed (n := 32) (m := 32) (k := 64) (by first | rfl | (rw [List.length_map]; first | omega | (simp; done) | (simp; omega))) (Ed (n := 32) (m := 0) (k := 32) (by first | rfl | (rw [List.length_map]; first | omega | (simp; done) | (simp; omega))) Qcj rfl) rfl) (Js (Jn Qu _) (Js (Jn Qu _) Bz)) m3.h0 rfl rfl) ?_
 rintro _ w4 uq4
 have m4 : Mem _ _ [(b1, .cells (Zl [([1#8, 0#8, 0#8, 0#8, 0#8, 0#8, 0#8, 0#8, 0#8, 0#8, 0#8, 0#8, 0#8, 0#8, 0#8, 0#8, 0#8, 0#8, 0#8, 0#8, 0#8, 0#8, 0#8, 0#8, 0#8, 0#8, 0#8, 0#8, 0#8, 0#8, 0#8, 0#8]).map u8, (Y9 ([1#8, 0#8, 0#8, 0#8, 0#8, 0#8, 0#8, 0#8, 0#8, 0#8, 0#8, 0#8, 0#8, 0#8, 0#8, 0#8, 0#8, 0#8, 0#8, 0#8, 0#8, 0#8, 0#8, 0#8, 0#8, 0#8, 0#8, 0#8, 0#8, 0#8, 0#8, 0#8]) We).map u8]) 39 (0, 0))] := m3.upd0 uq4
 refine rN (sR ?_)
 refine Qa rfl (Ve (c := (cl u8 ([5#8, 0#8, 0#8, 0#8, 0#8, 0#8, 0#8, 0#8, 0#8, 0#8, 0#8, 0#8, 0#8, 0#8, 0#8, 0#8, 0#8, 0#8, 0#8, 0#8, 0#8, 0#8, 0#8, 0#8, 0#8, 0#8, 0#8, 0#8, 0#8, 0#8, 0#8, 0#8]))) Z9 X3 X6 (Y2 (i := 0) (v := (u8 5#8)) (cs := #[(u8 5#8)]) rfl rfl Vo) (by kernel_rfl)) <| Qa rfl (Jr Qex Qct rfl m4.h0) <| Za rfl (oc18 (Xr rfl rfl) (Qh6 _ _ _ _ sL sL sL)) ?_
 rintro _ w5 ⟨rfl, e5⟩
 have m5 := m4.ext e5
 refine Za rfl (Yj m5 Y8) ?_
 rintro _ w7 ⟨b2, rfl, e7, m7⟩
 refine Zw (Ky Y8 rfl rfl m7.h0 (Gv rfl)) ?_
 rintro _ w8 uq8
 have m8 := m7.upd0 uq8
 refine rN (sR ?_)
 refine Qa rfl (Jr Yu Y8 rfl m8.h0) <| Za rfl (Ry (Vx rfl rfl rfl) (U7 (V9 ([5#8, 0#8, 0#8, 0#8, 0#8, 0#8, 0#8, 0#8, 0#8, 0#8, 0#8, 0#8, 0#8, 0#8, 0#8, 0#8, 0#8, 0#8, 0#8, 0#8, 0#8, 0#8, 0#8, 0#8, 0#8, 0#8, 0#8, 0#8, 0#8, 0#8, 0#8, 0#8]) ([1#8, 0#8, 0#8, 0#8, 0#8, 0#8, 0#8, 0#8, 0#8, 0#8, 0#8, 0#8, 0#8, 0#8, 0#8, 0#8, 0#8, 0#8, 0#8, 0#8, 0#8, 0#8, 0#8, 0#8, 0#8, 0#8, 0#8, 0#8, 0#8, 0#8, 0#8, 0#8])) (Value.slice none 0 0) (Value.slice none 0 0) ([]) (Value.slice none 0 0) ([]) _ (hT.mono fun b o e => (m8).rest b o e) (RdK.nilE (by simp)) sL (Rd.nil _ _) sL (Rd.nil _ _) sL sL sL)) ?_
 rintro _ w9 ⟨vqq10, Hqq10, vcq10, Hcq10, rfl, gqq10, gcq10, k_w9⟩
 have m9 : Mem w9 (Qy w0) (Hqq10 ++ (Hcq10 ++ ([(b2, .cells (Zl (sS (V9 ([5#8, 0#8, 0#8, 0#8, 0#8, 0#8, 0#8, 0#8, 0#8, 0#8, 0#8, 0#8, 0#8, 0#8, 0#8, 0#8, 0#8, 0#8, 0#8, 0#8, 0#8, 0#8, 0#8, 0#8, 0#8, 0#8, 0#8, 0#8, 0#8, 0#8, 0#8, 0#8]) ([1#8, 0#8, 0#8, 0#8, 0#8, 0#8, 0#8, 0#8, 0#8, 0#8, 0#8, 0#8, 0#8, 0#8, 0#8, 0#8, 0#8, 0#8, 0#8, 0#8, 0#8, 0#8, 0#8, 0#8, 0#8, 0#8, 0#8, 0#8, 0#8, 0#8, 0#8, 0#8])) (Value.slice none 0 0))) 26 (0, 0)), (b1, .cells (Zl [([1#8, 0#8, 0#8, 0#8, 0#8, 0#8, 0#8, 0#8, 0#8, 0#8, 0#8, 0#8, 0#8, 0#8, 0#8, 0#8, 0#8, 0#8, 0#8, 0#8, 0#8, 0#8, 0#8, 0#8, 0#8, 0#8, 0#8, 0#8, 0#8, 0#8, 0#8, 0#8]).map u8, (Y9 ([1#8, 0#8, 0#8, 0#8, 0#8, 0#8, 0#8, 0#8, 0#8, 0#8, 0#8, 0#8, 0#8, 0#8, 0#8, 0#8, 0#8, 0#8, 0#8, 0#8, 0#8, 0#8, 0#8, 0#8, 0#8, 0#8, 0#8, 0#8, 0#8, 0#8, 0#8, 0#8]) We).map u8]) 39 (0, 0))]))) := (by
  have hT := Mem.new (H := [(b2, .cells (Zl (sS (V9 ([5#8, 0#8, 0#8, 0#8, 0#8, 0#8, 0#8, 0#8, 0#8, 0#8, 0#8, 0#8, 0#8, 0#8, 0#8, 0#8, 0#8, 0#8, 0#8, 0#8, 0#8, 0#8, 0#8, 0#8, 0#8, 0#8, 0#8, 0#8, 0#8, 0#8, 0#8, 0#8]) ([1#8, 0#8, 0#8, 0#8, 0#8, 0#8, 0#8, 0#8, 0#8, 0#8, 0#8, 0#8, 0#8, 0#8, 0#8, 0#8, 0#8, 0#8, 0#8, 0#8, 0#8, 0#8, 0#8, 0#8, 0#8, 0#8, 0#8, 0#8, 0#8, 0#8, 0#8, 0#8])) (Value.slice none 0 0))) 26 (0, 0)), (b1, .cells (Zl [([1#8, 0#8, 0#8, 0#8, 0#8, 0#8, 0#8, 0#8, 0#8, 0#8, 0#8, 0#8, 0#8, 0#8, 0#8, 0#8, 0#8, 0#8, 0#8, 0#8, 0#8, 0#8, 0#8, 0#8, 0#8, 0#8, 0#8, 0#8, 0#8, 0#8, 0#8, 0#8]).map u8, (Y9 ([1#8, 0#8, 0#8, 0#8, 0#8, 0#8, 0#8, 0#8, 0#8, 0#8, 0#8, 0#8, 0#8, 0#8, 0#8, 0#8, 0#8, 0#8, 0#8, 0#8, 0#8, 0#8, 0#8, 0#8, 0#8, 0#8, 0#8, 0#8, 0#8, 0#8, 0#8, 0#8]) We).map u8]) 39 (0, 0))]) (H' := _) m8 k_w9
  try simp only [List.append_assoc, List.cons_append, List.nil_append, List.append_nil] at hT ⊢
  exact hT)
 refine rM rfl rfl <| Qa rfl (Zo rfl rfl) <| Qa (v := vcq10) rfl (Zo rfl rfl) <| Qa (v := (i64 (Ja (V9 ([5#8, 0#8, 0#8, 0#8, 0#8, 0#8, 0#8, 0#8, 0#8, 0#8, 0#8, 0#8, 0#8, 0#8, 0#8, 0#8, 0#8, 0#8, 0#8, 0#8, 0#8, 0#8, 0#8, 0#8, 0#8, 0#8, 0#8, 0#8, 0#8, 0#8, 0#8, 0#8]) ([1#8, 0#8, 0#8, 0#8, 0#8, 0#8, 0#8, 0#8, 0#8, 0#8, 0#8, 0#8, 0#8, 0#8, 0#8, 0#8, 0#8, 0#8, 0#8, 0#8, 0#8, 0#8, 0#8, 0#8, 0#8, 0#8, 0#8, 0#8, 0#8, 0#8, 0#8, 0#8]))))) rfl (Zo rfl rfl) <| Za rfl (Yj m9 Y8) ?_
 rintro _ w11 ⟨b3, rfl, e11, m11⟩
 refine Zw (Ky Y8 rfl rfl m11.h0 (Gv (RdK.one (RdK.ite (fun h => RdK.cast (gqq10.rd (Mem.pick [_] Hqq10 _ m11)) (Ur h)) (fun h => RdK.cast (RdK.nilE (by simp)) (Us h)))))) ?_
 rintro _ w12 uq12
 have m12 := m11.upd0 uq12
 refine rA rfl (v := vcq10) rfl <| rA rfl rfl <| rN ?_
 have m13 := Mem.drop [_] _ m12
 have m14 := Mem.drop Hqq10 _ m13
 refine sR <| Qa rfl (Ve (c := (cl u8 ([5#8, 0#8, 0#8, 0#8, 0#8, 0#8, 0#8, 0#8, 0#8, 0#8, 0#8, 0#8, 0#8, 0#8, 0#8, 0#8, 0#8, 0#8, 0#8, 0#8, 0#8, 0#8, 0#8, 0#8, 0#8, 0#8, 0#8, 0#8, 0#8, 0#8, 0#8, 0#8]))) Z9 X3 X6 (Y2 (i := 0) (v := (u8 5#8)) (cs := #[(u8 5#8)]) rfl rfl Vo) (by kernel_rfl)) <| Qa rfl (Jr Qex Qct rfl ((Mem.pick2 Hcq10 [_] [_] _ m14)).h0) <| Qa rfl (Xi (r := 32) Qex rfl (by first | rfl | omega) Z9 rfl rfl) <| Qa rfl (Vk 1 X3 Z9 rfl ((Mem.pick2 Hcq10 [_] [_] _ m14)).h0 rfl) <| Za rfl (oc16 (Vx rfl rfl rfl) (Qkq _ _ _ _ _ (hT.mono fun b o e => (m14).rest b o e) sL sL sL sL)) ?_
 rintro _ w15 ⟨rfl, e15⟩
 have m15 := m14.ext e15
 refine Za rfl (Ql u8 [1#8] Qu m15 Zi X6 rfl rfl rfl) ?_
 rintro _ w17 ⟨b26, rfl, e17, m17⟩
 refine Za rfl (Ry (Vx rfl rfl rfl) (U7 (Eb ([5#8, 0#8, 0#8, 0#8, 0#8, 0#8, 0#8, 0#8, 0#8, 0#8, 0#8, 0#8, 0#8, 0#8, 0#8, 0#8, 0#8, 0#8, 0#8, 0#8, 0#8, 0#8, 0#8, 0#8, 0#8, 0#8, 0#8, 0#8, 0#8, 0#8, 0#8, 0#8]) ([1#8, 0#8, 0#8, 0#8, 0#8, 0#8, 0#8, 0#8, 0#8, 0#8, 0#8, 0#8, 0#8, 0#8, 0#8, 0#8, 0#8, 0#8, 0#8, 0#8, 0#8, 0#8, 0#8, 0#8, 0#8, 0#8, 0#8, 0#8, 0#8, 0#8, 0#8, 0#8]) (Y9 ([1#8, 0#8, 0#8, 0#8, 0#8, 0#8, 0#8, 0#8, 0#8, 0#8, 0#8, 0#8, 0#8, 0#8, 0#8, 0#8, 0#8, 0#8, 0#8, 0#8, 0#8, 0#8, 0#8, 0#8, 0#8, 0#8, 0#8, 0#8, 0#8, 0#8, 0#8, 0#8]) We)) (Value.slice none 0 0) (Value.slice none 0 0) ([]) (Ko b26 0 1 1) ([1#8]) _ (hT.mono fun b o e => (m17).rest b o e) (RdK.nilE (by simp)) sL (Rd.nil _ _) sL (Rd.mkA m17.h0) sL sL sL)) ?_
 rintro _ w18 ⟨vqq19, Hqq19, vcq19, Hcq19, rfl, gqq19, gcq19, k_w18⟩
 have m18 : Mem w18 (Qy w0) (Hqq19 ++ (Hcq19 ++ ([(b26, .cells (cl u8 ([1#8])) 5 (0, 0))] ++ (Hcq10 ++ ([(b2, .cells (Zl (sS (V9 ([5#8, 0#8, 0#8, 0#8, 0#8, 0#8, 0#8, 0#8, 0#8, 0#8, 0#8, 0#8, 0#8, 0#8, 0#8, 0#8, 0#8, 0#8, 0#8, 0#8, 0#8, 0#8, 0#8, 0#8, 0#8, 0#8, 0#8, 0#8, 0#8, 0#8, 0#8, 0#8]) ([1#8, 0#8, 0#8, 0#8, 0#8, 0#8, 0#8, 0#8, 0#8, 0#8, 0#8, 0#8, 0#8, 0#8, 0#8, 0#8, 0#8, 0#8, 0#8, 0#8, 0#8, 0#8, 0#8, 0#8, 0#8, 0#8, 0#8, 0#8, 0#8, 0#8, 0#8, 0#8])) (Value.slice none 0 0))) 26 (0, 0)), (b1, .cells (Zl [([1#8, 0#8, 0#8, 0#8, 0#8, 0#8, 0#8, 0#8, 0#8, 0#8, 0#8, 0#8, 0#8, 0#8, 0#8, 0#8, 0#8, 0#8, 0#8, 0#8, 0#8, 0#8, 0#8, 0#8, 0#8, 0#8, 0#8, 0#8, 0#8, 0#8, 0#8, 0#8]).map u8, (Y9 ([1#8, 0#8, 0#8, 0#8, 0#8, 0#8, 0#8, 0#8, 0#8, 0#8, 0#8, 0#8, 0#8, 0#8, 0#8, 0#8, 0#8, 0#8, 0#8, 0#8, 0#8, 0#8, 0#8, 0#8, 0#8, 0#8, 0#8, 0#8, 0#8, 0#8, 0#8, 0#8]) We).map u8]) 39 (0, 0))]))))) := (by
  have hT := Mem.new (H := [(b26, .cells (cl u8 ([1#8])) 5 (0, 0))] ++ (Hcq10 ++ ([(b2, .cells (Zl (sS (V9 ([5#8, 0#8, 0#8, 0#8, 0#8, 0#8, 0#8, 0#8, 0#8, 0#8, 0#8, 0#8, 0#8, 0#8, 0#8, 0#8, 0#8, 0#8, 0#8, 0#8, 0#8, 0#8, 0#8, 0#8, 0#8, 0#8, 0#8, 0#8, 0#8, 0#8, 0#8, 0#8]) ([1#8, 0#8, 0#8, 0#8, 0#8, 0#8, 0#8, 0#8, 0#8, 0#8, 0#8, 0#8, 0#8, 0#8, 0#8, 0#8, 0#8, 0#8, 0#8, 0#8, 0#8, 0#8, 0#8, 0#8, 0#8, 0#8, 0#8, 0#8, 0#8, 0#8, 0#8, 0#8])) (Value.slice none 0 0))) 26 (0, 0)), (b1, .cells (Zl [([1#8, 0#8, 0#8, 0#8, 0#8, 0#8, 0#8, 0#8, 0#8, 0#8, 0#8, 0#8, 0#8, 0#8, 0#8, 0#8, 0#8, 0#8, 0#8, 0#8, 0#8, 0#8, 0#8, 0#8, 0#8, 0#8, 0#8, 0#8, 0#8, 0#8, 0#8, 0#8]).map u8, (Y9 ([1#8, 0#8, 0#8, 0#8, 0#8, 0#8, 0#8, 0#8, 0#8, 0#8, 0#8, 0#8, 0#8, 0#8, 0#8, 0#8, 0#8, 0#8, 0#8, 0#8, 0#8, 0#8, 0#8, 0#8, 0#8, 0#8, 0#8, 0#8, 0#8, 0#8, 0#8, 0#8]) We).map u8]) 39 (0, 0))]))) (H' := _) m17 k_w18
  try simp only [List.append_assoc, List.cons_append, List.nil_append, List.append_nil] at hT ⊢
  exact hT)
 refine rM rfl rfl <| Qa rfl (Zo rfl rfl) <| Qa (v := vcq19) rfl (Zo rfl rfl) <| Qa rfl (Zo rfl rfl) <| Za rfl (Yj m18 Y8) ?_
 rintro _ w20 ⟨b6, rfl, e20, m20⟩
 refine Zw (Ky Y8 rfl rfl m20.h0 (Gv (RdK.one (RdK.ite (fun h => RdK.cast (gqq19.rd (Mem.pick [_] Hqq19 _ m20)) (Ur h)) (fun h => RdK.cast (RdK.nilE (by simp)) (Us h)))))) ?_
 rintro _ w21 uq21
 have m21 := m20.upd0 uq21
 refine rA rfl (v := vcq19) rfl <| rA rfl rfl ?_
 refine rN (sR ?_)
 refine rM rfl rfl <| Qa rfl (Vp (b := 13) rfl rfl) <| rM rfl rfl ?_
 have hd22 : ((Ja (V9 ([5#8, 0#8, 0#8, 0#8, 0#8, 0#8, 0#8, 0#8, 0#8, 0#8, 0#8, 0#8, 0#8, 0#8, 0#8, 0#8, 0#8, 0#8, 0#8, 0#8, 0#8, 0#8, 0#8, 0#8, 0#8, 0#8, 0#8, 0#8, 0#8, 0#8, 0#8, 0#8]) ([1#8, 0#8, 0#8, 0#8, 0#8, 0#8, 0#8, 0#8, 0#8, 0#8, 0#8, 0#8, 0#8, 0#8, 0#8, 0#8, 0#8, 0#8, 0#8, 0#8, 0#8, 0#8, 0#8, 0#8, 0#8, 0#8, 0#8, 0#8, 0#8, 0#8, 0#8, 0#8]))) == 13) = true := by rw [Qhi]; rfl
 refine Zt (s := 33) rfl rfl hd22 rfl (Qb (v := vcq10) rfl) <| Zt (s := 33) rfl rfl hd22 rfl (Ye (gcq10.rd (Mem.pick4 [_] Hqq19 Hcq19 [_] Hcq10 _ m21)) Zi rfl) <| Zt (s := 33) rfl rfl hd22 rfl (Vp (b := 0) rfl rfl) <| Qa rfl (Jd rfl hd22 rfl) <| rM rfl rfl ?_
 have hd23 : (((Rh (V9 ([5#8, 0#8, 0#8, 0#8, 0#8, 0#8, 0#8, 0#8, 0#8, 0#8, 0#8, 0#8, 0#8, 0#8, 0#8, 0#8, 0#8, 0#8, 0#8, 0#8, 0#8, 0#8, 0#8, 0#8, 0#8, 0#8, 0#8, 0#8, 0#8, 0#8, 0#8, 0#8]) ([1#8, 0#8, 0#8, 0#8, 0#8, 0#8, 0#8, 0#8, 0#8, 0#8, 0#8, 0#8, 0#8, 0#8, 0#8, 0#8, 0#8, 0#8, 0#8, 0#8, 0#8, 0#8, 0#8, 0#8, 0#8, 0#8, 0#8, 0#8, 0#8, 0#8, 0#8, 0#8])) ([]) ([])).length : Int) == 0) = true := by rw [second_c]; rfl
 refine Zt (s := 38) rfl rfl hd23 rfl (Qb rfl) <| Zt (s := 38) rfl rfl hd23 rfl (Vp (b := 0) rfl rfl) <| Qa rfl (Jd rfl hd23 rfl) <| rM rfl rfl ?_
 have hd24 : ((Ja (Eb ([5#8, 0#8, 0#8, 0#8, 0#8, 0#8, 0#8, 0#8, 0#8, 0#8, 0#8, 0#8, 0#8, 0#8, 0#8, 0#8, 0#8, 0#8, 0#8, 0#8, 0#8, 0#8, 0#8, 0#8, 0#8, 0#8, 0#8, 0#8, 0#8, 0#8, 0#8, 0#8]) ([1#8, 0#8, 0#8, 0#8, 0#8, 0#8, 0#8, 0#8, 0#8, 0#8, 0#8, 0#8, 0#8, 0#8, 0#8, 0#8, 0#8, 0#8, 0#8, 0#8, 0#8, 0#8, 0#8, 0#8, 0#8, 0#8, 0#8, 0#8, 0#8, 0#8, 0#8, 0#8]) (Y9 ([1#8, 0#8, 0#8, 0#8, 0#8, 0#8, 0#8, 0#8, 0#8, 0#8, 0#8, 0#8, 0#8, 0#8, 0#8, 0#8, 0#8, 0#8, 0#8, 0#8, 0#8, 0#8, 0#8, 0#8, 0#8, 0#8, 0#8, 0#8, 0#8, 0#8, 0#8, 0#8]) We))) == 0) = true := by rw [Qmw]; rfl
 refine Zt (s := 42) rfl rfl hd24 rfl (Qb (v := vcq19) rfl) <| Zt (s := 42) rfl rfl hd24 rfl (Ye (gcq19.rd (Mem.pick2 [_] Hqq19 Hcq19 _ m21)) Zi rfl) <| Zt (s := 42) rfl rfl hd24 rfl (Vp (b := 73) rfl rfl) <| Qa rfl (Jd rfl hd24 rfl) <| rA rfl rfl <| rN ?_
 have m25 := Mem.drop [_] _ m21
 have m26 := Mem.drop Hqq19 _ m25
 have m27 := Mem.drop [_] _ (Mem.pick Hcq19 [_] _ m26)
 refine Xt <| Ze [(bl (((Rh (Eb ([5#8, 0#8, 0#8, 0#8, 0#8, 0#8, 0#8, 0#8, 0#8, 0#8, 0#8, 0#8, 0#8, 0#8, 0#8, 0#8, 0#8, 0#8, 0#8, 0#8, 0#8, 0#8, 0#8, 0#8, 0#8, 0#8, 0#8, 0#8, 0#8, 0#8, 0#8, 0#8]) ([1#8, 0#8, 0#8, 0#8, 0#8, 0#8, 0#8, 0#8, 0#8, 0#8, 0#8, 0#8, 0#8, 0#8, 0#8, 0#8, 0#8, 0#8, 0#8, 0#8, 0#8, 0#8, 0#8, 0#8, 0#8, 0#8, 0#8, 0#8, 0#8, 0#8, 0#8, 0#8]) (Y9 ([1#8, 0#8, 0#8, 0#8, 0#8, 0#8, 0#8, 0#8, 0#8, 0#8, 0#8, 0#8, 0#8, 0#8, 0#8, 0#8, 0#8, 0#8, 0#8, 0#8, 0#8, 0#8, 0#8, 0#8, 0#8, 0#8, 0#8, 0#8, 0#8, 0#8, 0#8, 0#8]) We)) ([]) ([1#8])).length : Int) == 73))] ⟨rfl, trivial⟩ ?_
 exact ⟨congrArg bl (by rw [Qn3]; rfl), m27.toExt⟩
set_option maxHeartbeats 2000000 in
theorem law_renc (S : Sn) (vk : Value) (vb : Value) (lb : List (BitVec 8)) (vp : Value) (lp : List (BitVec 8)) (ro ow ot : List (BitVec 8)) (w0 : World)  (hT : Tabs (Yq w0)) (hk : RdK (Yq w0) J9 65 vk S.ks) (hkl : S.ks.length ≤ 9223372036854775807) (hrb : Rd (Yq w0) u8 vb lb) (hlb : lb.length ≤ 9223372036854775807) (hrp : Rd (Yq w0) u8 vp lp) (hlp : lp.length ≤ 9223372036854775807) (hro : ro.length = 32) (how : ow.length = 32) (hot : ot.length = 32) : Xz Tryd.prog 3 #[(Value.agg (Zl (sS S vk))), vb, vp, (agg u8 ro), (agg u8 ow), (agg u8 ot)] w0 (fun r w1 => r = bl true ∧ RowKit.Below w0.heap.size w0 w1) := by
 refine Zd (args := [(Value.agg (Zl (sS S vk))), vb, vp, (agg u8 ro), (agg u8 ow), (agg u8 ot)]) Tryd.func3 rfl Tryd.ntmps3 Tryd.results3 rfl ?_
 have m0 : Mem w0 (Qy w0) [] := Mem.of_world w0
 refine sR <| Za rfl (Gx (cs := (Zl (sS S vk))) m0 rfl) ?_
 rintro _ w1 ⟨b6, rfl, e1, m1⟩
 refine Za rfl (Z8 (f := u8) (l := ro) m1 rfl) ?_
 rintro _ w2 ⟨b9, rfl, e2, m2⟩
 refine Za rfl (Z8 (f := u8) (l := ow) m2 rfl) ?_
 rintro _ w3 ⟨b10, rfl, e3, m3⟩
 refine Za rfl (Z8 (f := u8) (l := ot) m3 rfl) ?_
 rintro _ w4 ⟨b11, rfl, e4, m4⟩
 refine Qa rfl (Qc (v := (bl false)) rfl) ?_
 refine rN (Qg (sR ?_))
 refine Za rfl (oc9 (Qkv) (Ql5 _ (hT.mono fun b o e => (m4).rest b o e))) ?_
 rintro _ w5 ⟨rfl, e5⟩
 have m5 := m4.ext e5
 refine Qa (v := (bl false)) rfl (G9 (b := true) rfl) <| rN <| Yp rfl (by decide) ?_
 refine Q7 (Qh (Qg (sR ?_)))
 refine Qa rfl (Jr Yu Y8 rfl m5.h3) <| rM rfl (v := vb) rfl <| rM rfl (v := vp) rfl <| Za rfl (oc10 (Vx rfl rfl rfl) (c_greatS S vk vb lb vp lp _ (RdK.ofRest hk m5) sL (Rd.ofRest hrb m5) (Rd.ofRest hrp m5) sL sL)) ?_
 rintro _ w7 ⟨rfl, e7⟩
 have m7 := m5.ext e7
 refine Qa rfl (Qb (v := (bl (Ea S.ks.length lb.length lp.length))) rfl) ?_
 rcases Bool.eq_false_or_eq_true (Ea S.ks.length lb.length lp.length) with hb9 | hb9
 ·
  refine Yd (s := 26) rfl rfl hb9 rfl <| Yd (s := 26) rfl rfl hb9 rfl <| Yd (s := 26) rfl rfl hb9 rfl <| Qa rfl (Jd rfl hb9 rfl) <| rN <| Zc rfl (by decide) <| sR <| Qa rfl (Qc (v := (bl true)) rfl) ?_
  refine rN (Xt (Vg ?_))
  refine Ze [(bl true)] ⟨rfl, trivial⟩ ?_
  exact ⟨rfl, Mem.below w0 m7⟩
 ·
  obtain ⟨hgr1, hgr2, hgr3⟩ := great_of hb9
  refine Zt (s := 26) rfl rfl hb9 rfl (Jr Yu Y8 rfl m7.h3) <| Qft (s := 26) rfl rfl hb9 rfl (oc11 (Jj rfl) (Qoj S vk _ (RdK.ofRest hk m7) sL)) ?_
  rintro _ w10 ⟨rfl, e10⟩
  have m10 := m7.ext e10
  refine Zt (s := 26) rfl rfl hb9 rfl (G9 rfl) <| Qa rfl (Yn rfl hb9 rfl) <| rN ?_
  refine Xv rfl (fun hc12 => ?_) (fun hc12 => ?_)
  ·
   have hc12n : (Qfv S) = false := by simpa using hc12
   refine sR <| Qa rfl (Qc (v := (bl true)) rfl) ?_
   refine rN (Xt (Vg ?_))
   refine Ze [(bl true)] ⟨rfl, trivial⟩ ?_
   exact ⟨rfl, Mem.below w0 m10⟩
  ·
   have hc12n : (Qfv S) = true := by simpa using hc12
   obtain ⟨hrn1, hrn2, hrn3⟩ := Qnl hc12n
   refine Q7 (Qh (Qg ?_))
   refine Pv (J := fun g wv => ∃ (b13 : Nat) (vq : Value) (Hq : List (Nat × Obj)) (vc : Value) (Hc : List (Nat × Obj)), (J6 J9 65 69 vq (encK S) Hq) ∧ (Zv u8 5 vc (Rh S lb lp) Hc) ∧ g 0 = (Value.agg (Zl (sS S vk))) ∧ g 1 = vb ∧ g 2 = vp ∧ g 3 = (agg u8 ro) ∧ g 4 = (agg u8 ow) ∧ g 5 = (agg u8 ot) ∧ g 6 = (ptr b6 0) ∧ g 9 = (ptr b9 0) ∧ g 10 = (ptr b10 0) ∧ g 11 = (ptr b11 0) ∧ g 12 = (bl false) ∧ g 13 = (ptr b13 0) ∧ g 14 = vc ∧ g 15 = (i64 (Ja S)) ∧ g 21 = (bl false) ∧ g 30 = (bl (!(Qfv S))) ∧ Mem wv (Qy w0) ([(b13, .cells (Zl (sS (Gf S) (if Ja S = 0 then vq else vk))) 26 (0, 0))] ++ (Hq ++ (Hc ++ ([(b11, .cells (cl u8 ot) 23 (0, 0)), (b10, .cells (cl u8 ow) 23 (0, 0)), (b9, .cells (cl u8 ro) 23 (0, 0)), (b6, .cells (Zl (sS S vk)) 26 (0, 0))]))))) ?_ ?_
   ·skip
    refine Jz (by kernel_rfl) ?_
    have hFM13 : Mem w10 (Qy w0) ([] ++ [(b11, .cells (cl u8 ot) 23 (0, 0)), (b10, .cells (cl u8 ow) 23 (0, 0)), (b9, .cells (cl u8 ro) 23 (0, 0)), (b6, .cells (Zl (sS S vk)) 26 (0, 0))]) := m10
    obtain ⟨RM13, hRM13⟩ : ∃ R2, R2 = Rest.add (Qy w0) [(b11, .cells (cl u8 ot) 23 (0, 0)), (b10, .cells (cl u8 ow) 23 (0, 0)), (b9, .cells (cl u8 ro) 23 (0, 0)), (b6, .cells (Zl (sS S vk)) 26 (0, 0))] := ⟨_, rfl⟩
    have M130 : Mem w10 RM13 [] := by rw [hRM13]; exact Mem.give hFM13
    have hr14 : Rd RM13.blk u8 vb lb := by rw [hRM13]; exact Rd.mono hrb fun b o e => Mem.addRest hFM13 e
    have hr15 : Rd RM13.blk u8 vp lp := by rw [hRM13]; exact Rd.mono hrp fun b o e => Mem.addRest hFM13 e
    have ho16 : RM13.blk b11 = some (.cells (cl u8 ot) 23 (0, 0)) := by rw [hRM13]; exact Mem.addOwn hFM13 (List.Mem.head _)
    have ho17 : RM13.blk b10 = some (.cells (cl u8 ow) 23 (0, 0)) := by rw [hRM13]; exact Mem.addOwn hFM13 (List.Mem.tail _ (List.Mem.head _))
    have ho18 : RM13.blk b9 = some (.cells (cl u8 ro) 23 (0, 0)) := by rw [hRM13]; exact Mem.addOwn hFM13 (List.Mem.tail _ (List.Mem.tail _ (List.Mem.head _)))
    have ho19 : RM13.blk b6 = some (.cells (Zl (sS S vk)) 26 (0, 0)) := by rw [hRM13]; exact Mem.addOwn hFM13 (List.Mem.tail _ (List.Mem.tail _ (List.Mem.tail _ (List.Mem.head _))))
    have hr20 : RdK RM13.blk J9 65 vk S.ks := by rw [hRM13]; exact RdK.mono hk fun b o e => Mem.addRest hFM13 e
    have hT21 : Tabs RM13.blk := by rw [hRM13]; exact Tabs.mono hT fun b o e => Mem.addRest hFM13 e
    refine Di 1 4 rfl rfl ?_ ?_
    ·
     refine Di 3 4 rfl rfl ?_ ?_
     ·
      refine Di 1 12 rfl rfl ?_ ?_
      ·
       refine Di 3 12 rfl rfl ?_ ?_
       ·
        refine Di 4 12 rfl rfl ?_ ?_
        ·
         refine Di 6 12 rfl rfl ?_ ?_
         ·
          refine Di 7 12 rfl rfl ?_ ?_
          ·
           refine Ju M130 [(0, false), (2, false), (5, false), (1, true), (3, true), (4, true), (6, true), (7, true), (8, false), (9, false), (10, false), (11, false), (12, true), (13, true), (14, false)] 15 rfl (by kernel_rfl) <| Xu rfl rfl (fun w _H _hx => Jr Yu Y8 rfl (_hx.rest _ _ ho19)) <| Xu rfl rfl (fun w _H _hx => Qb (v := vb) rfl) <| Xu rfl rfl (fun w _H _hx => Qb (v := vp) rfl) ?_
           refine Y5 rfl rfl (fun w22 e22 => ?_)
           have m22 := M130.ext e22
           refine Yz.mono (Ql u8 [] Qu m22 Zi X6 rfl (by simp [Jo]) rfl) ?_
           rintro _ w23 ⟨b33, rfl, e23, m23⟩
           refine ⟨⟨_, m23⟩, ?_⟩
           refine Y5 rfl rfl (fun w24 e24 => ?_)
           have m24 := m23.ext e24
           refine Yz.mono (Zk (f := u8) (Hs := [(b33, .cells (cl u8 ([])) 5 (0, 0))]) (H := []) m24 (Zv.of u8 5 b33 ([])) rfl rfl (Rd.ofRest hr14 m24) Zi Zi X6 rfl Qu sL sL) ?_
           rintro sv25 w25 ⟨Hs25, m25, g25⟩
           replace g25 : Zv u8 5 sv25 lb Hs25 := g25
           refine ⟨⟨_, m25⟩, ?_⟩
           refine Y5 rfl rfl (fun w26 e26 => ?_)
           have m26 := m25.ext e26
           refine Yz.mono (Ql u8 [] Qu m26 Zi X6 rfl (by simp [Jo]) rfl) ?_
           rintro _ w27 ⟨b36, rfl, e27, m27⟩
           refine ⟨⟨_, m27⟩, ?_⟩
           refine Y5 rfl rfl (fun w28 e28 => ?_)
           have m28 := m27.ext e28
           refine Yz.mono (Zk (f := u8) (Hs := [(b36, .cells (cl u8 ([])) 5 (0, 0))]) (H := Hs25 ++ ([])) m28 (Zv.of u8 5 b36 ([])) rfl rfl (Rd.ofRest hr15 m28) Zi Zi X6 rfl Qu sL sL) ?_
           rintro sv29 w29 ⟨Hs29, m29, g29⟩
           replace g29 : Zv u8 5 sv29 lp Hs29 := g29
           refine ⟨⟨_, m29⟩, ?_⟩
           refine Y5 rfl rfl (fun w30 e30 => ?_)
           have m30 := m29.ext e30
           refine Yz.mono (Ry (Vx rfl rfl rfl) (U7 S vk sv25 lb sv29 lp _ (hT21.mono fun b o e => (m30).rest b o e) (RdK.ofRest hr20 m30) sL (g25.rd (Mem.pick Hs29 Hs25 _ m30)) sL (g29.rd m30) sL sL sL)) ?_
           rintro _ w31 ⟨vqq32, Hqq32, vcq32, Hcq32, rfl, gqq32, gcq32, k_w31⟩
           have m31 : Mem w31 RM13 (Hqq32 ++ (Hcq32 ++ (Hs29 ++ (Hs25 ++ ([]))))) := (by
            have hT := Mem.new (H := Hs29 ++ (Hs25 ++ ([]))) (H' := _) m30 k_w31
            try simp only [List.append_assoc, List.cons_append, List.nil_append, List.append_nil] at hT ⊢
            exact hT)
           refine ⟨⟨_, m31⟩, ?_⟩
           refine Xu rfl rfl (fun w _H _hx => Qb rfl) <| Xu (v := (Value.agg (Zl (sS (Gf S) (if Ja S = 0 then vqq32 else vk))))) rfl rfl (fun w _H _hx => Zo rfl rfl) <| Xu (v := vcq32) rfl rfl (fun w _H _hx => Zo rfl rfl) <| Xu (v := (i64 (Ja S))) rfl rfl (fun w _H _hx => Zo rfl rfl) ?_
           refine Y5 rfl rfl (fun w33 e33 => ?_)
           have m33 := m31.ext e33
           refine Yz.mono (Yj m33 Y8) ?_
           rintro _ w34 ⟨b13, rfl, e34, m34⟩
           refine ⟨⟨_, m34⟩, ?_⟩
           refine Bh rfl (fun w35 e35 => ?_)
           have m35 := m34.ext e35
           refine Yz.mono (Ky Y8 rfl rfl m35.h0 (Gv (RdK.one (RdK.ite (fun h => RdK.cast (gqq32.rd (Mem.pick [_] Hqq32 _ m35)) (Ur h)) (fun h => RdK.cast (RdK.ofRest hr20 m35) (Us h)))))) ?_
           rintro _ w36 uq36
           have m36 := m35.upd0 uq36
           refine ⟨⟨_, m36⟩, ?_⟩
           refine Xu rfl rfl (fun w _H _hx => Qc (v := vcq32) rfl) ?_
           refine Xd (fun w37 e37 => ?_)
           have m37 := m36.ext e37
           have hX38 := m37
           rw [hRM13] at hX38
           have m39 : Mem w37 (Qy w0) ([(b13, .cells (Zl (sS (Gf S) (if Ja S = 0 then vqq32 else vk))) 26 (0, 0))] ++ (Hqq32 ++ (Hcq32 ++ (Hs29 ++ (Hs25 ++ ([(b11, .cells (cl u8 ot) 23 (0, 0)), (b10, .cells (cl u8 ow) 23 (0, 0)), (b9, .cells (cl u8 ro) 23 (0, 0)), (b6, .cells (Zl (sS S vk)) 26 (0, 0))])))))) := (by
            have hT := Mem.back hFM13 hX38
            try simp only [List.append_assoc, List.cons_append, List.nil_append, List.append_nil] at hT ⊢
            exact hT)
           refine Qa rfl (Qc (v := (i64 (Ja S))) rfl) <| rN ?_
           have m40 := Mem.drop Hs29 _ (Mem.pick3 [_] Hqq32 Hcq32 Hs29 _ m39)
           have m41 := Mem.drop Hs25 _ (Mem.pick3 [_] Hqq32 Hcq32 Hs25 _ m40)
           exact ⟨b13, vqq32, Hqq32, vcq32, Hcq32, gqq32, gcq32, rfl, rfl, rfl, rfl, rfl, rfl, rfl, rfl, rfl, rfl, rfl, rfl, rfl, rfl, rfl, rfl, (by
            have hT := m41
            try simp only [List.append_assoc, List.cons_append, List.nil_append, List.append_nil] at hT ⊢
            exact hT)⟩
          ·
           refine Ju M130 [(0, false), (2, false), (5, false), (1, true), (3, true), (4, true), (6, true), (12, true), (7, true), (8, false), (9, false), (10, false), (11, false), (13, true), (14, false)] 15 rfl (by kernel_rfl) <| Xu rfl rfl (fun w _H _hx => Jr Yu Y8 rfl (_hx.rest _ _ ho19)) <| Xu rfl rfl (fun w _H _hx => Qb (v := vb) rfl) <| Xu rfl rfl (fun w _H _hx => Qb (v := vp) rfl) ?_
           refine Y5 rfl rfl (fun w42 e42 => ?_)
           have m42 := M130.ext e42
           refine Yz.mono (Ql u8 [] Qu m42 Zi X6 rfl (by simp [Jo]) rfl) ?_
           rintro _ w43 ⟨b33_1, rfl, e43, m43⟩
           refine ⟨⟨_, m43⟩, ?_⟩
           refine Y5 rfl rfl (fun w44 e44 => ?_)
           have m44 := m43.ext e44
           refine Yz.mono (Zk (f := u8) (Hs := [(b33_1, .cells (cl u8 ([])) 5 (0, 0))]) (H := []) m44 (Zv.of u8 5 b33_1 ([])) rfl rfl (Rd.ofRest hr14 m44) Zi Zi X6 rfl Qu sL sL) ?_
           rintro sv45 w45 ⟨Hs45, m45, g45⟩
           replace g45 : Zv u8 5 sv45 lb Hs45 := g45
           refine ⟨⟨_, m45⟩, ?_⟩
           refine Y5 rfl rfl (fun w46 e46 => ?_)
           have m46 := m45.ext e46
           refine Yz.mono (Ql u8 [] Qu m46 Zi X6 rfl (by simp [Jo]) rfl) ?_
           rintro _ w47 ⟨b36_1, rfl, e47, m47⟩
           refine ⟨⟨_, m47⟩, ?_⟩
           refine Y5 rfl rfl (fun w48 e48 => ?_)
           have m48 := m47.ext e48
           refine Yz.mono (Zk (f := u8) (Hs := [(b36_1, .cells (cl u8 ([])) 5 (0, 0))]) (H := Hs45 ++ ([])) m48 (Zv.of u8 5 b36_1 ([])) rfl rfl (Rd.ofRest hr15 m48) Zi Zi X6 rfl Qu sL sL) ?_
           rintro sv49 w49 ⟨Hs49, m49, g49⟩
           replace g49 : Zv u8 5 sv49 lp Hs49 := g49
           refine ⟨⟨_, m49⟩, ?_⟩
           refine Y5 rfl rfl (fun w50 e50 => ?_)
           have m50 := m49.ext e50
           refine Yz.mono (Yj m50 Y8) ?_
           rintro _ w51 ⟨b13_1, rfl, e51, m51⟩
           refine ⟨⟨_, m51⟩, ?_⟩
           refine Y5 rfl rfl (fun w52 e52 => ?_)
           have m52 := m51.ext e52
           refine Yz.mono (Ry (Vx rfl rfl rfl) (U7 S vk sv45 lb sv49 lp _ (hT21.mono fun b o e => (m52).rest b o e) (RdK.ofRest hr20 m52) sL (g45.rd (Mem.pick2 [_] Hs49 Hs45 _ m52)) sL (g49.rd (Mem.pick [_] Hs49 _ m52)) sL sL sL)) ?_
           rintro _ w53 ⟨vqq54, Hqq54, vcq54, Hcq54, rfl, gqq54, gcq54, k_w53⟩
           have m53 : Mem w53 RM13 (Hqq54 ++ (Hcq54 ++ ([(b13_1, .cells (Zl (sE (List.replicate 32 0) (List.replicate 32 0) (List.replicate 32 0) false false (List.replicate 32 0) (List.replicate 32 0) 0 0 0 (Value.slice none 0 0))) 26 (0, 0))] ++ (Hs49 ++ (Hs45 ++ ([])))))) := (by
            have hT := Mem.new (H := [(b13_1, .cells (Zl (sE (List.replicate 32 0) (List.replicate 32 0) (List.replicate 32 0) false false (List.replicate 32 0) (List.replicate 32 0) 0 0 0 (Value.slice none 0 0))) 26 (0, 0))] ++ (Hs49 ++ (Hs45 ++ ([])))) (H' := _) m52 k_w53
            try simp only [List.append_assoc, List.cons_append, List.nil_append, List.append_nil] at hT ⊢
            exact hT)
           refine ⟨⟨_, m53⟩, ?_⟩
           refine Xu rfl rfl (fun w _H _hx => Qb rfl) <| Xu (v := (Value.agg (Zl (sS (Gf S) (if Ja S = 0 then vqq54 else vk))))) rfl rfl (fun w _H _hx => Zo rfl rfl) <| Xu (v := vcq54) rfl rfl (fun w _H _hx => Zo rfl rfl) <| Xu (v := (i64 (Ja S))) rfl rfl (fun w _H _hx => Zo rfl rfl) ?_
           refine Bh rfl (fun w55 e55 => ?_)
           have m55 := m53.ext e55
           refine Yz.mono (Ky Y8 rfl rfl ((Mem.pick2 Hqq54 Hcq54 [_] _ m55)).h0 (Gv (RdK.one (RdK.ite (fun h => RdK.cast (gqq54.rd m55) (Ur h)) (fun h => RdK.cast (RdK.ofRest hr20 m55) (Us h)))))) ?_
           rintro _ w56 uq56
           have m56 : Mem _ _ ([_] ++ (Hqq54 ++ (Hcq54 ++ (Hs49 ++ (Hs45 ++ ([])))))) := Mem.upd0 (Mem.pick2 Hqq54 Hcq54 [_] _ m55) uq56
           refine ⟨⟨_, m56⟩, ?_⟩
           refine Xu rfl rfl (fun w _H _hx => Qc (v := vcq54) rfl) ?_
           refine Xd (fun w57 e57 => ?_)
           have m57 := m56.ext e57
           have hX58 := m57
           rw [hRM13] at hX58
           have m59 : Mem w57 (Qy w0) ([(b13_1, .cells (Zl (sS (Gf S) (if Ja S = 0 then vqq54 else vk))) 26 (0, 0))] ++ (Hqq54 ++ (Hcq54 ++ (Hs49 ++ (Hs45 ++ ([(b11, .cells (cl u8 ot) 23 (0, 0)), (b10, .cells (cl u8 ow) 23 (0, 0)), (b9, .cells (cl u8 ro) 23 (0, 0)), (b6, .cells (Zl (sS S vk)) 26 (0, 0))])))))) := (by
            have hT := Mem.back hFM13 hX58
            try simp only [List.append_assoc, List.cons_append, List.nil_append, List.append_nil] at hT ⊢
            exact hT)
           refine Qa rfl (Qc (v := (i64 (Ja S))) rfl) <| rN ?_
           have m60 := Mem.drop Hs49 _ (Mem.pick3 [_] Hqq54 Hcq54 Hs49 _ m59)
           have m61 := Mem.drop Hs45 _ (Mem.pick3 [_] Hqq54 Hcq54 Hs45 _ m60)
           exact ⟨b13_1, vqq54, Hqq54, vcq54, Hcq54, gqq54, gcq54, rfl, rfl, rfl, rfl, rfl, rfl, rfl, rfl, rfl, rfl, rfl, rfl, rfl, rfl, rfl, rfl, (by
            have hT := m61
            try simp only [List.append_assoc, List.cons_append, List.nil_append, List.append_nil] at hT ⊢
            exact hT)⟩
         ·
          refine Ju M130 [(0, false), (2, false), (5, false), (1, true), (3, true), (4, true), (12, true), (6, true), (7, true), (8, false), (9, false), (10, false), (11, false), (13, true), (14, false)] 15 rfl (by kernel_rfl) <| Xu rfl rfl (fun w _H _hx => Jr Yu Y8 rfl (_hx.rest _ _ ho19)) <| Xu rfl rfl (fun w _H _hx => Qb (v := vb) rfl) <| Xu rfl rfl (fun w _H _hx => Qb (v := vp) rfl) ?_
          refine Y5 rfl rfl (fun w62 e62 => ?_)
          have m62 := M130.ext e62
          refine Yz.mono (Ql u8 [] Qu m62 Zi X6 rfl (by simp [Jo]) rfl) ?_
          rintro _ w63 ⟨b33_2, rfl, e63, m63⟩
          refine ⟨⟨_, m63⟩, ?_⟩
          refine Y5 rfl rfl (fun w64 e64 => ?_)
          have m64 := m63.ext e64
          refine Yz.mono (Zk (f := u8) (Hs := [(b33_2, .cells (cl u8 ([])) 5 (0, 0))]) (H := []) m64 (Zv.of u8 5 b33_2 ([])) rfl rfl (Rd.ofRest hr14 m64) Zi Zi X6 rfl Qu sL sL) ?_
          rintro sv65 w65 ⟨Hs65, m65, g65⟩
          replace g65 : Zv u8 5 sv65 lb Hs65 := g65
          refine ⟨⟨_, m65⟩, ?_⟩
          refine Y5 rfl rfl (fun w66 e66 => ?_)
          have m66 := m65.ext e66
          refine Yz.mono (Ql u8 [] Qu m66 Zi X6 rfl (by simp [Jo]) rfl) ?_
          rintro _ w67 ⟨b36_2, rfl, e67, m67⟩
          refine ⟨⟨_, m67⟩, ?_⟩
          refine Y5 rfl rfl (fun w68 e68 => ?_)
          have m68 := m67.ext e68
          refine Yz.mono (Yj m68 Y8) ?_
          rintro _ w69 ⟨b13_2, rfl, e69, m69⟩
          refine ⟨⟨_, m69⟩, ?_⟩
          refine Y5 rfl rfl (fun w70 e70 => ?_)
          have m70 := m69.ext e70
          refine Yz.mono (Zk (f := u8) (Hs := [(b36_2, .cells (cl u8 ([])) 5 (0, 0))]) (H := [_] ++ (Hs65 ++ ([]))) (Mem.pick [_] [_] _ m70) (Zv.of u8 5 b36_2 ([])) rfl rfl (Rd.ofRest hr15 m70) Zi Zi X6 rfl Qu sL sL) ?_
          rintro sv71 w71 ⟨Hs71, m71, g71⟩
          replace g71 : Zv u8 5 sv71 lp Hs71 := g71
          refine ⟨⟨_, m71⟩, ?_⟩
          refine Y5 rfl rfl (fun w72 e72 => ?_)
          have m72 := m71.ext e72
          refine Yz.mono (Ry (Vx rfl rfl rfl) (U7 S vk sv65 lb sv71 lp _ (hT21.mono fun b o e => (m72).rest b o e) (RdK.ofRest hr20 m72) sL (g65.rd (Mem.pick2 Hs71 [_] Hs65 _ m72)) sL (g71.rd m72) sL sL sL)) ?_
          rintro _ w73 ⟨vqq74, Hqq74, vcq74, Hcq74, rfl, gqq74, gcq74, k_w73⟩
          have m73 : Mem w73 RM13 (Hqq74 ++ (Hcq74 ++ (Hs71 ++ ([(b13_2, .cells (Zl (sE (List.replicate 32 0) (List.replicate 32 0) (List.replicate 32 0) false false (List.replicate 32 0) (List.replicate 32 0) 0 0 0 (Value.slice none 0 0))) 26 (0, 0))] ++ (Hs65 ++ ([])))))) := (by
           have hT := Mem.new (H := Hs71 ++ ([(b13_2, .cells (Zl (sE (List.replicate 32 0) (List.replicate 32 0) (List.replicate 32 0) false false (List.replicate 32 0) (List.replicate 32 0) 0 0 0 (Value.slice none 0 0))) 26 (0, 0))] ++ (Hs65 ++ ([])))) (H' := _) m72 k_w73
           try simp only [List.append_assoc, List.cons_append, List.nil_append, List.append_nil] at hT ⊢
           exact hT)
          refine ⟨⟨_, m73⟩, ?_⟩
          refine Xu rfl rfl (fun w _H _hx => Qb rfl) <| Xu (v := (Value.agg (Zl (sS (Gf S) (if Ja S = 0 then vqq74 else vk))))) rfl rfl (fun w _H _hx => Zo rfl rfl) <| Xu (v := vcq74) rfl rfl (fun w _H _hx => Zo rfl rfl) <| Xu (v := (i64 (Ja S))) rfl rfl (fun w _H _hx => Zo rfl rfl) ?_
          refine Bh rfl (fun w75 e75 => ?_)
          have m75 := m73.ext e75
          refine Yz.mono (Ky Y8 rfl rfl ((Mem.pick3 Hqq74 Hcq74 Hs71 [_] _ m75)).h0 (Gv (RdK.one (RdK.ite (fun h => RdK.cast (gqq74.rd m75) (Ur h)) (fun h => RdK.cast (RdK.ofRest hr20 m75) (Us h)))))) ?_
          rintro _ w76 uq76
          have m76 : Mem _ _ ([_] ++ (Hqq74 ++ (Hcq74 ++ (Hs71 ++ (Hs65 ++ ([])))))) := Mem.upd0 (Mem.pick3 Hqq74 Hcq74 Hs71 [_] _ m75) uq76
          refine ⟨⟨_, m76⟩, ?_⟩
          refine Xu rfl rfl (fun w _H _hx => Qc (v := vcq74) rfl) ?_
          refine Xd (fun w77 e77 => ?_)
          have m77 := m76.ext e77
          have hX78 := m77
          rw [hRM13] at hX78
          have m79 : Mem w77 (Qy w0) ([(b13_2, .cells (Zl (sS (Gf S) (if Ja S = 0 then vqq74 else vk))) 26 (0, 0))] ++ (Hqq74 ++ (Hcq74 ++ (Hs71 ++ (Hs65 ++ ([(b11, .cells (cl u8 ot) 23 (0, 0)), (b10, .cells (cl u8 ow) 23 (0, 0)), (b9, .cells (cl u8 ro) 23 (0, 0)), (b6, .cells (Zl (sS S vk)) 26 (0, 0))])))))) := (by
           have hT := Mem.back hFM13 hX78
           try simp only [List.append_assoc, List.cons_append, List.nil_append, List.append_nil] at hT ⊢
           exact hT)
          refine Qa rfl (Qc (v := (i64 (Ja S))) rfl) <| rN ?_
          have m80 := Mem.drop Hs71 _ (Mem.pick3 [_] Hqq74 Hcq74 Hs71 _ m79)
          have m81 := Mem.drop Hs65 _ (Mem.pick3 [_] Hqq74 Hcq74 Hs65 _ m80)
          exact ⟨b13_2, vqq74, Hqq74, vcq74, Hcq74, gqq74, gcq74, rfl, rfl, rfl, rfl, rfl, rfl, rfl, rfl, rfl, rfl, rfl, rfl, rfl, rfl, rfl, rfl, (by
           have hT := m81
           try simp only [List.append_assoc, List.cons_append, List.nil_append, List.append_nil] at hT ⊢
           exact hT)⟩
        ·
         refine Ju M130 [(0, false), (2, false), (5, false), (1, true), (3, true), (12, true), (4, true), (6, true), (7, true), (8, false), (9, false), (10, false), (11, false), (13, true), (14, false)] 15 rfl (by kernel_rfl) <| Xu rfl rfl (fun w _H _hx => Jr Yu Y8 rfl (_hx.rest _ _ ho19)) <| Xu rfl rfl (fun w _H _hx => Qb (v := vb) rfl) <| Xu rfl rfl (fun w _H _hx => Qb (v := vp) rfl) ?_
         refine Y5 rfl rfl (fun w82 e82 => ?_)
         have m82 := M130.ext e82
         refine Yz.mono (Ql u8 [] Qu m82 Zi X6 rfl (by simp [Jo]) rfl) ?_
         rintro _ w83 ⟨b33_3, rfl, e83, m83⟩
         refine ⟨⟨_, m83⟩, ?_⟩
         refine Y5 rfl rfl (fun w84 e84 => ?_)
         have m84 := m83.ext e84
         refine Yz.mono (Zk (f := u8) (Hs := [(b33_3, .cells (cl u8 ([])) 5 (0, 0))]) (H := []) m84 (Zv.of u8 5 b33_3 ([])) rfl rfl (Rd.ofRest hr14 m84) Zi Zi X6 rfl Qu sL sL) ?_
         rintro sv85 w85 ⟨Hs85, m85, g85⟩
         replace g85 : Zv u8 5 sv85 lb Hs85 := g85
         refine ⟨⟨_, m85⟩, ?_⟩
         refine Y5 rfl rfl (fun w86 e86 => ?_)
         have m86 := m85.ext e86
         refine Yz.mono (Yj m86 Y8) ?_
         rintro _ w87 ⟨b13_3, rfl, e87, m87⟩
         refine ⟨⟨_, m87⟩, ?_⟩
         refine Y5 rfl rfl (fun w88 e88 => ?_)
         have m88 := m87.ext e88
         refine Yz.mono (Ql u8 [] Qu m88 Zi X6 rfl (by simp [Jo]) rfl) ?_
         rintro _ w89 ⟨b36_3, rfl, e89, m89⟩
         refine ⟨⟨_, m89⟩, ?_⟩
         refine Y5 rfl rfl (fun w90 e90 => ?_)
         have m90 := m89.ext e90
         refine Yz.mono (Zk (f := u8) (Hs := [(b36_3, .cells (cl u8 ([])) 5 (0, 0))]) (H := [_] ++ (Hs85 ++ ([]))) m90 (Zv.of u8 5 b36_3 ([])) rfl rfl (Rd.ofRest hr15 m90) Zi Zi X6 rfl Qu sL sL) ?_
         rintro sv91 w91 ⟨Hs91, m91, g91⟩
         replace g91 : Zv u8 5 sv91 lp Hs91 := g91
         refine ⟨⟨_, m91⟩, ?_⟩
         refine Y5 rfl rfl (fun w92 e92 => ?_)
         have m92 := m91.ext e92
         refine Yz.mono (Ry (Vx rfl rfl rfl) (U7 S vk sv85 lb sv91 lp _ (hT21.mono fun b o e => (m92).rest b o e) (RdK.ofRest hr20 m92) sL (g85.rd (Mem.pick2 Hs91 [_] Hs85 _ m92)) sL (g91.rd m92) sL sL sL)) ?_
         rintro _ w93 ⟨vqq94, Hqq94, vcq94, Hcq94, rfl, gqq94, gcq94, k_w93⟩
         have m93 : Mem w93 RM13 (Hqq94 ++ (Hcq94 ++ (Hs91 ++ ([(b13_3, .cells (Zl (sE (List.replicate 32 0) (List.replicate 32 0) (List.replicate 32 0) false false (List.replicate 32 0) (List.replicate 32 0) 0 0 0 (Value.slice none 0 0))) 26 (0, 0))] ++ (Hs85 ++ ([])))))) := (by
          have hT := Mem.new (H := Hs91 ++ ([(b13_3, .cells (Zl (sE (List.replicate 32 0) (List.replicate 32 0) (List.replicate 32 0) false false (List.replicate 32 0) (List.replicate 32 0) 0 0 0 (Value.slice none 0 0))) 26 (0, 0))] ++ (Hs85 ++ ([])))) (H' := _) m92 k_w93
          try simp only [List.append_assoc, List.cons_append, List.nil_append, List.append_nil] at hT ⊢
          exact hT)
         refine ⟨⟨_, m93⟩, ?_⟩
         refine Xu rfl rfl (fun w _H _hx => Qb rfl) <| Xu (v := (Value.agg (Zl (sS (Gf S) (if Ja S = 0 then vqq94 else vk))))) rfl rfl (fun w _H _hx => Zo rfl rfl) <| Xu (v := vcq94) rfl rfl (fun w _H _hx => Zo rfl rfl) <| Xu (v := (i64 (Ja S))) rfl rfl (fun w _H _hx => Zo rfl rfl) ?_
         refine Bh rfl (fun w95 e95 => ?_)
         have m95 := m93.ext e95
         refine Yz.mono (Ky Y8 rfl rfl ((Mem.pick3 Hqq94 Hcq94 Hs91 [_] _ m95)).h0 (Gv (RdK.one (RdK.ite (fun h => RdK.cast (gqq94.rd m95) (Ur h)) (fun h => RdK.cast (RdK.ofRest hr20 m95) (Us h)))))) ?_
         rintro _ w96 uq96
         have m96 : Mem _ _ ([_] ++ (Hqq94 ++ (Hcq94 ++ (Hs91 ++ (Hs85 ++ ([])))))) := Mem.upd0 (Mem.pick3 Hqq94 Hcq94 Hs91 [_] _ m95) uq96
         refine ⟨⟨_, m96⟩, ?_⟩
         refine Xu rfl rfl (fun w _H _hx => Qc (v := vcq94) rfl) ?_
         refine Xd (fun w97 e97 => ?_)
         have m97 := m96.ext e97
         have hX98 := m97
         rw [hRM13] at hX98
         have m99 : Mem w97 (Qy w0) ([(b13_3, .cells (Zl (sS (Gf S) (if Ja S = 0 then vqq94 else vk))) 26 (0, 0))] ++ (Hqq94 ++ (Hcq94 ++ (Hs91 ++ (Hs85 ++ ([(b11, .cells (cl u8 ot) 23 (0, 0)), (b10, .cells (cl u8 ow) 23 (0, 0)), (b9, .cells (cl u8 ro) 23 (0, 0)), (b6, .cells (Zl (sS S vk)) 26 (0, 0))])))))) := (by
          have hT := Mem.back hFM13 hX98
          try simp only [List.append_assoc, List.cons_append, List.nil_append, List.append_nil] at hT ⊢
          exact hT)
         refine Qa rfl (Qc (v := (i64 (Ja S))) rfl) <| rN ?_
         have m100 := Mem.drop Hs91 _ (Mem.pick3 [_] Hqq94 Hcq94 Hs91 _ m99)
         have m101 := Mem.drop Hs85 _ (Mem.pick3 [_] Hqq94 Hcq94 Hs85 _ m100)
         exact ⟨b13_3, vqq94, Hqq94, vcq94, Hcq94, gqq94, gcq94, rfl, rfl, rfl, rfl, rfl, rfl, rfl, rfl, rfl, rfl, rfl, rfl, rfl, rfl, rfl, rfl, (by
          have hT := m101
          try simp only [List.append_assoc, List.cons_append, List.nil_append, List.append_nil] at hT ⊢
          exact hT)⟩
       ·
        refine Ju M130 [(0, false), (2, false), (5, false), (1, true), (12, true), (3, true), (4, true), (6, true), (7, true), (8, false), (9, false), (10, false), (11, false), (13, true), (14, false)] 15 rfl (by kernel_rfl) <| Xu rfl rfl (fun w _H _hx => Jr Yu Y8 rfl (_hx.rest _ _ ho19)) <| Xu rfl rfl (fun w _H _hx => Qb (v := vb) rfl) <| Xu rfl rfl (fun w _H _hx => Qb (v := vp) rfl) ?_
        refine Y5 rfl rfl (fun w102 e102 => ?_)
        have m102 := M130.ext e102
        refine Yz.mono (Ql u8 [] Qu m102 Zi X6 rfl (by simp [Jo]) rfl) ?_
        rintro _ w103 ⟨b33_4, rfl, e103, m103⟩
        refine ⟨⟨_, m103⟩, ?_⟩
        refine Y5 rfl rfl (fun w104 e104 => ?_)
        have m104 := m103.ext e104
        refine Yz.mono (Yj m104 Y8) ?_
        rintro _ w105 ⟨b13_4, rfl, e105, m105⟩
        refine ⟨⟨_, m105⟩, ?_⟩
        refine Y5 rfl rfl (fun w106 e106 => ?_)
        have m106 := m105.ext e106
        refine Yz.mono (Zk (f := u8) (Hs := [(b33_4, .cells (cl u8 ([])) 5 (0, 0))]) (H := [_]) (Mem.pick [_] [_] _ m106) (Zv.of u8 5 b33_4 ([])) rfl rfl (Rd.ofRest hr14 m106) Zi Zi X6 rfl Qu sL sL) ?_
        rintro sv107 w107 ⟨Hs107, m107, g107⟩
        replace g107 : Zv u8 5 sv107 lb Hs107 := g107
        refine ⟨⟨_, m107⟩, ?_⟩
        refine Y5 rfl rfl (fun w108 e108 => ?_)
        have m108 := m107.ext e108
        refine Yz.mono (Ql u8 [] Qu m108 Zi X6 rfl (by simp [Jo]) rfl) ?_
        rintro _ w109 ⟨b36_4, rfl, e109, m109⟩
        refine ⟨⟨_, m109⟩, ?_⟩
        refine Y5 rfl rfl (fun w110 e110 => ?_)
        have m110 := m109.ext e110
        refine Yz.mono (Zk (f := u8) (Hs := [(b36_4, .cells (cl u8 ([])) 5 (0, 0))]) (H := Hs107 ++ ([_])) m110 (Zv.of u8 5 b36_4 ([])) rfl rfl (Rd.ofRest hr15 m110) Zi Zi X6 rfl Qu sL sL) ?_
        rintro sv111 w111 ⟨Hs111, m111, g111⟩
        replace g111 : Zv u8 5 sv111 lp Hs111 := g111
        refine ⟨⟨_, m111⟩, ?_⟩
        refine Y5 rfl rfl (fun w112 e112 => ?_)
        have m112 := m111.ext e112
        refine Yz.mono (Ry (Vx rfl rfl rfl) (U7 S vk sv107 lb sv111 lp _ (hT21.mono fun b o e => (m112).rest b o e) (RdK.ofRest hr20 m112) sL (g107.rd (Mem.pick Hs111 Hs107 _ m112)) sL (g111.rd m112) sL sL sL)) ?_
        rintro _ w113 ⟨vqq114, Hqq114, vcq114, Hcq114, rfl, gqq114, gcq114, k_w113⟩
        have m113 : Mem w113 RM13 (Hqq114 ++ (Hcq114 ++ (Hs111 ++ (Hs107 ++ ([(b13_4, .cells (Zl (sE (List.replicate 32 0) (List.replicate 32 0) (List.replicate 32 0) false false (List.replicate 32 0) (List.replicate 32 0) 0 0 0 (Value.slice none 0 0))) 26 (0, 0))]))))) := (by
         have hT := Mem.new (H := Hs111 ++ (Hs107 ++ ([(b13_4, .cells (Zl (sE (List.replicate 32 0) (List.replicate 32 0) (List.replicate 32 0) false false (List.replicate 32 0) (List.replicate 32 0) 0 0 0 (Value.slice none 0 0))) 26 (0, 0))]))) (H' := _) m112 k_w113
         try simp only [List.append_assoc, List.cons_append, List.nil_append, List.append_nil] at hT ⊢
         exact hT)
        refine ⟨⟨_, m113⟩, ?_⟩
        refine Xu rfl rfl (fun w _H _hx => Qb rfl) <| Xu (v := (Value.agg (Zl (sS (Gf S) (if Ja S = 0 then vqq114 else vk))))) rfl rfl (fun w _H _hx => Zo rfl rfl) <| Xu (v := vcq114) rfl rfl (fun w _H _hx => Zo rfl rfl) <| Xu (v := (i64 (Ja S))) rfl rfl (fun w _H _hx => Zo rfl rfl) ?_
        refine Bh rfl (fun w115 e115 => ?_)
        have m115 := m113.ext e115
        refine Yz.mono (Ky Y8 rfl rfl ((Mem.pick4 Hqq114 Hcq114 Hs111 Hs107 [_] _ m115)).h0 (Gv (RdK.one (RdK.ite (fun h => RdK.cast (gqq114.rd m115) (Ur h)) (fun h => RdK.cast (RdK.ofRest hr20 m115) (Us h)))))) ?_
        rintro _ w116 uq116
        have m116 : Mem _ _ ([_] ++ (Hqq114 ++ (Hcq114 ++ (Hs111 ++ (Hs107 ++ ([])))))) := Mem.upd0 (Mem.pick4 Hqq114 Hcq114 Hs111 Hs107 [_] _ m115) uq116
        refine ⟨⟨_, m116⟩, ?_⟩
        refine Xu rfl rfl (fun w _H _hx => Qc (v := vcq114) rfl) ?_
        refine Xd (fun w117 e117 => ?_)
        have m117 := m116.ext e117
        have hX118 := m117
        rw [hRM13] at hX118
        have m119 : Mem w117 (Qy w0) ([(b13_4, .cells (Zl (sS (Gf S) (if Ja S = 0 then vqq114 else vk))) 26 (0, 0))] ++ (Hqq114 ++ (Hcq114 ++ (Hs111 ++ (Hs107 ++ ([(b11, .cells (cl u8 ot) 23 (0, 0)), (b10, .cells (cl u8 ow) 23 (0, 0)), (b9, .cells (cl u8 ro) 23 (0, 0)), (b6, .cells (Zl (sS S vk)) 26 (0, 0))])))))) := (by
         have hT := Mem.back hFM13 hX118
         try simp only [List.append_assoc, List.cons_append, List.nil_append, List.append_nil] at hT ⊢
         exact hT)
        refine Qa rfl (Qc (v := (i64 (Ja S))) rfl) <| rN ?_
        have m120 := Mem.drop Hs111 _ (Mem.pick3 [_] Hqq114 Hcq114 Hs111 _ m119)
        have m121 := Mem.drop Hs107 _ (Mem.pick3 [_] Hqq114 Hcq114 Hs107 _ m120)
        exact ⟨b13_4, vqq114, Hqq114, vcq114, Hcq114, gqq114, gcq114, rfl, rfl, rfl, rfl, rfl, rfl, rfl, rfl, rfl, rfl, rfl, rfl, rfl, rfl, rfl, rfl, (by
         have hT := m121
         try simp only [List.append_assoc, List.cons_append, List.nil_append, List.append_nil] at hT ⊢
         exact hT)⟩
      ·
       refine Ju M130 [(0, false), (2, false), (5, false), (12, true), (1, true), (3, true), (4, true), (6, true), (7, true), (8, false), (9, false), (10, false), (11, false), (13, true), (14, false)] 15 rfl (by kernel_rfl) <| Xu rfl rfl (fun w _H _hx => Jr Yu Y8 rfl (_hx.rest _ _ ho19)) <| Xu rfl rfl (fun w _H _hx => Qb (v := vb) rfl) <| Xu rfl rfl (fun w _H _hx => Qb (v := vp) rfl) ?_
       refine Y5 rfl rfl (fun w122 e122 => ?_)
       have m122 := M130.ext e122
       refine Yz.mono (Yj m122 Y8) ?_
       rintro _ w123 ⟨b13_5, rfl, e123, m123⟩
       refine ⟨⟨_, m123⟩, ?_⟩
       refine Y5 rfl rfl (fun w124 e124 => ?_)
       have m124 := m123.ext e124
       refine Yz.mono (Ql u8 [] Qu m124 Zi X6 rfl (by simp [Jo]) rfl) ?_
       rintro _ w125 ⟨b33_5, rfl, e125, m125⟩
       refine ⟨⟨_, m125⟩, ?_⟩
       refine Y5 rfl rfl (fun w126 e126 => ?_)
       have m126 := m125.ext e126
       refine Yz.mono (Zk (f := u8) (Hs := [(b33_5, .cells (cl u8 ([])) 5 (0, 0))]) (H := [_]) m126 (Zv.of u8 5 b33_5 ([])) rfl rfl (Rd.ofRest hr14 m126) Zi Zi X6 rfl Qu sL sL) ?_
       rintro sv127 w127 ⟨Hs127, m127, g127⟩
       replace g127 : Zv u8 5 sv127 lb Hs127 := g127
       refine ⟨⟨_, m127⟩, ?_⟩
       refine Y5 rfl rfl (fun w128 e128 => ?_)
       have m128 := m127.ext e128
       refine Yz.mono (Ql u8 [] Qu m128 Zi X6 rfl (by simp [Jo]) rfl) ?_
       rintro _ w129 ⟨b36_5, rfl, e129, m129⟩
       refine ⟨⟨_, m129⟩, ?_⟩
       refine Y5 rfl rfl (fun w130 e130 => ?_)
       have m130 := m129.ext e130
       refine Yz.mono (Zk (f := u8) (Hs := [(b36_5, .cells (cl u8 ([])) 5 (0, 0))]) (H := Hs127 ++ ([_])) m130 (Zv.of u8 5 b36_5 ([])) rfl rfl (Rd.ofRest hr15 m130) Zi Zi X6 rfl Qu sL sL) ?_
       rintro sv131 w131 ⟨Hs131, m131, g131⟩
       replace g131 : Zv u8 5 sv131 lp Hs131 := g131
       refine ⟨⟨_, m131⟩, ?_⟩
       refine Y5 rfl rfl (fun w132 e132 => ?_)
       have m132 := m131.ext e132
       refine Yz.mono (Ry (Vx rfl rfl rfl) (U7 S vk sv127 lb sv131 lp _ (hT21.mono fun b o e => (m132).rest b o e) (RdK.ofRest hr20 m132) sL (g127.rd (Mem.pick Hs131 Hs127 _ m132)) sL (g131.rd m132) sL sL sL)) ?_
       rintro _ w133 ⟨vqq134, Hqq134, vcq134, Hcq134, rfl, gqq134, gcq134, k_w133⟩
       have m133 : Mem w133 RM13 (Hqq134 ++ (Hcq134 ++ (Hs131 ++ (Hs127 ++ ([(b13_5, .cells (Zl (sE (List.replicate 32 0) (List.replicate 32 0) (List.replicate 32 0) false false (List.replicate 32 0) (List.replicate 32 0) 0 0 0 (Value.slice none 0 0))) 26 (0, 0))]))))) := (by
        have hT := Mem.new (H := Hs131 ++ (Hs127 ++ ([(b13_5, .cells (Zl (sE (List.replicate 32 0) (List.replicate 32 0) (List.replicate 32 0) false false (List.replicate 32 0) (List.replicate 32 0) 0 0 0 (Value.slice none 0 0))) 26 (0, 0))]))) (H' := _) m132 k_w133
        try simp only [List.append_assoc, List.cons_append, List.nil_append, List.append_nil] at hT ⊢
        exact hT)
       refine ⟨⟨_, m133⟩, ?_⟩
       refine Xu rfl rfl (fun w _H _hx => Qb rfl) <| Xu (v := (Value.agg (Zl (sS (Gf S) (if Ja S = 0 then vqq134 else vk))))) rfl rfl (fun w _H _hx => Zo rfl rfl) <| Xu (v := vcq134) rfl rfl (fun w _H _hx => Zo rfl rfl) <| Xu (v := (i64 (Ja S))) rfl rfl (fun w _H _hx => Zo rfl rfl) ?_
       refine Bh rfl (fun w135 e135 => ?_)
       have m135 := m133.ext e135
       refine Yz.mono (Ky Y8 rfl rfl ((Mem.pick4 Hqq134 Hcq134 Hs131 Hs127 [_] _ m135)).h0 (Gv (RdK.one (RdK.ite (fun h => RdK.cast (gqq134.rd m135) (Ur h)) (fun h => RdK.cast (RdK.ofRest hr20 m135) (Us h)))))) ?_
       rintro _ w136 uq136
       have m136 : Mem _ _ ([_] ++ (Hqq134 ++ (Hcq134 ++ (Hs131 ++ (Hs127 ++ ([])))))) := Mem.upd0 (Mem.pick4 Hqq134 Hcq134 Hs131 Hs127 [_] _ m135) uq136
       refine ⟨⟨_, m136⟩, ?_⟩
       refine Xu rfl rfl (fun w _H _hx => Qc (v := vcq134) rfl) ?_
       refine Xd (fun w137 e137 => ?_)
       have m137 := m136.ext e137
       have hX138 := m137
       rw [hRM13] at hX138
       have m139 : Mem w137 (Qy w0) ([(b13_5, .cells (Zl (sS (Gf S) (if Ja S = 0 then vqq134 else vk))) 26 (0, 0))] ++ (Hqq134 ++ (Hcq134 ++ (Hs131 ++ (Hs127 ++ ([(b11, .cells (cl u8 ot) 23 (0, 0)), (b10, .cells (cl u8 ow) 23 (0, 0)), (b9, .cells (cl u8 ro) 23 (0, 0)), (b6, .cells (Zl (sS S vk)) 26 (0, 0))])))))) := (by
        have hT := Mem.back hFM13 hX138
        try simp only [List.append_assoc, List.cons_append, List.nil_append, List.append_nil] at hT ⊢
        exact hT)
       refine Qa rfl (Qc (v := (i64 (Ja S))) rfl) <| rN ?_
       have m140 := Mem.drop Hs131 _ (Mem.pick3 [_] Hqq134 Hcq134 Hs131 _ m139)
       have m141 := Mem.drop Hs127 _ (Mem.pick3 [_] Hqq134 Hcq134 Hs127 _ m140)
       exact ⟨b13_5, vqq134, Hqq134, vcq134, Hcq134, gqq134, gcq134, rfl, rfl, rfl, rfl, rfl, rfl, rfl, rfl, rfl, rfl, rfl, rfl, rfl, rfl, rfl, rfl, (by
        have hT := m141
        try simp only [List.append_assoc, List.cons_append, List.nil_append, List.append_nil] at hT ⊢
        exact hT)⟩
     ·
      refine Di 1 12 rfl rfl ?_ ?_
      ·
       refine Di 3 12 rfl rfl ?_ ?_
       ·
        refine Di 6 12 rfl rfl ?_ ?_
        ·
         refine Di 7 12 rfl rfl ?_ ?_
         ·
          refine Ju M130 [(0, false), (2, false), (5, false), (1, true), (4, true), (3, true), (6, true), (7, true), (8, false), (9, false), (10, false), (11, false), (12, true), (13, true), (14, false)] 15 rfl (by kernel_rfl) <| Xu rfl rfl (fun w _H _hx => Jr Yu Y8 rfl (_hx.rest _ _ ho19)) <| Xu rfl rfl (fun w _H _hx => Qb (v := vb) rfl) <| Xu rfl rfl (fun w _H _hx => Qb (v := vp) rfl) ?_
          refine Y5 rfl rfl (fun w142 e142 => ?_)
          have m142 := M130.ext e142
          refine Yz.mono (Ql u8 [] Qu m142 Zi X6 rfl (by simp [Jo]) rfl) ?_
          rintro _ w143 ⟨b33_6, rfl, e143, m143⟩
          refine ⟨⟨_, m143⟩, ?_⟩
          refine Y5 rfl rfl (fun w144 e144 => ?_)
          have m144 := m143.ext e144
          refine Yz.mono (Ql u8 [] Qu m144 Zi X6 rfl (by simp [Jo]) rfl) ?_
          rintro _ w145 ⟨b36_6, rfl, e145, m145⟩
          refine ⟨⟨_, m145⟩, ?_⟩
          refine Y5 rfl rfl (fun w146 e146 => ?_)
          have m146 := m145.ext e146
          refine Yz.mono (Zk (f := u8) (Hs := [(b33_6, .cells (cl u8 ([])) 5 (0, 0))]) (H := [_]) (Mem.pick [_] [_] _ m146) (Zv.of u8 5 b33_6 ([])) rfl rfl (Rd.ofRest hr14 m146) Zi Zi X6 rfl Qu sL sL) ?_
          rintro sv147 w147 ⟨Hs147, m147, g147⟩
          replace g147 : Zv u8 5 sv147 lb Hs147 := g147
          refine ⟨⟨_, m147⟩, ?_⟩
          refine Y5 rfl rfl (fun w148 e148 => ?_)
          have m148 := m147.ext e148
          refine Yz.mono (Zk (f := u8) (Hs := [(b36_6, .cells (cl u8 ([])) 5 (0, 0))]) (H := Hs147 ++ ([])) (Mem.pick Hs147 [_] _ m148) (Zv.of u8 5 b36_6 ([])) rfl rfl (Rd.ofRest hr15 m148) Zi Zi X6 rfl Qu sL sL) ?_
          rintro sv149 w149 ⟨Hs149, m149, g149⟩
          replace g149 : Zv u8 5 sv149 lp Hs149 := g149
          refine ⟨⟨_, m149⟩, ?_⟩
          refine Y5 rfl rfl (fun w150 e150 => ?_)
          have m150 := m149.ext e150
          refine Yz.mono (Ry (Vx rfl rfl rfl) (U7 S vk sv147 lb sv149 lp _ (hT21.mono fun b o e => (m150).rest b o e) (RdK.ofRest hr20 m150) sL (g147.rd (Mem.pick Hs149 Hs147 _ m150)) sL (g149.rd m150) sL sL sL)) ?_
          rintro _ w151 ⟨vqq152, Hqq152, vcq152, Hcq152, rfl, gqq152, gcq152, k_w151⟩
          have m151 : Mem w151 RM13 (Hqq152 ++ (Hcq152 ++ (Hs149 ++ (Hs147 ++ ([]))))) := (by
           have hT := Mem.new (H := Hs149 ++ (Hs147 ++ ([]))) (H' := _) m150 k_w151
           try simp only [List.append_assoc, List.cons_append, List.nil_append, List.append_nil] at hT ⊢
           exact hT)
          refine ⟨⟨_, m151⟩, ?_⟩
          refine Xu rfl rfl (fun w _H _hx => Qb rfl) <| Xu (v := (Value.agg (Zl (sS (Gf S) (if Ja S = 0 then vqq152 else vk))))) rfl rfl (fun w _H _hx => Zo rfl rfl) <| Xu (v := vcq152) rfl rfl (fun w _H _hx => Zo rfl rfl) <| Xu (v := (i64 (Ja S))) rfl rfl (fun w _H _hx => Zo rfl rfl) ?_
          refine Y5 rfl rfl (fun w153 e153 => ?_)
          have m153 := m151.ext e153
          refine Yz.mono (Yj m153 Y8) ?_
          rintro _ w154 ⟨b13_6, rfl, e154, m154⟩
          refine ⟨⟨_, m154⟩, ?_⟩
          refine Bh rfl (fun w155 e155 => ?_)
          have m155 := m154.ext e155
          refine Yz.mono (Ky Y8 rfl rfl m155.h0 (Gv (RdK.one (RdK.ite (fun h => RdK.cast (gqq152.rd (Mem.pick [_] Hqq152 _ m155)) (Ur h)) (fun h => RdK.cast (RdK.ofRest hr20 m155) (Us h)))))) ?_
          rintro _ w156 uq156
          have m156 := m155.upd0 uq156
          refine ⟨⟨_, m156⟩, ?_⟩
          refine Xu rfl rfl (fun w _H _hx => Qc (v := vcq152) rfl) ?_
          refine Xd (fun w157 e157 => ?_)
          have m157 := m156.ext e157
          have hX158 := m157
          rw [hRM13] at hX158
          have m159 : Mem w157 (Qy w0) ([(b13_6, .cells (Zl (sS (Gf S) (if Ja S = 0 then vqq152 else vk))) 26 (0, 0))] ++ (Hqq152 ++ (Hcq152 ++ (Hs149 ++ (Hs147 ++ ([(b11, .cells (cl u8 ot) 23 (0, 0)), (b10, .cells (cl u8 ow) 23 (0, 0)), (b9, .cells (cl u8 ro) 23 (0, 0)), (b6, .cells (Zl (sS S vk)) 26 (0, 0))])))))) := (by
           have hT := Mem.back hFM13 hX158
           try simp only [List.append_assoc, List.cons_append, List.nil_append, List.append_nil] at hT ⊢
           exact hT)
          refine Qa rfl (Qc (v := (i64 (Ja S))) rfl) <| rN ?_
          have m160 := Mem.drop Hs149 _ (Mem.pick3 [_] Hqq152 Hcq152 Hs149 _ m159)
          have m161 := Mem.drop Hs147 _ (Mem.pick3 [_] Hqq152 Hcq152 Hs147 _ m160)
          exact ⟨b13_6, vqq152, Hqq152, vcq152, Hcq152, gqq152, gcq152, rfl, rfl, rfl, rfl, rfl, rfl, rfl, rfl, rfl, rfl, rfl, rfl, rfl, rfl, rfl, rfl, (by
           have hT := m161
           try simp only [List.append_assoc, List.cons_append, List.nil_append, List.append_nil] at hT ⊢
           exact hT)⟩
         ·
          refine Ju M130 [(0, false), (2, false), (5, false), (1, true), (4, true), (3, true), (6, true), (12, true), (7, true), (8, false), (9, false), (10, false), (11, false), (13, true), (14, false)] 15 rfl (by kernel_rfl) <| Xu rfl rfl (fun w _H _hx => Jr Yu Y8 rfl (_hx.rest _ _ ho19)) <| Xu rfl rfl (fun w _H _hx => Qb (v := vb) rfl) <| Xu rfl rfl (fun w _H _hx => Qb (v := vp) rfl) ?_
          refine Y5 rfl rfl (fun w162 e162 => ?_)
          have m162 := M130.ext e162
          refine Yz.mono (Ql u8 [] Qu m162 Zi X6 rfl (by simp [Jo]) rfl) ?_
          rintro _ w163 ⟨b33_7, rfl, e163, m163⟩
          refine ⟨⟨_, m163⟩, ?_⟩
          refine Y5 rfl rfl (fun w164 e164 => ?_)
          have m164 := m163.ext e164
          refine Yz.mono (Ql u8 [] Qu m164 Zi X6 rfl (by simp [Jo]) rfl) ?_
          rintro _ w165 ⟨b36_7, rfl, e165, m165⟩
          refine ⟨⟨_, m165⟩, ?_⟩
          refine Y5 rfl rfl (fun w166 e166 => ?_)
          have m166 := m165.ext e166
          refine Yz.mono (Zk (f := u8) (Hs := [(b33_7, .cells (cl u8 ([])) 5 (0, 0))]) (H := [_]) (Mem.pick [_] [_] _ m166) (Zv.of u8 5 b33_7 ([])) rfl rfl (Rd.ofRest hr14 m166) Zi Zi X6 rfl Qu sL sL) ?_
          rintro sv167 w167 ⟨Hs167, m167, g167⟩
          replace g167 : Zv u8 5 sv167 lb Hs167 := g167
          refine ⟨⟨_, m167⟩, ?_⟩
          refine Y5 rfl rfl (fun w168 e168 => ?_)
          have m168 := m167.ext e168
          refine Yz.mono (Zk (f := u8) (Hs := [(b36_7, .cells (cl u8 ([])) 5 (0, 0))]) (H := Hs167 ++ ([])) (Mem.pick Hs167 [_] _ m168) (Zv.of u8 5 b36_7 ([])) rfl rfl (Rd.ofRest hr15 m168) Zi Zi X6 rfl Qu sL sL) ?_
          rintro sv169 w169 ⟨Hs169, m169, g169⟩
          replace g169 : Zv u8 5 sv169 lp Hs169 := g169
          refine ⟨⟨_, m169⟩, ?_⟩
          refine Y5 rfl rfl (fun w170 e170 => ?_)
          have m170 := m169.ext e170
          refine Yz.mono (Yj m170 Y8) ?_
          rintro _ w171 ⟨b13_7, rfl, e171, m171⟩
          refine ⟨⟨_, m171⟩, ?_⟩
          refine Y5 rfl rfl (fun w172 e172 => ?_)
          have m172 := m171.ext e172
          refine Yz.mono (Ry (Vx rfl rfl rfl) (U7 S vk sv167 lb sv169 lp _ (hT21.mono fun b o e => (m172).rest b o e) (RdK.ofRest hr20 m172) sL (g167.rd (Mem.pick2 [_] Hs169 Hs167 _ m172)) sL (g169.rd (Mem.pick [_] Hs169 _ m172)) sL sL sL)) ?_
          rintro _ w173 ⟨vqq174, Hqq174, vcq174, Hcq174, rfl, gqq174, gcq174, k_w173⟩
          have m173 : Mem w173 RM13 (Hqq174 ++ (Hcq174 ++ ([(b13_7, .cells (Zl (sE (List.replicate 32 0) (List.replicate 32 0) (List.replicate 32 0) false false (List.replicate 32 0) (List.replicate 32 0) 0 0 0 (Value.slice none 0 0))) 26 (0, 0))] ++ (Hs169 ++ (Hs167 ++ ([])))))) := (by
           have hT := Mem.new (H := [(b13_7, .cells (Zl (sE (List.replicate 32 0) (List.replicate 32 0) (List.replicate 32 0) false false (List.replicate 32 0) (List.replicate 32 0) 0 0 0 (Value.slice none 0 0))) 26 (0, 0))] ++ (Hs169 ++ (Hs167 ++ ([])))) (H' := _) m172 k_w173
           try simp only [List.append_assoc, List.cons_append, List.nil_append, List.append_nil] at hT ⊢
           exact hT)
          refine ⟨⟨_, m173⟩, ?_⟩
          refine Xu rfl rfl (fun w _H _hx => Qb rfl) <| Xu (v := (Value.agg (Zl (sS (Gf S) (if Ja S = 0 then vqq174 else vk))))) rfl rfl (fun w _H _hx => Zo rfl rfl) <| Xu (v := vcq174) rfl rfl (fun w _H _hx => Zo rfl rfl) <| Xu (v := (i64 (Ja S))) rfl rfl (fun w _H _hx => Zo rfl rfl) ?_
          refine Bh rfl (fun w175 e175 => ?_)
          have m175 := m173.ext e175
          refine Yz.mono (Ky Y8 rfl rfl ((Mem.pick2 Hqq174 Hcq174 [_] _ m175)).h0 (Gv (RdK.one (RdK.ite (fun h => RdK.cast (gqq174.rd m175) (Ur h)) (fun h => RdK.cast (RdK.ofRest hr20 m175) (Us h)))))) ?_
          rintro _ w176 uq176
          have m176 : Mem _ _ ([_] ++ (Hqq174 ++ (Hcq174 ++ (Hs169 ++ (Hs167 ++ ([])))))) := Mem.upd0 (Mem.pick2 Hqq174 Hcq174 [_] _ m175) uq176
          refine ⟨⟨_, m176⟩, ?_⟩
          refine Xu rfl rfl (fun w _H _hx => Qc (v := vcq174) rfl) ?_
          refine Xd (fun w177 e177 => ?_)
          have m177 := m176.ext e177
          have hX178 := m177
          rw [hRM13] at hX178
          have m179 : Mem w177 (Qy w0) ([(b13_7, .cells (Zl (sS (Gf S) (if Ja S = 0 then vqq174 else vk))) 26 (0, 0))] ++ (Hqq174 ++ (Hcq174 ++ (Hs169 ++ (Hs167 ++ ([(b11, .cells (cl u8 ot) 23 (0, 0)), (b10, .cells (cl u8 ow) 23 (0, 0)), (b9, .cells (cl u8 ro) 23 (0, 0)), (b6, .cells (Zl (sS S vk)) 26 (0, 0))])))))) := (by
           have hT := Mem.back hFM13 hX178
           try simp only [List.append_assoc, List.cons_append, List.nil_append, List.append_nil] at hT ⊢
           exact hT)
          refine Qa rfl (Qc (v := (i64 (Ja S))) rfl) <| rN ?_
          have m180 := Mem.drop Hs169 _ (Mem.pick3 [_] Hqq174 Hcq174 Hs169 _ m179)
          have m181 := Mem.drop Hs167 _ (Mem.pick3 [_] Hqq174 Hcq174 Hs167 _ m180)
          exact ⟨b13_7, vqq174, Hqq174, vcq174, Hcq174, gqq174, gcq174, rfl, rfl, rfl, rfl, rfl, rfl, rfl, rfl, rfl, rfl, rfl, rfl, rfl, rfl, rfl, rfl, (by
           have hT := m181
           try simp only [List.append_assoc, List.cons_append, List.nil_append, List.append_nil] at hT ⊢
           exact hT)⟩
        ·
         refine Ju M130 [(0, false), (2, false), (5, false), (1, true), (4, true), (3, true), (12, true), (6, true), (7, true), (8, false), (9, false), (10, false), (11, false), (13, true), (14, false)] 15 rfl (by kernel_rfl) <| Xu rfl rfl (fun w _H _hx => Jr Yu Y8 rfl (_hx.rest _ _ ho19)) <| Xu rfl rfl (fun w _H _hx => Qb (v := vb) rfl) <| Xu rfl rfl (fun w _H _hx => Qb (v := vp) rfl) ?_
         refine Y5 rfl rfl (fun w182 e182 => ?_)
         have m182 := M130.ext e182
         refine Yz.mono (Ql u8 [] Qu m182 Zi X6 rfl (by simp [Jo]) rfl) ?_
         rintro _ w183 ⟨b33_8, rfl, e183, m183⟩
         refine ⟨⟨_, m183⟩, ?_⟩
         refine Y5 rfl rfl (fun w184 e184 => ?_)
         have m184 := m183.ext e184
         refine Yz.mono (Ql u8 [] Qu m184 Zi X6 rfl (by simp [Jo]) rfl) ?_
         rintro _ w185 ⟨b36_8, rfl, e185, m185⟩
         refine ⟨⟨_, m185⟩, ?_⟩
         refine Y5 rfl rfl (fun w186 e186 => ?_)
         have m186 := m185.ext e186
         refine Yz.mono (Zk (f := u8) (Hs := [(b33_8, .cells (cl u8 ([])) 5 (0, 0))]) (H := [_]) (Mem.pick [_] [_] _ m186) (Zv.of u8 5 b33_8 ([])) rfl rfl (Rd.ofRest hr14 m186) Zi Zi X6 rfl Qu sL sL) ?_
         rintro sv187 w187 ⟨Hs187, m187, g187⟩
         replace g187 : Zv u8 5 sv187 lb Hs187 := g187
         refine ⟨⟨_, m187⟩, ?_⟩
         refine Y5 rfl rfl (fun w188 e188 => ?_)
         have m188 := m187.ext e188
         refine Yz.mono (Yj m188 Y8) ?_
         rintro _ w189 ⟨b13_8, rfl, e189, m189⟩
         refine ⟨⟨_, m189⟩, ?_⟩
         refine Y5 rfl rfl (fun w190 e190 => ?_)
         have m190 := m189.ext e190
         refine Yz.mono (Zk (f := u8) (Hs := [(b36_8, .cells (cl u8 ([])) 5 (0, 0))]) (H := [_] ++ (Hs187 ++ ([]))) (Mem.pick2 [_] Hs187 [_] _ m190) (Zv.of u8 5 b36_8 ([])) rfl rfl (Rd.ofRest hr15 m190) Zi Zi X6 rfl Qu sL sL) ?_
         rintro sv191 w191 ⟨Hs191, m191, g191⟩
         replace g191 : Zv u8 5 sv191 lp Hs191 := g191
         refine ⟨⟨_, m191⟩, ?_⟩
         refine Y5 rfl rfl (fun w192 e192 => ?_)
         have m192 := m191.ext e192
         refine Yz.mono (Ry (Vx rfl rfl rfl) (U7 S vk sv187 lb sv191 lp _ (hT21.mono fun b o e => (m192).rest b o e) (RdK.ofRest hr20 m192) sL (g187.rd (Mem.pick2 Hs191 [_] Hs187 _ m192)) sL (g191.rd m192) sL sL sL)) ?_
         rintro _ w193 ⟨vqq194, Hqq194, vcq194, Hcq194, rfl, gqq194, gcq194, k_w193⟩
         have m193 : Mem w193 RM13 (Hqq194 ++ (Hcq194 ++ (Hs191 ++ ([(b13_8, .cells (Zl (sE (List.replicate 32 0) (List.replicate 32 0) (List.replicate 32 0) false false (List.replicate 32 0) (List.replicate 32 0) 0 0 0 (Value.slice none 0 0))) 26 (0, 0))] ++ (Hs187 ++ ([])))))) := (by
          have hT := Mem.new (H := Hs191 ++ ([(b13_8, .cells (Zl (sE (List.replicate 32 0) (List.replicate 32 0) (List.replicate 32 0) false false (List.replicate 32 0) (List.replicate 32 0) 0 0 0 (Value.slice none 0 0))) 26 (0, 0))] ++ (Hs187 ++ ([])))) (H' := _) m192 k_w193
          try simp only [List.append_assoc, List.cons_append, List.nil_append, List.append_nil] at hT ⊢
          exact hT)
         refine ⟨⟨_, m193⟩, ?_⟩
         refine Xu rfl rfl (fun w _H _hx => Qb rfl) <| Xu (v := (Value.agg (Zl (sS (Gf S) (if Ja S = 0 then vqq194 else vk))))) rfl rfl (fun w _H _hx => Zo rfl rfl) <| Xu (v := vcq194) rfl rfl (fun w _H _hx => Zo rfl rfl) <| Xu (v := (i64 (Ja S))) rfl rfl (fun w _H _hx => Zo rfl rfl) ?_
         refine Bh rfl (fun w195 e195 => ?_)
         have m195 := m193.ext e195
         refine Yz.mono (Ky Y8 rfl rfl ((Mem.pick3 Hqq194 Hcq194 Hs191 [_] _ m195)).h0 (Gv (RdK.one (RdK.ite (fun h => RdK.cast (gqq194.rd m195) (Ur h)) (fun h => RdK.cast (RdK.ofRest hr20 m195) (Us h)))))) ?_
         rintro _ w196 uq196
         have m196 : Mem _ _ ([_] ++ (Hqq194 ++ (Hcq194 ++ (Hs191 ++ (Hs187 ++ ([])))))) := Mem.upd0 (Mem.pick3 Hqq194 Hcq194 Hs191 [_] _ m195) uq196
         refine ⟨⟨_, m196⟩, ?_⟩
         refine Xu rfl rfl (fun w _H _hx => Qc (v := vcq194) rfl) ?_
         refine Xd (fun w197 e197 => ?_)
         have m197 := m196.ext e197
         have hX198 := m197
         rw [hRM13] at hX198
         have m199 : Mem w197 (Qy w0) ([(b13_8, .cells (Zl (sS (Gf S) (if Ja S = 0 then vqq194 else vk))) 26 (0, 0))] ++ (Hqq194 ++ (Hcq194 ++ (Hs191 ++ (Hs187 ++ ([(b11, .cells (cl u8 ot) 23 (0, 0)), (b10, .cells (cl u8 ow) 23 (0, 0)), (b9, .cells (cl u8 ro) 23 (0, 0)), (b6, .cells (Zl (sS S vk)) 26 (0, 0))])))))) := (by
          have hT := Mem.back hFM13 hX198
          try simp only [List.append_assoc, List.cons_append, List.nil_append, List.append_nil] at hT ⊢
          exact hT)
         refine Qa rfl (Qc (v := (i64 (Ja S))) rfl) <| rN ?_
         have m200 := Mem.drop Hs191 _ (Mem.pick3 [_] Hqq194 Hcq194 Hs191 _ m199)
         have m201 := Mem.drop Hs187 _ (Mem.pick3 [_] Hqq194 Hcq194 Hs187 _ m200)
         exact ⟨b13_8, vqq194, Hqq194, vcq194, Hcq194, gqq194, gcq194, rfl, rfl, rfl, rfl, rfl, rfl, rfl, rfl, rfl, rfl, rfl, rfl, rfl, rfl, rfl, rfl, (by
          have hT := m201
          try simp only [List.append_assoc, List.cons_append, List.nil_append, List.append_nil] at hT ⊢
          exact hT)⟩
       ·
        refine Di 4 12 rfl rfl ?_ ?_
        ·
         refine Ju M130 [(0, false), (2, false), (5, false), (1, true), (4, true), (12, true), (3, true), (6, true), (7, true), (8, false), (9, false), (10, false), (11, false), (13, true), (14, false)] 15 rfl (by kernel_rfl) <| Xu rfl rfl (fun w _H _hx => Jr Yu Y8 rfl (_hx.rest _ _ ho19)) <| Xu rfl rfl (fun w _H _hx => Qb (v := vb) rfl) <| Xu rfl rfl (fun w _H _hx => Qb (v := vp) rfl) ?_
         refine Y5 rfl rfl (fun w202 e202 => ?_)
         have m202 := M130.ext e202
         refine Yz.mono (Ql u8 [] Qu m202 Zi X6 rfl (by simp [Jo]) rfl) ?_
         rintro _ w203 ⟨b33_9, rfl, e203, m203⟩
         refine ⟨⟨_, m203⟩, ?_⟩
         refine Y5 rfl rfl (fun w204 e204 => ?_)
         have m204 := m203.ext e204
         refine Yz.mono (Ql u8 [] Qu m204 Zi X6 rfl (by simp [Jo]) rfl) ?_
         rintro _ w205 ⟨b36_9, rfl, e205, m205⟩
         refine ⟨⟨_, m205⟩, ?_⟩
         refine Y5 rfl rfl (fun w206 e206 => ?_)
         have m206 := m205.ext e206
         refine Yz.mono (Yj m206 Y8) ?_
         rintro _ w207 ⟨b13_9, rfl, e207, m207⟩
         refine ⟨⟨_, m207⟩, ?_⟩
         refine Y5 rfl rfl (fun w208 e208 => ?_)
         have m208 := m207.ext e208
         refine Yz.mono (Zk (f := u8) (Hs := [(b33_9, .cells (cl u8 ([])) 5 (0, 0))]) (H := [_, _]) (Mem.pick [_, _] [_] _ m208) (Zv.of u8 5 b33_9 ([])) rfl rfl (Rd.ofRest hr14 m208) Zi Zi X6 rfl Qu sL sL) ?_
         rintro sv209 w209 ⟨Hs209, m209, g209⟩
         replace g209 : Zv u8 5 sv209 lb Hs209 := g209
         refine ⟨⟨_, m209⟩, ?_⟩
         refine Y5 rfl rfl (fun w210 e210 => ?_)
         have m210 := m209.ext e210
         refine Yz.mono (Zk (f := u8) (Hs := [(b36_9, .cells (cl u8 ([])) 5 (0, 0))]) (H := Hs209 ++ ([_])) (Mem.pick2 Hs209 [_] [_] _ m210) (Zv.of u8 5 b36_9 ([])) rfl rfl (Rd.ofRest hr15 m210) Zi Zi X6 rfl Qu sL sL) ?_
         rintro sv211 w211 ⟨Hs211, m211, g211⟩
         replace g211 : Zv u8 5 sv211 lp Hs211 := g211
         refine ⟨⟨_, m211⟩, ?_⟩
         refine Y5 rfl rfl (fun w212 e212 => ?_)
         have m212 := m211.ext e212
         refine Yz.mono (Ry (Vx rfl rfl rfl) (U7 S vk sv209 lb sv211 lp _ (hT21.mono fun b o e => (m212).rest b o e) (RdK.ofRest hr20 m212) sL (g209.rd (Mem.pick Hs211 Hs209 _ m212)) sL (g211.rd m212) sL sL sL)) ?_
         rintro _ w213 ⟨vqq214, Hqq214, vcq214, Hcq214, rfl, gqq214, gcq214, k_w213⟩
         have m213 : Mem w213 RM13 (Hqq214 ++ (Hcq214 ++ (Hs211 ++ (Hs209 ++ ([(b13_9, .cells (Zl (sE (List.replicate 32 0) (List.replicate 32 0) (List.replicate 32 0) false false (List.replicate 32 0) (List.replicate 32 0) 0 0 0 (Value.slice none 0 0))) 26 (0, 0))]))))) := (by
          have hT := Mem.new (H := Hs211 ++ (Hs209 ++ ([(b13_9, .cells (Zl (sE (List.replicate 32 0) (List.replicate 32 0) (List.replicate 32 0) false false (List.replicate 32 0) (List.replicate 32 0) 0 0 0 (Value.slice none 0 0))) 26 (0, 0))]))) (H' := _) m212 k_w213
          try simp only [List.append_assoc, List.cons_append, List.nil_append, List.append_nil] at hT ⊢
          exact hT)
         refine ⟨⟨_, m213⟩, ?_⟩
         refine Xu rfl rfl (fun w _H _hx => Qb rfl) <| Xu (v := (Value.agg (Zl (sS (Gf S) (if Ja S = 0 then vqq214 else vk))))) rfl rfl (fun w _H _hx => Zo rfl rfl) <| Xu (v := vcq214) rfl rfl (fun w _H _hx => Zo rfl rfl) <| Xu (v := (i64 (Ja S))) rfl rfl (fun w _H _hx => Zo rfl rfl) ?_
         refine Bh rfl (fun w215 e215 => ?_)
         have m215 := m213.ext e215
         refine Yz.mono (Ky Y8 rfl rfl ((Mem.pick4 Hqq214 Hcq214 Hs211 Hs209 [_] _ m215)).h0 (Gv (RdK.one (RdK.ite (fun h => RdK.cast (gqq214.rd m215) (Ur h)) (fun h => RdK.cast (RdK.ofRest hr20 m215) (Us h)))))) ?_
         rintro _ w216 uq216
         have m216 : Mem _ _ ([_] ++ (Hqq214 ++ (Hcq214 ++ (Hs211 ++ (Hs209 ++ ([])))))) := Mem.upd0 (Mem.pick4 Hqq214 Hcq214 Hs211 Hs209 [_] _ m215) uq216
         refine ⟨⟨_, m216⟩, ?_⟩
         refine Xu rfl rfl (fun w _H _hx => Qc (v := vcq214) rfl) ?_
         refine Xd (fun w217 e217 => ?_)
         have m217 := m216.ext e217
         have hX218 := m217
         rw [hRM13] at hX218
         have m219 : Mem w217 (Qy w0) ([(b13_9, .cells (Zl (sS (Gf S) (if Ja S = 0 then vqq214 else vk))) 26 (0, 0))] ++ (Hqq214 ++ (Hcq214 ++ (Hs211 ++ (Hs209 ++ ([(b11, .cells (cl u8 ot) 23 (0, 0)), (b10, .cells (cl u8 ow) 23 (0, 0)), (b9, .cells (cl u8 ro) 23 (0, 0)), (b6, .cells (Zl (sS S vk)) 26 (0, 0))])))))) := (by
          have hT := Mem.back hFM13 hX218
          try simp only [List.append_assoc, List.cons_append, List.nil_append, List.append_nil] at hT ⊢
          exact hT)
         refine Qa rfl (Qc (v := (i64 (Ja S))) rfl) <| rN ?_
         have m220 := Mem.drop Hs211 _ (Mem.pick3 [_] Hqq214 Hcq214 Hs211 _ m219)
         have m221 := Mem.drop Hs209 _ (Mem.pick3 [_] Hqq214 Hcq214 Hs209 _ m220)
         exact ⟨b13_9, vqq214, Hqq214, vcq214, Hcq214, gqq214, gcq214, rfl, rfl, rfl, rfl, rfl, rfl, rfl, rfl, rfl, rfl, rfl, rfl, rfl, rfl, rfl, rfl, (by
          have hT := m221
          try simp only [List.append_assoc, List.cons_append, List.nil_append, List.append_nil] at hT ⊢
          exact hT)⟩
        ·
         refine Ju M130 [(0, false), (2, false), (5, false), (1, true), (12, true), (4, true), (3, true), (6, true), (7, true), (8, false), (9, false), (10, false), (11, false), (13, true), (14, false)] 15 rfl (by kernel_rfl) <| Xu rfl rfl (fun w _H _hx => Jr Yu Y8 rfl (_hx.rest _ _ ho19)) <| Xu rfl rfl (fun w _H _hx => Qb (v := vb) rfl) <| Xu rfl rfl (fun w _H _hx => Qb (v := vp) rfl) ?_
         refine Y5 rfl rfl (fun w222 e222 => ?_)
         have m222 := M130.ext e222
         refine Yz.mono (Ql u8 [] Qu m222 Zi X6 rfl (by simp [Jo]) rfl) ?_
         rintro _ w223 ⟨b33_10, rfl, e223, m223⟩
         refine ⟨⟨_, m223⟩, ?_⟩
         refine Y5 rfl rfl (fun w224 e224 => ?_)
         have m224 := m223.ext e224
         refine Yz.mono (Yj m224 Y8) ?_
         rintro _ w225 ⟨b13_10, rfl, e225, m225⟩
         refine ⟨⟨_, m225⟩, ?_⟩
         refine Y5 rfl rfl (fun w226 e226 => ?_)
         have m226 := m225.ext e226
         refine Yz.mono (Ql u8 [] Qu m226 Zi X6 rfl (by simp [Jo]) rfl) ?_
         rintro _ w227 ⟨b36_10, rfl, e227, m227⟩
         refine ⟨⟨_, m227⟩, ?_⟩
         refine Y5 rfl rfl (fun w228 e228 => ?_)
         have m228 := m227.ext e228
         refine Yz.mono (Zk (f := u8) (Hs := [(b33_10, .cells (cl u8 ([])) 5 (0, 0))]) (H := [_, _]) (Mem.pick [_, _] [_] _ m228) (Zv.of u8 5 b33_10 ([])) rfl rfl (Rd.ofRest hr14 m228) Zi Zi X6 rfl Qu sL sL) ?_
         rintro sv229 w229 ⟨Hs229, m229, g229⟩
         replace g229 : Zv u8 5 sv229 lb Hs229 := g229
         refine ⟨⟨_, m229⟩, ?_⟩
         refine Y5 rfl rfl (fun w230 e230 => ?_)
         have m230 := m229.ext e230
         refine Yz.mono (Zk (f := u8) (Hs := [(b36_10, .cells (cl u8 ([])) 5 (0, 0))]) (H := Hs229 ++ ([_])) (Mem.pick Hs229 [_] _ m230) (Zv.of u8 5 b36_10 ([])) rfl rfl (Rd.ofRest hr15 m230) Zi Zi X6 rfl Qu sL sL) ?_
         rintro sv231 w231 ⟨Hs231, m231, g231⟩
         replace g231 : Zv u8 5 sv231 lp Hs231 := g231
         refine ⟨⟨_, m231⟩, ?_⟩
         refine Y5 rfl rfl (fun w232 e232 => ?_)
         have m232 := m231.ext e232
         refine Yz.mono (Ry (Vx rfl rfl rfl) (U7 S vk sv229 lb sv231 lp _ (hT21.mono fun b o e => (m232).rest b o e) (RdK.ofRest hr20 m232) sL (g229.rd (Mem.pick Hs231 Hs229 _ m232)) sL (g231.rd m232) sL sL sL)) ?_
         rintro _ w233 ⟨vqq234, Hqq234, vcq234, Hcq234, rfl, gqq234, gcq234, k_w233⟩
         have m233 : Mem w233 RM13 (Hqq234 ++ (Hcq234 ++ (Hs231 ++ (Hs229 ++ ([(b13_10, .cells (Zl (sE (List.replicate 32 0) (List.replicate 32 0) (List.replicate 32 0) false false (List.replicate 32 0) (List.replicate 32 0) 0 0 0 (Value.slice none 0 0))) 26 (0, 0))]))))) := (by
          have hT := Mem.new (H := Hs231 ++ (Hs229 ++ ([(b13_10, .cells (Zl (sE (List.replicate 32 0) (List.replicate 32 0) (List.replicate 32 0) false false (List.replicate 32 0) (List.replicate 32 0) 0 0 0 (Value.slice none 0 0))) 26 (0, 0))]))) (H' := _) m232 k_w233
          try simp only [List.append_assoc, List.cons_append, List.nil_append, List.append_nil] at hT ⊢
          exact hT)
         refine ⟨⟨_, m233⟩, ?_⟩
         refine Xu rfl rfl (fun w _H _hx => Qb rfl) <| Xu (v := (Value.agg (Zl (sS (Gf S) (if Ja S = 0 then vqq234 else vk))))) rfl rfl (fun w _H _hx => Zo rfl rfl) <| Xu (v := vcq234) rfl rfl (fun w _H _hx => Zo rfl rfl) <| Xu (v := (i64 (Ja S))) rfl rfl (fun w _H _hx => Zo rfl rfl) ?_
         refine Bh rfl (fun w235 e235 => ?_)
         have m235 := m233.ext e235
         refine Yz.mono (Ky Y8 rfl rfl ((Mem.pick4 Hqq234 Hcq234 Hs231 Hs229 [_] _ m235)).h0 (Gv (RdK.one (RdK.ite (fun h => RdK.cast (gqq234.rd m235) (Ur h)) (fun h => RdK.cast (RdK.ofRest hr20 m235) (Us h)))))) ?_
         rintro _ w236 uq236
         have m236 : Mem _ _ ([_] ++ (Hqq234 ++ (Hcq234 ++ (Hs231 ++ (Hs229 ++ ([])))))) := Mem.upd0 (Mem.pick4 Hqq234 Hcq234 Hs231 Hs229 [_] _ m235) uq236
         refine ⟨⟨_, m236⟩, ?_⟩
         refine Xu rfl rfl (fun w _H _hx => Qc (v := vcq234) rfl) ?_
         refine Xd (fun w237 e237 => ?_)
         have m237 := m236.ext e237
         have hX238 := m237
         rw [hRM13] at hX238
         have m239 : Mem w237 (Qy w0) ([(b13_10, .cells (Zl (sS (Gf S) (if Ja S = 0 then vqq234 else vk))) 26 (0, 0))] ++ (Hqq234 ++ (Hcq234 ++ (Hs231 ++ (Hs229 ++ ([(b11, .cells (cl u8 ot) 23 (0, 0)), (b10, .cells (cl u8 ow) 23 (0, 0)), (b9, .cells (cl u8 ro) 23 (0, 0)), (b6, .cells (Zl (sS S vk)) 26 (0, 0))])))))) := (by
          have hT := Mem.back hFM13 hX238
          try simp only [List.append_assoc, List.cons_append, List.nil_append, List.append_nil] at hT ⊢
          exact hT)
         refine Qa rfl (Qc (v := (i64 (Ja S))) rfl) <| rN ?_
         have m240 := Mem.drop Hs231 _ (Mem.pick3 [_] Hqq234 Hcq234 Hs231 _ m239)
         have m241 := Mem.drop Hs229 _ (Mem.pick3 [_] Hqq234 Hcq234 Hs229 _ m240)
         exact ⟨b13_10, vqq234, Hqq234, vcq234, Hcq234, gqq234, gcq234, rfl, rfl, rfl, rfl, rfl, rfl, rfl, rfl, rfl, rfl, rfl, rfl, rfl, rfl, rfl, rfl, (by
          have hT := m241
          try simp only [List.append_assoc, List.cons_append, List.nil_append, List.append_nil] at hT ⊢
          exact hT)⟩
      ·
       refine Ju M130 [(0, false), (2, false), (5, false), (12, true), (1, true), (4, true), (3, true), (6, true), (7, true), (8, false), (9, false), (10, false), (11, false), (13, true), (14, false)] 15 rfl (by kernel_rfl) <| Xu rfl rfl (fun w _H _hx => Jr Yu Y8 rfl (_hx.rest _ _ ho19)) <| Xu rfl rfl (fun w _H _hx => Qb (v := vb) rfl) <| Xu rfl rfl (fun w _H _hx => Qb (v := vp) rfl) ?_
       refine Y5 rfl rfl (fun w242 e242 => ?_)
       have m242 := M130.ext e242
       refine Yz.mono (Yj m242 Y8) ?_
       rintro _ w243 ⟨b13_11, rfl, e243, m243⟩
       refine ⟨⟨_, m243⟩, ?_⟩
       refine Y5 rfl rfl (fun w244 e244 => ?_)
       have m244 := m243.ext e244
       refine Yz.mono (Ql u8 [] Qu m244 Zi X6 rfl (by simp [Jo]) rfl) ?_
       rintro _ w245 ⟨b33_11, rfl, e245, m245⟩
       refine ⟨⟨_, m245⟩, ?_⟩
       refine Y5 rfl rfl (fun w246 e246 => ?_)
       have m246 := m245.ext e246
       refine Yz.mono (Ql u8 [] Qu m246 Zi X6 rfl (by simp [Jo]) rfl) ?_
       rintro _ w247 ⟨b36_11, rfl, e247, m247⟩
       refine ⟨⟨_, m247⟩, ?_⟩
       refine Y5 rfl rfl (fun w248 e248 => ?_)
       have m248 := m247.ext e248
       refine Yz.mono (Zk (f := u8) (Hs := [(b33_11, .cells (cl u8 ([])) 5 (0, 0))]) (H := [_, _]) (Mem.pick [_] [_] _ m248) (Zv.of u8 5 b33_11 ([])) rfl rfl (Rd.ofRest hr14 m248) Zi Zi X6 rfl Qu sL sL) ?_
       rintro sv249 w249 ⟨Hs249, m249, g249⟩
       replace g249 : Zv u8 5 sv249 lb Hs249 := g249
       refine ⟨⟨_, m249⟩, ?_⟩
       refine Y5 rfl rfl (fun w250 e250 => ?_)
       have m250 := m249.ext e250
       refine Yz.mono (Zk (f := u8) (Hs := [(b36_11, .cells (cl u8 ([])) 5 (0, 0))]) (H := Hs249 ++ ([_])) (Mem.pick Hs249 [_] _ m250) (Zv.of u8 5 b36_11 ([])) rfl rfl (Rd.ofRest hr15 m250) Zi Zi X6 rfl Qu sL sL) ?_
       rintro sv251 w251 ⟨Hs251, m251, g251⟩
       replace g251 : Zv u8 5 sv251 lp Hs251 := g251
       refine ⟨⟨_, m251⟩, ?_⟩
       refine Y5 rfl rfl (fun w252 e252 => ?_)
       have m252 := m251.ext e252
       refine Yz.mono (Ry (Vx rfl rfl rfl) (U7 S vk sv249 lb sv251 lp _ (hT21.mono fun b o e => (m252).rest b o e) (RdK.ofRest hr20 m252) sL (g249.rd (Mem.pick Hs251 Hs249 _ m252)) sL (g251.rd m252) sL sL sL)) ?_
       rintro _ w253 ⟨vqq254, Hqq254, vcq254, Hcq254, rfl, gqq254, gcq254, k_w253⟩
       have m253 : Mem w253 RM13 (Hqq254 ++ (Hcq254 ++ (Hs251 ++ (Hs249 ++ ([(b13_11, .cells (Zl (sE (List.replicate 32 0) (List.replicate 32 0) (List.replicate 32 0) false false (List.replicate 32 0) (List.replicate 32 0) 0 0 0 (Value.slice none 0 0))) 26 (0, 0))]))))) := (by
        have hT := Mem.new (H := Hs251 ++ (Hs249 ++ ([(b13_11, .cells (Zl (sE (List.replicate 32 0) (List.replicate 32 0) (List.replicate 32 0) false false (List.replicate 32 0) (List.replicate 32 0) 0 0 0 (Value.slice none 0 0))) 26 (0, 0))]))) (H' := _) m252 k_w253
        try simp only [List.append_assoc, List.cons_append, List.nil_append, List.append_nil] at hT ⊢
        exact hT)
       refine ⟨⟨_, m253⟩, ?_⟩
       refine Xu rfl rfl (fun w _H _hx => Qb rfl) <| Xu (v := (Value.agg (Zl (sS (Gf S) (if Ja S = 0 then vqq254 else vk))))) rfl rfl (fun w _H _hx => Zo rfl rfl) <| Xu (v := vcq254) rfl rfl (fun w _H _hx => Zo rfl rfl) <| Xu (v := (i64 (Ja S))) rfl rfl (fun w _H _hx => Zo rfl rfl) ?_
       refine Bh rfl (fun w255 e255 => ?_)
       have m255 := m253.ext e255
       refine Yz.mono (Ky Y8 rfl rfl ((Mem.pick4 Hqq254 Hcq254 Hs251 Hs249 [_] _ m255)).h0 (Gv (RdK.one (RdK.ite (fun h => RdK.cast (gqq254.rd m255) (Ur h)) (fun h => RdK.cast (RdK.ofRest hr20 m255) (Us h)))))) ?_
       rintro _ w256 uq256
       have m256 : Mem _ _ ([_] ++ (Hqq254 ++ (Hcq254 ++ (Hs251 ++ (Hs249 ++ ([])))))) := Mem.upd0 (Mem.pick4 Hqq254 Hcq254 Hs251 Hs249 [_] _ m255) uq256
       refine ⟨⟨_, m256⟩, ?_⟩
       refine Xu rfl rfl (fun w _H _hx => Qc (v := vcq254) rfl) ?_
       refine Xd (fun w257 e257 => ?_)
       have m257 := m256.ext e257
       have hX258 := m257
       rw [hRM13] at hX258
       have m259 : Mem w257 (Qy w0) ([(b13_11, .cells (Zl (sS (Gf S) (if Ja S = 0 then vqq254 else vk))) 26 (0, 0))] ++ (Hqq254 ++ (Hcq254 ++ (Hs251 ++ (Hs249 ++ ([(b11, .cells (cl u8 ot) 23 (0, 0)), (b10, .cells (cl u8 ow) 23 (0, 0)), (b9, .cells (cl u8 ro) 23 (0, 0)), (b6, .cells (Zl (sS S vk)) 26 (0, 0))])))))) := (by
        have hT := Mem.back hFM13 hX258
        try simp only [List.append_assoc, List.cons_append, List.nil_append, List.append_nil] at hT ⊢
        exact hT)
       refine Qa rfl (Qc (v := (i64 (Ja S))) rfl) <| rN ?_
       have m260 := Mem.drop Hs251 _ (Mem.pick3 [_] Hqq254 Hcq254 Hs251 _ m259)
       have m261 := Mem.drop Hs249 _ (Mem.pick3 [_] Hqq254 Hcq254 Hs249 _ m260)
       exact ⟨b13_11, vqq254, Hqq254, vcq254, Hcq254, gqq254, gcq254, rfl, rfl, rfl, rfl, rfl, rfl, rfl, rfl, rfl, rfl, rfl, rfl, rfl, rfl, rfl, rfl, (by
        have hT := m261
        try simp only [List.append_assoc, List.cons_append, List.nil_append, List.append_nil] at hT ⊢
        exact hT)⟩
    ·
     refine Di 1 12 rfl rfl ?_ ?_
     ·
      refine Di 3 12 rfl rfl ?_ ?_
      ·
       refine Di 6 12 rfl rfl ?_ ?_
       ·
        refine Di 7 12 rfl rfl ?_ ?_
        ·
         refine Ju M130 [(0, false), (2, false), (5, false), (4, true), (1, true), (3, true), (6, true), (7, true), (8, false), (9, false), (10, false), (11, false), (12, true), (13, true), (14, false)] 15 rfl (by kernel_rfl) <| Xu rfl rfl (fun w _H _hx => Jr Yu Y8 rfl (_hx.rest _ _ ho19)) <| Xu rfl rfl (fun w _H _hx => Qb (v := vb) rfl) <| Xu rfl rfl (fun w _H _hx => Qb (v := vp) rfl) ?_
         refine Y5 rfl rfl (fun w262 e262 => ?_)
         have m262 := M130.ext e262
         refine Yz.mono (Ql u8 [] Qu m262 Zi X6 rfl (by simp [Jo]) rfl) ?_
         rintro _ w263 ⟨b36_12, rfl, e263, m263⟩
         refine ⟨⟨_, m263⟩, ?_⟩
         refine Y5 rfl rfl (fun w264 e264 => ?_)
         have m264 := m263.ext e264
         refine Yz.mono (Ql u8 [] Qu m264 Zi X6 rfl (by simp [Jo]) rfl) ?_
         rintro _ w265 ⟨b33_12, rfl, e265, m265⟩
         refine ⟨⟨_, m265⟩, ?_⟩
         refine Y5 rfl rfl (fun w266 e266 => ?_)
         have m266 := m265.ext e266
         refine Yz.mono (Zk (f := u8) (Hs := [(b33_12, .cells (cl u8 ([])) 5 (0, 0))]) (H := [_]) m266 (Zv.of u8 5 b33_12 ([])) rfl rfl (Rd.ofRest hr14 m266) Zi Zi X6 rfl Qu sL sL) ?_
         rintro sv267 w267 ⟨Hs267, m267, g267⟩
         replace g267 : Zv u8 5 sv267 lb Hs267 := g267
         refine ⟨⟨_, m267⟩, ?_⟩
         refine Y5 rfl rfl (fun w268 e268 => ?_)
         have m268 := m267.ext e268
         refine Yz.mono (Zk (f := u8) (Hs := [(b36_12, .cells (cl u8 ([])) 5 (0, 0))]) (H := Hs267 ++ ([])) (Mem.pick Hs267 [_] _ m268) (Zv.of u8 5 b36_12 ([])) rfl rfl (Rd.ofRest hr15 m268) Zi Zi X6 rfl Qu sL sL) ?_
         rintro sv269 w269 ⟨Hs269, m269, g269⟩
         replace g269 : Zv u8 5 sv269 lp Hs269 := g269
         refine ⟨⟨_, m269⟩, ?_⟩
         refine Y5 rfl rfl (fun w270 e270 => ?_)
         have m270 := m269.ext e270
         refine Yz.mono (Ry (Vx rfl rfl rfl) (U7 S vk sv267 lb sv269 lp _ (hT21.mono fun b o e => (m270).rest b o e) (RdK.ofRest hr20 m270) sL (g267.rd (Mem.pick Hs269 Hs267 _ m270)) sL (g269.rd m270) sL sL sL)) ?_
         rintro _ w271 ⟨vqq272, Hqq272, vcq272, Hcq272, rfl, gqq272, gcq272, k_w271⟩
         have m271 : Mem w271 RM13 (Hqq272 ++ (Hcq272 ++ (Hs269 ++ (Hs267 ++ ([]))))) := (by
          have hT := Mem.new (H := Hs269 ++ (Hs267 ++ ([]))) (H' := _) m270 k_w271
          try simp only [List.append_assoc, List.cons_append, List.nil_append, List.append_nil] at hT ⊢
          exact hT)
         refine ⟨⟨_, m271⟩, ?_⟩
         refine Xu rfl rfl (fun w _H _hx => Qb rfl) <| Xu (v := (Value.agg (Zl (sS (Gf S) (if Ja S = 0 then vqq272 else vk))))) rfl rfl (fun w _H _hx => Zo rfl rfl) <| Xu (v := vcq272) rfl rfl (fun w _H _hx => Zo rfl rfl) <| Xu (v := (i64 (Ja S))) rfl rfl (fun w _H _hx => Zo rfl rfl) ?_
         refine Y5 rfl rfl (fun w273 e273 => ?_)
         have m273 := m271.ext e273
         refine Yz.mono (Yj m273 Y8) ?_
         rintro _ w274 ⟨b13_12, rfl, e274, m274⟩
         refine ⟨⟨_, m274⟩, ?_⟩
         refine Bh rfl (fun w275 e275 => ?_)
         have m275 := m274.ext e275
         refine Yz.mono (Ky Y8 rfl rfl m275.h0 (Gv (RdK.one (RdK.ite (fun h => RdK.cast (gqq272.rd (Mem.pick [_] Hqq272 _ m275)) (Ur h)) (fun h => RdK.cast (RdK.ofRest hr20 m275) (Us h)))))) ?_
         rintro _ w276 uq276
         have m276 := m275.upd0 uq276
         refine ⟨⟨_, m276⟩, ?_⟩
         refine Xu rfl rfl (fun w _H _hx => Qc (v := vcq272) rfl) ?_
         refine Xd (fun w277 e277 => ?_)
         have m277 := m276.ext e277
         have hX278 := m277
         rw [hRM13] at hX278
         have m279 : Mem w277 (Qy w0) ([(b13_12, .cells (Zl (sS (Gf S) (if Ja S = 0 then vqq272 else vk))) 26 (0, 0))] ++ (Hqq272 ++ (Hcq272 ++ (Hs269 ++ (Hs267 ++ ([(b11, .cells (cl u8 ot) 23 (0, 0)), (b10, .cells (cl u8 ow) 23 (0, 0)), (b9, .cells (cl u8 ro) 23 (0, 0)), (b6, .cells (Zl (sS S vk)) 26 (0, 0))])))))) := (by
          have hT := Mem.back hFM13 hX278
          try simp only [List.append_assoc, List.cons_append, List.nil_append, List.append_nil] at hT ⊢
          exact hT)
         refine Qa rfl (Qc (v := (i64 (Ja S))) rfl) <| rN ?_
         have m280 := Mem.drop Hs269 _ (Mem.pick3 [_] Hqq272 Hcq272 Hs269 _ m279)
         have m281 := Mem.drop Hs267 _ (Mem.pick3 [_] Hqq272 Hcq272 Hs267 _ m280)
         exact ⟨b13_12, vqq272, Hqq272, vcq272, Hcq272, gqq272, gcq272, rfl, rfl, rfl, rfl, rfl, rfl, rfl, rfl, rfl, rfl, rfl, rfl, rfl, rfl, rfl, rfl, (by
          have hT := m281
          try simp only [List.append_assoc, List.cons_append, List.nil_append, List.append_nil] at hT ⊢
          exact hT)⟩
        ·
         refine Ju M130 [(0, false), (2, false), (5, false), (4, true), (1, true), (3, true), (6, true), (12, true), (7, true), (8, false), (9, false), (10, false), (11, false), (13, true), (14, false)] 15 rfl (by kernel_rfl) <| Xu rfl rfl (fun w _H _hx => Jr Yu Y8 rfl (_hx.rest _ _ ho19)) <| Xu rfl rfl (fun w _H _hx => Qb (v := vb) rfl) <| Xu rfl rfl (fun w _H _hx => Qb (v := vp) rfl) ?_
         refine Y5 rfl rfl (fun w282 e282 => ?_)
         have m282 := M130.ext e282
         refine Yz.mono (Ql u8 [] Qu m282 Zi X6 rfl (by simp [Jo]) rfl) ?_
         rintro _ w283 ⟨b36_13, rfl, e283, m283⟩
         refine ⟨⟨_, m283⟩, ?_⟩
         refine Y5 rfl rfl (fun w284 e284 => ?_)
         have m284 := m283.ext e284
         refine Yz.mono (Ql u8 [] Qu m284 Zi X6 rfl (by simp [Jo]) rfl) ?_
         rintro _ w285 ⟨b33_13, rfl, e285, m285⟩
         refine ⟨⟨_, m285⟩, ?_⟩
         refine Y5 rfl rfl (fun w286 e286 => ?_)
         have m286 := m285.ext e286
         refine Yz.mono (Zk (f := u8) (Hs := [(b33_13, .cells (cl u8 ([])) 5 (0, 0))]) (H := [_]) m286 (Zv.of u8 5 b33_13 ([])) rfl rfl (Rd.ofRest hr14 m286) Zi Zi X6 rfl Qu sL sL) ?_
         rintro sv287 w287 ⟨Hs287, m287, g287⟩
         replace g287 : Zv u8 5 sv287 lb Hs287 := g287
         refine ⟨⟨_, m287⟩, ?_⟩
         refine Y5 rfl rfl (fun w288 e288 => ?_)
         have m288 := m287.ext e288
         refine Yz.mono (Zk (f := u8) (Hs := [(b36_13, .cells (cl u8 ([])) 5 (0, 0))]) (H := Hs287 ++ ([])) (Mem.pick Hs287 [_] _ m288) (Zv.of u8 5 b36_13 ([])) rfl rfl (Rd.ofRest hr15 m288) Zi Zi X6 rfl Qu sL sL) ?_
         rintro sv289 w289 ⟨Hs289, m289, g289⟩
         replace g289 : Zv u8 5 sv289 lp Hs289 := g289
         refine ⟨⟨_, m289⟩, ?_⟩
         refine Y5 rfl rfl (fun w290 e290 => ?_)
         have m290 := m289.ext e290
         refine Yz.mono (Yj m290 Y8) ?_
         rintro _ w291 ⟨b13_13, rfl, e291, m291⟩
         refine ⟨⟨_, m291⟩, ?_⟩
         refine Y5 rfl rfl (fun w292 e292 => ?_)
         have m292 := m291.ext e292
         refine Yz.mono (Ry (Vx rfl rfl rfl) (U7 S vk sv287 lb sv289 lp _ (hT21.mono fun b o e => (m292).rest b o e) (RdK.ofRest hr20 m292) sL (g287.rd (Mem.pick2 [_] Hs289 Hs287 _ m292)) sL (g289.rd (Mem.pick [_] Hs289 _ m292)) sL sL sL)) ?_
         rintro _ w293 ⟨vqq294, Hqq294, vcq294, Hcq294, rfl, gqq294, gcq294, k_w293⟩
         have m293 : Mem w293 RM13 (Hqq294 ++ (Hcq294 ++ ([(b13_13, .cells (Zl (sE (List.replicate 32 0) (List.replicate 32 0) (List.replicate 32 0) false false (List.replicate 32 0) (List.replicate 32 0) 0 0 0 (Value.slice none 0 0))) 26 (0, 0))] ++ (Hs289 ++ (Hs287 ++ ([])))))) := (by
          have hT := Mem.new (H := [(b13_13, .cells (Zl (sE (List.replicate 32 0) (List.replicate 32 0) (List.replicate 32 0) false false (List.replicate 32 0) (List.replicate 32 0) 0 0 0 (Value.slice none 0 0))) 26 (0, 0))] ++ (Hs289 ++ (Hs287 ++ ([])))) (H' := _) m292 k_w293
          try simp only [List.append_assoc, List.cons_append, List.nil_append, List.append_nil] at hT ⊢
          exact hT)
         refine ⟨⟨_, m293⟩, ?_⟩
         refine Xu rfl rfl (fun w _H _hx => Qb rfl) <| Xu (v := (Value.agg (Zl (sS (Gf S) (if Ja S = 0 then vqq294 else vk))))) rfl rfl (fun w _H _hx => Zo rfl rfl) <| Xu (v := vcq294) rfl rfl (fun w _H _hx => Zo rfl rfl) <| Xu (v := (i64 (Ja S))) rfl rfl (fun w _H _hx => Zo rfl rfl) ?_
         refine Bh rfl (fun w295 e295 => ?_)
         have m295 := m293.ext e295
         refine Yz.mono (Ky Y8 rfl rfl ((Mem.pick2 Hqq294 Hcq294 [_] _ m295)).h0 (Gv (RdK.one (RdK.ite (fun h => RdK.cast (gqq294.rd m295) (Ur h)) (fun h => RdK.cast (RdK.ofRest hr20 m295) (Us h)))))) ?_
         rintro _ w296 uq296
         have m296 : Mem _ _ ([_] ++ (Hqq294 ++ (Hcq294 ++ (Hs289 ++ (Hs287 ++ ([])))))) := Mem.upd0 (Mem.pick2 Hqq294 Hcq294 [_] _ m295) uq296
         refine ⟨⟨_, m296⟩, ?_⟩
         refine Xu rfl rfl (fun w _H _hx => Qc (v := vcq294) rfl) ?_
         refine Xd (fun w297 e297 => ?_)
         have m297 := m296.ext e297
         have hX298 := m297
         rw [hRM13] at hX298
         have m299 : Mem w297 (Qy w0) ([(b13_13, .cells (Zl (sS (Gf S) (if Ja S = 0 then vqq294 else vk))) 26 (0, 0))] ++ (Hqq294 ++ (Hcq294 ++ (Hs289 ++ (Hs287 ++ ([(b11, .cells (cl u8 ot) 23 (0, 0)), (b10, .cells (cl u8 ow) 23 (0, 0)), (b9, .cells (cl u8 ro) 23 (0, 0)), (b6, .cells (Zl (sS S vk)) 26 (0, 0))])))))) := (by
          have hT := Mem.back hFM13 hX298
          try simp only [List.append_assoc, List.cons_append, List.nil_append, List.append_nil] at hT ⊢
          exact hT)
         refine Qa rfl (Qc (v := (i64 (Ja S))) rfl) <| rN ?_
         have m300 := Mem.drop Hs289 _ (Mem.pick3 [_] Hqq294 Hcq294 Hs289 _ m299)
         have m301 := Mem.drop Hs287 _ (Mem.pick3 [_] Hqq294 Hcq294 Hs287 _ m300)
         exact ⟨b13_13, vqq294, Hqq294, vcq294, Hcq294, gqq294, gcq294, rfl, rfl, rfl, rfl, rfl, rfl, rfl, rfl, rfl, rfl, rfl, rfl, rfl, rfl, rfl, rfl, (by
          have hT := m301
          try simp only [List.append_assoc, List.cons_append, List.nil_append, List.append_nil] at hT ⊢
          exact hT)⟩
       ·
        refine Ju M130 [(0, false), (2, false), (5, false), (4, true), (1, true), (3, true), (12, true), (6, true), (7, true), (8, false), (9, false), (10, false), (11, false), (13, true), (14, false)] 15 rfl (by kernel_rfl) <| Xu rfl rfl (fun w _H _hx => Jr Yu Y8 rfl (_hx.rest _ _ ho19)) <| Xu rfl rfl (fun w _H _hx => Qb (v := vb) rfl) <| Xu rfl rfl (fun w _H _hx => Qb (v := vp) rfl) ?_
        refine Y5 rfl rfl (fun w302 e302 => ?_)
        have m302 := M130.ext e302
        refine Yz.mono (Ql u8 [] Qu m302 Zi X6 rfl (by simp [Jo]) rfl) ?_
        rintro _ w303 ⟨b36_14, rfl, e303, m303⟩
        refine ⟨⟨_, m303⟩, ?_⟩
        refine Y5 rfl rfl (fun w304 e304 => ?_)
        have m304 := m303.ext e304
        refine Yz.mono (Ql u8 [] Qu m304 Zi X6 rfl (by simp [Jo]) rfl) ?_
        rintro _ w305 ⟨b33_14, rfl, e305, m305⟩
        refine ⟨⟨_, m305⟩, ?_⟩
        refine Y5 rfl rfl (fun w306 e306 => ?_)
        have m306 := m305.ext e306
        refine Yz.mono (Zk (f := u8) (Hs := [(b33_14, .cells (cl u8 ([])) 5 (0, 0))]) (H := [_]) m306 (Zv.of u8 5 b33_14 ([])) rfl rfl (Rd.ofRest hr14 m306) Zi Zi X6 rfl Qu sL sL) ?_
        rintro sv307 w307 ⟨Hs307, m307, g307⟩
        replace g307 : Zv u8 5 sv307 lb Hs307 := g307
        refine ⟨⟨_, m307⟩, ?_⟩
        refine Y5 rfl rfl (fun w308 e308 => ?_)
        have m308 := m307.ext e308
        refine Yz.mono (Yj m308 Y8) ?_
        rintro _ w309 ⟨b13_14, rfl, e309, m309⟩
        refine ⟨⟨_, m309⟩, ?_⟩
        refine Y5 rfl rfl (fun w310 e310 => ?_)
        have m310 := m309.ext e310
        refine Yz.mono (Zk (f := u8) (Hs := [(b36_14, .cells (cl u8 ([])) 5 (0, 0))]) (H := [_] ++ (Hs307 ++ ([]))) (Mem.pick2 [_] Hs307 [_] _ m310) (Zv.of u8 5 b36_14 ([])) rfl rfl (Rd.ofRest hr15 m310) Zi Zi X6 rfl Qu sL sL) ?_
        rintro sv311 w311 ⟨Hs311, m311, g311⟩
        replace g311 : Zv u8 5 sv311 lp Hs311 := g311
        refine ⟨⟨_, m311⟩, ?_⟩
        refine Y5 rfl rfl (fun w312 e312 => ?_)
        have m312 := m311.ext e312
        refine Yz.mono (Ry (Vx rfl rfl rfl) (U7 S vk sv307 lb sv311 lp _ (hT21.mono fun b o e => (m312).rest b o e) (RdK.ofRest hr20 m312) sL (g307.rd (Mem.pick2 Hs311 [_] Hs307 _ m312)) sL (g311.rd m312) sL sL sL)) ?_
        rintro _ w313 ⟨vqq314, Hqq314, vcq314, Hcq314, rfl, gqq314, gcq314, k_w313⟩
        have m313 : Mem w313 RM13 (Hqq314 ++ (Hcq314 ++ (Hs311 ++ ([(b13_14, .cells (Zl (sE (List.replicate 32 0) (List.replicate 32 0) (List.replicate 32 0) false false (List.replicate 32 0) (List.replicate 32 0) 0 0 0 (Value.slice none 0 0))) 26 (0, 0))] ++ (Hs307 ++ ([])))))) := (by
         have hT := Mem.new (H := Hs311 ++ ([(b13_14, .cells (Zl (sE (List.replicate 32 0) (List.replicate 32 0) (List.replicate 32 0) false false (List.replicate 32 0) (List.replicate 32 0) 0 0 0 (Value.slice none 0 0))) 26 (0, 0))] ++ (Hs307 ++ ([])))) (H' := _) m312 k_w313
         try simp only [List.append_assoc, List.cons_append, List.nil_append, List.append_nil] at hT ⊢
         exact hT)
        refine ⟨⟨_, m313⟩, ?_⟩
        refine Xu rfl rfl (fun w _H _hx => Qb rfl) <| Xu (v := (Value.agg (Zl (sS (Gf S) (if Ja S = 0 then vqq314 else vk))))) rfl rfl (fun w _H _hx => Zo rfl rfl) <| Xu (v := vcq314) rfl rfl (fun w _H _hx => Zo rfl rfl) <| Xu (v := (i64 (Ja S))) rfl rfl (fun w _H _hx => Zo rfl rfl) ?_
        refine Bh rfl (fun w315 e315 => ?_)
        have m315 := m313.ext e315
        refine Yz.mono (Ky Y8 rfl rfl ((Mem.pick3 Hqq314 Hcq314 Hs311 [_] _ m315)).h0 (Gv (RdK.one (RdK.ite (fun h => RdK.cast (gqq314.rd m315) (Ur h)) (fun h => RdK.cast (RdK.ofRest hr20 m315) (Us h)))))) ?_
        rintro _ w316 uq316
        have m316 : Mem _ _ ([_] ++ (Hqq314 ++ (Hcq314 ++ (Hs311 ++ (Hs307 ++ ([])))))) := Mem.upd0 (Mem.pick3 Hqq314 Hcq314 Hs311 [_] _ m315) uq316
        refine ⟨⟨_, m316⟩, ?_⟩
        refine Xu rfl rfl (fun w _H _hx => Qc (v := vcq314) rfl) ?_
        refine Xd (fun w317 e317 => ?_)
        have m317 := m316.ext e317
        have hX318 := m317
        rw [hRM13] at hX318
        have m319 : Mem w317 (Qy w0) ([(b13_14, .cells (Zl (sS (Gf S) (if Ja S = 0 then vqq314 else vk))) 26 (0, 0))] ++ (Hqq314 ++ (Hcq314 ++ (Hs311 ++ (Hs307 ++ ([(b11, .cells (cl u8 ot) 23 (0, 0)), (b10, .cells (cl u8 ow) 23 (0, 0)), (b9, .cells (cl u8 ro) 23 (0, 0)), (b6, .cells (Zl (sS S vk)) 26 (0, 0))])))))) := (by
         have hT := Mem.back hFM13 hX318
         try simp only [List.append_assoc, List.cons_append, List.nil_append, List.append_nil] at hT ⊢
         exact hT)
        refine Qa rfl (Qc (v := (i64 (Ja S))) rfl) <| rN ?_
        have m320 := Mem.drop Hs311 _ (Mem.pick3 [_] Hqq314 Hcq314 Hs311 _ m319)
        have m321 := Mem.drop Hs307 _ (Mem.pick3 [_] Hqq314 Hcq314 Hs307 _ m320)
        exact ⟨b13_14, vqq314, Hqq314, vcq314, Hcq314, gqq314, gcq314, rfl, rfl, rfl, rfl, rfl, rfl, rfl, rfl, rfl, rfl, rfl, rfl, rfl, rfl, rfl, rfl, (by
         have hT := m321
         try simp only [List.append_assoc, List.cons_append, List.nil_append, List.append_nil] at hT ⊢
         exact hT)⟩
      ·
       refine Ju M130 [(0, false), (2, false), (5, false), (4, true), (1, true), (12, true), (3, true), (6, true), (7, true), (8, false), (9, false), (10, false), (11, false), (13, true), (14, false)] 15 rfl (by kernel_rfl) <| Xu rfl rfl (fun w _H _hx => Jr Yu Y8 rfl (_hx.rest _ _ ho19)) <| Xu rfl rfl (fun w _H _hx => Qb (v := vb) rfl) <| Xu rfl rfl (fun w _H _hx => Qb (v := vp) rfl) ?_
       refine Y5 rfl rfl (fun w322 e322 => ?_)
       have m322 := M130.ext e322
       refine Yz.mono (Ql u8 [] Qu m322 Zi X6 rfl (by simp [Jo]) rfl) ?_
       rintro _ w323 ⟨b36_15, rfl, e323, m323⟩
       refine ⟨⟨_, m323⟩, ?_⟩
       refine Y5 rfl rfl (fun w324 e324 => ?_)
       have m324 := m323.ext e324
       refine Yz.mono (Ql u8 [] Qu m324 Zi X6 rfl (by simp [Jo]) rfl) ?_
       rintro _ w325 ⟨b33_15, rfl, e325, m325⟩
       refine ⟨⟨_, m325⟩, ?_⟩
       refine Y5 rfl rfl (fun w326 e326 => ?_)
       have m326 := m325.ext e326
       refine Yz.mono (Yj m326 Y8) ?_
       rintro _ w327 ⟨b13_15, rfl, e327, m327⟩
       refine ⟨⟨_, m327⟩, ?_⟩
       refine Y5 rfl rfl (fun w328 e328 => ?_)
       have m328 := m327.ext e328
       refine Yz.mono (Zk (f := u8) (Hs := [(b33_15, .cells (cl u8 ([])) 5 (0, 0))]) (H := [_, _]) (Mem.pick [_] [_] _ m328) (Zv.of u8 5 b33_15 ([])) rfl rfl (Rd.ofRest hr14 m328) Zi Zi X6 rfl Qu sL sL) ?_
       rintro sv329 w329 ⟨Hs329, m329, g329⟩
       replace g329 : Zv u8 5 sv329 lb Hs329 := g329
       refine ⟨⟨_, m329⟩, ?_⟩
       refine Y5 rfl rfl (fun w330 e330 => ?_)
       have m330 := m329.ext e330
       refine Yz.mono (Zk (f := u8) (Hs := [(b36_15, .cells (cl u8 ([])) 5 (0, 0))]) (H := Hs329 ++ ([_])) (Mem.pick2 Hs329 [_] [_] _ m330) (Zv.of u8 5 b36_15 ([])) rfl rfl (Rd.ofRest hr15 m330) Zi Zi X6 rfl Qu sL sL) ?_
       rintro sv331 w331 ⟨Hs331, m331, g331⟩
       replace g331 : Zv u8 5 sv331 lp Hs331 := g331
       refine ⟨⟨_, m331⟩, ?_⟩
       refine Y5 rfl rfl (fun w332 e332 => ?_)
       have m332 := m331.ext e332
       refine Yz.mono (Ry (Vx rfl rfl rfl) (U7 S vk sv329 lb sv331 lp _ (hT21.mono fun b o e => (m332).rest b o e) (RdK.ofRest hr20 m332) sL (g329.rd (Mem.pick Hs331 Hs329 _ m332)) sL (g331.rd m332) sL sL sL)) ?_
       rintro _ w333 ⟨vqq334, Hqq334, vcq334, Hcq334, rfl, gqq334, gcq334, k_w333⟩
       have m333 : Mem w333 RM13 (Hqq334 ++ (Hcq334 ++ (Hs331 ++ (Hs329 ++ ([(b13_15, .cells (Zl (sE (List.replicate 32 0) (List.replicate 32 0) (List.replicate 32 0) false false (List.replicate 32 0) (List.replicate 32 0) 0 0 0 (Value.slice none 0 0))) 26 (0, 0))]))))) := (by
        have hT := Mem.new (H := Hs331 ++ (Hs329 ++ ([(b13_15, .cells (Zl (sE (List.replicate 32 0) (List.replicate 32 0) (List.replicate 32 0) false false (List.replicate 32 0) (List.replicate 32 0) 0 0 0 (Value.slice none 0 0))) 26 (0, 0))]))) (H' := _) m332 k_w333
        try simp only [List.append_assoc, List.cons_append, List.nil_append, List.append_nil] at hT ⊢
        exact hT)
       refine ⟨⟨_, m333⟩, ?_⟩
       refine Xu rfl rfl (fun w _H _hx => Qb rfl) <| Xu (v := (Value.agg (Zl (sS (Gf S) (if Ja S = 0 then vqq334 else vk))))) rfl rfl (fun w _H _hx => Zo rfl rfl) <| Xu (v := vcq334) rfl rfl (fun w _H _hx => Zo rfl rfl) <| Xu (v := (i64 (Ja S))) rfl rfl (fun w _H _hx => Zo rfl rfl) ?_
       refine Bh rfl (fun w335 e335 => ?_)
       have m335 := m333.ext e335
       refine Yz.mono (Ky Y8 rfl rfl ((Mem.pick4 Hqq334 Hcq334 Hs331 Hs329 [_] _ m335)).h0 (Gv (RdK.one (RdK.ite (fun h => RdK.cast (gqq334.rd m335) (Ur h)) (fun h => RdK.cast (RdK.ofRest hr20 m335) (Us h)))))) ?_
       rintro _ w336 uq336
       have m336 : Mem _ _ ([_] ++ (Hqq334 ++ (Hcq334 ++ (Hs331 ++ (Hs329 ++ ([])))))) := Mem.upd0 (Mem.pick4 Hqq334 Hcq334 Hs331 Hs329 [_] _ m335) uq336
       refine ⟨⟨_, m336⟩, ?_⟩
       refine Xu rfl rfl (fun w _H _hx => Qc (v := vcq334) rfl) ?_
       refine Xd (fun w337 e337 => ?_)
       have m337 := m336.ext e337
       have hX338 := m337
       rw [hRM13] at hX338
       have m339 : Mem w337 (Qy w0) ([(b13_15, .cells (Zl (sS (Gf S) (if Ja S = 0 then vqq334 else vk))) 26 (0, 0))] ++ (Hqq334 ++ (Hcq334 ++ (Hs331 ++ (Hs329 ++ ([(b11, .cells (cl u8 ot) 23 (0, 0)), (b10, .cells (cl u8 ow) 23 (0, 0)), (b9, .cells (cl u8 ro) 23 (0, 0)), (b6, .cells (Zl (sS S vk)) 26 (0, 0))])))))) := (by
        have hT := Mem.back hFM13 hX338
        try simp only [List.append_assoc, List.cons_append, List.nil_append, List.append_nil] at hT ⊢
        exact hT)
       refine Qa rfl (Qc (v := (i64 (Ja S))) rfl) <| rN ?_
       have m340 := Mem.drop Hs331 _ (Mem.pick3 [_] Hqq334 Hcq334 Hs331 _ m339)
       have m341 := Mem.drop Hs329 _ (Mem.pick3 [_] Hqq334 Hcq334 Hs329 _ m340)
       exact ⟨b13_15, vqq334, Hqq334, vcq334, Hcq334, gqq334, gcq334, rfl, rfl, rfl, rfl, rfl, rfl, rfl, rfl, rfl, rfl, rfl, rfl, rfl, rfl, rfl, rfl, (by
        have hT := m341
        try simp only [List.append_assoc, List.cons_append, List.nil_append, List.append_nil] at hT ⊢
        exact hT)⟩
     ·
      refine Di 4 12 rfl rfl ?_ ?_
      ·
       refine Ju M130 [(0, false), (2, false), (5, false), (4, true), (12, true), (1, true), (3, true), (6, true), (7, true), (8, false), (9, false), (10, false), (11, false), (13, true), (14, false)] 15 rfl (by kernel_rfl) <| Xu rfl rfl (fun w _H _hx => Jr Yu Y8 rfl (_hx.rest _ _ ho19)) <| Xu rfl rfl (fun w _H _hx => Qb (v := vb) rfl) <| Xu rfl rfl (fun w _H _hx => Qb (v := vp) rfl) ?_
       refine Y5 rfl rfl (fun w342 e342 => ?_)
       have m342 := M130.ext e342
       refine Yz.mono (Ql u8 [] Qu m342 Zi X6 rfl (by simp [Jo]) rfl) ?_
       rintro _ w343 ⟨b36_16, rfl, e343, m343⟩
       refine ⟨⟨_, m343⟩, ?_⟩
       refine Y5 rfl rfl (fun w344 e344 => ?_)
       have m344 := m343.ext e344
       refine Yz.mono (Yj m344 Y8) ?_
       rintro _ w345 ⟨b13_16, rfl, e345, m345⟩
       refine ⟨⟨_, m345⟩, ?_⟩
       refine Y5 rfl rfl (fun w346 e346 => ?_)
       have m346 := m345.ext e346
       refine Yz.mono (Ql u8 [] Qu m346 Zi X6 rfl (by simp [Jo]) rfl) ?_
       rintro _ w347 ⟨b33_16, rfl, e347, m347⟩
       refine ⟨⟨_, m347⟩, ?_⟩
       refine Y5 rfl rfl (fun w348 e348 => ?_)
       have m348 := m347.ext e348
       refine Yz.mono (Zk (f := u8) (Hs := [(b33_16, .cells (cl u8 ([])) 5 (0, 0))]) (H := [_, _]) m348 (Zv.of u8 5 b33_16 ([])) rfl rfl (Rd.ofRest hr14 m348) Zi Zi X6 rfl Qu sL sL) ?_
       rintro sv349 w349 ⟨Hs349, m349, g349⟩
       replace g349 : Zv u8 5 sv349 lb Hs349 := g349
       refine ⟨⟨_, m349⟩, ?_⟩
       refine Y5 rfl rfl (fun w350 e350 => ?_)
       have m350 := m349.ext e350
       refine Yz.mono (Zk (f := u8) (Hs := [(b36_16, .cells (cl u8 ([])) 5 (0, 0))]) (H := Hs349 ++ ([_])) (Mem.pick2 Hs349 [_] [_] _ m350) (Zv.of u8 5 b36_16 ([])) rfl rfl (Rd.ofRest hr15 m350) Zi Zi X6 rfl Qu sL sL) ?_
       rintro sv351 w351 ⟨Hs351, m351, g351⟩
       replace g351 : Zv u8 5 sv351 lp Hs351 := g351
       refine ⟨⟨_, m351⟩, ?_⟩
       refine Y5 rfl rfl (fun w352 e352 => ?_)
       have m352 := m351.ext e352
       refine Yz.mono (Ry (Vx rfl rfl rfl) (U7 S vk sv349 lb sv351 lp _ (hT21.mono fun b o e => (m352).rest b o e) (RdK.ofRest hr20 m352) sL (g349.rd (Mem.pick Hs351 Hs349 _ m352)) sL (g351.rd m352) sL sL sL)) ?_
       rintro _ w353 ⟨vqq354, Hqq354, vcq354, Hcq354, rfl, gqq354, gcq354, k_w353⟩
       have m353 : Mem w353 RM13 (Hqq354 ++ (Hcq354 ++ (Hs351 ++ (Hs349 ++ ([(b13_16, .cells (Zl (sE (List.replicate 32 0) (List.replicate 32 0) (List.replicate 32 0) false false (List.replicate 32 0) (List.replicate 32 0) 0 0 0 (Value.slice none 0 0))) 26 (0, 0))]))))) := (by
        have hT := Mem.new (H := Hs351 ++ (Hs349 ++ ([(b13_16, .cells (Zl (sE (List.replicate 32 0) (List.replicate 32 0) (List.replicate 32 0) false false (List.replicate 32 0) (List.replicate 32 0) 0 0 0 (Value.slice none 0 0))) 26 (0, 0))]))) (H' := _) m352 k_w353
        try simp only [List.append_assoc, List.cons_append, List.nil_append, List.append_nil] at hT ⊢
        exact hT)
       refine ⟨⟨_, m353⟩, ?_⟩
       refine Xu rfl rfl (fun w _H _hx => Qb rfl) <| Xu (v := (Value.agg (Zl (sS (Gf S) (if Ja S = 0 then vqq354 else vk))))) rfl rfl (fun w _H _hx => Zo rfl rfl) <| Xu (v := vcq354) rfl rfl (fun w _H _hx => Zo rfl rfl) <| Xu (v := (i64 (Ja S))) rfl rfl (fun w _H _hx => Zo rfl rfl) ?_
       refine Bh rfl (fun w355 e355 => ?_)
       have m355 := m353.ext e355
       refine Yz.mono (Ky Y8 rfl rfl ((Mem.pick4 Hqq354 Hcq354 Hs351 Hs349 [_] _ m355)).h0 (Gv (RdK.one (RdK.ite (fun h => RdK.cast (gqq354.rd m355) (Ur h)) (fun h => RdK.cast (RdK.ofRest hr20 m355) (Us h)))))) ?_
       rintro _ w356 uq356
       have m356 : Mem _ _ ([_] ++ (Hqq354 ++ (Hcq354 ++ (Hs351 ++ (Hs349 ++ ([])))))) := Mem.upd0 (Mem.pick4 Hqq354 Hcq354 Hs351 Hs349 [_] _ m355) uq356
       refine ⟨⟨_, m356⟩, ?_⟩
       refine Xu rfl rfl (fun w _H _hx => Qc (v := vcq354) rfl) ?_
       refine Xd (fun w357 e357 => ?_)
       have m357 := m356.ext e357
       have hX358 := m357
       rw [hRM13] at hX358
       have m359 : Mem w357 (Qy w0) ([(b13_16, .cells (Zl (sS (Gf S) (if Ja S = 0 then vqq354 else vk))) 26 (0, 0))] ++ (Hqq354 ++ (Hcq354 ++ (Hs351 ++ (Hs349 ++ ([(b11, .cells (cl u8 ot) 23 (0, 0)), (b10, .cells (cl u8 ow) 23 (0, 0)), (b9, .cells (cl u8 ro) 23 (0, 0)), (b6, .cells (Zl (sS S vk)) 26 (0, 0))])))))) := (by
        have hT := Mem.back hFM13 hX358
        try simp only [List.append_assoc, List.cons_append, List.nil_append, List.append_nil] at hT ⊢
        exact hT)
       refine Qa rfl (Qc (v := (i64 (Ja S))) rfl) <| rN ?_
       have m360 := Mem.drop Hs351 _ (Mem.pick3 [_] Hqq354 Hcq354 Hs351 _ m359)
       have m361 := Mem.drop Hs349 _ (Mem.pick3 [_] Hqq354 Hcq354 Hs349 _ m360)
       exact ⟨b13_16, vqq354, Hqq354, vcq354, Hcq354, gqq354, gcq354, rfl, rfl, rfl, rfl, rfl, rfl, rfl, rfl, rfl, rfl, rfl, rfl, rfl, rfl, rfl, rfl, (by
        have hT := m361
        try simp only [List.append_assoc, List.cons_append, List.nil_append, List.append_nil] at hT ⊢
        exact hT)⟩
      ·
       refine Ju M130 [(0, false), (2, false), (5, false), (12, true), (4, true), (1, true), (3, true), (6, true), (7, true), (8, false), (9, false), (10, false), (11, false), (13, true), (14, false)] 15 rfl (by kernel_rfl) <| Xu rfl rfl (fun w _H _hx => Jr Yu Y8 rfl (_hx.rest _ _ ho19)) <| Xu rfl rfl (fun w _H _hx => Qb (v := vb) rfl) <| Xu rfl rfl (fun w _H _hx => Qb (v := vp) rfl) ?_
       refine Y5 rfl rfl (fun w362 e362 => ?_)
       have m362 := M130.ext e362
       refine Yz.mono (Yj m362 Y8) ?_
       rintro _ w363 ⟨b13_17, rfl, e363, m363⟩
       refine ⟨⟨_, m363⟩, ?_⟩
       refine Y5 rfl rfl (fun w364 e364 => ?_)
       have m364 := m363.ext e364
       refine Yz.mono (Ql u8 [] Qu m364 Zi X6 rfl (by simp [Jo]) rfl) ?_
       rintro _ w365 ⟨b36_17, rfl, e365, m365⟩
       refine ⟨⟨_, m365⟩, ?_⟩
       refine Y5 rfl rfl (fun w366 e366 => ?_)
       have m366 := m365.ext e366
       refine Yz.mono (Ql u8 [] Qu m366 Zi X6 rfl (by simp [Jo]) rfl) ?_
       rintro _ w367 ⟨b33_17, rfl, e367, m367⟩
       refine ⟨⟨_, m367⟩, ?_⟩
       refine Y5 rfl rfl (fun w368 e368 => ?_)
       have m368 := m367.ext e368
       refine Yz.mono (Zk (f := u8) (Hs := [(b33_17, .cells (cl u8 ([])) 5 (0, 0))]) (H := [_, _]) m368 (Zv.of u8 5 b33_17 ([])) rfl rfl (Rd.ofRest hr14 m368) Zi Zi X6 rfl Qu sL sL) ?_
       rintro sv369 w369 ⟨Hs369, m369, g369⟩
       replace g369 : Zv u8 5 sv369 lb Hs369 := g369
       refine ⟨⟨_, m369⟩, ?_⟩
       refine Y5 rfl rfl (fun w370 e370 => ?_)
       have m370 := m369.ext e370
       refine Yz.mono (Zk (f := u8) (Hs := [(b36_17, .cells (cl u8 ([])) 5 (0, 0))]) (H := Hs369 ++ ([_])) (Mem.pick Hs369 [_] _ m370) (Zv.of u8 5 b36_17 ([])) rfl rfl (Rd.ofRest hr15 m370) Zi Zi X6 rfl Qu sL sL) ?_
       rintro sv371 w371 ⟨Hs371, m371, g371⟩
       replace g371 : Zv u8 5 sv371 lp Hs371 := g371
       refine ⟨⟨_, m371⟩, ?_⟩
       refine Y5 rfl rfl (fun w372 e372 => ?_)
       have m372 := m371.ext e372
       refine Yz.mono (Ry (Vx rfl rfl rfl) (U7 S vk sv369 lb sv371 lp _ (hT21.mono fun b o e => (m372).rest b o e) (RdK.ofRest hr20 m372) sL (g369.rd (Mem.pick Hs371 Hs369 _ m372)) sL (g371.rd m372) sL sL sL)) ?_
       rintro _ w373 ⟨vqq374, Hqq374, vcq374, Hcq374, rfl, gqq374, gcq374, k_w373⟩
       have m373 : Mem w373 RM13 (Hqq374 ++ (Hcq374 ++ (Hs371 ++ (Hs369 ++ ([(b13_17, .cells (Zl (sE (List.replicate 32 0) (List.replicate 32 0) (List.replicate 32 0) false false (List.replicate 32 0) (List.replicate 32 0) 0 0 0 (Value.slice none 0 0))) 26 (0, 0))]))))) := (by
        have hT := Mem.new (H := Hs371 ++ (Hs369 ++ ([(b13_17, .cells (Zl (sE (List.replicate 32 0) (List.replicate 32 0) (List.replicate 32 0) false false (List.replicate 32 0) (List.replicate 32 0) 0 0 0 (Value.slice none 0 0))) 26 (0, 0))]))) (H' := _) m372 k_w373
        try simp only [List.append_assoc, List.cons_append, List.nil_append, List.append_nil] at hT ⊢
        exact hT)
       refine ⟨⟨_, m373⟩, ?_⟩
       refine Xu rfl rfl (fun w _H _hx => Qb rfl) <| Xu (v := (Value.agg (Zl (sS (Gf S) (if Ja S = 0 then vqq374 else vk))))) rfl rfl (fun w _H _hx => Zo rfl rfl) <| Xu (v := vcq374) rfl rfl (fun w _H _hx => Zo rfl rfl) <| Xu (v := (i64 (Ja S))) rfl rfl (fun w _H _hx => Zo rfl rfl) ?_
       refine Bh rfl (fun w375 e375 => ?_)
       have m375 := m373.ext e375
       refine Yz.mono (Ky Y8 rfl rfl ((Mem.pick4 Hqq374 Hcq374 Hs371 Hs369 [_] _ m375)).h0 (Gv (RdK.one (RdK.ite (fun h => RdK.cast (gqq374.rd m375) (Ur h)) (fun h => RdK.cast (RdK.ofRest hr20 m375) (Us h)))))) ?_
       rintro _ w376 uq376
       have m376 : Mem _ _ ([_] ++ (Hqq374 ++ (Hcq374 ++ (Hs371 ++ (Hs369 ++ ([])))))) := Mem.upd0 (Mem.pick4 Hqq374 Hcq374 Hs371 Hs369 [_] _ m375) uq376
       refine ⟨⟨_, m376⟩, ?_⟩
       refine Xu rfl rfl (fun w _H _hx => Qc (v := vcq374) rfl) ?_
       refine Xd (fun w377 e377 => ?_)
       have m377 := m376.ext e377
       have hX378 := m377
       rw [hRM13] at hX378
       have m379 : Mem w377 (Qy w0) ([(b13_17, .cells (Zl (sS (Gf S) (if Ja S = 0 then vqq374 else vk))) 26 (0, 0))] ++ (Hqq374 ++ (Hcq374 ++ (Hs371 ++ (Hs369 ++ ([(b11, .cells (cl u8 ot) 23 (0, 0)), (b10, .cells (cl u8 ow) 23 (0, 0)), (b9, .cells (cl u8 ro) 23 (0, 0)), (b6, .cells (Zl (sS S vk)) 26 (0, 0))])))))) := (by
        have hT := Mem.back hFM13 hX378
        try simp only [List.append_assoc, List.cons_append, List.nil_append, List.append_nil] at hT ⊢
        exact hT)
       refine Qa rfl (Qc (v := (i64 (Ja S))) rfl) <| rN ?_
       have m380 := Mem.drop Hs371 _ (Mem.pick3 [_] Hqq374 Hcq374 Hs371 _ m379)
       have m381 := Mem.drop Hs369 _ (Mem.pick3 [_] Hqq374 Hcq374 Hs369 _ m380)
       exact ⟨b13_17, vqq374, Hqq374, vcq374, Hcq374, gqq374, gcq374, rfl, rfl, rfl, rfl, rfl, rfl, rfl, rfl, rfl, rfl, rfl, rfl, rfl, rfl, rfl, rfl, (by
        have hT := m381
        try simp only [List.append_assoc, List.cons_append, List.nil_append, List.append_nil] at hT ⊢
        exact hT)⟩
   rintro fr382 w383 ⟨b13, vq, Hq, vc, Hc, gq, gc, s0, s1, s2, s3, s4, s5, s6, s9, s10, s11, s12, s13, s14, s15, s21, s30, m383⟩
   have hel := encC_le (S := S) (b := lb) (p := lp)
   have henk : (Gf S).ks.length = S.ks.length := by rw [Qdk]
   refine sR <| Qa rfl (Jr Yu Y8 s6 ((Mem.pick4 [_] Hq Hc [_, _, _] [_] _ m383)).h0) <| rM rfl s1 <| rM rfl s2 <| Za rfl (oc13 (Vx rfl rfl rfl) (c_rencS S vk vb lb vp lp _ (RdK.ofRest hk m383) sL (Rd.ofRest hrb m383) sL (Rd.ofRest hrp m383) sL sL sL)) ?_
   rintro _ w384 ⟨vcq385, Hcq385, rfl, gcq385, k_w384⟩
   have m384 : Mem _ _ (Hcq385 ++ ([_] ++ (Hq ++ (Hc ++ ([_, _, _, _]))))) := Mem.new (H := [_] ++ (Hq ++ (Hc ++ ([_, _, _, _])))) (H' := Hcq385) m383 k_w384
   refine Qa rfl (Qb (v := (Value.tuple #[(Value.agg (Zl (sS (Gf S) vk))), vcq385, (i64 (Ja S))])) rfl) <| Qa (v := (Value.agg (Zl (sS (Gf S) vk)))) rfl (Zo rfl rfl) <| Qa (v := vcq385) rfl (Zo rfl rfl) <| Qa (v := (i64 (Ja S))) rfl (Zo rfl rfl) <| Za rfl (Yj m384 Y8) ?_
   rintro _ w386 ⟨b16, rfl, e386, m386⟩
   refine Zw (Ky Y8 rfl rfl m386.h0 (Gv (RdK.one (RdK.cast (RdK.ofRest hk m386) (Qdk _).symm)))) ?_
   rintro _ w387 uq387
   have m387 := m386.upd0 uq387
   refine rA rfl (v := vcq385) rfl <| Qa rfl (Qc (v := (i64 (Ja S))) rfl) ?_
   refine rN (Qg (sR ?_))
   refine rM rfl s15 <| Qa rfl (Qb (v := (i64 (Ja S))) rfl) <| Qa rfl (Gu rfl rfl) <| Qa rfl (Qb (v := (bl ((Ja S) != (Ja S)))) rfl) ?_
   have hd388 : ((Ja S) != (Ja S)) = false := (by simp)
   refine Zt (s := 54) rfl rfl hd388 rfl (Jr Yu Y8 s13 ((Mem.pick2 [_] Hcq385 [_] _ m387)).h0) <| Zt (s := 54) rfl rfl hd388 rfl (Jr Yu Y8 rfl m387.h0) <| Qft (s := 54) rfl rfl hd388 rfl (oc14 (Xr rfl rfl) (Qgm (Gf S) (Gf S) (if Ja S = 0 then vq else vk) vk _ (RdK.ite (fun h => RdK.cast (gq.rd (Mem.pick3 [_] Hcq385 [_] Hq _ m387)) (Ur h)) (fun h => RdK.cast (RdK.ofRest hk m387) (Us h))) (RdK.cast (RdK.ofRest hk m387) (Qdk _).symm) sL rfl)) ?_
   rintro _ w389 ⟨rfl, e389⟩
   have m389 := m387.ext e389
   refine Zt (s := 54) rfl rfl hd388 rfl (G9 (b := true) rfl) <| Qa rfl (Yn rfl hd388 rfl) <| Qa rfl (Qb (v := (bl false)) rfl) <| Zt (s := 60) rfl rfl rfl rfl (Qb s14) <| Zt (s := 60) rfl rfl rfl rfl (Qb (v := vcq385) rfl) <| Qft (s := 60) rfl rfl rfl rfl (oc15 (Xr rfl rfl) (c_same vc vcq385 (Rh S lb lp) (Rh S lb lp) _ (gc.rd (Mem.pick4 [_] Hcq385 [_] Hq Hc _ m389)) (gcq385.rd (Mem.pick [_] Hcq385 _ m389)) sL)) ?_
   rintro _ w391 ⟨rfl, e391⟩
   have m391 := m389.ext e391
   refine Zt (s := 60) rfl rfl rfl rfl (G9 rfl) <| Qa rfl (Cf rfl rfl) <| rN ?_
   have hd393 : ((Rh S lb lp) == (Rh S lb lp)) = true := beq_self_eq_true _
   have hd394 : (!((Rh S lb lp) == (Rh S lb lp))) = false := congrArg Bool.not hd393
   refine Yp rfl hd394 ?_
   refine Q7 (Qh (sR ?_))
   refine Qa rfl (Qw X3 rfl Z9 s10 ((Mem.pick6 [_] Hcq385 [_] Hq Hc [_] [_] _ m391)).h0 (by rw [Jk]; first | omega | (simp only [List.length_set, List.length_append, List.length_replicate, List.length_map, List.length_cons, List.length_nil]; omega) | (simp; done) | (simp; omega) | decide)) <| Qa rfl (Vd (c := (Zl [ow.map u8, (List.replicate 32 0).map u8])) (pl := [(0, 32), (32, 32)]) Qct Qex (by kernel_rfl) (Y2 (i := 0) (v := (agg u8 ow)) (cs := (cl u8 ow)) rfl rfl Vo) (Wv (L := [(List.replicate 32 0).map u8, (List.replicate 32 0).map u8]) 0 [ow.map u8, (List.replicate 32 0).map u8] rfl (Wi u8 _).symm rfl F8)) <| Za rfl (Yj m391 Qct) ?_
   rintro _ w395 ⟨b19, rfl, e395, m395⟩
   refine Zw (Gj [ow.map u8, (List.replicate 32 0).map u8] Qct rfl rfl (Ed (n := 32) (m := 32) (k := 64) (by first | rfl | (rw [List.length_map]; first | omega | (simp; done) | (simp; omega))) (Ed (n := 32) (m := 0) (k := 32) (by first | rfl | (rw [List.length_map]; first | omega | (simp; done) | (simp; omega))) Qcj rfl) rfl) (Js (Jn Qu _) (Js (Jn Qu _) Bz)) m395.h0 rfl rfl) ?_
   rintro _ w396 uq396
   have m396 : Mem _ _ ([(b19, .cells (Zl [ow.map u8, (List.replicate 32 0).map u8]) 39 (0, 0)), _] ++ (Hcq385 ++ ([_] ++ (Hq ++ (Hc ++ ([_, _, _, _])))))) := m395.upd0 uq396
   refine rN (Qg ?_)
   refine Xq (dl 16) 16 (by kernel_rfl) <| Qj rfl rfl (fun _ _hx => Qw X3 rfl Z9 s9 ((Mem.pick6 [_, _] Hcq385 [_] Hq Hc [_, _] [_] _ (m396.ext _hx))).h0 (by rw [Jk]; first | omega | (simp only [List.length_set, List.length_append, List.length_replicate, List.length_map, List.length_cons, List.length_nil]; omega) | (simp; done) | (simp; omega) | decide)) <| Qj rfl rfl (fun _ _hx => Jr Qex Qct rfl (m396.ext _hx).h0) <| Qj rfl rfl (fun _ _hx => Qw X3 rfl Z9 s11 ((Mem.pick5 [_, _] Hcq385 [_] Hq Hc [_] _ (m396.ext _hx))).h0 (by rw [Jk]; first | omega | (simp only [List.length_set, List.length_append, List.length_replicate, List.length_map, List.length_cons, List.length_nil]; omega) | (simp; done) | (simp; omega) | decide)) <| Kv (v := (Value.agg (Zl (sS (Eb ro ow ot) (Value.slice none 0 0))))) rfl rfl (fun w397 e397 => oc16 (Vx rfl rfl rfl) (Qkq _ _ _ _ _ (hT.mono fun b o e => ((m396.ext e397)).rest b o e) sL sL sL sL)) <| Qj rfl rfl (fun _ _hx => Qw X3 rfl Z9 s9 ((Mem.pick6 [_, _] Hcq385 [_] Hq Hc [_, _] [_] _ (m396.ext _hx))).h0 (by rw [Jk]; first | omega | (simp only [List.length_set, List.length_append, List.length_replicate, List.length_map, List.length_cons, List.length_nil]; omega) | (simp; done) | (simp; omega) | decide)) <| Qj rfl rfl (fun _ _hx => Qw X3 rfl Z9 s10 ((Mem.pick6 [_, _] Hcq385 [_] Hq Hc [_] [_] _ (m396.ext _hx))).h0 (by rw [Jk]; first | omega | (simp only [List.length_set, List.length_append, List.length_replicate, List.length_map, List.length_cons, List.length_nil]; omega) | (simp; done) | (simp; omega) | decide)) <| Qj rfl rfl (fun _ _hx => Qw X3 rfl Z9 s11 ((Mem.pick5 [_, _] Hcq385 [_] Hq Hc [_] _ (m396.ext _hx))).h0 (by rw [Jk]; first | omega | (simp only [List.length_set, List.length_append, List.length_replicate, List.length_map, List.length_cons, List.length_nil]; omega) | (simp; done) | (simp; omega) | decide)) <| Kv (v := (Value.agg (Zl (sS (Eb ro ow ot) (Value.slice none 0 0))))) rfl rfl (fun w400 e400 => oc17 (Vx rfl rfl rfl) (Qol _ _ _ _ sL sL sL)) <| Kv (v := (bl true)) rfl rfl (fun w403 e403 => oc14 (Xr rfl rfl) (Qgm (Eb ro ow ot) (Eb ro ow ot) (Value.slice none 0 0) (Value.slice none 0 0) _ (RdK.nilE (by simp)) (RdK.nilE (by simp)) sL rfl)) <| Qj rfl rfl (fun _ _hx => Qb (v := (bl true)) rfl) <| Eo (s := 77) rfl rfl rfl rfl rfl (fun _ _hx => Qw X3 rfl Z9 s9 ((Mem.pick6 [_, _] Hcq385 [_] Hq Hc [_, _] [_] _ (m396.ext _hx))).h0 (by rw [Jk]; first | omega | (simp only [List.length_set, List.length_append, List.length_replicate, List.length_map, List.length_cons, List.length_nil]; omega) | (simp; done) | (simp; omega) | decide)) ?_
   refine Eo (s := 77) rfl rfl rfl rfl rfl (fun _ _hx => Jr Qex Qct rfl (m396.ext _hx).h0) <| dw_gxy (s := 77) (v := (Value.agg (Zl (sS (V9 ro ow) (Value.slice none 0 0))))) rfl rfl rfl rfl rfl (fun w406 e406 => oc18 (Xr rfl rfl) (Qh6 _ _ _ _ sL sL sL)) <| Eo (s := 77) rfl rfl rfl rfl rfl (fun _ _hx => Qw X3 rfl Z9 s9 ((Mem.pick6 [_, _] Hcq385 [_] Hq Hc [_, _] [_] _ (m396.ext _hx))).h0 (by rw [Jk]; first | omega | (simp only [List.length_set, List.length_append, List.length_replicate, List.length_map, List.length_cons, List.length_nil]; omega) | (simp; done) | (simp; omega) | decide)) <| Eo (s := 77) rfl rfl rfl rfl rfl (fun _ _hx => Qw X3 rfl Z9 s10 ((Mem.pick6 [_, _] Hcq385 [_] Hq Hc [_] [_] _ (m396.ext _hx))).h0 (by rw [Jk]; first | omega | (simp only [List.length_set, List.length_append, List.length_replicate, List.length_map, List.length_cons, List.length_nil]; omega) | (simp; done) | (simp; omega) | decide)) <| Eo (s := 77) rfl rfl rfl rfl rfl (fun _ _hx => Jf.cast (congrArg (fun x => Value.agg (Zl x)) (Qhh hro how).symm) (Vd (c := (Zl (sE ro ow (List.replicate 32 0) false false (List.replicate 32 0) (List.replicate 32 0) 0 0 0 (Value.slice none 0 0)))) (pl := [(0, 32), (32, 32), (64, 32), (96, 1), (97, 1), (98, 32), (130, 32), (162, 1), (163, 1), (164, 1), (165, 1)]) Y8 Yu (by kernel_rfl) (Y2 (i := 0) (v := (agg u8 ro)) (cs := (cl u8 ro)) rfl rfl (Y2 (i := 1) (v := (agg u8 ow)) (cs := (cl u8 ow)) rfl rfl Vo)) (Wv (L := (sE (List.replicate 32 0) (List.replicate 32 0) (List.replicate 32 0) false false (List.replicate 32 0) (List.replicate 32 0) 0 0 0 (Value.slice none 0 0))) 0 (sE ro (List.replicate 32 0) (List.replicate 32 0) false false (List.replicate 32 0) (List.replicate 32 0) 0 0 0 (Value.slice none 0 0)) rfl (Wi u8 _).symm rfl (Wv 1 (sE ro ow (List.replicate 32 0) false false (List.replicate 32 0) (List.replicate 32 0) 0 0 0 (Value.slice none 0 0)) rfl (Wi u8 _).symm rfl F8)))) ?_
   refine Xd (fun w409 e409 => ?_)
   have m409 := m396.ext e409
   refine Qft (s := 77) rfl rfl rfl rfl (oc14 (Xr rfl rfl) (Qgm (V9 ro ow) (V9 ro ow) (Value.slice none 0 0) (Value.slice none 0 0) _ (RdK.nilE (by simp)) (RdK.nilE (by simp)) sL rfl)) ?_
   rintro _ w410 ⟨rfl, e410⟩
   have m410 := m409.ext e410
   refine Qa rfl (Ai rfl rfl) <| Qa rfl (Qc (v := (bl true)) rfl) ?_
   refine rN (Xt ?_)
   refine Ze [(bl true)] ⟨rfl, trivial⟩ ?_
   exact ⟨rfl, Mem.below w0 m410⟩
end Go.Proofs.YtkmiemlpfkfiiaaDoor
