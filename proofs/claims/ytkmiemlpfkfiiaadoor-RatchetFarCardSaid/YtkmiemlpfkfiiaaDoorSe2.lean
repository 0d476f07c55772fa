/- Contracts: the seal, second part. Conditions: none beyond those that each theorem states. -/
import Derived.Test.YtkmiemlpfkfiiaaDoorSe1
import Derived.Test.YtkmiemlpfkfiiaaDoorFwP
namespace Go.Proofs.YtkmiemlpfkfiiaaDoor
open Tryd
set_option linter.unusedVariables false
set_option linter.unusedSimpArgs false
theorem Qal (key : Zj) : Fj (2 : Int).toNat (Jz (Ja [] key) (J6 ⟨#[115, 101, 97, 108]⟩) (32 * (2 : Int).toNat)) = J9 [] key (J6 ⟨#[115, 101, 97, 108]⟩) 2 := (Tu Yh Yh).symm
theorem Y2 (a : Value) (x : Zj) : Ji [(a, x)] = x := by simp [Ji]
theorem Qlr {key nz beside b : Zj} (h : b.length < 32) : Qba key nz beside b = 3 := by unfold Qba; rw [if_pos h]
theorem Qj3 {key nz beside b : Zj} (h : b.length < 32) : Rz key nz beside b = [] := by unfold Rz; rw [if_pos h]
theorem C9 {key nz beside b : Zj} {r : Bool} (h : ¬ b.length < 32) (hr : Uz key nz beside b = r) : Qba key nz beside b = if r then 0 else 10 := by unfold Qba; rw [if_neg h, hr]
theorem Eo {key nz beside b : Zj} {r : Bool} (h : ¬ b.length < 32) (hr : Uz key nz beside b = r) : Rz key nz beside b = if r then Gq key nz (Dt b) else [] := by unfold Rz; rw [if_neg h, hr]
attribute [local irreducible] Zu tK Qdc Jz Ja J9 Bo Qcw Qa9 X0 Z4 Ru Ud
set_option maxHeartbeats 1000000 in
theorem c_seal (key : Zj) (nz : Zj) (va : Value) (la : Zj) (vc : Value) (lc : Zj) (w0 : World)  (hT : Tabs (Yn w0)) (hk : key.length = 32) (hn : nz.length = 12) (hra : Rd (Yn w0) u8 va la) (hla : la.length ≤ 100000) (hrc : Rd (Yn w0) u8 vc lc) (hlc : lc.length ≤ 100000) : Xm prog 33 #[(agg u8 key), (agg u8 nz), va, vc] w0 (fun r w1 => ∃ Hs, Xl u8 5 r (Ko key nz la lc) Hs ∧ Mem w1 (Qu w0) Hs) := by
 refine Qy (args := [(agg u8 key), (agg u8 nz), va, vc]) func33 rfl ntmps33 results33 rfl ?_
 have m0 : Mem w0 (Qu w0) [] := Mem.of_world w0
 have hkt := Qfs key
 have hkm := Qft key
 have hcl := Qak key nz lc
 refine sR <| Y5 (Zw (f := u8) (l := key) m0 rfl) fun w1 b4 m1 => Y5 (Zw (f := u8) (l := nz) m1 rfl) fun w2 b5 m2 => Zv Jp ?_
 refine rN (sR ?_)
 refine Qd (Qw Xf rfl Zi rfl m2.h1 sZ) <| Dx m2 (oc60 (Jb rfl) (Qm3 _ _ (hT.mono fun b o e => (m2).rest b o e) sD)) fun w3 m3 => Zb (Value.tuple #[(agg u8 (Y1 key)), (agg u8 (Vm key))]) <| Qd (v := (agg u8 (Y1 key))) (Zg rfl rfl) <| Qd (v := (agg u8 (Vm key))) (Zg rfl rfl) <| Y5 (Zf m3 Zi) fun w5 b9 m5 => Y5 (Zf m5 Zi) fun w6 b10 m6 => Vq m6 (Qq (f := u8) (l := Y1 key) Q9 Zi rfl rfl sD m6.h1 sZ rfl) fun w7 m7 => Yb m7 (Qq (f := u8) (l := Vm key) Q9 Zi rfl rfl sD m7.h0 sZ rfl) fun w8 m8 => ?_
 refine rN (sR ?_)
 refine Qd (Qw Xf rfl Zi rfl m8.h1 sZ) <| Qd (Qw Sl rfl Qb4 rfl m8.h2 sZ) <| Zb vc <| G5 (oc61 (Qao rfl rfl rfl rfl) (Qi5 _ 1#32 _ vc lc _ sD sD (Rd.ofRest hrc m8) sD)) ?_
 rintro _ w9 ⟨bq10, rfl, k_w9⟩
 have m9 : Mem _ _ [_, _, _, _, _] := Mem.new (H := [_, _, _, _]) (H' := [(bq10, .cells (cl u8 (X0 Z4 (Y1 key) 1#32 nz lc)) 5 (0, 0))]) m8 k_w9
 refine Sv rfl ?_
 refine rN (Qc ?_)
 refine Ju Xh ?_
 refine Qju 4 7 rfl rfl ?_ ?_
 ·
  refine Qju 5 7 rfl rfl ?_ ?_
  ·
   refine Hg [(0, false), (1, false), (2, false), (3, false), (4, true), (5, true), (6, false), (7, true)] 8 rfl Xh <| Xq rfl (Z7 (i := 0) (j := 32) Xf Yw rfl (Zc _ _) (Zc _ _) oM sD sD) <| Y6 rfl (fun _ e' => Qw Sl rfl Qb4 rfl (m9.ext e').h3 sZ) <| Jj rfl va <| yqE rfl rfl ?_
   refine Ba rfl rfl (fun w11 e11 => ?_)
   have m11 := m9.ext e11
   refine J8.mono (oc62 (U2 rfl rfl rfl) (H6 _ va la (Kq bq10 0 ((X0 Z4 (Y1 key) 1#32 nz lc).length) ((X0 Z4 (Y1 key) 1#32 nz lc).length)) (X0 Z4 (Y1 key) 1#32 nz lc) _ sD (Rd.ofRest hra m11) sD (Rd.mkA m11.h0) sD)) ?_
   rintro rxq13 w12 ⟨Hsq13, grxq13, k_w12⟩
   refine ⟨k_w12.toExt, ?_⟩
   have m12 : Mem _ _ (Hsq13 ++ ([_, _, _, _, _])) := Mem.new (H := [_, _, _, _, _]) (H' := Hsq13) m11 k_w12
   refine Ba rfl rfl (fun w14 e14 => ?_)
   have m14 := m12.ext e14
   refine J8.mono (Y0 [rxq13] (List.all_eq_true.1 (Zz grxq13.one Jm)) m14 Qeb Mc rfl rfl rfl) ?_
   rintro _ w15 ⟨b27, rfl, e15, m15⟩
   refine ⟨e15, ?_⟩
   have m15 : Mem w15 (Qu w0) ([(b27, .cells #[rxq13] 27 (0, 0))] ++ (Hsq13 ++ ([(bq10, .cells (cl u8 (X0 Z4 (Y1 key) 1#32 nz lc)) 5 (0, 0)), (b10, .cells (cl u8 (Vm key)) 23 (0, 0)), (b9, .cells (cl u8 (Y1 key)) 23 (0, 0)), (b5, .cells (cl u8 nz) 77 (0, 0)), (b4, .cells (cl u8 key) 23 (0, 0))]))) := m15
   refine U4 rfl rfl (fun w16 e16 => oc59 (X3 rfl rfl) (N7 (sla b10 0 1 0 32 32) (Vm key) (Kq b27 0 1 1) ([(rxq13, Ud nz la (X0 Z4 (Y1 key) 1#32 nz lc))]) _ (hT.mono fun b o e => ((m15.ext e16)).rest b o e) (Rd.slaAll ((Mem.pick3 [_] Hsq13 [_] [_] _ (m15.ext e16))).h0 sD) sD (Rd.mkA (f := Prod.fst) (l := [(rxq13, Ud nz la (X0 Z4 (Y1 key) 1#32 nz lc))]) (m15.ext e16).h0) (Gj (grxq13.rd (Mem.pick [_] Hsq13 _ (m15.ext e16))) Ei) (by rw [Y2]; simp only [E8, Fb]; omega) sD)) ?_
   refine Ba rfl rfl (fun w19 e19 => ?_)
   have m19 := m15.ext e19
   refine J8.mono (Zf m19 Zi) ?_
   rintro _ w20 ⟨b12, rfl, e20, m20⟩
   refine ⟨e20, ?_⟩
   refine Ug m20 fun w21 m21 => Yb m21 (Qq (f := u8) (l := Zu (Vm key) (Ji ([(rxq13, Ud nz la (X0 Z4 (Y1 key) 1#32 nz lc))]))) Q9 Zi rfl rfl sD m21.h0 sZ rfl) fun w22 m22 => ?_
   refine rN (sR ?_)
   refine Yk rfl <| Qd (Z7 (i := 0) (j := 32) Xf Yw rfl (Zc _ _) (Zc _ _) oM sD sD) <| G5 (Yl (f := u8) (Hs := [(bq10, .cells (cl u8 (X0 Z4 (Y1 key) 1#32 nz lc)) 5 (0, 0))]) (H := [_, _] ++ (Hsq13 ++ ([_, _, _, _]))) (Mem.pick2 [_, _] Hsq13 [_] _ m22) (Xl.of u8 5 bq10 (X0 Z4 (Y1 key) 1#32 nz lc)) rfl rfl (Rd.slaAll m22.h0 sD) Zx Zx Yw rfl Q9 sD sD) ?_
   rintro sv23 w23 ⟨Hs23, m23, g23⟩
   replace g23 : Xl u8 5 sv23 ((X0 Z4 (Y1 key) 1#32 nz lc) ++ (Zu (Vm key) (Ji ([(rxq13, Ud nz la (X0 Z4 (Y1 key) 1#32 nz lc))])))) Hs23 := g23
   refine Zv sv23 <| rN ?_
   have m24 := Mem.drop [_] _ (Mem.pick2 Hs23 [_] [_] _ m23)
   have m25 := Mem.drop Hsq13 _ (Mem.pick2 Hs23 [_] Hsq13 _ m24)
   refine Zy <| Qs [sv23] ⟨rfl, trivial⟩ ?_
   have m26 := Mem.drop [_] _ (Mem.pick Hs23 [_] _ m25)
   have m27 := Mem.drop [_] _ (Mem.pick Hs23 [_] _ m26)
   have m28 := Mem.drop [_] _ (Mem.pick Hs23 [_] _ m27)
   have m29 := Mem.drop [_] _ (Mem.pick Hs23 [_] _ m28)
   have m30 := Mem.drop [_] _ (Mem.pick Hs23 [_] _ m29)
   have hfin : (X0 Z4 (Y1 key) 1#32 nz lc) ++ (Zu (Vm key) (Ji ([(rxq13, Ud nz la (X0 Z4 (Y1 key) 1#32 nz lc))]))) = Ko key nz la lc := by simp only [Ko, Qed, Gq, Y2, Y1, Vm]
   exact ⟨Hs23, hfin ▸ g23, by simpa using m30⟩
  ·
   refine Hg [(0, false), (1, false), (2, false), (3, false), (4, true), (7, true), (5, true), (6, false)] 8 rfl Xh <| Xq rfl (Z7 (i := 0) (j := 32) Xf Yw rfl (Zc _ _) (Zc _ _) oM sD sD) <| Y6 rfl (fun _ e' => Qw Sl rfl Qb4 rfl (m9.ext e').h3 sZ) <| Jj rfl va <| yqE rfl rfl ?_
   refine Ba rfl rfl (fun w31 e31 => ?_)
   have m31 := m9.ext e31
   refine J8.mono (oc62 (U2 rfl rfl rfl) (H6 _ va la (Kq bq10 0 ((X0 Z4 (Y1 key) 1#32 nz lc).length) ((X0 Z4 (Y1 key) 1#32 nz lc).length)) (X0 Z4 (Y1 key) 1#32 nz lc) _ sD (Rd.ofRest hra m31) sD (Rd.mkA m31.h0) sD)) ?_
   rintro rxq33 w32 ⟨Hsq33, grxq33, k_w32⟩
   refine ⟨k_w32.toExt, ?_⟩
   have m32 : Mem _ _ (Hsq33 ++ ([_, _, _, _, _])) := Mem.new (H := [_, _, _, _, _]) (H' := Hsq33) m31 k_w32
   refine Ba rfl rfl (fun w34 e34 => ?_)
   have m34 := m32.ext e34
   refine J8.mono (Zf m34 Zi) ?_
   rintro _ w35 ⟨b12_1, rfl, e35, m35⟩
   refine ⟨e35, ?_⟩
   refine Ba rfl rfl (fun w36 e36 => ?_)
   have m36 := m35.ext e36
   refine J8.mono (Y0 [rxq33] (List.all_eq_true.1 (Zz grxq33.one Jm)) m36 Qeb Mc rfl rfl rfl) ?_
   rintro _ w37 ⟨b27_1, rfl, e37, m37⟩
   refine ⟨e37, ?_⟩
   have m37 : Mem w37 (Qu w0) ([(b27_1, .cells #[rxq33] 27 (0, 0)), (b12_1, .cells (cl u8 (List.replicate 32 0)) 23 (0, 0))] ++ (Hsq33 ++ ([(bq10, .cells (cl u8 (X0 Z4 (Y1 key) 1#32 nz lc)) 5 (0, 0)), (b10, .cells (cl u8 (Vm key)) 23 (0, 0)), (b9, .cells (cl u8 (Y1 key)) 23 (0, 0)), (b5, .cells (cl u8 nz) 77 (0, 0)), (b4, .cells (cl u8 key) 23 (0, 0))]))) := m37
   refine U4 rfl rfl (fun w38 e38 => oc59 (X3 rfl rfl) (N7 (sla b10 0 1 0 32 32) (Vm key) (Kq b27_1 0 1 1) ([(rxq33, Ud nz la (X0 Z4 (Y1 key) 1#32 nz lc))]) _ (hT.mono fun b o e => ((m37.ext e38)).rest b o e) (Rd.slaAll ((Mem.pick3 [_, _] Hsq33 [_] [_] _ (m37.ext e38))).h0 sD) sD (Rd.mkA (f := Prod.fst) (l := [(rxq33, Ud nz la (X0 Z4 (Y1 key) 1#32 nz lc))]) (m37.ext e38).h0) (Gj (grxq33.rd (Mem.pick [_, _] Hsq33 _ (m37.ext e38))) Ei) (by rw [Y2]; simp only [E8, Fb]; omega) sD)) <| Ug m37 fun w41 m41 => Vq m41 (Qq (f := u8) (l := Zu (Vm key) (Ji ([(rxq33, Ud nz la (X0 Z4 (Y1 key) 1#32 nz lc))]))) Q9 Zi rfl rfl sD m41.h1 sZ rfl) fun w42 m42 => rN ?_
   have m43 := Mem.drop [_] _ m42
   have m44 := Mem.drop Hsq33 _ (Mem.pick [_] Hsq33 _ m43)
   refine sR <| Yk rfl <| Qd (Z7 (i := 0) (j := 32) Xf Yw rfl (Zc _ _) (Zc _ _) oM sD sD) <| G5 (Yl (f := u8) (Hs := [(bq10, .cells (cl u8 (X0 Z4 (Y1 key) 1#32 nz lc)) 5 (0, 0))]) (H := [_, _, _, _, _]) (Mem.pick [_] [_] _ m44) (Xl.of u8 5 bq10 (X0 Z4 (Y1 key) 1#32 nz lc)) rfl rfl (Rd.slaAll m44.h0 sD) Zx Zx Yw rfl Q9 sD sD) ?_
   rintro sv45 w45 ⟨Hs45, m45, g45⟩
   replace g45 : Xl u8 5 sv45 ((X0 Z4 (Y1 key) 1#32 nz lc) ++ (Zu (Vm key) (Ji ([(rxq33, Ud nz la (X0 Z4 (Y1 key) 1#32 nz lc))])))) Hs45 := g45
   refine Zv sv45 ?_
   refine rN (Zy ?_)
   refine Qs [sv45] ⟨rfl, trivial⟩ ?_
   have m46 := Mem.drop [_] _ (Mem.pick Hs45 [_] _ m45)
   have m47 := Mem.drop [_] _ (Mem.pick Hs45 [_] _ m46)
   have m48 := Mem.drop [_] _ (Mem.pick Hs45 [_] _ m47)
   have m49 := Mem.drop [_] _ (Mem.pick Hs45 [_] _ m48)
   have m50 := Mem.drop [_] _ (Mem.pick Hs45 [_] _ m49)
   have hfin : (X0 Z4 (Y1 key) 1#32 nz lc) ++ (Zu (Vm key) (Ji ([(rxq33, Ud nz la (X0 Z4 (Y1 key) 1#32 nz lc))]))) = Ko key nz la lc := by simp only [Ko, Qed, Gq, Y2, Y1, Vm]
   exact ⟨Hs45, hfin ▸ g45, by simpa using m50⟩
 ·
  refine Hg [(0, false), (1, false), (2, false), (3, false), (7, true), (4, true), (5, true), (6, false)] 8 rfl Xh <| Xq rfl (Z7 (i := 0) (j := 32) Xf Yw rfl (Zc _ _) (Zc _ _) oM sD sD) <| Y6 rfl (fun _ e' => Qw Sl rfl Qb4 rfl (m9.ext e').h3 sZ) <| Jj rfl va <| yqE rfl rfl ?_
  refine Ba rfl rfl (fun w51 e51 => ?_)
  have m51 := m9.ext e51
  refine J8.mono (Zf m51 Zi) ?_
  rintro _ w52 ⟨b12_2, rfl, e52, m52⟩
  refine ⟨e52, ?_⟩
  refine Ba rfl rfl (fun w53 e53 => ?_)
  have m53 := m52.ext e53
  refine J8.mono (oc62 (U2 rfl rfl rfl) (H6 _ va la (Kq bq10 0 ((X0 Z4 (Y1 key) 1#32 nz lc).length) ((X0 Z4 (Y1 key) 1#32 nz lc).length)) (X0 Z4 (Y1 key) 1#32 nz lc) _ sD (Rd.ofRest hra m53) sD (Rd.mkA m53.h1) sD)) ?_
  rintro rxq55 w54 ⟨Hsq55, grxq55, k_w54⟩
  refine ⟨k_w54.toExt, ?_⟩
  have m54 : Mem _ _ (Hsq55 ++ ([_, _, _, _, _, _])) := Mem.new (H := [_, _, _, _, _, _]) (H' := Hsq55) m53 k_w54
  refine Ba rfl rfl (fun w56 e56 => ?_)
  have m56 := m54.ext e56
  refine J8.mono (Y0 [rxq55] (List.all_eq_true.1 (Zz grxq55.one Jm)) m56 Qeb Mc rfl rfl rfl) ?_
  rintro _ w57 ⟨b27_2, rfl, e57, m57⟩
  refine ⟨e57, ?_⟩
  have m57 : Mem w57 (Qu w0) ([(b27_2, .cells #[rxq55] 27 (0, 0))] ++ (Hsq55 ++ ([(b12_2, .cells (cl u8 (List.replicate 32 0)) 23 (0, 0)), (bq10, .cells (cl u8 (X0 Z4 (Y1 key) 1#32 nz lc)) 5 (0, 0)), (b10, .cells (cl u8 (Vm key)) 23 (0, 0)), (b9, .cells (cl u8 (Y1 key)) 23 (0, 0)), (b5, .cells (cl u8 nz) 77 (0, 0)), (b4, .cells (cl u8 key) 23 (0, 0))]))) := m57
  refine U4 rfl rfl (fun w58 e58 => oc59 (X3 rfl rfl) (N7 (sla b10 0 1 0 32 32) (Vm key) (Kq b27_2 0 1 1) ([(rxq55, Ud nz la (X0 Z4 (Y1 key) 1#32 nz lc))]) _ (hT.mono fun b o e => ((m57.ext e58)).rest b o e) (Rd.slaAll ((Mem.pick3 [_] Hsq55 [_, _] [_] _ (m57.ext e58))).h0 sD) sD (Rd.mkA (f := Prod.fst) (l := [(rxq55, Ud nz la (X0 Z4 (Y1 key) 1#32 nz lc))]) (m57.ext e58).h0) (Gj (grxq55.rd (Mem.pick [_] Hsq55 _ (m57.ext e58))) Ei) (by rw [Y2]; simp only [E8, Fb]; omega) sD)) <| Ug m57 fun w61 m61 => Ve (Qq (f := u8) (l := Zu (Vm key) (Ji ([(rxq55, Ud nz la (X0 Z4 (Y1 key) 1#32 nz lc))]))) Q9 Zi rfl rfl sD ((Mem.pick2 [_] Hsq55 [_] _ m61)).h0 sZ rfl) ?_
  rintro _ w62 uq62
  have m62 : Mem _ _ ([_, _] ++ (Hsq55 ++ ([_, _, _, _, _]))) := Mem.upd0 (Mem.pick2 [_] Hsq55 [_] _ m61) uq62
  refine rN (sR ?_)
  refine Yk rfl <| Qd (Z7 (i := 0) (j := 32) Xf Yw rfl (Zc _ _) (Zc _ _) oM sD sD) <| G5 (Yl (f := u8) (Hs := [(bq10, .cells (cl u8 (X0 Z4 (Y1 key) 1#32 nz lc)) 5 (0, 0))]) (H := [_, _] ++ (Hsq55 ++ ([_, _, _, _]))) (Mem.pick2 [_, _] Hsq55 [_] _ m62) (Xl.of u8 5 bq10 (X0 Z4 (Y1 key) 1#32 nz lc)) rfl rfl (Rd.slaAll m62.h0 sD) Zx Zx Yw rfl Q9 sD sD) ?_
  rintro sv63 w63 ⟨Hs63, m63, g63⟩
  replace g63 : Xl u8 5 sv63 ((X0 Z4 (Y1 key) 1#32 nz lc) ++ (Zu (Vm key) (Ji ([(rxq55, Ud nz la (X0 Z4 (Y1 key) 1#32 nz lc))])))) Hs63 := g63
  refine Zv sv63 ?_
  refine rN (Zy ?_)
  refine Qs [sv63] ⟨rfl, trivial⟩ ?_
  have m64 := Mem.drop [_] _ (Mem.pick Hs63 [_] _ m63)
  have m65 := Mem.drop [_] _ (Mem.pick Hs63 [_] _ m64)
  have m66 := Mem.drop Hsq55 _ (Mem.pick Hs63 Hsq55 _ m65)
  have m67 := Mem.drop [_] _ (Mem.pick Hs63 [_] _ m66)
  have m68 := Mem.drop [_] _ (Mem.pick Hs63 [_] _ m67)
  have m69 := Mem.drop [_] _ (Mem.pick Hs63 [_] _ m68)
  have m70 := Mem.drop [_] _ (Mem.pick Hs63 [_] _ m69)
  have hfin : (X0 Z4 (Y1 key) 1#32 nz lc) ++ (Zu (Vm key) (Ji ([(rxq55, Ud nz la (X0 Z4 (Y1 key) 1#32 nz lc))]))) = Ko key nz la lc := by simp only [Ko, Qed, Gq, Y2, Y1, Vm]
  exact ⟨Hs63, hfin ▸ g63, by simpa using m70⟩
theorem Qi7 (va vb : Value) (la lb : Zj) (w0 : World)  (hra : Rd (Yn w0) u8 va la) (hrb : Rd (Yn w0) u8 vb lb) (hla : la.length ≤ 281474976710656) : Xm prog 77 #[va, vb] w0 (fun r w1 => r = (bl (la == lb)) ∧ Ext w0 w1) := by
 refine Qy (args := [va, vb]) func77 rfl ntmps77 results77 rfl ?_
 have m0 : Mem w0 (Qu w0) [] := Mem.of_world w0
 refine sR <| Zv (bl false) ?_
 refine rN (Qc (sR ?_))
 refine Zb va <| Qd (Yg (Rd.ofRest hra m0) Zx rfl) <| Zb vb <| Qd (Yg (Rd.ofRest hrb m0) Zx rfl) <| Qd (Je rfl rfl) <| rN ?_
 refine Xb rfl (fun hc1 => ?_) (fun hc1 => ?_)
 ·
  have hc1p := bne_iff_ne.1 hc1
  refine sR <| Zv (bl false) ?_
  refine rN (Zy (Y7 ?_))
  refine Qs [(bl false)] ⟨rfl, trivial⟩ ?_
  exact ⟨congrArg bl (same_len hc1p), m0.toExt⟩
 ·
  have hc1p := Xz hc1
  refine Qo (Qa (sR ?_))
  refine Zv (u8 0#8) ?_
  refine rN (Qc (sR ?_))
  refine Zb va <| Qd (Yg (Rd.ofRest hra m0) Zx rfl) <| Zb (i64 0) ?_
  refine rN (Qj ?_)
  refine Jq (fun g wv => ∃ (k : Nat), (k ≤ la.length) ∧ g 0 = va ∧ g 1 = vb ∧ g 4 = (bl false) ∧ g 5 = (u8 (Bg la lb k)) ∧ g 11 = (bl ((la.length : Int) != (lb.length : Int))) ∧ g 13 = (i64 (la.length : Int)) ∧ g 14 = (i64 (k : Int)) ∧ Mem wv (Qu w0) []) (fun g wv => ((la.length : Int) - RowKit.intOf (g 14)).toNat) ?_ ?_
  ·exact ⟨0, oM, rfl, rfl, rfl, rfl, rfl, rfl, rfl, m0⟩
  rintro fr2 w3 ⟨k, hk, s0, s1, s4, s5, s11, s13, s14, m3⟩
  have z14 := s14
  have z5 := s5
  refine sR <| Qd (Xy s14 s13) ?_
  refine rN (Qc ?_)
  refine Xb rfl (fun hc4 => ?_) (fun hc4 => ?_)
  ·
   have hc4p := of_decide_eq_true hc4
   refine Qo (Qa (Qc (Qj (sR ?_))))
   refine Yk s14 <| Zv (i64 (k : Int)) <| rN <| Xj (dl 10) 10 Xh <| yqE rfl s5 <| yqE rfl s0 <| Jj rfl (i64 (k : Int)) <| Y6 rfl (fun _ e' => Xr (Rd.ofRest hra (m3.ext e')) Zx Yw rfl rfl oM sD) <| Y6 (v := (u8 (la.getD k 0))) rfl (fun _ e' => Y4 (l := la) (i := (k : Int)) (dflt := 0) (Rd.ofRest hra (m3.ext e')) Uu rfl oM sD rfl) <| yqE rfl s1 <| Jj rfl (i64 (k : Int)) <| Y6 rfl (fun _ e' => Xr (Rd.ofRest hrb (m3.ext e')) Zx Yw rfl rfl oM sD) ?_
   refine Y6 (v := (u8 (lb.getD k 0))) rfl (fun _ e' => Y4 (l := lb) (i := (k : Int)) (dflt := 0) (Rd.ofRest hrb (m3.ext e')) Uu rfl oM sD rfl) <| Xq rfl (Qa0 rfl rfl) <| Ug m3 fun w5 m5 => Qd (Qcs rfl rfl) <| Zv (u8 ((Bg la lb k) ||| ((la.getD k 0) ^^^ (lb.getD k 0)))) ?_
   refine Zo (Qh (Qb ?_))
   refine Qd (Z9 (b := 1) s14 rfl oM oM) <| Zb (i64 ((k : Int) + 1)) <| rN ?_
   exact ⟨⟨k + 1, oM, s0, s1, s4, rfl, s11, s13, rfl, m5⟩, Am rfl z14 oM oM⟩
  ·
   have hc4p := of_decide_eq_false hc4
   obtain rfl : k = la.length := by omega
   refine Yc ?_
   refine Qr (Qr (Xp ?_))
   refine sR <| Yk s5 <| Qd (Qdk (b := 0#8) rfl rfl) <| Zv (bl ((Bg la lb la.length) == 0#8)) ?_
   refine rN (Zy ?_)
   refine Qs [(bl ((Bg la lb la.length) == 0#8))] ⟨rfl, trivial⟩ ?_
   exact ⟨congrArg bl (Qje hc1p), m3.toExt⟩
set_option maxHeartbeats 1000000 in
theorem c_open (key : Zj) (nz : Zj) (va : Value) (la : Zj) (vc : Value) (lc : Zj) (w0 : World)  (hT : Tabs (Yn w0)) (hk : key.length = 32) (hn : nz.length = 12) (hra : Rd (Yn w0) u8 va la) (hla : la.length ≤ 100000) (hrc : Rd (Yn w0) u8 vc lc) (hlc : lc.length ≤ 100000) : Xm prog 54 #[(agg u8 key), (agg u8 nz), va, vc] w0 (fun r w1 => ∃ v Hs, r = Value.tuple #[v, i64 (Qba key nz la lc)] ∧ Xl u8 5 v (Rz key nz la lc) Hs ∧ Mem w1 (Qu w0) Hs) := by
 refine Qy (args := [(agg u8 key), (agg u8 nz), va, vc]) func54 rfl ntmps54 results54 rfl ?_
 have m0 : Mem w0 (Qu w0) [] := Mem.of_world w0
 have hkt := Qfs key
 have hkm := Qft key
 have hcl := Qak key nz lc
 refine sR <| Y5 (Zw (f := u8) (l := key) m0 rfl) fun w1 b4 m1 => Y5 (Zw (f := u8) (l := nz) m1 rfl) fun w2 b5 m2 => Zv Jp <| Zv (i64 0) ?_
 refine rN (sR ?_)
 refine Zb vc <| Qd (Yg (Rd.ofRest hrc m2) Zx rfl) <| Qd (Kw (b := 32) rfl rfl oM oM) <| Zv (i64 ((lc.length : Int) - 32)) ?_
 refine rN (Qc (sR ?_))
 refine Zb (i64 ((lc.length : Int) - 32)) <| Qd (Xy (b := 0) rfl rfl) <| rN ?_
 refine Xb rfl (fun hc3 => ?_) (fun hc3 => ?_)
 ·
  have hc3p := of_decide_eq_true hc3
  refine sR <| Zv Jp <| Zv (i64 3) ?_
  refine rN (Zy (Y7 ?_))
  refine Qs [Jp, (i64 3)] ⟨rfl, rfl, trivial⟩ ?_
  have m4 := Mem.drop [_] _ m2
  have m5 := Mem.drop [_] _ m4
  exact ⟨Jp, [], by rw [Qlr oM]; rfl, by rw [Qj3 oM]; exact (Xl.none _ _), by simpa using m5⟩
 ·
  have hc3p := of_decide_eq_false hc3
  refine Qo (Qa (sR ?_))
  refine Qd (Qw Xf rfl Zi rfl m2.h1 sZ) <| Dx m2 (oc60 (Jb rfl) (Qm3 _ _ (hT.mono fun b o e => (m2).rest b o e) sD)) fun w6 m6 => Zb (Value.tuple #[(agg u8 (Y1 key)), (agg u8 (Vm key))]) <| Qd (v := (agg u8 (Y1 key))) (Zg rfl rfl) <| Qd (v := (agg u8 (Vm key))) (Zg rfl rfl) <| Y5 (Zf m6 Zi) fun w8 b11 m8 => Y5 (Zf m8 Zi) fun w9 b12 m9 => Vq m9 (Qq (f := u8) (l := Y1 key) Q9 Zi rfl rfl sD m9.h1 sZ rfl) fun w10 m10 => Yb m10 (Qq (f := u8) (l := Vm key) Q9 Zi rfl rfl sD m10.h0 sZ rfl) fun w11 m11 => ?_
  refine rN (Qc ?_)
  refine Ju Xh ?_
  refine Qju 6 9 rfl rfl ?_ ?_
  ·
   refine Qju 7 9 rfl rfl ?_ ?_
   ·
    refine Hg [(0, false), (1, false), (2, false), (3, false), (4, false), (5, false), (6, true), (7, true), (8, false), (9, true)] 10 rfl Xh <| Xq rfl (Z7 (i := 0) (j := 32) Xf Yw rfl (Zc _ _) (Zc _ _) oM sD sD) <| Y6 rfl (fun _ e' => Qw Sl rfl Qb4 rfl (m11.ext e').h2 sZ) <| Jj rfl va <| Jj rfl vc <| Jj rfl (i64 ((lc.length : Int) - 32)) <| Y6 rfl (fun _ e' => Yv (i := 0) (j := (lc.length : Int) - 32) (Rd.ofRest hrc (m11.ext e')) Zx Yw rfl (Zc _ _) (Xv (k := .i64) (i := (lc.length : Int) - 32) rfl) oM sD sD) ?_
    refine Ba rfl rfl (fun w12 e12 => ?_)
    have m12 := m11.ext e12
    refine J8.mono (oc62 (U2 rfl rfl rfl) (H6 _ va la (Ai vc 0 ((lc.length : Int) - 32)) ((lc.drop (0 : Int).toNat).take (((lc.length : Int) - 32 : Int).toNat - (0 : Int).toNat)) _ sD (Rd.ofRest hra m12) sD (Rd.cast (l' := (lc.drop (0 : Int).toNat).take (((lc.length : Int) - 32 : Int).toNat - (0 : Int).toNat)) (Rd.sub (Rd.ofRest hrc m12) oM sD sD) rfl) sD)) ?_
    rintro rxq14 w13 ⟨Hsq14, grxq14, k_w13⟩
    refine ⟨k_w13.toExt, ?_⟩
    have m13 : Mem _ _ (Hsq14 ++ ([_, _, _, _])) := Mem.new (H := [_, _, _, _]) (H' := Hsq14) m12 k_w13
    refine Ba rfl rfl (fun w15 e15 => ?_)
    have m15 := m13.ext e15
    refine J8.mono (Y0 [rxq14] (List.all_eq_true.1 (Zz grxq14.one Jm)) m15 Qeb Mc rfl rfl rfl) ?_
    rintro _ w16 ⟨b31, rfl, e16, m16⟩
    refine ⟨e16, ?_⟩
    have m16 : Mem w16 (Qu w0) ([(b31, .cells #[rxq14] 27 (0, 0))] ++ (Hsq14 ++ ([(b12, .cells (cl u8 (Vm key)) 23 (0, 0)), (b11, .cells (cl u8 (Y1 key)) 23 (0, 0)), (b5, .cells (cl u8 nz) 77 (0, 0)), (b4, .cells (cl u8 key) 23 (0, 0))]))) := m16
    refine U4 rfl rfl (fun w17 e17 => oc59 (X3 rfl rfl) (N7 (sla b12 0 1 0 32 32) (Vm key) (Kq b31 0 1 1) ([(rxq14, Ud nz la ((lc.drop (0 : Int).toNat).take (((lc.length : Int) - 32 : Int).toNat - (0 : Int).toNat)))]) _ (hT.mono fun b o e => ((m16.ext e17)).rest b o e) (Rd.slaAll ((Mem.pick2 [_] Hsq14 [_] _ (m16.ext e17))).h0 sD) sD (Rd.mkA (f := Prod.fst) (l := [(rxq14, Ud nz la ((lc.drop (0 : Int).toNat).take (((lc.length : Int) - 32 : Int).toNat - (0 : Int).toNat)))]) (m16.ext e17).h0) (Gj (grxq14.rd (Mem.pick [_] Hsq14 _ (m16.ext e17))) Ei) (by rw [Y2]; simp only [E8]; simp; omega) sD)) ?_
    refine Ba rfl rfl (fun w20 e20 => ?_)
    have m20 := m16.ext e20
    refine J8.mono (Zf m20 Zi) ?_
    rintro _ w21 ⟨b13, rfl, e21, m21⟩
    refine ⟨e21, ?_⟩
    refine Ug m21 fun w22 m22 => Yb m22 (Qq (f := u8) (l := Zu (Vm key) (Ji ([(rxq14, Ud nz la ((lc.drop (0 : Int).toNat).take (((lc.length : Int) - 32 : Int).toNat - (0 : Int).toNat)))]))) Q9 Zi rfl rfl sD m22.h0 sZ rfl) fun w23 m23 => rN ?_
    have m24 := Mem.drop [_] _ (Mem.pick [_] [_] _ m23)
    have m25 := Mem.drop Hsq14 _ (Mem.pick [_] Hsq14 _ m24)
    refine Qc (Qc ?_)
    refine Xj (dl 4) 4 Xh <| Xq rfl (Z7 (i := 0) (j := 32) Xf Yw rfl (Zc _ _) (Zc _ _) oM sD sD) <| Jj rfl vc <| Jj rfl (i64 ((lc.length : Int) - 32)) <| Y6 rfl (fun _ e' => Yv (i := (lc.length : Int) - 32) (j := (lc.length : Int)) (Rd.ofRest hrc (m25.ext e')) Zx Yw rfl (Xv (k := .i64) (i := (lc.length : Int) - 32) rfl) (Zc _ _) oM sD sD) <| Ug m25 fun w26 m26 => Dx m26 (oc77 (X3 rfl rfl) (Qi7 (sla b13 0 1 0 32 32) (Ai vc ((lc.length : Int) - 32) (lc.length : Int)) (Zu (Vm key) (Ji ([(rxq14, Ud nz la ((lc.drop (0 : Int).toNat).take (((lc.length : Int) - 32 : Int).toNat - (0 : Int).toNat)))]))) ((lc.drop ((lc.length : Int) - 32 : Int).toNat).take (((lc.length : Int) : Int).toNat - ((lc.length : Int) - 32 : Int).toNat)) _ (Rd.slaAll m26.h0 sD) (Rd.cast (l' := (lc.drop ((lc.length : Int) - 32 : Int).toNat).take (((lc.length : Int) : Int).toNat - ((lc.length : Int) - 32 : Int).toNat)) (Rd.sub (Rd.ofRest hrc m26) oM sD sD) rfl) sD)) fun w27 m27 => Qd (Qac rfl) <| rN ?_
    refine Xb rfl (fun hc29 => ?_) (fun hc29 => ?_)
    ·
     have hc29n : ((Zu (Vm key) (Ji ([(rxq14, Ud nz la ((lc.drop (0 : Int).toNat).take (((lc.length : Int) - 32 : Int).toNat - (0 : Int).toNat)))]))) == ((lc.drop ((lc.length : Int) - 32 : Int).toNat).take (((lc.length : Int) : Int).toNat - ((lc.length : Int) - 32 : Int).toNat))) = false := by simpa using hc29
     have hc29p := ne_of_beq_false hc29n
     refine sR <| Zv Jp <| Zv (i64 10) ?_
     refine rN (Zy (Y7 ?_))
     refine Qs [Jp, (i64 10)] ⟨rfl, rfl, trivial⟩ ?_
     have m30 := Mem.drop [_] _ m27
     have m31 := Mem.drop [_] _ m30
     have m32 := Mem.drop [_] _ m31
     have m33 := Mem.drop [_] _ m32
     have m34 := Mem.drop [_] _ m33
     have hrt : Uz key nz la lc = false := by
      unfold Uz Qed; rw [← Ff oM, ← Pv oM]
      first | simpa [Y2] using hc29 | (simp only [Vm]; simpa [Y2] using hc29)
     exact ⟨Jp, [], by rw [C9 oM hrt]; rfl, by rw [Eo oM hrt]; exact (Xl.none _ _), by simpa using m34⟩
    ·
     have hc29n : ((Zu (Vm key) (Ji ([(rxq14, Ud nz la ((lc.drop (0 : Int).toNat).take (((lc.length : Int) - 32 : Int).toNat - (0 : Int).toNat)))]))) == ((lc.drop ((lc.length : Int) - 32 : Int).toNat).take (((lc.length : Int) : Int).toNat - ((lc.length : Int) - 32 : Int).toNat))) = true := by simpa using hc29
     have hc29p := eq_of_beq hc29n
     refine Qo (Qa (Qc ?_))
     refine Xj (dl 5) 5 Xh <| Y6 rfl (fun _ e' => Qw Xf rfl Zi rfl (m27.ext e').h2 sZ) <| Y6 rfl (fun _ e' => Qw Sl rfl Qb4 rfl (m27.ext e').h3 sZ) <| Jj rfl vc <| Jj rfl (i64 ((lc.length : Int) - 32)) <| Y6 rfl (fun _ e' => Yv (i := 0) (j := (lc.length : Int) - 32) (Rd.ofRest hrc (m27.ext e')) Zx Yw rfl (Zc _ _) (Xv (k := .i64) (i := (lc.length : Int) - 32) rfl) oM sD sD) <| Ug m27 fun w35 m35 => G5 (oc61 (Qao rfl rfl rfl rfl) (Qi5 _ 1#32 _ (Ai vc 0 ((lc.length : Int) - 32)) ((lc.drop (0 : Int).toNat).take (((lc.length : Int) - 32 : Int).toNat - (0 : Int).toNat)) _ sD sD (Rd.cast (l' := (lc.drop (0 : Int).toNat).take (((lc.length : Int) - 32 : Int).toNat - (0 : Int).toNat)) (Rd.sub (Rd.ofRest hrc m35) oM sD sD) rfl) sD)) ?_
     rintro _ w36 ⟨bq37, rfl, k_w36⟩
     have m36 : Mem _ _ [_, _, _, _, _, _] := Mem.new (H := [_, _, _, _, _]) (H' := [(bq37, .cells (cl u8 (X0 Z4 (Y1 key) 1#32 nz ((lc.drop (0 : Int).toNat).take (((lc.length : Int) - 32 : Int).toNat - (0 : Int).toNat)))) 5 (0, 0))]) m35 k_w36
     refine Sv rfl <| Zv (i64 0) ?_
     refine rN (Zy ?_)
     refine Qs [(Kq bq37 0 ((X0 Z4 (Y1 key) 1#32 nz ((lc.drop (0 : Int).toNat).take (((lc.length : Int) - 32 : Int).toNat - (0 : Int).toNat))).length) ((X0 Z4 (Y1 key) 1#32 nz ((lc.drop (0 : Int).toNat).take (((lc.length : Int) - 32 : Int).toNat - (0 : Int).toNat))).length)), (i64 0)] ⟨rfl, rfl, trivial⟩ ?_
     have m38 := Mem.drop [_] _ (Mem.pick [_] [_] _ m36)
     have m39 := Mem.drop [_] _ (Mem.pick [_] [_] _ m38)
     have m40 := Mem.drop [_] _ (Mem.pick [_] [_] _ m39)
     have m41 := Mem.drop [_] _ (Mem.pick [_] [_] _ m40)
     have m42 := Mem.drop [_] _ (Mem.pick [_] [_] _ m41)
     have hrt : Uz key nz la lc = true := by
      unfold Uz Qed; rw [← Ff oM, ← Pv oM]
      first | simpa [Y2] using hc29 | (simp only [Vm]; simpa [Y2] using hc29)
     have hfin : X0 Z4 (Y1 key) 1#32 nz ((lc.drop (0 : Int).toNat).take (((lc.length : Int) - 32 : Int).toNat - (0 : Int).toNat)) = Gq key nz (Dt lc) := by rw [← Ff oM]; first | rfl | (rw [← Qi1]; simp only [Qal, Y1])
     exact ⟨(Kq bq37 0 ((X0 Z4 (Y1 key) 1#32 nz ((lc.drop (0 : Int).toNat).take (((lc.length : Int) - 32 : Int).toNat - (0 : Int).toNat))).length) ((X0 Z4 (Y1 key) 1#32 nz ((lc.drop (0 : Int).toNat).take (((lc.length : Int) - 32 : Int).toNat - (0 : Int).toNat))).length)), [(bq37, .cells (cl u8 (X0 Z4 (Y1 key) 1#32 nz ((lc.drop (0 : Int).toNat).take (((lc.length : Int) - 32 : Int).toNat - (0 : Int).toNat)))) 5 (0, 0))], by rw [C9 oM hrt]; rfl, by rw [Eo oM hrt]; show Xl _ _ _ (Gq key nz (Dt lc)) _; exact hfin ▸ (Xl.of u8 5 bq37 (X0 Z4 (Y1 key) 1#32 nz ((lc.drop (0 : Int).toNat).take (((lc.length : Int) - 32 : Int).toNat - (0 : Int).toNat)))), by simpa using m42⟩
   ·
    refine Hg [(0, false), (1, false), (2, false), (3, false), (4, false), (5, false), (6, true), (9, true), (7, true), (8, false)] 10 rfl Xh <| Xq rfl (Z7 (i := 0) (j := 32) Xf Yw rfl (Zc _ _) (Zc _ _) oM sD sD) <| Y6 rfl (fun _ e' => Qw Sl rfl Qb4 rfl (m11.ext e').h2 sZ) <| Jj rfl va <| Jj rfl vc <| Jj rfl (i64 ((lc.length : Int) - 32)) <| Y6 rfl (fun _ e' => Yv (i := 0) (j := (lc.length : Int) - 32) (Rd.ofRest hrc (m11.ext e')) Zx Yw rfl (Zc _ _) (Xv (k := .i64) (i := (lc.length : Int) - 32) rfl) oM sD sD) ?_
    refine Ba rfl rfl (fun w43 e43 => ?_)
    have m43 := m11.ext e43
    refine J8.mono (oc62 (U2 rfl rfl rfl) (H6 _ va la (Ai vc 0 ((lc.length : Int) - 32)) ((lc.drop (0 : Int).toNat).take (((lc.length : Int) - 32 : Int).toNat - (0 : Int).toNat)) _ sD (Rd.ofRest hra m43) sD (Rd.cast (l' := (lc.drop (0 : Int).toNat).take (((lc.length : Int) - 32 : Int).toNat - (0 : Int).toNat)) (Rd.sub (Rd.ofRest hrc m43) oM sD sD) rfl) sD)) ?_
    rintro rxq45 w44 ⟨Hsq45, grxq45, k_w44⟩
    refine ⟨k_w44.toExt, ?_⟩
    have m44 : Mem _ _ (Hsq45 ++ ([_, _, _, _])) := Mem.new (H := [_, _, _, _]) (H' := Hsq45) m43 k_w44
    refine Ba rfl rfl (fun w46 e46 => ?_)
    have m46 := m44.ext e46
    refine J8.mono (Zf m46 Zi) ?_
    rintro _ w47 ⟨b13_1, rfl, e47, m47⟩
    refine ⟨e47, ?_⟩
    refine Ba rfl rfl (fun w48 e48 => ?_)
    have m48 := m47.ext e48
    refine J8.mono (Y0 [rxq45] (List.all_eq_true.1 (Zz grxq45.one Jm)) m48 Qeb Mc rfl rfl rfl) ?_
    rintro _ w49 ⟨b31_1, rfl, e49, m49⟩
    refine ⟨e49, ?_⟩
    have m49 : Mem w49 (Qu w0) ([(b31_1, .cells #[rxq45] 27 (0, 0)), (b13_1, .cells (cl u8 (List.replicate 32 0)) 23 (0, 0))] ++ (Hsq45 ++ ([(b12, .cells (cl u8 (Vm key)) 23 (0, 0)), (b11, .cells (cl u8 (Y1 key)) 23 (0, 0)), (b5, .cells (cl u8 nz) 77 (0, 0)), (b4, .cells (cl u8 key) 23 (0, 0))]))) := m49
    refine U4 rfl rfl (fun w50 e50 => oc59 (X3 rfl rfl) (N7 (sla b12 0 1 0 32 32) (Vm key) (Kq b31_1 0 1 1) ([(rxq45, Ud nz la ((lc.drop (0 : Int).toNat).take (((lc.length : Int) - 32 : Int).toNat - (0 : Int).toNat)))]) _ (hT.mono fun b o e => ((m49.ext e50)).rest b o e) (Rd.slaAll ((Mem.pick2 [_, _] Hsq45 [_] _ (m49.ext e50))).h0 sD) sD (Rd.mkA (f := Prod.fst) (l := [(rxq45, Ud nz la ((lc.drop (0 : Int).toNat).take (((lc.length : Int) - 32 : Int).toNat - (0 : Int).toNat)))]) (m49.ext e50).h0) (Gj (grxq45.rd (Mem.pick [_, _] Hsq45 _ (m49.ext e50))) Ei) (by rw [Y2]; simp only [E8]; simp; omega) sD)) <| Ug m49 fun w53 m53 => Vq m53 (Qq (f := u8) (l := Zu (Vm key) (Ji ([(rxq45, Ud nz la ((lc.drop (0 : Int).toNat).take (((lc.length : Int) - 32 : Int).toNat - (0 : Int).toNat)))]))) Q9 Zi rfl rfl sD m53.h1 sZ rfl) fun w54 m54 => rN ?_
    have m55 := Mem.drop [_] _ m54
    have m56 := Mem.drop Hsq45 _ (Mem.pick [_] Hsq45 _ m55)
    refine Qc (Qc ?_)
    refine Xj (dl 4) 4 Xh <| Xq rfl (Z7 (i := 0) (j := 32) Xf Yw rfl (Zc _ _) (Zc _ _) oM sD sD) <| Jj rfl vc <| Jj rfl (i64 ((lc.length : Int) - 32)) <| Y6 rfl (fun _ e' => Yv (i := (lc.length : Int) - 32) (j := (lc.length : Int)) (Rd.ofRest hrc (m56.ext e')) Zx Yw rfl (Xv (k := .i64) (i := (lc.length : Int) - 32) rfl) (Zc _ _) oM sD sD) <| Ug m56 fun w57 m57 => Dx m57 (oc77 (X3 rfl rfl) (Qi7 (sla b13_1 0 1 0 32 32) (Ai vc ((lc.length : Int) - 32) (lc.length : Int)) (Zu (Vm key) (Ji ([(rxq45, Ud nz la ((lc.drop (0 : Int).toNat).take (((lc.length : Int) - 32 : Int).toNat - (0 : Int).toNat)))]))) ((lc.drop ((lc.length : Int) - 32 : Int).toNat).take (((lc.length : Int) : Int).toNat - ((lc.length : Int) - 32 : Int).toNat)) _ (Rd.slaAll m57.h0 sD) (Rd.cast (l' := (lc.drop ((lc.length : Int) - 32 : Int).toNat).take (((lc.length : Int) : Int).toNat - ((lc.length : Int) - 32 : Int).toNat)) (Rd.sub (Rd.ofRest hrc m57) oM sD sD) rfl) sD)) fun w58 m58 => Qd (Qac rfl) <| rN ?_
    refine Xb rfl (fun hc60 => ?_) (fun hc60 => ?_)
    ·
     have hc60n : ((Zu (Vm key) (Ji ([(rxq45, Ud nz la ((lc.drop (0 : Int).toNat).take (((lc.length : Int) - 32 : Int).toNat - (0 : Int).toNat)))]))) == ((lc.drop ((lc.length : Int) - 32 : Int).toNat).take (((lc.length : Int) : Int).toNat - ((lc.length : Int) - 32 : Int).toNat))) = false := by simpa using hc60
     have hc60p := ne_of_beq_false hc60n
     refine sR <| Zv Jp <| Zv (i64 10) ?_
     refine rN (Zy (Y7 ?_))
     refine Qs [Jp, (i64 10)] ⟨rfl, rfl, trivial⟩ ?_
     have m61 := Mem.drop [_] _ m58
     have m62 := Mem.drop [_] _ m61
     have m63 := Mem.drop [_] _ m62
     have m64 := Mem.drop [_] _ m63
     have m65 := Mem.drop [_] _ m64
     have hrt : Uz key nz la lc = false := by
      unfold Uz Qed; rw [← Ff oM, ← Pv oM]
      first | simpa [Y2] using hc60 | (simp only [Vm]; simpa [Y2] using hc60)
     exact ⟨Jp, [], by rw [C9 oM hrt]; rfl, by rw [Eo oM hrt]; exact (Xl.none _ _), by simpa using m65⟩
    ·
     have hc60n : ((Zu (Vm key) (Ji ([(rxq45, Ud nz la ((lc.drop (0 : Int).toNat).take (((lc.length : Int) - 32 : Int).toNat - (0 : Int).toNat)))]))) == ((lc.drop ((lc.length : Int) - 32 : Int).toNat).take (((lc.length : Int) : Int).toNat - ((lc.length : Int) - 32 : Int).toNat))) = true := by simpa using hc60
     have hc60p := eq_of_beq hc60n
     refine Qo (Qa (Qc ?_))
     refine Xj (dl 5) 5 Xh <| Y6 rfl (fun _ e' => Qw Xf rfl Zi rfl (m58.ext e').h2 sZ) <| Y6 rfl (fun _ e' => Qw Sl rfl Qb4 rfl (m58.ext e').h3 sZ) <| Jj rfl vc <| Jj rfl (i64 ((lc.length : Int) - 32)) <| Y6 rfl (fun _ e' => Yv (i := 0) (j := (lc.length : Int) - 32) (Rd.ofRest hrc (m58.ext e')) Zx Yw rfl (Zc _ _) (Xv (k := .i64) (i := (lc.length : Int) - 32) rfl) oM sD sD) <| Ug m58 fun w66 m66 => G5 (oc61 (Qao rfl rfl rfl rfl) (Qi5 _ 1#32 _ (Ai vc 0 ((lc.length : Int) - 32)) ((lc.drop (0 : Int).toNat).take (((lc.length : Int) - 32 : Int).toNat - (0 : Int).toNat)) _ sD sD (Rd.cast (l' := (lc.drop (0 : Int).toNat).take (((lc.length : Int) - 32 : Int).toNat - (0 : Int).toNat)) (Rd.sub (Rd.ofRest hrc m66) oM sD sD) rfl) sD)) ?_
     rintro _ w67 ⟨bq68, rfl, k_w67⟩
     have m67 : Mem _ _ [_, _, _, _, _, _] := Mem.new (H := [_, _, _, _, _]) (H' := [(bq68, .cells (cl u8 (X0 Z4 (Y1 key) 1#32 nz ((lc.drop (0 : Int).toNat).take (((lc.length : Int) - 32 : Int).toNat - (0 : Int).toNat)))) 5 (0, 0))]) m66 k_w67
     refine Sv rfl <| Zv (i64 0) ?_
     refine rN (Zy ?_)
     refine Qs [(Kq bq68 0 ((X0 Z4 (Y1 key) 1#32 nz ((lc.drop (0 : Int).toNat).take (((lc.length : Int) - 32 : Int).toNat - (0 : Int).toNat))).length) ((X0 Z4 (Y1 key) 1#32 nz ((lc.drop (0 : Int).toNat).take (((lc.length : Int) - 32 : Int).toNat - (0 : Int).toNat))).length)), (i64 0)] ⟨rfl, rfl, trivial⟩ ?_
     have m69 := Mem.drop [_] _ (Mem.pick [_] [_] _ m67)
     have m70 := Mem.drop [_] _ (Mem.pick [_] [_] _ m69)
     have m71 := Mem.drop [_] _ (Mem.pick [_] [_] _ m70)
     have m72 := Mem.drop [_] _ (Mem.pick [_] [_] _ m71)
     have m73 := Mem.drop [_] _ (Mem.pick [_] [_] _ m72)
     have hrt : Uz key nz la lc = true := by
      unfold Uz Qed; rw [← Ff oM, ← Pv oM]
      first | simpa [Y2] using hc60 | (simp only [Vm]; simpa [Y2] using hc60)
     have hfin : X0 Z4 (Y1 key) 1#32 nz ((lc.drop (0 : Int).toNat).take (((lc.length : Int) - 32 : Int).toNat - (0 : Int).toNat)) = Gq key nz (Dt lc) := by rw [← Ff oM]; first | rfl | (rw [← Qi1]; simp only [Qal, Y1])
     exact ⟨(Kq bq68 0 ((X0 Z4 (Y1 key) 1#32 nz ((lc.drop (0 : Int).toNat).take (((lc.length : Int) - 32 : Int).toNat - (0 : Int).toNat))).length) ((X0 Z4 (Y1 key) 1#32 nz ((lc.drop (0 : Int).toNat).take (((lc.length : Int) - 32 : Int).toNat - (0 : Int).toNat))).length)), [(bq68, .cells (cl u8 (X0 Z4 (Y1 key) 1#32 nz ((lc.drop (0 : Int).toNat).take (((lc.length : Int) - 32 : Int).toNat - (0 : Int).toNat)))) 5 (0, 0))], by rw [C9 oM hrt]; rfl, by rw [Eo oM hrt]; show Xl _ _ _ (Gq key nz (Dt lc)) _; exact hfin ▸ (Xl.of u8 5 bq68 (X0 Z4 (Y1 key) 1#32 nz ((lc.drop (0 : Int).toNat).take (((lc.length : Int) - 32 : Int).toNat - (0 : Int).toNat)))), by simpa using m73⟩
  ·
   refine Hg [(0, false), (1, false), (2, false), (3, false), (4, false), (5, false), (9, true), (6, true), (7, true), (8, false)] 10 rfl Xh <| Xq rfl (Z7 (i := 0) (j := 32) Xf Yw rfl (Zc _ _) (Zc _ _) oM sD sD) <| Y6 rfl (fun _ e' => Qw Sl rfl Qb4 rfl (m11.ext e').h2 sZ) <| Jj rfl va <| Jj rfl vc <| Jj rfl (i64 ((lc.length : Int) - 32)) <| Y6 rfl (fun _ e' => Yv (i := 0) (j := (lc.length : Int) - 32) (Rd.ofRest hrc (m11.ext e')) Zx Yw rfl (Zc _ _) (Xv (k := .i64) (i := (lc.length : Int) - 32) rfl) oM sD sD) ?_
   refine Ba rfl rfl (fun w74 e74 => ?_)
   have m74 := m11.ext e74
   refine J8.mono (Zf m74 Zi) ?_
   rintro _ w75 ⟨b13_2, rfl, e75, m75⟩
   refine ⟨e75, ?_⟩
   refine Ba rfl rfl (fun w76 e76 => ?_)
   have m76 := m75.ext e76
   refine J8.mono (oc62 (U2 rfl rfl rfl) (H6 _ va la (Ai vc 0 ((lc.length : Int) - 32)) ((lc.drop (0 : Int).toNat).take (((lc.length : Int) - 32 : Int).toNat - (0 : Int).toNat)) _ sD (Rd.ofRest hra m76) sD (Rd.cast (l' := (lc.drop (0 : Int).toNat).take (((lc.length : Int) - 32 : Int).toNat - (0 : Int).toNat)) (Rd.sub (Rd.ofRest hrc m76) oM sD sD) rfl) sD)) ?_
   rintro rxq78 w77 ⟨Hsq78, grxq78, k_w77⟩
   refine ⟨k_w77.toExt, ?_⟩
   have m77 : Mem _ _ (Hsq78 ++ ([_, _, _, _, _])) := Mem.new (H := [_, _, _, _, _]) (H' := Hsq78) m76 k_w77
   refine Ba rfl rfl (fun w79 e79 => ?_)
   have m79 := m77.ext e79
   refine J8.mono (Y0 [rxq78] (List.all_eq_true.1 (Zz grxq78.one Jm)) m79 Qeb Mc rfl rfl rfl) ?_
   rintro _ w80 ⟨b31_2, rfl, e80, m80⟩
   refine ⟨e80, ?_⟩
   have m80 : Mem w80 (Qu w0) ([(b31_2, .cells #[rxq78] 27 (0, 0))] ++ (Hsq78 ++ ([(b13_2, .cells (cl u8 (List.replicate 32 0)) 23 (0, 0)), (b12, .cells (cl u8 (Vm key)) 23 (0, 0)), (b11, .cells (cl u8 (Y1 key)) 23 (0, 0)), (b5, .cells (cl u8 nz) 77 (0, 0)), (b4, .cells (cl u8 key) 23 (0, 0))]))) := m80
   refine U4 rfl rfl (fun w81 e81 => oc59 (X3 rfl rfl) (N7 (sla b12 0 1 0 32 32) (Vm key) (Kq b31_2 0 1 1) ([(rxq78, Ud nz la ((lc.drop (0 : Int).toNat).take (((lc.length : Int) - 32 : Int).toNat - (0 : Int).toNat)))]) _ (hT.mono fun b o e => ((m80.ext e81)).rest b o e) (Rd.slaAll ((Mem.pick3 [_] Hsq78 [_] [_] _ (m80.ext e81))).h0 sD) sD (Rd.mkA (f := Prod.fst) (l := [(rxq78, Ud nz la ((lc.drop (0 : Int).toNat).take (((lc.length : Int) - 32 : Int).toNat - (0 : Int).toNat)))]) (m80.ext e81).h0) (Gj (grxq78.rd (Mem.pick [_] Hsq78 _ (m80.ext e81))) Ei) (by rw [Y2]; simp only [E8]; simp; omega) sD)) <| Ug m80 fun w84 m84 => Ve (Qq (f := u8) (l := Zu (Vm key) (Ji ([(rxq78, Ud nz la ((lc.drop (0 : Int).toNat).take (((lc.length : Int) - 32 : Int).toNat - (0 : Int).toNat)))]))) Q9 Zi rfl rfl sD ((Mem.pick2 [_] Hsq78 [_] _ m84)).h0 sZ rfl) ?_
   rintro _ w85 uq85
   have m85 : Mem _ _ ([_, _] ++ (Hsq78 ++ ([_, _, _, _]))) := Mem.upd0 (Mem.pick2 [_] Hsq78 [_] _ m84) uq85
   refine rN ?_
   have m86 := Mem.drop [_] _ (Mem.pick [_] [_] _ m85)
   have m87 := Mem.drop Hsq78 _ (Mem.pick [_] Hsq78 _ m86)
   refine Qc (Qc ?_)
   refine Xj (dl 4) 4 Xh <| Xq rfl (Z7 (i := 0) (j := 32) Xf Yw rfl (Zc _ _) (Zc _ _) oM sD sD) <| Jj rfl vc <| Jj rfl (i64 ((lc.length : Int) - 32)) <| Y6 rfl (fun _ e' => Yv (i := (lc.length : Int) - 32) (j := (lc.length : Int)) (Rd.ofRest hrc (m87.ext e')) Zx Yw rfl (Xv (k := .i64) (i := (lc.length : Int) - 32) rfl) (Zc _ _) oM sD sD) <| Ug m87 fun w88 m88 => Dx m88 (oc77 (X3 rfl rfl) (Qi7 (sla b13_2 0 1 0 32 32) (Ai vc ((lc.length : Int) - 32) (lc.length : Int)) (Zu (Vm key) (Ji ([(rxq78, Ud nz la ((lc.drop (0 : Int).toNat).take (((lc.length : Int) - 32 : Int).toNat - (0 : Int).toNat)))]))) ((lc.drop ((lc.length : Int) - 32 : Int).toNat).take (((lc.length : Int) : Int).toNat - ((lc.length : Int) - 32 : Int).toNat)) _ (Rd.slaAll m88.h0 sD) (Rd.cast (l' := (lc.drop ((lc.length : Int) - 32 : Int).toNat).take (((lc.length : Int) : Int).toNat - ((lc.length : Int) - 32 : Int).toNat)) (Rd.sub (Rd.ofRest hrc m88) oM sD sD) rfl) sD)) fun w89 m89 => Qd (Qac rfl) <| rN ?_
   refine Xb rfl (fun hc91 => ?_) (fun hc91 => ?_)
   ·
    have hc91n : ((Zu (Vm key) (Ji ([(rxq78, Ud nz la ((lc.drop (0 : Int).toNat).take (((lc.length : Int) - 32 : Int).toNat - (0 : Int).toNat)))]))) == ((lc.drop ((lc.length : Int) - 32 : Int).toNat).take (((lc.length : Int) : Int).toNat - ((lc.length : Int) - 32 : Int).toNat))) = false := by simpa using hc91
    have hc91p := ne_of_beq_false hc91n
    refine sR <| Zv Jp <| Zv (i64 10) ?_
    refine rN (Zy (Y7 ?_))
    refine Qs [Jp, (i64 10)] ⟨rfl, rfl, trivial⟩ ?_
    have m92 := Mem.drop [_] _ m89
    have m93 := Mem.drop [_] _ m92
    have m94 := Mem.drop [_] _ m93
    have m95 := Mem.drop [_] _ m94
    have m96 := Mem.drop [_] _ m95
    have hrt : Uz key nz la lc = false := by
     unfold Uz Qed; rw [← Ff oM, ← Pv oM]
     first | simpa [Y2] using hc91 | (simp only [Vm]; simpa [Y2] using hc91)
    exact ⟨Jp, [], by rw [C9 oM hrt]; rfl, by rw [Eo oM hrt]; exact (Xl.none _ _), by simpa using m96⟩
   ·
    have hc91n : ((Zu (Vm key) (Ji ([(rxq78, Ud nz la ((lc.drop (0 : Int).toNat).take (((lc.length : Int) - 32 : Int).toNat - (0 : Int).toNat)))]))) == ((lc.drop ((lc.length : Int) - 32 : Int).toNat).take (((lc.length : Int) : Int).toNat - ((lc.length : Int) - 32 : Int).toNat))) = true := by simpa using hc91
    have hc91p := eq_of_beq hc91n
    refine Qo (Qa (Qc ?_))
    refine Xj (dl 5) 5 Xh <| Y6 rfl (fun _ e' => Qw Xf rfl Zi rfl (m89.ext e').h2 sZ) <| Y6 rfl (fun _ e' => Qw Sl rfl Qb4 rfl (m89.ext e').h3 sZ) <| Jj rfl vc <| Jj rfl (i64 ((lc.length : Int) - 32)) <| Y6 rfl (fun _ e' => Yv (i := 0) (j := (lc.length : Int) - 32) (Rd.ofRest hrc (m89.ext e')) Zx Yw rfl (Zc _ _) (Xv (k := .i64) (i := (lc.length : Int) - 32) rfl) oM sD sD) <| Ug m89 fun w97 m97 => G5 (oc61 (Qao rfl rfl rfl rfl) (Qi5 _ 1#32 _ (Ai vc 0 ((lc.length : Int) - 32)) ((lc.drop (0 : Int).toNat).take (((lc.length : Int) - 32 : Int).toNat - (0 : Int).toNat)) _ sD sD (Rd.cast (l' := (lc.drop (0 : Int).toNat).take (((lc.length : Int) - 32 : Int).toNat - (0 : Int).toNat)) (Rd.sub (Rd.ofRest hrc m97) oM sD sD) rfl) sD)) ?_
    rintro _ w98 ⟨bq99, rfl, k_w98⟩
    have m98 : Mem _ _ [_, _, _, _, _, _] := Mem.new (H := [_, _, _, _, _]) (H' := [(bq99, .cells (cl u8 (X0 Z4 (Y1 key) 1#32 nz ((lc.drop (0 : Int).toNat).take (((lc.length : Int) - 32 : Int).toNat - (0 : Int).toNat)))) 5 (0, 0))]) m97 k_w98
    refine Sv rfl <| Zv (i64 0) ?_
    refine rN (Zy ?_)
    refine Qs [(Kq bq99 0 ((X0 Z4 (Y1 key) 1#32 nz ((lc.drop (0 : Int).toNat).take (((lc.length : Int) - 32 : Int).toNat - (0 : Int).toNat))).length) ((X0 Z4 (Y1 key) 1#32 nz ((lc.drop (0 : Int).toNat).take (((lc.length : Int) - 32 : Int).toNat - (0 : Int).toNat))).length)), (i64 0)] ⟨rfl, rfl, trivial⟩ ?_
    have m100 := Mem.drop [_] _ (Mem.pick [_] [_] _ m98)
    have m101 := Mem.drop [_] _ (Mem.pick [_] [_] _ m100)
    have m102 := Mem.drop [_] _ (Mem.pick [_] [_] _ m101)
    have m103 := Mem.drop [_] _ (Mem.pick [_] [_] _ m102)
    have m104 := Mem.drop [_] _ (Mem.pick [_] [_] _ m103)
    have hrt : Uz key nz la lc = true := by
     unfold Uz Qed; rw [← Ff oM, ← Pv oM]
     first | simpa [Y2] using hc91 | (simp only [Vm]; simpa [Y2] using hc91)
    have hfin : X0 Z4 (Y1 key) 1#32 nz ((lc.drop (0 : Int).toNat).take (((lc.length : Int) - 32 : Int).toNat - (0 : Int).toNat)) = Gq key nz (Dt lc) := by rw [← Ff oM]; first | rfl | (rw [← Qi1]; simp only [Qal, Y1])
    exact ⟨(Kq bq99 0 ((X0 Z4 (Y1 key) 1#32 nz ((lc.drop (0 : Int).toNat).take (((lc.length : Int) - 32 : Int).toNat - (0 : Int).toNat))).length) ((X0 Z4 (Y1 key) 1#32 nz ((lc.drop (0 : Int).toNat).take (((lc.length : Int) - 32 : Int).toNat - (0 : Int).toNat))).length)), [(bq99, .cells (cl u8 (X0 Z4 (Y1 key) 1#32 nz ((lc.drop (0 : Int).toNat).take (((lc.length : Int) - 32 : Int).toNat - (0 : Int).toNat)))) 5 (0, 0))], by rw [C9 oM hrt]; rfl, by rw [Eo oM hrt]; show Xl _ _ _ (Gq key nz (Dt lc)) _; exact hfin ▸ (Xl.of u8 5 bq99 (X0 Z4 (Y1 key) 1#32 nz ((lc.drop (0 : Int).toNat).take (((lc.length : Int) - 32 : Int).toNat - (0 : Int).toNat)))), by simpa using m104⟩
end Go.Proofs.YtkmiemlpfkfiiaaDoor
