/- Contracts: the seal, second part. Conditions: none beyond those that each theorem states. -/
import Derived.Test.YtkmiemlpfkfiiaaDoorSe1
import Derived.Test.YtkmiemlpfkfiiaaDoorFwP
namespace Go.Proofs.YtkmiemlpfkfiiaaDoor
open List renaming replicate → aA
open Mem renaming drop → aF, new → bY, of_world → aY, pick → aC, pick2 → aN, pick3 → ai, upd0 → bM
open Rd renaming cast → bC, mkA → bG, ofRest → aK, slaAll → bT, sub → bf
open Value renaming tuple → ak
open Tryd
set_option linter.unusedVariables false
set_option linter.unusedSimpArgs false
theorem Nh (key : Z4) : Df (2 : Int).toNat (Wv (Kw [] key) (J4 ⟨#[115, 101, 97, 108]⟩) (32 * (2 : Int).toNat)) = Wh [] key (J4 ⟨#[115, 101, 97, 108]⟩) 2 := (Qbw Yx Yx).symm
theorem Jr (a : Value) (x : Z4) : Vm [(a, x)] = x := by simp [Vm]
theorem Qkf {key nz beside b : Z4} (h : b.length < 32) : Su key nz beside b = 3 := by unfold Su; rw [if_pos h]
theorem Qh5 {key nz beside b : Z4} (h : b.length < 32) : Td key nz beside b = [] := by unfold Td; rw [if_pos h]
theorem Dw {key nz beside b : Z4} {r : Bool} (h : ¬ b.length < 32) (hr : Ux key nz beside b = r) : Su key nz beside b = if r then 0 else 10 := by unfold Su; rw [if_neg h, hr]
theorem Fg {key nz beside b : Z4} {r : Bool} (h : ¬ b.length < 32) (hr : Ux key nz beside b = r) : Td key nz beside b = if r then Us key nz (Dp b) else [] := by unfold Td; rw [if_neg h, hr]
attribute [local irreducible] Xc tK Qe5 Wv Kw Wh Rh Qgp Qek Jh Yp Fv Uy
set_option maxHeartbeats 1000000 in
theorem c_seal (key : Z4) (nz : Z4) (va : Value) (la : Z4) (vc : Value) (lc : Z4) (w0 : World)  (hT : Tabs (Jd w0)) (hk : key.length = 32) (hn : nz.length = 12) (hra : Rd (Jd w0) u8 va la) (hla : la.length ≤ 100000) (hrc : Rd (Jd w0) u8 vc lc) (hlc : lc.length ≤ 100000) : Xz prog 33 #[(agg u8 key), (agg u8 nz), va, vc] w0 (fun r w1 => ∃ Hs, Z9 u8 5 r (Gn key nz la lc) Hs ∧ Mem w1 (Qs w0) Hs) := by
 refine Qz (args := [(agg u8 key), (agg u8 nz), va, vc]) func33 rfl ntmps33 results33 rfl ?_
 have m0 : Mem w0 (Qs w0) [] := aY w0
 have hkt := Qdi key
 have hkm := Qdj key
 have hcl := Ny key nz lc
 refine sR <| Y5 (Z5 (f := u8) (l := key) m0 rfl) fun w1 b4 m1 => Y5 (Z5 (f := u8) (l := nz) m1 rfl) fun w2 b5 m2 => Zx J3 ?_
 refine rN (sR ?_)
 refine Qd (Qn Xn rfl Zh rfl m2.h1 sZ) <| U5 m2 (oc60 (Jz rfl) (Qsy _ _ (hT.mono fun b o e => (m2).rest b o e) sD)) fun w3 m3 => Zm (ak #[(agg u8 (Wj key)), (agg u8 (Ug key))]) <| Qd (v := (agg u8 (Wj key))) (Zr rfl rfl) <| Qd (v := (agg u8 (Ug key))) (Zr rfl rfl) <| Y5 (Q7 m3 Zh) fun w5 b9 m5 => Y5 (Q7 m5 Zh) fun w6 b10 m6 => Vs m6 (Qg (f := u8) (l := Wj key) Qr Zh rfl rfl sD m6.h1 sZ rfl) fun w7 m7 => Ye m7 (Qg (f := u8) (l := Ug key) Qr Zh rfl rfl sD m7.h0 sZ rfl) fun w8 m8 => ?_
 refine rN (sR ?_)
 refine Qd (Qn Xn rfl Zh rfl m8.h1 sZ) <| Qd (Qn Pm rfl Qba rfl m8.h2 sZ) <| Zm vc <| Vr (oc61 (Ry rfl rfl rfl rfl) (Qnu _ 1#32 _ vc lc _ sD sD (aK hrc m8) sD)) ?_
 rintro _ w9 ⟨bq10, rfl, k_w9⟩
 have m9 : Mem _ _ [_, _, _, _, _] := bY (H := [_, _, _, _]) (H' := [(bq10, .cells (cl u8 (Jh Yp (Wj key) 1#32 nz lc)) 5 (0, 0))]) m8 k_w9
 refine Tc rfl ?_
 refine rN (Qa ?_)
 refine Jy Xv ?_
 refine Qjr 4 7 rfl rfl ?_ ?_
 ·
  refine Qjr 5 7 rfl rfl ?_ ?_
  ·
   refine Au [(0, false), (1, false), (2, false), (3, false), (4, true), (5, true), (6, false), (7, true)] 8 rfl Xv <| X4 rfl (Xj (i := 0) (j := 32) Xn Yr rfl (Zd _ _) (Zd _ _) oM sD sD) <| Yj rfl (fun _ e' => Qn Pm rfl Qba rfl (m9.ext e').h3 sZ) <| J7 rfl va <| Uh rfl rfl ?_
   refine C9 rfl rfl (fun w11 e11 => ?_)
   have m11 := m9.ext e11
   refine Vf.mono (oc62 (Dy rfl rfl rfl) (Qac _ va la (Wi bq10 0 ((Jh Yp (Wj key) 1#32 nz lc).length) ((Jh Yp (Wj key) 1#32 nz lc).length)) (Jh Yp (Wj key) 1#32 nz lc) _ sD (aK hra m11) sD (bG m11.h0) sD)) ?_
   rintro rxq13 w12 ⟨Hsq13, grxq13, k_w12⟩
   refine ⟨k_w12.toExt, ?_⟩
   have m12 : Mem _ _ (Hsq13 ++ ([_, _, _, _, _])) := bY (H := [_, _, _, _, _]) (H' := Hsq13) m11 k_w12
   refine C9 rfl rfl (fun w14 e14 => ?_)
   have m14 := m12.ext e14
   refine Vf.mono (Kv [rxq13] (List.all_eq_true.1 (X0 grxq13.one J6)) m14 Qik Qay rfl rfl rfl) ?_
   rintro _ w15 ⟨b27, rfl, e15, m15⟩
   refine ⟨e15, ?_⟩
   have m15 : Mem w15 (Qs w0) ([(b27, .cells #[rxq13] 27 (0, 0))] ++ (Hsq13 ++ ([(bq10, .cells (cl u8 (Jh Yp (Wj key) 1#32 nz lc)) 5 (0, 0)), (b10, .cells (cl u8 (Ug key)) 23 (0, 0)), (b9, .cells (cl u8 (Wj key)) 23 (0, 0)), (b5, .cells (cl u8 nz) 77 (0, 0)), (b4, .cells (cl u8 key) 23 (0, 0))]))) := m15
   refine Wy rfl rfl (fun w16 e16 => oc59 (Xl rfl rfl) (Qbj (sla b10 0 1 0 32 32) (Ug key) (Wi b27 0 1 1) ([(rxq13, Uy nz la (Jh Yp (Wj key) 1#32 nz lc))]) _ (hT.mono fun b o e => ((m15.ext e16)).rest b o e) (bT ((ai [_] Hsq13 [_] [_] _ (m15.ext e16))).h0 sD) sD (bG (f := Prod.fst) (l := [(rxq13, Uy nz la (Jh Yp (Wj key) 1#32 nz lc))]) (m15.ext e16).h0) (Ee (grxq13.rd (aC [_] Hsq13 _ (m15.ext e16))) Lh) (by rw [Jr]; simp only [Me, Ap]; omega) sD)) ?_
   refine C9 rfl rfl (fun w19 e19 => ?_)
   have m19 := m15.ext e19
   refine Vf.mono (Q7 m19 Zh) ?_
   rintro _ w20 ⟨b12, rfl, e20, m20⟩
   refine ⟨e20, ?_⟩
   refine Gf m20 fun w21 m21 => Ye m21 (Qg (f := u8) (l := Xc (Ug key) (Vm ([(rxq13, Uy nz la (Jh Yp (Wj key) 1#32 nz lc))]))) Qr Zh rfl rfl sD m21.h0 sZ rfl) fun w22 m22 => ?_
   refine rN (sR ?_)
   refine X9 rfl <| Qd (Xj (i := 0) (j := 32) Xn Yr rfl (Zd _ _) (Zd _ _) oM sD sD) <| Vr (Xh (f := u8) (Hs := [(bq10, .cells (cl u8 (Jh Yp (Wj key) 1#32 nz lc)) 5 (0, 0))]) (H := [_, _] ++ (Hsq13 ++ ([_, _, _, _]))) (aN [_, _] Hsq13 [_] _ m22) (Z9.of u8 5 bq10 (Jh Yp (Wj key) 1#32 nz lc)) rfl rfl (bT m22.h0 sD) Zn Zn Yr rfl Qr sD sD) ?_
   rintro sv23 w23 ⟨Hs23, m23, g23⟩
   replace g23 : Z9 u8 5 sv23 ((Jh Yp (Wj key) 1#32 nz lc) ++ (Xc (Ug key) (Vm ([(rxq13, Uy nz la (Jh Yp (Wj key) 1#32 nz lc))])))) Hs23 := g23
   refine Zx sv23 <| rN ?_
   have m24 := aF [_] _ (aN Hs23 [_] [_] _ m23)
   have m25 := aF Hsq13 _ (aN Hs23 [_] Hsq13 _ m24)
   refine Z8 <| Qq [sv23] ⟨rfl, trivial⟩ ?_
   have m26 := aF [_] _ (aC Hs23 [_] _ m25)
   have m27 := aF [_] _ (aC Hs23 [_] _ m26)
   have m28 := aF [_] _ (aC Hs23 [_] _ m27)
   have m29 := aF [_] _ (aC Hs23 [_] _ m28)
   have m30 := aF [_] _ (aC Hs23 [_] _ m29)
   have hfin : (Jh Yp (Wj key) 1#32 nz lc) ++ (Xc (Ug key) (Vm ([(rxq13, Uy nz la (Jh Yp (Wj key) 1#32 nz lc))]))) = Gn key nz la lc := by simp only [Gn, Qeg, Us, Jr, Wj, Ug]
   exact ⟨Hs23, hfin ▸ g23, by simpa using m30⟩
  ·
   refine Au [(0, false), (1, false), (2, false), (3, false), (4, true), (7, true), (5, true), (6, false)] 8 rfl Xv <| X4 rfl (Xj (i := 0) (j := 32) Xn Yr rfl (Zd _ _) (Zd _ _) oM sD sD) <| Yj rfl (fun _ e' => Qn Pm rfl Qba rfl (m9.ext e').h3 sZ) <| J7 rfl va <| Uh rfl rfl ?_
   refine C9 rfl rfl (fun w31 e31 => ?_)
   have m31 := m9.ext e31
   refine Vf.mono (oc62 (Dy rfl rfl rfl) (Qac _ va la (Wi bq10 0 ((Jh Yp (Wj key) 1#32 nz lc).length) ((Jh Yp (Wj key) 1#32 nz lc).length)) (Jh Yp (Wj key) 1#32 nz lc) _ sD (aK hra m31) sD (bG m31.h0) sD)) ?_
   rintro rxq33 w32 ⟨Hsq33, grxq33, k_w32⟩
   refine ⟨k_w32.toExt, ?_⟩
   have m32 : Mem _ _ (Hsq33 ++ ([_, _, _, _, _])) := bY (H := [_, _, _, _, _]) (H' := Hsq33) m31 k_w32
   refine C9 rfl rfl (fun w34 e34 => ?_)
   have m34 := m32.ext e34
   refine Vf.mono (Q7 m34 Zh) ?_
   rintro _ w35 ⟨b12_1, rfl, e35, m35⟩
   refine ⟨e35, ?_⟩
   refine C9 rfl rfl (fun w36 e36 => ?_)
   have m36 := m35.ext e36
   refine Vf.mono (Kv [rxq33] (List.all_eq_true.1 (X0 grxq33.one J6)) m36 Qik Qay rfl rfl rfl) ?_
   rintro _ w37 ⟨b27_1, rfl, e37, m37⟩
   refine ⟨e37, ?_⟩
   have m37 : Mem w37 (Qs w0) ([(b27_1, .cells #[rxq33] 27 (0, 0)), (b12_1, .cells (cl u8 (aA 32 0)) 23 (0, 0))] ++ (Hsq33 ++ ([(bq10, .cells (cl u8 (Jh Yp (Wj key) 1#32 nz lc)) 5 (0, 0)), (b10, .cells (cl u8 (Ug key)) 23 (0, 0)), (b9, .cells (cl u8 (Wj key)) 23 (0, 0)), (b5, .cells (cl u8 nz) 77 (0, 0)), (b4, .cells (cl u8 key) 23 (0, 0))]))) := m37
   refine Wy rfl rfl (fun w38 e38 => oc59 (Xl rfl rfl) (Qbj (sla b10 0 1 0 32 32) (Ug key) (Wi b27_1 0 1 1) ([(rxq33, Uy nz la (Jh Yp (Wj key) 1#32 nz lc))]) _ (hT.mono fun b o e => ((m37.ext e38)).rest b o e) (bT ((ai [_, _] Hsq33 [_] [_] _ (m37.ext e38))).h0 sD) sD (bG (f := Prod.fst) (l := [(rxq33, Uy nz la (Jh Yp (Wj key) 1#32 nz lc))]) (m37.ext e38).h0) (Ee (grxq33.rd (aC [_, _] Hsq33 _ (m37.ext e38))) Lh) (by rw [Jr]; simp only [Me, Ap]; omega) sD)) <| Gf m37 fun w41 m41 => Vs m41 (Qg (f := u8) (l := Xc (Ug key) (Vm ([(rxq33, Uy nz la (Jh Yp (Wj key) 1#32 nz lc))]))) Qr Zh rfl rfl sD m41.h1 sZ rfl) fun w42 m42 => rN ?_
   have m43 := aF [_] _ m42
   have m44 := aF Hsq33 _ (aC [_] Hsq33 _ m43)
   refine sR <| X9 rfl <| Qd (Xj (i := 0) (j := 32) Xn Yr rfl (Zd _ _) (Zd _ _) oM sD sD) <| Vr (Xh (f := u8) (Hs := [(bq10, .cells (cl u8 (Jh Yp (Wj key) 1#32 nz lc)) 5 (0, 0))]) (H := [_, _, _, _, _]) (aC [_] [_] _ m44) (Z9.of u8 5 bq10 (Jh Yp (Wj key) 1#32 nz lc)) rfl rfl (bT m44.h0 sD) Zn Zn Yr rfl Qr sD sD) ?_
   rintro sv45 w45 ⟨Hs45, m45, g45⟩
   replace g45 : Z9 u8 5 sv45 ((Jh Yp (Wj key) 1#32 nz lc) ++ (Xc (Ug key) (Vm ([(rxq33, Uy nz la (Jh Yp (Wj key) 1#32 nz lc))])))) Hs45 := g45
   refine Zx sv45 ?_
   refine rN (Z8 ?_)
   refine Qq [sv45] ⟨rfl, trivial⟩ ?_
   have m46 := aF [_] _ (aC Hs45 [_] _ m45)
   have m47 := aF [_] _ (aC Hs45 [_] _ m46)
   have m48 := aF [_] _ (aC Hs45 [_] _ m47)
   have m49 := aF [_] _ (aC Hs45 [_] _ m48)
   have m50 := aF [_] _ (aC Hs45 [_] _ m49)
   have hfin : (Jh Yp (Wj key) 1#32 nz lc) ++ (Xc (Ug key) (Vm ([(rxq33, Uy nz la (Jh Yp (Wj key) 1#32 nz lc))]))) = Gn key nz la lc := by simp only [Gn, Qeg, Us, Jr, Wj, Ug]
   exact ⟨Hs45, hfin ▸ g45, by simpa using m50⟩
 ·
  refine Au [(0, false), (1, false), (2, false), (3, false), (7, true), (4, true), (5, true), (6, false)] 8 rfl Xv <| X4 rfl (Xj (i := 0) (j := 32) Xn Yr rfl (Zd _ _) (Zd _ _) oM sD sD) <| Yj rfl (fun _ e' => Qn Pm rfl Qba rfl (m9.ext e').h3 sZ) <| J7 rfl va <| Uh rfl rfl ?_
  refine C9 rfl rfl (fun w51 e51 => ?_)
  have m51 := m9.ext e51
  refine Vf.mono (Q7 m51 Zh) ?_
  rintro _ w52 ⟨b12_2, rfl, e52, m52⟩
  refine ⟨e52, ?_⟩
  refine C9 rfl rfl (fun w53 e53 => ?_)
  have m53 := m52.ext e53
  refine Vf.mono (oc62 (Dy rfl rfl rfl) (Qac _ va la (Wi bq10 0 ((Jh Yp (Wj key) 1#32 nz lc).length) ((Jh Yp (Wj key) 1#32 nz lc).length)) (Jh Yp (Wj key) 1#32 nz lc) _ sD (aK hra m53) sD (bG m53.h1) sD)) ?_
  rintro rxq55 w54 ⟨Hsq55, grxq55, k_w54⟩
  refine ⟨k_w54.toExt, ?_⟩
  have m54 : Mem _ _ (Hsq55 ++ ([_, _, _, _, _, _])) := bY (H := [_, _, _, _, _, _]) (H' := Hsq55) m53 k_w54
  refine C9 rfl rfl (fun w56 e56 => ?_)
  have m56 := m54.ext e56
  refine Vf.mono (Kv [rxq55] (List.all_eq_true.1 (X0 grxq55.one J6)) m56 Qik Qay rfl rfl rfl) ?_
  rintro _ w57 ⟨b27_2, rfl, e57, m57⟩
  refine ⟨e57, ?_⟩
  have m57 : Mem w57 (Qs w0) ([(b27_2, .cells #[rxq55] 27 (0, 0))] ++ (Hsq55 ++ ([(b12_2, .cells (cl u8 (aA 32 0)) 23 (0, 0)), (bq10, .cells (cl u8 (Jh Yp (Wj key) 1#32 nz lc)) 5 (0, 0)), (b10, .cells (cl u8 (Ug key)) 23 (0, 0)), (b9, .cells (cl u8 (Wj key)) 23 (0, 0)), (b5, .cells (cl u8 nz) 77 (0, 0)), (b4, .cells (cl u8 key) 23 (0, 0))]))) := m57
  refine Wy rfl rfl (fun w58 e58 => oc59 (Xl rfl rfl) (Qbj (sla b10 0 1 0 32 32) (Ug key) (Wi b27_2 0 1 1) ([(rxq55, Uy nz la (Jh Yp (Wj key) 1#32 nz lc))]) _ (hT.mono fun b o e => ((m57.ext e58)).rest b o e) (bT ((ai [_] Hsq55 [_, _] [_] _ (m57.ext e58))).h0 sD) sD (bG (f := Prod.fst) (l := [(rxq55, Uy nz la (Jh Yp (Wj key) 1#32 nz lc))]) (m57.ext e58).h0) (Ee (grxq55.rd (aC [_] Hsq55 _ (m57.ext e58))) Lh) (by rw [Jr]; simp only [Me, Ap]; omega) sD)) <| Gf m57 fun w61 m61 => Vd (Qg (f := u8) (l := Xc (Ug key) (Vm ([(rxq55, Uy nz la (Jh Yp (Wj key) 1#32 nz lc))]))) Qr Zh rfl rfl sD ((aN [_] Hsq55 [_] _ m61)).h0 sZ rfl) ?_
  rintro _ w62 uq62
  have m62 : Mem _ _ ([_, _] ++ (Hsq55 ++ ([_, _, _, _, _]))) := bM (aN [_] Hsq55 [_] _ m61) uq62
  refine rN (sR ?_)
  refine X9 rfl <| Qd (Xj (i := 0) (j := 32) Xn Yr rfl (Zd _ _) (Zd _ _) oM sD sD) <| Vr (Xh (f := u8) (Hs := [(bq10, .cells (cl u8 (Jh Yp (Wj key) 1#32 nz lc)) 5 (0, 0))]) (H := [_, _] ++ (Hsq55 ++ ([_, _, _, _]))) (aN [_, _] Hsq55 [_] _ m62) (Z9.of u8 5 bq10 (Jh Yp (Wj key) 1#32 nz lc)) rfl rfl (bT m62.h0 sD) Zn Zn Yr rfl Qr sD sD) ?_
  rintro sv63 w63 ⟨Hs63, m63, g63⟩
  replace g63 : Z9 u8 5 sv63 ((Jh Yp (Wj key) 1#32 nz lc) ++ (Xc (Ug key) (Vm ([(rxq55, Uy nz la (Jh Yp (Wj key) 1#32 nz lc))])))) Hs63 := g63
  refine Zx sv63 ?_
  refine rN (Z8 ?_)
  refine Qq [sv63] ⟨rfl, trivial⟩ ?_
  have m64 := aF [_] _ (aC Hs63 [_] _ m63)
  have m65 := aF [_] _ (aC Hs63 [_] _ m64)
  have m66 := aF Hsq55 _ (aC Hs63 Hsq55 _ m65)
  have m67 := aF [_] _ (aC Hs63 [_] _ m66)
  have m68 := aF [_] _ (aC Hs63 [_] _ m67)
  have m69 := aF [_] _ (aC Hs63 [_] _ m68)
  have m70 := aF [_] _ (aC Hs63 [_] _ m69)
  have hfin : (Jh Yp (Wj key) 1#32 nz lc) ++ (Xc (Ug key) (Vm ([(rxq55, Uy nz la (Jh Yp (Wj key) 1#32 nz lc))]))) = Gn key nz la lc := by simp only [Gn, Qeg, Us, Jr, Wj, Ug]
  exact ⟨Hs63, hfin ▸ g63, by simpa using m70⟩
theorem Qnw (va vb : Value) (la lb : Z4) (w0 : World)  (hra : Rd (Jd w0) u8 va la) (hrb : Rd (Jd w0) u8 vb lb) (hla : la.length ≤ 281474976710656) : Xz prog 77 #[va, vb] w0 (fun r w1 => r = (bl (la == lb)) ∧ Ext w0 w1) := by
 refine Qz (args := [va, vb]) func77 rfl ntmps77 results77 rfl ?_
 have m0 : Mem w0 (Qs w0) [] := aY w0
 refine sR <| Zx (bl false) ?_
 refine rN (Qa (sR ?_))
 refine Zm va <| Qd (Yi (aK hra m0) Zn rfl) <| Zm vb <| Qd (Yi (aK hrb m0) Zn rfl) <| Qd (Kz rfl rfl) <| rN ?_
 refine Zz rfl (fun hc1 => ?_) (fun hc1 => ?_)
 ·
  have hc1p := bne_iff_ne.1 hc1
  refine sR <| Zx (bl false) ?_
  refine rN (Z8 (Yz ?_))
  refine Qq [(bl false)] ⟨rfl, trivial⟩ ?_
  exact ⟨congrArg bl (Qoe hc1p), m0.toExt⟩
 ·
  have hc1p := Yd hc1
  refine Qo (Qc (sR ?_))
  refine Zx (u8 0#8) ?_
  refine rN (Qa (sR ?_))
  refine Zm va <| Qd (Yi (aK hra m0) Zn rfl) <| Zm (i64 0) ?_
  refine rN (Qh ?_)
  refine Y1 (fun g wv => ∃ (k : Nat), (k ≤ la.length) ∧ g 0 = va ∧ g 1 = vb ∧ g 4 = (bl false) ∧ g 5 = (u8 (P7 la lb k)) ∧ g 11 = (bl ((la.length : Int) != (lb.length : Int))) ∧ g 13 = (i64 (la.length : Int)) ∧ g 14 = (i64 (k : Int)) ∧ Mem wv (Qs w0) []) (fun g wv => ((la.length : Int) - RowKit.intOf (g 14)).toNat) ?_ ?_
  ·exact ⟨0, oM, rfl, rfl, rfl, rfl, rfl, rfl, rfl, m0⟩
  rintro fr2 w3 ⟨k, hk, s0, s1, s4, s5, s11, s13, s14, m3⟩
  have z14 := s14
  have z5 := s5
  refine sR <| Qd (Xd s14 s13) ?_
  refine rN (Qa ?_)
  refine Zz rfl (fun hc4 => ?_) (fun hc4 => ?_)
  ·
   have hc4p := of_decide_eq_true hc4
   refine Qo (Qc (Qa (Qh (sR ?_))))
   refine X9 s14 <| Zx (i64 (k : Int)) <| rN <| Xi (dl 10) 10 Xv <| Uh rfl s5 <| Uh rfl s0 <| J7 rfl (i64 (k : Int)) <| Yj rfl (fun _ e' => Zo (aK hra (m3.ext e')) Zn Yr rfl rfl oM sD) <| Yj (v := (u8 (la.getD k 0))) rfl (fun _ e' => Xy (l := la) (i := (k : Int)) (dflt := 0) (aK hra (m3.ext e')) V3 rfl oM sD rfl) <| Uh rfl s1 <| J7 rfl (i64 (k : Int)) <| Yj rfl (fun _ e' => Zo (aK hrb (m3.ext e')) Zn Yr rfl rfl oM sD) ?_
   refine Yj (v := (u8 (lb.getD k 0))) rfl (fun _ e' => Xy (l := lb) (i := (k : Int)) (dflt := 0) (aK hrb (m3.ext e')) V3 rfl oM sD rfl) <| X4 rfl (Nb rfl rfl) <| Gf m3 fun w5 m5 => Qd (Qgj rfl rfl) <| Zx (u8 ((P7 la lb k) ||| ((la.getD k 0) ^^^ (lb.getD k 0)))) ?_
   refine Zp (Qe (Qb ?_))
   refine Qd (Zg (b := 1) s14 rfl oM oM) <| Zm (i64 ((k : Int) + 1)) <| rN ?_
   exact ⟨⟨k + 1, oM, s0, s1, s4, rfl, s11, s13, rfl, m5⟩, Uj rfl z14 oM oM⟩
  ·
   have hc4p := of_decide_eq_false hc4
   obtain rfl : k = la.length := by omega
   refine X3 ?_
   refine Qj (Qj (Xk ?_))
   refine sR <| X9 s5 <| Qd (Qbz (b := 0#8) rfl rfl) <| Zx (bl ((P7 la lb la.length) == 0#8)) ?_
   refine rN (Z8 ?_)
   refine Qq [(bl ((P7 la lb la.length) == 0#8))] ⟨rfl, trivial⟩ ?_
   exact ⟨congrArg bl (Qn2 hc1p), m3.toExt⟩
set_option maxHeartbeats 1000000 in
theorem c_open (key : Z4) (nz : Z4) (va : Value) (la : Z4) (vc : Value) (lc : Z4) (w0 : World)  (hT : Tabs (Jd w0)) (hk : key.length = 32) (hn : nz.length = 12) (hra : Rd (Jd w0) u8 va la) (hla : la.length ≤ 100000) (hrc : Rd (Jd w0) u8 vc lc) (hlc : lc.length ≤ 100000) : Xz prog 54 #[(agg u8 key), (agg u8 nz), va, vc] w0 (fun r w1 => ∃ v Hs, r = ak #[v, i64 (Su key nz la lc)] ∧ Z9 u8 5 v (Td key nz la lc) Hs ∧ Mem w1 (Qs w0) Hs) := by
 refine Qz (args := [(agg u8 key), (agg u8 nz), va, vc]) func54 rfl ntmps54 results54 rfl ?_
 have m0 : Mem w0 (Qs w0) [] := aY w0
 have hkt := Qdi key
 have hkm := Qdj key
 have hcl := Ny key nz lc
 refine sR <| Y5 (Z5 (f := u8) (l := key) m0 rfl) fun w1 b4 m1 => Y5 (Z5 (f := u8) (l := nz) m1 rfl) fun w2 b5 m2 => Zx J3 <| Zx (i64 0) ?_
 refine rN (sR ?_)
 refine Zm vc <| Qd (Yi (aK hrc m2) Zn rfl) <| Qd (Yg (b := 32) rfl rfl oM oM) <| Zx (i64 ((lc.length : Int) - 32)) ?_
 refine rN (Qa (sR ?_))
 refine Zm (i64 ((lc.length : Int) - 32)) <| Qd (Xd (b := 0) rfl rfl) <| rN ?_
 refine Zz rfl (fun hc3 => ?_) (fun hc3 => ?_)
 ·
  have hc3p := of_decide_eq_true hc3
  refine sR <| Zx J3 <| Zx (i64 3) ?_
  refine rN (Z8 (Yz ?_))
  refine Qq [J3, (i64 3)] ⟨rfl, rfl, trivial⟩ ?_
  have m4 := aF [_] _ m2
  have m5 := aF [_] _ m4
  exact ⟨J3, [], by rw [Qkf oM]; rfl, by rw [Qh5 oM]; exact (Z9.none _ _), by simpa using m5⟩
 ·
  have hc3p := of_decide_eq_false hc3
  refine Qo (Qc (sR ?_))
  refine Qd (Qn Xn rfl Zh rfl m2.h1 sZ) <| U5 m2 (oc60 (Jz rfl) (Qsy _ _ (hT.mono fun b o e => (m2).rest b o e) sD)) fun w6 m6 => Zm (ak #[(agg u8 (Wj key)), (agg u8 (Ug key))]) <| Qd (v := (agg u8 (Wj key))) (Zr rfl rfl) <| Qd (v := (agg u8 (Ug key))) (Zr rfl rfl) <| Y5 (Q7 m6 Zh) fun w8 b11 m8 => Y5 (Q7 m8 Zh) fun w9 b12 m9 => Vs m9 (Qg (f := u8) (l := Wj key) Qr Zh rfl rfl sD m9.h1 sZ rfl) fun w10 m10 => Ye m10 (Qg (f := u8) (l := Ug key) Qr Zh rfl rfl sD m10.h0 sZ rfl) fun w11 m11 => ?_
  refine rN (Qa ?_)
  refine Jy Xv ?_
  refine Qjr 6 9 rfl rfl ?_ ?_
  ·
   refine Qjr 7 9 rfl rfl ?_ ?_
   ·
    refine Au [(0, false), (1, false), (2, false), (3, false), (4, false), (5, false), (6, true), (7, true), (8, false), (9, true)] 10 rfl Xv <| X4 rfl (Xj (i := 0) (j := 32) Xn Yr rfl (Zd _ _) (Zd _ _) oM sD sD) <| Yj rfl (fun _ e' => Qn Pm rfl Qba rfl (m11.ext e').h2 sZ) <| J7 rfl va <| J7 rfl vc <| J7 rfl (i64 ((lc.length : Int) - 32)) <| Yj rfl (fun _ e' => Y8 (i := 0) (j := (lc.length : Int) - 32) (aK hrc (m11.ext e')) Zn Yr rfl (Zd _ _) (Yb (k := .i64) (i := (lc.length : Int) - 32) rfl) oM sD sD) ?_
    refine C9 rfl rfl (fun w12 e12 => ?_)
    have m12 := m11.ext e12
    refine Vf.mono (oc62 (Dy rfl rfl rfl) (Qac _ va la (Cf vc 0 ((lc.length : Int) - 32)) ((lc.drop (0 : Int).toNat).take (((lc.length : Int) - 32 : Int).toNat - (0 : Int).toNat)) _ sD (aK hra m12) sD (bC (l' := (lc.drop (0 : Int).toNat).take (((lc.length : Int) - 32 : Int).toNat - (0 : Int).toNat)) (bf (aK hrc m12) oM sD sD) rfl) sD)) ?_
    rintro rxq14 w13 ⟨Hsq14, grxq14, k_w13⟩
    refine ⟨k_w13.toExt, ?_⟩
    have m13 : Mem _ _ (Hsq14 ++ ([_, _, _, _])) := bY (H := [_, _, _, _]) (H' := Hsq14) m12 k_w13
    refine C9 rfl rfl (fun w15 e15 => ?_)
    have m15 := m13.ext e15
    refine Vf.mono (Kv [rxq14] (List.all_eq_true.1 (X0 grxq14.one J6)) m15 Qik Qay rfl rfl rfl) ?_
    rintro _ w16 ⟨b31, rfl, e16, m16⟩
    refine ⟨e16, ?_⟩
    have m16 : Mem w16 (Qs w0) ([(b31, .cells #[rxq14] 27 (0, 0))] ++ (Hsq14 ++ ([(b12, .cells (cl u8 (Ug key)) 23 (0, 0)), (b11, .cells (cl u8 (Wj key)) 23 (0, 0)), (b5, .cells (cl u8 nz) 77 (0, 0)), (b4, .cells (cl u8 key) 23 (0, 0))]))) := m16
    refine Wy rfl rfl (fun w17 e17 => oc59 (Xl rfl rfl) (Qbj (sla b12 0 1 0 32 32) (Ug key) (Wi b31 0 1 1) ([(rxq14, Uy nz la ((lc.drop (0 : Int).toNat).take (((lc.length : Int) - 32 : Int).toNat - (0 : Int).toNat)))]) _ (hT.mono fun b o e => ((m16.ext e17)).rest b o e) (bT ((aN [_] Hsq14 [_] _ (m16.ext e17))).h0 sD) sD (bG (f := Prod.fst) (l := [(rxq14, Uy nz la ((lc.drop (0 : Int).toNat).take (((lc.length : Int) - 32 : Int).toNat - (0 : Int).toNat)))]) (m16.ext e17).h0) (Ee (grxq14.rd (aC [_] Hsq14 _ (m16.ext e17))) Lh) (by rw [Jr]; simp only [Me]; simp; omega) sD)) ?_
    refine C9 rfl rfl (fun w20 e20 => ?_)
    have m20 := m16.ext e20
    refine Vf.mono (Q7 m20 Zh) ?_
    rintro _ w21 ⟨b13, rfl, e21, m21⟩
    refine ⟨e21, ?_⟩
    refine Gf m21 fun w22 m22 => Ye m22 (Qg (f := u8) (l := Xc (Ug key) (Vm ([(rxq14, Uy nz la ((lc.drop (0 : Int).toNat).take (((lc.length : Int) - 32 : Int).toNat - (0 : Int).toNat)))]))) Qr Zh rfl rfl sD m22.h0 sZ rfl) fun w23 m23 => rN ?_
    have m24 := aF [_] _ (aC [_] [_] _ m23)
    have m25 := aF Hsq14 _ (aC [_] Hsq14 _ m24)
    refine Qa (Qa ?_)
    refine Xi (dl 4) 4 Xv <| X4 rfl (Xj (i := 0) (j := 32) Xn Yr rfl (Zd _ _) (Zd _ _) oM sD sD) <| J7 rfl vc <| J7 rfl (i64 ((lc.length : Int) - 32)) <| Yj rfl (fun _ e' => Y8 (i := (lc.length : Int) - 32) (j := (lc.length : Int)) (aK hrc (m25.ext e')) Zn Yr rfl (Yb (k := .i64) (i := (lc.length : Int) - 32) rfl) (Zd _ _) oM sD sD) <| Gf m25 fun w26 m26 => U5 m26 (oc77 (Xl rfl rfl) (Qnw (sla b13 0 1 0 32 32) (Cf vc ((lc.length : Int) - 32) (lc.length : Int)) (Xc (Ug key) (Vm ([(rxq14, Uy nz la ((lc.drop (0 : Int).toNat).take (((lc.length : Int) - 32 : Int).toNat - (0 : Int).toNat)))]))) ((lc.drop ((lc.length : Int) - 32 : Int).toNat).take (((lc.length : Int) : Int).toNat - ((lc.length : Int) - 32 : Int).toNat)) _ (bT m26.h0 sD) (bC (l' := (lc.drop ((lc.length : Int) - 32 : Int).toNat).take (((lc.length : Int) : Int).toNat - ((lc.length : Int) - 32 : Int).toNat)) (bf (aK hrc m26) oM sD sD) rfl) sD)) fun w27 m27 => Qd (Ag rfl) <| rN ?_
    refine Zz rfl (fun hc29 => ?_) (fun hc29 => ?_)
    ·
     have hc29n : ((Xc (Ug key) (Vm ([(rxq14, Uy nz la ((lc.drop (0 : Int).toNat).take (((lc.length : Int) - 32 : Int).toNat - (0 : Int).toNat)))]))) == ((lc.drop ((lc.length : Int) - 32 : Int).toNat).take (((lc.length : Int) : Int).toNat - ((lc.length : Int) - 32 : Int).toNat))) = false := by simpa using hc29
     have hc29p := ne_of_beq_false hc29n
     refine sR <| Zx J3 <| Zx (i64 10) ?_
     refine rN (Z8 (Yz ?_))
     refine Qq [J3, (i64 10)] ⟨rfl, rfl, trivial⟩ ?_
     have m30 := aF [_] _ m27
     have m31 := aF [_] _ m30
     have m32 := aF [_] _ m31
     have m33 := aF [_] _ m32
     have m34 := aF [_] _ m33
     have hrt : Ux key nz la lc = false := by
      unfold Ux Qeg; rw [← Uk oM, ← Le oM]
      first | simpa [Jr] using hc29 | (simp only [Ug]; simpa [Jr] using hc29)
     exact ⟨J3, [], by rw [Dw oM hrt]; rfl, by rw [Fg oM hrt]; exact (Z9.none _ _), by simpa using m34⟩
    ·
     have hc29n : ((Xc (Ug key) (Vm ([(rxq14, Uy nz la ((lc.drop (0 : Int).toNat).take (((lc.length : Int) - 32 : Int).toNat - (0 : Int).toNat)))]))) == ((lc.drop ((lc.length : Int) - 32 : Int).toNat).take (((lc.length : Int) : Int).toNat - ((lc.length : Int) - 32 : Int).toNat))) = true := by simpa using hc29
     have hc29p := eq_of_beq hc29n
     refine Qo (Qc (Qa ?_))
     refine Xi (dl 5) 5 Xv <| Yj rfl (fun _ e' => Qn Xn rfl Zh rfl (m27.ext e').h2 sZ) <| Yj rfl (fun _ e' => Qn Pm rfl Qba rfl (m27.ext e').h3 sZ) <| J7 rfl vc <| J7 rfl (i64 ((lc.length : Int) - 32)) <| Yj rfl (fun _ e' => Y8 (i := 0) (j := (lc.length : Int) - 32) (aK hrc (m27.ext e')) Zn Yr rfl (Zd _ _) (Yb (k := .i64) (i := (lc.length : Int) - 32) rfl) oM sD sD) <| Gf m27 fun w35 m35 => Vr (oc61 (Ry rfl rfl rfl rfl) (Qnu _ 1#32 _ (Cf vc 0 ((lc.length : Int) - 32)) ((lc.drop (0 : Int).toNat).take (((lc.length : Int) - 32 : Int).toNat - (0 : Int).toNat)) _ sD sD (bC (l' := (lc.drop (0 : Int).toNat).take (((lc.length : Int) - 32 : Int).toNat - (0 : Int).toNat)) (bf (aK hrc m35) oM sD sD) rfl) sD)) ?_
     rintro _ w36 ⟨bq37, rfl, k_w36⟩
     have m36 : Mem _ _ [_, _, _, _, _, _] := bY (H := [_, _, _, _, _]) (H' := [(bq37, .cells (cl u8 (Jh Yp (Wj key) 1#32 nz ((lc.drop (0 : Int).toNat).take (((lc.length : Int) - 32 : Int).toNat - (0 : Int).toNat)))) 5 (0, 0))]) m35 k_w36
     refine Tc rfl <| Zx (i64 0) ?_
     refine rN (Z8 ?_)
     refine Qq [(Wi bq37 0 ((Jh Yp (Wj key) 1#32 nz ((lc.drop (0 : Int).toNat).take (((lc.length : Int) - 32 : Int).toNat - (0 : Int).toNat))).length) ((Jh Yp (Wj key) 1#32 nz ((lc.drop (0 : Int).toNat).take (((lc.length : Int) - 32 : Int).toNat - (0 : Int).toNat))).length)), (i64 0)] ⟨rfl, rfl, trivial⟩ ?_
     have m38 := aF [_] _ (aC [_] [_] _ m36)
     have m39 := aF [_] _ (aC [_] [_] _ m38)
     have m40 := aF [_] _ (aC [_] [_] _ m39)
     have m41 := aF [_] _ (aC [_] [_] _ m40)
     have m42 := aF [_] _ (aC [_] [_] _ m41)
     have hrt : Ux key nz la lc = true := by
      unfold Ux Qeg; rw [← Uk oM, ← Le oM]
      first | simpa [Jr] using hc29 | (simp only [Ug]; simpa [Jr] using hc29)
     have hfin : Jh Yp (Wj key) 1#32 nz ((lc.drop (0 : Int).toNat).take (((lc.length : Int) - 32 : Int).toNat - (0 : Int).toNat)) = Us key nz (Dp lc) := by rw [← Uk oM]; first | rfl | (rw [← Qgu]; simp only [Nh, Wj])
     exact ⟨(Wi bq37 0 ((Jh Yp (Wj key) 1#32 nz ((lc.drop (0 : Int).toNat).take (((lc.length : Int) - 32 : Int).toNat - (0 : Int).toNat))).length) ((Jh Yp (Wj key) 1#32 nz ((lc.drop (0 : Int).toNat).take (((lc.length : Int) - 32 : Int).toNat - (0 : Int).toNat))).length)), [(bq37, .cells (cl u8 (Jh Yp (Wj key) 1#32 nz ((lc.drop (0 : Int).toNat).take (((lc.length : Int) - 32 : Int).toNat - (0 : Int).toNat)))) 5 (0, 0))], by rw [Dw oM hrt]; rfl, by rw [Fg oM hrt]; show Z9 _ _ _ (Us key nz (Dp lc)) _; exact hfin ▸ (Z9.of u8 5 bq37 (Jh Yp (Wj key) 1#32 nz ((lc.drop (0 : Int).toNat).take (((lc.length : Int) - 32 : Int).toNat - (0 : Int).toNat)))), by simpa using m42⟩
   ·
    refine Au [(0, false), (1, false), (2, false), (3, false), (4, false), (5, false), (6, true), (9, true), (7, true), (8, false)] 10 rfl Xv <| X4 rfl (Xj (i := 0) (j := 32) Xn Yr rfl (Zd _ _) (Zd _ _) oM sD sD) <| Yj rfl (fun _ e' => Qn Pm rfl Qba rfl (m11.ext e').h2 sZ) <| J7 rfl va <| J7 rfl vc <| J7 rfl (i64 ((lc.length : Int) - 32)) <| Yj rfl (fun _ e' => Y8 (i := 0) (j := (lc.length : Int) - 32) (aK hrc (m11.ext e')) Zn Yr rfl (Zd _ _) (Yb (k := .i64) (i := (lc.length : Int) - 32) rfl) oM sD sD) ?_
    refine C9 rfl rfl (fun w43 e43 => ?_)
    have m43 := m11.ext e43
    refine Vf.mono (oc62 (Dy rfl rfl rfl) (Qac _ va la (Cf vc 0 ((lc.length : Int) - 32)) ((lc.drop (0 : Int).toNat).take (((lc.length : Int) - 32 : Int).toNat - (0 : Int).toNat)) _ sD (aK hra m43) sD (bC (l' := (lc.drop (0 : Int).toNat).take (((lc.length : Int) - 32 : Int).toNat - (0 : Int).toNat)) (bf (aK hrc m43) oM sD sD) rfl) sD)) ?_
    rintro rxq45 w44 ⟨Hsq45, grxq45, k_w44⟩
    refine ⟨k_w44.toExt, ?_⟩
    have m44 : Mem _ _ (Hsq45 ++ ([_, _, _, _])) := bY (H := [_, _, _, _]) (H' := Hsq45) m43 k_w44
    refine C9 rfl rfl (fun w46 e46 => ?_)
    have m46 := m44.ext e46
    refine Vf.mono (Q7 m46 Zh) ?_
    rintro _ w47 ⟨b13_1, rfl, e47, m47⟩
    refine ⟨e47, ?_⟩
    refine C9 rfl rfl (fun w48 e48 => ?_)
    have m48 := m47.ext e48
    refine Vf.mono (Kv [rxq45] (List.all_eq_true.1 (X0 grxq45.one J6)) m48 Qik Qay rfl rfl rfl) ?_
    rintro _ w49 ⟨b31_1, rfl, e49, m49⟩
    refine ⟨e49, ?_⟩
    have m49 : Mem w49 (Qs w0) ([(b31_1, .cells #[rxq45] 27 (0, 0)), (b13_1, .cells (cl u8 (aA 32 0)) 23 (0, 0))] ++ (Hsq45 ++ ([(b12, .cells (cl u8 (Ug key)) 23 (0, 0)), (b11, .cells (cl u8 (Wj key)) 23 (0, 0)), (b5, .cells (cl u8 nz) 77 (0, 0)), (b4, .cells (cl u8 key) 23 (0, 0))]))) := m49
    refine Wy rfl rfl (fun w50 e50 => oc59 (Xl rfl rfl) (Qbj (sla b12 0 1 0 32 32) (Ug key) (Wi b31_1 0 1 1) ([(rxq45, Uy nz la ((lc.drop (0 : Int).toNat).take (((lc.length : Int) - 32 : Int).toNat - (0 : Int).toNat)))]) _ (hT.mono fun b o e => ((m49.ext e50)).rest b o e) (bT ((aN [_, _] Hsq45 [_] _ (m49.ext e50))).h0 sD) sD (bG (f := Prod.fst) (l := [(rxq45, Uy nz la ((lc.drop (0 : Int).toNat).take (((lc.length : Int) - 32 : Int).toNat - (0 : Int).toNat)))]) (m49.ext e50).h0) (Ee (grxq45.rd (aC [_, _] Hsq45 _ (m49.ext e50))) Lh) (by rw [Jr]; simp only [Me]; simp; omega) sD)) <| Gf m49 fun w53 m53 => Vs m53 (Qg (f := u8) (l := Xc (Ug key) (Vm ([(rxq45, Uy nz la ((lc.drop (0 : Int).toNat).take (((lc.length : Int) - 32 : Int).toNat - (0 : Int).toNat)))]))) Qr Zh rfl rfl sD m53.h1 sZ rfl) fun w54 m54 => rN ?_
    have m55 := aF [_] _ m54
    have m56 := aF Hsq45 _ (aC [_] Hsq45 _ m55)
    refine Qa (Qa ?_)
    refine Xi (dl 4) 4 Xv <| X4 rfl (Xj (i := 0) (j := 32) Xn Yr rfl (Zd _ _) (Zd _ _) oM sD sD) <| J7 rfl vc <| J7 rfl (i64 ((lc.length : Int) - 32)) <| Yj rfl (fun _ e' => Y8 (i := (lc.length : Int) - 32) (j := (lc.length : Int)) (aK hrc (m56.ext e')) Zn Yr rfl (Yb (k := .i64) (i := (lc.length : Int) - 32) rfl) (Zd _ _) oM sD sD) <| Gf m56 fun w57 m57 => U5 m57 (oc77 (Xl rfl rfl) (Qnw (sla b13_1 0 1 0 32 32) (Cf vc ((lc.length : Int) - 32) (lc.length : Int)) (Xc (Ug key) (Vm ([(rxq45, Uy nz la ((lc.drop (0 : Int).toNat).take (((lc.length : Int) - 32 : Int).toNat - (0 : Int).toNat)))]))) ((lc.drop ((lc.length : Int) - 32 : Int).toNat).take (((lc.length : Int) : Int).toNat - ((lc.length : Int) - 32 : Int).toNat)) _ (bT m57.h0 sD) (bC (l' := (lc.drop ((lc.length : Int) - 32 : Int).toNat).take (((lc.length : Int) : Int).toNat - ((lc.length : Int) - 32 : Int).toNat)) (bf (aK hrc m57) oM sD sD) rfl) sD)) fun w58 m58 => Qd (Ag rfl) <| rN ?_
    refine Zz rfl (fun hc60 => ?_) (fun hc60 => ?_)
    ·
     have hc60n : ((Xc (Ug key) (Vm ([(rxq45, Uy nz la ((lc.drop (0 : Int).toNat).take (((lc.length : Int) - 32 : Int).toNat - (0 : Int).toNat)))]))) == ((lc.drop ((lc.length : Int) - 32 : Int).toNat).take (((lc.length : Int) : Int).toNat - ((lc.length : Int) - 32 : Int).toNat))) = false := by simpa using hc60
     have hc60p := ne_of_beq_false hc60n
     refine sR <| Zx J3 <| Zx (i64 10) ?_
     refine rN (Z8 (Yz ?_))
     refine Qq [J3, (i64 10)] ⟨rfl, rfl, trivial⟩ ?_
     have m61 := aF [_] _ m58
     have m62 := aF [_] _ m61
     have m63 := aF [_] _ m62
     have m64 := aF [_] _ m63
     have m65 := aF [_] _ m64
     have hrt : Ux key nz la lc = false := by
      unfold Ux Qeg; rw [← Uk oM, ← Le oM]
      first | simpa [Jr] using hc60 | (simp only [Ug]; simpa [Jr] using hc60)
     exact ⟨J3, [], by rw [Dw oM hrt]; rfl, by rw [Fg oM hrt]; exact (Z9.none _ _), by simpa using m65⟩
    ·
     have hc60n : ((Xc (Ug key) (Vm ([(rxq45, Uy nz la ((lc.drop (0 : Int).toNat).take (((lc.length : Int) - 32 : Int).toNat - (0 : Int).toNat)))]))) == ((lc.drop ((lc.length : Int) - 32 : Int).toNat).take (((lc.length : Int) : Int).toNat - ((lc.length : Int) - 32 : Int).toNat))) = true := by simpa using hc60
     have hc60p := eq_of_beq hc60n
     refine Qo (Qc (Qa ?_))
     refine Xi (dl 5) 5 Xv <| Yj rfl (fun _ e' => Qn Xn rfl Zh rfl (m58.ext e').h2 sZ) <| Yj rfl (fun _ e' => Qn Pm rfl Qba rfl (m58.ext e').h3 sZ) <| J7 rfl vc <| J7 rfl (i64 ((lc.length : Int) - 32)) <| Yj rfl (fun _ e' => Y8 (i := 0) (j := (lc.length : Int) - 32) (aK hrc (m58.ext e')) Zn Yr rfl (Zd _ _) (Yb (k := .i64) (i := (lc.length : Int) - 32) rfl) oM sD sD) <| Gf m58 fun w66 m66 => Vr (oc61 (Ry rfl rfl rfl rfl) (Qnu _ 1#32 _ (Cf vc 0 ((lc.length : Int) - 32)) ((lc.drop (0 : Int).toNat).take (((lc.length : Int) - 32 : Int).toNat - (0 : Int).toNat)) _ sD sD (bC (l' := (lc.drop (0 : Int).toNat).take (((lc.length : Int) - 32 : Int).toNat - (0 : Int).toNat)) (bf (aK hrc m66) oM sD sD) rfl) sD)) ?_
     rintro _ w67 ⟨bq68, rfl, k_w67⟩
     have m67 : Mem _ _ [_, _, _, _, _, _] := bY (H := [_, _, _, _, _]) (H' := [(bq68, .cells (cl u8 (Jh Yp (Wj key) 1#32 nz ((lc.drop (0 : Int).toNat).take (((lc.length : Int) - 32 : Int).toNat - (0 : Int).toNat)))) 5 (0, 0))]) m66 k_w67
     refine Tc rfl <| Zx (i64 0) ?_
     refine rN (Z8 ?_)
     refine Qq [(Wi bq68 0 ((Jh Yp (Wj key) 1#32 nz ((lc.drop (0 : Int).toNat).take (((lc.length : Int) - 32 : Int).toNat - (0 : Int).toNat))).length) ((Jh Yp (Wj key) 1#32 nz ((lc.drop (0 : Int).toNat).take (((lc.length : Int) - 32 : Int).toNat - (0 : Int).toNat))).length)), (i64 0)] ⟨rfl, rfl, trivial⟩ ?_
     have m69 := aF [_] _ (aC [_] [_] _ m67)
     have m70 := aF [_] _ (aC [_] [_] _ m69)
     have m71 := aF [_] _ (aC [_] [_] _ m70)
     have m72 := aF [_] _ (aC [_] [_] _ m71)
     have m73 := aF [_] _ (aC [_] [_] _ m72)
     have hrt : Ux key nz la lc = true := by
      unfold Ux Qeg; rw [← Uk oM, ← Le oM]
      first | simpa [Jr] using hc60 | (simp only [Ug]; simpa [Jr] using hc60)
     have hfin : Jh Yp (Wj key) 1#32 nz ((lc.drop (0 : Int).toNat).take (((lc.length : Int) - 32 : Int).toNat - (0 : Int).toNat)) = Us key nz (Dp lc) := by rw [← Uk oM]; first | rfl | (rw [← Qgu]; simp only [Nh, Wj])
     exact ⟨(Wi bq68 0 ((Jh Yp (Wj key) 1#32 nz ((lc.drop (0 : Int).toNat).take (((lc.length : Int) - 32 : Int).toNat - (0 : Int).toNat))).length) ((Jh Yp (Wj key) 1#32 nz ((lc.drop (0 : Int).toNat).take (((lc.length : Int) - 32 : Int).toNat - (0 : Int).toNat))).length)), [(bq68, .cells (cl u8 (Jh Yp (Wj key) 1#32 nz ((lc.drop (0 : Int).toNat).take (((lc.length : Int) - 32 : Int).toNat - (0 : Int).toNat)))) 5 (0, 0))], by rw [Dw oM hrt]; rfl, by rw [Fg oM hrt]; show Z9 _ _ _ (Us key nz (Dp lc)) _; exact hfin ▸ (Z9.of u8 5 bq68 (Jh Yp (Wj key) 1#32 nz ((lc.drop (0 : Int).toNat).take (((lc.length : Int) - 32 : Int).toNat - (0 : Int).toNat)))), by simpa using m73⟩
  ·
   refine Au [(0, false), (1, false), (2, false), (3, false), (4, false), (5, false), (9, true), (6, true), (7, true), (8, false)] 10 rfl Xv <| X4 rfl (Xj (i := 0) (j := 32) Xn Yr rfl (Zd _ _) (Zd _ _) oM sD sD) <| Yj rfl (fun _ e' => Qn Pm rfl Qba rfl (m11.ext e').h2 sZ) <| J7 rfl va <| J7 rfl vc <| J7 rfl (i64 ((lc.length : Int) - 32)) <| Yj rfl (fun _ e' => Y8 (i := 0) (j := (lc.length : Int) - 32) (aK hrc (m11.ext e')) Zn Yr rfl (Zd _ _) (Yb (k := .i64) (i := (lc.length : Int) - 32) rfl) oM sD sD) ?_
   refine C9 rfl rfl (fun w74 e74 => ?_)
   have m74 := m11.ext e74
   refine Vf.mono (Q7 m74 Zh) ?_
   rintro _ w75 ⟨b13_2, rfl, e75, m75⟩
   refine ⟨e75, ?_⟩
   refine C9 rfl rfl (fun w76 e76 => ?_)
   have m76 := m75.ext e76
   refine Vf.mono (oc62 (Dy rfl rfl rfl) (Qac _ va la (Cf vc 0 ((lc.length : Int) - 32)) ((lc.drop (0 : Int).toNat).take (((lc.length : Int) - 32 : Int).toNat - (0 : Int).toNat)) _ sD (aK hra m76) sD (bC (l' := (lc.drop (0 : Int).toNat).take (((lc.length : Int) - 32 : Int).toNat - (0 : Int).toNat)) (bf (aK hrc m76) oM sD sD) rfl) sD)) ?_
   rintro rxq78 w77 ⟨Hsq78, grxq78, k_w77⟩
   refine ⟨k_w77.toExt, ?_⟩
   have m77 : Mem _ _ (Hsq78 ++ ([_, _, _, _, _])) := bY (H := [_, _, _, _, _]) (H' := Hsq78) m76 k_w77
   refine C9 rfl rfl (fun w79 e79 => ?_)
   have m79 := m77.ext e79
   refine Vf.mono (Kv [rxq78] (List.all_eq_true.1 (X0 grxq78.one J6)) m79 Qik Qay rfl rfl rfl) ?_
   rintro _ w80 ⟨b31_2, rfl, e80, m80⟩
   refine ⟨e80, ?_⟩
   have m80 : Mem w80 (Qs w0) ([(b31_2, .cells #[rxq78] 27 (0, 0))] ++ (Hsq78 ++ ([(b13_2, .cells (cl u8 (aA 32 0)) 23 (0, 0)), (b12, .cells (cl u8 (Ug key)) 23 (0, 0)), (b11, .cells (cl u8 (Wj key)) 23 (0, 0)), (b5, .cells (cl u8 nz) 77 (0, 0)), (b4, .cells (cl u8 key) 23 (0, 0))]))) := m80
   refine Wy rfl rfl (fun w81 e81 => oc59 (Xl rfl rfl) (Qbj (sla b12 0 1 0 32 32) (Ug key) (Wi b31_2 0 1 1) ([(rxq78, Uy nz la ((lc.drop (0 : Int).toNat).take (((lc.length : Int) - 32 : Int).toNat - (0 : Int).toNat)))]) _ (hT.mono fun b o e => ((m80.ext e81)).rest b o e) (bT ((ai [_] Hsq78 [_] [_] _ (m80.ext e81))).h0 sD) sD (bG (f := Prod.fst) (l := [(rxq78, Uy nz la ((lc.drop (0 : Int).toNat).take (((lc.length : Int) - 32 : Int).toNat - (0 : Int).toNat)))]) (m80.ext e81).h0) (Ee (grxq78.rd (aC [_] Hsq78 _ (m80.ext e81))) Lh) (by rw [Jr]; simp only [Me]; simp; omega) sD)) <| Gf m80 fun w84 m84 => Vd (Qg (f := u8) (l := Xc (Ug key) (Vm ([(rxq78, Uy nz la ((lc.drop (0 : Int).toNat).take (((lc.length : Int) - 32 : Int).toNat - (0 : Int).toNat)))]))) Qr Zh rfl rfl sD ((aN [_] Hsq78 [_] _ m84)).h0 sZ rfl) ?_
   rintro _ w85 uq85
   have m85 : Mem _ _ ([_, _] ++ (Hsq78 ++ ([_, _, _, _]))) := bM (aN [_] Hsq78 [_] _ m84) uq85
   refine rN ?_
   have m86 := aF [_] _ (aC [_] [_] _ m85)
   have m87 := aF Hsq78 _ (aC [_] Hsq78 _ m86)
   refine Qa (Qa ?_)
   refine Xi (dl 4) 4 Xv <| X4 rfl (Xj (i := 0) (j := 32) Xn Yr rfl (Zd _ _) (Zd _ _) oM sD sD) <| J7 rfl vc <| J7 rfl (i64 ((lc.length : Int) - 32)) <| Yj rfl (fun _ e' => Y8 (i := (lc.length : Int) - 32) (j := (lc.length : Int)) (aK hrc (m87.ext e')) Zn Yr rfl (Yb (k := .i64) (i := (lc.length : Int) - 32) rfl) (Zd _ _) oM sD sD) <| Gf m87 fun w88 m88 => U5 m88 (oc77 (Xl rfl rfl) (Qnw (sla b13_2 0 1 0 32 32) (Cf vc ((lc.length : Int) - 32) (lc.length : Int)) (Xc (Ug key) (Vm ([(rxq78, Uy nz la ((lc.drop (0 : Int).toNat).take (((lc.length : Int) - 32 : Int).toNat - (0 : Int).toNat)))]))) ((lc.drop ((lc.length : Int) - 32 : Int).toNat).take (((lc.length : Int) : Int).toNat - ((lc.length : Int) - 32 : Int).toNat)) _ (bT m88.h0 sD) (bC (l' := (lc.drop ((lc.length : Int) - 32 : Int).toNat).take (((lc.length : Int) : Int).toNat - ((lc.length : Int) - 32 : Int).toNat)) (bf (aK hrc m88) oM sD sD) rfl) sD)) fun w89 m89 => Qd (Ag rfl) <| rN ?_
   refine Zz rfl (fun hc91 => ?_) (fun hc91 => ?_)
   ·
    have hc91n : ((Xc (Ug key) (Vm ([(rxq78, Uy nz la ((lc.drop (0 : Int).toNat).take (((lc.length : Int) - 32 : Int).toNat - (0 : Int).toNat)))]))) == ((lc.drop ((lc.length : Int) - 32 : Int).toNat).take (((lc.length : Int) : Int).toNat - ((lc.length : Int) - 32 : Int).toNat))) = false := by simpa using hc91
    have hc91p := ne_of_beq_false hc91n
    refine sR <| Zx J3 <| Zx (i64 10) ?_
    refine rN (Z8 (Yz ?_))
    refine Qq [J3, (i64 10)] ⟨rfl, rfl, trivial⟩ ?_
    have m92 := aF [_] _ m89
    have m93 := aF [_] _ m92
    have m94 := aF [_] _ m93
    have m95 := aF [_] _ m94
    have m96 := aF [_] _ m95
    have hrt : Ux key nz la lc = false := by
     unfold Ux Qeg; rw [← Uk oM, ← Le oM]
     first | simpa [Jr] using hc91 | (simp only [Ug]; simpa [Jr] using hc91)
    exact ⟨J3, [], by rw [Dw oM hrt]; rfl, by rw [Fg oM hrt]; exact (Z9.none _ _), by simpa using m96⟩
   ·
    have hc91n : ((Xc (Ug key) (Vm ([(rxq78, Uy nz la ((lc.drop (0 : Int).toNat).take (((lc.length : Int) - 32 : Int).toNat - (0 : Int).toNat)))]))) == ((lc.drop ((lc.length : Int) - 32 : Int).toNat).take (((lc.length : Int) : Int).toNat - ((lc.length : Int) - 32 : Int).toNat))) = true := by simpa using hc91
    have hc91p := eq_of_beq hc91n
    refine Qo (Qc (Qa ?_))
    refine Xi (dl 5) 5 Xv <| Yj rfl (fun _ e' => Qn Xn rfl Zh rfl (m89.ext e').h2 sZ) <| Yj rfl (fun _ e' => Qn Pm rfl Qba rfl (m89.ext e').h3 sZ) <| J7 rfl vc <| J7 rfl (i64 ((lc.length : Int) - 32)) <| Yj rfl (fun _ e' => Y8 (i := 0) (j := (lc.length : Int) - 32) (aK hrc (m89.ext e')) Zn Yr rfl (Zd _ _) (Yb (k := .i64) (i := (lc.length : Int) - 32) rfl) oM sD sD) <| Gf m89 fun w97 m97 => Vr (oc61 (Ry rfl rfl rfl rfl) (Qnu _ 1#32 _ (Cf vc 0 ((lc.length : Int) - 32)) ((lc.drop (0 : Int).toNat).take (((lc.length : Int) - 32 : Int).toNat - (0 : Int).toNat)) _ sD sD (bC (l' := (lc.drop (0 : Int).toNat).take (((lc.length : Int) - 32 : Int).toNat - (0 : Int).toNat)) (bf (aK hrc m97) oM sD sD) rfl) sD)) ?_
    rintro _ w98 ⟨bq99, rfl, k_w98⟩
    have m98 : Mem _ _ [_, _, _, _, _, _] := bY (H := [_, _, _, _, _]) (H' := [(bq99, .cells (cl u8 (Jh Yp (Wj key) 1#32 nz ((lc.drop (0 : Int).toNat).take (((lc.length : Int) - 32 : Int).toNat - (0 : Int).toNat)))) 5 (0, 0))]) m97 k_w98
    refine Tc rfl <| Zx (i64 0) ?_
    refine rN (Z8 ?_)
    refine Qq [(Wi bq99 0 ((Jh Yp (Wj key) 1#32 nz ((lc.drop (0 : Int).toNat).take (((lc.length : Int) - 32 : Int).toNat - (0 : Int).toNat))).length) ((Jh Yp (Wj key) 1#32 nz ((lc.drop (0 : Int).toNat).take (((lc.length : Int) - 32 : Int).toNat - (0 : Int).toNat))).length)), (i64 0)] ⟨rfl, rfl, trivial⟩ ?_
    have m100 := aF [_] _ (aC [_] [_] _ m98)
    have m101 := aF [_] _ (aC [_] [_] _ m100)
    have m102 := aF [_] _ (aC [_] [_] _ m101)
    have m103 := aF [_] _ (aC [_] [_] _ m102)
    have m104 := aF [_] _ (aC [_] [_] _ m103)
    have hrt : Ux key nz la lc = true := by
     unfold Ux Qeg; rw [← Uk oM, ← Le oM]
     first | simpa [Jr] using hc91 | (simp only [Ug]; simpa [Jr] using hc91)
    have hfin : Jh Yp (Wj key) 1#32 nz ((lc.drop (0 : Int).toNat).take (((lc.length : Int) - 32 : Int).toNat - (0 : Int).toNat)) = Us key nz (Dp lc) := by rw [← Uk oM]; first | rfl | (rw [← Qgu]; simp only [Nh, Wj])
    exact ⟨(Wi bq99 0 ((Jh Yp (Wj key) 1#32 nz ((lc.drop (0 : Int).toNat).take (((lc.length : Int) - 32 : Int).toNat - (0 : Int).toNat))).length) ((Jh Yp (Wj key) 1#32 nz ((lc.drop (0 : Int).toNat).take (((lc.length : Int) - 32 : Int).toNat - (0 : Int).toNat))).length)), [(bq99, .cells (cl u8 (Jh Yp (Wj key) 1#32 nz ((lc.drop (0 : Int).toNat).take (((lc.length : Int) - 32 : Int).toNat - (0 : Int).toNat)))) 5 (0, 0))], by rw [Dw oM hrt]; rfl, by rw [Fg oM hrt]; show Z9 _ _ _ (Us key nz (Dp lc)) _; exact hfin ▸ (Z9.of u8 5 bq99 (Jh Yp (Wj key) 1#32 nz ((lc.drop (0 : Int).toNat).take (((lc.length : Int) - 32 : Int).toNat - (0 : Int).toNat)))), by simpa using m104⟩
set_option maxHeartbeats 1000000 in
theorem Qs0 (key : Z4) (nz : Z4) (va : Value) (la : Z4) (vc : Value) (lc : Z4) (w0 : World)  (hk : key.length = 32) (hn : nz.length = 12) (hra : Rd (Jd w0) u8 va la) (hla : la.length ≤ 100000) (hrc : Rd (Jd w0) u8 vc lc) (hlc : lc.length ≤ 100000) : Xz prog 55 #[(agg u8 key), (agg u8 nz), va, vc] w0 (fun r w1 => ∃ v Hs, r = ak #[v, i64 (Su key nz la lc)] ∧ Z9 u8 5 v (Td key nz la lc) Hs ∧ Mem w1 (Qs w0) Hs) := by
 refine Qz (args := [(agg u8 key), (agg u8 nz), va, vc]) func55 rfl ntmps55 results55 rfl ?_
 have m0 : Mem w0 (Qs w0) [] := aY w0
 have hkt := Qdi key
 have hkm := Qdj key
 have hcl := Ny key nz lc
 refine sR <| Y5 (Z5 (f := u8) (l := key) m0 rfl) fun w1 b4 m1 => Y5 (Z5 (f := u8) (l := nz) m1 rfl) fun w2 b5 m2 => Zx J3 <| Zx (i64 0) ?_
 refine rN (Qa (sR ?_))
 refine Zm vc <| Qd (Yi (aK hrc m2) Zn rfl) <| Qd (Xd (b := 32) rfl rfl) <| rN ?_
 refine Zz rfl (fun hc3 => ?_) (fun hc3 => ?_)
 ·
  have hc3p := of_decide_eq_true hc3
  refine sR <| Zx J3 <| Zx (i64 3) ?_
  refine rN (Z8 (Yz ?_))
  refine Qq [J3, (i64 3)] ⟨rfl, rfl, trivial⟩ ?_
  have m4 := aF [_] _ m2
  have m5 := aF [_] _ m4
  exact ⟨J3, [], by rw [Qkf oM]; rfl, by rw [Qh5 oM]; exact (Z9.none _ _), by simpa using m5⟩
 ·
  have hc3p := of_decide_eq_false hc3
  refine Qo (Qc (sR ?_))
  refine Zm vc <| Qd (Yi (aK hrc m2) Zn rfl) <| Qd (Yg (b := 32) rfl rfl oM oM) <| Zx (i64 ((lc.length : Int) - 32)) ?_
  refine rN (sR ?_)
  refine Y5 (Qp u8 [] Qr m2 Zn Yr rfl (by simp [Bz]) rfl) fun w6 b19 m6 => Qd (Xj (i := 0) (j := 32) Xn Yr rfl (Zd _ _) (Zd _ _) oM sD sD) <| Vr (oc70 (Ry rfl rfl rfl rfl) (Qs1 (Wi b19 0 0 0) ([]) (sla b4 0 1 0 32 32) key (⟨#[115, 101, 97, 108]⟩) _ _ (bG m6.h0) sD (bT m6.h2 sD) sD sD sD)) ?_
  rintro rxq8 w7 ⟨Hsq8, grxq8, k_w7⟩
  have m7 : Mem _ _ (Hsq8 ++ ([_, _, _])) := bY (H := [_, _, _]) (H' := Hsq8) m6 k_w7
  have gX9 := grxq8
  rw [Nh] at gX9
  have hkl := Qlv (a := []) (b := key) (p := J4 ⟨#[115, 101, 97, 108]⟩) (n := 2) Yx Yx
  have hk0 : ((Wh [] key (J4 ⟨#[115, 101, 97, 108]⟩) 2).getD 0 []).length = 32 := Qdi key
  have hk1 : ((Wh [] key (J4 ⟨#[115, 101, 97, 108]⟩) 2).getD 1 []).length = 32 := Qdj key
  refine Zx rxq8 ?_
  refine rN (Qa ?_)
  refine Jy Xv ?_
  refine Qjr 8 10 rfl rfl ?_ ?_
  ·
   refine Au [(0, false), (1, false), (2, false), (3, false), (4, false), (5, false), (6, false), (7, false), (8, true), (9, false), (10, true)] 11 rfl Xv <| J7 rfl rxq8 <| Yj rfl (fun _ e' => Y4 (i := 1) (gX9.rd (m7.ext e')) Qc5 Zh rfl rfl oM sD) <| Yj rfl (fun _ e' => Qgl (i := (1 : Int)) (gX9.rd (m7.ext e')) sD rfl Xn Yr rfl) <| Yj rfl (fun _ e' => Qn Pm rfl Qba rfl ((aN Hsq8 [_] [_] _ (m7.ext e'))).h0 sZ) <| J7 rfl va <| J7 rfl vc <| J7 rfl (i64 ((lc.length : Int) - 32)) <| Yj rfl (fun _ e' => Y8 (i := 0) (j := (lc.length : Int) - 32) (aK hrc (m7.ext e')) Zn Yr rfl (Zd _ _) (Yb (k := .i64) (i := (lc.length : Int) - 32) rfl) oM sD sD) ?_
   refine C9 rfl rfl (fun w10 e10 => ?_)
   have m10 := m7.ext e10
   refine Vf.mono (oc72 (Dy rfl rfl rfl) (Qkm _ va la (Cf vc 0 ((lc.length : Int) - 32)) ((lc.drop (0 : Int).toNat).take (((lc.length : Int) - 32 : Int).toNat - (0 : Int).toNat)) _ sD (aK hra m10) sD (bC (l' := (lc.drop (0 : Int).toNat).take (((lc.length : Int) - 32 : Int).toNat - (0 : Int).toNat)) (bf (aK hrc m10) oM sD sD) rfl) sD)) ?_
   rintro rxq12 w11 ⟨Hsq12, grxq12, k_w11⟩
   refine ⟨k_w11.toExt, ?_⟩
   have m11 : Mem _ _ (Hsq12 ++ (Hsq8 ++ ([_, _, _]))) := bY (H := Hsq8 ++ ([_, _, _])) (H' := Hsq12) m10 k_w11
   refine Wy rfl rfl (fun w13 e13 => oc69 (Xl rfl rfl) (Tt (elsl rxq8 (1 : Int) 32) ((Wh [] key (J4 ⟨#[115, 101, 97, 108]⟩) 2).getD 1 []) rxq12 (Uy nz la ((lc.drop (0 : Int).toNat).take (((lc.length : Int) - 32 : Int).toNat - (0 : Int).toNat))) _ (bC (l' := (Wh [] key (J4 ⟨#[115, 101, 97, 108]⟩) 2).getD 1 []) (Rd.elsl (i := (1 : Int)) (gX9.rd (aC Hsq12 Hsq8 _ (m11.ext e13))) sD) rfl) sD (grxq12.rd (m11.ext e13)) sD)) ?_
   refine C9 rfl rfl (fun w16 e16 => ?_)
   have m16 := m11.ext e16
   refine Vf.mono (Q7 m16 Zh) ?_
   rintro _ w17 ⟨b12, rfl, e17, m17⟩
   refine ⟨e17, ?_⟩
   refine Gf m17 fun w18 m18 => Ye m18 (Qg (f := u8) (l := Xc ((Wh [] key (J4 ⟨#[115, 101, 97, 108]⟩) 2).getD 1 []) (Uy nz la ((lc.drop (0 : Int).toNat).take (((lc.length : Int) - 32 : Int).toNat - (0 : Int).toNat)))) Qr Zh rfl rfl sD m18.h0 sZ rfl) fun w19 m19 => rN ?_
   have m20 := aF Hsq12 _ (aC [_] Hsq12 _ m19)
   have m21 := aF [_] _ (aN [_] Hsq8 [_] _ m20)
   refine Qa (Qa ?_)
   refine Xi (dl 4) 4 Xv <| X4 rfl (Xj (i := 0) (j := 32) Xn Yr rfl (Zd _ _) (Zd _ _) oM sD sD) <| J7 rfl vc <| J7 rfl (i64 ((lc.length : Int) - 32)) <| Yj rfl (fun _ e' => Y8 (i := (lc.length : Int) - 32) (j := (lc.length : Int)) (aK hrc (m21.ext e')) Zn Yr rfl (Yb (k := .i64) (i := (lc.length : Int) - 32) rfl) (Zd _ _) oM sD sD) <| Gf m21 fun w22 m22 => U5 m22 (oc15 (Xl rfl rfl) (Qnx (sla b12 0 1 0 32 32) (Cf vc ((lc.length : Int) - 32) (lc.length : Int)) (Xc ((Wh [] key (J4 ⟨#[115, 101, 97, 108]⟩) 2).getD 1 []) (Uy nz la ((lc.drop (0 : Int).toNat).take (((lc.length : Int) - 32 : Int).toNat - (0 : Int).toNat)))) ((lc.drop ((lc.length : Int) - 32 : Int).toNat).take (((lc.length : Int) : Int).toNat - ((lc.length : Int) - 32 : Int).toNat)) _ (bT m22.h0 sD) (bC (l' := (lc.drop ((lc.length : Int) - 32 : Int).toNat).take (((lc.length : Int) : Int).toNat - ((lc.length : Int) - 32 : Int).toNat)) (bf (aK hrc m22) oM sD sD) rfl) sD)) fun w23 m23 => Qd (Ag rfl) <| rN ?_
   refine Zz rfl (fun hc25 => ?_) (fun hc25 => ?_)
   ·
    have hc25n : ((Xc ((Wh [] key (J4 ⟨#[115, 101, 97, 108]⟩) 2).getD 1 []) (Uy nz la ((lc.drop (0 : Int).toNat).take (((lc.length : Int) - 32 : Int).toNat - (0 : Int).toNat)))) == ((lc.drop ((lc.length : Int) - 32 : Int).toNat).take (((lc.length : Int) : Int).toNat - ((lc.length : Int) - 32 : Int).toNat))) = false := by simpa using hc25
    have hc25p := ne_of_beq_false hc25n
    refine sR <| Zx J3 <| Zx (i64 10) ?_
    refine rN (Z8 (Yz ?_))
    refine Qq [J3, (i64 10)] ⟨rfl, rfl, trivial⟩ ?_
    have m26 := aF [_] _ m23
    have m27 := aF Hsq8 _ m26
    have m28 := aF [_] _ m27
    have m29 := aF [_] _ m28
    have hrt : Ux key nz la lc = false := by
     unfold Ux Qeg; rw [← Uk oM, ← Le oM]
     first | simpa [Jr] using hc25 | (simp only [Ug]; simpa [Jr] using hc25)
    exact ⟨J3, [], by rw [Dw oM hrt]; rfl, by rw [Fg oM hrt]; exact (Z9.none _ _), by simpa using m29⟩
   ·
    have hc25n : ((Xc ((Wh [] key (J4 ⟨#[115, 101, 97, 108]⟩) 2).getD 1 []) (Uy nz la ((lc.drop (0 : Int).toNat).take (((lc.length : Int) - 32 : Int).toNat - (0 : Int).toNat)))) == ((lc.drop ((lc.length : Int) - 32 : Int).toNat).take (((lc.length : Int) : Int).toNat - ((lc.length : Int) - 32 : Int).toNat))) = true := by simpa using hc25
    have hc25p := eq_of_beq hc25n
    refine Qo (Qc (Qa ?_))
    refine Xi (dl 7) 7 Xv <| J7 rfl rxq8 <| Yj rfl (fun _ e' => Y4 (i := 0) (gX9.rd (aC [_] Hsq8 _ (m23.ext e'))) Qc5 Zh rfl rfl oM sD) <| Yj (v := (agg u8 ((Wh [] key (J4 ⟨#[115, 101, 97, 108]⟩) 2).getD 0 []))) rfl (fun _ e' => D7 (i := (0 : Int)) (gX9.rd (aC [_] Hsq8 _ (m23.ext e'))) sD Xn Zh rfl rfl) <| Yj rfl (fun _ e' => Qn Pm rfl Qba rfl ((aN [_] Hsq8 [_] _ (m23.ext e'))).h0 sZ) <| J7 rfl vc <| J7 rfl (i64 ((lc.length : Int) - 32)) <| Yj rfl (fun _ e' => Y8 (i := 0) (j := (lc.length : Int) - 32) (aK hrc (m23.ext e')) Zn Yr rfl (Zd _ _) (Yb (k := .i64) (i := (lc.length : Int) - 32) rfl) oM sD sD) <| Gf m23 fun w30 m30 => Vr (oc71 (Ry rfl rfl rfl rfl) (Qsv _ 1#32 _ (Cf vc 0 ((lc.length : Int) - 32)) ((lc.drop (0 : Int).toNat).take (((lc.length : Int) - 32 : Int).toNat - (0 : Int).toNat)) _ sD sD (bC (l' := (lc.drop (0 : Int).toNat).take (((lc.length : Int) - 32 : Int).toNat - (0 : Int).toNat)) (bf (aK hrc m30) oM sD sD) rfl) sD)) ?_
    rintro rq32 w31 ⟨Hsq32, grq32, k_w31⟩
    have m31 : Mem _ _ (Hsq32 ++ ([_] ++ (Hsq8 ++ ([_, _])))) := bY (H := [_] ++ (Hsq8 ++ ([_, _]))) (H' := Hsq32) m30 k_w31
    refine Zx rq32 <| Zx (i64 0) ?_
    refine rN (Z8 ?_)
    refine Qq [rq32, (i64 0)] ⟨rfl, rfl, trivial⟩ ?_
    have m33 := aF [_] _ (aC Hsq32 [_] _ m31)
    have m34 := aF Hsq8 _ (aC Hsq32 Hsq8 _ m33)
    have m35 := aF [_] _ (aC Hsq32 [_] _ m34)
    have m36 := aF [_] _ (aC Hsq32 [_] _ m35)
    have hrt : Ux key nz la lc = true := by
     unfold Ux Qeg; rw [← Uk oM, ← Le oM]
     first | simpa [Jr] using hc25 | (simp only [Ug]; simpa [Jr] using hc25)
    have hfin : Jh Fv ((Wh [] key (J4 ⟨#[115, 101, 97, 108]⟩) 2).getD 0 []) 1#32 nz ((lc.drop (0 : Int).toNat).take (((lc.length : Int) - 32 : Int).toNat - (0 : Int).toNat)) = Us key nz (Dp lc) := by rw [← Uk oM]; first | rfl | (rw [← Qgu]; simp only [Nh, Wj])
    exact ⟨rq32, Hsq32, by rw [Dw oM hrt]; rfl, by rw [Fg oM hrt]; show Z9 _ _ _ (Us key nz (Dp lc)) _; exact hfin ▸ grq32, by simpa using m36⟩
  ·
   refine Au [(0, false), (1, false), (2, false), (3, false), (4, false), (5, false), (6, false), (7, false), (10, true), (8, true), (9, false)] 11 rfl Xv <| J7 rfl rxq8 <| Yj rfl (fun _ e' => Y4 (i := 1) (gX9.rd (m7.ext e')) Qc5 Zh rfl rfl oM sD) <| Yj rfl (fun _ e' => Qgl (i := (1 : Int)) (gX9.rd (m7.ext e')) sD rfl Xn Yr rfl) <| Yj rfl (fun _ e' => Qn Pm rfl Qba rfl ((aN Hsq8 [_] [_] _ (m7.ext e'))).h0 sZ) <| J7 rfl va <| J7 rfl vc <| J7 rfl (i64 ((lc.length : Int) - 32)) <| Yj rfl (fun _ e' => Y8 (i := 0) (j := (lc.length : Int) - 32) (aK hrc (m7.ext e')) Zn Yr rfl (Zd _ _) (Yb (k := .i64) (i := (lc.length : Int) - 32) rfl) oM sD sD) ?_
   refine C9 rfl rfl (fun w37 e37 => ?_)
   have m37 := m7.ext e37
   refine Vf.mono (Q7 m37 Zh) ?_
   rintro _ w38 ⟨b12_1, rfl, e38, m38⟩
   refine ⟨e38, ?_⟩
   refine C9 rfl rfl (fun w39 e39 => ?_)
   have m39 := m38.ext e39
   refine Vf.mono (oc72 (Dy rfl rfl rfl) (Qkm _ va la (Cf vc 0 ((lc.length : Int) - 32)) ((lc.drop (0 : Int).toNat).take (((lc.length : Int) - 32 : Int).toNat - (0 : Int).toNat)) _ sD (aK hra m39) sD (bC (l' := (lc.drop (0 : Int).toNat).take (((lc.length : Int) - 32 : Int).toNat - (0 : Int).toNat)) (bf (aK hrc m39) oM sD sD) rfl) sD)) ?_
   rintro rxq41 w40 ⟨Hsq41, grxq41, k_w40⟩
   refine ⟨k_w40.toExt, ?_⟩
   have m40 : Mem _ _ (Hsq41 ++ ([_] ++ (Hsq8 ++ ([_, _, _])))) := bY (H := [_] ++ (Hsq8 ++ ([_, _, _]))) (H' := Hsq41) m39 k_w40
   refine Wy rfl rfl (fun w42 e42 => oc69 (Xl rfl rfl) (Tt (elsl rxq8 (1 : Int) 32) ((Wh [] key (J4 ⟨#[115, 101, 97, 108]⟩) 2).getD 1 []) rxq41 (Uy nz la ((lc.drop (0 : Int).toNat).take (((lc.length : Int) - 32 : Int).toNat - (0 : Int).toNat))) _ (bC (l' := (Wh [] key (J4 ⟨#[115, 101, 97, 108]⟩) 2).getD 1 []) (Rd.elsl (i := (1 : Int)) (gX9.rd (aN Hsq41 [_] Hsq8 _ (m40.ext e42))) sD) rfl) sD (grxq41.rd (m40.ext e42)) sD)) <| Gf m40 fun w45 m45 => Vd (Qg (f := u8) (l := Xc ((Wh [] key (J4 ⟨#[115, 101, 97, 108]⟩) 2).getD 1 []) (Uy nz la ((lc.drop (0 : Int).toNat).take (((lc.length : Int) - 32 : Int).toNat - (0 : Int).toNat)))) Qr Zh rfl rfl sD ((aC Hsq41 [_] _ m45)).h0 sZ rfl) ?_
   rintro _ w46 uq46
   have m46 : Mem _ _ ([_] ++ (Hsq41 ++ (Hsq8 ++ ([_, _, _])))) := bM (aC Hsq41 [_] _ m45) uq46
   refine rN ?_
   have m47 := aF Hsq41 _ (aC [_] Hsq41 _ m46)
   have m48 := aF [_] _ (aN [_] Hsq8 [_] _ m47)
   refine Qa (Qa ?_)
   refine Xi (dl 4) 4 Xv <| X4 rfl (Xj (i := 0) (j := 32) Xn Yr rfl (Zd _ _) (Zd _ _) oM sD sD) <| J7 rfl vc <| J7 rfl (i64 ((lc.length : Int) - 32)) <| Yj rfl (fun _ e' => Y8 (i := (lc.length : Int) - 32) (j := (lc.length : Int)) (aK hrc (m48.ext e')) Zn Yr rfl (Yb (k := .i64) (i := (lc.length : Int) - 32) rfl) (Zd _ _) oM sD sD) <| Gf m48 fun w49 m49 => U5 m49 (oc15 (Xl rfl rfl) (Qnx (sla b12_1 0 1 0 32 32) (Cf vc ((lc.length : Int) - 32) (lc.length : Int)) (Xc ((Wh [] key (J4 ⟨#[115, 101, 97, 108]⟩) 2).getD 1 []) (Uy nz la ((lc.drop (0 : Int).toNat).take (((lc.length : Int) - 32 : Int).toNat - (0 : Int).toNat)))) ((lc.drop ((lc.length : Int) - 32 : Int).toNat).take (((lc.length : Int) : Int).toNat - ((lc.length : Int) - 32 : Int).toNat)) _ (bT m49.h0 sD) (bC (l' := (lc.drop ((lc.length : Int) - 32 : Int).toNat).take (((lc.length : Int) : Int).toNat - ((lc.length : Int) - 32 : Int).toNat)) (bf (aK hrc m49) oM sD sD) rfl) sD)) fun w50 m50 => Qd (Ag rfl) <| rN ?_
   refine Zz rfl (fun hc52 => ?_) (fun hc52 => ?_)
   ·
    have hc52n : ((Xc ((Wh [] key (J4 ⟨#[115, 101, 97, 108]⟩) 2).getD 1 []) (Uy nz la ((lc.drop (0 : Int).toNat).take (((lc.length : Int) - 32 : Int).toNat - (0 : Int).toNat)))) == ((lc.drop ((lc.length : Int) - 32 : Int).toNat).take (((lc.length : Int) : Int).toNat - ((lc.length : Int) - 32 : Int).toNat))) = false := by simpa using hc52
    have hc52p := ne_of_beq_false hc52n
    refine sR <| Zx J3 <| Zx (i64 10) ?_
    refine rN (Z8 (Yz ?_))
    refine Qq [J3, (i64 10)] ⟨rfl, rfl, trivial⟩ ?_
    have m53 := aF [_] _ m50
    have m54 := aF Hsq8 _ m53
    have m55 := aF [_] _ m54
    have m56 := aF [_] _ m55
    have hrt : Ux key nz la lc = false := by
     unfold Ux Qeg; rw [← Uk oM, ← Le oM]
     first | simpa [Jr] using hc52 | (simp only [Ug]; simpa [Jr] using hc52)
    exact ⟨J3, [], by rw [Dw oM hrt]; rfl, by rw [Fg oM hrt]; exact (Z9.none _ _), by simpa using m56⟩
   ·
    have hc52n : ((Xc ((Wh [] key (J4 ⟨#[115, 101, 97, 108]⟩) 2).getD 1 []) (Uy nz la ((lc.drop (0 : Int).toNat).take (((lc.length : Int) - 32 : Int).toNat - (0 : Int).toNat)))) == ((lc.drop ((lc.length : Int) - 32 : Int).toNat).take (((lc.length : Int) : Int).toNat - ((lc.length : Int) - 32 : Int).toNat))) = true := by simpa using hc52
    have hc52p := eq_of_beq hc52n
    refine Qo (Qc (Qa ?_))
    refine Xi (dl 7) 7 Xv <| J7 rfl rxq8 <| Yj rfl (fun _ e' => Y4 (i := 0) (gX9.rd (aC [_] Hsq8 _ (m50.ext e'))) Qc5 Zh rfl rfl oM sD) <| Yj (v := (agg u8 ((Wh [] key (J4 ⟨#[115, 101, 97, 108]⟩) 2).getD 0 []))) rfl (fun _ e' => D7 (i := (0 : Int)) (gX9.rd (aC [_] Hsq8 _ (m50.ext e'))) sD Xn Zh rfl rfl) <| Yj rfl (fun _ e' => Qn Pm rfl Qba rfl ((aN [_] Hsq8 [_] _ (m50.ext e'))).h0 sZ) <| J7 rfl vc <| J7 rfl (i64 ((lc.length : Int) - 32)) <| Yj rfl (fun _ e' => Y8 (i := 0) (j := (lc.length : Int) - 32) (aK hrc (m50.ext e')) Zn Yr rfl (Zd _ _) (Yb (k := .i64) (i := (lc.length : Int) - 32) rfl) oM sD sD) <| Gf m50 fun w57 m57 => Vr (oc71 (Ry rfl rfl rfl rfl) (Qsv _ 1#32 _ (Cf vc 0 ((lc.length : Int) - 32)) ((lc.drop (0 : Int).toNat).take (((lc.length : Int) - 32 : Int).toNat - (0 : Int).toNat)) _ sD sD (bC (l' := (lc.drop (0 : Int).toNat).take (((lc.length : Int) - 32 : Int).toNat - (0 : Int).toNat)) (bf (aK hrc m57) oM sD sD) rfl) sD)) ?_
    rintro rq59 w58 ⟨Hsq59, grq59, k_w58⟩
    have m58 : Mem _ _ (Hsq59 ++ ([_] ++ (Hsq8 ++ ([_, _])))) := bY (H := [_] ++ (Hsq8 ++ ([_, _]))) (H' := Hsq59) m57 k_w58
    refine Zx rq59 <| Zx (i64 0) ?_
    refine rN (Z8 ?_)
    refine Qq [rq59, (i64 0)] ⟨rfl, rfl, trivial⟩ ?_
    have m60 := aF [_] _ (aC Hsq59 [_] _ m58)
    have m61 := aF Hsq8 _ (aC Hsq59 Hsq8 _ m60)
    have m62 := aF [_] _ (aC Hsq59 [_] _ m61)
    have m63 := aF [_] _ (aC Hsq59 [_] _ m62)
    have hrt : Ux key nz la lc = true := by
     unfold Ux Qeg; rw [← Uk oM, ← Le oM]
     first | simpa [Jr] using hc52 | (simp only [Ug]; simpa [Jr] using hc52)
    have hfin : Jh Fv ((Wh [] key (J4 ⟨#[115, 101, 97, 108]⟩) 2).getD 0 []) 1#32 nz ((lc.drop (0 : Int).toNat).take (((lc.length : Int) - 32 : Int).toNat - (0 : Int).toNat)) = Us key nz (Dp lc) := by rw [← Uk oM]; first | rfl | (rw [← Qgu]; simp only [Nh, Wj])
    exact ⟨rq59, Hsq59, by rw [Dw oM hrt]; rfl, by rw [Fg oM hrt]; show Z9 _ _ _ (Us key nz (Dp lc)) _; exact hfin ▸ grq59, by simpa using m63⟩
end Go.Proofs.YtkmiemlpfkfiiaaDoor
