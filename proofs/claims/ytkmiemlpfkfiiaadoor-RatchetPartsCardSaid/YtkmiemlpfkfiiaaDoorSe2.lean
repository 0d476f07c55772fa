/- Contracts: the seal, second part. Conditions: none beyond those that each theorem states. -/
import Derived.Test.YtkmiemlpfkfiiaaDoorSe1
import Derived.Test.YtkmiemlpfkfiiaaDoorFwP
namespace Go.Proofs.YtkmiemlpfkfiiaaDoor
open Tryd
set_option linter.unusedVariables false
set_option linter.unusedSimpArgs false
theorem Nc (key : Xg) : Dh (2 : Int).toNat (Vd (Wn [] key) (Kv ⟨#[115, 101, 97, 108]⟩) (32 * (2 : Int).toNat)) = Wp [] key (Kv ⟨#[115, 101, 97, 108]⟩) 2 := (Qbt Jg Jg).symm
theorem J5 (a : Value) (x : Xg) : Vu [(a, x)] = x := by simp [Vu]
theorem Qjj {key nz beside b : Xg} (h : b.length < 32) : Tn key nz beside b = 3 := by unfold Tn; rw [if_pos h]
theorem Qhb {key nz beside b : Xg} (h : b.length < 32) : Qam key nz beside b = [] := by unfold Qam; rw [if_pos h]
theorem Bf {key nz beside b : Xg} {r : Bool} (h : ¬ b.length < 32) (hr : Ff key nz beside b = r) : Tn key nz beside b = if r then 0 else 10 := by unfold Tn; rw [if_neg h, hr]
theorem Eu {key nz beside b : Xg} {r : Bool} (h : ¬ b.length < 32) (hr : Ff key nz beside b = r) : Qam key nz beside b = if r then U8 key nz (Af b) else [] := by unfold Qam; rw [if_neg h, hr]
attribute [local irreducible] Xk tK Qeo Vd Wn Wp Rj Qfs Qd3 Jy Yv F7 U1
set_option maxHeartbeats 1000000 in
theorem c_seal (key : Xg) (nz : Xg) (va : Value) (la : Xg) (vc : Value) (lc : Xg) (w0 : World)  (hT : Tabs (Jl w0)) (hk : key.length = 32) (hn : nz.length = 12) (hra : Rd (Jl w0) u8 va la) (hla : la.length ≤ 100000) (hrc : Rd (Jl w0) u8 vc lc) (hlc : lc.length ≤ 100000) : X9 prog 33 #[(agg u8 key), (agg u8 nz), va, vc] w0 (fun r w1 => ∃ Hs, Xe u8 5 r (F6 key nz la lc) Hs ∧ Mem w1 (Qu w0) Hs) := by
 refine Zb (args := [(agg u8 key), (agg u8 nz), va, vc]) func33 rfl ntmps33 results33 rfl ?_
 have m0 : Mem w0 (Qu w0) [] := Mem.of_world w0
 have hkt := Qc8 key
 have hkm := Qc9 key
 have hcl := Ny key nz lc
 refine sR <| Y9 (Xa (f := u8) (l := key) m0 rfl) fun w1 b4 m1 => Y9 (Xa (f := u8) (l := nz) m1 rfl) fun w2 b5 m2 => Zz Yj ?_
 refine rN (sR ?_)
 refine Qd (Qp Xq rfl Zl rfl m2.h1 sZ) <| U9 m2 (oc60 (Kt rfl) (Qqu _ _ (hT.mono fun b o e => (m2).rest b o e) sD)) fun w3 m3 => Zp (Value.tuple #[(agg u8 (Ws key)), (agg u8 (Ul key))]) <| Qd (v := (agg u8 (Ws key))) (Zm rfl rfl) <| Qd (v := (agg u8 (Ul key))) (Zm rfl rfl) <| Y9 (Zc m3 Zl) fun w5 b9 m5 => Y9 (Zc m5 Zl) fun w6 b10 m6 => Vz m6 (Qj (f := u8) (l := Ws key) Qy Zl rfl rfl sD m6.h1 sZ rfl) fun w7 m7 => Ye m7 (Qj (f := u8) (l := Ul key) Qy Zl rfl rfl sD m7.h0 sZ rfl) fun w8 m8 => ?_
 refine rN (sR ?_)
 refine Qd (Qp Xq rfl Zl rfl m8.h1 sZ) <| Qd (Qp Pj rfl Qa9 rfl m8.h2 sZ) <| Zp vc <| Vy (oc61 (Hm rfl rfl rfl rfl) (Qmk _ 1#32 _ vc lc _ sD sD (Rd.ofRest hrc m8) sD)) ?_
 rintro _ w9 ⟨bq10, rfl, k_w9⟩
 have m9 : Mem _ _ [_, _, _, _, _] := Mem.new (H := [_, _, _, _]) (H' := [(bq10, .cells (cl u8 (Jy Yv (Ws key) 1#32 nz lc)) 5 (0, 0))]) m8 k_w9
 refine Sz rfl ?_
 refine rN (Qa ?_)
 refine Kr Xw ?_
 refine Qiy 4 7 rfl rfl ?_ ?_
 ·
  refine Qiy 5 7 rfl rfl ?_ ?_
  ·
   refine Ar [(0, false), (1, false), (2, false), (3, false), (4, true), (5, true), (6, false), (7, true)] 8 rfl Xw <| Yb rfl (Xo (i := 0) (j := 32) Xq Y0 rfl (Zi _ _) (Zi _ _) oM sD sD) <| Yn rfl (fun _ e' => Qp Pj rfl Qa9 rfl (m9.ext e').h3 sZ) <| Ky rfl va <| Um rfl rfl ?_
   refine Cj rfl rfl (fun w11 e11 => ?_)
   have m11 := m9.ext e11
   refine Vp.mono (oc62 (D6 rfl rfl rfl) (Qab _ va la (Wq bq10 0 ((Jy Yv (Ws key) 1#32 nz lc).length) ((Jy Yv (Ws key) 1#32 nz lc).length)) (Jy Yv (Ws key) 1#32 nz lc) _ sD (Rd.ofRest hra m11) sD (Rd.mkA m11.h0) sD)) ?_
   rintro rxq13 w12 ⟨Hsq13, grxq13, k_w12⟩
   refine ⟨k_w12.toExt, ?_⟩
   have m12 : Mem _ _ (Hsq13 ++ ([_, _, _, _, _])) := Mem.new (H := [_, _, _, _, _]) (H' := Hsq13) m11 k_w12
   refine Cj rfl rfl (fun w14 e14 => ?_)
   have m14 := m12.ext e14
   refine Vp.mono (Ku [rxq13] (List.all_eq_true.1 (X4 grxq13.one Kw)) m14 Qbi Pg rfl rfl rfl) ?_
   rintro _ w15 ⟨b27, rfl, e15, m15⟩
   refine ⟨e15, ?_⟩
   have m15 : Mem w15 (Qu w0) ([(b27, .cells #[rxq13] 27 (0, 0))] ++ (Hsq13 ++ ([(bq10, .cells (cl u8 (Jy Yv (Ws key) 1#32 nz lc)) 5 (0, 0)), (b10, .cells (cl u8 (Ul key)) 23 (0, 0)), (b9, .cells (cl u8 (Ws key)) 23 (0, 0)), (b5, .cells (cl u8 nz) 77 (0, 0)), (b4, .cells (cl u8 key) 23 (0, 0))]))) := m15
   refine Vg rfl rfl (fun w16 e16 => oc59 (Xm rfl rfl) (Qbh (sla b10 0 1 0 32 32) (Ul key) (Wq b27 0 1 1) ([(rxq13, U1 nz la (Jy Yv (Ws key) 1#32 nz lc))]) _ (hT.mono fun b o e => ((m15.ext e16)).rest b o e) (Rd.slaAll ((Mem.pick3 [_] Hsq13 [_] [_] _ (m15.ext e16))).h0 sD) sD (Rd.mkA (f := Prod.fst) (l := [(rxq13, U1 nz la (Jy Yv (Ws key) 1#32 nz lc))]) (m15.ext e16).h0) (Ef (grxq13.rd (Mem.pick [_] Hsq13 _ (m15.ext e16))) Ll) (by rw [J5]; simp only [Me, Nq]; omega) sD)) ?_
   refine Cj rfl rfl (fun w19 e19 => ?_)
   have m19 := m15.ext e19
   refine Vp.mono (Zc m19 Zl) ?_
   rintro _ w20 ⟨b12, rfl, e20, m20⟩
   refine ⟨e20, ?_⟩
   refine Gs m20 fun w21 m21 => Ye m21 (Qj (f := u8) (l := Xk (Ul key) (Vu ([(rxq13, U1 nz la (Jy Yv (Ws key) 1#32 nz lc))]))) Qy Zl rfl rfl sD m21.h0 sZ rfl) fun w22 m22 => ?_
   refine rN (sR ?_)
   refine Ya rfl <| Qd (Xo (i := 0) (j := 32) Xq Y0 rfl (Zi _ _) (Zi _ _) oM sD sD) <| Vy (Xp (f := u8) (Hs := [(bq10, .cells (cl u8 (Jy Yv (Ws key) 1#32 nz lc)) 5 (0, 0))]) (H := [_, _] ++ (Hsq13 ++ ([_, _, _, _]))) (Mem.pick2 [_, _] Hsq13 [_] _ m22) (Xe.of u8 5 bq10 (Jy Yv (Ws key) 1#32 nz lc)) rfl rfl (Rd.slaAll m22.h0 sD) Zu Zu Y0 rfl Qy sD sD) ?_
   rintro sv23 w23 ⟨Hs23, m23, g23⟩
   replace g23 : Xe u8 5 sv23 ((Jy Yv (Ws key) 1#32 nz lc) ++ (Xk (Ul key) (Vu ([(rxq13, U1 nz la (Jy Yv (Ws key) 1#32 nz lc))])))) Hs23 := g23
   refine Zz sv23 <| rN ?_
   have m24 := Mem.drop [_] _ (Mem.pick2 Hs23 [_] [_] _ m23)
   have m25 := Mem.drop Hsq13 _ (Mem.pick2 Hs23 [_] Hsq13 _ m24)
   refine Xb <| Qv [sv23] ⟨rfl, trivial⟩ ?_
   have m26 := Mem.drop [_] _ (Mem.pick Hs23 [_] _ m25)
   have m27 := Mem.drop [_] _ (Mem.pick Hs23 [_] _ m26)
   have m28 := Mem.drop [_] _ (Mem.pick Hs23 [_] _ m27)
   have m29 := Mem.drop [_] _ (Mem.pick Hs23 [_] _ m28)
   have m30 := Mem.drop [_] _ (Mem.pick Hs23 [_] _ m29)
   have hfin : (Jy Yv (Ws key) 1#32 nz lc) ++ (Xk (Ul key) (Vu ([(rxq13, U1 nz la (Jy Yv (Ws key) 1#32 nz lc))]))) = F6 key nz la lc := by simp only [F6, Qd0, U8, J5, Ws, Ul]
   exact ⟨Hs23, hfin ▸ g23, by simpa using m30⟩
  ·
   refine Ar [(0, false), (1, false), (2, false), (3, false), (4, true), (7, true), (5, true), (6, false)] 8 rfl Xw <| Yb rfl (Xo (i := 0) (j := 32) Xq Y0 rfl (Zi _ _) (Zi _ _) oM sD sD) <| Yn rfl (fun _ e' => Qp Pj rfl Qa9 rfl (m9.ext e').h3 sZ) <| Ky rfl va <| Um rfl rfl ?_
   refine Cj rfl rfl (fun w31 e31 => ?_)
   have m31 := m9.ext e31
   refine Vp.mono (oc62 (D6 rfl rfl rfl) (Qab _ va la (Wq bq10 0 ((Jy Yv (Ws key) 1#32 nz lc).length) ((Jy Yv (Ws key) 1#32 nz lc).length)) (Jy Yv (Ws key) 1#32 nz lc) _ sD (Rd.ofRest hra m31) sD (Rd.mkA m31.h0) sD)) ?_
   rintro rxq33 w32 ⟨Hsq33, grxq33, k_w32⟩
   refine ⟨k_w32.toExt, ?_⟩
   have m32 : Mem _ _ (Hsq33 ++ ([_, _, _, _, _])) := Mem.new (H := [_, _, _, _, _]) (H' := Hsq33) m31 k_w32
   refine Cj rfl rfl (fun w34 e34 => ?_)
   have m34 := m32.ext e34
   refine Vp.mono (Zc m34 Zl) ?_
   rintro _ w35 ⟨b12_1, rfl, e35, m35⟩
   refine ⟨e35, ?_⟩
   refine Cj rfl rfl (fun w36 e36 => ?_)
   have m36 := m35.ext e36
   refine Vp.mono (Ku [rxq33] (List.all_eq_true.1 (X4 grxq33.one Kw)) m36 Qbi Pg rfl rfl rfl) ?_
   rintro _ w37 ⟨b27_1, rfl, e37, m37⟩
   refine ⟨e37, ?_⟩
   have m37 : Mem w37 (Qu w0) ([(b27_1, .cells #[rxq33] 27 (0, 0)), (b12_1, .cells (cl u8 (List.replicate 32 0)) 23 (0, 0))] ++ (Hsq33 ++ ([(bq10, .cells (cl u8 (Jy Yv (Ws key) 1#32 nz lc)) 5 (0, 0)), (b10, .cells (cl u8 (Ul key)) 23 (0, 0)), (b9, .cells (cl u8 (Ws key)) 23 (0, 0)), (b5, .cells (cl u8 nz) 77 (0, 0)), (b4, .cells (cl u8 key) 23 (0, 0))]))) := m37
   refine Vg rfl rfl (fun w38 e38 => oc59 (Xm rfl rfl) (Qbh (sla b10 0 1 0 32 32) (Ul key) (Wq b27_1 0 1 1) ([(rxq33, U1 nz la (Jy Yv (Ws key) 1#32 nz lc))]) _ (hT.mono fun b o e => ((m37.ext e38)).rest b o e) (Rd.slaAll ((Mem.pick3 [_, _] Hsq33 [_] [_] _ (m37.ext e38))).h0 sD) sD (Rd.mkA (f := Prod.fst) (l := [(rxq33, U1 nz la (Jy Yv (Ws key) 1#32 nz lc))]) (m37.ext e38).h0) (Ef (grxq33.rd (Mem.pick [_, _] Hsq33 _ (m37.ext e38))) Ll) (by rw [J5]; simp only [Me, Nq]; omega) sD)) <| Gs m37 fun w41 m41 => Vz m41 (Qj (f := u8) (l := Xk (Ul key) (Vu ([(rxq33, U1 nz la (Jy Yv (Ws key) 1#32 nz lc))]))) Qy Zl rfl rfl sD m41.h1 sZ rfl) fun w42 m42 => rN ?_
   have m43 := Mem.drop [_] _ m42
   have m44 := Mem.drop Hsq33 _ (Mem.pick [_] Hsq33 _ m43)
   refine sR <| Ya rfl <| Qd (Xo (i := 0) (j := 32) Xq Y0 rfl (Zi _ _) (Zi _ _) oM sD sD) <| Vy (Xp (f := u8) (Hs := [(bq10, .cells (cl u8 (Jy Yv (Ws key) 1#32 nz lc)) 5 (0, 0))]) (H := [_, _, _, _, _]) (Mem.pick [_] [_] _ m44) (Xe.of u8 5 bq10 (Jy Yv (Ws key) 1#32 nz lc)) rfl rfl (Rd.slaAll m44.h0 sD) Zu Zu Y0 rfl Qy sD sD) ?_
   rintro sv45 w45 ⟨Hs45, m45, g45⟩
   replace g45 : Xe u8 5 sv45 ((Jy Yv (Ws key) 1#32 nz lc) ++ (Xk (Ul key) (Vu ([(rxq33, U1 nz la (Jy Yv (Ws key) 1#32 nz lc))])))) Hs45 := g45
   refine Zz sv45 ?_
   refine rN (Xb ?_)
   refine Qv [sv45] ⟨rfl, trivial⟩ ?_
   have m46 := Mem.drop [_] _ (Mem.pick Hs45 [_] _ m45)
   have m47 := Mem.drop [_] _ (Mem.pick Hs45 [_] _ m46)
   have m48 := Mem.drop [_] _ (Mem.pick Hs45 [_] _ m47)
   have m49 := Mem.drop [_] _ (Mem.pick Hs45 [_] _ m48)
   have m50 := Mem.drop [_] _ (Mem.pick Hs45 [_] _ m49)
   have hfin : (Jy Yv (Ws key) 1#32 nz lc) ++ (Xk (Ul key) (Vu ([(rxq33, U1 nz la (Jy Yv (Ws key) 1#32 nz lc))]))) = F6 key nz la lc := by simp only [F6, Qd0, U8, J5, Ws, Ul]
   exact ⟨Hs45, hfin ▸ g45, by simpa using m50⟩
 ·
  refine Ar [(0, false), (1, false), (2, false), (3, false), (7, true), (4, true), (5, true), (6, false)] 8 rfl Xw <| Yb rfl (Xo (i := 0) (j := 32) Xq Y0 rfl (Zi _ _) (Zi _ _) oM sD sD) <| Yn rfl (fun _ e' => Qp Pj rfl Qa9 rfl (m9.ext e').h3 sZ) <| Ky rfl va <| Um rfl rfl ?_
  refine Cj rfl rfl (fun w51 e51 => ?_)
  have m51 := m9.ext e51
  refine Vp.mono (Zc m51 Zl) ?_
  rintro _ w52 ⟨b12_2, rfl, e52, m52⟩
  refine ⟨e52, ?_⟩
  refine Cj rfl rfl (fun w53 e53 => ?_)
  have m53 := m52.ext e53
  refine Vp.mono (oc62 (D6 rfl rfl rfl) (Qab _ va la (Wq bq10 0 ((Jy Yv (Ws key) 1#32 nz lc).length) ((Jy Yv (Ws key) 1#32 nz lc).length)) (Jy Yv (Ws key) 1#32 nz lc) _ sD (Rd.ofRest hra m53) sD (Rd.mkA m53.h1) sD)) ?_
  rintro rxq55 w54 ⟨Hsq55, grxq55, k_w54⟩
  refine ⟨k_w54.toExt, ?_⟩
  have m54 : Mem _ _ (Hsq55 ++ ([_, _, _, _, _, _])) := Mem.new (H := [_, _, _, _, _, _]) (H' := Hsq55) m53 k_w54
  refine Cj rfl rfl (fun w56 e56 => ?_)
  have m56 := m54.ext e56
  refine Vp.mono (Ku [rxq55] (List.all_eq_true.1 (X4 grxq55.one Kw)) m56 Qbi Pg rfl rfl rfl) ?_
  rintro _ w57 ⟨b27_2, rfl, e57, m57⟩
  refine ⟨e57, ?_⟩
  have m57 : Mem w57 (Qu w0) ([(b27_2, .cells #[rxq55] 27 (0, 0))] ++ (Hsq55 ++ ([(b12_2, .cells (cl u8 (List.replicate 32 0)) 23 (0, 0)), (bq10, .cells (cl u8 (Jy Yv (Ws key) 1#32 nz lc)) 5 (0, 0)), (b10, .cells (cl u8 (Ul key)) 23 (0, 0)), (b9, .cells (cl u8 (Ws key)) 23 (0, 0)), (b5, .cells (cl u8 nz) 77 (0, 0)), (b4, .cells (cl u8 key) 23 (0, 0))]))) := m57
  refine Vg rfl rfl (fun w58 e58 => oc59 (Xm rfl rfl) (Qbh (sla b10 0 1 0 32 32) (Ul key) (Wq b27_2 0 1 1) ([(rxq55, U1 nz la (Jy Yv (Ws key) 1#32 nz lc))]) _ (hT.mono fun b o e => ((m57.ext e58)).rest b o e) (Rd.slaAll ((Mem.pick3 [_] Hsq55 [_, _] [_] _ (m57.ext e58))).h0 sD) sD (Rd.mkA (f := Prod.fst) (l := [(rxq55, U1 nz la (Jy Yv (Ws key) 1#32 nz lc))]) (m57.ext e58).h0) (Ef (grxq55.rd (Mem.pick [_] Hsq55 _ (m57.ext e58))) Ll) (by rw [J5]; simp only [Me, Nq]; omega) sD)) <| Gs m57 fun w61 m61 => Vk (Qj (f := u8) (l := Xk (Ul key) (Vu ([(rxq55, U1 nz la (Jy Yv (Ws key) 1#32 nz lc))]))) Qy Zl rfl rfl sD ((Mem.pick2 [_] Hsq55 [_] _ m61)).h0 sZ rfl) ?_
  rintro _ w62 uq62
  have m62 : Mem _ _ ([_, _] ++ (Hsq55 ++ ([_, _, _, _, _]))) := Mem.upd0 (Mem.pick2 [_] Hsq55 [_] _ m61) uq62
  refine rN (sR ?_)
  refine Ya rfl <| Qd (Xo (i := 0) (j := 32) Xq Y0 rfl (Zi _ _) (Zi _ _) oM sD sD) <| Vy (Xp (f := u8) (Hs := [(bq10, .cells (cl u8 (Jy Yv (Ws key) 1#32 nz lc)) 5 (0, 0))]) (H := [_, _] ++ (Hsq55 ++ ([_, _, _, _]))) (Mem.pick2 [_, _] Hsq55 [_] _ m62) (Xe.of u8 5 bq10 (Jy Yv (Ws key) 1#32 nz lc)) rfl rfl (Rd.slaAll m62.h0 sD) Zu Zu Y0 rfl Qy sD sD) ?_
  rintro sv63 w63 ⟨Hs63, m63, g63⟩
  replace g63 : Xe u8 5 sv63 ((Jy Yv (Ws key) 1#32 nz lc) ++ (Xk (Ul key) (Vu ([(rxq55, U1 nz la (Jy Yv (Ws key) 1#32 nz lc))])))) Hs63 := g63
  refine Zz sv63 ?_
  refine rN (Xb ?_)
  refine Qv [sv63] ⟨rfl, trivial⟩ ?_
  have m64 := Mem.drop [_] _ (Mem.pick Hs63 [_] _ m63)
  have m65 := Mem.drop [_] _ (Mem.pick Hs63 [_] _ m64)
  have m66 := Mem.drop Hsq55 _ (Mem.pick Hs63 Hsq55 _ m65)
  have m67 := Mem.drop [_] _ (Mem.pick Hs63 [_] _ m66)
  have m68 := Mem.drop [_] _ (Mem.pick Hs63 [_] _ m67)
  have m69 := Mem.drop [_] _ (Mem.pick Hs63 [_] _ m68)
  have m70 := Mem.drop [_] _ (Mem.pick Hs63 [_] _ m69)
  have hfin : (Jy Yv (Ws key) 1#32 nz lc) ++ (Xk (Ul key) (Vu ([(rxq55, U1 nz la (Jy Yv (Ws key) 1#32 nz lc))]))) = F6 key nz la lc := by simp only [F6, Qd0, U8, J5, Ws, Ul]
  exact ⟨Hs63, hfin ▸ g63, by simpa using m70⟩
theorem Qmm (va vb : Value) (la lb : Xg) (w0 : World)  (hra : Rd (Jl w0) u8 va la) (hrb : Rd (Jl w0) u8 vb lb) (hla : la.length ≤ 281474976710656) : X9 prog 77 #[va, vb] w0 (fun r w1 => r = (bl (la == lb)) ∧ Ext w0 w1) := by
 refine Zb (args := [va, vb]) func77 rfl ntmps77 results77 rfl ?_
 have m0 : Mem w0 (Qu w0) [] := Mem.of_world w0
 refine sR <| Zz (bl false) ?_
 refine rN (Qa (sR ?_))
 refine Zp va <| Qd (Yl (Rd.ofRest hra m0) Zu rfl) <| Zp vb <| Qd (Yl (Rd.ofRest hrb m0) Zu rfl) <| Qd (Jw rfl rfl) <| rN ?_
 refine Z8 rfl (fun hc1 => ?_) (fun hc1 => ?_)
 ·
  have hc1p := bne_iff_ne.1 hc1
  refine sR <| Zz (bl false) ?_
  refine rN (Xb (Y3 ?_))
  refine Qv [(bl false)] ⟨rfl, trivial⟩ ?_
  exact ⟨congrArg bl (Qm3 hc1p), m0.toExt⟩
 ·
  have hc1p := X0 hc1
  refine Qs (Qc (sR ?_))
  refine Zz (u8 0#8) ?_
  refine rN (Qa (sR ?_))
  refine Zp va <| Qd (Yl (Rd.ofRest hra m0) Zu rfl) <| Zp (i64 0) ?_
  refine rN (Qk ?_)
  refine Y7 (fun g wv => ∃ (k : Nat), (k ≤ la.length) ∧ g 0 = va ∧ g 1 = vb ∧ g 4 = (bl false) ∧ g 5 = (u8 (P9 la lb k)) ∧ g 11 = (bl ((la.length : Int) != (lb.length : Int))) ∧ g 13 = (i64 (la.length : Int)) ∧ g 14 = (i64 (k : Int)) ∧ Mem wv (Qu w0) []) (fun g wv => ((la.length : Int) - RowKit.intOf (g 14)).toNat) ?_ ?_
  ·exact ⟨0, oM, rfl, rfl, rfl, rfl, rfl, rfl, rfl, m0⟩
  rintro fr2 w3 ⟨k, hk, s0, s1, s4, s5, s11, s13, s14, m3⟩
  have z14 := s14
  have z5 := s5
  refine sR <| Qd (Z9 s14 s13) ?_
  refine rN (Qa ?_)
  refine Z8 rfl (fun hc4 => ?_) (fun hc4 => ?_)
  ·
   have hc4p := of_decide_eq_true hc4
   refine Qs (Qc (Qa (Qk (sR ?_))))
   refine Ya s14 <| Zz (i64 (k : Int)) <| rN <| Xl (dl 10) 10 Xw <| Um rfl s5 <| Um rfl s0 <| Ky rfl (i64 (k : Int)) <| Yn rfl (fun _ e' => Zw (Rd.ofRest hra (m3.ext e')) Zu Y0 rfl rfl oM sD) <| Yn (v := (u8 (la.getD k 0))) rfl (fun _ e' => X8 (l := la) (i := (k : Int)) (dflt := 0) (Rd.ofRest hra (m3.ext e')) Gl rfl oM sD rfl) <| Um rfl s1 <| Ky rfl (i64 (k : Int)) <| Yn rfl (fun _ e' => Zw (Rd.ofRest hrb (m3.ext e')) Zu Y0 rfl rfl oM sD) ?_
   refine Yn (v := (u8 (lb.getD k 0))) rfl (fun _ e' => X8 (l := lb) (i := (k : Int)) (dflt := 0) (Rd.ofRest hrb (m3.ext e')) Gl rfl oM sD rfl) <| Yb rfl (Pz rfl rfl) <| Gs m3 fun w5 m5 => Qd (Qfn rfl rfl) <| Zz (u8 ((P9 la lb k) ||| ((la.getD k 0) ^^^ (lb.getD k 0)))) ?_
   refine Zv (Qh (Qb ?_))
   refine Qd (Zg (b := 1) s14 rfl oM oM) <| Zp (i64 ((k : Int) + 1)) <| rN ?_
   exact ⟨⟨k + 1, oM, s0, s1, s4, rfl, s11, s13, rfl, m5⟩, Uo rfl z14 oM oM⟩
  ·
   have hc4p := of_decide_eq_false hc4
   obtain rfl : k = la.length := by omega
   refine X6 ?_
   refine Qm (Qm (Xi ?_))
   refine sR <| Ya s5 <| Qd (Qbu (b := 0#8) rfl rfl) <| Zz (bl ((P9 la lb la.length) == 0#8)) ?_
   refine rN (Xb ?_)
   refine Qv [(bl ((P9 la lb la.length) == 0#8))] ⟨rfl, trivial⟩ ?_
   exact ⟨congrArg bl (Qmr hc1p), m3.toExt⟩
set_option maxHeartbeats 1000000 in
theorem c_open (key : Xg) (nz : Xg) (va : Value) (la : Xg) (vc : Value) (lc : Xg) (w0 : World)  (hT : Tabs (Jl w0)) (hk : key.length = 32) (hn : nz.length = 12) (hra : Rd (Jl w0) u8 va la) (hla : la.length ≤ 100000) (hrc : Rd (Jl w0) u8 vc lc) (hlc : lc.length ≤ 100000) : X9 prog 54 #[(agg u8 key), (agg u8 nz), va, vc] w0 (fun r w1 => ∃ v Hs, r = Value.tuple #[v, i64 (Tn key nz la lc)] ∧ Xe u8 5 v (Qam key nz la lc) Hs ∧ Mem w1 (Qu w0) Hs) := by
 refine Zb (args := [(agg u8 key), (agg u8 nz), va, vc]) func54 rfl ntmps54 results54 rfl ?_
 have m0 : Mem w0 (Qu w0) [] := Mem.of_world w0
 have hkt := Qc8 key
 have hkm := Qc9 key
 have hcl := Ny key nz lc
 refine sR <| Y9 (Xa (f := u8) (l := key) m0 rfl) fun w1 b4 m1 => Y9 (Xa (f := u8) (l := nz) m1 rfl) fun w2 b5 m2 => Zz Yj <| Zz (i64 0) ?_
 refine rN (sR ?_)
 refine Zp vc <| Qd (Yl (Rd.ofRest hrc m2) Zu rfl) <| Qd (Yk (b := 32) rfl rfl oM oM) <| Zz (i64 ((lc.length : Int) - 32)) ?_
 refine rN (Qa (sR ?_))
 refine Zp (i64 ((lc.length : Int) - 32)) <| Qd (Z9 (b := 0) rfl rfl) <| rN ?_
 refine Z8 rfl (fun hc3 => ?_) (fun hc3 => ?_)
 ·
  have hc3p := of_decide_eq_true hc3
  refine sR <| Zz Yj <| Zz (i64 3) ?_
  refine rN (Xb (Y3 ?_))
  refine Qv [Yj, (i64 3)] ⟨rfl, rfl, trivial⟩ ?_
  have m4 := Mem.drop [_] _ m2
  have m5 := Mem.drop [_] _ m4
  exact ⟨Yj, [], by rw [Qjj oM]; rfl, by rw [Qhb oM]; exact (Xe.none _ _), by simpa using m5⟩
 ·
  have hc3p := of_decide_eq_false hc3
  refine Qs (Qc (sR ?_))
  refine Qd (Qp Xq rfl Zl rfl m2.h1 sZ) <| U9 m2 (oc60 (Kt rfl) (Qqu _ _ (hT.mono fun b o e => (m2).rest b o e) sD)) fun w6 m6 => Zp (Value.tuple #[(agg u8 (Ws key)), (agg u8 (Ul key))]) <| Qd (v := (agg u8 (Ws key))) (Zm rfl rfl) <| Qd (v := (agg u8 (Ul key))) (Zm rfl rfl) <| Y9 (Zc m6 Zl) fun w8 b11 m8 => Y9 (Zc m8 Zl) fun w9 b12 m9 => Vz m9 (Qj (f := u8) (l := Ws key) Qy Zl rfl rfl sD m9.h1 sZ rfl) fun w10 m10 => Ye m10 (Qj (f := u8) (l := Ul key) Qy Zl rfl rfl sD m10.h0 sZ rfl) fun w11 m11 => ?_
  refine rN (Qa ?_)
  refine Kr Xw ?_
  refine Qiy 6 9 rfl rfl ?_ ?_
  ·
   refine Qiy 7 9 rfl rfl ?_ ?_
   ·
    refine Ar [(0, false), (1, false), (2, false), (3, false), (4, false), (5, false), (6, true), (7, true), (8, false), (9, true)] 10 rfl Xw <| Yb rfl (Xo (i := 0) (j := 32) Xq Y0 rfl (Zi _ _) (Zi _ _) oM sD sD) <| Yn rfl (fun _ e' => Qp Pj rfl Qa9 rfl (m11.ext e').h2 sZ) <| Ky rfl va <| Ky rfl vc <| Ky rfl (i64 ((lc.length : Int) - 32)) <| Yn rfl (fun _ e' => Jd (i := 0) (j := (lc.length : Int) - 32) (Rd.ofRest hrc (m11.ext e')) Zu Y0 rfl (Zi _ _) (Yh (k := .i64) (i := (lc.length : Int) - 32) rfl) oM sD sD) ?_
    refine Cj rfl rfl (fun w12 e12 => ?_)
    have m12 := m11.ext e12
    refine Vp.mono (oc62 (D6 rfl rfl rfl) (Qab _ va la (Ci vc 0 ((lc.length : Int) - 32)) ((lc.drop (0 : Int).toNat).take (((lc.length : Int) - 32 : Int).toNat - (0 : Int).toNat)) _ sD (Rd.ofRest hra m12) sD (Rd.cast (l' := (lc.drop (0 : Int).toNat).take (((lc.length : Int) - 32 : Int).toNat - (0 : Int).toNat)) (Rd.sub (Rd.ofRest hrc m12) oM sD sD) rfl) sD)) ?_
    rintro rxq14 w13 ⟨Hsq14, grxq14, k_w13⟩
    refine ⟨k_w13.toExt, ?_⟩
    have m13 : Mem _ _ (Hsq14 ++ ([_, _, _, _])) := Mem.new (H := [_, _, _, _]) (H' := Hsq14) m12 k_w13
    refine Cj rfl rfl (fun w15 e15 => ?_)
    have m15 := m13.ext e15
    refine Vp.mono (Ku [rxq14] (List.all_eq_true.1 (X4 grxq14.one Kw)) m15 Qbi Pg rfl rfl rfl) ?_
    rintro _ w16 ⟨b31, rfl, e16, m16⟩
    refine ⟨e16, ?_⟩
    have m16 : Mem w16 (Qu w0) ([(b31, .cells #[rxq14] 27 (0, 0))] ++ (Hsq14 ++ ([(b12, .cells (cl u8 (Ul key)) 23 (0, 0)), (b11, .cells (cl u8 (Ws key)) 23 (0, 0)), (b5, .cells (cl u8 nz) 77 (0, 0)), (b4, .cells (cl u8 key) 23 (0, 0))]))) := m16
    refine Vg rfl rfl (fun w17 e17 => oc59 (Xm rfl rfl) (Qbh (sla b12 0 1 0 32 32) (Ul key) (Wq b31 0 1 1) ([(rxq14, U1 nz la ((lc.drop (0 : Int).toNat).take (((lc.length : Int) - 32 : Int).toNat - (0 : Int).toNat)))]) _ (hT.mono fun b o e => ((m16.ext e17)).rest b o e) (Rd.slaAll ((Mem.pick2 [_] Hsq14 [_] _ (m16.ext e17))).h0 sD) sD (Rd.mkA (f := Prod.fst) (l := [(rxq14, U1 nz la ((lc.drop (0 : Int).toNat).take (((lc.length : Int) - 32 : Int).toNat - (0 : Int).toNat)))]) (m16.ext e17).h0) (Ef (grxq14.rd (Mem.pick [_] Hsq14 _ (m16.ext e17))) Ll) (by rw [J5]; simp only [Me]; simp; omega) sD)) ?_
    refine Cj rfl rfl (fun w20 e20 => ?_)
    have m20 := m16.ext e20
    refine Vp.mono (Zc m20 Zl) ?_
    rintro _ w21 ⟨b13, rfl, e21, m21⟩
    refine ⟨e21, ?_⟩
    refine Gs m21 fun w22 m22 => Ye m22 (Qj (f := u8) (l := Xk (Ul key) (Vu ([(rxq14, U1 nz la ((lc.drop (0 : Int).toNat).take (((lc.length : Int) - 32 : Int).toNat - (0 : Int).toNat)))]))) Qy Zl rfl rfl sD m22.h0 sZ rfl) fun w23 m23 => rN ?_
    have m24 := Mem.drop [_] _ (Mem.pick [_] [_] _ m23)
    have m25 := Mem.drop Hsq14 _ (Mem.pick [_] Hsq14 _ m24)
    refine Qa (Qa ?_)
    refine Xl (dl 4) 4 Xw <| Yb rfl (Xo (i := 0) (j := 32) Xq Y0 rfl (Zi _ _) (Zi _ _) oM sD sD) <| Ky rfl vc <| Ky rfl (i64 ((lc.length : Int) - 32)) <| Yn rfl (fun _ e' => Jd (i := (lc.length : Int) - 32) (j := (lc.length : Int)) (Rd.ofRest hrc (m25.ext e')) Zu Y0 rfl (Yh (k := .i64) (i := (lc.length : Int) - 32) rfl) (Zi _ _) oM sD sD) <| Gs m25 fun w26 m26 => U9 m26 (oc77 (Xm rfl rfl) (Qmm (sla b13 0 1 0 32 32) (Ci vc ((lc.length : Int) - 32) (lc.length : Int)) (Xk (Ul key) (Vu ([(rxq14, U1 nz la ((lc.drop (0 : Int).toNat).take (((lc.length : Int) - 32 : Int).toNat - (0 : Int).toNat)))]))) ((lc.drop ((lc.length : Int) - 32 : Int).toNat).take (((lc.length : Int) : Int).toNat - ((lc.length : Int) - 32 : Int).toNat)) _ (Rd.slaAll m26.h0 sD) (Rd.cast (l' := (lc.drop ((lc.length : Int) - 32 : Int).toNat).take (((lc.length : Int) : Int).toNat - ((lc.length : Int) - 32 : Int).toNat)) (Rd.sub (Rd.ofRest hrc m26) oM sD sD) rfl) sD)) fun w27 m27 => Qd (Ut rfl) <| rN ?_
    refine Z8 rfl (fun hc29 => ?_) (fun hc29 => ?_)
    ·
     have hc29n : ((Xk (Ul key) (Vu ([(rxq14, U1 nz la ((lc.drop (0 : Int).toNat).take (((lc.length : Int) - 32 : Int).toNat - (0 : Int).toNat)))]))) == ((lc.drop ((lc.length : Int) - 32 : Int).toNat).take (((lc.length : Int) : Int).toNat - ((lc.length : Int) - 32 : Int).toNat))) = false := by simpa using hc29
     have hc29p := ne_of_beq_false hc29n
     refine sR <| Zz Yj <| Zz (i64 10) ?_
     refine rN (Xb (Y3 ?_))
     refine Qv [Yj, (i64 10)] ⟨rfl, rfl, trivial⟩ ?_
     have m30 := Mem.drop [_] _ m27
     have m31 := Mem.drop [_] _ m30
     have m32 := Mem.drop [_] _ m31
     have m33 := Mem.drop [_] _ m32
     have m34 := Mem.drop [_] _ m33
     have hrt : Ff key nz la lc = false := by
      unfold Ff Qd0; rw [← Ur oM, ← Lj oM]
      first | simpa [J5] using hc29 | (simp only [Ul]; simpa [J5] using hc29)
     exact ⟨Yj, [], by rw [Bf oM hrt]; rfl, by rw [Eu oM hrt]; exact (Xe.none _ _), by simpa using m34⟩
    ·
     have hc29n : ((Xk (Ul key) (Vu ([(rxq14, U1 nz la ((lc.drop (0 : Int).toNat).take (((lc.length : Int) - 32 : Int).toNat - (0 : Int).toNat)))]))) == ((lc.drop ((lc.length : Int) - 32 : Int).toNat).take (((lc.length : Int) : Int).toNat - ((lc.length : Int) - 32 : Int).toNat))) = true := by simpa using hc29
     have hc29p := eq_of_beq hc29n
     refine Qs (Qc (Qa ?_))
     refine Xl (dl 5) 5 Xw <| Yn rfl (fun _ e' => Qp Xq rfl Zl rfl (m27.ext e').h2 sZ) <| Yn rfl (fun _ e' => Qp Pj rfl Qa9 rfl (m27.ext e').h3 sZ) <| Ky rfl vc <| Ky rfl (i64 ((lc.length : Int) - 32)) <| Yn rfl (fun _ e' => Jd (i := 0) (j := (lc.length : Int) - 32) (Rd.ofRest hrc (m27.ext e')) Zu Y0 rfl (Zi _ _) (Yh (k := .i64) (i := (lc.length : Int) - 32) rfl) oM sD sD) <| Gs m27 fun w35 m35 => Vy (oc61 (Hm rfl rfl rfl rfl) (Qmk _ 1#32 _ (Ci vc 0 ((lc.length : Int) - 32)) ((lc.drop (0 : Int).toNat).take (((lc.length : Int) - 32 : Int).toNat - (0 : Int).toNat)) _ sD sD (Rd.cast (l' := (lc.drop (0 : Int).toNat).take (((lc.length : Int) - 32 : Int).toNat - (0 : Int).toNat)) (Rd.sub (Rd.ofRest hrc m35) oM sD sD) rfl) sD)) ?_
     rintro _ w36 ⟨bq37, rfl, k_w36⟩
     have m36 : Mem _ _ [_, _, _, _, _, _] := Mem.new (H := [_, _, _, _, _]) (H' := [(bq37, .cells (cl u8 (Jy Yv (Ws key) 1#32 nz ((lc.drop (0 : Int).toNat).take (((lc.length : Int) - 32 : Int).toNat - (0 : Int).toNat)))) 5 (0, 0))]) m35 k_w36
     refine Sz rfl <| Zz (i64 0) ?_
     refine rN (Xb ?_)
     refine Qv [(Wq bq37 0 ((Jy Yv (Ws key) 1#32 nz ((lc.drop (0 : Int).toNat).take (((lc.length : Int) - 32 : Int).toNat - (0 : Int).toNat))).length) ((Jy Yv (Ws key) 1#32 nz ((lc.drop (0 : Int).toNat).take (((lc.length : Int) - 32 : Int).toNat - (0 : Int).toNat))).length)), (i64 0)] ⟨rfl, rfl, trivial⟩ ?_
     have m38 := Mem.drop [_] _ (Mem.pick [_] [_] _ m36)
     have m39 := Mem.drop [_] _ (Mem.pick [_] [_] _ m38)
     have m40 := Mem.drop [_] _ (Mem.pick [_] [_] _ m39)
     have m41 := Mem.drop [_] _ (Mem.pick [_] [_] _ m40)
     have m42 := Mem.drop [_] _ (Mem.pick [_] [_] _ m41)
     have hrt : Ff key nz la lc = true := by
      unfold Ff Qd0; rw [← Ur oM, ← Lj oM]
      first | simpa [J5] using hc29 | (simp only [Ul]; simpa [J5] using hc29)
     have hfin : Jy Yv (Ws key) 1#32 nz ((lc.drop (0 : Int).toNat).take (((lc.length : Int) - 32 : Int).toNat - (0 : Int).toNat)) = U8 key nz (Af lc) := by rw [← Ur oM]; first | rfl | (rw [← Qfw]; simp only [Nc, Ws])
     exact ⟨(Wq bq37 0 ((Jy Yv (Ws key) 1#32 nz ((lc.drop (0 : Int).toNat).take (((lc.length : Int) - 32 : Int).toNat - (0 : Int).toNat))).length) ((Jy Yv (Ws key) 1#32 nz ((lc.drop (0 : Int).toNat).take (((lc.length : Int) - 32 : Int).toNat - (0 : Int).toNat))).length)), [(bq37, .cells (cl u8 (Jy Yv (Ws key) 1#32 nz ((lc.drop (0 : Int).toNat).take (((lc.length : Int) - 32 : Int).toNat - (0 : Int).toNat)))) 5 (0, 0))], by rw [Bf oM hrt]; rfl, by rw [Eu oM hrt]; show Xe _ _ _ (U8 key nz (Af lc)) _; exact hfin ▸ (Xe.of u8 5 bq37 (Jy Yv (Ws key) 1#32 nz ((lc.drop (0 : Int).toNat).take (((lc.length : Int) - 32 : Int).toNat - (0 : Int).toNat)))), by simpa using m42⟩
   ·
    refine Ar [(0, false), (1, false), (2, false), (3, false), (4, false), (5, false), (6, true), (9, true), (7, true), (8, false)] 10 rfl Xw <| Yb rfl (Xo (i := 0) (j := 32) Xq Y0 rfl (Zi _ _) (Zi _ _) oM sD sD) <| Yn rfl (fun _ e' => Qp Pj rfl Qa9 rfl (m11.ext e').h2 sZ) <| Ky rfl va <| Ky rfl vc <| Ky rfl (i64 ((lc.length : Int) - 32)) <| Yn rfl (fun _ e' => Jd (i := 0) (j := (lc.length : Int) - 32) (Rd.ofRest hrc (m11.ext e')) Zu Y0 rfl (Zi _ _) (Yh (k := .i64) (i := (lc.length : Int) - 32) rfl) oM sD sD) ?_
    refine Cj rfl rfl (fun w43 e43 => ?_)
    have m43 := m11.ext e43
    refine Vp.mono (oc62 (D6 rfl rfl rfl) (Qab _ va la (Ci vc 0 ((lc.length : Int) - 32)) ((lc.drop (0 : Int).toNat).take (((lc.length : Int) - 32 : Int).toNat - (0 : Int).toNat)) _ sD (Rd.ofRest hra m43) sD (Rd.cast (l' := (lc.drop (0 : Int).toNat).take (((lc.length : Int) - 32 : Int).toNat - (0 : Int).toNat)) (Rd.sub (Rd.ofRest hrc m43) oM sD sD) rfl) sD)) ?_
    rintro rxq45 w44 ⟨Hsq45, grxq45, k_w44⟩
    refine ⟨k_w44.toExt, ?_⟩
    have m44 : Mem _ _ (Hsq45 ++ ([_, _, _, _])) := Mem.new (H := [_, _, _, _]) (H' := Hsq45) m43 k_w44
    refine Cj rfl rfl (fun w46 e46 => ?_)
    have m46 := m44.ext e46
    refine Vp.mono (Zc m46 Zl) ?_
    rintro _ w47 ⟨b13_1, rfl, e47, m47⟩
    refine ⟨e47, ?_⟩
    refine Cj rfl rfl (fun w48 e48 => ?_)
    have m48 := m47.ext e48
    refine Vp.mono (Ku [rxq45] (List.all_eq_true.1 (X4 grxq45.one Kw)) m48 Qbi Pg rfl rfl rfl) ?_
    rintro _ w49 ⟨b31_1, rfl, e49, m49⟩
    refine ⟨e49, ?_⟩
    have m49 : Mem w49 (Qu w0) ([(b31_1, .cells #[rxq45] 27 (0, 0)), (b13_1, .cells (cl u8 (List.replicate 32 0)) 23 (0, 0))] ++ (Hsq45 ++ ([(b12, .cells (cl u8 (Ul key)) 23 (0, 0)), (b11, .cells (cl u8 (Ws key)) 23 (0, 0)), (b5, .cells (cl u8 nz) 77 (0, 0)), (b4, .cells (cl u8 key) 23 (0, 0))]))) := m49
    refine Vg rfl rfl (fun w50 e50 => oc59 (Xm rfl rfl) (Qbh (sla b12 0 1 0 32 32) (Ul key) (Wq b31_1 0 1 1) ([(rxq45, U1 nz la ((lc.drop (0 : Int).toNat).take (((lc.length : Int) - 32 : Int).toNat - (0 : Int).toNat)))]) _ (hT.mono fun b o e => ((m49.ext e50)).rest b o e) (Rd.slaAll ((Mem.pick2 [_, _] Hsq45 [_] _ (m49.ext e50))).h0 sD) sD (Rd.mkA (f := Prod.fst) (l := [(rxq45, U1 nz la ((lc.drop (0 : Int).toNat).take (((lc.length : Int) - 32 : Int).toNat - (0 : Int).toNat)))]) (m49.ext e50).h0) (Ef (grxq45.rd (Mem.pick [_, _] Hsq45 _ (m49.ext e50))) Ll) (by rw [J5]; simp only [Me]; simp; omega) sD)) <| Gs m49 fun w53 m53 => Vz m53 (Qj (f := u8) (l := Xk (Ul key) (Vu ([(rxq45, U1 nz la ((lc.drop (0 : Int).toNat).take (((lc.length : Int) - 32 : Int).toNat - (0 : Int).toNat)))]))) Qy Zl rfl rfl sD m53.h1 sZ rfl) fun w54 m54 => rN ?_
    have m55 := Mem.drop [_] _ m54
    have m56 := Mem.drop Hsq45 _ (Mem.pick [_] Hsq45 _ m55)
    refine Qa (Qa ?_)
    refine Xl (dl 4) 4 Xw <| Yb rfl (Xo (i := 0) (j := 32) Xq Y0 rfl (Zi _ _) (Zi _ _) oM sD sD) <| Ky rfl vc <| Ky rfl (i64 ((lc.length : Int) - 32)) <| Yn rfl (fun _ e' => Jd (i := (lc.length : Int) - 32) (j := (lc.length : Int)) (Rd.ofRest hrc (m56.ext e')) Zu Y0 rfl (Yh (k := .i64) (i := (lc.length : Int) - 32) rfl) (Zi _ _) oM sD sD) <| Gs m56 fun w57 m57 => U9 m57 (oc77 (Xm rfl rfl) (Qmm (sla b13_1 0 1 0 32 32) (Ci vc ((lc.length : Int) - 32) (lc.length : Int)) (Xk (Ul key) (Vu ([(rxq45, U1 nz la ((lc.drop (0 : Int).toNat).take (((lc.length : Int) - 32 : Int).toNat - (0 : Int).toNat)))]))) ((lc.drop ((lc.length : Int) - 32 : Int).toNat).take (((lc.length : Int) : Int).toNat - ((lc.length : Int) - 32 : Int).toNat)) _ (Rd.slaAll m57.h0 sD) (Rd.cast (l' := (lc.drop ((lc.length : Int) - 32 : Int).toNat).take (((lc.length : Int) : Int).toNat - ((lc.length : Int) - 32 : Int).toNat)) (Rd.sub (Rd.ofRest hrc m57) oM sD sD) rfl) sD)) fun w58 m58 => Qd (Ut rfl) <| rN ?_
    refine Z8 rfl (fun hc60 => ?_) (fun hc60 => ?_)
    ·
     have hc60n : ((Xk (Ul key) (Vu ([(rxq45, U1 nz la ((lc.drop (0 : Int).toNat).take (((lc.length : Int) - 32 : Int).toNat - (0 : Int).toNat)))]))) == ((lc.drop ((lc.length : Int) - 32 : Int).toNat).take (((lc.length : Int) : Int).toNat - ((lc.length : Int) - 32 : Int).toNat))) = false := by simpa using hc60
     have hc60p := ne_of_beq_false hc60n
     refine sR <| Zz Yj <| Zz (i64 10) ?_
     refine rN (Xb (Y3 ?_))
     refine Qv [Yj, (i64 10)] ⟨rfl, rfl, trivial⟩ ?_
     have m61 := Mem.drop [_] _ m58
     have m62 := Mem.drop [_] _ m61
     have m63 := Mem.drop [_] _ m62
     have m64 := Mem.drop [_] _ m63
     have m65 := Mem.drop [_] _ m64
     have hrt : Ff key nz la lc = false := by
      unfold Ff Qd0; rw [← Ur oM, ← Lj oM]
      first | simpa [J5] using hc60 | (simp only [Ul]; simpa [J5] using hc60)
     exact ⟨Yj, [], by rw [Bf oM hrt]; rfl, by rw [Eu oM hrt]; exact (Xe.none _ _), by simpa using m65⟩
    ·
     have hc60n : ((Xk (Ul key) (Vu ([(rxq45, U1 nz la ((lc.drop (0 : Int).toNat).take (((lc.length : Int) - 32 : Int).toNat - (0 : Int).toNat)))]))) == ((lc.drop ((lc.length : Int) - 32 : Int).toNat).take (((lc.length : Int) : Int).toNat - ((lc.length : Int) - 32 : Int).toNat))) = true := by simpa using hc60
     have hc60p := eq_of_beq hc60n
     refine Qs (Qc (Qa ?_))
     refine Xl (dl 5) 5 Xw <| Yn rfl (fun _ e' => Qp Xq rfl Zl rfl (m58.ext e').h2 sZ) <| Yn rfl (fun _ e' => Qp Pj rfl Qa9 rfl (m58.ext e').h3 sZ) <| Ky rfl vc <| Ky rfl (i64 ((lc.length : Int) - 32)) <| Yn rfl (fun _ e' => Jd (i := 0) (j := (lc.length : Int) - 32) (Rd.ofRest hrc (m58.ext e')) Zu Y0 rfl (Zi _ _) (Yh (k := .i64) (i := (lc.length : Int) - 32) rfl) oM sD sD) <| Gs m58 fun w66 m66 => Vy (oc61 (Hm rfl rfl rfl rfl) (Qmk _ 1#32 _ (Ci vc 0 ((lc.length : Int) - 32)) ((lc.drop (0 : Int).toNat).take (((lc.length : Int) - 32 : Int).toNat - (0 : Int).toNat)) _ sD sD (Rd.cast (l' := (lc.drop (0 : Int).toNat).take (((lc.length : Int) - 32 : Int).toNat - (0 : Int).toNat)) (Rd.sub (Rd.ofRest hrc m66) oM sD sD) rfl) sD)) ?_
     rintro _ w67 ⟨bq68, rfl, k_w67⟩
     have m67 : Mem _ _ [_, _, _, _, _, _] := Mem.new (H := [_, _, _, _, _]) (H' := [(bq68, .cells (cl u8 (Jy Yv (Ws key) 1#32 nz ((lc.drop (0 : Int).toNat).take (((lc.length : Int) - 32 : Int).toNat - (0 : Int).toNat)))) 5 (0, 0))]) m66 k_w67
     refine Sz rfl <| Zz (i64 0) ?_
     refine rN (Xb ?_)
     refine Qv [(Wq bq68 0 ((Jy Yv (Ws key) 1#32 nz ((lc.drop (0 : Int).toNat).take (((lc.length : Int) - 32 : Int).toNat - (0 : Int).toNat))).length) ((Jy Yv (Ws key) 1#32 nz ((lc.drop (0 : Int).toNat).take (((lc.length : Int) - 32 : Int).toNat - (0 : Int).toNat))).length)), (i64 0)] ⟨rfl, rfl, trivial⟩ ?_
     have m69 := Mem.drop [_] _ (Mem.pick [_] [_] _ m67)
     have m70 := Mem.drop [_] _ (Mem.pick [_] [_] _ m69)
     have m71 := Mem.drop [_] _ (Mem.pick [_] [_] _ m70)
     have m72 := Mem.drop [_] _ (Mem.pick [_] [_] _ m71)
     have m73 := Mem.drop [_] _ (Mem.pick [_] [_] _ m72)
     have hrt : Ff key nz la lc = true := by
      unfold Ff Qd0; rw [← Ur oM, ← Lj oM]
      first | simpa [J5] using hc60 | (simp only [Ul]; simpa [J5] using hc60)
     have hfin : Jy Yv (Ws key) 1#32 nz ((lc.drop (0 : Int).toNat).take (((lc.length : Int) - 32 : Int).toNat - (0 : Int).toNat)) = U8 key nz (Af lc) := by rw [← Ur oM]; first | rfl | (rw [← Qfw]; simp only [Nc, Ws])
     exact ⟨(Wq bq68 0 ((Jy Yv (Ws key) 1#32 nz ((lc.drop (0 : Int).toNat).take (((lc.length : Int) - 32 : Int).toNat - (0 : Int).toNat))).length) ((Jy Yv (Ws key) 1#32 nz ((lc.drop (0 : Int).toNat).take (((lc.length : Int) - 32 : Int).toNat - (0 : Int).toNat))).length)), [(bq68, .cells (cl u8 (Jy Yv (Ws key) 1#32 nz ((lc.drop (0 : Int).toNat).take (((lc.length : Int) - 32 : Int).toNat - (0 : Int).toNat)))) 5 (0, 0))], by rw [Bf oM hrt]; rfl, by rw [Eu oM hrt]; show Xe _ _ _ (U8 key nz (Af lc)) _; exact hfin ▸ (Xe.of u8 5 bq68 (Jy Yv (Ws key) 1#32 nz ((lc.drop (0 : Int).toNat).take (((lc.length : Int) - 32 : Int).toNat - (0 : Int).toNat)))), by simpa using m73⟩
  ·
   refine Ar [(0, false), (1, false), (2, false), (3, false), (4, false), (5, false), (9, true), (6, true), (7, true), (8, false)] 10 rfl Xw <| Yb rfl (Xo (i := 0) (j := 32) Xq Y0 rfl (Zi _ _) (Zi _ _) oM sD sD) <| Yn rfl (fun _ e' => Qp Pj rfl Qa9 rfl (m11.ext e').h2 sZ) <| Ky rfl va <| Ky rfl vc <| Ky rfl (i64 ((lc.length : Int) - 32)) <| Yn rfl (fun _ e' => Jd (i := 0) (j := (lc.length : Int) - 32) (Rd.ofRest hrc (m11.ext e')) Zu Y0 rfl (Zi _ _) (Yh (k := .i64) (i := (lc.length : Int) - 32) rfl) oM sD sD) ?_
   refine Cj rfl rfl (fun w74 e74 => ?_)
   have m74 := m11.ext e74
   refine Vp.mono (Zc m74 Zl) ?_
   rintro _ w75 ⟨b13_2, rfl, e75, m75⟩
   refine ⟨e75, ?_⟩
   refine Cj rfl rfl (fun w76 e76 => ?_)
   have m76 := m75.ext e76
   refine Vp.mono (oc62 (D6 rfl rfl rfl) (Qab _ va la (Ci vc 0 ((lc.length : Int) - 32)) ((lc.drop (0 : Int).toNat).take (((lc.length : Int) - 32 : Int).toNat - (0 : Int).toNat)) _ sD (Rd.ofRest hra m76) sD (Rd.cast (l' := (lc.drop (0 : Int).toNat).take (((lc.length : Int) - 32 : Int).toNat - (0 : Int).toNat)) (Rd.sub (Rd.ofRest hrc m76) oM sD sD) rfl) sD)) ?_
   rintro rxq78 w77 ⟨Hsq78, grxq78, k_w77⟩
   refine ⟨k_w77.toExt, ?_⟩
   have m77 : Mem _ _ (Hsq78 ++ ([_, _, _, _, _])) := Mem.new (H := [_, _, _, _, _]) (H' := Hsq78) m76 k_w77
   refine Cj rfl rfl (fun w79 e79 => ?_)
   have m79 := m77.ext e79
   refine Vp.mono (Ku [rxq78] (List.all_eq_true.1 (X4 grxq78.one Kw)) m79 Qbi Pg rfl rfl rfl) ?_
   rintro _ w80 ⟨b31_2, rfl, e80, m80⟩
   refine ⟨e80, ?_⟩
   have m80 : Mem w80 (Qu w0) ([(b31_2, .cells #[rxq78] 27 (0, 0))] ++ (Hsq78 ++ ([(b13_2, .cells (cl u8 (List.replicate 32 0)) 23 (0, 0)), (b12, .cells (cl u8 (Ul key)) 23 (0, 0)), (b11, .cells (cl u8 (Ws key)) 23 (0, 0)), (b5, .cells (cl u8 nz) 77 (0, 0)), (b4, .cells (cl u8 key) 23 (0, 0))]))) := m80
   refine Vg rfl rfl (fun w81 e81 => oc59 (Xm rfl rfl) (Qbh (sla b12 0 1 0 32 32) (Ul key) (Wq b31_2 0 1 1) ([(rxq78, U1 nz la ((lc.drop (0 : Int).toNat).take (((lc.length : Int) - 32 : Int).toNat - (0 : Int).toNat)))]) _ (hT.mono fun b o e => ((m80.ext e81)).rest b o e) (Rd.slaAll ((Mem.pick3 [_] Hsq78 [_] [_] _ (m80.ext e81))).h0 sD) sD (Rd.mkA (f := Prod.fst) (l := [(rxq78, U1 nz la ((lc.drop (0 : Int).toNat).take (((lc.length : Int) - 32 : Int).toNat - (0 : Int).toNat)))]) (m80.ext e81).h0) (Ef (grxq78.rd (Mem.pick [_] Hsq78 _ (m80.ext e81))) Ll) (by rw [J5]; simp only [Me]; simp; omega) sD)) <| Gs m80 fun w84 m84 => Vk (Qj (f := u8) (l := Xk (Ul key) (Vu ([(rxq78, U1 nz la ((lc.drop (0 : Int).toNat).take (((lc.length : Int) - 32 : Int).toNat - (0 : Int).toNat)))]))) Qy Zl rfl rfl sD ((Mem.pick2 [_] Hsq78 [_] _ m84)).h0 sZ rfl) ?_
   rintro _ w85 uq85
   have m85 : Mem _ _ ([_, _] ++ (Hsq78 ++ ([_, _, _, _]))) := Mem.upd0 (Mem.pick2 [_] Hsq78 [_] _ m84) uq85
   refine rN ?_
   have m86 := Mem.drop [_] _ (Mem.pick [_] [_] _ m85)
   have m87 := Mem.drop Hsq78 _ (Mem.pick [_] Hsq78 _ m86)
   refine Qa (Qa ?_)
   refine Xl (dl 4) 4 Xw <| Yb rfl (Xo (i := 0) (j := 32) Xq Y0 rfl (Zi _ _) (Zi _ _) oM sD sD) <| Ky rfl vc <| Ky rfl (i64 ((lc.length : Int) - 32)) <| Yn rfl (fun _ e' => Jd (i := (lc.length : Int) - 32) (j := (lc.length : Int)) (Rd.ofRest hrc (m87.ext e')) Zu Y0 rfl (Yh (k := .i64) (i := (lc.length : Int) - 32) rfl) (Zi _ _) oM sD sD) <| Gs m87 fun w88 m88 => U9 m88 (oc77 (Xm rfl rfl) (Qmm (sla b13_2 0 1 0 32 32) (Ci vc ((lc.length : Int) - 32) (lc.length : Int)) (Xk (Ul key) (Vu ([(rxq78, U1 nz la ((lc.drop (0 : Int).toNat).take (((lc.length : Int) - 32 : Int).toNat - (0 : Int).toNat)))]))) ((lc.drop ((lc.length : Int) - 32 : Int).toNat).take (((lc.length : Int) : Int).toNat - ((lc.length : Int) - 32 : Int).toNat)) _ (Rd.slaAll m88.h0 sD) (Rd.cast (l' := (lc.drop ((lc.length : Int) - 32 : Int).toNat).take (((lc.length : Int) : Int).toNat - ((lc.length : Int) - 32 : Int).toNat)) (Rd.sub (Rd.ofRest hrc m88) oM sD sD) rfl) sD)) fun w89 m89 => Qd (Ut rfl) <| rN ?_
   refine Z8 rfl (fun hc91 => ?_) (fun hc91 => ?_)
   ·
    have hc91n : ((Xk (Ul key) (Vu ([(rxq78, U1 nz la ((lc.drop (0 : Int).toNat).take (((lc.length : Int) - 32 : Int).toNat - (0 : Int).toNat)))]))) == ((lc.drop ((lc.length : Int) - 32 : Int).toNat).take (((lc.length : Int) : Int).toNat - ((lc.length : Int) - 32 : Int).toNat))) = false := by simpa using hc91
    have hc91p := ne_of_beq_false hc91n
    refine sR <| Zz Yj <| Zz (i64 10) ?_
    refine rN (Xb (Y3 ?_))
    refine Qv [Yj, (i64 10)] ⟨rfl, rfl, trivial⟩ ?_
    have m92 := Mem.drop [_] _ m89
    have m93 := Mem.drop [_] _ m92
    have m94 := Mem.drop [_] _ m93
    have m95 := Mem.drop [_] _ m94
    have m96 := Mem.drop [_] _ m95
    have hrt : Ff key nz la lc = false := by
     unfold Ff Qd0; rw [← Ur oM, ← Lj oM]
     first | simpa [J5] using hc91 | (simp only [Ul]; simpa [J5] using hc91)
    exact ⟨Yj, [], by rw [Bf oM hrt]; rfl, by rw [Eu oM hrt]; exact (Xe.none _ _), by simpa using m96⟩
   ·
    have hc91n : ((Xk (Ul key) (Vu ([(rxq78, U1 nz la ((lc.drop (0 : Int).toNat).take (((lc.length : Int) - 32 : Int).toNat - (0 : Int).toNat)))]))) == ((lc.drop ((lc.length : Int) - 32 : Int).toNat).take (((lc.length : Int) : Int).toNat - ((lc.length : Int) - 32 : Int).toNat))) = true := by simpa using hc91
    have hc91p := eq_of_beq hc91n
    refine Qs (Qc (Qa ?_))
    refine Xl (dl 5) 5 Xw <| Yn rfl (fun _ e' => Qp Xq rfl Zl rfl (m89.ext e').h2 sZ) <| Yn rfl (fun _ e' => Qp Pj rfl Qa9 rfl (m89.ext e').h3 sZ) <| Ky rfl vc <| Ky rfl (i64 ((lc.length : Int) - 32)) <| Yn rfl (fun _ e' => Jd (i := 0) (j := (lc.length : Int) - 32) (Rd.ofRest hrc (m89.ext e')) Zu Y0 rfl (Zi _ _) (Yh (k := .i64) (i := (lc.length : Int) - 32) rfl) oM sD sD) <| Gs m89 fun w97 m97 => Vy (oc61 (Hm rfl rfl rfl rfl) (Qmk _ 1#32 _ (Ci vc 0 ((lc.length : Int) - 32)) ((lc.drop (0 : Int).toNat).take (((lc.length : Int) - 32 : Int).toNat - (0 : Int).toNat)) _ sD sD (Rd.cast (l' := (lc.drop (0 : Int).toNat).take (((lc.length : Int) - 32 : Int).toNat - (0 : Int).toNat)) (Rd.sub (Rd.ofRest hrc m97) oM sD sD) rfl) sD)) ?_
    rintro _ w98 ⟨bq99, rfl, k_w98⟩
    have m98 : Mem _ _ [_, _, _, _, _, _] := Mem.new (H := [_, _, _, _, _]) (H' := [(bq99, .cells (cl u8 (Jy Yv (Ws key) 1#32 nz ((lc.drop (0 : Int).toNat).take (((lc.length : Int) - 32 : Int).toNat - (0 : Int).toNat)))) 5 (0, 0))]) m97 k_w98
    refine Sz rfl <| Zz (i64 0) ?_
    refine rN (Xb ?_)
    refine Qv [(Wq bq99 0 ((Jy Yv (Ws key) 1#32 nz ((lc.drop (0 : Int).toNat).take (((lc.length : Int) - 32 : Int).toNat - (0 : Int).toNat))).length) ((Jy Yv (Ws key) 1#32 nz ((lc.drop (0 : Int).toNat).take (((lc.length : Int) - 32 : Int).toNat - (0 : Int).toNat))).length)), (i64 0)] ⟨rfl, rfl, trivial⟩ ?_
    have m100 := Mem.drop [_] _ (Mem.pick [_] [_] _ m98)
    have m101 := Mem.drop [_] _ (Mem.pick [_] [_] _ m100)
    have m102 := Mem.drop [_] _ (Mem.pick [_] [_] _ m101)
    have m103 := Mem.drop [_] _ (Mem.pick [_] [_] _ m102)
    have m104 := Mem.drop [_] _ (Mem.pick [_] [_] _ m103)
    have hrt : Ff key nz la lc = true := by
     unfold Ff Qd0; rw [← Ur oM, ← Lj oM]
     first | simpa [J5] using hc91 | (simp only [Ul]; simpa [J5] using hc91)
    have hfin : Jy Yv (Ws key) 1#32 nz ((lc.drop (0 : Int).toNat).take (((lc.length : Int) - 32 : Int).toNat - (0 : Int).toNat)) = U8 key nz (Af lc) := by rw [← Ur oM]; first | rfl | (rw [← Qfw]; simp only [Nc, Ws])
    exact ⟨(Wq bq99 0 ((Jy Yv (Ws key) 1#32 nz ((lc.drop (0 : Int).toNat).take (((lc.length : Int) - 32 : Int).toNat - (0 : Int).toNat))).length) ((Jy Yv (Ws key) 1#32 nz ((lc.drop (0 : Int).toNat).take (((lc.length : Int) - 32 : Int).toNat - (0 : Int).toNat))).length)), [(bq99, .cells (cl u8 (Jy Yv (Ws key) 1#32 nz ((lc.drop (0 : Int).toNat).take (((lc.length : Int) - 32 : Int).toNat - (0 : Int).toNat)))) 5 (0, 0))], by rw [Bf oM hrt]; rfl, by rw [Eu oM hrt]; show Xe _ _ _ (U8 key nz (Af lc)) _; exact hfin ▸ (Xe.of u8 5 bq99 (Jy Yv (Ws key) 1#32 nz ((lc.drop (0 : Int).toNat).take (((lc.length : Int) - 32 : Int).toNat - (0 : Int).toNat)))), by simpa using m104⟩
set_option maxHeartbeats 1000000 in
theorem Qqw (key : Xg) (nz : Xg) (va : Value) (la : Xg) (vc : Value) (lc : Xg) (w0 : World)  (hk : key.length = 32) (hn : nz.length = 12) (hra : Rd (Jl w0) u8 va la) (hla : la.length ≤ 100000) (hrc : Rd (Jl w0) u8 vc lc) (hlc : lc.length ≤ 100000) : X9 prog 55 #[(agg u8 key), (agg u8 nz), va, vc] w0 (fun r w1 => ∃ v Hs, r = Value.tuple #[v, i64 (Tn key nz la lc)] ∧ Xe u8 5 v (Qam key nz la lc) Hs ∧ Mem w1 (Qu w0) Hs) := by
 refine Zb (args := [(agg u8 key), (agg u8 nz), va, vc]) func55 rfl ntmps55 results55 rfl ?_
 have m0 : Mem w0 (Qu w0) [] := Mem.of_world w0
 have hkt := Qc8 key
 have hkm := Qc9 key
 have hcl := Ny key nz lc
 refine sR <| Y9 (Xa (f := u8) (l := key) m0 rfl) fun w1 b4 m1 => Y9 (Xa (f := u8) (l := nz) m1 rfl) fun w2 b5 m2 => Zz Yj <| Zz (i64 0) ?_
 refine rN (Qa (sR ?_))
 refine Zp vc <| Qd (Yl (Rd.ofRest hrc m2) Zu rfl) <| Qd (Z9 (b := 32) rfl rfl) <| rN ?_
 refine Z8 rfl (fun hc3 => ?_) (fun hc3 => ?_)
 ·
  have hc3p := of_decide_eq_true hc3
  refine sR <| Zz Yj <| Zz (i64 3) ?_
  refine rN (Xb (Y3 ?_))
  refine Qv [Yj, (i64 3)] ⟨rfl, rfl, trivial⟩ ?_
  have m4 := Mem.drop [_] _ m2
  have m5 := Mem.drop [_] _ m4
  exact ⟨Yj, [], by rw [Qjj oM]; rfl, by rw [Qhb oM]; exact (Xe.none _ _), by simpa using m5⟩
 ·
  have hc3p := of_decide_eq_false hc3
  refine Qs (Qc (sR ?_))
  refine Zp vc <| Qd (Yl (Rd.ofRest hrc m2) Zu rfl) <| Qd (Yk (b := 32) rfl rfl oM oM) <| Zz (i64 ((lc.length : Int) - 32)) ?_
  refine rN (sR ?_)
  refine Y9 (Qw u8 [] Qy m2 Zu Y0 rfl (by simp [Ac]) rfl) fun w6 b19 m6 => Qd (Xo (i := 0) (j := 32) Xq Y0 rfl (Zi _ _) (Zi _ _) oM sD sD) <| Vy (oc70 (Hm rfl rfl rfl rfl) (Qqx (Wq b19 0 0 0) ([]) (sla b4 0 1 0 32 32) key (⟨#[115, 101, 97, 108]⟩) _ _ (Rd.mkA m6.h0) sD (Rd.slaAll m6.h2 sD) sD sD sD)) ?_
  rintro rxq8 w7 ⟨Hsq8, grxq8, k_w7⟩
  have m7 : Mem _ _ (Hsq8 ++ ([_, _, _])) := Mem.new (H := [_, _, _]) (H' := Hsq8) m6 k_w7
  have gX9 := grxq8
  rw [Nc] at gX9
  have hkl := Qkx (a := []) (b := key) (p := Kv ⟨#[115, 101, 97, 108]⟩) (n := 2) Jg Jg
  have hk0 : ((Wp [] key (Kv ⟨#[115, 101, 97, 108]⟩) 2).getD 0 []).length = 32 := Qc8 key
  have hk1 : ((Wp [] key (Kv ⟨#[115, 101, 97, 108]⟩) 2).getD 1 []).length = 32 := Qc9 key
  refine Zz rxq8 ?_
  refine rN (Qa ?_)
  refine Kr Xw ?_
  refine Qiy 8 10 rfl rfl ?_ ?_
  ·
   refine Ar [(0, false), (1, false), (2, false), (3, false), (4, false), (5, false), (6, false), (7, false), (8, true), (9, false), (10, true)] 11 rfl Xw <| Ky rfl rxq8 <| Yn rfl (fun _ e' => Jb (i := 1) (gX9.rd (m7.ext e')) Qcx Zl rfl rfl oM sD) <| Yn rfl (fun _ e' => Qfp (i := (1 : Int)) (gX9.rd (m7.ext e')) sD rfl Xq Y0 rfl) <| Yn rfl (fun _ e' => Qp Pj rfl Qa9 rfl ((Mem.pick2 Hsq8 [_] [_] _ (m7.ext e'))).h0 sZ) <| Ky rfl va <| Ky rfl vc <| Ky rfl (i64 ((lc.length : Int) - 32)) <| Yn rfl (fun _ e' => Jd (i := 0) (j := (lc.length : Int) - 32) (Rd.ofRest hrc (m7.ext e')) Zu Y0 rfl (Zi _ _) (Yh (k := .i64) (i := (lc.length : Int) - 32) rfl) oM sD sD) ?_
   refine Cj rfl rfl (fun w10 e10 => ?_)
   have m10 := m7.ext e10
   refine Vp.mono (oc72 (D6 rfl rfl rfl) (Qjq _ va la (Ci vc 0 ((lc.length : Int) - 32)) ((lc.drop (0 : Int).toNat).take (((lc.length : Int) - 32 : Int).toNat - (0 : Int).toNat)) _ sD (Rd.ofRest hra m10) sD (Rd.cast (l' := (lc.drop (0 : Int).toNat).take (((lc.length : Int) - 32 : Int).toNat - (0 : Int).toNat)) (Rd.sub (Rd.ofRest hrc m10) oM sD sD) rfl) sD)) ?_
   rintro rxq12 w11 ⟨Hsq12, grxq12, k_w11⟩
   refine ⟨k_w11.toExt, ?_⟩
   have m11 : Mem _ _ (Hsq12 ++ (Hsq8 ++ ([_, _, _]))) := Mem.new (H := Hsq8 ++ ([_, _, _])) (H' := Hsq12) m10 k_w11
   refine Vg rfl rfl (fun w13 e13 => oc69 (Xm rfl rfl) (Tq (elsl rxq8 (1 : Int) 32) ((Wp [] key (Kv ⟨#[115, 101, 97, 108]⟩) 2).getD 1 []) rxq12 (U1 nz la ((lc.drop (0 : Int).toNat).take (((lc.length : Int) - 32 : Int).toNat - (0 : Int).toNat))) _ (Rd.cast (l' := (Wp [] key (Kv ⟨#[115, 101, 97, 108]⟩) 2).getD 1 []) (Rd.elsl (i := (1 : Int)) (gX9.rd (Mem.pick Hsq12 Hsq8 _ (m11.ext e13))) sD) rfl) sD (grxq12.rd (m11.ext e13)) sD)) ?_
   refine Cj rfl rfl (fun w16 e16 => ?_)
   have m16 := m11.ext e16
   refine Vp.mono (Zc m16 Zl) ?_
   rintro _ w17 ⟨b12, rfl, e17, m17⟩
   refine ⟨e17, ?_⟩
   refine Gs m17 fun w18 m18 => Ye m18 (Qj (f := u8) (l := Xk ((Wp [] key (Kv ⟨#[115, 101, 97, 108]⟩) 2).getD 1 []) (U1 nz la ((lc.drop (0 : Int).toNat).take (((lc.length : Int) - 32 : Int).toNat - (0 : Int).toNat)))) Qy Zl rfl rfl sD m18.h0 sZ rfl) fun w19 m19 => rN ?_
   have m20 := Mem.drop Hsq12 _ (Mem.pick [_] Hsq12 _ m19)
   have m21 := Mem.drop [_] _ (Mem.pick2 [_] Hsq8 [_] _ m20)
   refine Qa (Qa ?_)
   refine Xl (dl 4) 4 Xw <| Yb rfl (Xo (i := 0) (j := 32) Xq Y0 rfl (Zi _ _) (Zi _ _) oM sD sD) <| Ky rfl vc <| Ky rfl (i64 ((lc.length : Int) - 32)) <| Yn rfl (fun _ e' => Jd (i := (lc.length : Int) - 32) (j := (lc.length : Int)) (Rd.ofRest hrc (m21.ext e')) Zu Y0 rfl (Yh (k := .i64) (i := (lc.length : Int) - 32) rfl) (Zi _ _) oM sD sD) <| Gs m21 fun w22 m22 => U9 m22 (oc15 (Xm rfl rfl) (Qgy (sla b12 0 1 0 32 32) (Ci vc ((lc.length : Int) - 32) (lc.length : Int)) (Xk ((Wp [] key (Kv ⟨#[115, 101, 97, 108]⟩) 2).getD 1 []) (U1 nz la ((lc.drop (0 : Int).toNat).take (((lc.length : Int) - 32 : Int).toNat - (0 : Int).toNat)))) ((lc.drop ((lc.length : Int) - 32 : Int).toNat).take (((lc.length : Int) : Int).toNat - ((lc.length : Int) - 32 : Int).toNat)) _ (Rd.slaAll m22.h0 sD) (Rd.cast (l' := (lc.drop ((lc.length : Int) - 32 : Int).toNat).take (((lc.length : Int) : Int).toNat - ((lc.length : Int) - 32 : Int).toNat)) (Rd.sub (Rd.ofRest hrc m22) oM sD sD) rfl) sD)) fun w23 m23 => Qd (Ut rfl) <| rN ?_
   refine Z8 rfl (fun hc25 => ?_) (fun hc25 => ?_)
   ·
    have hc25n : ((Xk ((Wp [] key (Kv ⟨#[115, 101, 97, 108]⟩) 2).getD 1 []) (U1 nz la ((lc.drop (0 : Int).toNat).take (((lc.length : Int) - 32 : Int).toNat - (0 : Int).toNat)))) == ((lc.drop ((lc.length : Int) - 32 : Int).toNat).take (((lc.length : Int) : Int).toNat - ((lc.length : Int) - 32 : Int).toNat))) = false := by simpa using hc25
    have hc25p := ne_of_beq_false hc25n
    refine sR <| Zz Yj <| Zz (i64 10) ?_
    refine rN (Xb (Y3 ?_))
    refine Qv [Yj, (i64 10)] ⟨rfl, rfl, trivial⟩ ?_
    have m26 := Mem.drop [_] _ m23
    have m27 := Mem.drop Hsq8 _ m26
    have m28 := Mem.drop [_] _ m27
    have m29 := Mem.drop [_] _ m28
    have hrt : Ff key nz la lc = false := by
     unfold Ff Qd0; rw [← Ur oM, ← Lj oM]
     first | simpa [J5] using hc25 | (simp only [Ul]; simpa [J5] using hc25)
    exact ⟨Yj, [], by rw [Bf oM hrt]; rfl, by rw [Eu oM hrt]; exact (Xe.none _ _), by simpa using m29⟩
   ·
    have hc25n : ((Xk ((Wp [] key (Kv ⟨#[115, 101, 97, 108]⟩) 2).getD 1 []) (U1 nz la ((lc.drop (0 : Int).toNat).take (((lc.length : Int) - 32 : Int).toNat - (0 : Int).toNat)))) == ((lc.drop ((lc.length : Int) - 32 : Int).toNat).take (((lc.length : Int) : Int).toNat - ((lc.length : Int) - 32 : Int).toNat))) = true := by simpa using hc25
    have hc25p := eq_of_beq hc25n
    refine Qs (Qc (Qa ?_))
    refine Xl (dl 7) 7 Xw <| Ky rfl rxq8 <| Yn rfl (fun _ e' => Jb (i := 0) (gX9.rd (Mem.pick [_] Hsq8 _ (m23.ext e'))) Qcx Zl rfl rfl oM sD) <| Yn (v := (agg u8 ((Wp [] key (Kv ⟨#[115, 101, 97, 108]⟩) 2).getD 0 []))) rfl (fun _ e' => D9 (i := (0 : Int)) (gX9.rd (Mem.pick [_] Hsq8 _ (m23.ext e'))) sD Xq Zl rfl rfl) <| Yn rfl (fun _ e' => Qp Pj rfl Qa9 rfl ((Mem.pick2 [_] Hsq8 [_] _ (m23.ext e'))).h0 sZ) <| Ky rfl vc <| Ky rfl (i64 ((lc.length : Int) - 32)) <| Yn rfl (fun _ e' => Jd (i := 0) (j := (lc.length : Int) - 32) (Rd.ofRest hrc (m23.ext e')) Zu Y0 rfl (Zi _ _) (Yh (k := .i64) (i := (lc.length : Int) - 32) rfl) oM sD sD) <| Gs m23 fun w30 m30 => Vy (oc71 (Hm rfl rfl rfl rfl) (Qqr _ 1#32 _ (Ci vc 0 ((lc.length : Int) - 32)) ((lc.drop (0 : Int).toNat).take (((lc.length : Int) - 32 : Int).toNat - (0 : Int).toNat)) _ sD sD (Rd.cast (l' := (lc.drop (0 : Int).toNat).take (((lc.length : Int) - 32 : Int).toNat - (0 : Int).toNat)) (Rd.sub (Rd.ofRest hrc m30) oM sD sD) rfl) sD)) ?_
    rintro rq32 w31 ⟨Hsq32, grq32, k_w31⟩
    have m31 : Mem _ _ (Hsq32 ++ ([_] ++ (Hsq8 ++ ([_, _])))) := Mem.new (H := [_] ++ (Hsq8 ++ ([_, _]))) (H' := Hsq32) m30 k_w31
    refine Zz rq32 <| Zz (i64 0) ?_
    refine rN (Xb ?_)
    refine Qv [rq32, (i64 0)] ⟨rfl, rfl, trivial⟩ ?_
    have m33 := Mem.drop [_] _ (Mem.pick Hsq32 [_] _ m31)
    have m34 := Mem.drop Hsq8 _ (Mem.pick Hsq32 Hsq8 _ m33)
    have m35 := Mem.drop [_] _ (Mem.pick Hsq32 [_] _ m34)
    have m36 := Mem.drop [_] _ (Mem.pick Hsq32 [_] _ m35)
    have hrt : Ff key nz la lc = true := by
     unfold Ff Qd0; rw [← Ur oM, ← Lj oM]
     first | simpa [J5] using hc25 | (simp only [Ul]; simpa [J5] using hc25)
    have hfin : Jy F7 ((Wp [] key (Kv ⟨#[115, 101, 97, 108]⟩) 2).getD 0 []) 1#32 nz ((lc.drop (0 : Int).toNat).take (((lc.length : Int) - 32 : Int).toNat - (0 : Int).toNat)) = U8 key nz (Af lc) := by rw [← Ur oM]; first | rfl | (rw [← Qfw]; simp only [Nc, Ws])
    exact ⟨rq32, Hsq32, by rw [Bf oM hrt]; rfl, by rw [Eu oM hrt]; show Xe _ _ _ (U8 key nz (Af lc)) _; exact hfin ▸ grq32, by simpa using m36⟩
  ·
   refine Ar [(0, false), (1, false), (2, false), (3, false), (4, false), (5, false), (6, false), (7, false), (10, true), (8, true), (9, false)] 11 rfl Xw <| Ky rfl rxq8 <| Yn rfl (fun _ e' => Jb (i := 1) (gX9.rd (m7.ext e')) Qcx Zl rfl rfl oM sD) <| Yn rfl (fun _ e' => Qfp (i := (1 : Int)) (gX9.rd (m7.ext e')) sD rfl Xq Y0 rfl) <| Yn rfl (fun _ e' => Qp Pj rfl Qa9 rfl ((Mem.pick2 Hsq8 [_] [_] _ (m7.ext e'))).h0 sZ) <| Ky rfl va <| Ky rfl vc <| Ky rfl (i64 ((lc.length : Int) - 32)) <| Yn rfl (fun _ e' => Jd (i := 0) (j := (lc.length : Int) - 32) (Rd.ofRest hrc (m7.ext e')) Zu Y0 rfl (Zi _ _) (Yh (k := .i64) (i := (lc.length : Int) - 32) rfl) oM sD sD) ?_
   refine Cj rfl rfl (fun w37 e37 => ?_)
   have m37 := m7.ext e37
   refine Vp.mono (Zc m37 Zl) ?_
   rintro _ w38 ⟨b12_1, rfl, e38, m38⟩
   refine ⟨e38, ?_⟩
   refine Cj rfl rfl (fun w39 e39 => ?_)
   have m39 := m38.ext e39
   refine Vp.mono (oc72 (D6 rfl rfl rfl) (Qjq _ va la (Ci vc 0 ((lc.length : Int) - 32)) ((lc.drop (0 : Int).toNat).take (((lc.length : Int) - 32 : Int).toNat - (0 : Int).toNat)) _ sD (Rd.ofRest hra m39) sD (Rd.cast (l' := (lc.drop (0 : Int).toNat).take (((lc.length : Int) - 32 : Int).toNat - (0 : Int).toNat)) (Rd.sub (Rd.ofRest hrc m39) oM sD sD) rfl) sD)) ?_
   rintro rxq41 w40 ⟨Hsq41, grxq41, k_w40⟩
   refine ⟨k_w40.toExt, ?_⟩
   have m40 : Mem _ _ (Hsq41 ++ ([_] ++ (Hsq8 ++ ([_, _, _])))) := Mem.new (H := [_] ++ (Hsq8 ++ ([_, _, _]))) (H' := Hsq41) m39 k_w40
   refine Vg rfl rfl (fun w42 e42 => oc69 (Xm rfl rfl) (Tq (elsl rxq8 (1 : Int) 32) ((Wp [] key (Kv ⟨#[115, 101, 97, 108]⟩) 2).getD 1 []) rxq41 (U1 nz la ((lc.drop (0 : Int).toNat).take (((lc.length : Int) - 32 : Int).toNat - (0 : Int).toNat))) _ (Rd.cast (l' := (Wp [] key (Kv ⟨#[115, 101, 97, 108]⟩) 2).getD 1 []) (Rd.elsl (i := (1 : Int)) (gX9.rd (Mem.pick2 Hsq41 [_] Hsq8 _ (m40.ext e42))) sD) rfl) sD (grxq41.rd (m40.ext e42)) sD)) <| Gs m40 fun w45 m45 => Vk (Qj (f := u8) (l := Xk ((Wp [] key (Kv ⟨#[115, 101, 97, 108]⟩) 2).getD 1 []) (U1 nz la ((lc.drop (0 : Int).toNat).take (((lc.length : Int) - 32 : Int).toNat - (0 : Int).toNat)))) Qy Zl rfl rfl sD ((Mem.pick Hsq41 [_] _ m45)).h0 sZ rfl) ?_
   rintro _ w46 uq46
   have m46 : Mem _ _ ([_] ++ (Hsq41 ++ (Hsq8 ++ ([_, _, _])))) := Mem.upd0 (Mem.pick Hsq41 [_] _ m45) uq46
   refine rN ?_
   have m47 := Mem.drop Hsq41 _ (Mem.pick [_] Hsq41 _ m46)
   have m48 := Mem.drop [_] _ (Mem.pick2 [_] Hsq8 [_] _ m47)
   refine Qa (Qa ?_)
   refine Xl (dl 4) 4 Xw <| Yb rfl (Xo (i := 0) (j := 32) Xq Y0 rfl (Zi _ _) (Zi _ _) oM sD sD) <| Ky rfl vc <| Ky rfl (i64 ((lc.length : Int) - 32)) <| Yn rfl (fun _ e' => Jd (i := (lc.length : Int) - 32) (j := (lc.length : Int)) (Rd.ofRest hrc (m48.ext e')) Zu Y0 rfl (Yh (k := .i64) (i := (lc.length : Int) - 32) rfl) (Zi _ _) oM sD sD) <| Gs m48 fun w49 m49 => U9 m49 (oc15 (Xm rfl rfl) (Qgy (sla b12_1 0 1 0 32 32) (Ci vc ((lc.length : Int) - 32) (lc.length : Int)) (Xk ((Wp [] key (Kv ⟨#[115, 101, 97, 108]⟩) 2).getD 1 []) (U1 nz la ((lc.drop (0 : Int).toNat).take (((lc.length : Int) - 32 : Int).toNat - (0 : Int).toNat)))) ((lc.drop ((lc.length : Int) - 32 : Int).toNat).take (((lc.length : Int) : Int).toNat - ((lc.length : Int) - 32 : Int).toNat)) _ (Rd.slaAll m49.h0 sD) (Rd.cast (l' := (lc.drop ((lc.length : Int) - 32 : Int).toNat).take (((lc.length : Int) : Int).toNat - ((lc.length : Int) - 32 : Int).toNat)) (Rd.sub (Rd.ofRest hrc m49) oM sD sD) rfl) sD)) fun w50 m50 => Qd (Ut rfl) <| rN ?_
   refine Z8 rfl (fun hc52 => ?_) (fun hc52 => ?_)
   ·
    have hc52n : ((Xk ((Wp [] key (Kv ⟨#[115, 101, 97, 108]⟩) 2).getD 1 []) (U1 nz la ((lc.drop (0 : Int).toNat).take (((lc.length : Int) - 32 : Int).toNat - (0 : Int).toNat)))) == ((lc.drop ((lc.length : Int) - 32 : Int).toNat).take (((lc.length : Int) : Int).toNat - ((lc.length : Int) - 32 : Int).toNat))) = false := by simpa using hc52
    have hc52p := ne_of_beq_false hc52n
    refine sR <| Zz Yj <| Zz (i64 10) ?_
    refine rN (Xb (Y3 ?_))
    refine Qv [Yj, (i64 10)] ⟨rfl, rfl, trivial⟩ ?_
    have m53 := Mem.drop [_] _ m50
    have m54 := Mem.drop Hsq8 _ m53
    have m55 := Mem.drop [_] _ m54
    have m56 := Mem.drop [_] _ m55
    have hrt : Ff key nz la lc = false := by
     unfold Ff Qd0; rw [← Ur oM, ← Lj oM]
     first | simpa [J5] using hc52 | (simp only [Ul]; simpa [J5] using hc52)
    exact ⟨Yj, [], by rw [Bf oM hrt]; rfl, by rw [Eu oM hrt]; exact (Xe.none _ _), by simpa using m56⟩
   ·
    have hc52n : ((Xk ((Wp [] key (Kv ⟨#[115, 101, 97, 108]⟩) 2).getD 1 []) (U1 nz la ((lc.drop (0 : Int).toNat).take (((lc.length : Int) - 32 : Int).toNat - (0 : Int).toNat)))) == ((lc.drop ((lc.length : Int) - 32 : Int).toNat).take (((lc.length : Int) : Int).toNat - ((lc.length : Int) - 32 : Int).toNat))) = true := by simpa using hc52
    have hc52p := eq_of_beq hc52n
    refine Qs (Qc (Qa ?_))
    refine Xl (dl 7) 7 Xw <| Ky rfl rxq8 <| Yn rfl (fun _ e' => Jb (i := 0) (gX9.rd (Mem.pick [_] Hsq8 _ (m50.ext e'))) Qcx Zl rfl rfl oM sD) <| Yn (v := (agg u8 ((Wp [] key (Kv ⟨#[115, 101, 97, 108]⟩) 2).getD 0 []))) rfl (fun _ e' => D9 (i := (0 : Int)) (gX9.rd (Mem.pick [_] Hsq8 _ (m50.ext e'))) sD Xq Zl rfl rfl) <| Yn rfl (fun _ e' => Qp Pj rfl Qa9 rfl ((Mem.pick2 [_] Hsq8 [_] _ (m50.ext e'))).h0 sZ) <| Ky rfl vc <| Ky rfl (i64 ((lc.length : Int) - 32)) <| Yn rfl (fun _ e' => Jd (i := 0) (j := (lc.length : Int) - 32) (Rd.ofRest hrc (m50.ext e')) Zu Y0 rfl (Zi _ _) (Yh (k := .i64) (i := (lc.length : Int) - 32) rfl) oM sD sD) <| Gs m50 fun w57 m57 => Vy (oc71 (Hm rfl rfl rfl rfl) (Qqr _ 1#32 _ (Ci vc 0 ((lc.length : Int) - 32)) ((lc.drop (0 : Int).toNat).take (((lc.length : Int) - 32 : Int).toNat - (0 : Int).toNat)) _ sD sD (Rd.cast (l' := (lc.drop (0 : Int).toNat).take (((lc.length : Int) - 32 : Int).toNat - (0 : Int).toNat)) (Rd.sub (Rd.ofRest hrc m57) oM sD sD) rfl) sD)) ?_
    rintro rq59 w58 ⟨Hsq59, grq59, k_w58⟩
    have m58 : Mem _ _ (Hsq59 ++ ([_] ++ (Hsq8 ++ ([_, _])))) := Mem.new (H := [_] ++ (Hsq8 ++ ([_, _]))) (H' := Hsq59) m57 k_w58
    refine Zz rq59 <| Zz (i64 0) ?_
    refine rN (Xb ?_)
    refine Qv [rq59, (i64 0)] ⟨rfl, rfl, trivial⟩ ?_
    have m60 := Mem.drop [_] _ (Mem.pick Hsq59 [_] _ m58)
    have m61 := Mem.drop Hsq8 _ (Mem.pick Hsq59 Hsq8 _ m60)
    have m62 := Mem.drop [_] _ (Mem.pick Hsq59 [_] _ m61)
    have m63 := Mem.drop [_] _ (Mem.pick Hsq59 [_] _ m62)
    have hrt : Ff key nz la lc = true := by
     unfold Ff Qd0; rw [← Ur oM, ← Lj oM]
     first | simpa [J5] using hc52 | (simp only [Ul]; simpa [J5] using hc52)
    have hfin : Jy F7 ((Wp [] key (Kv ⟨#[115, 101, 97, 108]⟩) 2).getD 0 []) 1#32 nz ((lc.drop (0 : Int).toNat).take (((lc.length : Int) - 32 : Int).toNat - (0 : Int).toNat)) = U8 key nz (Af lc) := by rw [← Ur oM]; first | rfl | (rw [← Qfw]; simp only [Nc, Ws])
    exact ⟨rq59, Hsq59, by rw [Bf oM hrt]; rfl, by rw [Eu oM hrt]; show Xe _ _ _ (U8 key nz (Af lc)) _; exact hfin ▸ grq59, by simpa using m63⟩
end Go.Proofs.YtkmiemlpfkfiiaaDoor
