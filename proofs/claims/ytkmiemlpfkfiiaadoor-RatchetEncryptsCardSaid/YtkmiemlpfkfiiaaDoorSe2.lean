/- Contracts: the seal, second part. Conditions: none beyond those that each theorem states. -/
import Derived.Test.YtkmiemlpfkfiiaaDoorSe1
import Derived.Test.YtkmiemlpfkfiiaaDoorFwP
namespace Go.Proofs.YtkmiemlpfkfiiaaDoor
set_option linter.unusedVariables false
set_option linter.unusedSimpArgs false
theorem Qa7 (key : List (BitVec 8)) : Uw (2 : Int).toNat (J4 (Jm [] key) (Yw ⟨#[115, 101, 97, 108]⟩) (32 * (2 : Int).toNat)) = Jc [] key (Yw ⟨#[115, 101, 97, 108]⟩) 2 := (Sj (by decide) (by decide)).symm
theorem Ae (a : Value) (x : List (BitVec 8)) : V3 [(a, x)] = x := by simp [V3]
attribute [local irreducible] X7 tK Qce J4 Jm Jc Aw Qdj Qby Jb Yx Wq Dj
set_option maxHeartbeats 1000000 in
theorem c_seal (key : List (BitVec 8)) (nonce : List (BitVec 8)) (va : Value) (la : List (BitVec 8)) (vc : Value) (lc : List (BitVec 8)) (w0 : World)  (hT : Tabs (Yq w0)) (hk : key.length = 32) (hn : nonce.length = 12) (hra : Rd (Yq w0) u8 va la) (hla : la.length ≤ 100000) (hrc : Rd (Yq w0) u8 vc lc) (hlc : lc.length ≤ 100000) : Xz Tryd.prog 33 #[(agg u8 key), (agg u8 nonce), va, vc] w0 (fun r w1 => ∃ Hs, Zv u8 5 r (Vw key nonce la lc) Hs ∧ Mem w1 (Qy w0) Hs) := by
 refine Zd (args := [(agg u8 key), (agg u8 nonce), va, vc]) Tryd.func33 rfl Tryd.ntmps33 Tryd.results33 rfl ?_
 have m0 : Mem w0 (Qy w0) [] := Mem.of_world w0
 have hkt := Qdb key
 have hkm := Qdc key
 have hcl := Qa6 key nonce lc
 refine sR <| Za rfl (Z8 (f := u8) (l := key) m0 rfl) ?_
 rintro _ w1 ⟨b4, rfl, e1, m1⟩
 refine Za rfl (Z8 (f := u8) (l := nonce) m1 rfl) ?_
 rintro _ w2 ⟨b5, rfl, e2, m2⟩
 refine Qa rfl (Qc (v := (Value.slice none 0 0)) rfl) ?_
 refine rN (sR ?_)
 refine Qa rfl (Qw X3 rfl Z9 rfl m2.h1 sZ) <| Za rfl (oc60 (Jj rfl) (c_skeys _ _ (hT.mono fun b o e => (m2).rest b o e) sD)) ?_
 rintro _ w3 ⟨rfl, e3⟩
 have m3 := m2.ext e3
 refine Qa rfl (Qb (v := (Value.tuple #[(agg u8 (V7 key)), (agg u8 (Ad key))])) rfl) <| Qa (v := (agg u8 (V7 key))) rfl (Zo rfl rfl) <| Qa (v := (agg u8 (Ad key))) rfl (Zo rfl rfl) <| Za rfl (Zg m3 Z9) ?_
 rintro _ w5 ⟨b9, rfl, e5, m5⟩
 refine Za rfl (Zg m5 Z9) ?_
 rintro _ w6 ⟨b10, rfl, e6, m6⟩
 refine Zw (Qm (f := u8) (l := V7 key) Qu Z9 rfl rfl sD m6.h1 sZ rfl) ?_
 rintro _ w7 uq7
 have m7 := m6.upd1 uq7
 refine Zw (Qm (f := u8) (l := Ad key) Qu Z9 rfl rfl sD m7.h0 sZ rfl) ?_
 rintro _ w8 uq8
 have m8 := m7.upd0 uq8
 refine rN (sR ?_)
 refine Qa rfl (Qw X3 rfl Z9 rfl m8.h1 sZ) <| Qa rfl (Qw Qah rfl Qey rfl m8.h2 sZ) <| rM rfl (v := vc) rfl <| Za rfl (oc61 (Qev rfl rfl rfl rfl) (c_turn _ 1#32 _ vc lc _ sD sD (Rd.ofRest hrc m8) sD)) ?_
 rintro _ w9 ⟨bq10, rfl, k_w9⟩
 have m9 : Mem _ _ [_, _, _, _, _] := Mem.new (H := [_, _, _, _]) (H' := [(bq10, .cells (cl u8 (Jb Yx (V7 key) 1#32 nonce lc)) 5 (0, 0))]) m8 k_w9
 refine rA rfl rfl ?_
 refine rN (Qg ?_)
 refine Jz (by kernel_rfl) ?_
 refine Di 4 7 rfl rfl ?_ ?_
 ·
  refine Di 5 7 rfl rfl ?_ ?_
  ·
   refine Aq [(0, false), (1, false), (2, false), (3, false), (4, true), (5, true), (6, false), (7, true)] 8 rfl (by kernel_rfl) <| Qj rfl rfl (fun _ _hx => Xj (i := 0) (j := 32) X3 X6 rfl (Zy _ _) (Zy _ _) oM sD sD) <| Qj rfl rfl (fun _ _hx => Qw Qah rfl Qey rfl (m9.ext _hx).h3 sZ) <| dM rfl rfl (v := va) rfl <| dM rfl rfl rfl ?_
   refine Bf rfl rfl (fun w11 e11 => ?_)
   have m11 := m9.ext e11
   refine Yz.mono (oc62 (Vx rfl rfl rfl) (Qea _ va la (Ko bq10 0 ((Jb Yx (V7 key) 1#32 nonce lc).length) ((Jb Yx (V7 key) 1#32 nonce lc).length)) (Jb Yx (V7 key) 1#32 nonce lc) _ sD (Rd.ofRest hra m11) sD (Rd.mkA m11.h0) sD)) ?_
   rintro rxq13 w12 ⟨Hsq13, grxq13, k_w12⟩
   refine ⟨k_w12.toExt, ?_⟩
   have m12 : Mem _ _ (Hsq13 ++ ([_, _, _, _, _])) := Mem.new (H := [_, _, _, _, _]) (H' := Hsq13) m11 k_w12
   refine Bf rfl rfl (fun w14 e14 => ?_)
   have m14 := m12.ext e14
   refine Yz.mono (Wl [rxq13] (List.all_eq_true.1 (Yr grxq13.one Fg)) m14 uT65 Td rfl rfl rfl) ?_
   rintro _ w15 ⟨b27, rfl, e15, m15⟩
   refine ⟨e15, ?_⟩
   have m15 : Mem w15 (Qy w0) ([(b27, .cells #[rxq13] 27 (0, 0))] ++ (Hsq13 ++ ([(bq10, .cells (cl u8 (Jb Yx (V7 key) 1#32 nonce lc)) 5 (0, 0)), (b10, .cells (cl u8 (Ad key)) 23 (0, 0)), (b9, .cells (cl u8 (V7 key)) 23 (0, 0)), (b5, .cells (cl u8 nonce) 77 (0, 0)), (b4, .cells (cl u8 key) 23 (0, 0))]))) := m15
   refine Kv rfl rfl (fun w16 e16 => oc59 (Xr rfl rfl) (Qcn (sla b10 0 1 0 32 32) (Ad key) (Ko b27 0 1 1) ([(rxq13, Dj nonce la (Jb Yx (V7 key) 1#32 nonce lc))]) _ (hT.mono fun b o e => ((m15.ext e16)).rest b o e) (Rd.slaAll ((Mem.pick3 [_] Hsq13 [_] [_] _ (m15.ext e16))).h0 sD) sD (Rd.mkA (f := Prod.fst) (l := [(rxq13, Dj nonce la (Jb Yx (V7 key) 1#32 nonce lc))]) (m15.ext e16).h0) (E8 (grxq13.rd (Mem.pick [_] Hsq13 _ (m15.ext e16))) N9) (by rw [Ae]; simp only [Qaz, Ba]; omega) sD)) ?_
   refine Bf rfl rfl (fun w19 e19 => ?_)
   have m19 := m15.ext e19
   refine Yz.mono (Zg m19 Z9) ?_
   rintro _ w20 ⟨b12, rfl, e20, m20⟩
   refine ⟨e20, ?_⟩
   refine Xd (fun w21 e21 => ?_)
   have m21 := m20.ext e21
   refine Zw (Qm (f := u8) (l := X7 (Ad key) (V3 ([(rxq13, Dj nonce la (Jb Yx (V7 key) 1#32 nonce lc))]))) Qu Z9 rfl rfl sD m21.h0 sZ rfl) ?_
   rintro _ w22 uq22
   have m22 := m21.upd0 uq22
   refine rN (sR ?_)
   refine rM rfl rfl <| Qa rfl (Xj (i := 0) (j := 32) X3 X6 rfl (Zy _ _) (Zy _ _) oM sD sD) <| Za rfl (Zk (f := u8) (Hs := [(bq10, .cells (cl u8 (Jb Yx (V7 key) 1#32 nonce lc)) 5 (0, 0))]) (H := [_, _] ++ (Hsq13 ++ ([_, _, _, _]))) (Mem.pick2 [_, _] Hsq13 [_] _ m22) (Zv.of u8 5 bq10 (Jb Yx (V7 key) 1#32 nonce lc)) rfl rfl (Rd.slaAll m22.h0 sD) Zi Zi X6 rfl Qu sD sD) ?_
   rintro sv23 w23 ⟨Hs23, m23, g23⟩
   replace g23 : Zv u8 5 sv23 ((Jb Yx (V7 key) 1#32 nonce lc) ++ (X7 (Ad key) (V3 ([(rxq13, Dj nonce la (Jb Yx (V7 key) 1#32 nonce lc))])))) Hs23 := g23
   refine rA rfl (v := sv23) rfl <| rN ?_
   have m24 := Mem.drop [_] _ (Mem.pick2 Hs23 [_] [_] _ m23)
   have m25 := Mem.drop Hsq13 _ (Mem.pick2 Hs23 [_] Hsq13 _ m24)
   refine Xt <| Ze [sv23] ⟨rfl, trivial⟩ ?_
   have m26 := Mem.drop [_] _ (Mem.pick Hs23 [_] _ m25)
   have m27 := Mem.drop [_] _ (Mem.pick Hs23 [_] _ m26)
   have m28 := Mem.drop [_] _ (Mem.pick Hs23 [_] _ m27)
   have m29 := Mem.drop [_] _ (Mem.pick Hs23 [_] _ m28)
   have m30 := Mem.drop [_] _ (Mem.pick Hs23 [_] _ m29)
   have hfin : (Jb Yx (V7 key) 1#32 nonce lc) ++ (X7 (Ad key) (V3 ([(rxq13, Dj nonce la (Jb Yx (V7 key) 1#32 nonce lc))]))) = Vw key nonce la lc := by simp only [Vw, tagP, Py, Ae, V7, Ad]
   exact ⟨Hs23, hfin ▸ g23, by simpa using m30⟩
  ·
   refine Aq [(0, false), (1, false), (2, false), (3, false), (4, true), (7, true), (5, true), (6, false)] 8 rfl (by kernel_rfl) <| Qj rfl rfl (fun _ _hx => Xj (i := 0) (j := 32) X3 X6 rfl (Zy _ _) (Zy _ _) oM sD sD) <| Qj rfl rfl (fun _ _hx => Qw Qah rfl Qey rfl (m9.ext _hx).h3 sZ) <| dM rfl rfl (v := va) rfl <| dM rfl rfl rfl ?_
   refine Bf rfl rfl (fun w31 e31 => ?_)
   have m31 := m9.ext e31
   refine Yz.mono (oc62 (Vx rfl rfl rfl) (Qea _ va la (Ko bq10 0 ((Jb Yx (V7 key) 1#32 nonce lc).length) ((Jb Yx (V7 key) 1#32 nonce lc).length)) (Jb Yx (V7 key) 1#32 nonce lc) _ sD (Rd.ofRest hra m31) sD (Rd.mkA m31.h0) sD)) ?_
   rintro rxq33 w32 ⟨Hsq33, grxq33, k_w32⟩
   refine ⟨k_w32.toExt, ?_⟩
   have m32 : Mem _ _ (Hsq33 ++ ([_, _, _, _, _])) := Mem.new (H := [_, _, _, _, _]) (H' := Hsq33) m31 k_w32
   refine Bf rfl rfl (fun w34 e34 => ?_)
   have m34 := m32.ext e34
   refine Yz.mono (Zg m34 Z9) ?_
   rintro _ w35 ⟨b12_1, rfl, e35, m35⟩
   refine ⟨e35, ?_⟩
   refine Bf rfl rfl (fun w36 e36 => ?_)
   have m36 := m35.ext e36
   refine Yz.mono (Wl [rxq33] (List.all_eq_true.1 (Yr grxq33.one Fg)) m36 uT65 Td rfl rfl rfl) ?_
   rintro _ w37 ⟨b27_1, rfl, e37, m37⟩
   refine ⟨e37, ?_⟩
   have m37 : Mem w37 (Qy w0) ([(b27_1, .cells #[rxq33] 27 (0, 0)), (b12_1, .cells (cl u8 (List.replicate 32 0)) 23 (0, 0))] ++ (Hsq33 ++ ([(bq10, .cells (cl u8 (Jb Yx (V7 key) 1#32 nonce lc)) 5 (0, 0)), (b10, .cells (cl u8 (Ad key)) 23 (0, 0)), (b9, .cells (cl u8 (V7 key)) 23 (0, 0)), (b5, .cells (cl u8 nonce) 77 (0, 0)), (b4, .cells (cl u8 key) 23 (0, 0))]))) := m37
   refine Kv rfl rfl (fun w38 e38 => oc59 (Xr rfl rfl) (Qcn (sla b10 0 1 0 32 32) (Ad key) (Ko b27_1 0 1 1) ([(rxq33, Dj nonce la (Jb Yx (V7 key) 1#32 nonce lc))]) _ (hT.mono fun b o e => ((m37.ext e38)).rest b o e) (Rd.slaAll ((Mem.pick3 [_, _] Hsq33 [_] [_] _ (m37.ext e38))).h0 sD) sD (Rd.mkA (f := Prod.fst) (l := [(rxq33, Dj nonce la (Jb Yx (V7 key) 1#32 nonce lc))]) (m37.ext e38).h0) (E8 (grxq33.rd (Mem.pick [_, _] Hsq33 _ (m37.ext e38))) N9) (by rw [Ae]; simp only [Qaz, Ba]; omega) sD)) ?_
   refine Xd (fun w41 e41 => ?_)
   have m41 := m37.ext e41
   refine Zw (Qm (f := u8) (l := X7 (Ad key) (V3 ([(rxq33, Dj nonce la (Jb Yx (V7 key) 1#32 nonce lc))]))) Qu Z9 rfl rfl sD m41.h1 sZ rfl) ?_
   rintro _ w42 uq42
   have m42 := m41.upd1 uq42
   refine rN ?_
   have m43 := Mem.drop [_] _ m42
   have m44 := Mem.drop Hsq33 _ (Mem.pick [_] Hsq33 _ m43)
   refine sR <| rM rfl rfl <| Qa rfl (Xj (i := 0) (j := 32) X3 X6 rfl (Zy _ _) (Zy _ _) oM sD sD) <| Za rfl (Zk (f := u8) (Hs := [(bq10, .cells (cl u8 (Jb Yx (V7 key) 1#32 nonce lc)) 5 (0, 0))]) (H := [_, _, _, _, _]) (Mem.pick [_] [_] _ m44) (Zv.of u8 5 bq10 (Jb Yx (V7 key) 1#32 nonce lc)) rfl rfl (Rd.slaAll m44.h0 sD) Zi Zi X6 rfl Qu sD sD) ?_
   rintro sv45 w45 ⟨Hs45, m45, g45⟩
   replace g45 : Zv u8 5 sv45 ((Jb Yx (V7 key) 1#32 nonce lc) ++ (X7 (Ad key) (V3 ([(rxq33, Dj nonce la (Jb Yx (V7 key) 1#32 nonce lc))])))) Hs45 := g45
   refine rA rfl (v := sv45) rfl ?_
   refine rN (Xt ?_)
   refine Ze [sv45] ⟨rfl, trivial⟩ ?_
   have m46 := Mem.drop [_] _ (Mem.pick Hs45 [_] _ m45)
   have m47 := Mem.drop [_] _ (Mem.pick Hs45 [_] _ m46)
   have m48 := Mem.drop [_] _ (Mem.pick Hs45 [_] _ m47)
   have m49 := Mem.drop [_] _ (Mem.pick Hs45 [_] _ m48)
   have m50 := Mem.drop [_] _ (Mem.pick Hs45 [_] _ m49)
   have hfin : (Jb Yx (V7 key) 1#32 nonce lc) ++ (X7 (Ad key) (V3 ([(rxq33, Dj nonce la (Jb Yx (V7 key) 1#32 nonce lc))]))) = Vw key nonce la lc := by simp only [Vw, tagP, Py, Ae, V7, Ad]
   exact ⟨Hs45, hfin ▸ g45, by simpa using m50⟩
 ·
  refine Aq [(0, false), (1, false), (2, false), (3, false), (7, true), (4, true), (5, true), (6, false)] 8 rfl (by kernel_rfl) <| Qj rfl rfl (fun _ _hx => Xj (i := 0) (j := 32) X3 X6 rfl (Zy _ _) (Zy _ _) oM sD sD) <| Qj rfl rfl (fun _ _hx => Qw Qah rfl Qey rfl (m9.ext _hx).h3 sZ) <| dM rfl rfl (v := va) rfl <| dM rfl rfl rfl ?_
  refine Bf rfl rfl (fun w51 e51 => ?_)
  have m51 := m9.ext e51
  refine Yz.mono (Zg m51 Z9) ?_
  rintro _ w52 ⟨b12_2, rfl, e52, m52⟩
  refine ⟨e52, ?_⟩
  refine Bf rfl rfl (fun w53 e53 => ?_)
  have m53 := m52.ext e53
  refine Yz.mono (oc62 (Vx rfl rfl rfl) (Qea _ va la (Ko bq10 0 ((Jb Yx (V7 key) 1#32 nonce lc).length) ((Jb Yx (V7 key) 1#32 nonce lc).length)) (Jb Yx (V7 key) 1#32 nonce lc) _ sD (Rd.ofRest hra m53) sD (Rd.mkA m53.h1) sD)) ?_
  rintro rxq55 w54 ⟨Hsq55, grxq55, k_w54⟩
  refine ⟨k_w54.toExt, ?_⟩
  have m54 : Mem _ _ (Hsq55 ++ ([_, _, _, _, _, _])) := Mem.new (H := [_, _, _, _, _, _]) (H' := Hsq55) m53 k_w54
  refine Bf rfl rfl (fun w56 e56 => ?_)
  have m56 := m54.ext e56
  refine Yz.mono (Wl [rxq55] (List.all_eq_true.1 (Yr grxq55.one Fg)) m56 uT65 Td rfl rfl rfl) ?_
  rintro _ w57 ⟨b27_2, rfl, e57, m57⟩
  refine ⟨e57, ?_⟩
  have m57 : Mem w57 (Qy w0) ([(b27_2, .cells #[rxq55] 27 (0, 0))] ++ (Hsq55 ++ ([(b12_2, .cells (cl u8 (List.replicate 32 0)) 23 (0, 0)), (bq10, .cells (cl u8 (Jb Yx (V7 key) 1#32 nonce lc)) 5 (0, 0)), (b10, .cells (cl u8 (Ad key)) 23 (0, 0)), (b9, .cells (cl u8 (V7 key)) 23 (0, 0)), (b5, .cells (cl u8 nonce) 77 (0, 0)), (b4, .cells (cl u8 key) 23 (0, 0))]))) := m57
  refine Kv rfl rfl (fun w58 e58 => oc59 (Xr rfl rfl) (Qcn (sla b10 0 1 0 32 32) (Ad key) (Ko b27_2 0 1 1) ([(rxq55, Dj nonce la (Jb Yx (V7 key) 1#32 nonce lc))]) _ (hT.mono fun b o e => ((m57.ext e58)).rest b o e) (Rd.slaAll ((Mem.pick3 [_] Hsq55 [_, _] [_] _ (m57.ext e58))).h0 sD) sD (Rd.mkA (f := Prod.fst) (l := [(rxq55, Dj nonce la (Jb Yx (V7 key) 1#32 nonce lc))]) (m57.ext e58).h0) (E8 (grxq55.rd (Mem.pick [_] Hsq55 _ (m57.ext e58))) N9) (by rw [Ae]; simp only [Qaz, Ba]; omega) sD)) ?_
  refine Xd (fun w61 e61 => ?_)
  have m61 := m57.ext e61
  refine Zw (Qm (f := u8) (l := X7 (Ad key) (V3 ([(rxq55, Dj nonce la (Jb Yx (V7 key) 1#32 nonce lc))]))) Qu Z9 rfl rfl sD ((Mem.pick2 [_] Hsq55 [_] _ m61)).h0 sZ rfl) ?_
  rintro _ w62 uq62
  have m62 : Mem _ _ ([_, _] ++ (Hsq55 ++ ([_, _, _, _, _]))) := Mem.upd0 (Mem.pick2 [_] Hsq55 [_] _ m61) uq62
  refine rN (sR ?_)
  refine rM rfl rfl <| Qa rfl (Xj (i := 0) (j := 32) X3 X6 rfl (Zy _ _) (Zy _ _) oM sD sD) <| Za rfl (Zk (f := u8) (Hs := [(bq10, .cells (cl u8 (Jb Yx (V7 key) 1#32 nonce lc)) 5 (0, 0))]) (H := [_, _] ++ (Hsq55 ++ ([_, _, _, _]))) (Mem.pick2 [_, _] Hsq55 [_] _ m62) (Zv.of u8 5 bq10 (Jb Yx (V7 key) 1#32 nonce lc)) rfl rfl (Rd.slaAll m62.h0 sD) Zi Zi X6 rfl Qu sD sD) ?_
  rintro sv63 w63 ⟨Hs63, m63, g63⟩
  replace g63 : Zv u8 5 sv63 ((Jb Yx (V7 key) 1#32 nonce lc) ++ (X7 (Ad key) (V3 ([(rxq55, Dj nonce la (Jb Yx (V7 key) 1#32 nonce lc))])))) Hs63 := g63
  refine rA rfl (v := sv63) rfl ?_
  refine rN (Xt ?_)
  refine Ze [sv63] ⟨rfl, trivial⟩ ?_
  have m64 := Mem.drop [_] _ (Mem.pick Hs63 [_] _ m63)
  have m65 := Mem.drop [_] _ (Mem.pick Hs63 [_] _ m64)
  have m66 := Mem.drop Hsq55 _ (Mem.pick Hs63 Hsq55 _ m65)
  have m67 := Mem.drop [_] _ (Mem.pick Hs63 [_] _ m66)
  have m68 := Mem.drop [_] _ (Mem.pick Hs63 [_] _ m67)
  have m69 := Mem.drop [_] _ (Mem.pick Hs63 [_] _ m68)
  have m70 := Mem.drop [_] _ (Mem.pick Hs63 [_] _ m69)
  have hfin : (Jb Yx (V7 key) 1#32 nonce lc) ++ (X7 (Ad key) (V3 ([(rxq55, Dj nonce la (Jb Yx (V7 key) 1#32 nonce lc))]))) = Vw key nonce la lc := by simp only [Vw, tagP, Py, Ae, V7, Ad]
  exact ⟨Hs63, hfin ▸ g63, by simpa using m70⟩
set_option maxHeartbeats 1000000 in
theorem c_rseal (key : List (BitVec 8)) (nonce : List (BitVec 8)) (va : Value) (la : List (BitVec 8)) (vc : Value) (lc : List (BitVec 8)) (w0 : World)  (hk : key.length = 32) (hn : nonce.length = 12) (hra : Rd (Yq w0) u8 va la) (hla : la.length ≤ 100000) (hrc : Rd (Yq w0) u8 vc lc) (hlc : lc.length ≤ 100000) : Xz Tryd.prog 39 #[(agg u8 key), (agg u8 nonce), va, vc] w0 (fun r w1 => ∃ Hs, Zv u8 5 r (Vw key nonce la lc) Hs ∧ Mem w1 (Qy w0) Hs) := by
 refine Zd (args := [(agg u8 key), (agg u8 nonce), va, vc]) Tryd.func39 rfl Tryd.ntmps39 Tryd.results39 rfl ?_
 have m0 : Mem w0 (Qy w0) [] := Mem.of_world w0
 have hkt := Qdb key
 have hkm := Qdc key
 have hcl := Qa6 key nonce lc
 refine sR <| Za rfl (Z8 (f := u8) (l := key) m0 rfl) ?_
 rintro _ w1 ⟨b4, rfl, e1, m1⟩
 refine Za rfl (Z8 (f := u8) (l := nonce) m1 rfl) ?_
 rintro _ w2 ⟨b5, rfl, e2, m2⟩
 refine Qa rfl (Qc (v := (Value.slice none 0 0)) rfl) ?_
 refine rN (sR ?_)
 refine Za rfl (Ql u8 [] Qu m2 Zi X6 rfl (by simp [Jo]) rfl) ?_
 rintro _ w3 ⟨b12, rfl, e3, m3⟩
 refine Qa rfl (Xj (i := 0) (j := 32) X3 X6 rfl (Zy _ _) (Zy _ _) oM sD sD) <| Za rfl (oc70 (Qev rfl rfl rfl rfl) (Qm4 (Ko b12 0 0 0) ([]) (sla b4 0 1 0 32 32) key (⟨#[115, 101, 97, 108]⟩) _ _ (Rd.mkA m3.h0) sD (Rd.slaAll m3.h2 sD) sD sD sD)) ?_
 rintro rxq5 w4 ⟨Hsq5, grxq5, k_w4⟩
 have m4 : Mem _ _ (Hsq5 ++ ([_, _, _])) := Mem.new (H := [_, _, _]) (H' := Hsq5) m3 k_w4
 have gX6 := grxq5
 rw [Qa7] at gX6
 have hkl := Qhu (a := []) (b := key) (p := Yw ⟨#[115, 101, 97, 108]⟩) (n := 2) (by decide) (by decide)
 have hk0 : ((Jc [] key (Yw ⟨#[115, 101, 97, 108]⟩) 2).getD 0 []).length = 32 := Qdb key
 have hk1 : ((Jc [] key (Yw ⟨#[115, 101, 97, 108]⟩) 2).getD 1 []).length = 32 := Qdc key
 refine rA rfl (v := rxq5) rfl ?_
 refine rN (Qg ?_)
 refine Xq (dl 5) 5 (by kernel_rfl) <| dM rfl rfl (v := rxq5) rfl <| Qj rfl rfl (fun _ _hx => Ym (i := 0) (gX6.rd (m4.ext _hx)) Qbt Z9 rfl rfl oM sD) <| Qj (v := (agg u8 ((Jc [] key (Yw ⟨#[115, 101, 97, 108]⟩) 2).getD 0 []))) rfl rfl (fun _ _hx => Em (i := (0 : Int)) (gX6.rd (m4.ext _hx)) sD X3 Z9 rfl rfl) <| Qj rfl rfl (fun _ _hx => Qw Qah rfl Qey rfl ((Mem.pick2 Hsq5 [_] [_] _ (m4.ext _hx))).h0 sZ) <| dM rfl rfl (v := vc) rfl ?_
 refine Xd (fun w7 e7 => ?_)
 have m7 := m4.ext e7
 refine Za rfl (oc71 (Qev rfl rfl rfl rfl) (c_turn3 _ 1#32 _ vc lc _ sD sD (Rd.ofRest hrc m7) sD)) ?_
 rintro rq9 w8 ⟨Hsq9, grq9, k_w8⟩
 have m8 : Mem _ _ (Hsq9 ++ (Hsq5 ++ ([_, _, _]))) := Mem.new (H := Hsq5 ++ ([_, _, _])) (H' := Hsq9) m7 k_w8
 refine rA rfl (v := rq9) rfl <| rN ?_
 have m10 := Mem.drop [_] _ (Mem.pick2 Hsq9 Hsq5 [_] _ m8)
 refine Qg <| Jz (by kernel_rfl) ?_
 refine Di 6 8 rfl rfl ?_ ?_
 ·
  refine Aq [(0, false), (1, false), (2, false), (3, false), (4, false), (5, false), (6, true), (7, false), (8, true)] 9 rfl (by kernel_rfl) <| dM rfl rfl (v := rxq5) rfl <| Qj rfl rfl (fun _ _hx => Ym (i := 1) (gX6.rd (Mem.pick Hsq9 Hsq5 _ (m10.ext _hx))) Qbt Z9 rfl rfl oM sD) <| Qj rfl rfl (fun _ _hx => Qdg (i := (1 : Int)) (gX6.rd (Mem.pick Hsq9 Hsq5 _ (m10.ext _hx))) sD rfl X3 X6 rfl) <| Qj rfl rfl (fun _ _hx => Qw Qah rfl Qey rfl ((Mem.pick2 Hsq9 Hsq5 [_] _ (m10.ext _hx))).h0 sZ) <| dM rfl rfl (v := va) rfl <| dM rfl rfl (v := rq9) rfl ?_
  refine Bf rfl rfl (fun w11 e11 => ?_)
  have m11 := m10.ext e11
  refine Yz.mono (oc72 (Vx rfl rfl rfl) (Qgn _ va la rq9 (Jb Wq ((Jc [] key (Yw ⟨#[115, 101, 97, 108]⟩) 2).getD 0 []) 1#32 nonce lc) _ sD (Rd.ofRest hra m11) sD (grq9.rd m11) sD)) ?_
  rintro rxq13 w12 ⟨Hsq13, grxq13, k_w12⟩
  refine ⟨k_w12.toExt, ?_⟩
  have m12 : Mem _ _ (Hsq13 ++ (Hsq9 ++ (Hsq5 ++ ([_, _])))) := Mem.new (H := Hsq9 ++ (Hsq5 ++ ([_, _]))) (H' := Hsq13) m11 k_w12
  refine Kv rfl rfl (fun w14 e14 => oc69 (Xr rfl rfl) (Lm (elsl rxq5 (1 : Int) 32) ((Jc [] key (Yw ⟨#[115, 101, 97, 108]⟩) 2).getD 1 []) rxq13 (Dj nonce la (Jb Wq ((Jc [] key (Yw ⟨#[115, 101, 97, 108]⟩) 2).getD 0 []) 1#32 nonce lc)) _ (Rd.cast (l' := (Jc [] key (Yw ⟨#[115, 101, 97, 108]⟩) 2).getD 1 []) (Rd.elsl (i := (1 : Int)) (gX6.rd (Mem.pick2 Hsq13 Hsq9 Hsq5 _ (m12.ext e14))) sD) rfl) sD (grxq13.rd (m12.ext e14)) sD)) ?_
  refine Bf rfl rfl (fun w17 e17 => ?_)
  have m17 := m12.ext e17
  refine Yz.mono (Zg m17 Z9) ?_
  rintro _ w18 ⟨b11, rfl, e18, m18⟩
  refine ⟨e18, ?_⟩
  refine Xd (fun w19 e19 => ?_)
  have m19 := m18.ext e19
  refine Zw (Qm (f := u8) (l := X7 ((Jc [] key (Yw ⟨#[115, 101, 97, 108]⟩) 2).getD 1 []) (Dj nonce la (Jb Wq ((Jc [] key (Yw ⟨#[115, 101, 97, 108]⟩) 2).getD 0 []) 1#32 nonce lc))) Qu Z9 rfl rfl sD m19.h0 sZ rfl) ?_
  rintro _ w20 uq20
  have m20 := m19.upd0 uq20
  refine rN (sR ?_)
  refine rM rfl (v := rq9) rfl <| Qa rfl (Xj (i := 0) (j := 32) X3 X6 rfl (Zy _ _) (Zy _ _) oM sD sD) <| Za rfl (Zk (f := u8) (Hs := Hsq9) (H := [_] ++ (Hsq13 ++ (Hsq5 ++ ([_, _])))) (Mem.pick2 [_] Hsq13 Hsq9 _ m20) grq9 rfl rfl (Rd.slaAll m20.h0 sD) Zi Zi X6 rfl Qu sD sD) ?_
  rintro sv21 w21 ⟨Hs21, m21, g21⟩
  replace g21 : Zv u8 5 sv21 ((Jb Wq ((Jc [] key (Yw ⟨#[115, 101, 97, 108]⟩) 2).getD 0 []) 1#32 nonce lc) ++ (X7 ((Jc [] key (Yw ⟨#[115, 101, 97, 108]⟩) 2).getD 1 []) (Dj nonce la (Jb Wq ((Jc [] key (Yw ⟨#[115, 101, 97, 108]⟩) 2).getD 0 []) 1#32 nonce lc)))) Hs21 := g21
  refine rA rfl (v := sv21) rfl <| rN ?_
  have m22 := Mem.drop Hsq13 _ (Mem.pick2 Hs21 [_] Hsq13 _ m21)
  refine Xt <| Ze [sv21] ⟨rfl, trivial⟩ ?_
  have m23 := Mem.drop [_] _ (Mem.pick Hs21 [_] _ m22)
  have m24 := Mem.drop Hsq5 _ (Mem.pick Hs21 Hsq5 _ m23)
  have m25 := Mem.drop [_] _ (Mem.pick Hs21 [_] _ m24)
  have m26 := Mem.drop [_] _ (Mem.pick Hs21 [_] _ m25)
  have hfin : (Jb Wq ((Jc [] key (Yw ⟨#[115, 101, 97, 108]⟩) 2).getD 0 []) 1#32 nonce lc) ++ (X7 ((Jc [] key (Yw ⟨#[115, 101, 97, 108]⟩) 2).getD 1 []) (Dj nonce la (Jb Wq ((Jc [] key (Yw ⟨#[115, 101, 97, 108]⟩) 2).getD 0 []) 1#32 nonce lc))) = Vw key nonce la lc := by simp only [Vw, tagP, Qa7, ← Qmz, V7, Ad]
  exact ⟨Hs21, hfin ▸ g21, by simpa using m26⟩
 ·
  refine Aq [(0, false), (1, false), (2, false), (3, false), (4, false), (5, false), (8, true), (6, true), (7, false)] 9 rfl (by kernel_rfl) <| dM rfl rfl (v := rxq5) rfl <| Qj rfl rfl (fun _ _hx => Ym (i := 1) (gX6.rd (Mem.pick Hsq9 Hsq5 _ (m10.ext _hx))) Qbt Z9 rfl rfl oM sD) <| Qj rfl rfl (fun _ _hx => Qdg (i := (1 : Int)) (gX6.rd (Mem.pick Hsq9 Hsq5 _ (m10.ext _hx))) sD rfl X3 X6 rfl) <| Qj rfl rfl (fun _ _hx => Qw Qah rfl Qey rfl ((Mem.pick2 Hsq9 Hsq5 [_] _ (m10.ext _hx))).h0 sZ) <| dM rfl rfl (v := va) rfl <| dM rfl rfl (v := rq9) rfl ?_
  refine Bf rfl rfl (fun w27 e27 => ?_)
  have m27 := m10.ext e27
  refine Yz.mono (Zg m27 Z9) ?_
  rintro _ w28 ⟨b11_1, rfl, e28, m28⟩
  refine ⟨e28, ?_⟩
  refine Bf rfl rfl (fun w29 e29 => ?_)
  have m29 := m28.ext e29
  refine Yz.mono (oc72 (Vx rfl rfl rfl) (Qgn _ va la rq9 (Jb Wq ((Jc [] key (Yw ⟨#[115, 101, 97, 108]⟩) 2).getD 0 []) 1#32 nonce lc) _ sD (Rd.ofRest hra m29) sD (grq9.rd (Mem.pick [_] Hsq9 _ m29)) sD)) ?_
  rintro rxq31 w30 ⟨Hsq31, grxq31, k_w30⟩
  refine ⟨k_w30.toExt, ?_⟩
  have m30 : Mem _ _ (Hsq31 ++ ([_] ++ (Hsq9 ++ (Hsq5 ++ ([_, _]))))) := Mem.new (H := [_] ++ (Hsq9 ++ (Hsq5 ++ ([_, _])))) (H' := Hsq31) m29 k_w30
  refine Kv rfl rfl (fun w32 e32 => oc69 (Xr rfl rfl) (Lm (elsl rxq5 (1 : Int) 32) ((Jc [] key (Yw ⟨#[115, 101, 97, 108]⟩) 2).getD 1 []) rxq31 (Dj nonce la (Jb Wq ((Jc [] key (Yw ⟨#[115, 101, 97, 108]⟩) 2).getD 0 []) 1#32 nonce lc)) _ (Rd.cast (l' := (Jc [] key (Yw ⟨#[115, 101, 97, 108]⟩) 2).getD 1 []) (Rd.elsl (i := (1 : Int)) (gX6.rd (Mem.pick3 Hsq31 [_] Hsq9 Hsq5 _ (m30.ext e32))) sD) rfl) sD (grxq31.rd (m30.ext e32)) sD)) ?_
  refine Xd (fun w35 e35 => ?_)
  have m35 := m30.ext e35
  refine Zw (Qm (f := u8) (l := X7 ((Jc [] key (Yw ⟨#[115, 101, 97, 108]⟩) 2).getD 1 []) (Dj nonce la (Jb Wq ((Jc [] key (Yw ⟨#[115, 101, 97, 108]⟩) 2).getD 0 []) 1#32 nonce lc))) Qu Z9 rfl rfl sD ((Mem.pick Hsq31 [_] _ m35)).h0 sZ rfl) ?_
  rintro _ w36 uq36
  have m36 : Mem _ _ ([_] ++ (Hsq31 ++ (Hsq9 ++ (Hsq5 ++ ([_, _]))))) := Mem.upd0 (Mem.pick Hsq31 [_] _ m35) uq36
  refine rN ?_
  have m37 := Mem.drop Hsq31 _ (Mem.pick [_] Hsq31 _ m36)
  refine sR <| rM rfl (v := rq9) rfl <| Qa rfl (Xj (i := 0) (j := 32) X3 X6 rfl (Zy _ _) (Zy _ _) oM sD sD) <| Za rfl (Zk (f := u8) (Hs := Hsq9) (H := [_] ++ (Hsq5 ++ ([_, _]))) (Mem.pick [_] Hsq9 _ m37) grq9 rfl rfl (Rd.slaAll m37.h0 sD) Zi Zi X6 rfl Qu sD sD) ?_
  rintro sv38 w38 ⟨Hs38, m38, g38⟩
  replace g38 : Zv u8 5 sv38 ((Jb Wq ((Jc [] key (Yw ⟨#[115, 101, 97, 108]⟩) 2).getD 0 []) 1#32 nonce lc) ++ (X7 ((Jc [] key (Yw ⟨#[115, 101, 97, 108]⟩) 2).getD 1 []) (Dj nonce la (Jb Wq ((Jc [] key (Yw ⟨#[115, 101, 97, 108]⟩) 2).getD 0 []) 1#32 nonce lc)))) Hs38 := g38
  refine rA rfl (v := sv38) rfl ?_
  refine rN (Xt ?_)
  refine Ze [sv38] ⟨rfl, trivial⟩ ?_
  have m39 := Mem.drop [_] _ (Mem.pick Hs38 [_] _ m38)
  have m40 := Mem.drop Hsq5 _ (Mem.pick Hs38 Hsq5 _ m39)
  have m41 := Mem.drop [_] _ (Mem.pick Hs38 [_] _ m40)
  have m42 := Mem.drop [_] _ (Mem.pick Hs38 [_] _ m41)
  have hfin : (Jb Wq ((Jc [] key (Yw ⟨#[115, 101, 97, 108]⟩) 2).getD 0 []) 1#32 nonce lc) ++ (X7 ((Jc [] key (Yw ⟨#[115, 101, 97, 108]⟩) 2).getD 1 []) (Dj nonce la (Jb Wq ((Jc [] key (Yw ⟨#[115, 101, 97, 108]⟩) 2).getD 0 []) 1#32 nonce lc))) = Vw key nonce la lc := by simp only [Vw, tagP, Qa7, ← Qmz, V7, Ad]
  exact ⟨Hs38, hfin ▸ g38, by simpa using m42⟩
end Go.Proofs.YtkmiemlpfkfiiaaDoor
