/- Contracts: the document's product of a point. Conditions: none beyond those that each theorem states. -/
import Derived.Test.YtkmiemlpfkfiiaaDoorCu3
import Derived.Test.YtkmiemlpfkfiiaaDoorCuO
import Derived.Test.YtkmiemlpfkfiiaaDoorFwR
namespace Go.Proofs.YtkmiemlpfkfiiaaDoor
open Tryd
set_option linter.unusedVariables false
set_option linter.unusedSimpArgs false
attribute [local irreducible] Xj Kq Yx V4 Q8 Qci Q7 Qz Qag Qn Qr Z7 Zf U7 Cb Jn Qau Qe Js Yt
set_option maxHeartbeats 2000000 in
theorem Qh9 (ky u : Xg) (w0 : World)  (hk : ky.length = 32) (hu : u.length = 32) : X9 prog 36 #[(agg u8 ky), (agg u8 u)] w0 (fun r w1 => r = (agg u8 (Yt ky u)) ∧ Ext w0 w1) := by
 refine Zb (args := [(agg u8 ky), (agg u8 u)]) func36 rfl ntmps36 results36 rfl ?_
 have m0 : Mem w0 (Qu w0) [] := Mem.of_world w0
 have hcl := Qka ky
 refine sR <| Y9 (Xa (f := u8) (l := ky) m0 rfl) fun w1 b2 m1 => Y9 (Xa (f := u8) (l := u) m1 rfl) fun w2 b3 m2 => Y9 (Zc m2 Zl) fun w3 b4 m3 => ?_
 refine rN (sR ?_)
 refine Qd (Xv 0 0 Xq Y0 rfl) <| Qd (Ql Gl rfl rfl m3.h2 (Qx _ _ 0 sD)) <| Qd (Qrx (b := 8#8) rfl rfl Jg) <| Qd (Qrz (b := 8#8) rfl rfl) <| Qd (Xv 0 0 Xq Y0 rfl) <| Bh m3 (Xz (f := u8) (a := ((ky.getD 0 0) / 8#8) * 8#8) Qy Y0 rfl rfl m3.h2 sD (.inl (Nat.zero_le _))) fun w4 m4 => ?_
 refine rN (sR ?_)
 refine Qd (Xv 31 31 Xq Y0 rfl) <| Qd (Ql Gl rfl rfl m4.h2 (Qx _ _ 0 sD)) <| Qd (Qrw (b := 64#8) rfl rfl Jg) <| Qd (Qk7 (b := 64#8) rfl rfl) <| Qd (Xv 31 31 Xq Y0 rfl) <| Bh m4 (Xz (f := u8) (a := (((ky.set 0 (((ky.getD 0 0) / 8#8) * 8#8)).getD 31 0) % 64#8) + 64#8) Qy Y0 rfl rfl m4.h2 sD (.inl (Nat.zero_le _))) fun w5 m5 => ?_
 refine rN (Qa ?_)
 have hck : (ky.set 0 (((ky.getD 0 0) / 8#8) * 8#8)).set 31 ((((ky.set 0 (((ky.getD 0 0) / 8#8) * 8#8)).getD 31 0) % 64#8) + 64#8) = Qn ky := by unfold Qn; rfl
 have hmK6 := m5
 rw [hck] at hmK6
 refine Qb <| Qd (Qp Xq rfl Zl rfl hmK6.h1 sZ) <| U9 hmK6 (oc63 (Kt rfl) (c_rread _ _ sD)) fun w7 m7 => Y9 (Zc m7 Xc) fun w9 b5 m9 => Ye m9 (Qj (f := i64) (l := Q8 u) Z4 Xc rfl rfl sD m9.h0 sZ rfl) fun w10 m10 => ?_
 refine rN (Qa ?_)
 refine Kr Xw ?_
 have hFM11 : Mem w10 (Qu w0) ([] ++ [(b5, .cells (cl i64 (Q8 u)) 109 (0, 0)), (b4, .cells (cl u8 (List.replicate 32 0)) 23 (0, 0)), (b3, .cells (cl u8 u) 23 (0, 0)), (b2, .cells (cl u8 (Qn ky)) 23 (0, 0))]) := m10
 obtain ⟨RM11, hRM11⟩ : ∃ R2, R2 = Rest.add (Qu w0) [(b5, .cells (cl i64 (Q8 u)) 109 (0, 0)), (b4, .cells (cl u8 (List.replicate 32 0)) 23 (0, 0)), (b3, .cells (cl u8 u) 23 (0, 0)), (b2, .cells (cl u8 (Qn ky)) 23 (0, 0))] := ⟨_, rfl⟩
 have M110 : Mem w10 RM11 [] := by rw [hRM11]; exact Mem.give hFM11
 have ho12 : RM11.blk b5 = some (.cells (cl i64 (Q8 u)) 109 (0, 0)) := by rw [hRM11]; exact Mem.addOwn hFM11 (List.Mem.head _)
 have ho13 : RM11.blk b4 = some (.cells (cl u8 (List.replicate 32 0)) 23 (0, 0)) := by rw [hRM11]; exact Mem.addOwn hFM11 (List.Mem.tail _ (List.Mem.head _))
 have ho14 : RM11.blk b3 = some (.cells (cl u8 u) 23 (0, 0)) := by rw [hRM11]; exact Mem.addOwn hFM11 (List.Mem.tail _ (List.Mem.tail _ (List.Mem.head _)))
 have ho15 : RM11.blk b2 = some (.cells (cl u8 (Qn ky)) 23 (0, 0)) := by rw [hRM11]; exact Mem.addOwn hFM11 (List.Mem.tail _ (List.Mem.tail _ (List.Mem.tail _ (List.Mem.head _))))
 refine re_alM [4, 5, 6, 7] (dl 4) [(8, true), (9, true), (10, true)] 11 (luN [(4, 6), (5, 7), (6, 8), (7, 9)]) (luN [(4, 109), (5, 109), (6, 109), (7, 109)]) (luV [(4, (agg i64 (List.replicate 16 0))), (5, (agg i64 (List.replicate 16 0))), (6, (agg i64 (List.replicate 16 0))), (7, (agg i64 (List.replicate 16 0)))]) (fun g => g 0 = (agg u8 ky) ∧ g 1 = (agg u8 u) ∧ g 2 = (ptr b2 0) ∧ g 3 = (ptr b3 0) ∧ g 4 = (ptr b4 0) ∧ g 5 = (ptr b5 0) ∧ g 33 = (agg i64 ([1, 0, 0, 0, 0, 0, 0, 0, 0, 0, 0, 0, 0, 0, 0, 0])) ∧ g 34 = (agg i64 (List.replicate 16 0)) ∧ g 35 = (agg i64 (Q8 u)) ∧ g 36 = (agg i64 ([1, 0, 0, 0, 0, 0, 0, 0, 0, 0, 0, 0, 0, 0, 0, 0])) ∧ True) M110 (Wy ⟨⟨_, _, _, rfl⟩, rfl, _, _, Xc⟩ (Wy ⟨⟨_, _, _, rfl⟩, rfl, _, _, Xc⟩ (Wy ⟨⟨_, _, _, rfl⟩, rfl, _, _, Xc⟩ (Wy ⟨⟨_, _, _, rfl⟩, rfl, _, _, Xc⟩ Su)))) (fun sx16 hS16 => ?_) ?_
 ·skip
  refine N8 rfl (G5 (c := (cl i64 ([1, 0, 0, 0, 0, 0, 0, 0, 0, 0, 0, 0, 0, 0, 0, 0]))) Xc Yd H6 (J3 (i := 0) (v := (i64 1)) (cs := #[(i64 1)]) rfl rfl V3) Xw) <| N8 rfl (Vo (ps := []) (c := (cl i64 (List.replicate 16 0))) Xc Yd H6 X7 rfl) <| yqH rfl (fun w _H _hx => Qp Yd rfl Xc rfl (_hx.rest _ _ ho12) sZ) <| N8 rfl (G5 (c := (cl i64 ([1, 0, 0, 0, 0, 0, 0, 0, 0, 0, 0, 0, 0, 0, 0, 0]))) Xc Yd H6 (J3 (i := 0) (v := (i64 1)) (cs := #[(i64 1)]) rfl rfl V3) Xw) ?_
  exact hS16 _ ⟨rfl, rfl, rfl, rfl, rfl, rfl, rfl, rfl, rfl, rfl, trivial⟩
 rintro g17 ⟨s0, s1, s2, s3, s4, s5, s33, s34, s35, s36, _⟩ w19 ps19 hmm19
 have m19 : Mem _ _ [((ps19 4), .cells (cl i64 (List.replicate 16 0)) 109 (0, 0)), ((ps19 5), .cells (cl i64 (List.replicate 16 0)) 109 (0, 0)), ((ps19 6), .cells (cl i64 (List.replicate 16 0)) 109 (0, 0)), ((ps19 7), .cells (cl i64 (List.replicate 16 0)) 109 (0, 0))] := hmm19
 show DW _ _ _ _ _ _ _ (upd (upd (upd (upd g17 9 (ptr (ps19 7) 0)) 8 (ptr (ps19 6) 0)) 7 (ptr (ps19 5) 0)) 6 (ptr (ps19 4) 0)) _
 generalize ps19 4 = b6, ps19 5 = b7, ps19 6 = b8, ps19 7 = b9 at m19 ⊢
 refine Qgu rfl (fun w20 e20 => ?_)
 have m20 := m19.ext e20
 refine Vp.mono (Qj (f := i64) (l := [1, 0, 0, 0, 0, 0, 0, 0, 0, 0, 0, 0, 0, 0, 0, 0]) Z4 Xc rfl s33 sD m20.h0 sZ rfl) ?_
 rintro _ w21 uq21
 have m21 := m20.upd0 uq21
 refine ⟨⟨_, m21⟩, ?_⟩
 refine Qgu rfl (fun w22 e22 => ?_)
 have m22 := m21.ext e22
 refine Vp.mono (Qj (f := i64) (l := List.replicate 16 0) Z4 Xc rfl s34 sD m22.h1 sZ rfl) ?_
 rintro _ w23 uq23
 have m23 := m22.upd1 uq23
 refine ⟨⟨_, m23⟩, ?_⟩
 refine Qgu rfl (fun w24 e24 => ?_)
 have m24 := m23.ext e24
 refine Vp.mono (Qj (f := i64) (l := Q8 u) Z4 Xc rfl s35 sD m24.h2 sZ rfl) ?_
 rintro _ w25 uq25
 have m25 := m24.upd2 uq25
 refine ⟨⟨_, m25⟩, ?_⟩
 refine Gs m25 fun w26 m26 => ?_
 have hX27 := m26
 rw [hRM11] at hX27
 have m28 : Mem w26 (Qu w0) [(b6, .cells (cl i64 ([1, 0, 0, 0, 0, 0, 0, 0, 0, 0, 0, 0, 0, 0, 0, 0])) 109 (0, 0)), (b7, .cells (cl i64 (List.replicate 16 0)) 109 (0, 0)), (b8, .cells (cl i64 (Q8 u)) 109 (0, 0)), (b9, .cells (cl i64 (List.replicate 16 0)) 109 (0, 0)), (b5, .cells (cl i64 (Q8 u)) 109 (0, 0)), (b4, .cells (cl u8 (List.replicate 32 0)) 23 (0, 0)), (b3, .cells (cl u8 u) 23 (0, 0)), (b2, .cells (cl u8 (Qn ky)) 23 (0, 0))] := ymA (Mem.back hFM11 hX27)
 refine yqU3 m28 (Qj (f := i64) (l := [1, 0, 0, 0, 0, 0, 0, 0, 0, 0, 0, 0, 0, 0, 0, 0]) Z4 Xc rfl s36 sD m28.h3 sZ rfl) fun w29 m29 => ?_
 refine rN (Qa (sR ?_))
 refine Zz (i64 254) ?_
 refine rN (Qk ?_)
 refine Y7 (fun g wv => ∃ (j : Nat), (j ≤ 255) ∧ g 0 = (agg u8 ky) ∧ g 1 = (agg u8 u) ∧ g 2 = (ptr b2 0) ∧ g 3 = (ptr b3 0) ∧ g 4 = (ptr b4 0) ∧ g 5 = (ptr b5 0) ∧ g 6 = (ptr b6 0) ∧ g 7 = (ptr b7 0) ∧ g 8 = (ptr b8 0) ∧ g 9 = (ptr b9 0) ∧ g 10 = (i64 (254 - (j : Int))) ∧ Mem wv (Qu w0) [(b6, .cells (cl i64 ((Qz (Qn ky) (Q8 u) j).x2)) 109 (0, 0)), (b7, .cells (cl i64 ((Qz (Qn ky) (Q8 u) j).z2)) 109 (0, 0)), (b8, .cells (cl i64 ((Qz (Qn ky) (Q8 u) j).x3)) 109 (0, 0)), (b9, .cells (cl i64 ((Qz (Qn ky) (Q8 u) j).z3)) 109 (0, 0)), (b5, .cells (cl i64 (Q8 u)) 109 (0, 0)), (b4, .cells (cl u8 (List.replicate 32 0)) 23 (0, 0)), (b2, .cells (cl u8 (Qn ky)) 23 (0, 0))]) (fun g wv => (RowKit.intOf (g 10) + 1).toNat) ?_ ?_
 have m30 := Mem.drop [_] _ (Mem.pick [_, _, _, _, _, _] [_] _ m29)
 ·exact ⟨0, oM, s0, s1, s2, s3, s4, s5, rfl, rfl, rfl, rfl, rfl, (by rw [Qox]; exact m30)⟩
 rintro fr31 w32 ⟨j, hj, s0, s1, s2, s3, s4, s5, s6, s7, s8, s9, s10, m32⟩
 have z10 := s10
 have hL := Qi7 (Qn ky) (Qb9 u) j
 have hLx2 := hL.x2.len
 have hLz2 := hL.z2.len
 have hLx3 := hL.x3.len
 have hLz3 := hL.z3.len
 refine Qa (sR ?_)
 refine Ya s10 <| Qd (E8 (b := 0) rfl rfl) <| rN ?_
 refine Z8 rfl (fun hc33 => ?_) (fun hc33 => ?_)
 ·
  have hc33p := of_decide_eq_true hc33
  refine Qs (Qc (Qa (Qk (sR ?_))))
  refine Ya s10 <| Qd (Ko.cast (congrArg i64 (show (254 - (j : Int)) / 8 = (((254 - j) / 8 : Nat) : Int) by omega)) (Uu (b := 8) rfl rfl oM oM oM)) <| Qd (Zo (r := ((254 - j) / 8)) oM Xq Y0 s2 rfl oM sD) <| Qd (v := (u8 ((Qn ky).getD ((254 - j) / 8) 0))) (Ql Gl rfl rfl ((Mem.pick [_, _, _, _, _, _] [_] _ m32)).h0 (Qx _ _ 0 sD)) <| Ya s10 <| Qd (Ko.cast (congrArg i64 (show (254 - (j : Int)) % 8 = (((254 - j) % 8 : Nat) : Int) by omega)) (Vf (b := 8) rfl rfl oM oM oM)) <| Qd (Qgp rfl rfl oM) <| Qd (Qgq (b := 1#8) rfl rfl) <| Sz rfl ?_
  refine rN (Qa (sR ?_))
  refine Ya rfl <| Qd (Qbu (b := 1#8) rfl rfl) <| rN ?_
  refine Z8 rfl (fun hc34 => ?_) (fun hc34 => ?_)
  ·
   have hc34p := eq_of_beq hc34
   refine sR <| Qd (Qp Yd rfl Xc s8 m32.h2 sZ) <| Qd (Qp Yd rfl Xc s6 m32.h0 sZ) <| Ye m32 (Qj (f := i64) (l := (Qz (Qn ky) (Q8 u) j).x3) Z4 Xc s6 rfl sD m32.h0 sZ rfl) fun w35 m35 => Bh m35 (Qj (f := i64) (l := (Qz (Qn ky) (Q8 u) j).x2) Z4 Xc s8 rfl sD m35.h2 sZ rfl) fun w36 m36 => ?_
   refine rN (Qb ?_)
   refine Qd (Qp Yd rfl Xc s9 m36.h3 sZ) <| Qd (Qp Yd rfl Xc s7 m36.h1 sZ) <| Vz m36 (Qj (f := i64) (l := (Qz (Qn ky) (Q8 u) j).z3) Z4 Xc s7 rfl sD m36.h1 sZ rfl) fun w37 m37 => yqU3 m37 (Qj (f := i64) (l := (Qz (Qn ky) (Q8 u) j).z2) Z4 Xc s9 rfl sD m37.h3 sZ rfl) fun w38 m38 => ?_
   refine rN (Qa ?_)
   refine Kr Xw ?_
   refine Qd9 [12, 13, 14, 15] (dl 12) 16 (luN [(12, 12), (13, 13), (14, 14), (15, 15)]) (luN [(12, 109), (13, 109), (14, 109), (15, 109)]) (luV [(12, (agg i64 (List.replicate 16 0))), (13, (agg i64 (List.replicate 16 0))), (14, (agg i64 (List.replicate 16 0))), (15, (agg i64 (List.replicate 16 0)))]) (fun g => g 0 = (agg u8 ky) ∧ g 1 = (agg u8 u) ∧ g 2 = (ptr b2 0) ∧ g 3 = (ptr b3 0) ∧ g 4 = (ptr b4 0) ∧ g 5 = (ptr b5 0) ∧ g 6 = (ptr b6 0) ∧ g 7 = (ptr b7 0) ∧ g 8 = (ptr b8 0) ∧ g 9 = (ptr b9 0) ∧ g 10 = (i64 (254 - (j : Int))) ∧ g 11 = (u8 ((((Qn ky).getD ((254 - j) / 8) 0) >>> (((254 - j) % 8 : Nat) : Int).toNat) &&& 1#8)) ∧ g 38 = (bl (decide (0 ≤ (254 - (j : Int))))) ∧ g 50 = (bl (((((Qn ky).getD ((254 - j) / 8) 0) >>> (((254 - j) % 8 : Nat) : Int).toNat) &&& 1#8) == 1#8)) ∧ g 57 = (agg i64 (Kq ((Qz (Qn ky) (Q8 u) j).x3) ((Qz (Qn ky) (Q8 u) j).z3))) ∧ g 60 = (agg i64 (Yx ((Qz (Qn ky) (Q8 u) j).x3) ((Qz (Qn ky) (Q8 u) j).z3))) ∧ g 63 = (agg i64 (Kq ((Qz (Qn ky) (Q8 u) j).x2) ((Qz (Qn ky) (Q8 u) j).z2))) ∧ g 66 = (agg i64 (Yx ((Qz (Qn ky) (Q8 u) j).x2) ((Qz (Qn ky) (Q8 u) j).z2))) ∧ True) m38 (Wy ⟨⟨_, _, _, rfl⟩, rfl, _, _, Xc⟩ (Wy ⟨⟨_, _, _, rfl⟩, rfl, _, _, Xc⟩ (Wy ⟨⟨_, _, _, rfl⟩, rfl, _, _, Xc⟩ (Wy ⟨⟨_, _, _, rfl⟩, rfl, _, _, Xc⟩ Su)))) (fun sx39 hS39 => ?_) ?_
   ·skip
    refine Yn rfl (fun _ e' => Qp Yd rfl Xc s6 (m38.ext e').h0 sZ) <| Yn rfl (fun _ e' => Qp Yd rfl Xc s7 (m38.ext e').h1 sZ) <| Vg rfl rfl (fun w40 e40 => oc64 (Xm rfl rfl) (Qbg _ _ _ hL.x3 hL.z3)) <| Yn rfl (fun _ e' => Qp Yd rfl Xc s6 (m38.ext e').h0 sZ) <| Yn rfl (fun _ e' => Qp Yd rfl Xc s7 (m38.ext e').h1 sZ) <| Vg rfl rfl (fun w43 e43 => oc65 (Xm rfl rfl) (Rl _ _ _ hL.x3 hL.z3)) <| Yn rfl (fun _ e' => Qp Yd rfl Xc s8 (m38.ext e').h2 sZ) <| Yn rfl (fun _ e' => Qp Yd rfl Xc s9 (m38.ext e').h3 sZ) <| Vg rfl rfl (fun w46 e46 => oc64 (Xm rfl rfl) (Qbg _ _ _ hL.x2 hL.z2)) <| Yn rfl (fun _ e' => Qp Yd rfl Xc s8 (m38.ext e').h2 sZ) <| Yn rfl (fun _ e' => Qp Yd rfl Xc s9 (m38.ext e').h3 sZ) <| Vg rfl rfl (fun w49 e49 => oc65 (Xm rfl rfl) (Rl _ _ _ hL.x2 hL.z2)) ?_
    exact hS39 _ ⟨s0, s1, s2, s3, s4, s5, s6, s7, s8, s9, s10, rfl, rfl, rfl, rfl, rfl, rfl, rfl, trivial⟩
   rintro g52 ⟨s0, s1, s2, s3, s4, s5, s6, s7, s8, s9, s10, s11, s38, s50, s57, s60, s63, s66, _⟩ w54 ps54 hmm54
   have m54 : Mem _ _ [((ps54 12), .cells (cl i64 (List.replicate 16 0)) 109 (0, 0)), ((ps54 13), .cells (cl i64 (List.replicate 16 0)) 109 (0, 0)), ((ps54 14), .cells (cl i64 (List.replicate 16 0)) 109 (0, 0)), ((ps54 15), .cells (cl i64 (List.replicate 16 0)) 109 (0, 0)), _, _, _, _, _, _, _] := hmm54
   show RW _ _ _ _ _ (upd (upd (upd (upd g52 15 (ptr (ps54 15) 0)) 14 (ptr (ps54 14) 0)) 13 (ptr (ps54 13) 0)) 12 (ptr (ps54 12) 0)) _
   generalize ps54 12 = b12, ps54 13 = b13, ps54 14 = b14, ps54 15 = b15 at m54 ⊢
   refine Ye m54 (Qj (f := i64) (l := Kq ((Qz (Qn ky) (Q8 u) j).x3) ((Qz (Qn ky) (Q8 u) j).z3)) Z4 Xc rfl s57 sD m54.h0 sZ rfl) fun w55 m55 => Vz m55 (Qj (f := i64) (l := Yx ((Qz (Qn ky) (Q8 u) j).x3) ((Qz (Qn ky) (Q8 u) j).z3)) Z4 Xc rfl s60 sD m55.h1 sZ rfl) fun w56 m56 => Bh m56 (Qj (f := i64) (l := Kq ((Qz (Qn ky) (Q8 u) j).x2) ((Qz (Qn ky) (Q8 u) j).z2)) Z4 Xc rfl s63 sD m56.h2 sZ rfl) fun w57 m57 => yqU3 m57 (Qj (f := i64) (l := Yx ((Qz (Qn ky) (Q8 u) j).x2) ((Qz (Qn ky) (Q8 u) j).z2)) Z4 Xc rfl s66 sD m57.h3 sZ rfl) fun w58 m58 => ?_
   refine rN (Qa ?_)
   refine Kr Xw ?_
   refine Qd9 [12, 13, 14, 15] (dl 12) 16 (luN [(12, 16), (13, 17), (14, 18), (15, 19)]) (luN [(12, 109), (13, 109), (14, 109), (15, 109)]) (luV [(12, (agg i64 (List.replicate 16 0))), (13, (agg i64 (List.replicate 16 0))), (14, (agg i64 (List.replicate 16 0))), (15, (agg i64 (List.replicate 16 0)))]) (fun g => g 0 = (agg u8 ky) ∧ g 1 = (agg u8 u) ∧ g 2 = (ptr b2 0) ∧ g 3 = (ptr b3 0) ∧ g 4 = (ptr b4 0) ∧ g 5 = (ptr b5 0) ∧ g 6 = (ptr b6 0) ∧ g 7 = (ptr b7 0) ∧ g 8 = (ptr b8 0) ∧ g 9 = (ptr b9 0) ∧ g 10 = (i64 (254 - (j : Int))) ∧ g 11 = (u8 ((((Qn ky).getD ((254 - j) / 8) 0) >>> (((254 - j) % 8 : Nat) : Int).toNat) &&& 1#8)) ∧ g 12 = (ptr b12 0) ∧ g 13 = (ptr b13 0) ∧ g 14 = (ptr b14 0) ∧ g 15 = (ptr b15 0) ∧ g 38 = (bl (decide (0 ≤ (254 - (j : Int))))) ∧ g 50 = (bl (((((Qn ky).getD ((254 - j) / 8) 0) >>> (((254 - j) % 8 : Nat) : Int).toNat) &&& 1#8) == 1#8)) ∧ g 69 = (agg i64 (Xj (Yx ((Qz (Qn ky) (Q8 u) j).x2) ((Qz (Qn ky) (Q8 u) j).z2)) (Kq ((Qz (Qn ky) (Q8 u) j).x3) ((Qz (Qn ky) (Q8 u) j).z3)))) ∧ g 72 = (agg i64 (Xj (Kq ((Qz (Qn ky) (Q8 u) j).x2) ((Qz (Qn ky) (Q8 u) j).z2)) (Yx ((Qz (Qn ky) (Q8 u) j).x3) ((Qz (Qn ky) (Q8 u) j).z3)))) ∧ g 75 = (agg i64 (Xj (Kq ((Qz (Qn ky) (Q8 u) j).x3) ((Qz (Qn ky) (Q8 u) j).z3)) (Kq ((Qz (Qn ky) (Q8 u) j).x3) ((Qz (Qn ky) (Q8 u) j).z3)))) ∧ g 78 = (agg i64 (Xj (Yx ((Qz (Qn ky) (Q8 u) j).x3) ((Qz (Qn ky) (Q8 u) j).z3)) (Yx ((Qz (Qn ky) (Q8 u) j).x3) ((Qz (Qn ky) (Q8 u) j).z3)))) ∧ True) m58 (Wy ⟨⟨_, _, _, rfl⟩, rfl, _, _, Xc⟩ (Wy ⟨⟨_, _, _, rfl⟩, rfl, _, _, Xc⟩ (Wy ⟨⟨_, _, _, rfl⟩, rfl, _, _, Xc⟩ (Wy ⟨⟨_, _, _, rfl⟩, rfl, _, _, Xc⟩ Su)))) (fun sx59 hS59 => ?_) ?_
   ·skip
    refine Yn rfl (fun _ e' => Qp Yd rfl Xc rfl (m58.ext e').h3 sZ) <| Yn rfl (fun _ e' => Qp Yd rfl Xc rfl (m58.ext e').h0 sZ) <| Vg rfl rfl (fun w60 e60 => Qao (Xm rfl rfl) (Gf _ _ _ (Zq hL.x2 hL.z2) (Zy hL.x3 hL.z3))) <| Yn rfl (fun _ e' => Qp Yd rfl Xc rfl (m58.ext e').h2 sZ) <| Yn rfl (fun _ e' => Qp Yd rfl Xc rfl (m58.ext e').h1 sZ) <| Vg rfl rfl (fun w63 e63 => Qao (Xm rfl rfl) (Gf _ _ _ (Zy hL.x2 hL.z2) (Zq hL.x3 hL.z3))) <| Yn rfl (fun _ e' => Qp Yd rfl Xc rfl (m58.ext e').h0 sZ) <| Yn rfl (fun _ e' => Qp Yd rfl Xc rfl (m58.ext e').h0 sZ) <| Vg rfl rfl (fun w66 e66 => Qao (Xm rfl rfl) (Gf _ _ _ (Zy hL.x3 hL.z3) (Zy hL.x3 hL.z3))) <| Yn rfl (fun _ e' => Qp Yd rfl Xc rfl (m58.ext e').h1 sZ) <| Yn rfl (fun _ e' => Qp Yd rfl Xc rfl (m58.ext e').h1 sZ) <| Vg rfl rfl (fun w69 e69 => Qao (Xm rfl rfl) (Gf _ _ _ (Zq hL.x3 hL.z3) (Zq hL.x3 hL.z3))) ?_
    exact hS59 _ ⟨s0, s1, s2, s3, s4, s5, s6, s7, s8, s9, s10, s11, rfl, rfl, rfl, rfl, s38, s50, rfl, rfl, rfl, rfl, trivial⟩
   rintro g72 ⟨s0, s1, s2, s3, s4, s5, s6, s7, s8, s9, s10, s11, s12, s13, s14, s15, s38, s50, s69, s72, s75, s78, _⟩ w74 ps74 hmm74
   have m74 : Mem _ _ [((ps74 12), .cells (cl i64 (List.replicate 16 0)) 109 (0, 0)), ((ps74 13), .cells (cl i64 (List.replicate 16 0)) 109 (0, 0)), ((ps74 14), .cells (cl i64 (List.replicate 16 0)) 109 (0, 0)), ((ps74 15), .cells (cl i64 (List.replicate 16 0)) 109 (0, 0)), _, _, _, _, _, _, _, _, _, _, _] := hmm74
   show RW _ _ _ _ _ (upd (upd (upd (upd g72 19 (ptr (ps74 15) 0)) 18 (ptr (ps74 14) 0)) 17 (ptr (ps74 13) 0)) 16 (ptr (ps74 12) 0)) _
   generalize ps74 12 = b16, ps74 13 = b17, ps74 14 = b18, ps74 15 = b19 at m74 ⊢
   refine Ye m74 (Qj (f := i64) (l := Xj (Yx ((Qz (Qn ky) (Q8 u) j).x2) ((Qz (Qn ky) (Q8 u) j).z2)) (Kq ((Qz (Qn ky) (Q8 u) j).x3) ((Qz (Qn ky) (Q8 u) j).z3))) Z4 Xc rfl s69 sD m74.h0 sZ rfl) fun w75 m75 => Vz m75 (Qj (f := i64) (l := Xj (Kq ((Qz (Qn ky) (Q8 u) j).x2) ((Qz (Qn ky) (Q8 u) j).z2)) (Yx ((Qz (Qn ky) (Q8 u) j).x3) ((Qz (Qn ky) (Q8 u) j).z3))) Z4 Xc rfl s72 sD m75.h1 sZ rfl) fun w76 m76 => Bh m76 (Qj (f := i64) (l := Xj (Kq ((Qz (Qn ky) (Q8 u) j).x3) ((Qz (Qn ky) (Q8 u) j).z3)) (Kq ((Qz (Qn ky) (Q8 u) j).x3) ((Qz (Qn ky) (Q8 u) j).z3))) Z4 Xc rfl s75 sD m76.h2 sZ rfl) fun w77 m77 => yqU3 m77 (Qj (f := i64) (l := Xj (Yx ((Qz (Qn ky) (Q8 u) j).x3) ((Qz (Qn ky) (Q8 u) j).z3)) (Yx ((Qz (Qn ky) (Q8 u) j).x3) ((Qz (Qn ky) (Q8 u) j).z3))) Z4 Xc rfl s78 sD m77.h3 sZ rfl) fun w78 m78 => ?_
   refine rN (sR ?_)
   refine Qd (Qp Yd rfl Xc rfl m78.h2 sZ) <| Qd (Qp Yd rfl Xc rfl m78.h3 sZ) <| U9 m78 (oc65 (Xm rfl rfl) (Rl _ _ _ (Zk (Zy hL.x3 hL.z3) (Zy hL.x3 hL.z3)) (Zk (Zq hL.x3 hL.z3) (Zq hL.x3 hL.z3)))) fun w79 m79 => Y9 (Zc m79 Xc) fun w81 b20 m81 => Ye m81 (Qj (f := i64) (l := Yx (Xj (Kq ((Qz (Qn ky) (Q8 u) j).x3) ((Qz (Qn ky) (Q8 u) j).z3)) (Kq ((Qz (Qn ky) (Q8 u) j).x3) ((Qz (Qn ky) (Q8 u) j).z3))) (Xj (Yx ((Qz (Qn ky) (Q8 u) j).x3) ((Qz (Qn ky) (Q8 u) j).z3)) (Yx ((Qz (Qn ky) (Q8 u) j).x3) ((Qz (Qn ky) (Q8 u) j).z3)))) Z4 Xc rfl rfl sD m81.h0 sZ rfl) fun w82 m82 => ?_
   refine rN (Qa ?_)
   refine Xl (dl 5) 5 Xw <| Yn rfl (fun _ e' => Qp Yd rfl Xc rfl (m82.ext e').h1 sZ) <| Yn rfl (fun _ e' => Qp Yd rfl Xc rfl (m82.ext e').h2 sZ) <| Vg rfl rfl (fun w83 e83 => oc64 (Xm rfl rfl) (Qbg _ _ _ (Zk (Zq hL.x2 hL.z2) (Zy hL.x3 hL.z3)) (Zk (Zy hL.x2 hL.z2) (Zq hL.x3 hL.z3)))) <| Yn rfl (fun _ e' => Qp Yd rfl Xc rfl (m82.ext e').h1 sZ) <| Yn rfl (fun _ e' => Qp Yd rfl Xc rfl (m82.ext e').h2 sZ) <| Gs m82 fun w86 m86 => U9 m86 (oc64 (Xm rfl rfl) (Qbg _ _ _ (Zk (Zq hL.x2 hL.z2) (Zy hL.x3 hL.z3)) (Zk (Zy hL.x2 hL.z2) (Zq hL.x3 hL.z3)))) fun w87 m87 => U9 m87 (Qao (Xm rfl rfl) (Gf _ _ _ (Zy (Zk (Zq hL.x2 hL.z2) (Zy hL.x3 hL.z3)) (Zk (Zy hL.x2 hL.z2) (Zq hL.x3 hL.z3))) (Zy (Zk (Zq hL.x2 hL.z2) (Zy hL.x3 hL.z3)) (Zk (Zy hL.x2 hL.z2) (Zq hL.x3 hL.z3))))) fun w89 m89 => Vk (Qj (f := i64) (l := Xj (Kq (Xj (Yx ((Qz (Qn ky) (Q8 u) j).x2) ((Qz (Qn ky) (Q8 u) j).z2)) (Kq ((Qz (Qn ky) (Q8 u) j).x3) ((Qz (Qn ky) (Q8 u) j).z3))) (Xj (Kq ((Qz (Qn ky) (Q8 u) j).x2) ((Qz (Qn ky) (Q8 u) j).z2)) (Yx ((Qz (Qn ky) (Q8 u) j).x3) ((Qz (Qn ky) (Q8 u) j).z3)))) (Kq (Xj (Yx ((Qz (Qn ky) (Q8 u) j).x2) ((Qz (Qn ky) (Q8 u) j).z2)) (Kq ((Qz (Qn ky) (Q8 u) j).x3) ((Qz (Qn ky) (Q8 u) j).z3))) (Xj (Kq ((Qz (Qn ky) (Q8 u) j).x2) ((Qz (Qn ky) (Q8 u) j).z2)) (Yx ((Qz (Qn ky) (Q8 u) j).x3) ((Qz (Qn ky) (Q8 u) j).z3))))) Z4 Xc s8 rfl sD ((Mem.pick [_, _, _, _, _, _, _, _, _, _, _] [_] _ m89)).h0 sZ rfl) ?_
   rintro _ w91 uq91
   have m91 : Mem _ _ [_, _, _, _, _, _, _, _, _, _, _, _, _, _, _, _] := Mem.upd0 (Mem.pick [_, _, _, _, _, _, _, _, _, _, _] [_] _ m89) uq91
   refine rN (Qa ?_)
   refine Xl (dl 8) 8 Xw <| Yn rfl (fun _ e' => Qp Yd rfl Xc s5 ((Mem.pick [_, _, _, _, _, _, _, _, _, _, _, _, _] [_] _ (m91.ext e'))).h0 sZ) <| Yn rfl (fun _ e' => Qp Yd rfl Xc rfl (m91.ext e').h2 sZ) <| Yn rfl (fun _ e' => Qp Yd rfl Xc rfl (m91.ext e').h3 sZ) <| Vg rfl rfl (fun w92 e92 => oc65 (Xm rfl rfl) (Rl _ _ _ (Zk (Zq hL.x2 hL.z2) (Zy hL.x3 hL.z3)) (Zk (Zy hL.x2 hL.z2) (Zq hL.x3 hL.z3)))) <| Yn rfl (fun _ e' => Qp Yd rfl Xc rfl (m91.ext e').h2 sZ) <| Yn rfl (fun _ e' => Qp Yd rfl Xc rfl (m91.ext e').h3 sZ) <| Vg rfl rfl (fun w95 e95 => oc65 (Xm rfl rfl) (Rl _ _ _ (Zk (Zq hL.x2 hL.z2) (Zy hL.x3 hL.z3)) (Zk (Zy hL.x2 hL.z2) (Zq hL.x3 hL.z3)))) <| Vg rfl rfl (fun w98 e98 => Qao (Xm rfl rfl) (Gf _ _ _ (Zq (Zk (Zq hL.x2 hL.z2) (Zy hL.x3 hL.z3)) (Zk (Zy hL.x2 hL.z2) (Zq hL.x3 hL.z3))) (Zq (Zk (Zq hL.x2 hL.z2) (Zy hL.x3 hL.z3)) (Zk (Zy hL.x2 hL.z2) (Zq hL.x3 hL.z3))))) <| Gs m91 fun w101 m101 => U9 m101 (Qao (Xm rfl rfl) (Gf _ _ _ (Qb9 u) (Zk (Zq (Zk (Zq hL.x2 hL.z2) (Zy hL.x3 hL.z3)) (Zk (Zy hL.x2 hL.z2) (Zq hL.x3 hL.z3))) (Zq (Zk (Zq hL.x2 hL.z2) (Zy hL.x3 hL.z3)) (Zk (Zy hL.x2 hL.z2) (Zq hL.x3 hL.z3)))))) fun w102 m102 => Vk (Qj (f := i64) (l := Xj (Q8 u) (Xj (Yx (Xj (Yx ((Qz (Qn ky) (Q8 u) j).x2) ((Qz (Qn ky) (Q8 u) j).z2)) (Kq ((Qz (Qn ky) (Q8 u) j).x3) ((Qz (Qn ky) (Q8 u) j).z3))) (Xj (Kq ((Qz (Qn ky) (Q8 u) j).x2) ((Qz (Qn ky) (Q8 u) j).z2)) (Yx ((Qz (Qn ky) (Q8 u) j).x3) ((Qz (Qn ky) (Q8 u) j).z3)))) (Yx (Xj (Yx ((Qz (Qn ky) (Q8 u) j).x2) ((Qz (Qn ky) (Q8 u) j).z2)) (Kq ((Qz (Qn ky) (Q8 u) j).x3) ((Qz (Qn ky) (Q8 u) j).z3))) (Xj (Kq ((Qz (Qn ky) (Q8 u) j).x2) ((Qz (Qn ky) (Q8 u) j).z2)) (Yx ((Qz (Qn ky) (Q8 u) j).x3) ((Qz (Qn ky) (Q8 u) j).z3)))))) Z4 Xc s9 rfl sD ((Mem.pick [_, _, _, _, _, _, _, _, _, _, _, _] [_] _ m102)).h0 sZ rfl) ?_
   rintro _ w104 uq104
   have m104 : Mem _ _ [_, _, _, _, _, _, _, _, _, _, _, _, _, _, _, _] := Mem.upd0 (Mem.pick [_, _, _, _, _, _, _, _, _, _, _, _] [_] _ m102) uq104
   refine rN (sR ?_)
   refine Qd (Qp Yd rfl Xc rfl m104.h5 sZ) <| Qd (Qp Yd rfl Xc rfl ((Mem.pick [_, _, _, _, _, _] [_] _ m104)).h0 sZ) <| U9 m104 (Qao (Xm rfl rfl) (Gf _ _ _ (Zk (Zy hL.x3 hL.z3) (Zy hL.x3 hL.z3)) (Zk (Zq hL.x3 hL.z3) (Zq hL.x3 hL.z3)))) fun w105 m105 => Vk (Qj (f := i64) (l := Xj (Xj (Kq ((Qz (Qn ky) (Q8 u) j).x3) ((Qz (Qn ky) (Q8 u) j).z3)) (Kq ((Qz (Qn ky) (Q8 u) j).x3) ((Qz (Qn ky) (Q8 u) j).z3))) (Xj (Yx ((Qz (Qn ky) (Q8 u) j).x3) ((Qz (Qn ky) (Q8 u) j).z3)) (Yx ((Qz (Qn ky) (Q8 u) j).x3) ((Qz (Qn ky) (Q8 u) j).z3)))) Z4 Xc s6 rfl sD ((Mem.pick [_, _, _, _, _, _, _, _, _, _, _] [_] _ m105)).h0 sZ rfl) ?_
   rintro _ w107 uq107
   have m107 : Mem _ _ [_, _, _, _, _, _, _, _, _, _, _, _, _, _, _, _] := Mem.upd0 (Mem.pick [_, _, _, _, _, _, _, _, _, _, _] [_] _ m105) uq107
   refine rN (Qa ?_)
   refine Xl (dl 6) 6 Xw <| Yn rfl (fun _ e' => Qp Yd rfl Xc rfl (m107.ext e').h3 sZ) <| Yn rfl (fun _ e' => Qp Yd rfl Xc rfl ((Mem.pick [_, _, _, _, _, _] [_] _ (m107.ext e'))).h0 sZ) <| Yb rfl (G5 (c := (cl i64 ([56129, 1, 0, 0, 0, 0, 0, 0, 0, 0, 0, 0, 0, 0, 0, 0]))) Xc Yd H6 (J3 (i := 0) (v := (i64 56129)) (cs := #[(i64 56129)]) rfl rfl (J3 (i := 1) (v := (i64 1)) (cs := #[(i64 1)]) rfl rfl V3)) Xw) <| Yn rfl (fun _ e' => Qp Yd rfl Xc rfl (m107.ext e').h3 sZ) <| Vg rfl rfl (fun w108 e108 => Qao (Xm rfl rfl) (Gf _ _ _ Na (Zq (Zk (Zy hL.x3 hL.z3) (Zy hL.x3 hL.z3)) (Zk (Zq hL.x3 hL.z3) (Zq hL.x3 hL.z3))))) <| Vg rfl rfl (fun w111 e111 => oc64 (Xm rfl rfl) (Qbg _ _ _ (Zk (Zy hL.x3 hL.z3) (Zy hL.x3 hL.z3)) (Zk Na (Zq (Zk (Zy hL.x3 hL.z3) (Zy hL.x3 hL.z3)) (Zk (Zq hL.x3 hL.z3) (Zq hL.x3 hL.z3)))))) <| Gs m107 fun w114 m114 => U9 m114 (Qao (Xm rfl rfl) (Gf _ _ _ (Zq (Zk (Zy hL.x3 hL.z3) (Zy hL.x3 hL.z3)) (Zk (Zq hL.x3 hL.z3) (Zq hL.x3 hL.z3))) (Zy (Zk (Zy hL.x3 hL.z3) (Zy hL.x3 hL.z3)) (Zk Na (Zq (Zk (Zy hL.x3 hL.z3) (Zy hL.x3 hL.z3)) (Zk (Zq hL.x3 hL.z3) (Zq hL.x3 hL.z3))))))) fun w115 m115 => Vk (Qj (f := i64) (l := Xj (Yx (Xj (Kq ((Qz (Qn ky) (Q8 u) j).x3) ((Qz (Qn ky) (Q8 u) j).z3)) (Kq ((Qz (Qn ky) (Q8 u) j).x3) ((Qz (Qn ky) (Q8 u) j).z3))) (Xj (Yx ((Qz (Qn ky) (Q8 u) j).x3) ((Qz (Qn ky) (Q8 u) j).z3)) (Yx ((Qz (Qn ky) (Q8 u) j).x3) ((Qz (Qn ky) (Q8 u) j).z3)))) (Kq (Xj (Kq ((Qz (Qn ky) (Q8 u) j).x3) ((Qz (Qn ky) (Q8 u) j).z3)) (Kq ((Qz (Qn ky) (Q8 u) j).x3) ((Qz (Qn ky) (Q8 u) j).z3))) (Xj ([56129, 1, 0, 0, 0, 0, 0, 0, 0, 0, 0, 0, 0, 0, 0, 0]) (Yx (Xj (Kq ((Qz (Qn ky) (Q8 u) j).x3) ((Qz (Qn ky) (Q8 u) j).z3)) (Kq ((Qz (Qn ky) (Q8 u) j).x3) ((Qz (Qn ky) (Q8 u) j).z3))) (Xj (Yx ((Qz (Qn ky) (Q8 u) j).x3) ((Qz (Qn ky) (Q8 u) j).z3)) (Yx ((Qz (Qn ky) (Q8 u) j).x3) ((Qz (Qn ky) (Q8 u) j).z3))))))) Z4 Xc s7 rfl sD ((Mem.pick [_, _, _, _, _, _, _, _, _, _, _, _] [_] _ m115)).h0 sZ rfl) ?_
   rintro _ w117 uq117
   have m117 : Mem _ _ [_, _, _, _, _, _, _, _, _, _, _, _, _, _, _, _] := Mem.upd0 (Mem.pick [_, _, _, _, _, _, _, _, _, _, _, _] [_] _ m115) uq117
   refine rN (sR ?_)
   refine Ya s11 <| Qd (Qbu (b := 1#8) rfl rfl) <| rN <| Za rfl hc34 <| sR <| Qd (Qp Yd rfl Xc s8 m117.h3 sZ) <| Qd (Qp Yd rfl Xc s6 m117.h1 sZ) <| Vz m117 (Qj (f := i64) (l := Xj (Kq (Xj (Yx ((Qz (Qn ky) (Q8 u) j).x2) ((Qz (Qn ky) (Q8 u) j).z2)) (Kq ((Qz (Qn ky) (Q8 u) j).x3) ((Qz (Qn ky) (Q8 u) j).z3))) (Xj (Kq ((Qz (Qn ky) (Q8 u) j).x2) ((Qz (Qn ky) (Q8 u) j).z2)) (Yx ((Qz (Qn ky) (Q8 u) j).x3) ((Qz (Qn ky) (Q8 u) j).z3)))) (Kq (Xj (Yx ((Qz (Qn ky) (Q8 u) j).x2) ((Qz (Qn ky) (Q8 u) j).z2)) (Kq ((Qz (Qn ky) (Q8 u) j).x3) ((Qz (Qn ky) (Q8 u) j).z3))) (Xj (Kq ((Qz (Qn ky) (Q8 u) j).x2) ((Qz (Qn ky) (Q8 u) j).z2)) (Yx ((Qz (Qn ky) (Q8 u) j).x3) ((Qz (Qn ky) (Q8 u) j).z3))))) Z4 Xc s6 rfl sD m117.h1 sZ rfl) fun w118 m118 => yqU3 m118 (Qj (f := i64) (l := Xj (Xj (Kq ((Qz (Qn ky) (Q8 u) j).x3) ((Qz (Qn ky) (Q8 u) j).z3)) (Kq ((Qz (Qn ky) (Q8 u) j).x3) ((Qz (Qn ky) (Q8 u) j).z3))) (Xj (Yx ((Qz (Qn ky) (Q8 u) j).x3) ((Qz (Qn ky) (Q8 u) j).z3)) (Yx ((Qz (Qn ky) (Q8 u) j).x3) ((Qz (Qn ky) (Q8 u) j).z3)))) Z4 Xc s8 rfl sD m118.h3 sZ rfl) fun w119 m119 => ?_
   refine rN (Qb ?_)
   refine Qd (Qp Yd rfl Xc s9 m119.h2 sZ) <| Qd (Qp Yd rfl Xc s7 m119.h0 sZ) <| Ye m119 (Qj (f := i64) (l := Xj (Q8 u) (Xj (Yx (Xj (Yx ((Qz (Qn ky) (Q8 u) j).x2) ((Qz (Qn ky) (Q8 u) j).z2)) (Kq ((Qz (Qn ky) (Q8 u) j).x3) ((Qz (Qn ky) (Q8 u) j).z3))) (Xj (Kq ((Qz (Qn ky) (Q8 u) j).x2) ((Qz (Qn ky) (Q8 u) j).z2)) (Yx ((Qz (Qn ky) (Q8 u) j).x3) ((Qz (Qn ky) (Q8 u) j).z3)))) (Yx (Xj (Yx ((Qz (Qn ky) (Q8 u) j).x2) ((Qz (Qn ky) (Q8 u) j).z2)) (Kq ((Qz (Qn ky) (Q8 u) j).x3) ((Qz (Qn ky) (Q8 u) j).z3))) (Xj (Kq ((Qz (Qn ky) (Q8 u) j).x2) ((Qz (Qn ky) (Q8 u) j).z2)) (Yx ((Qz (Qn ky) (Q8 u) j).x3) ((Qz (Qn ky) (Q8 u) j).z3)))))) Z4 Xc s7 rfl sD m119.h0 sZ rfl) fun w120 m120 => Bh m120 (Qj (f := i64) (l := Xj (Yx (Xj (Kq ((Qz (Qn ky) (Q8 u) j).x3) ((Qz (Qn ky) (Q8 u) j).z3)) (Kq ((Qz (Qn ky) (Q8 u) j).x3) ((Qz (Qn ky) (Q8 u) j).z3))) (Xj (Yx ((Qz (Qn ky) (Q8 u) j).x3) ((Qz (Qn ky) (Q8 u) j).z3)) (Yx ((Qz (Qn ky) (Q8 u) j).x3) ((Qz (Qn ky) (Q8 u) j).z3)))) (Kq (Xj (Kq ((Qz (Qn ky) (Q8 u) j).x3) ((Qz (Qn ky) (Q8 u) j).z3)) (Kq ((Qz (Qn ky) (Q8 u) j).x3) ((Qz (Qn ky) (Q8 u) j).z3))) (Xj ([56129, 1, 0, 0, 0, 0, 0, 0, 0, 0, 0, 0, 0, 0, 0, 0]) (Yx (Xj (Kq ((Qz (Qn ky) (Q8 u) j).x3) ((Qz (Qn ky) (Q8 u) j).z3)) (Kq ((Qz (Qn ky) (Q8 u) j).x3) ((Qz (Qn ky) (Q8 u) j).z3))) (Xj (Yx ((Qz (Qn ky) (Q8 u) j).x3) ((Qz (Qn ky) (Q8 u) j).z3)) (Yx ((Qz (Qn ky) (Q8 u) j).x3) ((Qz (Qn ky) (Q8 u) j).z3))))))) Z4 Xc s9 rfl sD m120.h2 sZ rfl) fun w121 m121 => ?_
   refine Zv (Qh (Qb ?_))
   refine Ya s10 <| Qd (Yk (b := 1) rfl rfl oM oM) <| Zz (i64 ((254 - (j : Int)) - 1)) <| rN ?_
   have m122 := Mem.drop [_] _ (Mem.pick [_, _, _, _] [_] _ m121)
   have m123 := Mem.drop [_] _ (Mem.pick [_, _, _, _] [_] _ m122)
   have m124 := Mem.drop [_] _ (Mem.pick [_, _, _, _] [_] _ m123)
   have m125 := Mem.drop [_] _ (Mem.pick [_, _, _, _] [_] _ m124)
   have m126 := Mem.drop [_] _ (Mem.pick [_, _, _, _] [_] _ m125)
   have m127 := Mem.drop [_] _ (Mem.pick [_, _, _, _] [_] _ m126)
   have m128 := Mem.drop [_] _ (Mem.pick [_, _, _, _] [_] _ m127)
   have m129 := Mem.drop [_] _ (Mem.pick [_, _, _, _] [_] _ m128)
   have m130 := Mem.drop [_] _ (Mem.pick [_, _, _, _] [_] _ m129)
   have m131 := (Mem.pick [_, _, _, _, _, _] [_] _ m130)
   have m132 := (Mem.pick [_, _, _, _, _, _] [_] _ m131)
   have m133 := (Mem.pick [_, _, _, _, _, _] [_] _ m132)
   have m134 := (Mem.pick [_, _, _, _, _] [_] _ m133)
   have m135 := (Mem.pick [_, _, _, _, _, _] [_] _ m134)
   have m136 := (Mem.pick [_, _, _, _, _] [_] _ m135)
   have m137 := (Mem.pick [_, _, _, _, _, _] [_] _ m136)
   exact ⟨⟨j + 1, oM, s0, s1, s2, s3, s4, s5, s6, s7, s8, s9, (show i64 (254 - (j : Int) - 1) = i64 (254 - ((j + 1 : Nat) : Int)) from congrArg i64 oM), (by rw [lad16_t (k := (Qn ky)) (x1 := (Q8 u)) (j := j) hc34]; unfold Qag; exact m137)⟩, (by show (RowKit.intOf (i64 (254 - (j : Int) - 1)) + 1).toNat < (RowKit.intOf _ + 1).toNat; rw [z10]; simp only [RowKit.intOf, i64]; omega)⟩
  ·
   have hc34p := ne_of_beq_false hc34
   refine Qs (Qc (Qa ?_))
   refine Kr Xw ?_
   refine Qd9 [12, 13, 14, 15] (dl 12) 16 (luN [(12, 12), (13, 13), (14, 14), (15, 15)]) (luN [(12, 109), (13, 109), (14, 109), (15, 109)]) (luV [(12, (agg i64 (List.replicate 16 0))), (13, (agg i64 (List.replicate 16 0))), (14, (agg i64 (List.replicate 16 0))), (15, (agg i64 (List.replicate 16 0)))]) (fun g => g 0 = (agg u8 ky) ∧ g 1 = (agg u8 u) ∧ g 2 = (ptr b2 0) ∧ g 3 = (ptr b3 0) ∧ g 4 = (ptr b4 0) ∧ g 5 = (ptr b5 0) ∧ g 6 = (ptr b6 0) ∧ g 7 = (ptr b7 0) ∧ g 8 = (ptr b8 0) ∧ g 9 = (ptr b9 0) ∧ g 10 = (i64 (254 - (j : Int))) ∧ g 11 = (u8 ((((Qn ky).getD ((254 - j) / 8) 0) >>> (((254 - j) % 8 : Nat) : Int).toNat) &&& 1#8)) ∧ g 38 = (bl (decide (0 ≤ (254 - (j : Int))))) ∧ g 50 = (bl (((((Qn ky).getD ((254 - j) / 8) 0) >>> (((254 - j) % 8 : Nat) : Int).toNat) &&& 1#8) == 1#8)) ∧ g 57 = (agg i64 (Kq ((Qz (Qn ky) (Q8 u) j).x2) ((Qz (Qn ky) (Q8 u) j).z2))) ∧ g 60 = (agg i64 (Yx ((Qz (Qn ky) (Q8 u) j).x2) ((Qz (Qn ky) (Q8 u) j).z2))) ∧ g 63 = (agg i64 (Kq ((Qz (Qn ky) (Q8 u) j).x3) ((Qz (Qn ky) (Q8 u) j).z3))) ∧ g 66 = (agg i64 (Yx ((Qz (Qn ky) (Q8 u) j).x3) ((Qz (Qn ky) (Q8 u) j).z3))) ∧ True) m32 (Wy ⟨⟨_, _, _, rfl⟩, rfl, _, _, Xc⟩ (Wy ⟨⟨_, _, _, rfl⟩, rfl, _, _, Xc⟩ (Wy ⟨⟨_, _, _, rfl⟩, rfl, _, _, Xc⟩ (Wy ⟨⟨_, _, _, rfl⟩, rfl, _, _, Xc⟩ Su)))) (fun sx138 hS138 => ?_) ?_
   ·skip
    refine Yn rfl (fun _ e' => Qp Yd rfl Xc s6 (m32.ext e').h0 sZ) <| Yn rfl (fun _ e' => Qp Yd rfl Xc s7 (m32.ext e').h1 sZ) <| Vg rfl rfl (fun w139 e139 => oc64 (Xm rfl rfl) (Qbg _ _ _ hL.x2 hL.z2)) <| Yn rfl (fun _ e' => Qp Yd rfl Xc s6 (m32.ext e').h0 sZ) <| Yn rfl (fun _ e' => Qp Yd rfl Xc s7 (m32.ext e').h1 sZ) <| Vg rfl rfl (fun w142 e142 => oc65 (Xm rfl rfl) (Rl _ _ _ hL.x2 hL.z2)) <| Yn rfl (fun _ e' => Qp Yd rfl Xc s8 (m32.ext e').h2 sZ) <| Yn rfl (fun _ e' => Qp Yd rfl Xc s9 (m32.ext e').h3 sZ) <| Vg rfl rfl (fun w145 e145 => oc64 (Xm rfl rfl) (Qbg _ _ _ hL.x3 hL.z3)) <| Yn rfl (fun _ e' => Qp Yd rfl Xc s8 (m32.ext e').h2 sZ) <| Yn rfl (fun _ e' => Qp Yd rfl Xc s9 (m32.ext e').h3 sZ) <| Vg rfl rfl (fun w148 e148 => oc65 (Xm rfl rfl) (Rl _ _ _ hL.x3 hL.z3)) ?_
    exact hS138 _ ⟨s0, s1, s2, s3, s4, s5, s6, s7, s8, s9, s10, rfl, rfl, rfl, rfl, rfl, rfl, rfl, trivial⟩
   rintro g151 ⟨s0, s1, s2, s3, s4, s5, s6, s7, s8, s9, s10, s11, s38, s50, s57, s60, s63, s66, _⟩ w153 ps153 hmm153
   have m153 : Mem _ _ [((ps153 12), .cells (cl i64 (List.replicate 16 0)) 109 (0, 0)), ((ps153 13), .cells (cl i64 (List.replicate 16 0)) 109 (0, 0)), ((ps153 14), .cells (cl i64 (List.replicate 16 0)) 109 (0, 0)), ((ps153 15), .cells (cl i64 (List.replicate 16 0)) 109 (0, 0)), _, _, _, _, _, _, _] := hmm153
   show RW _ _ _ _ _ (upd (upd (upd (upd g151 15 (ptr (ps153 15) 0)) 14 (ptr (ps153 14) 0)) 13 (ptr (ps153 13) 0)) 12 (ptr (ps153 12) 0)) _
   generalize ps153 12 = b12_1, ps153 13 = b13_1, ps153 14 = b14_1, ps153 15 = b15_1 at m153 ⊢
   refine Ye m153 (Qj (f := i64) (l := Kq ((Qz (Qn ky) (Q8 u) j).x2) ((Qz (Qn ky) (Q8 u) j).z2)) Z4 Xc rfl s57 sD m153.h0 sZ rfl) fun w154 m154 => Vz m154 (Qj (f := i64) (l := Yx ((Qz (Qn ky) (Q8 u) j).x2) ((Qz (Qn ky) (Q8 u) j).z2)) Z4 Xc rfl s60 sD m154.h1 sZ rfl) fun w155 m155 => Bh m155 (Qj (f := i64) (l := Kq ((Qz (Qn ky) (Q8 u) j).x3) ((Qz (Qn ky) (Q8 u) j).z3)) Z4 Xc rfl s63 sD m155.h2 sZ rfl) fun w156 m156 => yqU3 m156 (Qj (f := i64) (l := Yx ((Qz (Qn ky) (Q8 u) j).x3) ((Qz (Qn ky) (Q8 u) j).z3)) Z4 Xc rfl s66 sD m156.h3 sZ rfl) fun w157 m157 => ?_
   refine rN (Qa ?_)
   refine Kr Xw ?_
   refine Qd9 [12, 13, 14, 15] (dl 12) 16 (luN [(12, 16), (13, 17), (14, 18), (15, 19)]) (luN [(12, 109), (13, 109), (14, 109), (15, 109)]) (luV [(12, (agg i64 (List.replicate 16 0))), (13, (agg i64 (List.replicate 16 0))), (14, (agg i64 (List.replicate 16 0))), (15, (agg i64 (List.replicate 16 0)))]) (fun g => g 0 = (agg u8 ky) ∧ g 1 = (agg u8 u) ∧ g 2 = (ptr b2 0) ∧ g 3 = (ptr b3 0) ∧ g 4 = (ptr b4 0) ∧ g 5 = (ptr b5 0) ∧ g 6 = (ptr b6 0) ∧ g 7 = (ptr b7 0) ∧ g 8 = (ptr b8 0) ∧ g 9 = (ptr b9 0) ∧ g 10 = (i64 (254 - (j : Int))) ∧ g 11 = (u8 ((((Qn ky).getD ((254 - j) / 8) 0) >>> (((254 - j) % 8 : Nat) : Int).toNat) &&& 1#8)) ∧ g 12 = (ptr b12_1 0) ∧ g 13 = (ptr b13_1 0) ∧ g 14 = (ptr b14_1 0) ∧ g 15 = (ptr b15_1 0) ∧ g 38 = (bl (decide (0 ≤ (254 - (j : Int))))) ∧ g 50 = (bl (((((Qn ky).getD ((254 - j) / 8) 0) >>> (((254 - j) % 8 : Nat) : Int).toNat) &&& 1#8) == 1#8)) ∧ g 69 = (agg i64 (Xj (Yx ((Qz (Qn ky) (Q8 u) j).x3) ((Qz (Qn ky) (Q8 u) j).z3)) (Kq ((Qz (Qn ky) (Q8 u) j).x2) ((Qz (Qn ky) (Q8 u) j).z2)))) ∧ g 72 = (agg i64 (Xj (Kq ((Qz (Qn ky) (Q8 u) j).x3) ((Qz (Qn ky) (Q8 u) j).z3)) (Yx ((Qz (Qn ky) (Q8 u) j).x2) ((Qz (Qn ky) (Q8 u) j).z2)))) ∧ g 75 = (agg i64 (Xj (Kq ((Qz (Qn ky) (Q8 u) j).x2) ((Qz (Qn ky) (Q8 u) j).z2)) (Kq ((Qz (Qn ky) (Q8 u) j).x2) ((Qz (Qn ky) (Q8 u) j).z2)))) ∧ g 78 = (agg i64 (Xj (Yx ((Qz (Qn ky) (Q8 u) j).x2) ((Qz (Qn ky) (Q8 u) j).z2)) (Yx ((Qz (Qn ky) (Q8 u) j).x2) ((Qz (Qn ky) (Q8 u) j).z2)))) ∧ True) m157 (Wy ⟨⟨_, _, _, rfl⟩, rfl, _, _, Xc⟩ (Wy ⟨⟨_, _, _, rfl⟩, rfl, _, _, Xc⟩ (Wy ⟨⟨_, _, _, rfl⟩, rfl, _, _, Xc⟩ (Wy ⟨⟨_, _, _, rfl⟩, rfl, _, _, Xc⟩ Su)))) (fun sx158 hS158 => ?_) ?_
   ·skip
    refine Yn rfl (fun _ e' => Qp Yd rfl Xc rfl (m157.ext e').h3 sZ) <| Yn rfl (fun _ e' => Qp Yd rfl Xc rfl (m157.ext e').h0 sZ) <| Vg rfl rfl (fun w159 e159 => Qao (Xm rfl rfl) (Gf _ _ _ (Zq hL.x3 hL.z3) (Zy hL.x2 hL.z2))) <| Yn rfl (fun _ e' => Qp Yd rfl Xc rfl (m157.ext e').h2 sZ) <| Yn rfl (fun _ e' => Qp Yd rfl Xc rfl (m157.ext e').h1 sZ) <| Vg rfl rfl (fun w162 e162 => Qao (Xm rfl rfl) (Gf _ _ _ (Zy hL.x3 hL.z3) (Zq hL.x2 hL.z2))) <| Yn rfl (fun _ e' => Qp Yd rfl Xc rfl (m157.ext e').h0 sZ) <| Yn rfl (fun _ e' => Qp Yd rfl Xc rfl (m157.ext e').h0 sZ) <| Vg rfl rfl (fun w165 e165 => Qao (Xm rfl rfl) (Gf _ _ _ (Zy hL.x2 hL.z2) (Zy hL.x2 hL.z2))) <| Yn rfl (fun _ e' => Qp Yd rfl Xc rfl (m157.ext e').h1 sZ) <| Yn rfl (fun _ e' => Qp Yd rfl Xc rfl (m157.ext e').h1 sZ) <| Vg rfl rfl (fun w168 e168 => Qao (Xm rfl rfl) (Gf _ _ _ (Zq hL.x2 hL.z2) (Zq hL.x2 hL.z2))) ?_
    exact hS158 _ ⟨s0, s1, s2, s3, s4, s5, s6, s7, s8, s9, s10, s11, rfl, rfl, rfl, rfl, s38, s50, rfl, rfl, rfl, rfl, trivial⟩
   rintro g171 ⟨s0, s1, s2, s3, s4, s5, s6, s7, s8, s9, s10, s11, s12, s13, s14, s15, s38, s50, s69, s72, s75, s78, _⟩ w173 ps173 hmm173
   have m173 : Mem _ _ [((ps173 12), .cells (cl i64 (List.replicate 16 0)) 109 (0, 0)), ((ps173 13), .cells (cl i64 (List.replicate 16 0)) 109 (0, 0)), ((ps173 14), .cells (cl i64 (List.replicate 16 0)) 109 (0, 0)), ((ps173 15), .cells (cl i64 (List.replicate 16 0)) 109 (0, 0)), _, _, _, _, _, _, _, _, _, _, _] := hmm173
   show RW _ _ _ _ _ (upd (upd (upd (upd g171 19 (ptr (ps173 15) 0)) 18 (ptr (ps173 14) 0)) 17 (ptr (ps173 13) 0)) 16 (ptr (ps173 12) 0)) _
   generalize ps173 12 = b16_1, ps173 13 = b17_1, ps173 14 = b18_1, ps173 15 = b19_1 at m173 ⊢
   refine Ye m173 (Qj (f := i64) (l := Xj (Yx ((Qz (Qn ky) (Q8 u) j).x3) ((Qz (Qn ky) (Q8 u) j).z3)) (Kq ((Qz (Qn ky) (Q8 u) j).x2) ((Qz (Qn ky) (Q8 u) j).z2))) Z4 Xc rfl s69 sD m173.h0 sZ rfl) fun w174 m174 => Vz m174 (Qj (f := i64) (l := Xj (Kq ((Qz (Qn ky) (Q8 u) j).x3) ((Qz (Qn ky) (Q8 u) j).z3)) (Yx ((Qz (Qn ky) (Q8 u) j).x2) ((Qz (Qn ky) (Q8 u) j).z2))) Z4 Xc rfl s72 sD m174.h1 sZ rfl) fun w175 m175 => Bh m175 (Qj (f := i64) (l := Xj (Kq ((Qz (Qn ky) (Q8 u) j).x2) ((Qz (Qn ky) (Q8 u) j).z2)) (Kq ((Qz (Qn ky) (Q8 u) j).x2) ((Qz (Qn ky) (Q8 u) j).z2))) Z4 Xc rfl s75 sD m175.h2 sZ rfl) fun w176 m176 => yqU3 m176 (Qj (f := i64) (l := Xj (Yx ((Qz (Qn ky) (Q8 u) j).x2) ((Qz (Qn ky) (Q8 u) j).z2)) (Yx ((Qz (Qn ky) (Q8 u) j).x2) ((Qz (Qn ky) (Q8 u) j).z2))) Z4 Xc rfl s78 sD m176.h3 sZ rfl) fun w177 m177 => ?_
   refine rN (sR ?_)
   refine Qd (Qp Yd rfl Xc rfl m177.h2 sZ) <| Qd (Qp Yd rfl Xc rfl m177.h3 sZ) <| U9 m177 (oc65 (Xm rfl rfl) (Rl _ _ _ (Zk (Zy hL.x2 hL.z2) (Zy hL.x2 hL.z2)) (Zk (Zq hL.x2 hL.z2) (Zq hL.x2 hL.z2)))) fun w178 m178 => Y9 (Zc m178 Xc) fun w180 b20_1 m180 => Ye m180 (Qj (f := i64) (l := Yx (Xj (Kq ((Qz (Qn ky) (Q8 u) j).x2) ((Qz (Qn ky) (Q8 u) j).z2)) (Kq ((Qz (Qn ky) (Q8 u) j).x2) ((Qz (Qn ky) (Q8 u) j).z2))) (Xj (Yx ((Qz (Qn ky) (Q8 u) j).x2) ((Qz (Qn ky) (Q8 u) j).z2)) (Yx ((Qz (Qn ky) (Q8 u) j).x2) ((Qz (Qn ky) (Q8 u) j).z2)))) Z4 Xc rfl rfl sD m180.h0 sZ rfl) fun w181 m181 => ?_
   refine rN (Qa ?_)
   refine Xl (dl 5) 5 Xw <| Yn rfl (fun _ e' => Qp Yd rfl Xc rfl (m181.ext e').h1 sZ) <| Yn rfl (fun _ e' => Qp Yd rfl Xc rfl (m181.ext e').h2 sZ) <| Vg rfl rfl (fun w182 e182 => oc64 (Xm rfl rfl) (Qbg _ _ _ (Zk (Zq hL.x3 hL.z3) (Zy hL.x2 hL.z2)) (Zk (Zy hL.x3 hL.z3) (Zq hL.x2 hL.z2)))) <| Yn rfl (fun _ e' => Qp Yd rfl Xc rfl (m181.ext e').h1 sZ) <| Yn rfl (fun _ e' => Qp Yd rfl Xc rfl (m181.ext e').h2 sZ) <| Gs m181 fun w185 m185 => U9 m185 (oc64 (Xm rfl rfl) (Qbg _ _ _ (Zk (Zq hL.x3 hL.z3) (Zy hL.x2 hL.z2)) (Zk (Zy hL.x3 hL.z3) (Zq hL.x2 hL.z2)))) fun w186 m186 => U9 m186 (Qao (Xm rfl rfl) (Gf _ _ _ (Zy (Zk (Zq hL.x3 hL.z3) (Zy hL.x2 hL.z2)) (Zk (Zy hL.x3 hL.z3) (Zq hL.x2 hL.z2))) (Zy (Zk (Zq hL.x3 hL.z3) (Zy hL.x2 hL.z2)) (Zk (Zy hL.x3 hL.z3) (Zq hL.x2 hL.z2))))) fun w188 m188 => Vk (Qj (f := i64) (l := Xj (Kq (Xj (Yx ((Qz (Qn ky) (Q8 u) j).x3) ((Qz (Qn ky) (Q8 u) j).z3)) (Kq ((Qz (Qn ky) (Q8 u) j).x2) ((Qz (Qn ky) (Q8 u) j).z2))) (Xj (Kq ((Qz (Qn ky) (Q8 u) j).x3) ((Qz (Qn ky) (Q8 u) j).z3)) (Yx ((Qz (Qn ky) (Q8 u) j).x2) ((Qz (Qn ky) (Q8 u) j).z2)))) (Kq (Xj (Yx ((Qz (Qn ky) (Q8 u) j).x3) ((Qz (Qn ky) (Q8 u) j).z3)) (Kq ((Qz (Qn ky) (Q8 u) j).x2) ((Qz (Qn ky) (Q8 u) j).z2))) (Xj (Kq ((Qz (Qn ky) (Q8 u) j).x3) ((Qz (Qn ky) (Q8 u) j).z3)) (Yx ((Qz (Qn ky) (Q8 u) j).x2) ((Qz (Qn ky) (Q8 u) j).z2))))) Z4 Xc s8 rfl sD ((Mem.pick [_, _, _, _, _, _, _, _, _, _, _] [_] _ m188)).h0 sZ rfl) ?_
   rintro _ w190 uq190
   have m190 : Mem _ _ [_, _, _, _, _, _, _, _, _, _, _, _, _, _, _, _] := Mem.upd0 (Mem.pick [_, _, _, _, _, _, _, _, _, _, _] [_] _ m188) uq190
   refine rN (Qa ?_)
   refine Xl (dl 8) 8 Xw <| Yn rfl (fun _ e' => Qp Yd rfl Xc s5 ((Mem.pick [_, _, _, _, _, _, _, _, _, _, _, _, _] [_] _ (m190.ext e'))).h0 sZ) <| Yn rfl (fun _ e' => Qp Yd rfl Xc rfl (m190.ext e').h2 sZ) <| Yn rfl (fun _ e' => Qp Yd rfl Xc rfl (m190.ext e').h3 sZ) <| Vg rfl rfl (fun w191 e191 => oc65 (Xm rfl rfl) (Rl _ _ _ (Zk (Zq hL.x3 hL.z3) (Zy hL.x2 hL.z2)) (Zk (Zy hL.x3 hL.z3) (Zq hL.x2 hL.z2)))) <| Yn rfl (fun _ e' => Qp Yd rfl Xc rfl (m190.ext e').h2 sZ) <| Yn rfl (fun _ e' => Qp Yd rfl Xc rfl (m190.ext e').h3 sZ) <| Vg rfl rfl (fun w194 e194 => oc65 (Xm rfl rfl) (Rl _ _ _ (Zk (Zq hL.x3 hL.z3) (Zy hL.x2 hL.z2)) (Zk (Zy hL.x3 hL.z3) (Zq hL.x2 hL.z2)))) <| Vg rfl rfl (fun w197 e197 => Qao (Xm rfl rfl) (Gf _ _ _ (Zq (Zk (Zq hL.x3 hL.z3) (Zy hL.x2 hL.z2)) (Zk (Zy hL.x3 hL.z3) (Zq hL.x2 hL.z2))) (Zq (Zk (Zq hL.x3 hL.z3) (Zy hL.x2 hL.z2)) (Zk (Zy hL.x3 hL.z3) (Zq hL.x2 hL.z2))))) <| Gs m190 fun w200 m200 => U9 m200 (Qao (Xm rfl rfl) (Gf _ _ _ (Qb9 u) (Zk (Zq (Zk (Zq hL.x3 hL.z3) (Zy hL.x2 hL.z2)) (Zk (Zy hL.x3 hL.z3) (Zq hL.x2 hL.z2))) (Zq (Zk (Zq hL.x3 hL.z3) (Zy hL.x2 hL.z2)) (Zk (Zy hL.x3 hL.z3) (Zq hL.x2 hL.z2)))))) fun w201 m201 => Vk (Qj (f := i64) (l := Xj (Q8 u) (Xj (Yx (Xj (Yx ((Qz (Qn ky) (Q8 u) j).x3) ((Qz (Qn ky) (Q8 u) j).z3)) (Kq ((Qz (Qn ky) (Q8 u) j).x2) ((Qz (Qn ky) (Q8 u) j).z2))) (Xj (Kq ((Qz (Qn ky) (Q8 u) j).x3) ((Qz (Qn ky) (Q8 u) j).z3)) (Yx ((Qz (Qn ky) (Q8 u) j).x2) ((Qz (Qn ky) (Q8 u) j).z2)))) (Yx (Xj (Yx ((Qz (Qn ky) (Q8 u) j).x3) ((Qz (Qn ky) (Q8 u) j).z3)) (Kq ((Qz (Qn ky) (Q8 u) j).x2) ((Qz (Qn ky) (Q8 u) j).z2))) (Xj (Kq ((Qz (Qn ky) (Q8 u) j).x3) ((Qz (Qn ky) (Q8 u) j).z3)) (Yx ((Qz (Qn ky) (Q8 u) j).x2) ((Qz (Qn ky) (Q8 u) j).z2)))))) Z4 Xc s9 rfl sD ((Mem.pick [_, _, _, _, _, _, _, _, _, _, _, _] [_] _ m201)).h0 sZ rfl) ?_
   rintro _ w203 uq203
   have m203 : Mem _ _ [_, _, _, _, _, _, _, _, _, _, _, _, _, _, _, _] := Mem.upd0 (Mem.pick [_, _, _, _, _, _, _, _, _, _, _, _] [_] _ m201) uq203
   refine rN (sR ?_)
   refine Qd (Qp Yd rfl Xc rfl m203.h5 sZ) <| Qd (Qp Yd rfl Xc rfl ((Mem.pick [_, _, _, _, _, _] [_] _ m203)).h0 sZ) <| U9 m203 (Qao (Xm rfl rfl) (Gf _ _ _ (Zk (Zy hL.x2 hL.z2) (Zy hL.x2 hL.z2)) (Zk (Zq hL.x2 hL.z2) (Zq hL.x2 hL.z2)))) fun w204 m204 => Vk (Qj (f := i64) (l := Xj (Xj (Kq ((Qz (Qn ky) (Q8 u) j).x2) ((Qz (Qn ky) (Q8 u) j).z2)) (Kq ((Qz (Qn ky) (Q8 u) j).x2) ((Qz (Qn ky) (Q8 u) j).z2))) (Xj (Yx ((Qz (Qn ky) (Q8 u) j).x2) ((Qz (Qn ky) (Q8 u) j).z2)) (Yx ((Qz (Qn ky) (Q8 u) j).x2) ((Qz (Qn ky) (Q8 u) j).z2)))) Z4 Xc s6 rfl sD ((Mem.pick [_, _, _, _, _, _, _, _, _, _, _] [_] _ m204)).h0 sZ rfl) ?_
   rintro _ w206 uq206
   have m206 : Mem _ _ [_, _, _, _, _, _, _, _, _, _, _, _, _, _, _, _] := Mem.upd0 (Mem.pick [_, _, _, _, _, _, _, _, _, _, _] [_] _ m204) uq206
   refine rN (Qa ?_)
   refine Xl (dl 6) 6 Xw <| Yn rfl (fun _ e' => Qp Yd rfl Xc rfl (m206.ext e').h3 sZ) <| Yn rfl (fun _ e' => Qp Yd rfl Xc rfl ((Mem.pick [_, _, _, _, _, _] [_] _ (m206.ext e'))).h0 sZ) <| Yb rfl (G5 (c := (cl i64 ([56129, 1, 0, 0, 0, 0, 0, 0, 0, 0, 0, 0, 0, 0, 0, 0]))) Xc Yd H6 (J3 (i := 0) (v := (i64 56129)) (cs := #[(i64 56129)]) rfl rfl (J3 (i := 1) (v := (i64 1)) (cs := #[(i64 1)]) rfl rfl V3)) Xw) <| Yn rfl (fun _ e' => Qp Yd rfl Xc rfl (m206.ext e').h3 sZ) <| Vg rfl rfl (fun w207 e207 => Qao (Xm rfl rfl) (Gf _ _ _ Na (Zq (Zk (Zy hL.x2 hL.z2) (Zy hL.x2 hL.z2)) (Zk (Zq hL.x2 hL.z2) (Zq hL.x2 hL.z2))))) <| Vg rfl rfl (fun w210 e210 => oc64 (Xm rfl rfl) (Qbg _ _ _ (Zk (Zy hL.x2 hL.z2) (Zy hL.x2 hL.z2)) (Zk Na (Zq (Zk (Zy hL.x2 hL.z2) (Zy hL.x2 hL.z2)) (Zk (Zq hL.x2 hL.z2) (Zq hL.x2 hL.z2)))))) <| Gs m206 fun w213 m213 => U9 m213 (Qao (Xm rfl rfl) (Gf _ _ _ (Zq (Zk (Zy hL.x2 hL.z2) (Zy hL.x2 hL.z2)) (Zk (Zq hL.x2 hL.z2) (Zq hL.x2 hL.z2))) (Zy (Zk (Zy hL.x2 hL.z2) (Zy hL.x2 hL.z2)) (Zk Na (Zq (Zk (Zy hL.x2 hL.z2) (Zy hL.x2 hL.z2)) (Zk (Zq hL.x2 hL.z2) (Zq hL.x2 hL.z2))))))) fun w214 m214 => Vk (Qj (f := i64) (l := Xj (Yx (Xj (Kq ((Qz (Qn ky) (Q8 u) j).x2) ((Qz (Qn ky) (Q8 u) j).z2)) (Kq ((Qz (Qn ky) (Q8 u) j).x2) ((Qz (Qn ky) (Q8 u) j).z2))) (Xj (Yx ((Qz (Qn ky) (Q8 u) j).x2) ((Qz (Qn ky) (Q8 u) j).z2)) (Yx ((Qz (Qn ky) (Q8 u) j).x2) ((Qz (Qn ky) (Q8 u) j).z2)))) (Kq (Xj (Kq ((Qz (Qn ky) (Q8 u) j).x2) ((Qz (Qn ky) (Q8 u) j).z2)) (Kq ((Qz (Qn ky) (Q8 u) j).x2) ((Qz (Qn ky) (Q8 u) j).z2))) (Xj ([56129, 1, 0, 0, 0, 0, 0, 0, 0, 0, 0, 0, 0, 0, 0, 0]) (Yx (Xj (Kq ((Qz (Qn ky) (Q8 u) j).x2) ((Qz (Qn ky) (Q8 u) j).z2)) (Kq ((Qz (Qn ky) (Q8 u) j).x2) ((Qz (Qn ky) (Q8 u) j).z2))) (Xj (Yx ((Qz (Qn ky) (Q8 u) j).x2) ((Qz (Qn ky) (Q8 u) j).z2)) (Yx ((Qz (Qn ky) (Q8 u) j).x2) ((Qz (Qn ky) (Q8 u) j).z2))))))) Z4 Xc s7 rfl sD ((Mem.pick [_, _, _, _, _, _, _, _, _, _, _, _] [_] _ m214)).h0 sZ rfl) ?_
   rintro _ w216 uq216
   have m216 : Mem _ _ [_, _, _, _, _, _, _, _, _, _, _, _, _, _, _, _] := Mem.upd0 (Mem.pick [_, _, _, _, _, _, _, _, _, _, _, _] [_] _ m214) uq216
   refine rN (sR ?_)
   refine Ya s11 <| Qd (Qbu (b := 1#8) rfl rfl) <| rN <| Yy rfl hc34 ?_
   refine Qs (Qh (Qb ?_))
   refine Ya s10 <| Qd (Yk (b := 1) rfl rfl oM oM) <| Zz (i64 ((254 - (j : Int)) - 1)) <| rN ?_
   have m217 := Mem.drop [_] _ (Mem.pick [_, _, _, _] [_] _ m216)
   have m218 := Mem.drop [_] _ (Mem.pick [_, _, _, _] [_] _ m217)
   have m219 := Mem.drop [_] _ (Mem.pick [_, _, _, _] [_] _ m218)
   have m220 := Mem.drop [_] _ (Mem.pick [_, _, _, _] [_] _ m219)
   have m221 := Mem.drop [_] _ (Mem.pick [_, _, _, _] [_] _ m220)
   have m222 := Mem.drop [_] _ (Mem.pick [_, _, _, _] [_] _ m221)
   have m223 := Mem.drop [_] _ (Mem.pick [_, _, _, _] [_] _ m222)
   have m224 := Mem.drop [_] _ (Mem.pick [_, _, _, _] [_] _ m223)
   have m225 := Mem.drop [_] _ (Mem.pick [_, _, _, _] [_] _ m224)
   have m226 := (Mem.pick [_, _, _, _, _, _] [_] _ m225)
   have m227 := (Mem.pick [_, _, _, _, _, _] [_] _ m226)
   have m228 := (Mem.pick [_, _, _, _, _, _] [_] _ m227)
   have m229 := (Mem.pick [_, _, _, _, _] [_] _ m228)
   have m230 := (Mem.pick [_, _, _, _, _, _] [_] _ m229)
   have m231 := (Mem.pick [_, _, _, _, _] [_] _ m230)
   have m232 := (Mem.pick [_, _, _, _, _, _] [_] _ m231)
   exact ⟨⟨j + 1, oM, s0, s1, s2, s3, s4, s5, s6, s7, s8, s9, (show i64 (254 - (j : Int) - 1) = i64 (254 - ((j + 1 : Nat) : Int)) from congrArg i64 oM), (by rw [lad16_f (k := (Qn ky)) (x1 := (Q8 u)) (j := j) hc34]; unfold Qag; exact m232)⟩, (by show (RowKit.intOf (i64 (254 - (j : Int) - 1)) + 1).toNat < (RowKit.intOf _ + 1).toNat; rw [z10]; simp only [RowKit.intOf, i64]; omega)⟩
 ·
  have hc33p := of_decide_eq_false hc33
  obtain rfl : j = 255 := by omega
  refine X6 ?_
  refine Qm (Qm (Xi ?_))
  refine Qa <| Xl [(0, false), (1, false), (2, false)] 3 Xw <| Yn rfl (fun _ e' => Qp Yd rfl Xc s6 (m32.ext e').h0 sZ) <| Yn rfl (fun _ e' => Qp Yd rfl Xc s7 (m32.ext e').h1 sZ) <| Vg rfl rfl (fun w233 e233 => oc68 (Kt rfl) (c_rinv _ _ hL.z2)) <| Gs m32 fun w236 m236 => U9 m236 (Qao (Xm rfl rfl) (Gf _ _ _ hL.x2 (Py hL.z2 255))) fun w237 m237 => U9 m237 (oc67 (Kt rfl) (c_rwrite _ _ (Zk hL.x2 (Py hL.z2 255)))) fun w239 m239 => Vk (Qj (f := u8) (l := Qci (Xj ((Qz (Qn ky) (Q8 u) 255).x2) (V4 ((Qz (Qn ky) (Q8 u) 255).z2) 255))) Qy Zl s4 rfl sD m239.h5 sZ rfl) ?_
  rintro _ w241 uq241
  have m241 := m239.upd5 uq241
  refine rN (Xb ?_)
  refine Qv [(agg u8 (Qci (Xj ((Qz (Qn ky) (Q8 u) 255).x2) (V4 ((Qz (Qn ky) (Q8 u) 255).z2) 255))))] ⟨⟨_, s4, Xr Xq rfl Zl m241.h5 sZ⟩, trivial⟩ ?_
  exact ⟨by unfold Yt; rfl, m241.toExt⟩
end Go.Proofs.YtkmiemlpfkfiiaaDoor
