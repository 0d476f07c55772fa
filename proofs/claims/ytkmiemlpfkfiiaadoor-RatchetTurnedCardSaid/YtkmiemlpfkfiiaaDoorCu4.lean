/- Contracts: the document's product of a point. Conditions: none beyond those that each theorem states. -/
import Derived.Test.YtkmiemlpfkfiiaaDoorCu3
import Derived.Test.YtkmiemlpfkfiiaaDoorCuO
import Derived.Test.YtkmiemlpfkfiiaaDoorFwR
namespace Go.Proofs.YtkmiemlpfkfiiaaDoor
open List renaming replicate → aA
open List.Mem renaming head → aU, tail → aH
open Mem renaming addOwn → ae, drop → aF, pick → aC, upd0 → bM
open RowKit renaming intOf → aT
open Tryd
set_option linter.unusedVariables false
set_option linter.unusedSimpArgs false
attribute [local irreducible] Xg Jw Yt Vu Qx Qcq Qw Qv Qah Qk Qm Zy Zb U4 D8 Je Qav Zu Jk Yn
set_option maxHeartbeats 2000000 in
theorem Qi5 (ky u : Z4) (w0 : World)  (hk : ky.length = 32) (hu : u.length = 32) : Xz prog 36 #[(agg u8 ky), (agg u8 u)] w0 (fun r w1 => r = (agg u8 (Yn ky u)) ∧ Ext w0 w1) := by
 refine Qz (args := [(agg u8 ky), (agg u8 u)]) func36 rfl ntmps36 results36 rfl ?_
 have m0 : Mem w0 (Qs w0) [] := Mem.of_world w0
 have hcl := Qk5 ky
 refine sR <| Y5 (Z5 (f := u8) (l := ky) m0 rfl) fun w1 b2 m1 => Y5 (Z5 (f := u8) (l := u) m1 rfl) fun w2 b3 m2 => Y5 (Q7 m2 Zh) fun w3 b4 m3 => ?_
 refine rN (sR ?_)
 refine Qd (Xr 0 0 Xn Yr rfl) <| Qd (Qi V3 rfl rfl m3.h2 (Qu _ _ 0 sD)) <| Qd (Que (b := 8#8) rfl rfl Yx) <| Qd (Qug (b := 8#8) rfl rfl) <| Qd (Xr 0 0 Xn Yr rfl) <| Bj m3 (Xw (f := u8) (a := ((ky.getD 0 0) / 8#8) * 8#8) Qr Yr rfl rfl m3.h2 sD (.inl (Nat.zero_le _))) fun w4 m4 => ?_
 refine rN (sR ?_)
 refine Qd (Xr 31 31 Xn Yr rfl) <| Qd (Qi V3 rfl rfl m4.h2 (Qu _ _ 0 sD)) <| Qd (Qud (b := 64#8) rfl rfl Yx) <| Qd (Ql4 (b := 64#8) rfl rfl) <| Qd (Xr 31 31 Xn Yr rfl) <| Bj m4 (Xw (f := u8) (a := (((ky.set 0 (((ky.getD 0 0) / 8#8) * 8#8)).getD 31 0) % 64#8) + 64#8) Qr Yr rfl rfl m4.h2 sD (.inl (Nat.zero_le _))) fun w5 m5 => ?_
 refine rN (Qa ?_)
 have hck : (ky.set 0 (((ky.getD 0 0) / 8#8) * 8#8)).set 31 ((((ky.set 0 (((ky.getD 0 0) / 8#8) * 8#8)).getD 31 0) % 64#8) + 64#8) = Qk ky := by unfold Qk; rfl
 have hmK6 := m5
 rw [hck] at hmK6
 refine Qb <| Qd (Qn Xn rfl Zh rfl hmK6.h1 sZ) <| U5 hmK6 (oc63 (Jz rfl) (c_rread _ _ sD)) fun w7 m7 => Y5 (Q7 m7 Z7) fun w9 b5 m9 => Ye m9 (Qg (f := i64) (l := Qx u) Zw Z7 rfl rfl sD m9.h0 sZ rfl) fun w10 m10 => ?_
 refine rN (Qa ?_)
 refine Jy Xv ?_
 have hFM11 : Mem w10 (Qs w0) ([] ++ [(b5, .cells (cl i64 (Qx u)) 109 (0, 0)), (b4, .cells (cl u8 (aA 32 0)) 23 (0, 0)), (b3, .cells (cl u8 u) 23 (0, 0)), (b2, .cells (cl u8 (Qk ky)) 23 (0, 0))]) := m10
 obtain ⟨RM11, hRM11⟩ : ∃ R2, R2 = Rest.add (Qs w0) [(b5, .cells (cl i64 (Qx u)) 109 (0, 0)), (b4, .cells (cl u8 (aA 32 0)) 23 (0, 0)), (b3, .cells (cl u8 u) 23 (0, 0)), (b2, .cells (cl u8 (Qk ky)) 23 (0, 0))] := ⟨_, rfl⟩
 have M110 : Mem w10 RM11 [] := by rw [hRM11]; exact Mem.give hFM11
 have ho12 : RM11.blk b5 = some (.cells (cl i64 (Qx u)) 109 (0, 0)) := by rw [hRM11]; exact ae hFM11 (aU _)
 have ho13 : RM11.blk b4 = some (.cells (cl u8 (aA 32 0)) 23 (0, 0)) := by rw [hRM11]; exact ae hFM11 (aH _ (aU _))
 have ho14 : RM11.blk b3 = some (.cells (cl u8 u) 23 (0, 0)) := by rw [hRM11]; exact ae hFM11 (aH _ (aH _ (aU _)))
 have ho15 : RM11.blk b2 = some (.cells (cl u8 (Qk ky)) 23 (0, 0)) := by rw [hRM11]; exact ae hFM11 (aH _ (aH _ (aH _ (aU _))))
 refine re_alM [4, 5, 6, 7] (dl 4) [(8, true), (9, true), (10, true)] 11 (luN [(4, 6), (5, 7), (6, 8), (7, 9)]) (luN [(4, 109), (5, 109), (6, 109), (7, 109)]) (luV [(4, (agg i64 (aA 16 0))), (5, (agg i64 (aA 16 0))), (6, (agg i64 (aA 16 0))), (7, (agg i64 (aA 16 0)))]) (fun g => g 0 = (agg u8 ky) ∧ g 1 = (agg u8 u) ∧ g 2 = (ptr b2 0) ∧ g 3 = (ptr b3 0) ∧ g 4 = (ptr b4 0) ∧ g 5 = (ptr b5 0) ∧ g 33 = (agg i64 ([1, 0, 0, 0, 0, 0, 0, 0, 0, 0, 0, 0, 0, 0, 0, 0])) ∧ g 34 = (agg i64 (aA 16 0)) ∧ g 35 = (agg i64 (Qx u)) ∧ g 36 = (agg i64 ([1, 0, 0, 0, 0, 0, 0, 0, 0, 0, 0, 0, 0, 0, 0, 0])) ∧ True) M110 (Wq ⟨⟨_, _, _, rfl⟩, rfl, _, _, Z7⟩ (Wq ⟨⟨_, _, _, rfl⟩, rfl, _, _, Z7⟩ (Wq ⟨⟨_, _, _, rfl⟩, rfl, _, _, Z7⟩ (Wq ⟨⟨_, _, _, rfl⟩, rfl, _, _, Z7⟩ Sz)))) (fun sx16 hS16 => ?_) ?_
 ·skip
  refine N8 rfl (Gq (c := (cl i64 ([1, 0, 0, 0, 0, 0, 0, 0, 0, 0, 0, 0, 0, 0, 0, 0]))) Z7 X6 Hz (Jp (i := 0) (v := (i64 1)) (cs := #[(i64 1)]) rfl rfl Vt) Xv) <| N8 rfl (Ve (ps := []) (c := (cl i64 (aA 16 0))) Z7 X6 Hz Ya rfl) <| yqH rfl (fun w _H _hx => Qn X6 rfl Z7 rfl (_hx.rest _ _ ho12) sZ) <| N8 rfl (Gq (c := (cl i64 ([1, 0, 0, 0, 0, 0, 0, 0, 0, 0, 0, 0, 0, 0, 0, 0]))) Z7 X6 Hz (Jp (i := 0) (v := (i64 1)) (cs := #[(i64 1)]) rfl rfl Vt) Xv) ?_
  exact hS16 _ ⟨rfl, rfl, rfl, rfl, rfl, rfl, rfl, rfl, rfl, rfl, trivial⟩
 rintro g17 ⟨s0, s1, s2, s3, s4, s5, s33, s34, s35, s36, _⟩ w19 ps19 hmm19
 have m19 : Mem _ _ [((ps19 4), .cells (cl i64 (aA 16 0)) 109 (0, 0)), ((ps19 5), .cells (cl i64 (aA 16 0)) 109 (0, 0)), ((ps19 6), .cells (cl i64 (aA 16 0)) 109 (0, 0)), ((ps19 7), .cells (cl i64 (aA 16 0)) 109 (0, 0))] := hmm19
 show DW _ _ _ _ _ _ _ (upd (upd (upd (upd g17 9 (ptr (ps19 7) 0)) 8 (ptr (ps19 6) 0)) 7 (ptr (ps19 5) 0)) 6 (ptr (ps19 4) 0)) _
 generalize ps19 4 = b6, ps19 5 = b7, ps19 6 = b8, ps19 7 = b9 at m19 ⊢
 refine Qhn rfl (fun w20 e20 => ?_)
 have m20 := m19.ext e20
 refine Vf.mono (Qg (f := i64) (l := [1, 0, 0, 0, 0, 0, 0, 0, 0, 0, 0, 0, 0, 0, 0, 0]) Zw Z7 rfl s33 sD m20.h0 sZ rfl) ?_
 rintro _ w21 uq21
 have m21 := m20.upd0 uq21
 refine ⟨⟨_, m21⟩, ?_⟩
 refine Qhn rfl (fun w22 e22 => ?_)
 have m22 := m21.ext e22
 refine Vf.mono (Qg (f := i64) (l := aA 16 0) Zw Z7 rfl s34 sD m22.h1 sZ rfl) ?_
 rintro _ w23 uq23
 have m23 := m22.upd1 uq23
 refine ⟨⟨_, m23⟩, ?_⟩
 refine Qhn rfl (fun w24 e24 => ?_)
 have m24 := m23.ext e24
 refine Vf.mono (Qg (f := i64) (l := Qx u) Zw Z7 rfl s35 sD m24.h2 sZ rfl) ?_
 rintro _ w25 uq25
 have m25 := m24.upd2 uq25
 refine ⟨⟨_, m25⟩, ?_⟩
 refine Gf m25 fun w26 m26 => ?_
 have hX27 := m26
 rw [hRM11] at hX27
 have m28 : Mem w26 (Qs w0) [(b6, .cells (cl i64 ([1, 0, 0, 0, 0, 0, 0, 0, 0, 0, 0, 0, 0, 0, 0, 0])) 109 (0, 0)), (b7, .cells (cl i64 (aA 16 0)) 109 (0, 0)), (b8, .cells (cl i64 (Qx u)) 109 (0, 0)), (b9, .cells (cl i64 (aA 16 0)) 109 (0, 0)), (b5, .cells (cl i64 (Qx u)) 109 (0, 0)), (b4, .cells (cl u8 (aA 32 0)) 23 (0, 0)), (b3, .cells (cl u8 u) 23 (0, 0)), (b2, .cells (cl u8 (Qk ky)) 23 (0, 0))] := ymA (Mem.back hFM11 hX27)
 refine yqU3 m28 (Qg (f := i64) (l := [1, 0, 0, 0, 0, 0, 0, 0, 0, 0, 0, 0, 0, 0, 0, 0]) Zw Z7 rfl s36 sD m28.h3 sZ rfl) fun w29 m29 => ?_
 refine rN (Qa (sR ?_))
 refine Zx (i64 254) ?_
 refine rN (Qh ?_)
 refine Y1 (fun g wv => ∃ (j : Nat), (j ≤ 255) ∧ g 0 = (agg u8 ky) ∧ g 1 = (agg u8 u) ∧ g 2 = (ptr b2 0) ∧ g 3 = (ptr b3 0) ∧ g 4 = (ptr b4 0) ∧ g 5 = (ptr b5 0) ∧ g 6 = (ptr b6 0) ∧ g 7 = (ptr b7 0) ∧ g 8 = (ptr b8 0) ∧ g 9 = (ptr b9 0) ∧ g 10 = (i64 (254 - (j : Int))) ∧ Mem wv (Qs w0) [(b6, .cells (cl i64 ((Qv (Qk ky) (Qx u) j).x2)) 109 (0, 0)), (b7, .cells (cl i64 ((Qv (Qk ky) (Qx u) j).z2)) 109 (0, 0)), (b8, .cells (cl i64 ((Qv (Qk ky) (Qx u) j).x3)) 109 (0, 0)), (b9, .cells (cl i64 ((Qv (Qk ky) (Qx u) j).z3)) 109 (0, 0)), (b5, .cells (cl i64 (Qx u)) 109 (0, 0)), (b4, .cells (cl u8 (aA 32 0)) 23 (0, 0)), (b2, .cells (cl u8 (Qk ky)) 23 (0, 0))]) (fun g wv => (aT (g 10) + 1).toNat) ?_ ?_
 have m30 := aF [_] _ (aC [_, _, _, _, _, _] [_] _ m29)
 ·exact ⟨0, oM, s0, s1, s2, s3, s4, s5, rfl, rfl, rfl, rfl, rfl, (by rw [Qqm]; exact m30)⟩
 rintro fr31 w32 ⟨j, hj, s0, s1, s2, s3, s4, s5, s6, s7, s8, s9, s10, m32⟩
 have z10 := s10
 have hL := Qj4 (Qk ky) (Qcj u) j
 have hLx2 := hL.x2.len
 have hLz2 := hL.z2.len
 have hLx3 := hL.x3.len
 have hLz3 := hL.z3.len
 refine Qa (sR ?_)
 refine X9 s10 <| Qd (Ey (b := 0) rfl rfl) <| rN ?_
 refine Zz rfl (fun hc33 => ?_) (fun hc33 => ?_)
 ·
  have hc33p := of_decide_eq_true hc33
  refine Qo (Qc (Qa (Qh (sR ?_))))
  refine X9 s10 <| Qd (Jv.cast (congrArg i64 (show (254 - (j : Int)) / 8 = (((254 - j) / 8 : Nat) : Int) by omega)) (Um (b := 8) rfl rfl oM oM oM)) <| Qd (Zj (r := ((254 - j) / 8)) oM Xn Yr s2 rfl oM sD) <| Qd (v := (u8 ((Qk ky).getD ((254 - j) / 8) 0))) (Qi V3 rfl rfl ((aC [_, _, _, _, _, _] [_] _ m32)).h0 (Qu _ _ 0 sD)) <| X9 s10 <| Qd (Jv.cast (congrArg i64 (show (254 - (j : Int)) % 8 = (((254 - j) % 8 : Nat) : Int) by omega)) (Wp (b := 8) rfl rfl oM oM oM)) <| Qd (Qhi rfl rfl oM) <| Qd (Qhj (b := 1#8) rfl rfl) <| Tc rfl ?_
  refine rN (Qa (sR ?_))
  refine X9 rfl <| Qd (Qbz (b := 1#8) rfl rfl) <| rN ?_
  refine Zz rfl (fun hc34 => ?_) (fun hc34 => ?_)
  ·
   have hc34p := eq_of_beq hc34
   refine sR <| Qd (Qn X6 rfl Z7 s8 m32.h2 sZ) <| Qd (Qn X6 rfl Z7 s6 m32.h0 sZ) <| Ye m32 (Qg (f := i64) (l := (Qv (Qk ky) (Qx u) j).x3) Zw Z7 s6 rfl sD m32.h0 sZ rfl) fun w35 m35 => Bj m35 (Qg (f := i64) (l := (Qv (Qk ky) (Qx u) j).x2) Zw Z7 s8 rfl sD m35.h2 sZ rfl) fun w36 m36 => ?_
   refine rN (Qb ?_)
   refine Qd (Qn X6 rfl Z7 s9 m36.h3 sZ) <| Qd (Qn X6 rfl Z7 s7 m36.h1 sZ) <| Vs m36 (Qg (f := i64) (l := (Qv (Qk ky) (Qx u) j).z3) Zw Z7 s7 rfl sD m36.h1 sZ rfl) fun w37 m37 => yqU3 m37 (Qg (f := i64) (l := (Qv (Qk ky) (Qx u) j).z2) Zw Z7 s9 rfl sD m37.h3 sZ rfl) fun w38 m38 => ?_
   refine rN (Qa ?_)
   refine Jy Xv ?_
   refine Qeq [12, 13, 14, 15] (dl 12) 16 (luN [(12, 12), (13, 13), (14, 14), (15, 15)]) (luN [(12, 109), (13, 109), (14, 109), (15, 109)]) (luV [(12, (agg i64 (aA 16 0))), (13, (agg i64 (aA 16 0))), (14, (agg i64 (aA 16 0))), (15, (agg i64 (aA 16 0)))]) (fun g => g 0 = (agg u8 ky) ∧ g 1 = (agg u8 u) ∧ g 2 = (ptr b2 0) ∧ g 3 = (ptr b3 0) ∧ g 4 = (ptr b4 0) ∧ g 5 = (ptr b5 0) ∧ g 6 = (ptr b6 0) ∧ g 7 = (ptr b7 0) ∧ g 8 = (ptr b8 0) ∧ g 9 = (ptr b9 0) ∧ g 10 = (i64 (254 - (j : Int))) ∧ g 11 = (u8 ((((Qk ky).getD ((254 - j) / 8) 0) >>> (((254 - j) % 8 : Nat) : Int).toNat) &&& 1#8)) ∧ g 38 = (bl (decide (0 ≤ (254 - (j : Int))))) ∧ g 50 = (bl (((((Qk ky).getD ((254 - j) / 8) 0) >>> (((254 - j) % 8 : Nat) : Int).toNat) &&& 1#8) == 1#8)) ∧ g 57 = (agg i64 (Jw ((Qv (Qk ky) (Qx u) j).x3) ((Qv (Qk ky) (Qx u) j).z3))) ∧ g 60 = (agg i64 (Yt ((Qv (Qk ky) (Qx u) j).x3) ((Qv (Qk ky) (Qx u) j).z3))) ∧ g 63 = (agg i64 (Jw ((Qv (Qk ky) (Qx u) j).x2) ((Qv (Qk ky) (Qx u) j).z2))) ∧ g 66 = (agg i64 (Yt ((Qv (Qk ky) (Qx u) j).x2) ((Qv (Qk ky) (Qx u) j).z2))) ∧ True) m38 (Wq ⟨⟨_, _, _, rfl⟩, rfl, _, _, Z7⟩ (Wq ⟨⟨_, _, _, rfl⟩, rfl, _, _, Z7⟩ (Wq ⟨⟨_, _, _, rfl⟩, rfl, _, _, Z7⟩ (Wq ⟨⟨_, _, _, rfl⟩, rfl, _, _, Z7⟩ Sz)))) (fun sx39 hS39 => ?_) ?_
   ·skip
    refine Yj rfl (fun _ e' => Qn X6 rfl Z7 s6 (m38.ext e').h0 sZ) <| Yj rfl (fun _ e' => Qn X6 rfl Z7 s7 (m38.ext e').h1 sZ) <| Wy rfl rfl (fun w40 e40 => oc64 (Xl rfl rfl) (Qbi _ _ _ hL.x3 hL.z3)) <| Yj rfl (fun _ e' => Qn X6 rfl Z7 s6 (m38.ext e').h0 sZ) <| Yj rfl (fun _ e' => Qn X6 rfl Z7 s7 (m38.ext e').h1 sZ) <| Wy rfl rfl (fun w43 e43 => oc65 (Xl rfl rfl) (Rl _ _ _ hL.x3 hL.z3)) <| Yj rfl (fun _ e' => Qn X6 rfl Z7 s8 (m38.ext e').h2 sZ) <| Yj rfl (fun _ e' => Qn X6 rfl Z7 s9 (m38.ext e').h3 sZ) <| Wy rfl rfl (fun w46 e46 => oc64 (Xl rfl rfl) (Qbi _ _ _ hL.x2 hL.z2)) <| Yj rfl (fun _ e' => Qn X6 rfl Z7 s8 (m38.ext e').h2 sZ) <| Yj rfl (fun _ e' => Qn X6 rfl Z7 s9 (m38.ext e').h3 sZ) <| Wy rfl rfl (fun w49 e49 => oc65 (Xl rfl rfl) (Rl _ _ _ hL.x2 hL.z2)) ?_
    exact hS39 _ ⟨s0, s1, s2, s3, s4, s5, s6, s7, s8, s9, s10, rfl, rfl, rfl, rfl, rfl, rfl, rfl, trivial⟩
   rintro g52 ⟨s0, s1, s2, s3, s4, s5, s6, s7, s8, s9, s10, s11, s38, s50, s57, s60, s63, s66, _⟩ w54 ps54 hmm54
   have m54 : Mem _ _ [((ps54 12), .cells (cl i64 (aA 16 0)) 109 (0, 0)), ((ps54 13), .cells (cl i64 (aA 16 0)) 109 (0, 0)), ((ps54 14), .cells (cl i64 (aA 16 0)) 109 (0, 0)), ((ps54 15), .cells (cl i64 (aA 16 0)) 109 (0, 0)), _, _, _, _, _, _, _] := hmm54
   show RW _ _ _ _ _ (upd (upd (upd (upd g52 15 (ptr (ps54 15) 0)) 14 (ptr (ps54 14) 0)) 13 (ptr (ps54 13) 0)) 12 (ptr (ps54 12) 0)) _
   generalize ps54 12 = b12, ps54 13 = b13, ps54 14 = b14, ps54 15 = b15 at m54 ⊢
   refine Ye m54 (Qg (f := i64) (l := Jw ((Qv (Qk ky) (Qx u) j).x3) ((Qv (Qk ky) (Qx u) j).z3)) Zw Z7 rfl s57 sD m54.h0 sZ rfl) fun w55 m55 => Vs m55 (Qg (f := i64) (l := Yt ((Qv (Qk ky) (Qx u) j).x3) ((Qv (Qk ky) (Qx u) j).z3)) Zw Z7 rfl s60 sD m55.h1 sZ rfl) fun w56 m56 => Bj m56 (Qg (f := i64) (l := Jw ((Qv (Qk ky) (Qx u) j).x2) ((Qv (Qk ky) (Qx u) j).z2)) Zw Z7 rfl s63 sD m56.h2 sZ rfl) fun w57 m57 => yqU3 m57 (Qg (f := i64) (l := Yt ((Qv (Qk ky) (Qx u) j).x2) ((Qv (Qk ky) (Qx u) j).z2)) Zw Z7 rfl s66 sD m57.h3 sZ rfl) fun w58 m58 => ?_
   refine rN (Qa ?_)
   refine Jy Xv ?_
   refine Qeq [12, 13, 14, 15] (dl 12) 16 (luN [(12, 16), (13, 17), (14, 18), (15, 19)]) (luN [(12, 109), (13, 109), (14, 109), (15, 109)]) (luV [(12, (agg i64 (aA 16 0))), (13, (agg i64 (aA 16 0))), (14, (agg i64 (aA 16 0))), (15, (agg i64 (aA 16 0)))]) (fun g => g 0 = (agg u8 ky) ∧ g 1 = (agg u8 u) ∧ g 2 = (ptr b2 0) ∧ g 3 = (ptr b3 0) ∧ g 4 = (ptr b4 0) ∧ g 5 = (ptr b5 0) ∧ g 6 = (ptr b6 0) ∧ g 7 = (ptr b7 0) ∧ g 8 = (ptr b8 0) ∧ g 9 = (ptr b9 0) ∧ g 10 = (i64 (254 - (j : Int))) ∧ g 11 = (u8 ((((Qk ky).getD ((254 - j) / 8) 0) >>> (((254 - j) % 8 : Nat) : Int).toNat) &&& 1#8)) ∧ g 12 = (ptr b12 0) ∧ g 13 = (ptr b13 0) ∧ g 14 = (ptr b14 0) ∧ g 15 = (ptr b15 0) ∧ g 38 = (bl (decide (0 ≤ (254 - (j : Int))))) ∧ g 50 = (bl (((((Qk ky).getD ((254 - j) / 8) 0) >>> (((254 - j) % 8 : Nat) : Int).toNat) &&& 1#8) == 1#8)) ∧ g 69 = (agg i64 (Xg (Yt ((Qv (Qk ky) (Qx u) j).x2) ((Qv (Qk ky) (Qx u) j).z2)) (Jw ((Qv (Qk ky) (Qx u) j).x3) ((Qv (Qk ky) (Qx u) j).z3)))) ∧ g 72 = (agg i64 (Xg (Jw ((Qv (Qk ky) (Qx u) j).x2) ((Qv (Qk ky) (Qx u) j).z2)) (Yt ((Qv (Qk ky) (Qx u) j).x3) ((Qv (Qk ky) (Qx u) j).z3)))) ∧ g 75 = (agg i64 (Xg (Jw ((Qv (Qk ky) (Qx u) j).x3) ((Qv (Qk ky) (Qx u) j).z3)) (Jw ((Qv (Qk ky) (Qx u) j).x3) ((Qv (Qk ky) (Qx u) j).z3)))) ∧ g 78 = (agg i64 (Xg (Yt ((Qv (Qk ky) (Qx u) j).x3) ((Qv (Qk ky) (Qx u) j).z3)) (Yt ((Qv (Qk ky) (Qx u) j).x3) ((Qv (Qk ky) (Qx u) j).z3)))) ∧ True) m58 (Wq ⟨⟨_, _, _, rfl⟩, rfl, _, _, Z7⟩ (Wq ⟨⟨_, _, _, rfl⟩, rfl, _, _, Z7⟩ (Wq ⟨⟨_, _, _, rfl⟩, rfl, _, _, Z7⟩ (Wq ⟨⟨_, _, _, rfl⟩, rfl, _, _, Z7⟩ Sz)))) (fun sx59 hS59 => ?_) ?_
   ·skip
    refine Yj rfl (fun _ e' => Qn X6 rfl Z7 rfl (m58.ext e').h3 sZ) <| Yj rfl (fun _ e' => Qn X6 rfl Z7 rfl (m58.ext e').h0 sZ) <| Wy rfl rfl (fun w60 e60 => Qao (Xl rfl rfl) (Vz _ _ _ (Zk hL.x2 hL.z2) (Zv hL.x3 hL.z3))) <| Yj rfl (fun _ e' => Qn X6 rfl Z7 rfl (m58.ext e').h2 sZ) <| Yj rfl (fun _ e' => Qn X6 rfl Z7 rfl (m58.ext e').h1 sZ) <| Wy rfl rfl (fun w63 e63 => Qao (Xl rfl rfl) (Vz _ _ _ (Zv hL.x2 hL.z2) (Zk hL.x3 hL.z3))) <| Yj rfl (fun _ e' => Qn X6 rfl Z7 rfl (m58.ext e').h0 sZ) <| Yj rfl (fun _ e' => Qn X6 rfl Z7 rfl (m58.ext e').h0 sZ) <| Wy rfl rfl (fun w66 e66 => Qao (Xl rfl rfl) (Vz _ _ _ (Zv hL.x3 hL.z3) (Zv hL.x3 hL.z3))) <| Yj rfl (fun _ e' => Qn X6 rfl Z7 rfl (m58.ext e').h1 sZ) <| Yj rfl (fun _ e' => Qn X6 rfl Z7 rfl (m58.ext e').h1 sZ) <| Wy rfl rfl (fun w69 e69 => Qao (Xl rfl rfl) (Vz _ _ _ (Zk hL.x3 hL.z3) (Zk hL.x3 hL.z3))) ?_
    exact hS59 _ ⟨s0, s1, s2, s3, s4, s5, s6, s7, s8, s9, s10, s11, rfl, rfl, rfl, rfl, s38, s50, rfl, rfl, rfl, rfl, trivial⟩
   rintro g72 ⟨s0, s1, s2, s3, s4, s5, s6, s7, s8, s9, s10, s11, s12, s13, s14, s15, s38, s50, s69, s72, s75, s78, _⟩ w74 ps74 hmm74
   have m74 : Mem _ _ [((ps74 12), .cells (cl i64 (aA 16 0)) 109 (0, 0)), ((ps74 13), .cells (cl i64 (aA 16 0)) 109 (0, 0)), ((ps74 14), .cells (cl i64 (aA 16 0)) 109 (0, 0)), ((ps74 15), .cells (cl i64 (aA 16 0)) 109 (0, 0)), _, _, _, _, _, _, _, _, _, _, _] := hmm74
   show RW _ _ _ _ _ (upd (upd (upd (upd g72 19 (ptr (ps74 15) 0)) 18 (ptr (ps74 14) 0)) 17 (ptr (ps74 13) 0)) 16 (ptr (ps74 12) 0)) _
   generalize ps74 12 = b16, ps74 13 = b17, ps74 14 = b18, ps74 15 = b19 at m74 ⊢
   refine Ye m74 (Qg (f := i64) (l := Xg (Yt ((Qv (Qk ky) (Qx u) j).x2) ((Qv (Qk ky) (Qx u) j).z2)) (Jw ((Qv (Qk ky) (Qx u) j).x3) ((Qv (Qk ky) (Qx u) j).z3))) Zw Z7 rfl s69 sD m74.h0 sZ rfl) fun w75 m75 => Vs m75 (Qg (f := i64) (l := Xg (Jw ((Qv (Qk ky) (Qx u) j).x2) ((Qv (Qk ky) (Qx u) j).z2)) (Yt ((Qv (Qk ky) (Qx u) j).x3) ((Qv (Qk ky) (Qx u) j).z3))) Zw Z7 rfl s72 sD m75.h1 sZ rfl) fun w76 m76 => Bj m76 (Qg (f := i64) (l := Xg (Jw ((Qv (Qk ky) (Qx u) j).x3) ((Qv (Qk ky) (Qx u) j).z3)) (Jw ((Qv (Qk ky) (Qx u) j).x3) ((Qv (Qk ky) (Qx u) j).z3))) Zw Z7 rfl s75 sD m76.h2 sZ rfl) fun w77 m77 => yqU3 m77 (Qg (f := i64) (l := Xg (Yt ((Qv (Qk ky) (Qx u) j).x3) ((Qv (Qk ky) (Qx u) j).z3)) (Yt ((Qv (Qk ky) (Qx u) j).x3) ((Qv (Qk ky) (Qx u) j).z3))) Zw Z7 rfl s78 sD m77.h3 sZ rfl) fun w78 m78 => ?_
   refine rN (sR ?_)
   refine Qd (Qn X6 rfl Z7 rfl m78.h2 sZ) <| Qd (Qn X6 rfl Z7 rfl m78.h3 sZ) <| U5 m78 (oc65 (Xl rfl rfl) (Rl _ _ _ (Zf (Zv hL.x3 hL.z3) (Zv hL.x3 hL.z3)) (Zf (Zk hL.x3 hL.z3) (Zk hL.x3 hL.z3)))) fun w79 m79 => Y5 (Q7 m79 Z7) fun w81 b20 m81 => Ye m81 (Qg (f := i64) (l := Yt (Xg (Jw ((Qv (Qk ky) (Qx u) j).x3) ((Qv (Qk ky) (Qx u) j).z3)) (Jw ((Qv (Qk ky) (Qx u) j).x3) ((Qv (Qk ky) (Qx u) j).z3))) (Xg (Yt ((Qv (Qk ky) (Qx u) j).x3) ((Qv (Qk ky) (Qx u) j).z3)) (Yt ((Qv (Qk ky) (Qx u) j).x3) ((Qv (Qk ky) (Qx u) j).z3)))) Zw Z7 rfl rfl sD m81.h0 sZ rfl) fun w82 m82 => ?_
   refine rN (Qa ?_)
   refine Xi (dl 5) 5 Xv <| Yj rfl (fun _ e' => Qn X6 rfl Z7 rfl (m82.ext e').h1 sZ) <| Yj rfl (fun _ e' => Qn X6 rfl Z7 rfl (m82.ext e').h2 sZ) <| Wy rfl rfl (fun w83 e83 => oc64 (Xl rfl rfl) (Qbi _ _ _ (Zf (Zk hL.x2 hL.z2) (Zv hL.x3 hL.z3)) (Zf (Zv hL.x2 hL.z2) (Zk hL.x3 hL.z3)))) <| Yj rfl (fun _ e' => Qn X6 rfl Z7 rfl (m82.ext e').h1 sZ) <| Yj rfl (fun _ e' => Qn X6 rfl Z7 rfl (m82.ext e').h2 sZ) <| Gf m82 fun w86 m86 => U5 m86 (oc64 (Xl rfl rfl) (Qbi _ _ _ (Zf (Zk hL.x2 hL.z2) (Zv hL.x3 hL.z3)) (Zf (Zv hL.x2 hL.z2) (Zk hL.x3 hL.z3)))) fun w87 m87 => U5 m87 (Qao (Xl rfl rfl) (Vz _ _ _ (Zv (Zf (Zk hL.x2 hL.z2) (Zv hL.x3 hL.z3)) (Zf (Zv hL.x2 hL.z2) (Zk hL.x3 hL.z3))) (Zv (Zf (Zk hL.x2 hL.z2) (Zv hL.x3 hL.z3)) (Zf (Zv hL.x2 hL.z2) (Zk hL.x3 hL.z3))))) fun w89 m89 => Vd (Qg (f := i64) (l := Xg (Jw (Xg (Yt ((Qv (Qk ky) (Qx u) j).x2) ((Qv (Qk ky) (Qx u) j).z2)) (Jw ((Qv (Qk ky) (Qx u) j).x3) ((Qv (Qk ky) (Qx u) j).z3))) (Xg (Jw ((Qv (Qk ky) (Qx u) j).x2) ((Qv (Qk ky) (Qx u) j).z2)) (Yt ((Qv (Qk ky) (Qx u) j).x3) ((Qv (Qk ky) (Qx u) j).z3)))) (Jw (Xg (Yt ((Qv (Qk ky) (Qx u) j).x2) ((Qv (Qk ky) (Qx u) j).z2)) (Jw ((Qv (Qk ky) (Qx u) j).x3) ((Qv (Qk ky) (Qx u) j).z3))) (Xg (Jw ((Qv (Qk ky) (Qx u) j).x2) ((Qv (Qk ky) (Qx u) j).z2)) (Yt ((Qv (Qk ky) (Qx u) j).x3) ((Qv (Qk ky) (Qx u) j).z3))))) Zw Z7 s8 rfl sD ((aC [_, _, _, _, _, _, _, _, _, _, _] [_] _ m89)).h0 sZ rfl) ?_
   rintro _ w91 uq91
   have m91 : Mem _ _ [_, _, _, _, _, _, _, _, _, _, _, _, _, _, _, _] := bM (aC [_, _, _, _, _, _, _, _, _, _, _] [_] _ m89) uq91
   refine rN (Qa ?_)
   refine Xi (dl 8) 8 Xv <| Yj rfl (fun _ e' => Qn X6 rfl Z7 s5 ((aC [_, _, _, _, _, _, _, _, _, _, _, _, _] [_] _ (m91.ext e'))).h0 sZ) <| Yj rfl (fun _ e' => Qn X6 rfl Z7 rfl (m91.ext e').h2 sZ) <| Yj rfl (fun _ e' => Qn X6 rfl Z7 rfl (m91.ext e').h3 sZ) <| Wy rfl rfl (fun w92 e92 => oc65 (Xl rfl rfl) (Rl _ _ _ (Zf (Zk hL.x2 hL.z2) (Zv hL.x3 hL.z3)) (Zf (Zv hL.x2 hL.z2) (Zk hL.x3 hL.z3)))) <| Yj rfl (fun _ e' => Qn X6 rfl Z7 rfl (m91.ext e').h2 sZ) <| Yj rfl (fun _ e' => Qn X6 rfl Z7 rfl (m91.ext e').h3 sZ) <| Wy rfl rfl (fun w95 e95 => oc65 (Xl rfl rfl) (Rl _ _ _ (Zf (Zk hL.x2 hL.z2) (Zv hL.x3 hL.z3)) (Zf (Zv hL.x2 hL.z2) (Zk hL.x3 hL.z3)))) <| Wy rfl rfl (fun w98 e98 => Qao (Xl rfl rfl) (Vz _ _ _ (Zk (Zf (Zk hL.x2 hL.z2) (Zv hL.x3 hL.z3)) (Zf (Zv hL.x2 hL.z2) (Zk hL.x3 hL.z3))) (Zk (Zf (Zk hL.x2 hL.z2) (Zv hL.x3 hL.z3)) (Zf (Zv hL.x2 hL.z2) (Zk hL.x3 hL.z3))))) <| Gf m91 fun w101 m101 => U5 m101 (Qao (Xl rfl rfl) (Vz _ _ _ (Qcj u) (Zf (Zk (Zf (Zk hL.x2 hL.z2) (Zv hL.x3 hL.z3)) (Zf (Zv hL.x2 hL.z2) (Zk hL.x3 hL.z3))) (Zk (Zf (Zk hL.x2 hL.z2) (Zv hL.x3 hL.z3)) (Zf (Zv hL.x2 hL.z2) (Zk hL.x3 hL.z3)))))) fun w102 m102 => Vd (Qg (f := i64) (l := Xg (Qx u) (Xg (Yt (Xg (Yt ((Qv (Qk ky) (Qx u) j).x2) ((Qv (Qk ky) (Qx u) j).z2)) (Jw ((Qv (Qk ky) (Qx u) j).x3) ((Qv (Qk ky) (Qx u) j).z3))) (Xg (Jw ((Qv (Qk ky) (Qx u) j).x2) ((Qv (Qk ky) (Qx u) j).z2)) (Yt ((Qv (Qk ky) (Qx u) j).x3) ((Qv (Qk ky) (Qx u) j).z3)))) (Yt (Xg (Yt ((Qv (Qk ky) (Qx u) j).x2) ((Qv (Qk ky) (Qx u) j).z2)) (Jw ((Qv (Qk ky) (Qx u) j).x3) ((Qv (Qk ky) (Qx u) j).z3))) (Xg (Jw ((Qv (Qk ky) (Qx u) j).x2) ((Qv (Qk ky) (Qx u) j).z2)) (Yt ((Qv (Qk ky) (Qx u) j).x3) ((Qv (Qk ky) (Qx u) j).z3)))))) Zw Z7 s9 rfl sD ((aC [_, _, _, _, _, _, _, _, _, _, _, _] [_] _ m102)).h0 sZ rfl) ?_
   rintro _ w104 uq104
   have m104 : Mem _ _ [_, _, _, _, _, _, _, _, _, _, _, _, _, _, _, _] := bM (aC [_, _, _, _, _, _, _, _, _, _, _, _] [_] _ m102) uq104
   refine rN (sR ?_)
   refine Qd (Qn X6 rfl Z7 rfl m104.h5 sZ) <| Qd (Qn X6 rfl Z7 rfl ((aC [_, _, _, _, _, _] [_] _ m104)).h0 sZ) <| U5 m104 (Qao (Xl rfl rfl) (Vz _ _ _ (Zf (Zv hL.x3 hL.z3) (Zv hL.x3 hL.z3)) (Zf (Zk hL.x3 hL.z3) (Zk hL.x3 hL.z3)))) fun w105 m105 => Vd (Qg (f := i64) (l := Xg (Xg (Jw ((Qv (Qk ky) (Qx u) j).x3) ((Qv (Qk ky) (Qx u) j).z3)) (Jw ((Qv (Qk ky) (Qx u) j).x3) ((Qv (Qk ky) (Qx u) j).z3))) (Xg (Yt ((Qv (Qk ky) (Qx u) j).x3) ((Qv (Qk ky) (Qx u) j).z3)) (Yt ((Qv (Qk ky) (Qx u) j).x3) ((Qv (Qk ky) (Qx u) j).z3)))) Zw Z7 s6 rfl sD ((aC [_, _, _, _, _, _, _, _, _, _, _] [_] _ m105)).h0 sZ rfl) ?_
   rintro _ w107 uq107
   have m107 : Mem _ _ [_, _, _, _, _, _, _, _, _, _, _, _, _, _, _, _] := bM (aC [_, _, _, _, _, _, _, _, _, _, _] [_] _ m105) uq107
   refine rN (Qa ?_)
   refine Xi (dl 6) 6 Xv <| Yj rfl (fun _ e' => Qn X6 rfl Z7 rfl (m107.ext e').h3 sZ) <| Yj rfl (fun _ e' => Qn X6 rfl Z7 rfl ((aC [_, _, _, _, _, _] [_] _ (m107.ext e'))).h0 sZ) <| X4 rfl (Gq (c := (cl i64 ([56129, 1, 0, 0, 0, 0, 0, 0, 0, 0, 0, 0, 0, 0, 0, 0]))) Z7 X6 Hz (Jp (i := 0) (v := (i64 56129)) (cs := #[(i64 56129)]) rfl rfl (Jp (i := 1) (v := (i64 1)) (cs := #[(i64 1)]) rfl rfl Vt)) Xv) <| Yj rfl (fun _ e' => Qn X6 rfl Z7 rfl (m107.ext e').h3 sZ) <| Wy rfl rfl (fun w108 e108 => Qao (Xl rfl rfl) (Vz _ _ _ Na (Zk (Zf (Zv hL.x3 hL.z3) (Zv hL.x3 hL.z3)) (Zf (Zk hL.x3 hL.z3) (Zk hL.x3 hL.z3))))) <| Wy rfl rfl (fun w111 e111 => oc64 (Xl rfl rfl) (Qbi _ _ _ (Zf (Zv hL.x3 hL.z3) (Zv hL.x3 hL.z3)) (Zf Na (Zk (Zf (Zv hL.x3 hL.z3) (Zv hL.x3 hL.z3)) (Zf (Zk hL.x3 hL.z3) (Zk hL.x3 hL.z3)))))) <| Gf m107 fun w114 m114 => U5 m114 (Qao (Xl rfl rfl) (Vz _ _ _ (Zk (Zf (Zv hL.x3 hL.z3) (Zv hL.x3 hL.z3)) (Zf (Zk hL.x3 hL.z3) (Zk hL.x3 hL.z3))) (Zv (Zf (Zv hL.x3 hL.z3) (Zv hL.x3 hL.z3)) (Zf Na (Zk (Zf (Zv hL.x3 hL.z3) (Zv hL.x3 hL.z3)) (Zf (Zk hL.x3 hL.z3) (Zk hL.x3 hL.z3))))))) fun w115 m115 => Vd (Qg (f := i64) (l := Xg (Yt (Xg (Jw ((Qv (Qk ky) (Qx u) j).x3) ((Qv (Qk ky) (Qx u) j).z3)) (Jw ((Qv (Qk ky) (Qx u) j).x3) ((Qv (Qk ky) (Qx u) j).z3))) (Xg (Yt ((Qv (Qk ky) (Qx u) j).x3) ((Qv (Qk ky) (Qx u) j).z3)) (Yt ((Qv (Qk ky) (Qx u) j).x3) ((Qv (Qk ky) (Qx u) j).z3)))) (Jw (Xg (Jw ((Qv (Qk ky) (Qx u) j).x3) ((Qv (Qk ky) (Qx u) j).z3)) (Jw ((Qv (Qk ky) (Qx u) j).x3) ((Qv (Qk ky) (Qx u) j).z3))) (Xg ([56129, 1, 0, 0, 0, 0, 0, 0, 0, 0, 0, 0, 0, 0, 0, 0]) (Yt (Xg (Jw ((Qv (Qk ky) (Qx u) j).x3) ((Qv (Qk ky) (Qx u) j).z3)) (Jw ((Qv (Qk ky) (Qx u) j).x3) ((Qv (Qk ky) (Qx u) j).z3))) (Xg (Yt ((Qv (Qk ky) (Qx u) j).x3) ((Qv (Qk ky) (Qx u) j).z3)) (Yt ((Qv (Qk ky) (Qx u) j).x3) ((Qv (Qk ky) (Qx u) j).z3))))))) Zw Z7 s7 rfl sD ((aC [_, _, _, _, _, _, _, _, _, _, _, _] [_] _ m115)).h0 sZ rfl) ?_
   rintro _ w117 uq117
   have m117 : Mem _ _ [_, _, _, _, _, _, _, _, _, _, _, _, _, _, _, _] := bM (aC [_, _, _, _, _, _, _, _, _, _, _, _] [_] _ m115) uq117
   refine rN (sR ?_)
   refine X9 s11 <| Qd (Qbz (b := 1#8) rfl rfl) <| rN <| Za rfl hc34 <| sR <| Qd (Qn X6 rfl Z7 s8 m117.h3 sZ) <| Qd (Qn X6 rfl Z7 s6 m117.h1 sZ) <| Vs m117 (Qg (f := i64) (l := Xg (Jw (Xg (Yt ((Qv (Qk ky) (Qx u) j).x2) ((Qv (Qk ky) (Qx u) j).z2)) (Jw ((Qv (Qk ky) (Qx u) j).x3) ((Qv (Qk ky) (Qx u) j).z3))) (Xg (Jw ((Qv (Qk ky) (Qx u) j).x2) ((Qv (Qk ky) (Qx u) j).z2)) (Yt ((Qv (Qk ky) (Qx u) j).x3) ((Qv (Qk ky) (Qx u) j).z3)))) (Jw (Xg (Yt ((Qv (Qk ky) (Qx u) j).x2) ((Qv (Qk ky) (Qx u) j).z2)) (Jw ((Qv (Qk ky) (Qx u) j).x3) ((Qv (Qk ky) (Qx u) j).z3))) (Xg (Jw ((Qv (Qk ky) (Qx u) j).x2) ((Qv (Qk ky) (Qx u) j).z2)) (Yt ((Qv (Qk ky) (Qx u) j).x3) ((Qv (Qk ky) (Qx u) j).z3))))) Zw Z7 s6 rfl sD m117.h1 sZ rfl) fun w118 m118 => yqU3 m118 (Qg (f := i64) (l := Xg (Xg (Jw ((Qv (Qk ky) (Qx u) j).x3) ((Qv (Qk ky) (Qx u) j).z3)) (Jw ((Qv (Qk ky) (Qx u) j).x3) ((Qv (Qk ky) (Qx u) j).z3))) (Xg (Yt ((Qv (Qk ky) (Qx u) j).x3) ((Qv (Qk ky) (Qx u) j).z3)) (Yt ((Qv (Qk ky) (Qx u) j).x3) ((Qv (Qk ky) (Qx u) j).z3)))) Zw Z7 s8 rfl sD m118.h3 sZ rfl) fun w119 m119 => ?_
   refine rN (Qb ?_)
   refine Qd (Qn X6 rfl Z7 s9 m119.h2 sZ) <| Qd (Qn X6 rfl Z7 s7 m119.h0 sZ) <| Ye m119 (Qg (f := i64) (l := Xg (Qx u) (Xg (Yt (Xg (Yt ((Qv (Qk ky) (Qx u) j).x2) ((Qv (Qk ky) (Qx u) j).z2)) (Jw ((Qv (Qk ky) (Qx u) j).x3) ((Qv (Qk ky) (Qx u) j).z3))) (Xg (Jw ((Qv (Qk ky) (Qx u) j).x2) ((Qv (Qk ky) (Qx u) j).z2)) (Yt ((Qv (Qk ky) (Qx u) j).x3) ((Qv (Qk ky) (Qx u) j).z3)))) (Yt (Xg (Yt ((Qv (Qk ky) (Qx u) j).x2) ((Qv (Qk ky) (Qx u) j).z2)) (Jw ((Qv (Qk ky) (Qx u) j).x3) ((Qv (Qk ky) (Qx u) j).z3))) (Xg (Jw ((Qv (Qk ky) (Qx u) j).x2) ((Qv (Qk ky) (Qx u) j).z2)) (Yt ((Qv (Qk ky) (Qx u) j).x3) ((Qv (Qk ky) (Qx u) j).z3)))))) Zw Z7 s7 rfl sD m119.h0 sZ rfl) fun w120 m120 => Bj m120 (Qg (f := i64) (l := Xg (Yt (Xg (Jw ((Qv (Qk ky) (Qx u) j).x3) ((Qv (Qk ky) (Qx u) j).z3)) (Jw ((Qv (Qk ky) (Qx u) j).x3) ((Qv (Qk ky) (Qx u) j).z3))) (Xg (Yt ((Qv (Qk ky) (Qx u) j).x3) ((Qv (Qk ky) (Qx u) j).z3)) (Yt ((Qv (Qk ky) (Qx u) j).x3) ((Qv (Qk ky) (Qx u) j).z3)))) (Jw (Xg (Jw ((Qv (Qk ky) (Qx u) j).x3) ((Qv (Qk ky) (Qx u) j).z3)) (Jw ((Qv (Qk ky) (Qx u) j).x3) ((Qv (Qk ky) (Qx u) j).z3))) (Xg ([56129, 1, 0, 0, 0, 0, 0, 0, 0, 0, 0, 0, 0, 0, 0, 0]) (Yt (Xg (Jw ((Qv (Qk ky) (Qx u) j).x3) ((Qv (Qk ky) (Qx u) j).z3)) (Jw ((Qv (Qk ky) (Qx u) j).x3) ((Qv (Qk ky) (Qx u) j).z3))) (Xg (Yt ((Qv (Qk ky) (Qx u) j).x3) ((Qv (Qk ky) (Qx u) j).z3)) (Yt ((Qv (Qk ky) (Qx u) j).x3) ((Qv (Qk ky) (Qx u) j).z3))))))) Zw Z7 s9 rfl sD m120.h2 sZ rfl) fun w121 m121 => ?_
   refine Zp (Qe (Qb ?_))
   refine X9 s10 <| Qd (Yg (b := 1) rfl rfl oM oM) <| Zx (i64 ((254 - (j : Int)) - 1)) <| rN ?_
   have m122 := aF [_] _ (aC [_, _, _, _] [_] _ m121)
   have m123 := aF [_] _ (aC [_, _, _, _] [_] _ m122)
   have m124 := aF [_] _ (aC [_, _, _, _] [_] _ m123)
   have m125 := aF [_] _ (aC [_, _, _, _] [_] _ m124)
   have m126 := aF [_] _ (aC [_, _, _, _] [_] _ m125)
   have m127 := aF [_] _ (aC [_, _, _, _] [_] _ m126)
   have m128 := aF [_] _ (aC [_, _, _, _] [_] _ m127)
   have m129 := aF [_] _ (aC [_, _, _, _] [_] _ m128)
   have m130 := aF [_] _ (aC [_, _, _, _] [_] _ m129)
   have m131 := (aC [_, _, _, _, _, _] [_] _ m130)
   have m132 := (aC [_, _, _, _, _, _] [_] _ m131)
   have m133 := (aC [_, _, _, _, _, _] [_] _ m132)
   have m134 := (aC [_, _, _, _, _] [_] _ m133)
   have m135 := (aC [_, _, _, _, _, _] [_] _ m134)
   have m136 := (aC [_, _, _, _, _] [_] _ m135)
   have m137 := (aC [_, _, _, _, _, _] [_] _ m136)
   exact ⟨⟨j + 1, oM, s0, s1, s2, s3, s4, s5, s6, s7, s8, s9, (show i64 (254 - (j : Int) - 1) = i64 (254 - ((j + 1 : Nat) : Int)) from congrArg i64 oM), (by rw [lad16_t (k := (Qk ky)) (x1 := (Qx u)) (j := j) hc34]; unfold Qah; exact m137)⟩, (by show (aT (i64 (254 - (j : Int) - 1)) + 1).toNat < (aT _ + 1).toNat; rw [z10]; simp only [aT, i64]; omega)⟩
  ·
   have hc34p := ne_of_beq_false hc34
   refine Qo (Qc (Qa ?_))
   refine Jy Xv ?_
   refine Qeq [12, 13, 14, 15] (dl 12) 16 (luN [(12, 12), (13, 13), (14, 14), (15, 15)]) (luN [(12, 109), (13, 109), (14, 109), (15, 109)]) (luV [(12, (agg i64 (aA 16 0))), (13, (agg i64 (aA 16 0))), (14, (agg i64 (aA 16 0))), (15, (agg i64 (aA 16 0)))]) (fun g => g 0 = (agg u8 ky) ∧ g 1 = (agg u8 u) ∧ g 2 = (ptr b2 0) ∧ g 3 = (ptr b3 0) ∧ g 4 = (ptr b4 0) ∧ g 5 = (ptr b5 0) ∧ g 6 = (ptr b6 0) ∧ g 7 = (ptr b7 0) ∧ g 8 = (ptr b8 0) ∧ g 9 = (ptr b9 0) ∧ g 10 = (i64 (254 - (j : Int))) ∧ g 11 = (u8 ((((Qk ky).getD ((254 - j) / 8) 0) >>> (((254 - j) % 8 : Nat) : Int).toNat) &&& 1#8)) ∧ g 38 = (bl (decide (0 ≤ (254 - (j : Int))))) ∧ g 50 = (bl (((((Qk ky).getD ((254 - j) / 8) 0) >>> (((254 - j) % 8 : Nat) : Int).toNat) &&& 1#8) == 1#8)) ∧ g 57 = (agg i64 (Jw ((Qv (Qk ky) (Qx u) j).x2) ((Qv (Qk ky) (Qx u) j).z2))) ∧ g 60 = (agg i64 (Yt ((Qv (Qk ky) (Qx u) j).x2) ((Qv (Qk ky) (Qx u) j).z2))) ∧ g 63 = (agg i64 (Jw ((Qv (Qk ky) (Qx u) j).x3) ((Qv (Qk ky) (Qx u) j).z3))) ∧ g 66 = (agg i64 (Yt ((Qv (Qk ky) (Qx u) j).x3) ((Qv (Qk ky) (Qx u) j).z3))) ∧ True) m32 (Wq ⟨⟨_, _, _, rfl⟩, rfl, _, _, Z7⟩ (Wq ⟨⟨_, _, _, rfl⟩, rfl, _, _, Z7⟩ (Wq ⟨⟨_, _, _, rfl⟩, rfl, _, _, Z7⟩ (Wq ⟨⟨_, _, _, rfl⟩, rfl, _, _, Z7⟩ Sz)))) (fun sx138 hS138 => ?_) ?_
   ·skip
    refine Yj rfl (fun _ e' => Qn X6 rfl Z7 s6 (m32.ext e').h0 sZ) <| Yj rfl (fun _ e' => Qn X6 rfl Z7 s7 (m32.ext e').h1 sZ) <| Wy rfl rfl (fun w139 e139 => oc64 (Xl rfl rfl) (Qbi _ _ _ hL.x2 hL.z2)) <| Yj rfl (fun _ e' => Qn X6 rfl Z7 s6 (m32.ext e').h0 sZ) <| Yj rfl (fun _ e' => Qn X6 rfl Z7 s7 (m32.ext e').h1 sZ) <| Wy rfl rfl (fun w142 e142 => oc65 (Xl rfl rfl) (Rl _ _ _ hL.x2 hL.z2)) <| Yj rfl (fun _ e' => Qn X6 rfl Z7 s8 (m32.ext e').h2 sZ) <| Yj rfl (fun _ e' => Qn X6 rfl Z7 s9 (m32.ext e').h3 sZ) <| Wy rfl rfl (fun w145 e145 => oc64 (Xl rfl rfl) (Qbi _ _ _ hL.x3 hL.z3)) <| Yj rfl (fun _ e' => Qn X6 rfl Z7 s8 (m32.ext e').h2 sZ) <| Yj rfl (fun _ e' => Qn X6 rfl Z7 s9 (m32.ext e').h3 sZ) <| Wy rfl rfl (fun w148 e148 => oc65 (Xl rfl rfl) (Rl _ _ _ hL.x3 hL.z3)) ?_
    exact hS138 _ ⟨s0, s1, s2, s3, s4, s5, s6, s7, s8, s9, s10, rfl, rfl, rfl, rfl, rfl, rfl, rfl, trivial⟩
   rintro g151 ⟨s0, s1, s2, s3, s4, s5, s6, s7, s8, s9, s10, s11, s38, s50, s57, s60, s63, s66, _⟩ w153 ps153 hmm153
   have m153 : Mem _ _ [((ps153 12), .cells (cl i64 (aA 16 0)) 109 (0, 0)), ((ps153 13), .cells (cl i64 (aA 16 0)) 109 (0, 0)), ((ps153 14), .cells (cl i64 (aA 16 0)) 109 (0, 0)), ((ps153 15), .cells (cl i64 (aA 16 0)) 109 (0, 0)), _, _, _, _, _, _, _] := hmm153
   show RW _ _ _ _ _ (upd (upd (upd (upd g151 15 (ptr (ps153 15) 0)) 14 (ptr (ps153 14) 0)) 13 (ptr (ps153 13) 0)) 12 (ptr (ps153 12) 0)) _
   generalize ps153 12 = b12_1, ps153 13 = b13_1, ps153 14 = b14_1, ps153 15 = b15_1 at m153 ⊢
   refine Ye m153 (Qg (f := i64) (l := Jw ((Qv (Qk ky) (Qx u) j).x2) ((Qv (Qk ky) (Qx u) j).z2)) Zw Z7 rfl s57 sD m153.h0 sZ rfl) fun w154 m154 => Vs m154 (Qg (f := i64) (l := Yt ((Qv (Qk ky) (Qx u) j).x2) ((Qv (Qk ky) (Qx u) j).z2)) Zw Z7 rfl s60 sD m154.h1 sZ rfl) fun w155 m155 => Bj m155 (Qg (f := i64) (l := Jw ((Qv (Qk ky) (Qx u) j).x3) ((Qv (Qk ky) (Qx u) j).z3)) Zw Z7 rfl s63 sD m155.h2 sZ rfl) fun w156 m156 => yqU3 m156 (Qg (f := i64) (l := Yt ((Qv (Qk ky) (Qx u) j).x3) ((Qv (Qk ky) (Qx u) j).z3)) Zw Z7 rfl s66 sD m156.h3 sZ rfl) fun w157 m157 => ?_
   refine rN (Qa ?_)
   refine Jy Xv ?_
   refine Qeq [12, 13, 14, 15] (dl 12) 16 (luN [(12, 16), (13, 17), (14, 18), (15, 19)]) (luN [(12, 109), (13, 109), (14, 109), (15, 109)]) (luV [(12, (agg i64 (aA 16 0))), (13, (agg i64 (aA 16 0))), (14, (agg i64 (aA 16 0))), (15, (agg i64 (aA 16 0)))]) (fun g => g 0 = (agg u8 ky) ∧ g 1 = (agg u8 u) ∧ g 2 = (ptr b2 0) ∧ g 3 = (ptr b3 0) ∧ g 4 = (ptr b4 0) ∧ g 5 = (ptr b5 0) ∧ g 6 = (ptr b6 0) ∧ g 7 = (ptr b7 0) ∧ g 8 = (ptr b8 0) ∧ g 9 = (ptr b9 0) ∧ g 10 = (i64 (254 - (j : Int))) ∧ g 11 = (u8 ((((Qk ky).getD ((254 - j) / 8) 0) >>> (((254 - j) % 8 : Nat) : Int).toNat) &&& 1#8)) ∧ g 12 = (ptr b12_1 0) ∧ g 13 = (ptr b13_1 0) ∧ g 14 = (ptr b14_1 0) ∧ g 15 = (ptr b15_1 0) ∧ g 38 = (bl (decide (0 ≤ (254 - (j : Int))))) ∧ g 50 = (bl (((((Qk ky).getD ((254 - j) / 8) 0) >>> (((254 - j) % 8 : Nat) : Int).toNat) &&& 1#8) == 1#8)) ∧ g 69 = (agg i64 (Xg (Yt ((Qv (Qk ky) (Qx u) j).x3) ((Qv (Qk ky) (Qx u) j).z3)) (Jw ((Qv (Qk ky) (Qx u) j).x2) ((Qv (Qk ky) (Qx u) j).z2)))) ∧ g 72 = (agg i64 (Xg (Jw ((Qv (Qk ky) (Qx u) j).x3) ((Qv (Qk ky) (Qx u) j).z3)) (Yt ((Qv (Qk ky) (Qx u) j).x2) ((Qv (Qk ky) (Qx u) j).z2)))) ∧ g 75 = (agg i64 (Xg (Jw ((Qv (Qk ky) (Qx u) j).x2) ((Qv (Qk ky) (Qx u) j).z2)) (Jw ((Qv (Qk ky) (Qx u) j).x2) ((Qv (Qk ky) (Qx u) j).z2)))) ∧ g 78 = (agg i64 (Xg (Yt ((Qv (Qk ky) (Qx u) j).x2) ((Qv (Qk ky) (Qx u) j).z2)) (Yt ((Qv (Qk ky) (Qx u) j).x2) ((Qv (Qk ky) (Qx u) j).z2)))) ∧ True) m157 (Wq ⟨⟨_, _, _, rfl⟩, rfl, _, _, Z7⟩ (Wq ⟨⟨_, _, _, rfl⟩, rfl, _, _, Z7⟩ (Wq ⟨⟨_, _, _, rfl⟩, rfl, _, _, Z7⟩ (Wq ⟨⟨_, _, _, rfl⟩, rfl, _, _, Z7⟩ Sz)))) (fun sx158 hS158 => ?_) ?_
   ·skip
    refine Yj rfl (fun _ e' => Qn X6 rfl Z7 rfl (m157.ext e').h3 sZ) <| Yj rfl (fun _ e' => Qn X6 rfl Z7 rfl (m157.ext e').h0 sZ) <| Wy rfl rfl (fun w159 e159 => Qao (Xl rfl rfl) (Vz _ _ _ (Zk hL.x3 hL.z3) (Zv hL.x2 hL.z2))) <| Yj rfl (fun _ e' => Qn X6 rfl Z7 rfl (m157.ext e').h2 sZ) <| Yj rfl (fun _ e' => Qn X6 rfl Z7 rfl (m157.ext e').h1 sZ) <| Wy rfl rfl (fun w162 e162 => Qao (Xl rfl rfl) (Vz _ _ _ (Zv hL.x3 hL.z3) (Zk hL.x2 hL.z2))) <| Yj rfl (fun _ e' => Qn X6 rfl Z7 rfl (m157.ext e').h0 sZ) <| Yj rfl (fun _ e' => Qn X6 rfl Z7 rfl (m157.ext e').h0 sZ) <| Wy rfl rfl (fun w165 e165 => Qao (Xl rfl rfl) (Vz _ _ _ (Zv hL.x2 hL.z2) (Zv hL.x2 hL.z2))) <| Yj rfl (fun _ e' => Qn X6 rfl Z7 rfl (m157.ext e').h1 sZ) <| Yj rfl (fun _ e' => Qn X6 rfl Z7 rfl (m157.ext e').h1 sZ) <| Wy rfl rfl (fun w168 e168 => Qao (Xl rfl rfl) (Vz _ _ _ (Zk hL.x2 hL.z2) (Zk hL.x2 hL.z2))) ?_
    exact hS158 _ ⟨s0, s1, s2, s3, s4, s5, s6, s7, s8, s9, s10, s11, rfl, rfl, rfl, rfl, s38, s50, rfl, rfl, rfl, rfl, trivial⟩
   rintro g171 ⟨s0, s1, s2, s3, s4, s5, s6, s7, s8, s9, s10, s11, s12, s13, s14, s15, s38, s50, s69, s72, s75, s78, _⟩ w173 ps173 hmm173
   have m173 : Mem _ _ [((ps173 12), .cells (cl i64 (aA 16 0)) 109 (0, 0)), ((ps173 13), .cells (cl i64 (aA 16 0)) 109 (0, 0)), ((ps173 14), .cells (cl i64 (aA 16 0)) 109 (0, 0)), ((ps173 15), .cells (cl i64 (aA 16 0)) 109 (0, 0)), _, _, _, _, _, _, _, _, _, _, _] := hmm173
   show RW _ _ _ _ _ (upd (upd (upd (upd g171 19 (ptr (ps173 15) 0)) 18 (ptr (ps173 14) 0)) 17 (ptr (ps173 13) 0)) 16 (ptr (ps173 12) 0)) _
   generalize ps173 12 = b16_1, ps173 13 = b17_1, ps173 14 = b18_1, ps173 15 = b19_1 at m173 ⊢
   refine Ye m173 (Qg (f := i64) (l := Xg (Yt ((Qv (Qk ky) (Qx u) j).x3) ((Qv (Qk ky) (Qx u) j).z3)) (Jw ((Qv (Qk ky) (Qx u) j).x2) ((Qv (Qk ky) (Qx u) j).z2))) Zw Z7 rfl s69 sD m173.h0 sZ rfl) fun w174 m174 => Vs m174 (Qg (f := i64) (l := Xg (Jw ((Qv (Qk ky) (Qx u) j).x3) ((Qv (Qk ky) (Qx u) j).z3)) (Yt ((Qv (Qk ky) (Qx u) j).x2) ((Qv (Qk ky) (Qx u) j).z2))) Zw Z7 rfl s72 sD m174.h1 sZ rfl) fun w175 m175 => Bj m175 (Qg (f := i64) (l := Xg (Jw ((Qv (Qk ky) (Qx u) j).x2) ((Qv (Qk ky) (Qx u) j).z2)) (Jw ((Qv (Qk ky) (Qx u) j).x2) ((Qv (Qk ky) (Qx u) j).z2))) Zw Z7 rfl s75 sD m175.h2 sZ rfl) fun w176 m176 => yqU3 m176 (Qg (f := i64) (l := Xg (Yt ((Qv (Qk ky) (Qx u) j).x2) ((Qv (Qk ky) (Qx u) j).z2)) (Yt ((Qv (Qk ky) (Qx u) j).x2) ((Qv (Qk ky) (Qx u) j).z2))) Zw Z7 rfl s78 sD m176.h3 sZ rfl) fun w177 m177 => ?_
   refine rN (sR ?_)
   refine Qd (Qn X6 rfl Z7 rfl m177.h2 sZ) <| Qd (Qn X6 rfl Z7 rfl m177.h3 sZ) <| U5 m177 (oc65 (Xl rfl rfl) (Rl _ _ _ (Zf (Zv hL.x2 hL.z2) (Zv hL.x2 hL.z2)) (Zf (Zk hL.x2 hL.z2) (Zk hL.x2 hL.z2)))) fun w178 m178 => Y5 (Q7 m178 Z7) fun w180 b20_1 m180 => Ye m180 (Qg (f := i64) (l := Yt (Xg (Jw ((Qv (Qk ky) (Qx u) j).x2) ((Qv (Qk ky) (Qx u) j).z2)) (Jw ((Qv (Qk ky) (Qx u) j).x2) ((Qv (Qk ky) (Qx u) j).z2))) (Xg (Yt ((Qv (Qk ky) (Qx u) j).x2) ((Qv (Qk ky) (Qx u) j).z2)) (Yt ((Qv (Qk ky) (Qx u) j).x2) ((Qv (Qk ky) (Qx u) j).z2)))) Zw Z7 rfl rfl sD m180.h0 sZ rfl) fun w181 m181 => ?_
   refine rN (Qa ?_)
   refine Xi (dl 5) 5 Xv <| Yj rfl (fun _ e' => Qn X6 rfl Z7 rfl (m181.ext e').h1 sZ) <| Yj rfl (fun _ e' => Qn X6 rfl Z7 rfl (m181.ext e').h2 sZ) <| Wy rfl rfl (fun w182 e182 => oc64 (Xl rfl rfl) (Qbi _ _ _ (Zf (Zk hL.x3 hL.z3) (Zv hL.x2 hL.z2)) (Zf (Zv hL.x3 hL.z3) (Zk hL.x2 hL.z2)))) <| Yj rfl (fun _ e' => Qn X6 rfl Z7 rfl (m181.ext e').h1 sZ) <| Yj rfl (fun _ e' => Qn X6 rfl Z7 rfl (m181.ext e').h2 sZ) <| Gf m181 fun w185 m185 => U5 m185 (oc64 (Xl rfl rfl) (Qbi _ _ _ (Zf (Zk hL.x3 hL.z3) (Zv hL.x2 hL.z2)) (Zf (Zv hL.x3 hL.z3) (Zk hL.x2 hL.z2)))) fun w186 m186 => U5 m186 (Qao (Xl rfl rfl) (Vz _ _ _ (Zv (Zf (Zk hL.x3 hL.z3) (Zv hL.x2 hL.z2)) (Zf (Zv hL.x3 hL.z3) (Zk hL.x2 hL.z2))) (Zv (Zf (Zk hL.x3 hL.z3) (Zv hL.x2 hL.z2)) (Zf (Zv hL.x3 hL.z3) (Zk hL.x2 hL.z2))))) fun w188 m188 => Vd (Qg (f := i64) (l := Xg (Jw (Xg (Yt ((Qv (Qk ky) (Qx u) j).x3) ((Qv (Qk ky) (Qx u) j).z3)) (Jw ((Qv (Qk ky) (Qx u) j).x2) ((Qv (Qk ky) (Qx u) j).z2))) (Xg (Jw ((Qv (Qk ky) (Qx u) j).x3) ((Qv (Qk ky) (Qx u) j).z3)) (Yt ((Qv (Qk ky) (Qx u) j).x2) ((Qv (Qk ky) (Qx u) j).z2)))) (Jw (Xg (Yt ((Qv (Qk ky) (Qx u) j).x3) ((Qv (Qk ky) (Qx u) j).z3)) (Jw ((Qv (Qk ky) (Qx u) j).x2) ((Qv (Qk ky) (Qx u) j).z2))) (Xg (Jw ((Qv (Qk ky) (Qx u) j).x3) ((Qv (Qk ky) (Qx u) j).z3)) (Yt ((Qv (Qk ky) (Qx u) j).x2) ((Qv (Qk ky) (Qx u) j).z2))))) Zw Z7 s8 rfl sD ((aC [_, _, _, _, _, _, _, _, _, _, _] [_] _ m188)).h0 sZ rfl) ?_
   rintro _ w190 uq190
   have m190 : Mem _ _ [_, _, _, _, _, _, _, _, _, _, _, _, _, _, _, _] := bM (aC [_, _, _, _, _, _, _, _, _, _, _] [_] _ m188) uq190
   refine rN (Qa ?_)
   refine Xi (dl 8) 8 Xv <| Yj rfl (fun _ e' => Qn X6 rfl Z7 s5 ((aC [_, _, _, _, _, _, _, _, _, _, _, _, _] [_] _ (m190.ext e'))).h0 sZ) <| Yj rfl (fun _ e' => Qn X6 rfl Z7 rfl (m190.ext e').h2 sZ) <| Yj rfl (fun _ e' => Qn X6 rfl Z7 rfl (m190.ext e').h3 sZ) <| Wy rfl rfl (fun w191 e191 => oc65 (Xl rfl rfl) (Rl _ _ _ (Zf (Zk hL.x3 hL.z3) (Zv hL.x2 hL.z2)) (Zf (Zv hL.x3 hL.z3) (Zk hL.x2 hL.z2)))) <| Yj rfl (fun _ e' => Qn X6 rfl Z7 rfl (m190.ext e').h2 sZ) <| Yj rfl (fun _ e' => Qn X6 rfl Z7 rfl (m190.ext e').h3 sZ) <| Wy rfl rfl (fun w194 e194 => oc65 (Xl rfl rfl) (Rl _ _ _ (Zf (Zk hL.x3 hL.z3) (Zv hL.x2 hL.z2)) (Zf (Zv hL.x3 hL.z3) (Zk hL.x2 hL.z2)))) <| Wy rfl rfl (fun w197 e197 => Qao (Xl rfl rfl) (Vz _ _ _ (Zk (Zf (Zk hL.x3 hL.z3) (Zv hL.x2 hL.z2)) (Zf (Zv hL.x3 hL.z3) (Zk hL.x2 hL.z2))) (Zk (Zf (Zk hL.x3 hL.z3) (Zv hL.x2 hL.z2)) (Zf (Zv hL.x3 hL.z3) (Zk hL.x2 hL.z2))))) <| Gf m190 fun w200 m200 => U5 m200 (Qao (Xl rfl rfl) (Vz _ _ _ (Qcj u) (Zf (Zk (Zf (Zk hL.x3 hL.z3) (Zv hL.x2 hL.z2)) (Zf (Zv hL.x3 hL.z3) (Zk hL.x2 hL.z2))) (Zk (Zf (Zk hL.x3 hL.z3) (Zv hL.x2 hL.z2)) (Zf (Zv hL.x3 hL.z3) (Zk hL.x2 hL.z2)))))) fun w201 m201 => Vd (Qg (f := i64) (l := Xg (Qx u) (Xg (Yt (Xg (Yt ((Qv (Qk ky) (Qx u) j).x3) ((Qv (Qk ky) (Qx u) j).z3)) (Jw ((Qv (Qk ky) (Qx u) j).x2) ((Qv (Qk ky) (Qx u) j).z2))) (Xg (Jw ((Qv (Qk ky) (Qx u) j).x3) ((Qv (Qk ky) (Qx u) j).z3)) (Yt ((Qv (Qk ky) (Qx u) j).x2) ((Qv (Qk ky) (Qx u) j).z2)))) (Yt (Xg (Yt ((Qv (Qk ky) (Qx u) j).x3) ((Qv (Qk ky) (Qx u) j).z3)) (Jw ((Qv (Qk ky) (Qx u) j).x2) ((Qv (Qk ky) (Qx u) j).z2))) (Xg (Jw ((Qv (Qk ky) (Qx u) j).x3) ((Qv (Qk ky) (Qx u) j).z3)) (Yt ((Qv (Qk ky) (Qx u) j).x2) ((Qv (Qk ky) (Qx u) j).z2)))))) Zw Z7 s9 rfl sD ((aC [_, _, _, _, _, _, _, _, _, _, _, _] [_] _ m201)).h0 sZ rfl) ?_
   rintro _ w203 uq203
   have m203 : Mem _ _ [_, _, _, _, _, _, _, _, _, _, _, _, _, _, _, _] := bM (aC [_, _, _, _, _, _, _, _, _, _, _, _] [_] _ m201) uq203
   refine rN (sR ?_)
   refine Qd (Qn X6 rfl Z7 rfl m203.h5 sZ) <| Qd (Qn X6 rfl Z7 rfl ((aC [_, _, _, _, _, _] [_] _ m203)).h0 sZ) <| U5 m203 (Qao (Xl rfl rfl) (Vz _ _ _ (Zf (Zv hL.x2 hL.z2) (Zv hL.x2 hL.z2)) (Zf (Zk hL.x2 hL.z2) (Zk hL.x2 hL.z2)))) fun w204 m204 => Vd (Qg (f := i64) (l := Xg (Xg (Jw ((Qv (Qk ky) (Qx u) j).x2) ((Qv (Qk ky) (Qx u) j).z2)) (Jw ((Qv (Qk ky) (Qx u) j).x2) ((Qv (Qk ky) (Qx u) j).z2))) (Xg (Yt ((Qv (Qk ky) (Qx u) j).x2) ((Qv (Qk ky) (Qx u) j).z2)) (Yt ((Qv (Qk ky) (Qx u) j).x2) ((Qv (Qk ky) (Qx u) j).z2)))) Zw Z7 s6 rfl sD ((aC [_, _, _, _, _, _, _, _, _, _, _] [_] _ m204)).h0 sZ rfl) ?_
   rintro _ w206 uq206
   have m206 : Mem _ _ [_, _, _, _, _, _, _, _, _, _, _, _, _, _, _, _] := bM (aC [_, _, _, _, _, _, _, _, _, _, _] [_] _ m204) uq206
   refine rN (Qa ?_)
   refine Xi (dl 6) 6 Xv <| Yj rfl (fun _ e' => Qn X6 rfl Z7 rfl (m206.ext e').h3 sZ) <| Yj rfl (fun _ e' => Qn X6 rfl Z7 rfl ((aC [_, _, _, _, _, _] [_] _ (m206.ext e'))).h0 sZ) <| X4 rfl (Gq (c := (cl i64 ([56129, 1, 0, 0, 0, 0, 0, 0, 0, 0, 0, 0, 0, 0, 0, 0]))) Z7 X6 Hz (Jp (i := 0) (v := (i64 56129)) (cs := #[(i64 56129)]) rfl rfl (Jp (i := 1) (v := (i64 1)) (cs := #[(i64 1)]) rfl rfl Vt)) Xv) <| Yj rfl (fun _ e' => Qn X6 rfl Z7 rfl (m206.ext e').h3 sZ) <| Wy rfl rfl (fun w207 e207 => Qao (Xl rfl rfl) (Vz _ _ _ Na (Zk (Zf (Zv hL.x2 hL.z2) (Zv hL.x2 hL.z2)) (Zf (Zk hL.x2 hL.z2) (Zk hL.x2 hL.z2))))) <| Wy rfl rfl (fun w210 e210 => oc64 (Xl rfl rfl) (Qbi _ _ _ (Zf (Zv hL.x2 hL.z2) (Zv hL.x2 hL.z2)) (Zf Na (Zk (Zf (Zv hL.x2 hL.z2) (Zv hL.x2 hL.z2)) (Zf (Zk hL.x2 hL.z2) (Zk hL.x2 hL.z2)))))) <| Gf m206 fun w213 m213 => U5 m213 (Qao (Xl rfl rfl) (Vz _ _ _ (Zk (Zf (Zv hL.x2 hL.z2) (Zv hL.x2 hL.z2)) (Zf (Zk hL.x2 hL.z2) (Zk hL.x2 hL.z2))) (Zv (Zf (Zv hL.x2 hL.z2) (Zv hL.x2 hL.z2)) (Zf Na (Zk (Zf (Zv hL.x2 hL.z2) (Zv hL.x2 hL.z2)) (Zf (Zk hL.x2 hL.z2) (Zk hL.x2 hL.z2))))))) fun w214 m214 => Vd (Qg (f := i64) (l := Xg (Yt (Xg (Jw ((Qv (Qk ky) (Qx u) j).x2) ((Qv (Qk ky) (Qx u) j).z2)) (Jw ((Qv (Qk ky) (Qx u) j).x2) ((Qv (Qk ky) (Qx u) j).z2))) (Xg (Yt ((Qv (Qk ky) (Qx u) j).x2) ((Qv (Qk ky) (Qx u) j).z2)) (Yt ((Qv (Qk ky) (Qx u) j).x2) ((Qv (Qk ky) (Qx u) j).z2)))) (Jw (Xg (Jw ((Qv (Qk ky) (Qx u) j).x2) ((Qv (Qk ky) (Qx u) j).z2)) (Jw ((Qv (Qk ky) (Qx u) j).x2) ((Qv (Qk ky) (Qx u) j).z2))) (Xg ([56129, 1, 0, 0, 0, 0, 0, 0, 0, 0, 0, 0, 0, 0, 0, 0]) (Yt (Xg (Jw ((Qv (Qk ky) (Qx u) j).x2) ((Qv (Qk ky) (Qx u) j).z2)) (Jw ((Qv (Qk ky) (Qx u) j).x2) ((Qv (Qk ky) (Qx u) j).z2))) (Xg (Yt ((Qv (Qk ky) (Qx u) j).x2) ((Qv (Qk ky) (Qx u) j).z2)) (Yt ((Qv (Qk ky) (Qx u) j).x2) ((Qv (Qk ky) (Qx u) j).z2))))))) Zw Z7 s7 rfl sD ((aC [_, _, _, _, _, _, _, _, _, _, _, _] [_] _ m214)).h0 sZ rfl) ?_
   rintro _ w216 uq216
   have m216 : Mem _ _ [_, _, _, _, _, _, _, _, _, _, _, _, _, _, _, _] := bM (aC [_, _, _, _, _, _, _, _, _, _, _, _] [_] _ m214) uq216
   refine rN (sR ?_)
   refine X9 s11 <| Qd (Qbz (b := 1#8) rfl rfl) <| rN <| Ja rfl hc34 ?_
   refine Qo (Qe (Qb ?_))
   refine X9 s10 <| Qd (Yg (b := 1) rfl rfl oM oM) <| Zx (i64 ((254 - (j : Int)) - 1)) <| rN ?_
   have m217 := aF [_] _ (aC [_, _, _, _] [_] _ m216)
   have m218 := aF [_] _ (aC [_, _, _, _] [_] _ m217)
   have m219 := aF [_] _ (aC [_, _, _, _] [_] _ m218)
   have m220 := aF [_] _ (aC [_, _, _, _] [_] _ m219)
   have m221 := aF [_] _ (aC [_, _, _, _] [_] _ m220)
   have m222 := aF [_] _ (aC [_, _, _, _] [_] _ m221)
   have m223 := aF [_] _ (aC [_, _, _, _] [_] _ m222)
   have m224 := aF [_] _ (aC [_, _, _, _] [_] _ m223)
   have m225 := aF [_] _ (aC [_, _, _, _] [_] _ m224)
   have m226 := (aC [_, _, _, _, _, _] [_] _ m225)
   have m227 := (aC [_, _, _, _, _, _] [_] _ m226)
   have m228 := (aC [_, _, _, _, _, _] [_] _ m227)
   have m229 := (aC [_, _, _, _, _] [_] _ m228)
   have m230 := (aC [_, _, _, _, _, _] [_] _ m229)
   have m231 := (aC [_, _, _, _, _] [_] _ m230)
   have m232 := (aC [_, _, _, _, _, _] [_] _ m231)
   exact ⟨⟨j + 1, oM, s0, s1, s2, s3, s4, s5, s6, s7, s8, s9, (show i64 (254 - (j : Int) - 1) = i64 (254 - ((j + 1 : Nat) : Int)) from congrArg i64 oM), (by rw [lad16_f (k := (Qk ky)) (x1 := (Qx u)) (j := j) hc34]; unfold Qah; exact m232)⟩, (by show (aT (i64 (254 - (j : Int) - 1)) + 1).toNat < (aT _ + 1).toNat; rw [z10]; simp only [aT, i64]; omega)⟩
 ·
  have hc33p := of_decide_eq_false hc33
  obtain rfl : j = 255 := by omega
  refine X3 ?_
  refine Qj (Qj (Xk ?_))
  refine Qa <| Xi [(0, false), (1, false), (2, false)] 3 Xv <| Yj rfl (fun _ e' => Qn X6 rfl Z7 s6 (m32.ext e').h0 sZ) <| Yj rfl (fun _ e' => Qn X6 rfl Z7 s7 (m32.ext e').h1 sZ) <| Wy rfl rfl (fun w233 e233 => oc68 (Jz rfl) (c_rinv _ _ hL.z2)) <| Gf m32 fun w236 m236 => U5 m236 (Qao (Xl rfl rfl) (Vz _ _ _ hL.x2 (Py hL.z2 255))) fun w237 m237 => U5 m237 (oc67 (Jz rfl) (c_rwrite _ _ (Zf hL.x2 (Py hL.z2 255)))) fun w239 m239 => Vd (Qg (f := u8) (l := Qcq (Xg ((Qv (Qk ky) (Qx u) 255).x2) (Vu ((Qv (Qk ky) (Qx u) 255).z2) 255))) Qr Zh s4 rfl sD m239.h5 sZ rfl) ?_
  rintro _ w241 uq241
  have m241 := m239.upd5 uq241
  refine rN (Z8 ?_)
  refine Qq [(agg u8 (Qcq (Xg ((Qv (Qk ky) (Qx u) 255).x2) (Vu ((Qv (Qk ky) (Qx u) 255).z2) 255))))] ⟨⟨_, s4, Xm Xn rfl Zh m241.h5 sZ⟩, trivial⟩ ?_
  exact ⟨by unfold Yn; rfl, m241.toExt⟩
end Go.Proofs.YtkmiemlpfkfiiaaDoor
