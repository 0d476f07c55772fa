/- Contracts: the document's product of a point. Conditions: none beyond those that each theorem states. -/
import Derived.Test.YtkmiemlpfkfiiaaDoorCu3
import Derived.Test.YtkmiemlpfkfiiaaDoorCuO
import Derived.Test.YtkmiemlpfkfiiaaDoorFwR
namespace Go.Proofs.YtkmiemlpfkfiiaaDoor
set_option linter.unusedVariables false
set_option linter.unusedSimpArgs false
attribute [local irreducible] Xc Y6 Yb Wh Q9 Qab Q8 Qz Na Qp Qq Zx Zf Gs Ff Yt Nz Y9 Yy V6
set_option maxHeartbeats 2000000 in
theorem Qm3 (ky u : List (BitVec 8)) (w0 : World)  (hk : ky.length = 32) (hu : u.length = 32) : Xz Tryd.prog 36 #[(agg u8 ky), (agg u8 u)] w0 (fun r w1 => r = (agg u8 (V6 ky u)) ∧ Ext w0 w1) := by
 refine Zd (args := [(agg u8 ky), (agg u8 u)]) Tryd.func36 rfl Tryd.ntmps36 Tryd.results36 rfl ?_
 have m0 : Mem w0 (Qy w0) [] := Mem.of_world w0
 have hcl := Qg5 ky
 refine sR <| Za rfl (Z8 (f := u8) (l := ky) m0 rfl) ?_
 rintro _ w1 ⟨b2, rfl, e1, m1⟩
 refine Za rfl (Z8 (f := u8) (l := u) m1 rfl) ?_
 rintro _ w2 ⟨b3, rfl, e2, m2⟩
 refine Za rfl (Zg m2 Z9) ?_
 rintro _ w3 ⟨b4, rfl, e3, m3⟩
 refine rN (sR ?_)
 refine Qa rfl (Qd (r := 0) (i := 0) oM X3 X6 rfl rfl oM oM) <| Qa rfl (Qn Vm rfl rfl m3.h2 (Qx _ _ 0 sD)) <| Qa rfl (Qn6 (b := 8#8) rfl rfl (by decide)) <| Qa rfl (Qn8 (b := 8#8) rfl rfl) <| Qa rfl (Qd (r := 0) (i := 0) oM X3 X6 rfl rfl oM oM) <| Zw (Xn (f := u8) (a := ((ky.getD 0 0) / 8#8) * 8#8) Qu X6 rfl rfl m3.h2 sD (.inl (Nat.zero_le _))) ?_
 rintro _ w4 uq4
 have m4 := m3.upd2 uq4
 refine rN (sR ?_)
 refine Qa rfl (Qd (r := 31) (i := 31) oM X3 X6 rfl rfl oM oM) <| Qa rfl (Qn Vm rfl rfl m4.h2 (Qx _ _ 0 sD)) <| Qa rfl (Qn5 (b := 64#8) rfl rfl (by decide)) <| Qa rfl (Qh1 (b := 64#8) rfl rfl) <| Qa rfl (Qd (r := 31) (i := 31) oM X3 X6 rfl rfl oM oM) <| Zw (Xn (f := u8) (a := (((ky.set 0 (((ky.getD 0 0) / 8#8) * 8#8)).getD 31 0) % 64#8) + 64#8) Qu X6 rfl rfl m4.h2 sD (.inl (Nat.zero_le _))) ?_
 rintro _ w5 uq5
 have m5 := m4.upd2 uq5
 refine rN (Qg ?_)
 have hck : (ky.set 0 (((ky.getD 0 0) / 8#8) * 8#8)).set 31 ((((ky.set 0 (((ky.getD 0 0) / 8#8) * 8#8)).getD 31 0) % 64#8) + 64#8) = Qp ky := by unfold Qp; rfl
 have hmK6 := m5
 rw [hck] at hmK6
 refine Qe <| Qa rfl (Qw X3 rfl Z9 rfl hmK6.h1 sZ) <| Za rfl (oc63 (Jj rfl) (c_rread _ _ sD)) ?_
 rintro _ w7 ⟨rfl, e7⟩
 have m7 := hmK6.ext e7
 refine Za rfl (Zg m7 Zz) ?_
 rintro _ w9 ⟨b5, rfl, e9, m9⟩
 refine Zw (Qm (f := i64) (l := Q9 u) Xm Zz rfl rfl sD m9.h0 sZ rfl) ?_
 rintro _ w10 uq10
 have m10 := m9.upd0 uq10
 refine rN (Qg ?_)
 refine Jz (by kernel_rfl) ?_
 have hFM11 : Mem w10 (Qy w0) ([] ++ [(b5, .cells (cl i64 (Q9 u)) 109 (0, 0)), (b4, .cells (cl u8 (List.replicate 32 0)) 23 (0, 0)), (b3, .cells (cl u8 u) 23 (0, 0)), (b2, .cells (cl u8 (Qp ky)) 23 (0, 0))]) := m10
 obtain ⟨RM11, hRM11⟩ : ∃ R2, R2 = Rest.add (Qy w0) [(b5, .cells (cl i64 (Q9 u)) 109 (0, 0)), (b4, .cells (cl u8 (List.replicate 32 0)) 23 (0, 0)), (b3, .cells (cl u8 u) 23 (0, 0)), (b2, .cells (cl u8 (Qp ky)) 23 (0, 0))] := ⟨_, rfl⟩
 have M110 : Mem w10 RM11 [] := by rw [hRM11]; exact Mem.give hFM11
 have ho12 : RM11.blk b5 = some (.cells (cl i64 (Q9 u)) 109 (0, 0)) := by rw [hRM11]; exact Mem.addOwn hFM11 (List.Mem.head _)
 have ho13 : RM11.blk b4 = some (.cells (cl u8 (List.replicate 32 0)) 23 (0, 0)) := by rw [hRM11]; exact Mem.addOwn hFM11 (List.Mem.tail _ (List.Mem.head _))
 have ho14 : RM11.blk b3 = some (.cells (cl u8 u) 23 (0, 0)) := by rw [hRM11]; exact Mem.addOwn hFM11 (List.Mem.tail _ (List.Mem.tail _ (List.Mem.head _)))
 have ho15 : RM11.blk b2 = some (.cells (cl u8 (Qp ky)) 23 (0, 0)) := by rw [hRM11]; exact Mem.addOwn hFM11 (List.Mem.tail _ (List.Mem.tail _ (List.Mem.tail _ (List.Mem.head _))))
 refine re_alM [4, 5, 6, 7] (dl 4) [(8, true), (9, true), (10, true)] 11 (luN [(4, 6), (5, 7), (6, 8), (7, 9)]) (luN [(4, 109), (5, 109), (6, 109), (7, 109)]) (luV [(4, (agg i64 (List.replicate 16 0))), (5, (agg i64 (List.replicate 16 0))), (6, (agg i64 (List.replicate 16 0))), (7, (agg i64 (List.replicate 16 0)))]) (fun g => g 0 = (agg u8 ky) ∧ g 1 = (agg u8 u) ∧ g 2 = (ptr b2 0) ∧ g 3 = (ptr b3 0) ∧ g 4 = (ptr b4 0) ∧ g 5 = (ptr b5 0) ∧ g 33 = (agg i64 ([1, 0, 0, 0, 0, 0, 0, 0, 0, 0, 0, 0, 0, 0, 0, 0])) ∧ g 34 = (agg i64 (List.replicate 16 0)) ∧ g 35 = (agg i64 (Q9 u)) ∧ g 36 = (agg i64 ([1, 0, 0, 0, 0, 0, 0, 0, 0, 0, 0, 0, 0, 0, 0, 0])) ∧ True) M110 (J5 ⟨⟨_, _, _, rfl⟩, rfl, _, _, Zz⟩ (J5 ⟨⟨_, _, _, rfl⟩, rfl, _, _, Zz⟩ (J5 ⟨⟨_, _, _, rfl⟩, rfl, _, _, Zz⟩ (J5 ⟨⟨_, _, _, rfl⟩, rfl, _, _, Zz⟩ N7)))) (fun sx16 hS16 => ?_) ?_
 ·skip
  refine Xu rfl rfl (fun w _H _hx => Ve (c := (cl i64 ([1, 0, 0, 0, 0, 0, 0, 0, 0, 0, 0, 0, 0, 0, 0, 0]))) Zz Xx Dq (Y2 (i := 0) (v := (i64 1)) (cs := #[(i64 1)]) rfl rfl Vo) (by kernel_rfl)) <| Xu rfl rfl (fun w _H _hx => Jp (ps := []) (c := (cl i64 (List.replicate 16 0))) Zz Xx Dq (by simp) rfl) <| Xu rfl rfl (fun w _H _hx => Qw Xx rfl Zz rfl (_hx.rest _ _ ho12) sZ) <| Xu rfl rfl (fun w _H _hx => Ve (c := (cl i64 ([1, 0, 0, 0, 0, 0, 0, 0, 0, 0, 0, 0, 0, 0, 0, 0]))) Zz Xx Dq (Y2 (i := 0) (v := (i64 1)) (cs := #[(i64 1)]) rfl rfl Vo) (by kernel_rfl)) ?_
  exact hS16 _ ⟨rfl, rfl, rfl, rfl, rfl, rfl, rfl, rfl, rfl, rfl, trivial⟩
 rintro g17 ⟨s0, s1, s2, s3, s4, s5, s33, s34, s35, s36, _⟩ w19 ps19 hmm19
 have m19 : Mem _ _ [((ps19 4), .cells (cl i64 (List.replicate 16 0)) 109 (0, 0)), ((ps19 5), .cells (cl i64 (List.replicate 16 0)) 109 (0, 0)), ((ps19 6), .cells (cl i64 (List.replicate 16 0)) 109 (0, 0)), ((ps19 7), .cells (cl i64 (List.replicate 16 0)) 109 (0, 0))] := hmm19
 show DW _ _ _ _ _ _ _ (upd (upd (upd (upd g17 9 (ptr (ps19 7) 0)) 8 (ptr (ps19 6) 0)) 7 (ptr (ps19 5) 0)) 6 (ptr (ps19 4) 0)) _
 generalize ps19 4 = b6, ps19 5 = b7, ps19 6 = b8, ps19 7 = b9 at m19 ⊢
 refine Bh rfl (fun w20 e20 => ?_)
 have m20 := m19.ext e20
 refine Yz.mono (Qm (f := i64) (l := [1, 0, 0, 0, 0, 0, 0, 0, 0, 0, 0, 0, 0, 0, 0, 0]) Xm Zz rfl s33 sD m20.h0 sZ rfl) ?_
 rintro _ w21 uq21
 have m21 := m20.upd0 uq21
 refine ⟨⟨_, m21⟩, ?_⟩
 refine Bh rfl (fun w22 e22 => ?_)
 have m22 := m21.ext e22
 refine Yz.mono (Qm (f := i64) (l := List.replicate 16 0) Xm Zz rfl s34 sD m22.h1 sZ rfl) ?_
 rintro _ w23 uq23
 have m23 := m22.upd1 uq23
 refine ⟨⟨_, m23⟩, ?_⟩
 refine Bh rfl (fun w24 e24 => ?_)
 have m24 := m23.ext e24
 refine Yz.mono (Qm (f := i64) (l := Q9 u) Xm Zz rfl s35 sD m24.h2 sZ rfl) ?_
 rintro _ w25 uq25
 have m25 := m24.upd2 uq25
 refine ⟨⟨_, m25⟩, ?_⟩
 refine Xd (fun w26 e26 => ?_)
 have m26 := m25.ext e26
 have hX27 := m26
 rw [hRM11] at hX27
 have m28 : Mem w26 (Qy w0) [(b6, .cells (cl i64 ([1, 0, 0, 0, 0, 0, 0, 0, 0, 0, 0, 0, 0, 0, 0, 0])) 109 (0, 0)), (b7, .cells (cl i64 (List.replicate 16 0)) 109 (0, 0)), (b8, .cells (cl i64 (Q9 u)) 109 (0, 0)), (b9, .cells (cl i64 (List.replicate 16 0)) 109 (0, 0)), (b5, .cells (cl i64 (Q9 u)) 109 (0, 0)), (b4, .cells (cl u8 (List.replicate 32 0)) 23 (0, 0)), (b3, .cells (cl u8 u) 23 (0, 0)), (b2, .cells (cl u8 (Qp ky)) 23 (0, 0))] := (by
  have hT := Mem.back hFM11 hX27
  try simp only [List.append_assoc, List.cons_append, List.nil_append, List.append_nil] at hT ⊢
  exact hT)
 refine Zw (Qm (f := i64) (l := [1, 0, 0, 0, 0, 0, 0, 0, 0, 0, 0, 0, 0, 0, 0, 0]) Xm Zz rfl s36 sD m28.h3 sZ rfl) ?_
 rintro _ w29 uq29
 have m29 := m28.upd3 uq29
 refine rN (Qg (sR ?_))
 refine Qa rfl (Qc (v := (i64 254)) rfl) ?_
 refine rN (Qo ?_)
 refine Yo (fun g wv => ∃ (j : Nat), (j ≤ 255) ∧ g 0 = (agg u8 ky) ∧ g 1 = (agg u8 u) ∧ g 2 = (ptr b2 0) ∧ g 3 = (ptr b3 0) ∧ g 4 = (ptr b4 0) ∧ g 5 = (ptr b5 0) ∧ g 6 = (ptr b6 0) ∧ g 7 = (ptr b7 0) ∧ g 8 = (ptr b8 0) ∧ g 9 = (ptr b9 0) ∧ g 10 = (i64 (254 - (j : Int))) ∧ Mem wv (Qy w0) [(b6, .cells (cl i64 ((Qz (Qp ky) (Q9 u) j).x2)) 109 (0, 0)), (b7, .cells (cl i64 ((Qz (Qp ky) (Q9 u) j).z2)) 109 (0, 0)), (b8, .cells (cl i64 ((Qz (Qp ky) (Q9 u) j).x3)) 109 (0, 0)), (b9, .cells (cl i64 ((Qz (Qp ky) (Q9 u) j).z3)) 109 (0, 0)), (b5, .cells (cl i64 (Q9 u)) 109 (0, 0)), (b4, .cells (cl u8 (List.replicate 32 0)) 23 (0, 0)), (b2, .cells (cl u8 (Qp ky)) 23 (0, 0))]) (fun g wv => (RowKit.intOf (g 10) + 1).toNat) ?_ ?_
 have m30 := Mem.drop [_] _ (Mem.pick [_, _, _, _, _, _] [_] _ m29)
 ·exact ⟨0, oM, s0, s1, s2, s3, s4, s5, rfl, rfl, rfl, rfl, rfl, (by rw [Qlg]; exact m30)⟩
 rintro fr31 w32 ⟨j, hj, s0, s1, s2, s3, s4, s5, s6, s7, s8, s9, s10, m32⟩
 have z10 := s10
 have hL := Qf6 (Qp ky) (Tt u) j
 have hLx2 := hL.x2.len
 have hLz2 := hL.z2.len
 have hLx3 := hL.x3.len
 have hLz3 := hL.z3.len
 refine Qg (sR ?_)
 refine rM rfl s10 <| Qa rfl (X5 (b := 0) rfl rfl) <| rN ?_
 refine Xv rfl (fun hc33 => ?_) (fun hc33 => ?_)
 ·
  have hc33p := of_decide_eq_true hc33
  refine Q7 (Qh (Qg (Qo (sR ?_))))
  refine rM rfl s10 <| Qa rfl (Jf.cast (congrArg i64 (show (254 - (j : Int)) / 8 = (((254 - j) / 8 : Nat) : Int) by omega)) (Wy (b := 8) rfl rfl oM oM oM)) <| Qa rfl (Qd (r := ((254 - j) / 8)) oM X3 X6 s2 rfl oM sD) <| Qa (v := (u8 ((Qp ky).getD ((254 - j) / 8) 0))) rfl (Qn Vm rfl rfl ((Mem.pick [_, _, _, _, _, _] [_] _ m32)).h0 (Qx _ _ 0 sD)) <| rM rfl s10 <| Qa rfl (Jf.cast (congrArg i64 (show (254 - (j : Int)) % 8 = (((254 - j) % 8 : Nat) : Int) by omega)) (Jy (b := 8) rfl rfl oM oM oM)) <| Qa rfl (Qd6 rfl rfl oM) <| Qa rfl (Qd7 (b := 1#8) rfl rfl) <| rA rfl rfl ?_
  refine rN (Qg (sR ?_))
  refine rM rfl rfl <| Qa rfl (Qbm (b := 1#8) rfl rfl) <| rN ?_
  refine Xv rfl (fun hc34 => ?_) (fun hc34 => ?_)
  ·
   have hc34p := eq_of_beq hc34
   refine sR <| Qa rfl (Qw Xx rfl Zz s8 m32.h2 sZ) <| Qa rfl (Qw Xx rfl Zz s6 m32.h0 sZ) <| Zw (Qm (f := i64) (l := (Qz (Qp ky) (Q9 u) j).x3) Xm Zz s6 rfl sD m32.h0 sZ rfl) ?_
   rintro _ w35 uq35
   have m35 := m32.upd0 uq35
   refine Zw (Qm (f := i64) (l := (Qz (Qp ky) (Q9 u) j).x2) Xm Zz s8 rfl sD m35.h2 sZ rfl) ?_
   rintro _ w36 uq36
   have m36 := m35.upd2 uq36
   refine rN (Qe ?_)
   refine Qa rfl (Qw Xx rfl Zz s9 m36.h3 sZ) <| Qa rfl (Qw Xx rfl Zz s7 m36.h1 sZ) <| Zw (Qm (f := i64) (l := (Qz (Qp ky) (Q9 u) j).z3) Xm Zz s7 rfl sD m36.h1 sZ rfl) ?_
   rintro _ w37 uq37
   have m37 := m36.upd1 uq37
   refine Zw (Qm (f := i64) (l := (Qz (Qp ky) (Q9 u) j).z2) Xm Zz s9 rfl sD m37.h3 sZ rfl) ?_
   rintro _ w38 uq38
   have m38 := m37.upd3 uq38
   refine rN (Qg ?_)
   refine Jz (by kernel_rfl) ?_
   refine Qc2 [12, 13, 14, 15] (dl 12) 16 (luN [(12, 12), (13, 13), (14, 14), (15, 15)]) (luN [(12, 109), (13, 109), (14, 109), (15, 109)]) (luV [(12, (agg i64 (List.replicate 16 0))), (13, (agg i64 (List.replicate 16 0))), (14, (agg i64 (List.replicate 16 0))), (15, (agg i64 (List.replicate 16 0)))]) (fun g => g 0 = (agg u8 ky) ∧ g 1 = (agg u8 u) ∧ g 2 = (ptr b2 0) ∧ g 3 = (ptr b3 0) ∧ g 4 = (ptr b4 0) ∧ g 5 = (ptr b5 0) ∧ g 6 = (ptr b6 0) ∧ g 7 = (ptr b7 0) ∧ g 8 = (ptr b8 0) ∧ g 9 = (ptr b9 0) ∧ g 10 = (i64 (254 - (j : Int))) ∧ g 11 = (u8 ((((Qp ky).getD ((254 - j) / 8) 0) >>> (((254 - j) % 8 : Nat) : Int).toNat) &&& 1#8)) ∧ g 38 = (bl (decide (0 ≤ (254 - (j : Int))))) ∧ g 50 = (bl (((((Qp ky).getD ((254 - j) / 8) 0) >>> (((254 - j) % 8 : Nat) : Int).toNat) &&& 1#8) == 1#8)) ∧ g 57 = (agg i64 (Y6 ((Qz (Qp ky) (Q9 u) j).x3) ((Qz (Qp ky) (Q9 u) j).z3))) ∧ g 60 = (agg i64 (Yb ((Qz (Qp ky) (Q9 u) j).x3) ((Qz (Qp ky) (Q9 u) j).z3))) ∧ g 63 = (agg i64 (Y6 ((Qz (Qp ky) (Q9 u) j).x2) ((Qz (Qp ky) (Q9 u) j).z2))) ∧ g 66 = (agg i64 (Yb ((Qz (Qp ky) (Q9 u) j).x2) ((Qz (Qp ky) (Q9 u) j).z2))) ∧ True) m38 (J5 ⟨⟨_, _, _, rfl⟩, rfl, _, _, Zz⟩ (J5 ⟨⟨_, _, _, rfl⟩, rfl, _, _, Zz⟩ (J5 ⟨⟨_, _, _, rfl⟩, rfl, _, _, Zz⟩ (J5 ⟨⟨_, _, _, rfl⟩, rfl, _, _, Zz⟩ N7)))) (fun sx39 hS39 => ?_) ?_
   ·skip
    refine Qj rfl rfl (fun _ _hx => Qw Xx rfl Zz s6 (m38.ext _hx).h0 sZ) <| Qj rfl rfl (fun _ _hx => Qw Xx rfl Zz s7 (m38.ext _hx).h1 sZ) <| Kv rfl rfl (fun w40 e40 => oc64 (Xr rfl rfl) (Rk _ _ _ hL.x3 hL.z3)) <| Qj rfl rfl (fun _ _hx => Qw Xx rfl Zz s6 (m38.ext _hx).h0 sZ) <| Qj rfl rfl (fun _ _hx => Qw Xx rfl Zz s7 (m38.ext _hx).h1 sZ) <| Kv rfl rfl (fun w43 e43 => oc65 (Xr rfl rfl) (Ha _ _ _ hL.x3 hL.z3)) <| Qj rfl rfl (fun _ _hx => Qw Xx rfl Zz s8 (m38.ext _hx).h2 sZ) <| Qj rfl rfl (fun _ _hx => Qw Xx rfl Zz s9 (m38.ext _hx).h3 sZ) <| Kv rfl rfl (fun w46 e46 => oc64 (Xr rfl rfl) (Rk _ _ _ hL.x2 hL.z2)) <| Qj rfl rfl (fun _ _hx => Qw Xx rfl Zz s8 (m38.ext _hx).h2 sZ) <| Qj rfl rfl (fun _ _hx => Qw Xx rfl Zz s9 (m38.ext _hx).h3 sZ) <| Kv rfl rfl (fun w49 e49 => oc65 (Xr rfl rfl) (Ha _ _ _ hL.x2 hL.z2)) ?_
    exact hS39 _ ⟨s0, s1, s2, s3, s4, s5, s6, s7, s8, s9, s10, rfl, rfl, rfl, rfl, rfl, rfl, rfl, trivial⟩
   rintro g52 ⟨s0, s1, s2, s3, s4, s5, s6, s7, s8, s9, s10, s11, s38, s50, s57, s60, s63, s66, _⟩ w54 ps54 hmm54
   have m54 : Mem _ _ [((ps54 12), .cells (cl i64 (List.replicate 16 0)) 109 (0, 0)), ((ps54 13), .cells (cl i64 (List.replicate 16 0)) 109 (0, 0)), ((ps54 14), .cells (cl i64 (List.replicate 16 0)) 109 (0, 0)), ((ps54 15), .cells (cl i64 (List.replicate 16 0)) 109 (0, 0)), _, _, _, _, _, _, _] := hmm54
   show RW _ _ _ _ _ (upd (upd (upd (upd g52 15 (ptr (ps54 15) 0)) 14 (ptr (ps54 14) 0)) 13 (ptr (ps54 13) 0)) 12 (ptr (ps54 12) 0)) _
   generalize ps54 12 = b12, ps54 13 = b13, ps54 14 = b14, ps54 15 = b15 at m54 ⊢
   refine Zw (Qm (f := i64) (l := Y6 ((Qz (Qp ky) (Q9 u) j).x3) ((Qz (Qp ky) (Q9 u) j).z3)) Xm Zz rfl s57 sD m54.h0 sZ rfl) ?_
   rintro _ w55 uq55
   have m55 := m54.upd0 uq55
   refine Zw (Qm (f := i64) (l := Yb ((Qz (Qp ky) (Q9 u) j).x3) ((Qz (Qp ky) (Q9 u) j).z3)) Xm Zz rfl s60 sD m55.h1 sZ rfl) ?_
   rintro _ w56 uq56
   have m56 := m55.upd1 uq56
   refine Zw (Qm (f := i64) (l := Y6 ((Qz (Qp ky) (Q9 u) j).x2) ((Qz (Qp ky) (Q9 u) j).z2)) Xm Zz rfl s63 sD m56.h2 sZ rfl) ?_
   rintro _ w57 uq57
   have m57 := m56.upd2 uq57
   refine Zw (Qm (f := i64) (l := Yb ((Qz (Qp ky) (Q9 u) j).x2) ((Qz (Qp ky) (Q9 u) j).z2)) Xm Zz rfl s66 sD m57.h3 sZ rfl) ?_
   rintro _ w58 uq58
   have m58 := m57.upd3 uq58
   refine rN (Qg ?_)
   refine Jz (by kernel_rfl) ?_
   refine Qc2 [12, 13, 14, 15] (dl 12) 16 (luN [(12, 16), (13, 17), (14, 18), (15, 19)]) (luN [(12, 109), (13, 109), (14, 109), (15, 109)]) (luV [(12, (agg i64 (List.replicate 16 0))), (13, (agg i64 (List.replicate 16 0))), (14, (agg i64 (List.replicate 16 0))), (15, (agg i64 (List.replicate 16 0)))]) (fun g => g 0 = (agg u8 ky) ∧ g 1 = (agg u8 u) ∧ g 2 = (ptr b2 0) ∧ g 3 = (ptr b3 0) ∧ g 4 = (ptr b4 0) ∧ g 5 = (ptr b5 0) ∧ g 6 = (ptr b6 0) ∧ g 7 = (ptr b7 0) ∧ g 8 = (ptr b8 0) ∧ g 9 = (ptr b9 0) ∧ g 10 = (i64 (254 - (j : Int))) ∧ g 11 = (u8 ((((Qp ky).getD ((254 - j) / 8) 0) >>> (((254 - j) % 8 : Nat) : Int).toNat) &&& 1#8)) ∧ g 12 = (ptr b12 0) ∧ g 13 = (ptr b13 0) ∧ g 14 = (ptr b14 0) ∧ g 15 = (ptr b15 0) ∧ g 38 = (bl (decide (0 ≤ (254 - (j : Int))))) ∧ g 50 = (bl (((((Qp ky).getD ((254 - j) / 8) 0) >>> (((254 - j) % 8 : Nat) : Int).toNat) &&& 1#8) == 1#8)) ∧ g 69 = (agg i64 (Xc (Yb ((Qz (Qp ky) (Q9 u) j).x2) ((Qz (Qp ky) (Q9 u) j).z2)) (Y6 ((Qz (Qp ky) (Q9 u) j).x3) ((Qz (Qp ky) (Q9 u) j).z3)))) ∧ g 72 = (agg i64 (Xc (Y6 ((Qz (Qp ky) (Q9 u) j).x2) ((Qz (Qp ky) (Q9 u) j).z2)) (Yb ((Qz (Qp ky) (Q9 u) j).x3) ((Qz (Qp ky) (Q9 u) j).z3)))) ∧ g 75 = (agg i64 (Xc (Y6 ((Qz (Qp ky) (Q9 u) j).x3) ((Qz (Qp ky) (Q9 u) j).z3)) (Y6 ((Qz (Qp ky) (Q9 u) j).x3) ((Qz (Qp ky) (Q9 u) j).z3)))) ∧ g 78 = (agg i64 (Xc (Yb ((Qz (Qp ky) (Q9 u) j).x3) ((Qz (Qp ky) (Q9 u) j).z3)) (Yb ((Qz (Qp ky) (Q9 u) j).x3) ((Qz (Qp ky) (Q9 u) j).z3)))) ∧ True) m58 (J5 ⟨⟨_, _, _, rfl⟩, rfl, _, _, Zz⟩ (J5 ⟨⟨_, _, _, rfl⟩, rfl, _, _, Zz⟩ (J5 ⟨⟨_, _, _, rfl⟩, rfl, _, _, Zz⟩ (J5 ⟨⟨_, _, _, rfl⟩, rfl, _, _, Zz⟩ N7)))) (fun sx59 hS59 => ?_) ?_
   ·skip
    refine Qj rfl rfl (fun _ _hx => Qw Xx rfl Zz rfl (m58.ext _hx).h3 sZ) <| Qj rfl rfl (fun _ _hx => Qw Xx rfl Zz rfl (m58.ext _hx).h0 sZ) <| Kv rfl rfl (fun w60 e60 => Np (Xr rfl rfl) (Wp _ _ _ (Zn hL.x2 hL.z2) (Zu hL.x3 hL.z3))) <| Qj rfl rfl (fun _ _hx => Qw Xx rfl Zz rfl (m58.ext _hx).h2 sZ) <| Qj rfl rfl (fun _ _hx => Qw Xx rfl Zz rfl (m58.ext _hx).h1 sZ) <| Kv rfl rfl (fun w63 e63 => Np (Xr rfl rfl) (Wp _ _ _ (Zu hL.x2 hL.z2) (Zn hL.x3 hL.z3))) <| Qj rfl rfl (fun _ _hx => Qw Xx rfl Zz rfl (m58.ext _hx).h0 sZ) <| Qj rfl rfl (fun _ _hx => Qw Xx rfl Zz rfl (m58.ext _hx).h0 sZ) <| Kv rfl rfl (fun w66 e66 => Np (Xr rfl rfl) (Wp _ _ _ (Zu hL.x3 hL.z3) (Zu hL.x3 hL.z3))) <| Qj rfl rfl (fun _ _hx => Qw Xx rfl Zz rfl (m58.ext _hx).h1 sZ) <| Qj rfl rfl (fun _ _hx => Qw Xx rfl Zz rfl (m58.ext _hx).h1 sZ) <| Kv rfl rfl (fun w69 e69 => Np (Xr rfl rfl) (Wp _ _ _ (Zn hL.x3 hL.z3) (Zn hL.x3 hL.z3))) ?_
    exact hS59 _ ⟨s0, s1, s2, s3, s4, s5, s6, s7, s8, s9, s10, s11, rfl, rfl, rfl, rfl, s38, s50, rfl, rfl, rfl, rfl, trivial⟩
   rintro g72 ⟨s0, s1, s2, s3, s4, s5, s6, s7, s8, s9, s10, s11, s12, s13, s14, s15, s38, s50, s69, s72, s75, s78, _⟩ w74 ps74 hmm74
   have m74 : Mem _ _ [((ps74 12), .cells (cl i64 (List.replicate 16 0)) 109 (0, 0)), ((ps74 13), .cells (cl i64 (List.replicate 16 0)) 109 (0, 0)), ((ps74 14), .cells (cl i64 (List.replicate 16 0)) 109 (0, 0)), ((ps74 15), .cells (cl i64 (List.replicate 16 0)) 109 (0, 0)), _, _, _, _, _, _, _, _, _, _, _] := hmm74
   show RW _ _ _ _ _ (upd (upd (upd (upd g72 19 (ptr (ps74 15) 0)) 18 (ptr (ps74 14) 0)) 17 (ptr (ps74 13) 0)) 16 (ptr (ps74 12) 0)) _
   generalize ps74 12 = b16, ps74 13 = b17, ps74 14 = b18, ps74 15 = b19 at m74 ⊢
   refine Zw (Qm (f := i64) (l := Xc (Yb ((Qz (Qp ky) (Q9 u) j).x2) ((Qz (Qp ky) (Q9 u) j).z2)) (Y6 ((Qz (Qp ky) (Q9 u) j).x3) ((Qz (Qp ky) (Q9 u) j).z3))) Xm Zz rfl s69 sD m74.h0 sZ rfl) ?_
   rintro _ w75 uq75
   have m75 := m74.upd0 uq75
   refine Zw (Qm (f := i64) (l := Xc (Y6 ((Qz (Qp ky) (Q9 u) j).x2) ((Qz (Qp ky) (Q9 u) j).z2)) (Yb ((Qz (Qp ky) (Q9 u) j).x3) ((Qz (Qp ky) (Q9 u) j).z3))) Xm Zz rfl s72 sD m75.h1 sZ rfl) ?_
   rintro _ w76 uq76
   have m76 := m75.upd1 uq76
   refine Zw (Qm (f := i64) (l := Xc (Y6 ((Qz (Qp ky) (Q9 u) j).x3) ((Qz (Qp ky) (Q9 u) j).z3)) (Y6 ((Qz (Qp ky) (Q9 u) j).x3) ((Qz (Qp ky) (Q9 u) j).z3))) Xm Zz rfl s75 sD m76.h2 sZ rfl) ?_
   rintro _ w77 uq77
   have m77 := m76.upd2 uq77
   refine Zw (Qm (f := i64) (l := Xc (Yb ((Qz (Qp ky) (Q9 u) j).x3) ((Qz (Qp ky) (Q9 u) j).z3)) (Yb ((Qz (Qp ky) (Q9 u) j).x3) ((Qz (Qp ky) (Q9 u) j).z3))) Xm Zz rfl s78 sD m77.h3 sZ rfl) ?_
   rintro _ w78 uq78
   have m78 := m77.upd3 uq78
   refine rN (sR ?_)
   refine Qa rfl (Qw Xx rfl Zz rfl m78.h2 sZ) <| Qa rfl (Qw Xx rfl Zz rfl m78.h3 sZ) <| Za rfl (oc65 (Xr rfl rfl) (Ha _ _ _ (Zj (Zu hL.x3 hL.z3) (Zu hL.x3 hL.z3)) (Zj (Zn hL.x3 hL.z3) (Zn hL.x3 hL.z3)))) ?_
   rintro _ w79 ⟨rfl, e79⟩
   have m79 := m78.ext e79
   refine Za rfl (Zg m79 Zz) ?_
   rintro _ w81 ⟨b20, rfl, e81, m81⟩
   refine Zw (Qm (f := i64) (l := Yb (Xc (Y6 ((Qz (Qp ky) (Q9 u) j).x3) ((Qz (Qp ky) (Q9 u) j).z3)) (Y6 ((Qz (Qp ky) (Q9 u) j).x3) ((Qz (Qp ky) (Q9 u) j).z3))) (Xc (Yb ((Qz (Qp ky) (Q9 u) j).x3) ((Qz (Qp ky) (Q9 u) j).z3)) (Yb ((Qz (Qp ky) (Q9 u) j).x3) ((Qz (Qp ky) (Q9 u) j).z3)))) Xm Zz rfl rfl sD m81.h0 sZ rfl) ?_
   rintro _ w82 uq82
   have m82 := m81.upd0 uq82
   refine rN (Qg ?_)
   refine Xq (dl 5) 5 (by kernel_rfl) <| Qj rfl rfl (fun _ _hx => Qw Xx rfl Zz rfl (m82.ext _hx).h1 sZ) <| Qj rfl rfl (fun _ _hx => Qw Xx rfl Zz rfl (m82.ext _hx).h2 sZ) <| Kv rfl rfl (fun w83 e83 => oc64 (Xr rfl rfl) (Rk _ _ _ (Zj (Zn hL.x2 hL.z2) (Zu hL.x3 hL.z3)) (Zj (Zu hL.x2 hL.z2) (Zn hL.x3 hL.z3)))) <| Qj rfl rfl (fun _ _hx => Qw Xx rfl Zz rfl (m82.ext _hx).h1 sZ) <| Qj rfl rfl (fun _ _hx => Qw Xx rfl Zz rfl (m82.ext _hx).h2 sZ) ?_
   refine Xd (fun w86 e86 => ?_)
   have m86 := m82.ext e86
   refine Za rfl (oc64 (Xr rfl rfl) (Rk _ _ _ (Zj (Zn hL.x2 hL.z2) (Zu hL.x3 hL.z3)) (Zj (Zu hL.x2 hL.z2) (Zn hL.x3 hL.z3)))) ?_
   rintro _ w87 ⟨rfl, e87⟩
   have m87 := m86.ext e87
   refine Za rfl (Np (Xr rfl rfl) (Wp _ _ _ (Zu (Zj (Zn hL.x2 hL.z2) (Zu hL.x3 hL.z3)) (Zj (Zu hL.x2 hL.z2) (Zn hL.x3 hL.z3))) (Zu (Zj (Zn hL.x2 hL.z2) (Zu hL.x3 hL.z3)) (Zj (Zu hL.x2 hL.z2) (Zn hL.x3 hL.z3))))) ?_
   rintro _ w89 ⟨rfl, e89⟩
   have m89 := m87.ext e89
   refine Zw (Qm (f := i64) (l := Xc (Y6 (Xc (Yb ((Qz (Qp ky) (Q9 u) j).x2) ((Qz (Qp ky) (Q9 u) j).z2)) (Y6 ((Qz (Qp ky) (Q9 u) j).x3) ((Qz (Qp ky) (Q9 u) j).z3))) (Xc (Y6 ((Qz (Qp ky) (Q9 u) j).x2) ((Qz (Qp ky) (Q9 u) j).z2)) (Yb ((Qz (Qp ky) (Q9 u) j).x3) ((Qz (Qp ky) (Q9 u) j).z3)))) (Y6 (Xc (Yb ((Qz (Qp ky) (Q9 u) j).x2) ((Qz (Qp ky) (Q9 u) j).z2)) (Y6 ((Qz (Qp ky) (Q9 u) j).x3) ((Qz (Qp ky) (Q9 u) j).z3))) (Xc (Y6 ((Qz (Qp ky) (Q9 u) j).x2) ((Qz (Qp ky) (Q9 u) j).z2)) (Yb ((Qz (Qp ky) (Q9 u) j).x3) ((Qz (Qp ky) (Q9 u) j).z3))))) Xm Zz s8 rfl sD ((Mem.pick [_, _, _, _, _, _, _, _, _, _, _] [_] _ m89)).h0 sZ rfl) ?_
   rintro _ w91 uq91
   have m91 : Mem _ _ [_, _, _, _, _, _, _, _, _, _, _, _, _, _, _, _] := Mem.upd0 (Mem.pick [_, _, _, _, _, _, _, _, _, _, _] [_] _ m89) uq91
   refine rN (Qg ?_)
   refine Xq (dl 8) 8 (by kernel_rfl) <| Qj rfl rfl (fun _ _hx => Qw Xx rfl Zz s5 ((Mem.pick [_, _, _, _, _, _, _, _, _, _, _, _, _] [_] _ (m91.ext _hx))).h0 sZ) <| Qj rfl rfl (fun _ _hx => Qw Xx rfl Zz rfl (m91.ext _hx).h2 sZ) <| Qj rfl rfl (fun _ _hx => Qw Xx rfl Zz rfl (m91.ext _hx).h3 sZ) <| Kv rfl rfl (fun w92 e92 => oc65 (Xr rfl rfl) (Ha _ _ _ (Zj (Zn hL.x2 hL.z2) (Zu hL.x3 hL.z3)) (Zj (Zu hL.x2 hL.z2) (Zn hL.x3 hL.z3)))) <| Qj rfl rfl (fun _ _hx => Qw Xx rfl Zz rfl (m91.ext _hx).h2 sZ) <| Qj rfl rfl (fun _ _hx => Qw Xx rfl Zz rfl (m91.ext _hx).h3 sZ) <| Kv rfl rfl (fun w95 e95 => oc65 (Xr rfl rfl) (Ha _ _ _ (Zj (Zn hL.x2 hL.z2) (Zu hL.x3 hL.z3)) (Zj (Zu hL.x2 hL.z2) (Zn hL.x3 hL.z3)))) <| Kv rfl rfl (fun w98 e98 => Np (Xr rfl rfl) (Wp _ _ _ (Zn (Zj (Zn hL.x2 hL.z2) (Zu hL.x3 hL.z3)) (Zj (Zu hL.x2 hL.z2) (Zn hL.x3 hL.z3))) (Zn (Zj (Zn hL.x2 hL.z2) (Zu hL.x3 hL.z3)) (Zj (Zu hL.x2 hL.z2) (Zn hL.x3 hL.z3))))) ?_
   refine Xd (fun w101 e101 => ?_)
   have m101 := m91.ext e101
   refine Za rfl (Np (Xr rfl rfl) (Wp _ _ _ (Tt u) (Zj (Zn (Zj (Zn hL.x2 hL.z2) (Zu hL.x3 hL.z3)) (Zj (Zu hL.x2 hL.z2) (Zn hL.x3 hL.z3))) (Zn (Zj (Zn hL.x2 hL.z2) (Zu hL.x3 hL.z3)) (Zj (Zu hL.x2 hL.z2) (Zn hL.x3 hL.z3)))))) ?_
   rintro _ w102 ⟨rfl, e102⟩
   have m102 := m101.ext e102
   refine Zw (Qm (f := i64) (l := Xc (Q9 u) (Xc (Yb (Xc (Yb ((Qz (Qp ky) (Q9 u) j).x2) ((Qz (Qp ky) (Q9 u) j).z2)) (Y6 ((Qz (Qp ky) (Q9 u) j).x3) ((Qz (Qp ky) (Q9 u) j).z3))) (Xc (Y6 ((Qz (Qp ky) (Q9 u) j).x2) ((Qz (Qp ky) (Q9 u) j).z2)) (Yb ((Qz (Qp ky) (Q9 u) j).x3) ((Qz (Qp ky) (Q9 u) j).z3)))) (Yb (Xc (Yb ((Qz (Qp ky) (Q9 u) j).x2) ((Qz (Qp ky) (Q9 u) j).z2)) (Y6 ((Qz (Qp ky) (Q9 u) j).x3) ((Qz (Qp ky) (Q9 u) j).z3))) (Xc (Y6 ((Qz (Qp ky) (Q9 u) j).x2) ((Qz (Qp ky) (Q9 u) j).z2)) (Yb ((Qz (Qp ky) (Q9 u) j).x3) ((Qz (Qp ky) (Q9 u) j).z3)))))) Xm Zz s9 rfl sD ((Mem.pick [_, _, _, _, _, _, _, _, _, _, _, _] [_] _ m102)).h0 sZ rfl) ?_
   rintro _ w104 uq104
   have m104 : Mem _ _ [_, _, _, _, _, _, _, _, _, _, _, _, _, _, _, _] := Mem.upd0 (Mem.pick [_, _, _, _, _, _, _, _, _, _, _, _] [_] _ m102) uq104
   refine rN (sR ?_)
   refine Qa rfl (Qw Xx rfl Zz rfl m104.h5 sZ) <| Qa rfl (Qw Xx rfl Zz rfl ((Mem.pick [_, _, _, _, _, _] [_] _ m104)).h0 sZ) <| Za rfl (Np (Xr rfl rfl) (Wp _ _ _ (Zj (Zu hL.x3 hL.z3) (Zu hL.x3 hL.z3)) (Zj (Zn hL.x3 hL.z3) (Zn hL.x3 hL.z3)))) ?_
   rintro _ w105 ⟨rfl, e105⟩
   have m105 := m104.ext e105
   refine Zw (Qm (f := i64) (l := Xc (Xc (Y6 ((Qz (Qp ky) (Q9 u) j).x3) ((Qz (Qp ky) (Q9 u) j).z3)) (Y6 ((Qz (Qp ky) (Q9 u) j).x3) ((Qz (Qp ky) (Q9 u) j).z3))) (Xc (Yb ((Qz (Qp ky) (Q9 u) j).x3) ((Qz (Qp ky) (Q9 u) j).z3)) (Yb ((Qz (Qp ky) (Q9 u) j).x3) ((Qz (Qp ky) (Q9 u) j).z3)))) Xm Zz s6 rfl sD ((Mem.pick [_, _, _, _, _, _, _, _, _, _, _] [_] _ m105)).h0 sZ rfl) ?_
   rintro _ w107 uq107
   have m107 : Mem _ _ [_, _, _, _, _, _, _, _, _, _, _, _, _, _, _, _] := Mem.upd0 (Mem.pick [_, _, _, _, _, _, _, _, _, _, _] [_] _ m105) uq107
   refine rN (Qg ?_)
   refine Xq (dl 6) 6 (by kernel_rfl) <| Qj rfl rfl (fun _ _hx => Qw Xx rfl Zz rfl (m107.ext _hx).h3 sZ) <| Qj rfl rfl (fun _ _hx => Qw Xx rfl Zz rfl ((Mem.pick [_, _, _, _, _, _] [_] _ (m107.ext _hx))).h0 sZ) <| Qj rfl rfl (fun _ _hx => Ve (c := (cl i64 ([56129, 1, 0, 0, 0, 0, 0, 0, 0, 0, 0, 0, 0, 0, 0, 0]))) Zz Xx Dq (Y2 (i := 0) (v := (i64 56129)) (cs := #[(i64 56129)]) rfl rfl (Y2 (i := 1) (v := (i64 1)) (cs := #[(i64 1)]) rfl rfl Vo)) (by kernel_rfl)) <| Qj rfl rfl (fun _ _hx => Qw Xx rfl Zz rfl (m107.ext _hx).h3 sZ) <| Kv rfl rfl (fun w108 e108 => Np (Xr rfl rfl) (Wp _ _ _ Cc (Zn (Zj (Zu hL.x3 hL.z3) (Zu hL.x3 hL.z3)) (Zj (Zn hL.x3 hL.z3) (Zn hL.x3 hL.z3))))) <| Kv rfl rfl (fun w111 e111 => oc64 (Xr rfl rfl) (Rk _ _ _ (Zj (Zu hL.x3 hL.z3) (Zu hL.x3 hL.z3)) (Zj Cc (Zn (Zj (Zu hL.x3 hL.z3) (Zu hL.x3 hL.z3)) (Zj (Zn hL.x3 hL.z3) (Zn hL.x3 hL.z3)))))) ?_
   refine Xd (fun w114 e114 => ?_)
   have m114 := m107.ext e114
   refine Za rfl (Np (Xr rfl rfl) (Wp _ _ _ (Zn (Zj (Zu hL.x3 hL.z3) (Zu hL.x3 hL.z3)) (Zj (Zn hL.x3 hL.z3) (Zn hL.x3 hL.z3))) (Zu (Zj (Zu hL.x3 hL.z3) (Zu hL.x3 hL.z3)) (Zj Cc (Zn (Zj (Zu hL.x3 hL.z3) (Zu hL.x3 hL.z3)) (Zj (Zn hL.x3 hL.z3) (Zn hL.x3 hL.z3))))))) ?_
   rintro _ w115 ⟨rfl, e115⟩
   have m115 := m114.ext e115
   refine Zw (Qm (f := i64) (l := Xc (Yb (Xc (Y6 ((Qz (Qp ky) (Q9 u) j).x3) ((Qz (Qp ky) (Q9 u) j).z3)) (Y6 ((Qz (Qp ky) (Q9 u) j).x3) ((Qz (Qp ky) (Q9 u) j).z3))) (Xc (Yb ((Qz (Qp ky) (Q9 u) j).x3) ((Qz (Qp ky) (Q9 u) j).z3)) (Yb ((Qz (Qp ky) (Q9 u) j).x3) ((Qz (Qp ky) (Q9 u) j).z3)))) (Y6 (Xc (Y6 ((Qz (Qp ky) (Q9 u) j).x3) ((Qz (Qp ky) (Q9 u) j).z3)) (Y6 ((Qz (Qp ky) (Q9 u) j).x3) ((Qz (Qp ky) (Q9 u) j).z3))) (Xc ([56129, 1, 0, 0, 0, 0, 0, 0, 0, 0, 0, 0, 0, 0, 0, 0]) (Yb (Xc (Y6 ((Qz (Qp ky) (Q9 u) j).x3) ((Qz (Qp ky) (Q9 u) j).z3)) (Y6 ((Qz (Qp ky) (Q9 u) j).x3) ((Qz (Qp ky) (Q9 u) j).z3))) (Xc (Yb ((Qz (Qp ky) (Q9 u) j).x3) ((Qz (Qp ky) (Q9 u) j).z3)) (Yb ((Qz (Qp ky) (Q9 u) j).x3) ((Qz (Qp ky) (Q9 u) j).z3))))))) Xm Zz s7 rfl sD ((Mem.pick [_, _, _, _, _, _, _, _, _, _, _, _] [_] _ m115)).h0 sZ rfl) ?_
   rintro _ w117 uq117
   have m117 : Mem _ _ [_, _, _, _, _, _, _, _, _, _, _, _, _, _, _, _] := Mem.upd0 (Mem.pick [_, _, _, _, _, _, _, _, _, _, _, _] [_] _ m115) uq117
   refine rN (sR ?_)
   refine rM rfl s11 <| Qa rfl (Qbm (b := 1#8) rfl rfl) <| rN <| Zc rfl hc34 <| sR <| Qa rfl (Qw Xx rfl Zz s8 m117.h3 sZ) <| Qa rfl (Qw Xx rfl Zz s6 m117.h1 sZ) <| Zw (Qm (f := i64) (l := Xc (Y6 (Xc (Yb ((Qz (Qp ky) (Q9 u) j).x2) ((Qz (Qp ky) (Q9 u) j).z2)) (Y6 ((Qz (Qp ky) (Q9 u) j).x3) ((Qz (Qp ky) (Q9 u) j).z3))) (Xc (Y6 ((Qz (Qp ky) (Q9 u) j).x2) ((Qz (Qp ky) (Q9 u) j).z2)) (Yb ((Qz (Qp ky) (Q9 u) j).x3) ((Qz (Qp ky) (Q9 u) j).z3)))) (Y6 (Xc (Yb ((Qz (Qp ky) (Q9 u) j).x2) ((Qz (Qp ky) (Q9 u) j).z2)) (Y6 ((Qz (Qp ky) (Q9 u) j).x3) ((Qz (Qp ky) (Q9 u) j).z3))) (Xc (Y6 ((Qz (Qp ky) (Q9 u) j).x2) ((Qz (Qp ky) (Q9 u) j).z2)) (Yb ((Qz (Qp ky) (Q9 u) j).x3) ((Qz (Qp ky) (Q9 u) j).z3))))) Xm Zz s6 rfl sD m117.h1 sZ rfl) ?_
   rintro _ w118 uq118
   have m118 := m117.upd1 uq118
   refine Zw (Qm (f := i64) (l := Xc (Xc (Y6 ((Qz (Qp ky) (Q9 u) j).x3) ((Qz (Qp ky) (Q9 u) j).z3)) (Y6 ((Qz (Qp ky) (Q9 u) j).x3) ((Qz (Qp ky) (Q9 u) j).z3))) (Xc (Yb ((Qz (Qp ky) (Q9 u) j).x3) ((Qz (Qp ky) (Q9 u) j).z3)) (Yb ((Qz (Qp ky) (Q9 u) j).x3) ((Qz (Qp ky) (Q9 u) j).z3)))) Xm Zz s8 rfl sD m118.h3 sZ rfl) ?_
   rintro _ w119 uq119
   have m119 := m118.upd3 uq119
   refine rN (Qe ?_)
   refine Qa rfl (Qw Xx rfl Zz s9 m119.h2 sZ) <| Qa rfl (Qw Xx rfl Zz s7 m119.h0 sZ) <| Zw (Qm (f := i64) (l := Xc (Q9 u) (Xc (Yb (Xc (Yb ((Qz (Qp ky) (Q9 u) j).x2) ((Qz (Qp ky) (Q9 u) j).z2)) (Y6 ((Qz (Qp ky) (Q9 u) j).x3) ((Qz (Qp ky) (Q9 u) j).z3))) (Xc (Y6 ((Qz (Qp ky) (Q9 u) j).x2) ((Qz (Qp ky) (Q9 u) j).z2)) (Yb ((Qz (Qp ky) (Q9 u) j).x3) ((Qz (Qp ky) (Q9 u) j).z3)))) (Yb (Xc (Yb ((Qz (Qp ky) (Q9 u) j).x2) ((Qz (Qp ky) (Q9 u) j).z2)) (Y6 ((Qz (Qp ky) (Q9 u) j).x3) ((Qz (Qp ky) (Q9 u) j).z3))) (Xc (Y6 ((Qz (Qp ky) (Q9 u) j).x2) ((Qz (Qp ky) (Q9 u) j).z2)) (Yb ((Qz (Qp ky) (Q9 u) j).x3) ((Qz (Qp ky) (Q9 u) j).z3)))))) Xm Zz s7 rfl sD m119.h0 sZ rfl) ?_
   rintro _ w120 uq120
   have m120 := m119.upd0 uq120
   refine Zw (Qm (f := i64) (l := Xc (Yb (Xc (Y6 ((Qz (Qp ky) (Q9 u) j).x3) ((Qz (Qp ky) (Q9 u) j).z3)) (Y6 ((Qz (Qp ky) (Q9 u) j).x3) ((Qz (Qp ky) (Q9 u) j).z3))) (Xc (Yb ((Qz (Qp ky) (Q9 u) j).x3) ((Qz (Qp ky) (Q9 u) j).z3)) (Yb ((Qz (Qp ky) (Q9 u) j).x3) ((Qz (Qp ky) (Q9 u) j).z3)))) (Y6 (Xc (Y6 ((Qz (Qp ky) (Q9 u) j).x3) ((Qz (Qp ky) (Q9 u) j).z3)) (Y6 ((Qz (Qp ky) (Q9 u) j).x3) ((Qz (Qp ky) (Q9 u) j).z3))) (Xc ([56129, 1, 0, 0, 0, 0, 0, 0, 0, 0, 0, 0, 0, 0, 0, 0]) (Yb (Xc (Y6 ((Qz (Qp ky) (Q9 u) j).x3) ((Qz (Qp ky) (Q9 u) j).z3)) (Y6 ((Qz (Qp ky) (Q9 u) j).x3) ((Qz (Qp ky) (Q9 u) j).z3))) (Xc (Yb ((Qz (Qp ky) (Q9 u) j).x3) ((Qz (Qp ky) (Q9 u) j).z3)) (Yb ((Qz (Qp ky) (Q9 u) j).x3) ((Qz (Qp ky) (Q9 u) j).z3))))))) Xm Zz s9 rfl sD m120.h2 sZ rfl) ?_
   rintro _ w121 uq121
   have m121 := m120.upd2 uq121
   refine Zr (Qi (Qe ?_))
   refine rM rfl s10 <| Qa rfl (Zp (b := 1) rfl rfl oM oM) <| Qa rfl (Qc (v := (i64 ((254 - (j : Int)) - 1))) rfl) <| rN ?_
   have m122 := Mem.drop [_] _ (Mem.pick [_, _, _, _] [_] _ m121)
   have m123 := Mem.drop [_] _ (Mem.pick [_, _, _, _] [_] _ m122)
   have m124 := Mem.drop [_] _ (Mem.pick [_, _, _, _] [_] _ m123)
   have m125 := Mem.drop [_] _ (Mem.pick [_, _, _, _] [_] _ m124)
   have m126 := Mem.drop [_] _ (Mem.pick [_, _, _, _] [_] _ m125)
   have m127 := Mem.drop [_] _ (Mem.pick [_, _, _, _] [_] _ m126)
   have m128 := Mem.drop [_] _ (Mem.pick [_, _, _, _] [_] _ m127)
   have m129 := Mem.drop [_] _ (Mem.pick [_, _, _, _] [_] _ m128)
   have m130 := Mem.drop [_] _ (Mem.pick [_, _, _, _] [_] _ m129)
   have m131 := (Mem.pick [_, _, _, _, _, _] [_] _ m130)
   have m132 := (Mem.pick [_, _, _, _, _, _] [_] _ m131)
   have m133 := (Mem.pick [_, _, _, _, _, _] [_] _ m132)
   have m134 := (Mem.pick [_, _, _, _, _] [_] _ m133)
   have m135 := (Mem.pick [_, _, _, _, _, _] [_] _ m134)
   have m136 := (Mem.pick [_, _, _, _, _] [_] _ m135)
   have m137 := (Mem.pick [_, _, _, _, _, _] [_] _ m136)
   exact ⟨⟨j + 1, oM, s0, s1, s2, s3, s4, s5, s6, s7, s8, s9, (show i64 (254 - (j : Int) - 1) = i64 (254 - ((j + 1 : Nat) : Int)) from congrArg i64 oM), (by rw [lad16_t (k := (Qp ky)) (x1 := (Q9 u)) (j := j) hc34]; unfold Na; exact m137)⟩, (by show (RowKit.intOf (i64 (254 - (j : Int) - 1)) + 1).toNat < (RowKit.intOf _ + 1).toNat; rw [z10]; simp only [RowKit.intOf, i64]; omega)⟩
  ·
   have hc34p := ne_of_beq_false hc34
   refine Q7 (Qh (Qg ?_))
   refine Jz (by kernel_rfl) ?_
   refine Qc2 [12, 13, 14, 15] (dl 12) 16 (luN [(12, 12), (13, 13), (14, 14), (15, 15)]) (luN [(12, 109), (13, 109), (14, 109), (15, 109)]) (luV [(12, (agg i64 (List.replicate 16 0))), (13, (agg i64 (List.replicate 16 0))), (14, (agg i64 (List.replicate 16 0))), (15, (agg i64 (List.replicate 16 0)))]) (fun g => g 0 = (agg u8 ky) ∧ g 1 = (agg u8 u) ∧ g 2 = (ptr b2 0) ∧ g 3 = (ptr b3 0) ∧ g 4 = (ptr b4 0) ∧ g 5 = (ptr b5 0) ∧ g 6 = (ptr b6 0) ∧ g 7 = (ptr b7 0) ∧ g 8 = (ptr b8 0) ∧ g 9 = (ptr b9 0) ∧ g 10 = (i64 (254 - (j : Int))) ∧ g 11 = (u8 ((((Qp ky).getD ((254 - j) / 8) 0) >>> (((254 - j) % 8 : Nat) : Int).toNat) &&& 1#8)) ∧ g 38 = (bl (decide (0 ≤ (254 - (j : Int))))) ∧ g 50 = (bl (((((Qp ky).getD ((254 - j) / 8) 0) >>> (((254 - j) % 8 : Nat) : Int).toNat) &&& 1#8) == 1#8)) ∧ g 57 = (agg i64 (Y6 ((Qz (Qp ky) (Q9 u) j).x2) ((Qz (Qp ky) (Q9 u) j).z2))) ∧ g 60 = (agg i64 (Yb ((Qz (Qp ky) (Q9 u) j).x2) ((Qz (Qp ky) (Q9 u) j).z2))) ∧ g 63 = (agg i64 (Y6 ((Qz (Qp ky) (Q9 u) j).x3) ((Qz (Qp ky) (Q9 u) j).z3))) ∧ g 66 = (agg i64 (Yb ((Qz (Qp ky) (Q9 u) j).x3) ((Qz (Qp ky) (Q9 u) j).z3))) ∧ True) m32 (J5 ⟨⟨_, _, _, rfl⟩, rfl, _, _, Zz⟩ (J5 ⟨⟨_, _, _, rfl⟩, rfl, _, _, Zz⟩ (J5 ⟨⟨_, _, _, rfl⟩, rfl, _, _, Zz⟩ (J5 ⟨⟨_, _, _, rfl⟩, rfl, _, _, Zz⟩ N7)))) (fun sx138 hS138 => ?_) ?_
   ·skip
    refine Qj rfl rfl (fun _ _hx => Qw Xx rfl Zz s6 (m32.ext _hx).h0 sZ) <| Qj rfl rfl (fun _ _hx => Qw Xx rfl Zz s7 (m32.ext _hx).h1 sZ) <| Kv rfl rfl (fun w139 e139 => oc64 (Xr rfl rfl) (Rk _ _ _ hL.x2 hL.z2)) <| Qj rfl rfl (fun _ _hx => Qw Xx rfl Zz s6 (m32.ext _hx).h0 sZ) <| Qj rfl rfl (fun _ _hx => Qw Xx rfl Zz s7 (m32.ext _hx).h1 sZ) <| Kv rfl rfl (fun w142 e142 => oc65 (Xr rfl rfl) (Ha _ _ _ hL.x2 hL.z2)) <| Qj rfl rfl (fun _ _hx => Qw Xx rfl Zz s8 (m32.ext _hx).h2 sZ) <| Qj rfl rfl (fun _ _hx => Qw Xx rfl Zz s9 (m32.ext _hx).h3 sZ) <| Kv rfl rfl (fun w145 e145 => oc64 (Xr rfl rfl) (Rk _ _ _ hL.x3 hL.z3)) <| Qj rfl rfl (fun _ _hx => Qw Xx rfl Zz s8 (m32.ext _hx).h2 sZ) <| Qj rfl rfl (fun _ _hx => Qw Xx rfl Zz s9 (m32.ext _hx).h3 sZ) <| Kv rfl rfl (fun w148 e148 => oc65 (Xr rfl rfl) (Ha _ _ _ hL.x3 hL.z3)) ?_
    exact hS138 _ ⟨s0, s1, s2, s3, s4, s5, s6, s7, s8, s9, s10, rfl, rfl, rfl, rfl, rfl, rfl, rfl, trivial⟩
   rintro g151 ⟨s0, s1, s2, s3, s4, s5, s6, s7, s8, s9, s10, s11, s38, s50, s57, s60, s63, s66, _⟩ w153 ps153 hmm153
   have m153 : Mem _ _ [((ps153 12), .cells (cl i64 (List.replicate 16 0)) 109 (0, 0)), ((ps153 13), .cells (cl i64 (List.replicate 16 0)) 109 (0, 0)), ((ps153 14), .cells (cl i64 (List.replicate 16 0)) 109 (0, 0)), ((ps153 15), .cells (cl i64 (List.replicate 16 0)) 109 (0, 0)), _, _, _, _, _, _, _] := hmm153
   show RW _ _ _ _ _ (upd (upd (upd (upd g151 15 (ptr (ps153 15) 0)) 14 (ptr (ps153 14) 0)) 13 (ptr (ps153 13) 0)) 12 (ptr (ps153 12) 0)) _
   generalize ps153 12 = b12_1, ps153 13 = b13_1, ps153 14 = b14_1, ps153 15 = b15_1 at m153 ⊢
   refine Zw (Qm (f := i64) (l := Y6 ((Qz (Qp ky) (Q9 u) j).x2) ((Qz (Qp ky) (Q9 u) j).z2)) Xm Zz rfl s57 sD m153.h0 sZ rfl) ?_
   rintro _ w154 uq154
   have m154 := m153.upd0 uq154
   refine Zw (Qm (f := i64) (l := Yb ((Qz (Qp ky) (Q9 u) j).x2) ((Qz (Qp ky) (Q9 u) j).z2)) Xm Zz rfl s60 sD m154.h1 sZ rfl) ?_
   rintro _ w155 uq155
   have m155 := m154.upd1 uq155
   refine Zw (Qm (f := i64) (l := Y6 ((Qz (Qp ky) (Q9 u) j).x3) ((Qz (Qp ky) (Q9 u) j).z3)) Xm Zz rfl s63 sD m155.h2 sZ rfl) ?_
   rintro _ w156 uq156
   have m156 := m155.upd2 uq156
   refine Zw (Qm (f := i64) (l := Yb ((Qz (Qp ky) (Q9 u) j).x3) ((Qz (Qp ky) (Q9 u) j).z3)) Xm Zz rfl s66 sD m156.h3 sZ rfl) ?_
   rintro _ w157 uq157
   have m157 := m156.upd3 uq157
   refine rN (Qg ?_)
   refine Jz (by kernel_rfl) ?_
   refine Qc2 [12, 13, 14, 15] (dl 12) 16 (luN [(12, 16), (13, 17), (14, 18), (15, 19)]) (luN [(12, 109), (13, 109), (14, 109), (15, 109)]) (luV [(12, (agg i64 (List.replicate 16 0))), (13, (agg i64 (List.replicate 16 0))), (14, (agg i64 (List.replicate 16 0))), (15, (agg i64 (List.replicate 16 0)))]) (fun g => g 0 = (agg u8 ky) ∧ g 1 = (agg u8 u) ∧ g 2 = (ptr b2 0) ∧ g 3 = (ptr b3 0) ∧ g 4 = (ptr b4 0) ∧ g 5 = (ptr b5 0) ∧ g 6 = (ptr b6 0) ∧ g 7 = (ptr b7 0) ∧ g 8 = (ptr b8 0) ∧ g 9 = (ptr b9 0) ∧ g 10 = (i64 (254 - (j : Int))) ∧ g 11 = (u8 ((((Qp ky).getD ((254 - j) / 8) 0) >>> (((254 - j) % 8 : Nat) : Int).toNat) &&& 1#8)) ∧ g 12 = (ptr b12_1 0) ∧ g 13 = (ptr b13_1 0) ∧ g 14 = (ptr b14_1 0) ∧ g 15 = (ptr b15_1 0) ∧ g 38 = (bl (decide (0 ≤ (254 - (j : Int))))) ∧ g 50 = (bl (((((Qp ky).getD ((254 - j) / 8) 0) >>> (((254 - j) % 8 : Nat) : Int).toNat) &&& 1#8) == 1#8)) ∧ g 69 = (agg i64 (Xc (Yb ((Qz (Qp ky) (Q9 u) j).x3) ((Qz (Qp ky) (Q9 u) j).z3)) (Y6 ((Qz (Qp ky) (Q9 u) j).x2) ((Qz (Qp ky) (Q9 u) j).z2)))) ∧ g 72 = (agg i64 (Xc (Y6 ((Qz (Qp ky) (Q9 u) j).x3) ((Qz (Qp ky) (Q9 u) j).z3)) (Yb ((Qz (Qp ky) (Q9 u) j).x2) ((Qz (Qp ky) (Q9 u) j).z2)))) ∧ g 75 = (agg i64 (Xc (Y6 ((Qz (Qp ky) (Q9 u) j).x2) ((Qz (Qp ky) (Q9 u) j).z2)) (Y6 ((Qz (Qp ky) (Q9 u) j).x2) ((Qz (Qp ky) (Q9 u) j).z2)))) ∧ g 78 = (agg i64 (Xc (Yb ((Qz (Qp ky) (Q9 u) j).x2) ((Qz (Qp ky) (Q9 u) j).z2)) (Yb ((Qz (Qp ky) (Q9 u) j).x2) ((Qz (Qp ky) (Q9 u) j).z2)))) ∧ True) m157 (J5 ⟨⟨_, _, _, rfl⟩, rfl, _, _, Zz⟩ (J5 ⟨⟨_, _, _, rfl⟩, rfl, _, _, Zz⟩ (J5 ⟨⟨_, _, _, rfl⟩, rfl, _, _, Zz⟩ (J5 ⟨⟨_, _, _, rfl⟩, rfl, _, _, Zz⟩ N7)))) (fun sx158 hS158 => ?_) ?_
   ·skip
    refine Qj rfl rfl (fun _ _hx => Qw Xx rfl Zz rfl (m157.ext _hx).h3 sZ) <| Qj rfl rfl (fun _ _hx => Qw Xx rfl Zz rfl (m157.ext _hx).h0 sZ) <| Kv rfl rfl (fun w159 e159 => Np (Xr rfl rfl) (Wp _ _ _ (Zn hL.x3 hL.z3) (Zu hL.x2 hL.z2))) <| Qj rfl rfl (fun _ _hx => Qw Xx rfl Zz rfl (m157.ext _hx).h2 sZ) <| Qj rfl rfl (fun _ _hx => Qw Xx rfl Zz rfl (m157.ext _hx).h1 sZ) <| Kv rfl rfl (fun w162 e162 => Np (Xr rfl rfl) (Wp _ _ _ (Zu hL.x3 hL.z3) (Zn hL.x2 hL.z2))) <| Qj rfl rfl (fun _ _hx => Qw Xx rfl Zz rfl (m157.ext _hx).h0 sZ) <| Qj rfl rfl (fun _ _hx => Qw Xx rfl Zz rfl (m157.ext _hx).h0 sZ) <| Kv rfl rfl (fun w165 e165 => Np (Xr rfl rfl) (Wp _ _ _ (Zu hL.x2 hL.z2) (Zu hL.x2 hL.z2))) <| Qj rfl rfl (fun _ _hx => Qw Xx rfl Zz rfl (m157.ext _hx).h1 sZ) <| Qj rfl rfl (fun _ _hx => Qw Xx rfl Zz rfl (m157.ext _hx).h1 sZ) <| Kv rfl rfl (fun w168 e168 => Np (Xr rfl rfl) (Wp _ _ _ (Zn hL.x2 hL.z2) (Zn hL.x2 hL.z2))) ?_
    exact hS158 _ ⟨s0, s1, s2, s3, s4, s5, s6, s7, s8, s9, s10, s11, rfl, rfl, rfl, rfl, s38, s50, rfl, rfl, rfl, rfl, trivial⟩
   rintro g171 ⟨s0, s1, s2, s3, s4, s5, s6, s7, s8, s9, s10, s11, s12, s13, s14, s15, s38, s50, s69, s72, s75, s78, _⟩ w173 ps173 hmm173
   have m173 : Mem _ _ [((ps173 12), .cells (cl i64 (List.replicate 16 0)) 109 (0, 0)), ((ps173 13), .cells (cl i64 (List.replicate 16 0)) 109 (0, 0)), ((ps173 14), .cells (cl i64 (List.replicate 16 0)) 109 (0, 0)), ((ps173 15), .cells (cl i64 (List.replicate 16 0)) 109 (0, 0)), _, _, _, _, _, _, _, _, _, _, _] := hmm173
   show RW _ _ _ _ _ (upd (upd (upd (upd g171 19 (ptr (ps173 15) 0)) 18 (ptr (ps173 14) 0)) 17 (ptr (ps173 13) 0)) 16 (ptr (ps173 12) 0)) _
   generalize ps173 12 = b16_1, ps173 13 = b17_1, ps173 14 = b18_1, ps173 15 = b19_1 at m173 ⊢
   refine Zw (Qm (f := i64) (l := Xc (Yb ((Qz (Qp ky) (Q9 u) j).x3) ((Qz (Qp ky) (Q9 u) j).z3)) (Y6 ((Qz (Qp ky) (Q9 u) j).x2) ((Qz (Qp ky) (Q9 u) j).z2))) Xm Zz rfl s69 sD m173.h0 sZ rfl) ?_
   rintro _ w174 uq174
   have m174 := m173.upd0 uq174
   refine Zw (Qm (f := i64) (l := Xc (Y6 ((Qz (Qp ky) (Q9 u) j).x3) ((Qz (Qp ky) (Q9 u) j).z3)) (Yb ((Qz (Qp ky) (Q9 u) j).x2) ((Qz (Qp ky) (Q9 u) j).z2))) Xm Zz rfl s72 sD m174.h1 sZ rfl) ?_
   rintro _ w175 uq175
   have m175 := m174.upd1 uq175
   refine Zw (Qm (f := i64) (l := Xc (Y6 ((Qz (Qp ky) (Q9 u) j).x2) ((Qz (Qp ky) (Q9 u) j).z2)) (Y6 ((Qz (Qp ky) (Q9 u) j).x2) ((Qz (Qp ky) (Q9 u) j).z2))) Xm Zz rfl s75 sD m175.h2 sZ rfl) ?_
   rintro _ w176 uq176
   have m176 := m175.upd2 uq176
   refine Zw (Qm (f := i64) (l := Xc (Yb ((Qz (Qp ky) (Q9 u) j).x2) ((Qz (Qp ky) (Q9 u) j).z2)) (Yb ((Qz (Qp ky) (Q9 u) j).x2) ((Qz (Qp ky) (Q9 u) j).z2))) Xm Zz rfl s78 sD m176.h3 sZ rfl) ?_
   rintro _ w177 uq177
   have m177 := m176.upd3 uq177
   refine rN (sR ?_)
   refine Qa rfl (Qw Xx rfl Zz rfl m177.h2 sZ) <| Qa rfl (Qw Xx rfl Zz rfl m177.h3 sZ) <| Za rfl (oc65 (Xr rfl rfl) (Ha _ _ _ (Zj (Zu hL.x2 hL.z2) (Zu hL.x2 hL.z2)) (Zj (Zn hL.x2 hL.z2) (Zn hL.x2 hL.z2)))) ?_
   rintro _ w178 ⟨rfl, e178⟩
   have m178 := m177.ext e178
   refine Za rfl (Zg m178 Zz) ?_
   rintro _ w180 ⟨b20_1, rfl, e180, m180⟩
   refine Zw (Qm (f := i64) (l := Yb (Xc (Y6 ((Qz (Qp ky) (Q9 u) j).x2) ((Qz (Qp ky) (Q9 u) j).z2)) (Y6 ((Qz (Qp ky) (Q9 u) j).x2) ((Qz (Qp ky) (Q9 u) j).z2))) (Xc (Yb ((Qz (Qp ky) (Q9 u) j).x2) ((Qz (Qp ky) (Q9 u) j).z2)) (Yb ((Qz (Qp ky) (Q9 u) j).x2) ((Qz (Qp ky) (Q9 u) j).z2)))) Xm Zz rfl rfl sD m180.h0 sZ rfl) ?_
   rintro _ w181 uq181
   have m181 := m180.upd0 uq181
   refine rN (Qg ?_)
   refine Xq (dl 5) 5 (by kernel_rfl) <| Qj rfl rfl (fun _ _hx => Qw Xx rfl Zz rfl (m181.ext _hx).h1 sZ) <| Qj rfl rfl (fun _ _hx => Qw Xx rfl Zz rfl (m181.ext _hx).h2 sZ) <| Kv rfl rfl (fun w182 e182 => oc64 (Xr rfl rfl) (Rk _ _ _ (Zj (Zn hL.x3 hL.z3) (Zu hL.x2 hL.z2)) (Zj (Zu hL.x3 hL.z3) (Zn hL.x2 hL.z2)))) <| Qj rfl rfl (fun _ _hx => Qw Xx rfl Zz rfl (m181.ext _hx).h1 sZ) <| Qj rfl rfl (fun _ _hx => Qw Xx rfl Zz rfl (m181.ext _hx).h2 sZ) ?_
   refine Xd (fun w185 e185 => ?_)
   have m185 := m181.ext e185
   refine Za rfl (oc64 (Xr rfl rfl) (Rk _ _ _ (Zj (Zn hL.x3 hL.z3) (Zu hL.x2 hL.z2)) (Zj (Zu hL.x3 hL.z3) (Zn hL.x2 hL.z2)))) ?_
   rintro _ w186 ⟨rfl, e186⟩
   have m186 := m185.ext e186
   refine Za rfl (Np (Xr rfl rfl) (Wp _ _ _ (Zu (Zj (Zn hL.x3 hL.z3) (Zu hL.x2 hL.z2)) (Zj (Zu hL.x3 hL.z3) (Zn hL.x2 hL.z2))) (Zu (Zj (Zn hL.x3 hL.z3) (Zu hL.x2 hL.z2)) (Zj (Zu hL.x3 hL.z3) (Zn hL.x2 hL.z2))))) ?_
   rintro _ w188 ⟨rfl, e188⟩
   have m188 := m186.ext e188
   refine Zw (Qm (f := i64) (l := Xc (Y6 (Xc (Yb ((Qz (Qp ky) (Q9 u) j).x3) ((Qz (Qp ky) (Q9 u) j).z3)) (Y6 ((Qz (Qp ky) (Q9 u) j).x2) ((Qz (Qp ky) (Q9 u) j).z2))) (Xc (Y6 ((Qz (Qp ky) (Q9 u) j).x3) ((Qz (Qp ky) (Q9 u) j).z3)) (Yb ((Qz (Qp ky) (Q9 u) j).x2) ((Qz (Qp ky) (Q9 u) j).z2)))) (Y6 (Xc (Yb ((Qz (Qp ky) (Q9 u) j).x3) ((Qz (Qp ky) (Q9 u) j).z3)) (Y6 ((Qz (Qp ky) (Q9 u) j).x2) ((Qz (Qp ky) (Q9 u) j).z2))) (Xc (Y6 ((Qz (Qp ky) (Q9 u) j).x3) ((Qz (Qp ky) (Q9 u) j).z3)) (Yb ((Qz (Qp ky) (Q9 u) j).x2) ((Qz (Qp ky) (Q9 u) j).z2))))) Xm Zz s8 rfl sD ((Mem.pick [_, _, _, _, _, _, _, _, _, _, _] [_] _ m188)).h0 sZ rfl) ?_
   rintro _ w190 uq190
   have m190 : Mem _ _ [_, _, _, _, _, _, _, _, _, _, _, _, _, _, _, _] := Mem.upd0 (Mem.pick [_, _, _, _, _, _, _, _, _, _, _] [_] _ m188) uq190
   refine rN (Qg ?_)
   refine Xq (dl 8) 8 (by kernel_rfl) <| Qj rfl rfl (fun _ _hx => Qw Xx rfl Zz s5 ((Mem.pick [_, _, _, _, _, _, _, _, _, _, _, _, _] [_] _ (m190.ext _hx))).h0 sZ) <| Qj rfl rfl (fun _ _hx => Qw Xx rfl Zz rfl (m190.ext _hx).h2 sZ) <| Qj rfl rfl (fun _ _hx => Qw Xx rfl Zz rfl (m190.ext _hx).h3 sZ) <| Kv rfl rfl (fun w191 e191 => oc65 (Xr rfl rfl) (Ha _ _ _ (Zj (Zn hL.x3 hL.z3) (Zu hL.x2 hL.z2)) (Zj (Zu hL.x3 hL.z3) (Zn hL.x2 hL.z2)))) <| Qj rfl rfl (fun _ _hx => Qw Xx rfl Zz rfl (m190.ext _hx).h2 sZ) <| Qj rfl rfl (fun _ _hx => Qw Xx rfl Zz rfl (m190.ext _hx).h3 sZ) <| Kv rfl rfl (fun w194 e194 => oc65 (Xr rfl rfl) (Ha _ _ _ (Zj (Zn hL.x3 hL.z3) (Zu hL.x2 hL.z2)) (Zj (Zu hL.x3 hL.z3) (Zn hL.x2 hL.z2)))) <| Kv rfl rfl (fun w197 e197 => Np (Xr rfl rfl) (Wp _ _ _ (Zn (Zj (Zn hL.x3 hL.z3) (Zu hL.x2 hL.z2)) (Zj (Zu hL.x3 hL.z3) (Zn hL.x2 hL.z2))) (Zn (Zj (Zn hL.x3 hL.z3) (Zu hL.x2 hL.z2)) (Zj (Zu hL.x3 hL.z3) (Zn hL.x2 hL.z2))))) ?_
   refine Xd (fun w200 e200 => ?_)
   have m200 := m190.ext e200
   refine Za rfl (Np (Xr rfl rfl) (Wp _ _ _ (Tt u) (Zj (Zn (Zj (Zn hL.x3 hL.z3) (Zu hL.x2 hL.z2)) (Zj (Zu hL.x3 hL.z3) (Zn hL.x2 hL.z2))) (Zn (Zj (Zn hL.x3 hL.z3) (Zu hL.x2 hL.z2)) (Zj (Zu hL.x3 hL.z3) (Zn hL.x2 hL.z2)))))) ?_
   rintro _ w201 ⟨rfl, e201⟩
   have m201 := m200.ext e201
   refine Zw (Qm (f := i64) (l := Xc (Q9 u) (Xc (Yb (Xc (Yb ((Qz (Qp ky) (Q9 u) j).x3) ((Qz (Qp ky) (Q9 u) j).z3)) (Y6 ((Qz (Qp ky) (Q9 u) j).x2) ((Qz (Qp ky) (Q9 u) j).z2))) (Xc (Y6 ((Qz (Qp ky) (Q9 u) j).x3) ((Qz (Qp ky) (Q9 u) j).z3)) (Yb ((Qz (Qp ky) (Q9 u) j).x2) ((Qz (Qp ky) (Q9 u) j).z2)))) (Yb (Xc (Yb ((Qz (Qp ky) (Q9 u) j).x3) ((Qz (Qp ky) (Q9 u) j).z3)) (Y6 ((Qz (Qp ky) (Q9 u) j).x2) ((Qz (Qp ky) (Q9 u) j).z2))) (Xc (Y6 ((Qz (Qp ky) (Q9 u) j).x3) ((Qz (Qp ky) (Q9 u) j).z3)) (Yb ((Qz (Qp ky) (Q9 u) j).x2) ((Qz (Qp ky) (Q9 u) j).z2)))))) Xm Zz s9 rfl sD ((Mem.pick [_, _, _, _, _, _, _, _, _, _, _, _] [_] _ m201)).h0 sZ rfl) ?_
   rintro _ w203 uq203
   have m203 : Mem _ _ [_, _, _, _, _, _, _, _, _, _, _, _, _, _, _, _] := Mem.upd0 (Mem.pick [_, _, _, _, _, _, _, _, _, _, _, _] [_] _ m201) uq203
   refine rN (sR ?_)
   refine Qa rfl (Qw Xx rfl Zz rfl m203.h5 sZ) <| Qa rfl (Qw Xx rfl Zz rfl ((Mem.pick [_, _, _, _, _, _] [_] _ m203)).h0 sZ) <| Za rfl (Np (Xr rfl rfl) (Wp _ _ _ (Zj (Zu hL.x2 hL.z2) (Zu hL.x2 hL.z2)) (Zj (Zn hL.x2 hL.z2) (Zn hL.x2 hL.z2)))) ?_
   rintro _ w204 ⟨rfl, e204⟩
   have m204 := m203.ext e204
   refine Zw (Qm (f := i64) (l := Xc (Xc (Y6 ((Qz (Qp ky) (Q9 u) j).x2) ((Qz (Qp ky) (Q9 u) j).z2)) (Y6 ((Qz (Qp ky) (Q9 u) j).x2) ((Qz (Qp ky) (Q9 u) j).z2))) (Xc (Yb ((Qz (Qp ky) (Q9 u) j).x2) ((Qz (Qp ky) (Q9 u) j).z2)) (Yb ((Qz (Qp ky) (Q9 u) j).x2) ((Qz (Qp ky) (Q9 u) j).z2)))) Xm Zz s6 rfl sD ((Mem.pick [_, _, _, _, _, _, _, _, _, _, _] [_] _ m204)).h0 sZ rfl) ?_
   rintro _ w206 uq206
   have m206 : Mem _ _ [_, _, _, _, _, _, _, _, _, _, _, _, _, _, _, _] := Mem.upd0 (Mem.pick [_, _, _, _, _, _, _, _, _, _, _] [_] _ m204) uq206
   refine rN (Qg ?_)
   refine Xq (dl 6) 6 (by kernel_rfl) <| Qj rfl rfl (fun _ _hx => Qw Xx rfl Zz rfl (m206.ext _hx).h3 sZ) <| Qj rfl rfl (fun _ _hx => Qw Xx rfl Zz rfl ((Mem.pick [_, _, _, _, _, _] [_] _ (m206.ext _hx))).h0 sZ) <| Qj rfl rfl (fun _ _hx => Ve (c := (cl i64 ([56129, 1, 0, 0, 0, 0, 0, 0, 0, 0, 0, 0, 0, 0, 0, 0]))) Zz Xx Dq (Y2 (i := 0) (v := (i64 56129)) (cs := #[(i64 56129)]) rfl rfl (Y2 (i := 1) (v := (i64 1)) (cs := #[(i64 1)]) rfl rfl Vo)) (by kernel_rfl)) <| Qj rfl rfl (fun _ _hx => Qw Xx rfl Zz rfl (m206.ext _hx).h3 sZ) <| Kv rfl rfl (fun w207 e207 => Np (Xr rfl rfl) (Wp _ _ _ Cc (Zn (Zj (Zu hL.x2 hL.z2) (Zu hL.x2 hL.z2)) (Zj (Zn hL.x2 hL.z2) (Zn hL.x2 hL.z2))))) <| Kv rfl rfl (fun w210 e210 => oc64 (Xr rfl rfl) (Rk _ _ _ (Zj (Zu hL.x2 hL.z2) (Zu hL.x2 hL.z2)) (Zj Cc (Zn (Zj (Zu hL.x2 hL.z2) (Zu hL.x2 hL.z2)) (Zj (Zn hL.x2 hL.z2) (Zn hL.x2 hL.z2)))))) ?_
   refine Xd (fun w213 e213 => ?_)
   have m213 := m206.ext e213
   refine Za rfl (Np (Xr rfl rfl) (Wp _ _ _ (Zn (Zj (Zu hL.x2 hL.z2) (Zu hL.x2 hL.z2)) (Zj (Zn hL.x2 hL.z2) (Zn hL.x2 hL.z2))) (Zu (Zj (Zu hL.x2 hL.z2) (Zu hL.x2 hL.z2)) (Zj Cc (Zn (Zj (Zu hL.x2 hL.z2) (Zu hL.x2 hL.z2)) (Zj (Zn hL.x2 hL.z2) (Zn hL.x2 hL.z2))))))) ?_
   rintro _ w214 ⟨rfl, e214⟩
   have m214 := m213.ext e214
   refine Zw (Qm (f := i64) (l := Xc (Yb (Xc (Y6 ((Qz (Qp ky) (Q9 u) j).x2) ((Qz (Qp ky) (Q9 u) j).z2)) (Y6 ((Qz (Qp ky) (Q9 u) j).x2) ((Qz (Qp ky) (Q9 u) j).z2))) (Xc (Yb ((Qz (Qp ky) (Q9 u) j).x2) ((Qz (Qp ky) (Q9 u) j).z2)) (Yb ((Qz (Qp ky) (Q9 u) j).x2) ((Qz (Qp ky) (Q9 u) j).z2)))) (Y6 (Xc (Y6 ((Qz (Qp ky) (Q9 u) j).x2) ((Qz (Qp ky) (Q9 u) j).z2)) (Y6 ((Qz (Qp ky) (Q9 u) j).x2) ((Qz (Qp ky) (Q9 u) j).z2))) (Xc ([56129, 1, 0, 0, 0, 0, 0, 0, 0, 0, 0, 0, 0, 0, 0, 0]) (Yb (Xc (Y6 ((Qz (Qp ky) (Q9 u) j).x2) ((Qz (Qp ky) (Q9 u) j).z2)) (Y6 ((Qz (Qp ky) (Q9 u) j).x2) ((Qz (Qp ky) (Q9 u) j).z2))) (Xc (Yb ((Qz (Qp ky) (Q9 u) j).x2) ((Qz (Qp ky) (Q9 u) j).z2)) (Yb ((Qz (Qp ky) (Q9 u) j).x2) ((Qz (Qp ky) (Q9 u) j).z2))))))) Xm Zz s7 rfl sD ((Mem.pick [_, _, _, _, _, _, _, _, _, _, _, _] [_] _ m214)).h0 sZ rfl) ?_
   rintro _ w216 uq216
   have m216 : Mem _ _ [_, _, _, _, _, _, _, _, _, _, _, _, _, _, _, _] := Mem.upd0 (Mem.pick [_, _, _, _, _, _, _, _, _, _, _, _] [_] _ m214) uq216
   refine rN (sR ?_)
   refine rM rfl s11 <| Qa rfl (Qbm (b := 1#8) rfl rfl) <| rN <| Yp rfl hc34 ?_
   refine Q7 (Qi (Qe ?_))
   refine rM rfl s10 <| Qa rfl (Zp (b := 1) rfl rfl oM oM) <| Qa rfl (Qc (v := (i64 ((254 - (j : Int)) - 1))) rfl) <| rN ?_
   have m217 := Mem.drop [_] _ (Mem.pick [_, _, _, _] [_] _ m216)
   have m218 := Mem.drop [_] _ (Mem.pick [_, _, _, _] [_] _ m217)
   have m219 := Mem.drop [_] _ (Mem.pick [_, _, _, _] [_] _ m218)
   have m220 := Mem.drop [_] _ (Mem.pick [_, _, _, _] [_] _ m219)
   have m221 := Mem.drop [_] _ (Mem.pick [_, _, _, _] [_] _ m220)
   have m222 := Mem.drop [_] _ (Mem.pick [_, _, _, _] [_] _ m221)
   have m223 := Mem.drop [_] _ (Mem.pick [_, _, _, _] [_] _ m222)
   have m224 := Mem.drop [_] _ (Mem.pick [_, _, _, _] [_] _ m223)
   have m225 := Mem.drop [_] _ (Mem.pick [_, _, _, _] [_] _ m224)
   have m226 := (Mem.pick [_, _, _, _, _, _] [_] _ m225)
   have m227 := (Mem.pick [_, _, _, _, _, _] [_] _ m226)
   have m228 := (Mem.pick [_, _, _, _, _, _] [_] _ m227)
   have m229 := (Mem.pick [_, _, _, _, _] [_] _ m228)
   have m230 := (Mem.pick [_, _, _, _, _, _] [_] _ m229)
   have m231 := (Mem.pick [_, _, _, _, _] [_] _ m230)
   have m232 := (Mem.pick [_, _, _, _, _, _] [_] _ m231)
   exact ⟨⟨j + 1, oM, s0, s1, s2, s3, s4, s5, s6, s7, s8, s9, (show i64 (254 - (j : Int) - 1) = i64 (254 - ((j + 1 : Nat) : Int)) from congrArg i64 oM), (by rw [lad16_f (k := (Qp ky)) (x1 := (Q9 u)) (j := j) hc34]; unfold Na; exact m232)⟩, (by show (RowKit.intOf (i64 (254 - (j : Int) - 1)) + 1).toNat < (RowKit.intOf _ + 1).toNat; rw [z10]; simp only [RowKit.intOf, i64]; omega)⟩
 ·
  have hc33p := of_decide_eq_false hc33
  obtain rfl : j = 255 := by omega
  refine X0 ?_
  refine Qr (Qr (Xf ?_))
  refine Qg <| Xq [(0, false), (1, false), (2, false)] 3 (by kernel_rfl) <| Qj rfl rfl (fun _ _hx => Qw Xx rfl Zz s6 (m32.ext _hx).h0 sZ) <| Qj rfl rfl (fun _ _hx => Qw Xx rfl Zz s7 (m32.ext _hx).h1 sZ) <| Kv rfl rfl (fun w233 e233 => oc68 (Jj rfl) (c_rinv _ _ hL.z2)) ?_
  refine Xd (fun w236 e236 => ?_)
  have m236 := m32.ext e236
  refine Za rfl (Np (Xr rfl rfl) (Wp _ _ _ hL.x2 (Ah hL.z2 255))) ?_
  rintro _ w237 ⟨rfl, e237⟩
  have m237 := m236.ext e237
  refine Za rfl (oc67 (Jj rfl) (c_rwrite _ _ (Zj hL.x2 (Ah hL.z2 255)))) ?_
  rintro _ w239 ⟨rfl, e239⟩
  have m239 := m237.ext e239
  refine Zw (Qm (f := u8) (l := Qab (Xc ((Qz (Qp ky) (Q9 u) 255).x2) (Wh ((Qz (Qp ky) (Q9 u) 255).z2) 255))) Qu Z9 s4 rfl sD m239.h5 sZ rfl) ?_
  rintro _ w241 uq241
  have m241 := m239.upd5 uq241
  refine rN (Xt ?_)
  refine Ze [(agg u8 (Qab (Xc ((Qz (Qp ky) (Q9 u) 255).x2) (Wh ((Qz (Qp ky) (Q9 u) 255).z2) 255))))] ⟨⟨_, s4, Xo X3 rfl Z9 m241.h5 sZ⟩, trivial⟩ ?_
  exact ⟨by unfold V6; rfl, m241.toExt⟩
end Go.Proofs.YtkmiemlpfkfiiaaDoor
