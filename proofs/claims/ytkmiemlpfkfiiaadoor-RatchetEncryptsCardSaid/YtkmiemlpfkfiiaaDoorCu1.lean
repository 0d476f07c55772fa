/- Contracts: the curve, first part. Conditions: none beyond those that each theorem states. -/
import Derived.Test.YtkmiemlpfkfiiaaDoorTab
import Derived.Test.YtkmiemlpfkfiiaaDoorCuM
namespace Go.Proofs.YtkmiemlpfkfiiaaDoor
set_option linter.unusedVariables false
set_option linter.unusedSimpArgs false
theorem c_mul64 (x y : BitVec 64) (w0 : World)   : Xz Tryd.prog 110 #[(u64 x), (u64 y)] w0 (fun r w1 => r = (Value.tuple #[(u64 (Pg x y)), (u64 (x * y))]) ∧ Ext w0 w1) := by
 refine Zd (args := [(u64 x), (u64 y)]) Tryd.func110 rfl Tryd.ntmps110 Tryd.results110 rfl ?_
 have m0 : Mem w0 (Qy w0) [] := Mem.of_world w0
 refine sR <| Qa rfl (Qc (v := (u64 0#64)) rfl) <| Qa rfl (Qc (v := (u64 0#64)) rfl) ?_
 refine rN (sR ?_)
 refine Qa rfl (Qb (v := (u64 x)) rfl) <| Qa rfl (Kz (b := 4294967295#64) rfl rfl) <| Qa rfl (Qc (v := (u64 (x &&& 4294967295#64))) rfl) ?_
 refine rN (sR ?_)
 refine Qa rfl (Qb (v := (u64 x)) rfl) <| Qa rfl (Xy (b := 32) rfl rfl oM) <| Qa rfl (Qc (v := (u64 (x >>> 32))) rfl) ?_
 refine rN (sR ?_)
 refine Qa rfl (Qb (v := (u64 y)) rfl) <| Qa rfl (Kz (b := 4294967295#64) rfl rfl) <| Qa rfl (Qc (v := (u64 (y &&& 4294967295#64))) rfl) ?_
 refine rN (sR ?_)
 refine Qa rfl (Qb (v := (u64 y)) rfl) <| Qa rfl (Xy (b := 32) rfl rfl oM) <| Qa rfl (Qc (v := (u64 (y >>> 32))) rfl) ?_
 refine rN (sR ?_)
 refine Qa rfl (Qb (v := (u64 (x &&& 4294967295#64))) rfl) <| Qa rfl (Qb (v := (u64 (y &&& 4294967295#64))) rfl) <| Qa rfl (Un rfl rfl) <| Qa rfl (Qc (v := (u64 ((x &&& 4294967295#64) * (y &&& 4294967295#64)))) rfl) ?_
 refine rN (sR ?_)
 refine Qa rfl (Qb (v := (u64 (x >>> 32))) rfl) <| Qa rfl (Qb (v := (u64 (y &&& 4294967295#64))) rfl) <| Qa rfl (Un rfl rfl) <| Qa rfl (Qb (v := (u64 ((x &&& 4294967295#64) * (y &&& 4294967295#64)))) rfl) <| Qa rfl (Xy (b := 32) rfl rfl oM) <| Qa rfl (Y3 rfl rfl) <| rA rfl rfl ?_
 refine rN (sR ?_)
 refine rM rfl rfl <| Qa rfl (Kz (b := 4294967295#64) rfl rfl) <| rA rfl rfl ?_
 refine rN (sR ?_)
 refine rM rfl rfl <| Qa rfl (Xy (b := 32) rfl rfl oM) <| rA rfl rfl ?_
 refine rN (sR ?_)
 refine rM rfl rfl <| Qa rfl (Qb (v := (u64 (x &&& 4294967295#64))) rfl) <| Qa rfl (Qb (v := (u64 (y >>> 32))) rfl) <| Qa rfl (Un rfl rfl) <| Qa rfl (Y3 rfl rfl) <| rA rfl rfl ?_
 refine rN (sR ?_)
 refine Qa rfl (Qb (v := (u64 (x >>> 32))) rfl) <| Qa rfl (Qb (v := (u64 (y >>> 32))) rfl) <| Qa rfl (Un rfl rfl) <| rM rfl rfl <| Qa rfl (Y3 rfl rfl) <| rM rfl rfl <| Qa rfl (Xy (b := 32) rfl rfl oM) <| Qa rfl (Y3 rfl rfl) <| rA rfl rfl ?_
 refine rN (sR ?_)
 refine Qa rfl (Qb (v := (u64 x)) rfl) <| Qa rfl (Qb (v := (u64 y)) rfl) <| Qa rfl (Un rfl rfl) <| Qa rfl (Qc (v := (u64 (x * y))) rfl) ?_
 refine rN (Xt ?_)
 refine Ze [(u64 ((((x >>> 32) * (y >>> 32)) + ((((x >>> 32) * (y &&& 4294967295#64)) + (((x &&& 4294967295#64) * (y &&& 4294967295#64)) >>> 32)) >>> 32)) + ((((((x >>> 32) * (y &&& 4294967295#64)) + (((x &&& 4294967295#64) * (y &&& 4294967295#64)) >>> 32)) &&& 4294967295#64) + ((x &&& 4294967295#64) * (y >>> 32))) >>> 32))), (u64 (x * y))] ⟨rfl, rfl, trivial⟩ ?_
 exact ⟨congrArg (fun q => Value.tuple #[u64 q, u64 (x * y)]) (mulHG_eq x y), m0.toExt⟩
theorem c_wadd (bw off : Nat) (l : List (BitVec 64)) (x y : BitVec 64) (w0 : World) (R : Rest) (m0 : Mem w0 R [(bw, .cells (cl u64 l) 147 (0, 0))]) (hl : off + 2 ≤ l.length) : Xz Tryd.prog 99 #[(ptr bw off), (u64 x), (u64 y)] w0 (fun r w1 => r = .tuple #[] ∧ Mem w1 R [(bw, .cells (cl u64 (Ux l off x y)) 147 (0, 0))]) := by
 refine Zd (args := [(ptr bw off), (u64 x), (u64 y)]) Tryd.func99 rfl Tryd.ntmps99 Tryd.results99 rfl <| sR <| Qa rfl (Qb (v := (u64 x)) rfl) <| Qa rfl (Qb (v := (u64 y)) rfl) <| Za rfl (oc110 (Xr rfl rfl) (c_mul64 x y _)) ?_
 rintro _ w1 ⟨rfl, e1⟩
 have m1 := m0.ext e1
 refine Qa rfl (Qb (v := (Value.tuple #[(u64 (Pg x y)), (u64 (x * y))])) rfl) <| Qa (v := (u64 (Pg x y))) rfl (Zo rfl rfl) <| Qa (v := (u64 (x * y))) rfl (Zo rfl rfl) <| Qa rfl (Qc (v := (u64 (Pg x y))) rfl) <| Qa rfl (Qc (v := (u64 (x * y))) rfl) ?_
 refine rN (sR ?_)
 refine Qa rfl (Qc (v := (u64 0#64)) rfl) ?_
 refine rN (sR ?_)
 refine Qa rfl (Qb (v := (ptr bw off)) rfl) <| Qa rfl (Qb (v := (ptr bw off)) rfl) <| Qa rfl (Xb rfl) <| Qa rfl (Xi (r := off + 1) Qfk rfl (by first | rfl | omega) Xh rfl rfl) <| Qa (v := (u64 (l.getD (off + 1) 0))) rfl (Qn X4 rfl rfl m1.h0 (Qx _ _ 0 sD)) <| Qa rfl (Qb (v := (u64 (x * y))) rfl) <| Qa (v := (Value.tuple #[(u64 ((l.getD (off + 1) 0) + (x * y) + 0#64)), (u64 (Vb (l.getD (off + 1) 0) (x * y) 0#64))])) rfl (Qgh (a := (l.getD (off + 1) 0)) (b := (x * y)) (c := 0#64) Tryd.func100 (by kernel_rfl) (by kernel_rfl) (by kernel_rfl) (by kernel_rfl) rfl rfl rfl (by first | decide | exact Qeb _ _ (by decide))) <| rM rfl rfl <| Qa (v := (u64 ((l.getD (off + 1) 0) + (x * y) + 0#64))) rfl (Zo rfl rfl) <| Qa (v := (u64 (Vb (l.getD (off + 1) 0) (x * y) 0#64))) rfl (Zo rfl rfl) <| Qa rfl (Xb rfl) <| Qa rfl (Xi (r := off + 1) Qfk rfl (by first | rfl | omega) Xh rfl rfl) ?_
 refine Zw (Xn (f := u64) (a := (l.getD (off + 1) 0) + (x * y) + 0#64) Xl Xh rfl rfl m1.h0 sD (.inl (Nat.zero_le _))) ?_
 rintro _ w3 uq3
 have m3 := m1.upd0 uq3
 refine Qa rfl (Qc (v := (u64 (Vb (l.getD (off + 1) 0) (x * y) 0#64))) rfl) ?_
 refine rN (Qe ?_)
 refine Qa rfl (Qb (v := (ptr bw off)) rfl) <| Qa rfl (Qb (v := (ptr bw off)) rfl) <| Qa rfl (Xb rfl) <| Qa rfl (Xi (r := off + 0) Qfk rfl (by first | rfl | omega) Xh rfl rfl) <| Qa (v := (u64 ((l.set (off + 1) ((l.getD (off + 1) 0) + (x * y) + 0#64)).getD (off + 0) 0))) rfl (Qn X4 rfl rfl m3.h0 (Qx _ _ 0 sD)) <| Qa rfl (Qb (v := (u64 (Pg x y))) rfl) <| Qa rfl (Qb (v := (u64 (Vb (l.getD (off + 1) 0) (x * y) 0#64))) rfl) <| Qa (v := (Value.tuple #[(u64 (((l.set (off + 1) ((l.getD (off + 1) 0) + (x * y) + 0#64)).getD (off + 0) 0) + (Pg x y) + (Vb (l.getD (off + 1) 0) (x * y) 0#64))), (u64 (Vb ((l.set (off + 1) ((l.getD (off + 1) 0) + (x * y) + 0#64)).getD (off + 0) 0) (Pg x y) (Vb (l.getD (off + 1) 0) (x * y) 0#64)))])) rfl (Qgh (a := ((l.set (off + 1) ((l.getD (off + 1) 0) + (x * y) + 0#64)).getD (off + 0) 0)) (b := (Pg x y)) (c := (Vb (l.getD (off + 1) 0) (x * y) 0#64)) Tryd.func100 (by kernel_rfl) (by kernel_rfl) (by kernel_rfl) (by kernel_rfl) rfl rfl rfl (by first | decide | exact Qeb _ _ (by decide))) <| rM rfl rfl <| Qa (v := (u64 (((l.set (off + 1) ((l.getD (off + 1) 0) + (x * y) + 0#64)).getD (off + 0) 0) + (Pg x y) + (Vb (l.getD (off + 1) 0) (x * y) 0#64)))) rfl (Zo rfl rfl) <| Qa (v := (u64 (Vb ((l.set (off + 1) ((l.getD (off + 1) 0) + (x * y) + 0#64)).getD (off + 0) 0) (Pg x y) (Vb (l.getD (off + 1) 0) (x * y) 0#64)))) rfl (Zo rfl rfl) <| Qa rfl (Xb rfl) ?_
 refine Qa rfl (Xi (r := off + 0) Qfk rfl (by first | rfl | omega) Xh rfl rfl) <| Zw (Xn (f := u64) (a := ((l.set (off + 1) ((l.getD (off + 1) 0) + (x * y) + 0#64)).getD (off + 0) 0) + (Pg x y) + (Vb (l.getD (off + 1) 0) (x * y) 0#64)) Xl Xh rfl rfl m3.h0 sD (.inl (Nat.zero_le _))) ?_
 rintro _ w4 uq4
 have m4 := m3.upd0 uq4
 refine Zr <| Au [] trivial ?_
 exact ⟨rfl, m4⟩
theorem Qfi (l : List (BitVec 64)) (w0 : World)  (hl : l.length = 5) : Xz Tryd.prog 101 #[(agg u64 l)] w0 (fun r w1 => r = (agg u64 (Uf l)) ∧ Ext w0 w1) := by
 refine Zd (args := [(agg u64 l)]) Tryd.func101 rfl Tryd.ntmps101 Tryd.results101 rfl ?_
 have m0 : Mem w0 (Qy w0) [] := Mem.of_world w0
 refine sR <| Za rfl (Z8 (f := u64) (l := l) m0 rfl) ?_
 rintro _ w1 ⟨b1, rfl, _ew1, m1⟩
 refine Za rfl (Zg m1 Ya) ?_
 rintro _ w2 ⟨b2, rfl, _ew2, m2⟩
 refine rN (Qg (sR ?_))
 refine Qa rfl (Qb (v := (i64 0)) rfl) ?_
 refine rN (Qo ?_)
 refine Yo (fun g wv => ∃ (k : Nat) (wl : List (BitVec 64)), (k ≤ 2) ∧ (wl = carN l k) ∧ g 0 = (agg u64 l) ∧ g 1 = (ptr b1 0) ∧ g 2 = (ptr b2 0) ∧ g 5 = (i64 (k : Int)) ∧ Mem wv (Qy w0) [(b2, .cells (cl u64 (List.replicate 5 0)) 126 (0, 0)), (b1, .cells (cl u64 wl) 126 (0, 0))]) (fun g wv => (2 - RowKit.intOf (g 5)).toNat) ?_ ?_
 ·exact ⟨0, l, oM, rfl, rfl, rfl, rfl, rfl, m2⟩
 rintro fr3 w4 ⟨k, wl, hk, hw, s0, s1, s2, s5, m4⟩
 have z5 := s5
 have hwl : wl.length = 5 := by rw [hw, Qkm, hl]
 obtain ⟨e0, e1, e2, e3, e4, rfl⟩ := Qb7 wl hwl
 refine sR <| Qa rfl (Qs (b := 2) s5 rfl) ?_
 refine rN (Qg ?_)
 refine Xv rfl (fun hc5 => ?_) (fun hc5 => ?_)
 ·
  have hc5p := of_decide_eq_true hc5
  refine Q7 (Qh (Qg (Qo (sR ?_))))
  refine Qa rfl (Qc (v := (u64 0#64)) rfl) ?_
  refine rN (Qg (sR ?_))
  refine Qa rfl (Qb (v := (i64 0)) rfl) ?_
  refine rN (Qo ?_)
  refine Kw 6 ?_
  refine Zq (sR ?_)
  refine Qa rfl (Qs (a := 0) (b := 5) rfl rfl) ?_
  refine rN (Qg ?_)
  refine Zc rfl (by decide) ?_
  refine Q7 (Qh (Qg (Qo (sR ?_))))
  refine Qa rfl (Qb (v := (i64 0)) rfl) <| Qa rfl (Qc (v := (i64 0)) rfl) ?_
  refine rN (sR ?_)
  refine Qa rfl (Qb (v := (i64 0)) rfl) <| Qa rfl (Qd (r := 0) (i := 0) oM Xg Xh s1 rfl oM oM) <| Qa (v := (u64 e0)) rfl (Qn X4 rfl rfl m4.h1 (Qx _ _ 0 (by simp))) <| Qa rfl (Qb (v := (u64 0#64)) rfl) <| Qa rfl (Y3 (b := 0#64) rfl rfl) <| Qa rfl (Qd (r := 0) (i := 0) oM Xg Xh s1 rfl oM oM) <| Zw (Zm (f := u64) (l' := [e0 + 0#64, e1, e2, e3, e4]) rfl Xl Xh rfl rfl m4.h1 (by simp) (.inl (Nat.zero_le _))) ?_
  rintro _ w6 uq6
  have m6 := m4.upd1 uq6
  refine rN (sR ?_)
  refine Qa rfl (Qb (v := (i64 0)) rfl) <| Qa rfl (Qd (r := 0) (i := 0) oM Xg Xh s1 rfl oM oM) <| Qa (v := (u64 (e0 + 0#64))) rfl (Qn X4 rfl rfl m6.h1 (Qx _ _ 0 (by simp))) <| Qa rfl (Xy (b := 51) rfl rfl oM) <| Qa rfl (Qc (v := (u64 ((e0 + 0#64) >>> 51))) rfl) ?_
  refine rN (Qe ?_)
  refine Qa rfl (Qb (v := (i64 0)) rfl) <| Qa rfl (Qd (r := 0) (i := 0) oM Xg Xh s1 rfl oM oM) <| Qa (v := (u64 (e0 + 0#64))) rfl (Qn X4 rfl rfl m6.h1 (Qx _ _ 0 (by simp))) <| Qa rfl (Kz (b := 2251799813685247#64) rfl rfl) <| Qa rfl (Qd (r := 0) (i := 0) oM Xg Xh s1 rfl oM oM) <| Zw (Zm (f := u64) (l' := [(e0 + 0#64) &&& 2251799813685247#64, e1, e2, e3, e4]) rfl Xl Xh rfl rfl m6.h1 (by simp) (.inl (Nat.zero_le _))) ?_
  rintro _ w7 uq7
  have m7 := m6.upd1 uq7
  refine Zr (Qi (Qe ?_))
  refine Qa (v := (i64 1)) rfl (Qk (a := 0) (b := 1) rfl rfl oM oM) <| Qa rfl (Qb (v := (i64 1)) rfl) ?_
  refine rN (Zq (sR ?_))
  refine Qa rfl (Qs (a := 1) (b := 5) rfl rfl) ?_
  refine rN (Qg ?_)
  refine Zc rfl (by decide) ?_
  refine Q7 (Qh (Qg (Qo (sR ?_))))
  refine Qa rfl (Qb (v := (i64 1)) rfl) <| Qa rfl (Qc (v := (i64 1)) rfl) ?_
  refine rN (sR ?_)
  refine Qa rfl (Qb (v := (i64 1)) rfl) <| Qa rfl (Qd (r := 1) (i := 1) oM Xg Xh s1 rfl oM oM) <| Qa (v := (u64 e1)) rfl (Qn X4 rfl rfl m7.h1 (Qx _ _ 0 (by simp))) <| Qa rfl (Qb (v := (u64 ((e0 + 0#64) >>> 51))) rfl) <| Qa rfl (Y3 rfl rfl) <| Qa rfl (Qd (r := 1) (i := 1) oM Xg Xh s1 rfl oM oM) <| Zw (Zm (f := u64) (l' := [(e0 + 0#64) &&& 2251799813685247#64, e1 + ((e0 + 0#64) >>> 51), e2, e3, e4]) rfl Xl Xh rfl rfl m7.h1 (by simp) (.inl (Nat.zero_le _))) ?_
  rintro _ w8 uq8
  have m8 := m7.upd1 uq8
  refine rN (sR ?_)
  refine Qa rfl (Qb (v := (i64 1)) rfl) <| Qa rfl (Qd (r := 1) (i := 1) oM Xg Xh s1 rfl oM oM) <| Qa (v := (u64 (e1 + ((e0 + 0#64) >>> 51)))) rfl (Qn X4 rfl rfl m8.h1 (Qx _ _ 0 (by simp))) <| Qa rfl (Xy (b := 51) rfl rfl oM) <| Qa rfl (Qc (v := (u64 ((e1 + ((e0 + 0#64) >>> 51)) >>> 51))) rfl) ?_
  refine rN (Qe ?_)
  refine Qa rfl (Qb (v := (i64 1)) rfl) <| Qa rfl (Qd (r := 1) (i := 1) oM Xg Xh s1 rfl oM oM) <| Qa (v := (u64 (e1 + ((e0 + 0#64) >>> 51)))) rfl (Qn X4 rfl rfl m8.h1 (Qx _ _ 0 (by simp))) <| Qa rfl (Kz (b := 2251799813685247#64) rfl rfl) <| Qa rfl (Qd (r := 1) (i := 1) oM Xg Xh s1 rfl oM oM) <| Zw (Zm (f := u64) (l' := [(e0 + 0#64) &&& 2251799813685247#64, (e1 + ((e0 + 0#64) >>> 51)) &&& 2251799813685247#64, e2, e3, e4]) rfl Xl Xh rfl rfl m8.h1 (by simp) (.inl (Nat.zero_le _))) ?_
  rintro _ w9 uq9
  have m9 := m8.upd1 uq9
  refine Zr (Qi (Qe ?_))
  refine Qa (v := (i64 2)) rfl (Qk (a := 1) (b := 1) rfl rfl oM oM) <| Qa rfl (Qb (v := (i64 2)) rfl) ?_
  refine rN (Zq (sR ?_))
  refine Qa rfl (Qs (a := 2) (b := 5) rfl rfl) ?_
  refine rN (Qg ?_)
  refine Zc rfl (by decide) ?_
  refine Q7 (Qh (Qg (Qo (sR ?_))))
  refine Qa rfl (Qb (v := (i64 2)) rfl) <| Qa rfl (Qc (v := (i64 2)) rfl) ?_
  refine rN (sR ?_)
  refine Qa rfl (Qb (v := (i64 2)) rfl) <| Qa rfl (Qd (r := 2) (i := 2) oM Xg Xh s1 rfl oM oM) <| Qa (v := (u64 e2)) rfl (Qn X4 rfl rfl m9.h1 (Qx _ _ 0 (by simp))) <| Qa rfl (Qb (v := (u64 ((e1 + ((e0 + 0#64) >>> 51)) >>> 51))) rfl) <| Qa rfl (Y3 rfl rfl) <| Qa rfl (Qd (r := 2) (i := 2) oM Xg Xh s1 rfl oM oM) <| Zw (Zm (f := u64) (l' := [(e0 + 0#64) &&& 2251799813685247#64, (e1 + ((e0 + 0#64) >>> 51)) &&& 2251799813685247#64, e2 + ((e1 + ((e0 + 0#64) >>> 51)) >>> 51), e3, e4]) rfl Xl Xh rfl rfl m9.h1 (by simp) (.inl (Nat.zero_le _))) ?_
  rintro _ w10 uq10
  have m10 := m9.upd1 uq10
  refine rN (sR ?_)
  refine Qa rfl (Qb (v := (i64 2)) rfl) <| Qa rfl (Qd (r := 2) (i := 2) oM Xg Xh s1 rfl oM oM) <| Qa (v := (u64 (e2 + ((e1 + ((e0 + 0#64) >>> 51)) >>> 51)))) rfl (Qn X4 rfl rfl m10.h1 (Qx _ _ 0 (by simp))) <| Qa rfl (Xy (b := 51) rfl rfl oM) <| Qa rfl (Qc (v := (u64 ((e2 + ((e1 + ((e0 + 0#64) >>> 51)) >>> 51)) >>> 51))) rfl) ?_
  refine rN (Qe ?_)
  refine Qa rfl (Qb (v := (i64 2)) rfl) <| Qa rfl (Qd (r := 2) (i := 2) oM Xg Xh s1 rfl oM oM) <| Qa (v := (u64 (e2 + ((e1 + ((e0 + 0#64) >>> 51)) >>> 51)))) rfl (Qn X4 rfl rfl m10.h1 (Qx _ _ 0 (by simp))) <| Qa rfl (Kz (b := 2251799813685247#64) rfl rfl) <| Qa rfl (Qd (r := 2) (i := 2) oM Xg Xh s1 rfl oM oM) <| Zw (Zm (f := u64) (l' := [(e0 + 0#64) &&& 2251799813685247#64, (e1 + ((e0 + 0#64) >>> 51)) &&& 2251799813685247#64, (e2 + ((e1 + ((e0 + 0#64) >>> 51)) >>> 51)) &&& 2251799813685247#64, e3, e4]) rfl Xl Xh rfl rfl m10.h1 (by simp) (.inl (Nat.zero_le _))) ?_
  rintro _ w11 uq11
  have m11 := m10.upd1 uq11
  refine Zr (Qi (Qe ?_))
  refine Qa (v := (i64 3)) rfl (Qk (a := 2) (b := 1) rfl rfl oM oM) <| Qa rfl (Qb (v := (i64 3)) rfl) ?_
  refine rN (Zq (sR ?_))
  refine Qa rfl (Qs (a := 3) (b := 5) rfl rfl) ?_
  refine rN (Qg ?_)
  refine Zc rfl (by decide) ?_
  refine Q7 (Qh (Qg (Qo (sR ?_))))
  refine Qa rfl (Qb (v := (i64 3)) rfl) <| Qa rfl (Qc (v := (i64 3)) rfl) ?_
  refine rN (sR ?_)
  refine Qa rfl (Qb (v := (i64 3)) rfl) <| Qa rfl (Qd (r := 3) (i := 3) oM Xg Xh s1 rfl oM oM) <| Qa (v := (u64 e3)) rfl (Qn X4 rfl rfl m11.h1 (Qx _ _ 0 (by simp))) <| Qa rfl (Qb (v := (u64 ((e2 + ((e1 + ((e0 + 0#64) >>> 51)) >>> 51)) >>> 51))) rfl) <| Qa rfl (Y3 rfl rfl) <| Qa rfl (Qd (r := 3) (i := 3) oM Xg Xh s1 rfl oM oM) <| Zw (Zm (f := u64) (l' := [(e0 + 0#64) &&& 2251799813685247#64, (e1 + ((e0 + 0#64) >>> 51)) &&& 2251799813685247#64, (e2 + ((e1 + ((e0 + 0#64) >>> 51)) >>> 51)) &&& 2251799813685247#64, e3 + ((e2 + ((e1 + ((e0 + 0#64) >>> 51)) >>> 51)) >>> 51), e4]) rfl Xl Xh rfl rfl m11.h1 (by simp) (.inl (Nat.zero_le _))) ?_
  rintro _ w12 uq12
  have m12 := m11.upd1 uq12
  refine rN (sR ?_)
  refine Qa rfl (Qb (v := (i64 3)) rfl) <| Qa rfl (Qd (r := 3) (i := 3) oM Xg Xh s1 rfl oM oM) <| Qa (v := (u64 (e3 + ((e2 + ((e1 + ((e0 + 0#64) >>> 51)) >>> 51)) >>> 51)))) rfl (Qn X4 rfl rfl m12.h1 (Qx _ _ 0 (by simp))) <| Qa rfl (Xy (b := 51) rfl rfl oM) <| Qa rfl (Qc (v := (u64 ((e3 + ((e2 + ((e1 + ((e0 + 0#64) >>> 51)) >>> 51)) >>> 51)) >>> 51))) rfl) ?_
  refine rN (Qe ?_)
  refine Qa rfl (Qb (v := (i64 3)) rfl) <| Qa rfl (Qd (r := 3) (i := 3) oM Xg Xh s1 rfl oM oM) <| Qa (v := (u64 (e3 + ((e2 + ((e1 + ((e0 + 0#64) >>> 51)) >>> 51)) >>> 51)))) rfl (Qn X4 rfl rfl m12.h1 (Qx _ _ 0 (by simp))) <| Qa rfl (Kz (b := 2251799813685247#64) rfl rfl) <| Qa rfl (Qd (r := 3) (i := 3) oM Xg Xh s1 rfl oM oM) <| Zw (Zm (f := u64) (l' := [(e0 + 0#64) &&& 2251799813685247#64, (e1 + ((e0 + 0#64) >>> 51)) &&& 2251799813685247#64, (e2 + ((e1 + ((e0 + 0#64) >>> 51)) >>> 51)) &&& 2251799813685247#64, (e3 + ((e2 + ((e1 + ((e0 + 0#64) >>> 51)) >>> 51)) >>> 51)) &&& 2251799813685247#64, e4]) rfl Xl Xh rfl rfl m12.h1 (by simp) (.inl (Nat.zero_le _))) ?_
  rintro _ w13 uq13
  have m13 := m12.upd1 uq13
  refine Zr (Qi ?_)
  refine CW.abs (fun g => g 0 = (agg u64 l) ∧ g 1 = (ptr b1 0) ∧ g 2 = (ptr b2 0) ∧ g 3 = (u64 ((e3 + ((e2 + ((e1 + ((e0 + 0#64) >>> 51)) >>> 51)) >>> 51)) >>> 51)) ∧ g 4 = (i64 3) ∧ g 5 = (i64 (k : Int)) ∧ g 6 = (bl (decide ((k : Int) < 2))) ∧ g 7 = (i64 3) ∧ g 8 = (bl true) ∧ True) ⟨s0, s1, s2, rfl, rfl, s5, rfl, rfl, rfl, trivial⟩ ?_
  rintro fr14 ⟨s0, s1, s2, s3, s4, s5, s6, s7, s8, _⟩
  refine Qe <| Qa (v := (i64 4)) rfl (Qk (a := 3) (b := 1) s7 rfl oM oM) <| Qa rfl (Qb (v := (i64 4)) rfl) ?_
  refine rN (Zq (sR ?_))
  refine Qa rfl (Qs (a := 4) (b := 5) rfl rfl) ?_
  refine rN (Qg ?_)
  refine Zc rfl (by decide) ?_
  refine Q7 (Qh (Qg (Qo (sR ?_))))
  refine Qa rfl (Qb (v := (i64 4)) rfl) <| Qa rfl (Qc (v := (i64 4)) rfl) ?_
  refine rN (sR ?_)
  refine Qa rfl (Qb (v := (i64 4)) rfl) <| Qa rfl (Qd (r := 4) (i := 4) oM Xg Xh s1 rfl oM oM) <| Qa (v := (u64 e4)) rfl (Qn X4 rfl rfl m13.h1 (Qx _ _ 0 (by simp))) <| rM rfl s3 <| Qa rfl (Y3 rfl rfl) <| Qa rfl (Qd (r := 4) (i := 4) oM Xg Xh s1 rfl oM oM) <| Zw (Zm (f := u64) (l' := [(e0 + 0#64) &&& 2251799813685247#64, (e1 + ((e0 + 0#64) >>> 51)) &&& 2251799813685247#64, (e2 + ((e1 + ((e0 + 0#64) >>> 51)) >>> 51)) &&& 2251799813685247#64, (e3 + ((e2 + ((e1 + ((e0 + 0#64) >>> 51)) >>> 51)) >>> 51)) &&& 2251799813685247#64, e4 + ((e3 + ((e2 + ((e1 + ((e0 + 0#64) >>> 51)) >>> 51)) >>> 51)) >>> 51)]) rfl Xl Xh rfl rfl m13.h1 (by simp) (.inl (Nat.zero_le _))) ?_
  rintro _ w15 uq15
  have m15 := m13.upd1 uq15
  refine rN (sR ?_)
  refine Qa rfl (Qb (v := (i64 4)) rfl) <| Qa rfl (Qd (r := 4) (i := 4) oM Xg Xh s1 rfl oM oM) <| Qa (v := (u64 (e4 + ((e3 + ((e2 + ((e1 + ((e0 + 0#64) >>> 51)) >>> 51)) >>> 51)) >>> 51)))) rfl (Qn X4 rfl rfl m15.h1 (Qx _ _ 0 (by simp))) <| Qa rfl (Xy (b := 51) rfl rfl oM) <| rA rfl rfl ?_
  refine rN (Qe ?_)
  refine Qa rfl (Qb (v := (i64 4)) rfl) <| Qa rfl (Qd (r := 4) (i := 4) oM Xg Xh s1 rfl oM oM) <| Qa (v := (u64 (e4 + ((e3 + ((e2 + ((e1 + ((e0 + 0#64) >>> 51)) >>> 51)) >>> 51)) >>> 51)))) rfl (Qn X4 rfl rfl m15.h1 (Qx _ _ 0 (by simp))) <| Qa rfl (Kz (b := 2251799813685247#64) rfl rfl) <| Qa rfl (Qd (r := 4) (i := 4) oM Xg Xh s1 rfl oM oM) <| Zw (Zm (f := u64) (l' := [(e0 + 0#64) &&& 2251799813685247#64, (e1 + ((e0 + 0#64) >>> 51)) &&& 2251799813685247#64, (e2 + ((e1 + ((e0 + 0#64) >>> 51)) >>> 51)) &&& 2251799813685247#64, (e3 + ((e2 + ((e1 + ((e0 + 0#64) >>> 51)) >>> 51)) >>> 51)) &&& 2251799813685247#64, (e4 + ((e3 + ((e2 + ((e1 + ((e0 + 0#64) >>> 51)) >>> 51)) >>> 51)) >>> 51)) &&& 2251799813685247#64]) rfl Xl Xh rfl rfl m15.h1 (by simp) (.inl (Nat.zero_le _))) ?_
  rintro _ w16 uq16
  have m16 := m15.upd1 uq16
  refine Zr (Qi (Qe ?_))
  refine Qa (v := (i64 5)) rfl (Qk (a := 4) (b := 1) rfl rfl oM oM) <| Qa rfl (Qb (v := (i64 5)) rfl) ?_
  refine rN (Zq (sR ?_))
  refine Qa rfl (Qs (a := 5) (b := 5) rfl rfl) ?_
  refine rN (Qg ?_)
  refine Yp rfl (by decide) <| X0 ?_
  refine Qr (Qr (Xf ?_))
  refine Qe <| Qa rfl (Qd (r := 0) (i := 0) oM Xg Xh s1 rfl oM oM) <| Qa (v := (u64 ((e0 + 0#64) &&& 2251799813685247#64))) rfl (Qn X4 rfl rfl m16.h1 (Qx _ _ 0 (by simp))) <| rM rfl rfl <| Qa rfl (Un (a := 19#64) rfl rfl) <| Qa rfl (Y3 rfl rfl) <| Qa rfl (Qd (r := 0) (i := 0) oM Xg Xh s1 rfl oM oM) <| Zw (Zm (f := u64) (l' := [((e0 + 0#64) &&& 2251799813685247#64) + (19#64 * ((e4 + ((e3 + ((e2 + ((e1 + ((e0 + 0#64) >>> 51)) >>> 51)) >>> 51)) >>> 51)) >>> 51)), (e1 + ((e0 + 0#64) >>> 51)) &&& 2251799813685247#64, (e2 + ((e1 + ((e0 + 0#64) >>> 51)) >>> 51)) &&& 2251799813685247#64, (e3 + ((e2 + ((e1 + ((e0 + 0#64) >>> 51)) >>> 51)) >>> 51)) &&& 2251799813685247#64, (e4 + ((e3 + ((e2 + ((e1 + ((e0 + 0#64) >>> 51)) >>> 51)) >>> 51)) >>> 51)) &&& 2251799813685247#64]) rfl Xl Xh rfl rfl m16.h1 (by simp) (.inl (Nat.zero_le _))) ?_
  rintro _ w17 uq17
  have m17 := m16.upd1 uq17
  refine Zr (Qi (Qe ?_))
  refine Qa rfl (Qk (b := 1) s5 rfl oM oM) <| Qa rfl (Qb (v := (i64 ((k : Int) + 1))) rfl) <| rN ?_
  have hwn : [((e0 + 0#64) &&& 2251799813685247#64) + (19#64 * ((e4 + ((e3 + ((e2 + ((e1 + ((e0 + 0#64) >>> 51)) >>> 51)) >>> 51)) >>> 51)) >>> 51)), (e1 + ((e0 + 0#64) >>> 51)) &&& 2251799813685247#64, (e2 + ((e1 + ((e0 + 0#64) >>> 51)) >>> 51)) &&& 2251799813685247#64, (e3 + ((e2 + ((e1 + ((e0 + 0#64) >>> 51)) >>> 51)) >>> 51)) &&& 2251799813685247#64, (e4 + ((e3 + ((e2 + ((e1 + ((e0 + 0#64) >>> 51)) >>> 51)) >>> 51)) >>> 51)) &&& 2251799813685247#64] = carN l (k + 1) := by show _ = Qcm (carN l k); rw [← hw]; rfl
  exact ⟨⟨k + 1, ([((e0 + 0#64) &&& 2251799813685247#64) + (19#64 * ((e4 + ((e3 + ((e2 + ((e1 + ((e0 + 0#64) >>> 51)) >>> 51)) >>> 51)) >>> 51)) >>> 51)), (e1 + ((e0 + 0#64) >>> 51)) &&& 2251799813685247#64, (e2 + ((e1 + ((e0 + 0#64) >>> 51)) >>> 51)) &&& 2251799813685247#64, (e3 + ((e2 + ((e1 + ((e0 + 0#64) >>> 51)) >>> 51)) >>> 51)) &&& 2251799813685247#64, (e4 + ((e3 + ((e2 + ((e1 + ((e0 + 0#64) >>> 51)) >>> 51)) >>> 51)) >>> 51)) &&& 2251799813685247#64]), oM, hwn, s0, s1, s2, rfl, m17⟩, Gl rfl z5 oM oM⟩
 ·
  have hc5p := of_decide_eq_false hc5
  obtain rfl : k = 2 := by omega
  refine X0 ?_
  refine Qr (Qr (Xf ?_))
  refine sR <| Qa rfl (Qw Xg rfl Ya s1 m4.h1 sZ) <| Zw (Qm (f := u64) (l := [e0, e1, e2, e3, e4]) Xl Ya s2 rfl sD m4.h0 sZ rfl) ?_
  rintro _ w18 uq18
  have m18 := m4.upd0 uq18
  refine rN (Xt ?_)
  refine Ze [(agg u64 ([e0, e1, e2, e3, e4]))] ⟨⟨_, s2, Xo Xg rfl Ya m18.h0 sZ⟩, trivial⟩ ?_
  exact ⟨congrArg (agg u64) hw, m18.toExt⟩
theorem Qi9 (a b : List (BitVec 64)) (w0 : World)  (ha : a.length = 5) (hb : b.length = 5) : Xz Tryd.prog 97 #[(agg u64 a), (agg u64 b)] w0 (fun r w1 => r = (agg u64 (Zx a b)) ∧ Ext w0 w1) := by
 refine Zd (args := [(agg u64 a), (agg u64 b)]) Tryd.func97 rfl Tryd.ntmps97 Tryd.results97 rfl ?_
 have m0 : Mem w0 (Qy w0) [] := Mem.of_world w0
 obtain ⟨x0, x1, x2, x3, x4, rfl⟩ := Qb7 a ha
 obtain ⟨y0, y1, y2, y3, y4, rfl⟩ := Qb7 b hb
 refine sR <| Za rfl (Z8 (f := u64) (l := [x0, x1, x2, x3, x4]) m0 rfl) ?_
 rintro _ w1 ⟨b2, rfl, e1, m1⟩
 refine Za rfl (Z8 (f := u64) (l := [y0, y1, y2, y3, y4]) m1 rfl) ?_
 rintro _ w2 ⟨b3, rfl, e2, m2⟩
 refine Za rfl (Zg m2 Ya) ?_
 rintro _ w3 ⟨b4, rfl, e3, m3⟩
 refine rN (Qg (sR ?_))
 refine Qa rfl (Qb (v := (i64 0)) rfl) ?_
 refine rN (Qo ?_)
 refine Kw 6 ?_
 refine Zq (sR ?_)
 refine Qa rfl (Qs (a := 0) (b := 5) rfl rfl) ?_
 refine rN (Qg ?_)
 refine Zc rfl (by decide) ?_
 refine Q7 (Qh (Qg (Qo (sR ?_))))
 refine Qa rfl (Qb (v := (i64 0)) rfl) <| Qa rfl (Qc (v := (i64 0)) rfl) <| rN <| Xq (dl 8) 8 (by kernel_rfl) <| Qj rfl rfl (fun _ _hx => Qb (v := (i64 0)) rfl) <| Qj rfl rfl (fun _ _hx => Qb (v := (i64 0)) rfl) <| Qj rfl rfl (fun _ _hx => Qd (r := 0) (i := 0) oM Xg Xh rfl rfl oM oM) <| Qj (v := (u64 x0)) rfl rfl (fun _ _hx => Qn X4 rfl rfl (m3.ext _hx).h2 (Qx _ _ 0 (by simp))) <| Qj rfl rfl (fun _ _hx => Qb (v := (i64 0)) rfl) <| Qj rfl rfl (fun _ _hx => Qd (r := 0) (i := 0) oM Xg Xh rfl rfl oM oM) <| Qj (v := (u64 y0)) rfl rfl (fun _ _hx => Qn X4 rfl rfl (m3.ext _hx).h1 (Qx _ _ 0 (by simp))) <| Qj rfl rfl (fun _ _hx => Y3 rfl rfl) ?_
 refine Xd (fun w4 e4 => ?_)
 have m4 := m3.ext e4
 refine Qa rfl (Qd (r := 0) (i := 0) oM Xg Xh rfl rfl oM oM) <| Zw (Zm (f := u64) (l' := [x0 + y0, 0, 0, 0, 0]) rfl Xl Xh rfl rfl m4.h0 (by simp) (.inl (Nat.zero_le _))) ?_
 rintro _ w5 uq5
 have m5 := m4.upd0 uq5
 refine Zr (Qi (Qe ?_))
 refine Qa (v := (i64 1)) rfl (Qk (a := 0) (b := 1) rfl rfl oM oM) <| Qa rfl (Qb (v := (i64 1)) rfl) ?_
 refine rN (Zq (sR ?_))
 refine Qa rfl (Qs (a := 1) (b := 5) rfl rfl) ?_
 refine rN (Qg ?_)
 refine Zc rfl (by decide) ?_
 refine Q7 (Qh (Qg (Qo (sR ?_))))
 refine Qa rfl (Qb (v := (i64 1)) rfl) <| Qa rfl (Qc (v := (i64 1)) rfl) <| rN <| Xq (dl 8) 8 (by kernel_rfl) <| Qj rfl rfl (fun _ _hx => Qb (v := (i64 1)) rfl) <| Qj rfl rfl (fun _ _hx => Qb (v := (i64 1)) rfl) <| Qj rfl rfl (fun _ _hx => Qd (r := 1) (i := 1) oM Xg Xh rfl rfl oM oM) <| Qj (v := (u64 x1)) rfl rfl (fun _ _hx => Qn X4 rfl rfl (m5.ext _hx).h2 (Qx _ _ 0 (by simp))) <| Qj rfl rfl (fun _ _hx => Qb (v := (i64 1)) rfl) <| Qj rfl rfl (fun _ _hx => Qd (r := 1) (i := 1) oM Xg Xh rfl rfl oM oM) <| Qj (v := (u64 y1)) rfl rfl (fun _ _hx => Qn X4 rfl rfl (m5.ext _hx).h1 (Qx _ _ 0 (by simp))) <| Qj rfl rfl (fun _ _hx => Y3 rfl rfl) ?_
 refine Xd (fun w6 e6 => ?_)
 have m6 := m5.ext e6
 refine Qa rfl (Qd (r := 1) (i := 1) oM Xg Xh rfl rfl oM oM) <| Zw (Zm (f := u64) (l' := [x0 + y0, x1 + y1, 0, 0, 0]) rfl Xl Xh rfl rfl m6.h0 (by simp) (.inl (Nat.zero_le _))) ?_
 rintro _ w7 uq7
 have m7 := m6.upd0 uq7
 refine Zr (Qi (Qe ?_))
 refine Qa (v := (i64 2)) rfl (Qk (a := 1) (b := 1) rfl rfl oM oM) <| Qa rfl (Qb (v := (i64 2)) rfl) ?_
 refine rN (Zq (sR ?_))
 refine Qa rfl (Qs (a := 2) (b := 5) rfl rfl) ?_
 refine rN (Qg ?_)
 refine Zc rfl (by decide) ?_
 refine Q7 (Qh (Qg (Qo (sR ?_))))
 refine Qa rfl (Qb (v := (i64 2)) rfl) <| Qa rfl (Qc (v := (i64 2)) rfl) <| rN <| Xq (dl 8) 8 (by kernel_rfl) <| Qj rfl rfl (fun _ _hx => Qb (v := (i64 2)) rfl) <| Qj rfl rfl (fun _ _hx => Qb (v := (i64 2)) rfl) <| Qj rfl rfl (fun _ _hx => Qd (r := 2) (i := 2) oM Xg Xh rfl rfl oM oM) <| Qj (v := (u64 x2)) rfl rfl (fun _ _hx => Qn X4 rfl rfl (m7.ext _hx).h2 (Qx _ _ 0 (by simp))) <| Qj rfl rfl (fun _ _hx => Qb (v := (i64 2)) rfl) <| Qj rfl rfl (fun _ _hx => Qd (r := 2) (i := 2) oM Xg Xh rfl rfl oM oM) <| Qj (v := (u64 y2)) rfl rfl (fun _ _hx => Qn X4 rfl rfl (m7.ext _hx).h1 (Qx _ _ 0 (by simp))) <| Qj rfl rfl (fun _ _hx => Y3 rfl rfl) ?_
 refine Xd (fun w8 e8 => ?_)
 have m8 := m7.ext e8
 refine Qa rfl (Qd (r := 2) (i := 2) oM Xg Xh rfl rfl oM oM) <| Zw (Zm (f := u64) (l' := [x0 + y0, x1 + y1, x2 + y2, 0, 0]) rfl Xl Xh rfl rfl m8.h0 (by simp) (.inl (Nat.zero_le _))) ?_
 rintro _ w9 uq9
 have m9 := m8.upd0 uq9
 refine Zr (Qi (Qe ?_))
 refine Qa (v := (i64 3)) rfl (Qk (a := 2) (b := 1) rfl rfl oM oM) <| Qa rfl (Qb (v := (i64 3)) rfl) ?_
 refine rN (Zq (sR ?_))
 refine Qa rfl (Qs (a := 3) (b := 5) rfl rfl) ?_
 refine rN (Qg ?_)
 refine Zc rfl (by decide) ?_
 refine Q7 (Qh (Qg (Qo (sR ?_))))
 refine Qa rfl (Qb (v := (i64 3)) rfl) <| Qa rfl (Qc (v := (i64 3)) rfl) <| rN <| Xq (dl 8) 8 (by kernel_rfl) <| Qj rfl rfl (fun _ _hx => Qb (v := (i64 3)) rfl) <| Qj rfl rfl (fun _ _hx => Qb (v := (i64 3)) rfl) <| Qj rfl rfl (fun _ _hx => Qd (r := 3) (i := 3) oM Xg Xh rfl rfl oM oM) <| Qj (v := (u64 x3)) rfl rfl (fun _ _hx => Qn X4 rfl rfl (m9.ext _hx).h2 (Qx _ _ 0 (by simp))) <| Qj rfl rfl (fun _ _hx => Qb (v := (i64 3)) rfl) <| Qj rfl rfl (fun _ _hx => Qd (r := 3) (i := 3) oM Xg Xh rfl rfl oM oM) <| Qj (v := (u64 y3)) rfl rfl (fun _ _hx => Qn X4 rfl rfl (m9.ext _hx).h1 (Qx _ _ 0 (by simp))) <| Qj rfl rfl (fun _ _hx => Y3 rfl rfl) ?_
 refine Xd (fun w10 e10 => ?_)
 have m10 := m9.ext e10
 refine Qa rfl (Qd (r := 3) (i := 3) oM Xg Xh rfl rfl oM oM) <| Zw (Zm (f := u64) (l' := [x0 + y0, x1 + y1, x2 + y2, x3 + y3, 0]) rfl Xl Xh rfl rfl m10.h0 (by simp) (.inl (Nat.zero_le _))) ?_
 rintro _ w11 uq11
 have m11 := m10.upd0 uq11
 refine Zr (Qi (Qe ?_))
 refine Qa (v := (i64 4)) rfl (Qk (a := 3) (b := 1) rfl rfl oM oM) <| Qa rfl (Qb (v := (i64 4)) rfl) ?_
 refine rN (Zq (sR ?_))
 refine Qa rfl (Qs (a := 4) (b := 5) rfl rfl) ?_
 refine rN (Qg ?_)
 refine Zc rfl (by decide) ?_
 refine Q7 (Qh (Qg (Qo (sR ?_))))
 refine Qa rfl (Qb (v := (i64 4)) rfl) <| Qa rfl (Qc (v := (i64 4)) rfl) <| rN <| Xq (dl 8) 8 (by kernel_rfl) <| Qj rfl rfl (fun _ _hx => Qb (v := (i64 4)) rfl) <| Qj rfl rfl (fun _ _hx => Qb (v := (i64 4)) rfl) <| Qj rfl rfl (fun _ _hx => Qd (r := 4) (i := 4) oM Xg Xh rfl rfl oM oM) <| Qj (v := (u64 x4)) rfl rfl (fun _ _hx => Qn X4 rfl rfl (m11.ext _hx).h2 (Qx _ _ 0 (by simp))) <| Qj rfl rfl (fun _ _hx => Qb (v := (i64 4)) rfl) <| Qj rfl rfl (fun _ _hx => Qd (r := 4) (i := 4) oM Xg Xh rfl rfl oM oM) <| Qj (v := (u64 y4)) rfl rfl (fun _ _hx => Qn X4 rfl rfl (m11.ext _hx).h1 (Qx _ _ 0 (by simp))) <| Qj rfl rfl (fun _ _hx => Y3 rfl rfl) ?_
 refine Xd (fun w12 e12 => ?_)
 have m12 := m11.ext e12
 refine Qa rfl (Qd (r := 4) (i := 4) oM Xg Xh rfl rfl oM oM) <| Zw (Zm (f := u64) (l' := [x0 + y0, x1 + y1, x2 + y2, x3 + y3, x4 + y4]) rfl Xl Xh rfl rfl m12.h0 (by simp) (.inl (Nat.zero_le _))) ?_
 rintro _ w13 uq13
 have m13 := m12.upd0 uq13
 refine Zr (Qi (Qe ?_))
 refine Qa (v := (i64 5)) rfl (Qk (a := 4) (b := 1) rfl rfl oM oM) <| Qa rfl (Qb (v := (i64 5)) rfl) ?_
 refine rN (Zq (sR ?_))
 refine Qa rfl (Qs (a := 5) (b := 5) rfl rfl) ?_
 refine rN (Qg ?_)
 refine Yp rfl (by decide) <| X0 ?_
 refine Qr (Qr (Xf ?_))
 refine sR <| Qa rfl (Qw Xg rfl Ya rfl m13.h0 sZ) <| Za rfl (oc101 (Jj rfl) (Qfi _ _ sD)) ?_
 rintro _ w14 ⟨rfl, e14⟩
 have m14 := m13.ext e14
 refine Zw (Qm (f := u64) (l := Uf ([x0 + y0, x1 + y1, x2 + y2, x3 + y3, x4 + y4])) Xl Ya rfl rfl sD m14.h0 sZ rfl) ?_
 rintro _ w16 uq16
 have m16 := m14.upd0 uq16
 refine rN (Xt ?_)
 refine Ze [(agg u64 (Uf ([x0 + y0, x1 + y1, x2 + y2, x3 + y3, x4 + y4])))] ⟨⟨_, rfl, Xo Xg rfl Ya m16.h0 sZ⟩, trivial⟩ ?_
 exact ⟨rfl, m16.toExt⟩
theorem Qfg (a b : List (BitVec 64)) (w0 : World)  (ha : a.length = 5) (hb : b.length = 5) : Xz Tryd.prog 98 #[(agg u64 a), (agg u64 b)] w0 (fun r w1 => r = (agg u64 (Zf a b)) ∧ Ext w0 w1) := by
 refine Zd (args := [(agg u64 a), (agg u64 b)]) Tryd.func98 rfl Tryd.ntmps98 Tryd.results98 rfl ?_
 have m0 : Mem w0 (Qy w0) [] := Mem.of_world w0
 obtain ⟨x0, x1, x2, x3, x4, rfl⟩ := Qb7 a ha
 obtain ⟨y0, y1, y2, y3, y4, rfl⟩ := Qb7 b hb
 refine sR <| Za rfl (Z8 (f := u64) (l := [x0, x1, x2, x3, x4]) m0 rfl) ?_
 rintro _ w1 ⟨b2, rfl, e1, m1⟩
 refine Za rfl (Z8 (f := u64) (l := [y0, y1, y2, y3, y4]) m1 rfl) ?_
 rintro _ w2 ⟨b3, rfl, e2, m2⟩
 refine Za rfl (Zg m2 Ya) ?_
 rintro _ w3 ⟨b4, rfl, e3, m3⟩
 refine rN (Qg (sR ?_))
 refine Qa rfl (Qb (v := (i64 0)) rfl) ?_
 refine rN (Qo ?_)
 refine Kw 6 ?_
 refine Zq (sR ?_)
 refine Qa rfl (Qs (a := 0) (b := 5) rfl rfl) ?_
 refine rN (Qg ?_)
 refine Zc rfl (by decide) ?_
 refine Q7 (Qh (Qg (Qo (sR ?_))))
 refine Qa rfl (Qb (v := (i64 0)) rfl) <| Qa rfl (Qc (v := (i64 0)) rfl) <| rN <| Xq (dl 9) 9 (by kernel_rfl) <| Qj rfl rfl (fun _ _hx => Qb (v := (i64 0)) rfl) <| Qj rfl rfl (fun _ _hx => Qb (v := (i64 0)) rfl) <| Qj rfl rfl (fun _ _hx => Qd (r := 0) (i := 0) oM Xg Xh rfl rfl oM oM) <| Qj (v := (u64 x0)) rfl rfl (fun _ _hx => Qn X4 rfl rfl (m3.ext _hx).h2 (Qx _ _ 0 (by simp))) <| Qj rfl rfl (fun _ _hx => Y3 (b := 4503599627370494#64) rfl rfl) <| Qj rfl rfl (fun _ _hx => Qb (v := (i64 0)) rfl) <| Qj rfl rfl (fun _ _hx => Qd (r := 0) (i := 0) oM Xg Xh rfl rfl oM oM) <| Qj (v := (u64 y0)) rfl rfl (fun _ _hx => Qn X4 rfl rfl (m3.ext _hx).h1 (Qx _ _ 0 (by simp))) ?_
 refine Qj rfl rfl (fun _ _hx => D5 rfl rfl) ?_
 refine Xd (fun w4 e4 => ?_)
 have m4 := m3.ext e4
 refine Qa rfl (Qd (r := 0) (i := 0) oM Xg Xh rfl rfl oM oM) <| Zw (Zm (f := u64) (l' := [(x0 + 4503599627370494#64) - y0, 0, 0, 0, 0]) rfl Xl Xh rfl rfl m4.h0 (by simp) (.inl (Nat.zero_le _))) ?_
 rintro _ w5 uq5
 have m5 := m4.upd0 uq5
 refine Zr (Qi (Qe ?_))
 refine Qa (v := (i64 1)) rfl (Qk (a := 0) (b := 1) rfl rfl oM oM) <| Qa rfl (Qb (v := (i64 1)) rfl) ?_
 refine rN (Zq (sR ?_))
 refine Qa rfl (Qs (a := 1) (b := 5) rfl rfl) ?_
 refine rN (Qg ?_)
 refine Zc rfl (by decide) ?_
 refine Q7 (Qh (Qg (Qo (sR ?_))))
 refine Qa rfl (Qb (v := (i64 1)) rfl) <| Qa rfl (Qc (v := (i64 1)) rfl) <| rN <| Xq (dl 9) 9 (by kernel_rfl) <| Qj rfl rfl (fun _ _hx => Qb (v := (i64 1)) rfl) <| Qj rfl rfl (fun _ _hx => Qb (v := (i64 1)) rfl) <| Qj rfl rfl (fun _ _hx => Qd (r := 1) (i := 1) oM Xg Xh rfl rfl oM oM) <| Qj (v := (u64 x1)) rfl rfl (fun _ _hx => Qn X4 rfl rfl (m5.ext _hx).h2 (Qx _ _ 0 (by simp))) <| Qj rfl rfl (fun _ _hx => Y3 (b := 4503599627370494#64) rfl rfl) <| Qj rfl rfl (fun _ _hx => Qb (v := (i64 1)) rfl) <| Qj rfl rfl (fun _ _hx => Qd (r := 1) (i := 1) oM Xg Xh rfl rfl oM oM) <| Qj (v := (u64 y1)) rfl rfl (fun _ _hx => Qn X4 rfl rfl (m5.ext _hx).h1 (Qx _ _ 0 (by simp))) ?_
 refine Qj rfl rfl (fun _ _hx => D5 rfl rfl) ?_
 refine Xd (fun w6 e6 => ?_)
 have m6 := m5.ext e6
 refine Qa rfl (Qd (r := 1) (i := 1) oM Xg Xh rfl rfl oM oM) <| Zw (Zm (f := u64) (l' := [(x0 + 4503599627370494#64) - y0, (x1 + 4503599627370494#64) - y1, 0, 0, 0]) rfl Xl Xh rfl rfl m6.h0 (by simp) (.inl (Nat.zero_le _))) ?_
 rintro _ w7 uq7
 have m7 := m6.upd0 uq7
 refine Zr (Qi (Qe ?_))
 refine Qa (v := (i64 2)) rfl (Qk (a := 1) (b := 1) rfl rfl oM oM) <| Qa rfl (Qb (v := (i64 2)) rfl) ?_
 refine rN (Zq (sR ?_))
 refine Qa rfl (Qs (a := 2) (b := 5) rfl rfl) ?_
 refine rN (Qg ?_)
 refine Zc rfl (by decide) ?_
 refine Q7 (Qh (Qg (Qo (sR ?_))))
 refine Qa rfl (Qb (v := (i64 2)) rfl) <| Qa rfl (Qc (v := (i64 2)) rfl) <| rN <| Xq (dl 9) 9 (by kernel_rfl) <| Qj rfl rfl (fun _ _hx => Qb (v := (i64 2)) rfl) <| Qj rfl rfl (fun _ _hx => Qb (v := (i64 2)) rfl) <| Qj rfl rfl (fun _ _hx => Qd (r := 2) (i := 2) oM Xg Xh rfl rfl oM oM) <| Qj (v := (u64 x2)) rfl rfl (fun _ _hx => Qn X4 rfl rfl (m7.ext _hx).h2 (Qx _ _ 0 (by simp))) <| Qj rfl rfl (fun _ _hx => Y3 (b := 4503599627370494#64) rfl rfl) <| Qj rfl rfl (fun _ _hx => Qb (v := (i64 2)) rfl) <| Qj rfl rfl (fun _ _hx => Qd (r := 2) (i := 2) oM Xg Xh rfl rfl oM oM) <| Qj (v := (u64 y2)) rfl rfl (fun _ _hx => Qn X4 rfl rfl (m7.ext _hx).h1 (Qx _ _ 0 (by simp))) ?_
 refine Qj rfl rfl (fun _ _hx => D5 rfl rfl) ?_
 refine Xd (fun w8 e8 => ?_)
 have m8 := m7.ext e8
 refine Qa rfl (Qd (r := 2) (i := 2) oM Xg Xh rfl rfl oM oM) <| Zw (Zm (f := u64) (l' := [(x0 + 4503599627370494#64) - y0, (x1 + 4503599627370494#64) - y1, (x2 + 4503599627370494#64) - y2, 0, 0]) rfl Xl Xh rfl rfl m8.h0 (by simp) (.inl (Nat.zero_le _))) ?_
 rintro _ w9 uq9
 have m9 := m8.upd0 uq9
 refine Zr (Qi (Qe ?_))
 refine Qa (v := (i64 3)) rfl (Qk (a := 2) (b := 1) rfl rfl oM oM) <| Qa rfl (Qb (v := (i64 3)) rfl) ?_
 refine rN (Zq (sR ?_))
 refine Qa rfl (Qs (a := 3) (b := 5) rfl rfl) ?_
 refine rN (Qg ?_)
 refine Zc rfl (by decide) ?_
 refine Q7 (Qh (Qg (Qo (sR ?_))))
 refine Qa rfl (Qb (v := (i64 3)) rfl) <| Qa rfl (Qc (v := (i64 3)) rfl) <| rN <| Xq (dl 9) 9 (by kernel_rfl) <| Qj rfl rfl (fun _ _hx => Qb (v := (i64 3)) rfl) <| Qj rfl rfl (fun _ _hx => Qb (v := (i64 3)) rfl) <| Qj rfl rfl (fun _ _hx => Qd (r := 3) (i := 3) oM Xg Xh rfl rfl oM oM) <| Qj (v := (u64 x3)) rfl rfl (fun _ _hx => Qn X4 rfl rfl (m9.ext _hx).h2 (Qx _ _ 0 (by simp))) <| Qj rfl rfl (fun _ _hx => Y3 (b := 4503599627370494#64) rfl rfl) <| Qj rfl rfl (fun _ _hx => Qb (v := (i64 3)) rfl) <| Qj rfl rfl (fun _ _hx => Qd (r := 3) (i := 3) oM Xg Xh rfl rfl oM oM) <| Qj (v := (u64 y3)) rfl rfl (fun _ _hx => Qn X4 rfl rfl (m9.ext _hx).h1 (Qx _ _ 0 (by simp))) ?_
 refine Qj rfl rfl (fun _ _hx => D5 rfl rfl) ?_
 refine Xd (fun w10 e10 => ?_)
 have m10 := m9.ext e10
 refine Qa rfl (Qd (r := 3) (i := 3) oM Xg Xh rfl rfl oM oM) <| Zw (Zm (f := u64) (l' := [(x0 + 4503599627370494#64) - y0, (x1 + 4503599627370494#64) - y1, (x2 + 4503599627370494#64) - y2, (x3 + 4503599627370494#64) - y3, 0]) rfl Xl Xh rfl rfl m10.h0 (by simp) (.inl (Nat.zero_le _))) ?_
 rintro _ w11 uq11
 have m11 := m10.upd0 uq11
 refine Zr (Qi (Qe ?_))
 refine Qa (v := (i64 4)) rfl (Qk (a := 3) (b := 1) rfl rfl oM oM) <| Qa rfl (Qb (v := (i64 4)) rfl) ?_
 refine rN (Zq (sR ?_))
 refine Qa rfl (Qs (a := 4) (b := 5) rfl rfl) ?_
 refine rN (Qg ?_)
 refine Zc rfl (by decide) ?_
 refine Q7 (Qh (Qg (Qo (sR ?_))))
 refine Qa rfl (Qb (v := (i64 4)) rfl) <| Qa rfl (Qc (v := (i64 4)) rfl) <| rN <| Xq (dl 9) 9 (by kernel_rfl) <| Qj rfl rfl (fun _ _hx => Qb (v := (i64 4)) rfl) <| Qj rfl rfl (fun _ _hx => Qb (v := (i64 4)) rfl) <| Qj rfl rfl (fun _ _hx => Qd (r := 4) (i := 4) oM Xg Xh rfl rfl oM oM) <| Qj (v := (u64 x4)) rfl rfl (fun _ _hx => Qn X4 rfl rfl (m11.ext _hx).h2 (Qx _ _ 0 (by simp))) <| Qj rfl rfl (fun _ _hx => Y3 (b := 4503599627370494#64) rfl rfl) <| Qj rfl rfl (fun _ _hx => Qb (v := (i64 4)) rfl) <| Qj rfl rfl (fun _ _hx => Qd (r := 4) (i := 4) oM Xg Xh rfl rfl oM oM) <| Qj (v := (u64 y4)) rfl rfl (fun _ _hx => Qn X4 rfl rfl (m11.ext _hx).h1 (Qx _ _ 0 (by simp))) ?_
 refine Qj rfl rfl (fun _ _hx => D5 rfl rfl) ?_
 refine Xd (fun w12 e12 => ?_)
 have m12 := m11.ext e12
 refine Qa rfl (Qd (r := 4) (i := 4) oM Xg Xh rfl rfl oM oM) <| Zw (Zm (f := u64) (l' := [(x0 + 4503599627370494#64) - y0, (x1 + 4503599627370494#64) - y1, (x2 + 4503599627370494#64) - y2, (x3 + 4503599627370494#64) - y3, (x4 + 4503599627370494#64) - y4]) rfl Xl Xh rfl rfl m12.h0 (by simp) (.inl (Nat.zero_le _))) ?_
 rintro _ w13 uq13
 have m13 := m12.upd0 uq13
 refine Zr (Qi (Qe ?_))
 refine Qa (v := (i64 5)) rfl (Qk (a := 4) (b := 1) rfl rfl oM oM) <| Qa rfl (Qb (v := (i64 5)) rfl) ?_
 refine rN (Zq (sR ?_))
 refine Qa rfl (Qs (a := 5) (b := 5) rfl rfl) ?_
 refine rN (Qg ?_)
 refine Yp rfl (by decide) <| X0 ?_
 refine Qr (Qr (Xf ?_))
 refine sR <| Qa rfl (Qd (r := 0) (i := 0) oM Xg Xh rfl rfl oM oM) <| Qa (v := (u64 ((x0 + 4503599627370494#64) - y0))) rfl (Qn X4 rfl rfl m13.h0 (Qx _ _ 0 (by simp))) <| Qa rfl (D5 (b := 36#64) rfl rfl) <| Qa rfl (Qd (r := 0) (i := 0) oM Xg Xh rfl rfl oM oM) <| Zw (Zm (f := u64) (l' := [((x0 + 4503599627370494#64) - y0) - 36#64, (x1 + 4503599627370494#64) - y1, (x2 + 4503599627370494#64) - y2, (x3 + 4503599627370494#64) - y3, (x4 + 4503599627370494#64) - y4]) rfl Xl Xh rfl rfl m13.h0 (by simp) (.inl (Nat.zero_le _))) ?_
 rintro _ w14 uq14
 have m14 := m13.upd0 uq14
 refine rN ?_
 refine CW.abs (fun g => g 0 = (agg u64 ([x0, x1, x2, x3, x4])) ∧ g 1 = (agg u64 ([y0, y1, y2, y3, y4])) ∧ g 2 = (ptr b2 0) ∧ g 3 = (ptr b3 0) ∧ g 4 = (ptr b4 0) ∧ g 5 = (i64 4) ∧ g 6 = (i64 5) ∧ g 7 = (bl false) ∧ True) ⟨rfl, rfl, rfl, rfl, rfl, rfl, rfl, rfl, trivial⟩ ?_
 rintro fr15 ⟨s0, s1, s2, s3, s4, s5, s6, s7, _⟩
 refine sR <| Qa rfl (Qw Xg rfl Ya s4 m14.h0 sZ) <| Za rfl (oc101 (Jj rfl) (Qfi _ _ sD)) ?_
 rintro _ w16 ⟨rfl, e16⟩
 have m16 := m14.ext e16
 refine Zw (Qm (f := u64) (l := Uf ([((x0 + 4503599627370494#64) - y0) - 36#64, (x1 + 4503599627370494#64) - y1, (x2 + 4503599627370494#64) - y2, (x3 + 4503599627370494#64) - y3, (x4 + 4503599627370494#64) - y4])) Xl Ya s4 rfl sD m16.h0 sZ rfl) ?_
 rintro _ w18 uq18
 have m18 := m16.upd0 uq18
 refine rN (Xt ?_)
 refine Ze [(agg u64 (Uf ([((x0 + 4503599627370494#64) - y0) - 36#64, (x1 + 4503599627370494#64) - y1, (x2 + 4503599627370494#64) - y2, (x3 + 4503599627370494#64) - y3, (x4 + 4503599627370494#64) - y4])))] ⟨⟨_, s4, Xo Xg rfl Ya m18.h0 sZ⟩, trivial⟩ ?_
 exact ⟨rfl, m18.toExt⟩
set_option maxHeartbeats 1000000 in
theorem U6 (a b : List (BitVec 64)) (w0 : World)  (ha : a.length = 5) (hb : b.length = 5) : Xz Tryd.prog 81 #[(agg u64 a), (agg u64 b)] w0 (fun r w1 => r = (agg u64 (Qq a b)) ∧ Ext w0 w1) := by
 refine Zd (args := [(agg u64 a), (agg u64 b)]) Tryd.func81 rfl Tryd.ntmps81 Tryd.results81 rfl ?_
 have m0 : Mem w0 (Qy w0) [] := Mem.of_world w0
 refine sR <| Za rfl (Z8 (f := u64) (l := a) m0 rfl) ?_
 rintro _ w1 ⟨b2, rfl, e1, m1⟩
 refine Za rfl (Z8 (f := u64) (l := b) m1 rfl) ?_
 rintro _ w2 ⟨b3, rfl, e2, m2⟩
 refine Za rfl (Zg m2 Ya) ?_
 rintro _ w3 ⟨b4, rfl, e3, m3⟩
 refine rN (sR ?_)
 refine Za rfl (Zg m3 ti147) ?_
 rintro _ w4 ⟨b5, rfl, e4, m4⟩
 refine rN (Qg (sR ?_))
 refine Qa rfl (Qw Xg rfl Ya rfl m4.h3 sZ) <| Qa rfl (Qb (v := (i64 0)) rfl) ?_
 refine rN (Qo ?_)
 refine Yo (fun g wv => ∃ (i : Nat) (wl : List (BitVec 64)), (i ≤ 5) ∧ (wl = Vy a b i) ∧ g 0 = (agg u64 a) ∧ g 1 = (agg u64 b) ∧ g 2 = (ptr b2 0) ∧ g 3 = (ptr b3 0) ∧ g 4 = (ptr b4 0) ∧ g 5 = (ptr b5 0) ∧ g 17 = (agg u64 a) ∧ g 18 = (i64 (i : Int)) ∧ Mem wv (Qy w0) [(b5, .cells (cl u64 wl) 147 (0, 0)), (b4, .cells (cl u64 (List.replicate 5 0)) 126 (0, 0)), (b3, .cells (cl u64 b) 126 (0, 0)), (b2, .cells (cl u64 a) 126 (0, 0))]) (fun g wv => (5 - RowKit.intOf (g 18)).toNat) ?_ ?_
 ·exact ⟨0, (List.replicate 10 0), oM, rfl, rfl, rfl, rfl, rfl, rfl, rfl, rfl, rfl, m4⟩
 rintro fr5 w6 ⟨i, wl, hi, hw, s0, s1, s2, s3, s4, s5, s17, s18, m6⟩
 have z18 := s18
 have hwl : wl.length = 10 := by rw [hw, Qdt]
 refine sR <| Qa rfl (Qs (b := 5) s18 rfl) ?_
 refine rN (Qg ?_)
 refine Xv rfl (fun hc7 => ?_) (fun hc7 => ?_)
 ·
  have hc7p := of_decide_eq_true hc7
  refine Q7 (Qh (Qg (Qo (sR ?_))))
  refine rM rfl s18 <| Qa (v := (u64 (a.getD i 0))) rfl (Y4 Xg X4 rfl Xh s17 s18 oM sD (Qx _ _ 0 sD)) <| Qa rfl (Qc (v := (i64 (i : Int))) rfl) <| Qa rfl (Qc (v := (u64 (a.getD i 0))) rfl) ?_
  refine rN (sR ?_)
  refine Qa rfl (Qw Xg rfl Ya s3 m6.h2 sZ) <| Qa rfl (Qb (v := (i64 0)) rfl) ?_
  refine rN (Vq ?_)
  refine Yo (fun g wv => ∃ (k : Nat) (wk : List (BitVec 64)), (k ≤ 5) ∧ (wk = Hg a b i wl k) ∧ g 0 = (agg u64 a) ∧ g 1 = (agg u64 b) ∧ g 2 = (ptr b2 0) ∧ g 3 = (ptr b3 0) ∧ g 4 = (ptr b4 0) ∧ g 5 = (ptr b5 0) ∧ g 6 = (i64 (i : Int)) ∧ g 7 = (u64 (a.getD i 0)) ∧ g 17 = (agg u64 a) ∧ g 18 = (i64 (i : Int)) ∧ g 19 = (bl (decide ((i : Int) < 5))) ∧ g 22 = (agg u64 b) ∧ g 23 = (i64 (k : Int)) ∧ Mem wv (Qy w0) [(b5, .cells (cl u64 wk) 147 (0, 0)), (b4, .cells (cl u64 (List.replicate 5 0)) 126 (0, 0)), (b3, .cells (cl u64 b) 126 (0, 0)), (b2, .cells (cl u64 a) 126 (0, 0))]) (fun g wv => (5 - RowKit.intOf (g 23)).toNat) ?_ ?_
  ·exact ⟨0, wl, oM, rfl, s0, s1, s2, s3, s4, s5, rfl, rfl, s17, s18, rfl, rfl, rfl, m6⟩
  rintro fr8 w9 ⟨k, wk, hk, hwk, s0, s1, s2, s3, s4, s5, s6, s7, s17, s18, s19, s22, s23, m9⟩
  have z23 := s23
  have hwkl : wk.length = 10 := by rw [hwk, Ti, hwl]
  refine sR <| Qa rfl (Qs (b := 5) s23 rfl) ?_
  refine rN (Qg ?_)
  refine Xv rfl (fun hc10 => ?_) (fun hc10 => ?_)
  ·
   have hc10p := of_decide_eq_true hc10
   refine Q7 (Qh (Qg (Qo (sR ?_))))
   refine rM rfl s23 <| Qa (v := (u64 (b.getD k 0))) rfl (Y4 Xg X4 rfl Xh s22 s23 oM sD (Qx _ _ 0 sD)) <| Qa rfl (Qc (v := (i64 (k : Int))) rfl) <| Qa rfl (Qc (v := (u64 (b.getD k 0))) rfl) ?_
   refine rN (sR ?_)
   refine rM rfl s6 <| Qa rfl (Qb (v := (i64 (k : Int))) rfl) <| Qa rfl (Jf.cast (congrArg i64 (show (i : Int) + (k : Int) = ((i + k : Nat) : Int) by omega)) (Qk rfl rfl oM oM)) <| Qa rfl (Qc (v := (i64 ((i + k : Nat) : Int))) rfl) ?_
   refine rN (sR ?_)
   refine Qa rfl (Qb (v := (i64 ((i + k : Nat) : Int))) rfl) <| Qa rfl (Qs (b := 5) rfl rfl) <| rN ?_
   refine Xv rfl (fun hc11 => ?_) (fun hc11 => ?_)
   ·
    have hc11p := of_decide_eq_true hc11
    refine Qe <| Qa rfl (Qb (v := (i64 ((i + k : Nat) : Int))) rfl) <| Qa rfl (Qd (r := (i + k) * 2) oM uT147 Qjg s5 rfl oM sD) <| rM rfl s7 <| Qa rfl (Qb (v := (u64 (b.getD k 0))) rfl) ?_
    have hF13 : Mem _ _ ([(b5, .cells (cl u64 wk) 147 (0, 0))] ++ ([_, _, _])) := m9
    refine Za rfl (oc99 (Vx rfl rfl rfl) (c_wadd b5 ((i + k) * 2) wk (a.getD i 0) (b.getD k 0) _ _ (Mem.give hF13) sD)) ?_
    rintro _ w12 ⟨rfl, k_w12⟩
    have m12 : Mem _ _ [_, _, _, _] := Mem.back hF13 k_w12
    refine Zr (Qi (Qe ?_))
    refine Qa rfl (Qk (b := 1) s23 rfl oM oM) <| Qa rfl (Qb (v := (i64 ((k : Int) + 1))) rfl) <| rN ?_
    have hwn : Ux wk ((i + k) * 2) (a.getD i 0) (b.getD k 0) = Hg a b i wl (k + 1) := by rw [hwk]; exact Qnh oM
    exact ⟨⟨k + 1, (Ux wk ((i + k) * 2) (a.getD i 0) (b.getD k 0)), oM, hwn, s0, s1, s2, s3, s4, s5, s6, s7, s17, s18, s19, s22, rfl, m12⟩, Gl rfl z23 oM oM⟩
   ·
    have hc11p := of_decide_eq_false hc11
    refine Qe <| Qa rfl (Qb (v := (i64 ((i + k : Nat) : Int))) rfl) <| Qa rfl (Jf.cast (congrArg i64 (show ((i + k : Nat) : Int) - 5 = ((i + k - 5 : Nat) : Int) by omega)) (Zp (b := 5) rfl rfl oM oM)) <| Qa rfl (Qd (r := (i + k - 5) * 2) oM uT147 Qjg s5 rfl oM sD) <| rM rfl s7 <| Qa rfl (Un (a := 19#64) rfl rfl) <| Qa rfl (Qb (v := (u64 (b.getD k 0))) rfl) ?_
    have hF16 : Mem _ _ ([(b5, .cells (cl u64 wk) 147 (0, 0))] ++ ([_, _, _])) := m9
    refine Za rfl (oc99 (Vx rfl rfl rfl) (c_wadd b5 ((i + k - 5) * 2) wk (19#64 * (a.getD i 0)) (b.getD k 0) _ _ (Mem.give hF16) sD)) ?_
    rintro _ w15 ⟨rfl, k_w15⟩
    have m15 : Mem _ _ [_, _, _, _] := Mem.back hF16 k_w15
    refine Zr (Qi (Qe ?_))
    refine Qa rfl (Qk (b := 1) s23 rfl oM oM) <| Qa rfl (Qb (v := (i64 ((k : Int) + 1))) rfl) <| rN ?_
    have hwn : Ux wk ((i + k - 5) * 2) (19#64 * (a.getD i 0)) (b.getD k 0) = Hg a b i wl (k + 1) := by rw [hwk]; exact Qni oM
    exact ⟨⟨k + 1, (Ux wk ((i + k - 5) * 2) (19#64 * (a.getD i 0)) (b.getD k 0)), oM, hwn, s0, s1, s2, s3, s4, s5, s6, s7, s17, s18, s19, s22, rfl, m15⟩, Gl rfl z23 oM oM⟩
  ·
   have hc10p := of_decide_eq_false hc10
   obtain rfl : k = 5 := by omega
   refine X0 ?_
   refine Qr (Qr (Xf ?_))
   refine Qi (Qe ?_)
   refine Qa rfl (Qk (b := 1) s18 rfl oM oM) <| Qa rfl (Qb (v := (i64 ((i : Int) + 1))) rfl) <| rN ?_
   have hwo : wk = Vy a b (i + 1) := by rw [hwk, hw]; rfl
   exact ⟨⟨i + 1, wk, oM, hwo, s0, s1, s2, s3, s4, s5, s17, rfl, m9⟩, Gl rfl z18 oM oM⟩
 ·
  have hc7p := of_decide_eq_false hc7
  obtain rfl : i = 5 := by omega
  refine X0 ?_
  refine Qr (Qr (Xf ?_))
  refine sR <| Qa rfl (Qc (v := (u64 0#64)) rfl) ?_
  refine rN (Qg (sR ?_))
  refine Qa rfl (Qw uT147 rfl ti147 s5 m6.h0 sZ) <| Qa rfl (Qb (v := (i64 0)) rfl) ?_
  refine rN (Qo ?_)
  refine Yo (fun g wv => ∃ (i : Nat), (i ≤ 5) ∧ g 0 = (agg u64 a) ∧ g 1 = (agg u64 b) ∧ g 2 = (ptr b2 0) ∧ g 3 = (ptr b3 0) ∧ g 4 = (ptr b4 0) ∧ g 5 = (ptr b5 0) ∧ g 11 = (u64 (U3 wl i)) ∧ g 17 = (agg u64 a) ∧ g 18 = (i64 (5 : Int)) ∧ g 19 = (bl (decide ((5 : Int) < 5))) ∧ g 46 = (agg u64 wl) ∧ g 47 = (i64 (i : Int)) ∧ Mem wv (Qy w0) [(b5, .cells (cl u64 wl) 147 (0, 0)), (b4, .cells (cl u64 (Yk (U2 wl) 0 5 i)) 126 (0, 0)), (b3, .cells (cl u64 b) 126 (0, 0)), (b2, .cells (cl u64 a) 126 (0, 0))]) (fun g wv => (5 - RowKit.intOf (g 47)).toNat) ?_ ?_
  ·exact ⟨0, oM, s0, s1, s2, s3, s4, s5, rfl, s17, s18, rfl, rfl, rfl, (by rw [Fa]; exact m6)⟩
  rintro fr18 w19 ⟨i, hi, s0, s1, s2, s3, s4, s5, s11, s17, s18, s19, s46, s47, m19⟩
  have z47 := s47
  have z11 := s11
  have hfl : (Yk (U2 wl) (0 : BitVec 64) 5 i).length = 5 := Jl _ _ _ _ hi
  refine sR <| Qa rfl (Qs (b := 5) s47 rfl) ?_
  refine rN (Qg ?_)
  refine Xv rfl (fun hc20 => ?_) (fun hc20 => ?_)
  ·
   have hc20p := of_decide_eq_true hc20
   refine Q7 (Qh (Qg (Qo (sR ?_))))
   refine rM rfl s47 <| Qa (v := (agg u64 ([wl.getD (i * 2) 0, wl.getD ((i * 2) + 1) 0]))) rfl (Qi5 (l := wl) (i := ((i : Int) : Int)) 0 uT147 Qfk rfl Qjg s46 s47 oM sD oM) <| Za rfl (Yj m19 Qjg) ?_
   rintro _ w21 ⟨b13, rfl, e21, m21⟩
   refine Qa rfl (Qc (v := (i64 (i : Int))) rfl) <| Zw (Qm (f := u64) (l := [wl.getD (i * 2) 0, wl.getD ((i * 2) + 1) 0]) Xl Qjg rfl rfl sD m21.h0 rfl rfl) ?_
   rintro _ w22 uq22
   have m22 := m21.upd0 uq22
   refine rN (sR ?_)
   refine Qa rfl (Xi (r := 1) Qfk rfl (by first | rfl | omega) Xh rfl rfl) <| Qa (v := (u64 (wl.getD ((i * 2) + 1) 0))) rfl (Qn X4 rfl rfl m22.h0 (Qx _ _ 0 (by simp))) <| rM rfl s11 <| Qa (v := (Value.tuple #[(u64 ((wl.getD ((i * 2) + 1) 0) + (U3 wl i) + 0#64)), (u64 (Vb (wl.getD ((i * 2) + 1) 0) (U3 wl i) 0#64))])) rfl (Qgh (a := (wl.getD ((i * 2) + 1) 0)) (b := (U3 wl i)) (c := 0#64) Tryd.func100 (by kernel_rfl) (by kernel_rfl) (by kernel_rfl) (by kernel_rfl) rfl rfl rfl (by first | decide | exact Qeb _ _ (by decide))) <| rM rfl rfl <| Qa (v := (u64 ((wl.getD ((i * 2) + 1) 0) + (U3 wl i) + 0#64))) rfl (Zo rfl rfl) <| Qa (v := (u64 (Vb (wl.getD ((i * 2) + 1) 0) (U3 wl i) 0#64))) rfl (Zo rfl rfl) <| Qa rfl (Qc (v := (u64 ((wl.getD ((i * 2) + 1) 0) + (U3 wl i) + 0#64))) rfl) <| Qa rfl (Qc (v := (u64 (Vb (wl.getD ((i * 2) + 1) 0) (U3 wl i) 0#64))) rfl) ?_
   refine rN (sR ?_)
   refine Qa rfl (Xi (r := 0) Qfk rfl (by first | rfl | omega) Xh rfl rfl) <| Qa (v := (u64 (wl.getD (i * 2) 0))) rfl (Qn X4 rfl rfl m22.h0 (Qx _ _ 0 (by simp))) <| Qa rfl (Qb (v := (u64 (Vb (wl.getD ((i * 2) + 1) 0) (U3 wl i) 0#64))) rfl) <| Qa rfl (Y3 rfl rfl) <| rA rfl rfl ?_
   refine rN (sR ?_)
   refine Qa rfl (Qb (v := (i64 (i : Int))) rfl) <| Qa rfl (Qb (v := (u64 ((wl.getD ((i * 2) + 1) 0) + (U3 wl i) + 0#64))) rfl) <| Qa rfl (Kz (b := 2251799813685247#64) rfl rfl) <| Qa rfl (Qd (r := i) oM Xg Xh s4 rfl oM sD) <| Zw (Xn (f := u64) (a := ((wl.getD ((i * 2) + 1) 0) + (U3 wl i) + 0#64) &&& 2251799813685247#64) Xl Xh rfl rfl m22.h2 sD (.inl (Nat.zero_le _))) ?_
   rintro _ w23 uq23
   have m23 := m22.upd2 uq23
   refine rN (Qe ?_)
   refine rM rfl rfl <| Qa rfl (Um (b := 13) rfl rfl oM) <| Qa rfl (Qb (v := (u64 ((wl.getD ((i * 2) + 1) 0) + (U3 wl i) + 0#64))) rfl) <| Qa rfl (Xy (b := 51) rfl rfl oM) <| Qa rfl (Qh2 rfl rfl) <| rA rfl rfl ?_
   refine Zr (Qi (Qe ?_))
   refine Qa rfl (Qk (b := 1) s47 rfl oM oM) <| Qa rfl (Qb (v := (i64 ((i : Int) + 1))) rfl) <| rN ?_
   have m24 := Mem.drop [_] _ m23
   exact ⟨⟨i + 1, oM, s0, s1, s2, s3, s4, s5, rfl, s17, s18, s19, s46, rfl, (by rw [← Fh (U2 wl) (0 : BitVec 64) (n := 5) (k := i) oM _ rfl]; exact m24)⟩, Gl rfl z47 oM oM⟩
  ·
   have hc20p := of_decide_eq_false hc20
   obtain rfl : i = 5 := by omega
   have hmF25 := m19
   rw [filled5] at hmF25
   refine X0 ?_
   refine Qr (Qr (Xf ?_))
   refine sR <| Qa rfl (Qd (r := 0) (i := 0) oM Xg Xh s4 rfl oM oM) <| Qa (v := (u64 (U2 wl 0))) rfl (Qn X4 rfl rfl hmF25.h1 (Qx _ _ 0 (by simp))) <| rM rfl s11 <| Qa rfl (Kz (b := 2251799813685247#64) rfl rfl) <| Qa rfl (Un (a := 19#64) rfl rfl) <| Qa rfl (Y3 rfl rfl) <| Qa rfl (Qd (r := 0) (i := 0) oM Xg Xh s4 rfl oM oM) <| Zw (Zm (f := u64) (l' := [(U2 wl 0) + (19#64 * ((U3 wl 5) &&& 2251799813685247#64)), U2 wl 1, U2 wl 2, U2 wl 3, U2 wl 4]) rfl Xl Xh rfl rfl hmF25.h1 (by simp) (.inl (Nat.zero_le _))) ?_
   rintro _ w26 uq26
   have m26 := hmF25.upd1 uq26
   refine rN (sR ?_)
   refine Qa rfl (Qd (r := 1) (i := 1) oM Xg Xh s4 rfl oM oM) <| Qa (v := (u64 (U2 wl 1))) rfl (Qn X4 rfl rfl m26.h1 (Qx _ _ 0 (by simp))) <| rM rfl s11 <| Qa rfl (Xy (b := 51) rfl rfl oM) <| Qa rfl (Un (a := 19#64) rfl rfl) <| Qa rfl (Y3 rfl rfl) <| Qa rfl (Qd (r := 1) (i := 1) oM Xg Xh s4 rfl oM oM) <| Zw (Zm (f := u64) (l' := [(U2 wl 0) + (19#64 * ((U3 wl 5) &&& 2251799813685247#64)), (U2 wl 1) + (19#64 * ((U3 wl 5) >>> 51)), U2 wl 2, U2 wl 3, U2 wl 4]) rfl Xl Xh rfl rfl m26.h1 (by simp) (.inl (Nat.zero_le _))) ?_
   rintro _ w27 uq27
   have m27 := m26.upd1 uq27
   refine rN (sR ?_)
   refine Qa rfl (Qw Xg rfl Ya s4 m27.h1 sZ) <| Za rfl (oc101 (Jj rfl) (Qfi _ _ sD)) ?_
   rintro _ w28 ⟨rfl, e28⟩
   have m28 := m27.ext e28
   refine Zw (Qm (f := u64) (l := Uf ([(U2 wl 0) + (19#64 * ((U3 wl 5) &&& 2251799813685247#64)), (U2 wl 1) + (19#64 * ((U3 wl 5) >>> 51)), U2 wl 2, U2 wl 3, U2 wl 4])) Xl Ya s4 rfl sD m28.h1 sZ rfl) ?_
   rintro _ w30 uq30
   have m30 := m28.upd1 uq30
   refine rN (Xt ?_)
   refine Ze [(agg u64 (Uf ([(U2 wl 0) + (19#64 * ((U3 wl 5) &&& 2251799813685247#64)), (U2 wl 1) + (19#64 * ((U3 wl 5) >>> 51)), U2 wl 2, U2 wl 3, U2 wl 4])))] ⟨⟨_, s4, Xo Xg rfl Ya m30.h1 sZ⟩, trivial⟩ ?_
   exact ⟨congrArg (agg u64) (by rw [hw]; rfl), m30.toExt⟩
theorem c_cread (u : List (BitVec 8)) (w0 : World)  (hu : u.length = 32) : Xz Tryd.prog 79 #[(agg u8 u)] w0 (fun r w1 => r = (agg u64 (Yt u)) ∧ Ext w0 w1) := by
 refine Zd (args := [(agg u8 u)]) Tryd.func79 rfl Tryd.ntmps79 Tryd.results79 rfl ?_
 have m0 : Mem w0 (Qy w0) [] := Mem.of_world w0
 refine sR <| Za rfl (Z8 (f := u8) (l := u) m0 rfl) ?_
 rintro _ w1 ⟨b1, rfl, e1, m1⟩
 refine Za rfl (Zg m1 Ya) ?_
 rintro _ w2 ⟨b2, rfl, e2, m2⟩
 refine rN (Qg (sR ?_))
 refine Qa rfl (Qb (v := (i64 0)) rfl) ?_
 refine rN (Qo ?_)
 refine Yo (fun g wv => ∃ (i : Nat), (i ≤ 255) ∧ g 0 = (agg u8 u) ∧ g 1 = (ptr b1 0) ∧ g 2 = (ptr b2 0) ∧ g 4 = (i64 (i : Int)) ∧ Mem wv (Qy w0) [(b2, .cells (cl u64 (Ff u i)) 126 (0, 0)), (b1, .cells (cl u8 u) 23 (0, 0))]) (fun g wv => (255 - RowKit.intOf (g 4)).toNat) ?_ ?_
 ·exact ⟨0, oM, rfl, rfl, rfl, rfl, m2⟩
 rintro fr3 w4 ⟨i, hi, s0, s1, s2, s4, m4⟩
 have z4 := s4
 have hrl := Dt u i
 refine sR <| Qa rfl (Qs (b := 255) s4 rfl) ?_
 refine rN (Qg ?_)
 refine Xv rfl (fun hc5 => ?_) (fun hc5 => ?_)
 ·
  have hc5p := of_decide_eq_true hc5
  refine Q7 (Qh (Qg (Qo (sR ?_))))
  refine rM rfl s4 <| Qa rfl (Qc (v := (i64 (i : Int))) rfl) <| rN <| Xq (dl 16) 16 (by kernel_rfl) <| Qj rfl rfl (fun _ _hx => Qb (v := (i64 (i : Int))) rfl) <| Qj rfl rfl (fun _ _hx => Jf.cast (congrArg i64 (show (i : Int) / 51 = ((i / 51 : Nat) : Int) by omega)) (Wy (b := 51) rfl rfl oM oM oM)) <| Qj rfl rfl (fun _ _hx => Qd (r := (i / 51)) oM Xg Xh s2 rfl oM sD) <| Qj (v := (u64 ((Ff u i).getD (i / 51) 0))) rfl rfl (fun _ _hx => Qn X4 rfl rfl (m4.ext _hx).h0 (Qx _ _ 0 sD)) <| Qj rfl rfl (fun _ _hx => Qb (v := (i64 (i : Int))) rfl) <| Qj rfl rfl (fun _ _hx => Jf.cast (congrArg i64 (show (i : Int) / 8 = ((i / 8 : Nat) : Int) by omega)) (Wy (b := 8) rfl rfl oM oM oM)) <| Qj rfl rfl (fun _ _hx => Qd (r := (i / 8)) oM X3 X6 s1 rfl oM sD) <| Qj (v := (u8 (u.getD (i / 8) 0))) rfl rfl (fun _ _hx => Qn Vm rfl rfl (m4.ext _hx).h1 (Qx _ _ 0 sD)) ?_
  refine Qj rfl rfl (fun _ _hx => Qb (v := (i64 (i : Int))) rfl) <| Qj rfl rfl (fun _ _hx => Jf.cast (congrArg i64 (show (i : Int) % 8 = ((i % 8 : Nat) : Int) by omega)) (Jy (b := 8) rfl rfl oM oM oM)) <| Qj rfl rfl (fun _ _hx => Qd6 rfl rfl oM) <| Qj rfl rfl (fun _ _hx => Qd7 (b := 1#8) rfl rfl) <| Qj rfl rfl (fun _ _hx => Qgg ⟨_, Vm⟩ X4 rfl) <| Qj rfl rfl (fun _ _hx => Qb (v := (i64 (i : Int))) rfl) <| Qj rfl rfl (fun _ _hx => Jf.cast (congrArg i64 (show (i : Int) % 51 = ((i % 51 : Nat) : Int) by omega)) (Jy (b := 51) rfl rfl oM oM oM)) <| Qj rfl rfl (fun _ _hx => Um rfl rfl oM) ?_
  refine Xd (fun w6 e6 => ?_)
  have m6 := m4.ext e6
  refine Qa rfl (Qh2 rfl rfl) <| Qa rfl (Qd (r := (i / 51)) oM Xg Xh s2 rfl oM sD) <| Zw (Xn (f := u64) (a := ((Ff u i).getD (i / 51) 0) ||| (((((u.getD (i / 8) 0) >>> ((i % 8 : Nat) : Int).toNat) &&& 1#8).setWidth 64) <<< ((i % 51 : Nat) : Int).toNat)) Xl Xh rfl rfl m6.h0 sD (.inl (Nat.zero_le _))) ?_
  rintro _ w7 uq7
  have m7 := m6.upd0 uq7
  refine Zr (Qi (Qe ?_))
  refine Qa rfl (Qk (b := 1) s4 rfl oM oM) <| Qa rfl (Qb (v := (i64 ((i : Int) + 1))) rfl) <| rN ?_
  exact ⟨⟨i + 1, oM, s0, s1, s2, rfl, m7⟩, Gl rfl z4 oM oM⟩
 ·
  have hc5p := of_decide_eq_false hc5
  obtain rfl : i = 255 := by omega
  have hrl := Dt u 255
  refine X0 ?_
  refine Qr (Qr (Xf ?_))
  refine sR <| Qa rfl (Qw Xg rfl Ya s2 m4.h0 sZ) <| Zw (Qm (f := u64) (l := Ff u 255) Xl Ya s2 rfl sD m4.h0 sZ rfl) ?_
  rintro _ w8 uq8
  have m8 := m4.upd0 uq8
  refine rN (Xt ?_)
  refine Ze [(agg u64 (Ff u 255))] ⟨⟨_, s2, Xo Xg rfl Ya m8.h0 sZ⟩, trivial⟩ ?_
  exact ⟨rfl, m8.toExt⟩
end Go.Proofs.YtkmiemlpfkfiiaaDoor
