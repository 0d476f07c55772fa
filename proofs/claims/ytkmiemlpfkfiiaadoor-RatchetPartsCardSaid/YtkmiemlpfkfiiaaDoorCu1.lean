/- Contracts: the curve, first part. Conditions: none beyond those that each theorem states. -/
import Derived.Test.YtkmiemlpfkfiiaaDoorTab
import Derived.Test.YtkmiemlpfkfiiaaDoorCuM
namespace Go.Proofs.YtkmiemlpfkfiiaaDoor
open Tryd
set_option linter.unusedVariables false
set_option linter.unusedSimpArgs false
theorem c_mul64 (x y : BitVec 64) (w0 : World)   : X9 prog 110 #[(u64 x), (u64 y)] w0 (fun r w1 => r = (Value.tuple #[(u64 (Qax x y)), (u64 (x * y))]) ∧ Ext w0 w1) := by
 refine Zb (args := [(u64 x), (u64 y)]) func110 rfl ntmps110 results110 rfl ?_
 have m0 : Mem w0 (Qu w0) [] := Mem.of_world w0
 refine sR <| Zz (u64 0#64) <| Zz (u64 0#64) ?_
 refine rN (sR ?_)
 refine Zp (u64 x) <| Qd (Vw (b := 4294967295#64) rfl rfl) <| Zz (u64 (x &&& 4294967295#64)) ?_
 refine rN (sR ?_)
 refine Zp (u64 x) <| Qd (Yf (b := 32) rfl rfl oM) <| Zz (u64 (x >>> 32)) ?_
 refine rN (sR ?_)
 refine Zp (u64 y) <| Qd (Vw (b := 4294967295#64) rfl rfl) <| Zz (u64 (y &&& 4294967295#64)) ?_
 refine rN (sR ?_)
 refine Zp (u64 y) <| Qd (Yf (b := 32) rfl rfl oM) <| Zz (u64 (y >>> 32)) ?_
 refine rN (sR ?_)
 refine Zp (u64 (x &&& 4294967295#64)) <| Zp (u64 (y &&& 4294967295#64)) <| Qd (Ez rfl rfl) <| Zz (u64 ((x &&& 4294967295#64) * (y &&& 4294967295#64))) ?_
 refine rN (sR ?_)
 refine Zp (u64 (x >>> 32)) <| Zp (u64 (y &&& 4294967295#64)) <| Qd (Ez rfl rfl) <| Zp (u64 ((x &&& 4294967295#64) * (y &&& 4294967295#64))) <| Qd (Yf (b := 32) rfl rfl oM) <| Qd (J6 rfl rfl) <| Sz rfl ?_
 refine rN (sR ?_)
 refine Ya rfl <| Qd (Vw (b := 4294967295#64) rfl rfl) <| Sz rfl ?_
 refine rN (sR ?_)
 refine Ya rfl <| Qd (Yf (b := 32) rfl rfl oM) <| Sz rfl ?_
 refine rN (sR ?_)
 refine Ya rfl <| Zp (u64 (x &&& 4294967295#64)) <| Zp (u64 (y >>> 32)) <| Qd (Ez rfl rfl) <| Qd (J6 rfl rfl) <| Sz rfl ?_
 refine rN (sR ?_)
 refine Zp (u64 (x >>> 32)) <| Zp (u64 (y >>> 32)) <| Qd (Ez rfl rfl) <| Ya rfl <| Qd (J6 rfl rfl) <| Ya rfl <| Qd (Yf (b := 32) rfl rfl oM) <| Qd (J6 rfl rfl) <| Sz rfl ?_
 refine rN (sR ?_)
 refine Zp (u64 x) <| Zp (u64 y) <| Qd (Ez rfl rfl) <| Zz (u64 (x * y)) ?_
 refine rN (Xb ?_)
 refine Qv [(u64 ((((x >>> 32) * (y >>> 32)) + ((((x >>> 32) * (y &&& 4294967295#64)) + (((x &&& 4294967295#64) * (y &&& 4294967295#64)) >>> 32)) >>> 32)) + ((((((x >>> 32) * (y &&& 4294967295#64)) + (((x &&& 4294967295#64) * (y &&& 4294967295#64)) >>> 32)) &&& 4294967295#64) + ((x &&& 4294967295#64) * (y >>> 32))) >>> 32))), (u64 (x * y))] ⟨rfl, rfl, trivial⟩ ?_
 exact ⟨congrArg (fun q => Value.tuple #[u64 q, u64 (x * y)]) (mulHG_eq x y), m0.toExt⟩
theorem c_wadd (bw off : Nat) (l : List (BitVec 64)) (x y : BitVec 64) (w0 : World) (R : Rest) (m0 : Mem w0 R [(bw, .cells (cl u64 l) 147 (0, 0))]) (hl : off + 2 ≤ l.length) : X9 prog 99 #[(ptr bw off), (u64 x), (u64 y)] w0 (fun r w1 => r = .tuple #[] ∧ Mem w1 R [(bw, .cells (cl u64 (Di l off x y)) 147 (0, 0))]) := by
 refine Zb (args := [(ptr bw off), (u64 x), (u64 y)]) func99 rfl ntmps99 results99 rfl <| sR <| Zp (u64 x) <| Zp (u64 y) <| U9 m0 (oc110 (Xm rfl rfl) (c_mul64 x y _)) fun w1 m1 => Zp (Value.tuple #[(u64 (Qax x y)), (u64 (x * y))]) <| Qd (v := (u64 (Qax x y))) (Zm rfl rfl) <| Qd (v := (u64 (x * y))) (Zm rfl rfl) <| Zz (u64 (Qax x y)) <| Zz (u64 (x * y)) ?_
 refine rN (sR ?_)
 refine Zz (u64 0#64) ?_
 refine rN (sR ?_)
 refine Zp (ptr bw off) <| Zp (ptr bw off) <| Qd (Zh rfl) <| Qd (Zr (r := off + 1) Qii rfl Jr Xu rfl rfl) <| Qd (v := (u64 (l.getD (off + 1) 0))) (Ql Ym rfl rfl m1.h0 (Qx _ _ 0 sD)) <| Zp (u64 (x * y)) <| Qd (v := (Value.tuple #[(u64 ((l.getD (off + 1) 0) + (x * y) + 0#64)), (u64 (Gp (l.getD (off + 1) 0) (x * y) 0#64))])) (Qji (a := (l.getD (off + 1) 0)) (b := (x * y)) (c := 0#64) func100 Xw Xw Xw Xw rfl rfl rfl (by first | decide | exact Qgz _ _ Jg)) <| Ya rfl <| Qd (v := (u64 ((l.getD (off + 1) 0) + (x * y) + 0#64))) (Zm rfl rfl) <| Qd (v := (u64 (Gp (l.getD (off + 1) 0) (x * y) 0#64))) (Zm rfl rfl) <| Qd (Zh rfl) <| Qd (Zr (r := off + 1) Qii rfl Jr Xu rfl rfl) ?_
 refine Ye m1 (Xz (f := u64) (a := (l.getD (off + 1) 0) + (x * y) + 0#64) Xy Xu rfl rfl m1.h0 sD (.inl (Nat.zero_le _))) fun w3 m3 => Zz (u64 (Gp (l.getD (off + 1) 0) (x * y) 0#64)) ?_
 refine rN (Qb ?_)
 refine Zp (ptr bw off) <| Zp (ptr bw off) <| Qd (Zh rfl) <| Qd (Zr (r := off + 0) Qii rfl Jr Xu rfl rfl) <| Qd (v := (u64 ((l.set (off + 1) ((l.getD (off + 1) 0) + (x * y) + 0#64)).getD (off + 0) 0))) (Ql Ym rfl rfl m3.h0 (Qx _ _ 0 sD)) <| Zp (u64 (Qax x y)) <| Zp (u64 (Gp (l.getD (off + 1) 0) (x * y) 0#64)) <| Qd (v := (Value.tuple #[(u64 (((l.set (off + 1) ((l.getD (off + 1) 0) + (x * y) + 0#64)).getD (off + 0) 0) + (Qax x y) + (Gp (l.getD (off + 1) 0) (x * y) 0#64))), (u64 (Gp ((l.set (off + 1) ((l.getD (off + 1) 0) + (x * y) + 0#64)).getD (off + 0) 0) (Qax x y) (Gp (l.getD (off + 1) 0) (x * y) 0#64)))])) (Qji (a := ((l.set (off + 1) ((l.getD (off + 1) 0) + (x * y) + 0#64)).getD (off + 0) 0)) (b := (Qax x y)) (c := (Gp (l.getD (off + 1) 0) (x * y) 0#64)) func100 Xw Xw Xw Xw rfl rfl rfl (by first | decide | exact Qgz _ _ Jg)) <| Ya rfl <| Qd (v := (u64 (((l.set (off + 1) ((l.getD (off + 1) 0) + (x * y) + 0#64)).getD (off + 0) 0) + (Qax x y) + (Gp (l.getD (off + 1) 0) (x * y) 0#64)))) (Zm rfl rfl) <| Qd (v := (u64 (Gp ((l.set (off + 1) ((l.getD (off + 1) 0) + (x * y) + 0#64)).getD (off + 0) 0) (Qax x y) (Gp (l.getD (off + 1) 0) (x * y) 0#64)))) (Zm rfl rfl) <| Qd (Zh rfl) ?_
 refine Qd (Zr (r := off + 0) Qii rfl Jr Xu rfl rfl) <| Ye m3 (Xz (f := u64) (a := ((l.set (off + 1) ((l.getD (off + 1) 0) + (x * y) + 0#64)).getD (off + 0) 0) + (Qax x y) + (Gp (l.getD (off + 1) 0) (x * y) 0#64)) Xy Xu rfl rfl m3.h0 sD (.inl (Nat.zero_le _))) fun w4 m4 => Zv <| Ld [] trivial ?_
 exact ⟨rfl, m4⟩
theorem Qie (l : List (BitVec 64)) (w0 : World)  (hl : l.length = 5) : X9 prog 101 #[(agg u64 l)] w0 (fun r w1 => r = (agg u64 (Ec l)) ∧ Ext w0 w1) := by
 refine Zb (args := [(agg u64 l)]) func101 rfl ntmps101 results101 rfl ?_
 have m0 : Mem w0 (Qu w0) [] := Mem.of_world w0
 refine sR <| Y9 (Xa (f := u64) (l := l) m0 rfl) fun w1 b1 m1 => Y9 (Zc m1 Yw) fun w2 b2 m2 => ?_
 refine rN (Qa (sR ?_))
 refine Zp (i64 0) ?_
 refine rN (Qk ?_)
 refine Y7 (fun g wv => ∃ (k : Nat) (wl : List (BitVec 64)), (k ≤ 2) ∧ (wl = carN l k) ∧ g 0 = (agg u64 l) ∧ g 1 = (ptr b1 0) ∧ g 2 = (ptr b2 0) ∧ g 5 = (i64 (k : Int)) ∧ Mem wv (Qu w0) [(b2, .cells (cl u64 (List.replicate 5 0)) 126 (0, 0)), (b1, .cells (cl u64 wl) 126 (0, 0))]) (fun g wv => (2 - RowKit.intOf (g 5)).toNat) ?_ ?_
 ·exact ⟨0, l, oM, rfl, rfl, rfl, rfl, rfl, m2⟩
 rintro fr3 w4 ⟨k, wl, hk, hw, s0, s1, s2, s5, m4⟩
 have z5 := s5
 have hwl : wl.length = 5 := by rw [hw, Qn1, hl]
 obtain ⟨e0, e1, e2, e3, e4, rfl⟩ := Qee wl hwl
 refine sR <| Qd (Z9 (b := 2) s5 rfl) ?_
 refine rN (Qa ?_)
 refine Z8 rfl (fun hc5 => ?_) (fun hc5 => ?_)
 ·
  have hc5p := of_decide_eq_true hc5
  refine Qs (Qc (Qa (Qk (sR ?_))))
  refine Zz (u64 0#64) ?_
  refine rN (Qa (sR ?_))
  refine Zp (i64 0) ?_
  refine rN (Qk ?_)
  refine Wx 6 ?_
  refine Zt (sR ?_)
  refine Qd (Jf 0 5) ?_
  refine rN (Qa ?_)
  refine Za rfl Jg ?_
  refine Qs (Qc (Qa (Qk (sR ?_))))
  refine Zp (i64 0) <| Zz (i64 0) ?_
  refine rN (sR ?_)
  refine Zp (i64 0) <| Qd (Xv 0 0 Xt Xu s1) <| Qd (v := (u64 e0)) (Ql Ym rfl rfl m4.h1 (Qx _ _ 0 X7)) <| Zp (u64 0#64) <| Qd (J6 (b := 0#64) rfl rfl) <| Qd (Xv 0 0 Xt Xu s1) <| Vz m4 (Zn (f := u64) (l' := [e0 + 0#64, e1, e2, e3, e4]) rfl Xy Xu rfl rfl m4.h1 X7 (.inl (Nat.zero_le _))) fun w6 m6 => ?_
  refine rN (sR ?_)
  refine Zp (i64 0) <| Qd (Xv 0 0 Xt Xu s1) <| Qd (v := (u64 (e0 + 0#64))) (Ql Ym rfl rfl m6.h1 (Qx _ _ 0 X7)) <| Qd (Yf (b := 51) rfl rfl oM) <| Zz (u64 ((e0 + 0#64) >>> 51)) ?_
  refine rN (Qb ?_)
  refine Zp (i64 0) <| Qd (Xv 0 0 Xt Xu s1) <| Qd (v := (u64 (e0 + 0#64))) (Ql Ym rfl rfl m6.h1 (Qx _ _ 0 X7)) <| Qd (Vw (b := 2251799813685247#64) rfl rfl) <| Qd (Xv 0 0 Xt Xu s1) <| Vz m6 (Zn (f := u64) (l' := [(e0 + 0#64) &&& 2251799813685247#64, e1, e2, e3, e4]) rfl Xy Xu rfl rfl m6.h1 X7 (.inl (Nat.zero_le _))) fun w7 m7 => ?_
  refine Zv (Qh (Qb ?_))
  refine Qd (v := (i64 1)) (Yo 0 1) <| Zp (i64 1) ?_
  refine rN (Zt (sR ?_))
  refine Qd (Jf 1 5) ?_
  refine rN (Qa ?_)
  refine Za rfl Jg ?_
  refine Qs (Qc (Qa (Qk (sR ?_))))
  refine Zp (i64 1) <| Zz (i64 1) ?_
  refine rN (sR ?_)
  refine Zp (i64 1) <| Qd (Xv 1 1 Xt Xu s1) <| Qd (v := (u64 e1)) (Ql Ym rfl rfl m7.h1 (Qx _ _ 0 X7)) <| Zp (u64 ((e0 + 0#64) >>> 51)) <| Qd (J6 rfl rfl) <| Qd (Xv 1 1 Xt Xu s1) <| Vz m7 (Zn (f := u64) (l' := [(e0 + 0#64) &&& 2251799813685247#64, e1 + ((e0 + 0#64) >>> 51), e2, e3, e4]) rfl Xy Xu rfl rfl m7.h1 X7 (.inl (Nat.zero_le _))) fun w8 m8 => ?_
  refine rN (sR ?_)
  refine Zp (i64 1) <| Qd (Xv 1 1 Xt Xu s1) <| Qd (v := (u64 (e1 + ((e0 + 0#64) >>> 51)))) (Ql Ym rfl rfl m8.h1 (Qx _ _ 0 X7)) <| Qd (Yf (b := 51) rfl rfl oM) <| Zz (u64 ((e1 + ((e0 + 0#64) >>> 51)) >>> 51)) ?_
  refine rN (Qb ?_)
  refine Zp (i64 1) <| Qd (Xv 1 1 Xt Xu s1) <| Qd (v := (u64 (e1 + ((e0 + 0#64) >>> 51)))) (Ql Ym rfl rfl m8.h1 (Qx _ _ 0 X7)) <| Qd (Vw (b := 2251799813685247#64) rfl rfl) <| Qd (Xv 1 1 Xt Xu s1) <| Vz m8 (Zn (f := u64) (l' := [(e0 + 0#64) &&& 2251799813685247#64, (e1 + ((e0 + 0#64) >>> 51)) &&& 2251799813685247#64, e2, e3, e4]) rfl Xy Xu rfl rfl m8.h1 X7 (.inl (Nat.zero_le _))) fun w9 m9 => ?_
  refine Zv (Qh (Qb ?_))
  refine Qd (v := (i64 2)) (Yo 1 1) <| Zp (i64 2) ?_
  refine rN (Zt (sR ?_))
  refine Qd (Jf 2 5) ?_
  refine rN (Qa ?_)
  refine Za rfl Jg ?_
  refine Qs (Qc (Qa (Qk (sR ?_))))
  refine Zp (i64 2) <| Zz (i64 2) ?_
  refine rN (sR ?_)
  refine Zp (i64 2) <| Qd (Xv 2 2 Xt Xu s1) <| Qd (v := (u64 e2)) (Ql Ym rfl rfl m9.h1 (Qx _ _ 0 X7)) <| Zp (u64 ((e1 + ((e0 + 0#64) >>> 51)) >>> 51)) <| Qd (J6 rfl rfl) <| Qd (Xv 2 2 Xt Xu s1) <| Vz m9 (Zn (f := u64) (l' := [(e0 + 0#64) &&& 2251799813685247#64, (e1 + ((e0 + 0#64) >>> 51)) &&& 2251799813685247#64, e2 + ((e1 + ((e0 + 0#64) >>> 51)) >>> 51), e3, e4]) rfl Xy Xu rfl rfl m9.h1 X7 (.inl (Nat.zero_le _))) fun w10 m10 => ?_
  refine rN (sR ?_)
  refine Zp (i64 2) <| Qd (Xv 2 2 Xt Xu s1) <| Qd (v := (u64 (e2 + ((e1 + ((e0 + 0#64) >>> 51)) >>> 51)))) (Ql Ym rfl rfl m10.h1 (Qx _ _ 0 X7)) <| Qd (Yf (b := 51) rfl rfl oM) <| Zz (u64 ((e2 + ((e1 + ((e0 + 0#64) >>> 51)) >>> 51)) >>> 51)) ?_
  refine rN (Qb ?_)
  refine Zp (i64 2) <| Qd (Xv 2 2 Xt Xu s1) <| Qd (v := (u64 (e2 + ((e1 + ((e0 + 0#64) >>> 51)) >>> 51)))) (Ql Ym rfl rfl m10.h1 (Qx _ _ 0 X7)) <| Qd (Vw (b := 2251799813685247#64) rfl rfl) <| Qd (Xv 2 2 Xt Xu s1) <| Vz m10 (Zn (f := u64) (l' := [(e0 + 0#64) &&& 2251799813685247#64, (e1 + ((e0 + 0#64) >>> 51)) &&& 2251799813685247#64, (e2 + ((e1 + ((e0 + 0#64) >>> 51)) >>> 51)) &&& 2251799813685247#64, e3, e4]) rfl Xy Xu rfl rfl m10.h1 X7 (.inl (Nat.zero_le _))) fun w11 m11 => ?_
  refine Zv (Qh (Qb ?_))
  refine Qd (v := (i64 3)) (Yo 2 1) <| Zp (i64 3) ?_
  refine rN (Zt (sR ?_))
  refine Qd (Jf 3 5) ?_
  refine rN (Qa ?_)
  refine Za rfl Jg ?_
  refine Qs (Qc (Qa (Qk (sR ?_))))
  refine Zp (i64 3) <| Zz (i64 3) ?_
  refine rN (sR ?_)
  refine Zp (i64 3) <| Qd (Xv 3 3 Xt Xu s1) <| Qd (v := (u64 e3)) (Ql Ym rfl rfl m11.h1 (Qx _ _ 0 X7)) <| Zp (u64 ((e2 + ((e1 + ((e0 + 0#64) >>> 51)) >>> 51)) >>> 51)) <| Qd (J6 rfl rfl) <| Qd (Xv 3 3 Xt Xu s1) <| Vz m11 (Zn (f := u64) (l' := [(e0 + 0#64) &&& 2251799813685247#64, (e1 + ((e0 + 0#64) >>> 51)) &&& 2251799813685247#64, (e2 + ((e1 + ((e0 + 0#64) >>> 51)) >>> 51)) &&& 2251799813685247#64, e3 + ((e2 + ((e1 + ((e0 + 0#64) >>> 51)) >>> 51)) >>> 51), e4]) rfl Xy Xu rfl rfl m11.h1 X7 (.inl (Nat.zero_le _))) fun w12 m12 => ?_
  refine rN (sR ?_)
  refine Zp (i64 3) <| Qd (Xv 3 3 Xt Xu s1) <| Qd (v := (u64 (e3 + ((e2 + ((e1 + ((e0 + 0#64) >>> 51)) >>> 51)) >>> 51)))) (Ql Ym rfl rfl m12.h1 (Qx _ _ 0 X7)) <| Qd (Yf (b := 51) rfl rfl oM) <| Zz (u64 ((e3 + ((e2 + ((e1 + ((e0 + 0#64) >>> 51)) >>> 51)) >>> 51)) >>> 51)) ?_
  refine rN (Qb ?_)
  refine Zp (i64 3) <| Qd (Xv 3 3 Xt Xu s1) <| Qd (v := (u64 (e3 + ((e2 + ((e1 + ((e0 + 0#64) >>> 51)) >>> 51)) >>> 51)))) (Ql Ym rfl rfl m12.h1 (Qx _ _ 0 X7)) <| Qd (Vw (b := 2251799813685247#64) rfl rfl) <| Qd (Xv 3 3 Xt Xu s1) <| Vz m12 (Zn (f := u64) (l' := [(e0 + 0#64) &&& 2251799813685247#64, (e1 + ((e0 + 0#64) >>> 51)) &&& 2251799813685247#64, (e2 + ((e1 + ((e0 + 0#64) >>> 51)) >>> 51)) &&& 2251799813685247#64, (e3 + ((e2 + ((e1 + ((e0 + 0#64) >>> 51)) >>> 51)) >>> 51)) &&& 2251799813685247#64, e4]) rfl Xy Xu rfl rfl m12.h1 X7 (.inl (Nat.zero_le _))) fun w13 m13 => ?_
  refine Zv (Qh ?_)
  refine CW.abs (fun g => g 0 = (agg u64 l) ∧ g 1 = (ptr b1 0) ∧ g 2 = (ptr b2 0) ∧ g 3 = (u64 ((e3 + ((e2 + ((e1 + ((e0 + 0#64) >>> 51)) >>> 51)) >>> 51)) >>> 51)) ∧ g 4 = (i64 3) ∧ g 5 = (i64 (k : Int)) ∧ g 6 = (bl (decide ((k : Int) < 2))) ∧ g 7 = (i64 3) ∧ g 8 = (bl true) ∧ True) ⟨s0, s1, s2, rfl, rfl, s5, rfl, rfl, rfl, trivial⟩ ?_
  rintro fr14 ⟨s0, s1, s2, s3, s4, s5, s6, s7, s8, _⟩
  refine Qb <| Qd (v := (i64 4)) (Zg (a := 3) (b := 1) s7 rfl oM oM) <| Zp (i64 4) ?_
  refine rN (Zt (sR ?_))
  refine Qd (Jf 4 5) ?_
  refine rN (Qa ?_)
  refine Za rfl Jg ?_
  refine Qs (Qc (Qa (Qk (sR ?_))))
  refine Zp (i64 4) <| Zz (i64 4) ?_
  refine rN (sR ?_)
  refine Zp (i64 4) <| Qd (Xv 4 4 Xt Xu s1) <| Qd (v := (u64 e4)) (Ql Ym rfl rfl m13.h1 (Qx _ _ 0 X7)) <| Ya s3 <| Qd (J6 rfl rfl) <| Qd (Xv 4 4 Xt Xu s1) <| Vz m13 (Zn (f := u64) (l' := [(e0 + 0#64) &&& 2251799813685247#64, (e1 + ((e0 + 0#64) >>> 51)) &&& 2251799813685247#64, (e2 + ((e1 + ((e0 + 0#64) >>> 51)) >>> 51)) &&& 2251799813685247#64, (e3 + ((e2 + ((e1 + ((e0 + 0#64) >>> 51)) >>> 51)) >>> 51)) &&& 2251799813685247#64, e4 + ((e3 + ((e2 + ((e1 + ((e0 + 0#64) >>> 51)) >>> 51)) >>> 51)) >>> 51)]) rfl Xy Xu rfl rfl m13.h1 X7 (.inl (Nat.zero_le _))) fun w15 m15 => ?_
  refine rN (sR ?_)
  refine Zp (i64 4) <| Qd (Xv 4 4 Xt Xu s1) <| Qd (v := (u64 (e4 + ((e3 + ((e2 + ((e1 + ((e0 + 0#64) >>> 51)) >>> 51)) >>> 51)) >>> 51)))) (Ql Ym rfl rfl m15.h1 (Qx _ _ 0 X7)) <| Qd (Yf (b := 51) rfl rfl oM) <| Sz rfl ?_
  refine rN (Qb ?_)
  refine Zp (i64 4) <| Qd (Xv 4 4 Xt Xu s1) <| Qd (v := (u64 (e4 + ((e3 + ((e2 + ((e1 + ((e0 + 0#64) >>> 51)) >>> 51)) >>> 51)) >>> 51)))) (Ql Ym rfl rfl m15.h1 (Qx _ _ 0 X7)) <| Qd (Vw (b := 2251799813685247#64) rfl rfl) <| Qd (Xv 4 4 Xt Xu s1) <| Vz m15 (Zn (f := u64) (l' := [(e0 + 0#64) &&& 2251799813685247#64, (e1 + ((e0 + 0#64) >>> 51)) &&& 2251799813685247#64, (e2 + ((e1 + ((e0 + 0#64) >>> 51)) >>> 51)) &&& 2251799813685247#64, (e3 + ((e2 + ((e1 + ((e0 + 0#64) >>> 51)) >>> 51)) >>> 51)) &&& 2251799813685247#64, (e4 + ((e3 + ((e2 + ((e1 + ((e0 + 0#64) >>> 51)) >>> 51)) >>> 51)) >>> 51)) &&& 2251799813685247#64]) rfl Xy Xu rfl rfl m15.h1 X7 (.inl (Nat.zero_le _))) fun w16 m16 => ?_
  refine Zv (Qh (Qb ?_))
  refine Qd (v := (i64 5)) (Yo 4 1) <| Zp (i64 5) ?_
  refine rN (Zt (sR ?_))
  refine Qd (Jf 5 5) ?_
  refine rN (Qa ?_)
  refine Yy rfl Jg <| X6 ?_
  refine Qm (Qm (Xi ?_))
  refine Qb <| Qd (Xv 0 0 Xt Xu s1) <| Qd (v := (u64 ((e0 + 0#64) &&& 2251799813685247#64))) (Ql Ym rfl rfl m16.h1 (Qx _ _ 0 X7)) <| Ya rfl <| Qd (Ez (a := 19#64) rfl rfl) <| Qd (J6 rfl rfl) <| Qd (Xv 0 0 Xt Xu s1) <| Vz m16 (Zn (f := u64) (l' := [((e0 + 0#64) &&& 2251799813685247#64) + (19#64 * ((e4 + ((e3 + ((e2 + ((e1 + ((e0 + 0#64) >>> 51)) >>> 51)) >>> 51)) >>> 51)) >>> 51)), (e1 + ((e0 + 0#64) >>> 51)) &&& 2251799813685247#64, (e2 + ((e1 + ((e0 + 0#64) >>> 51)) >>> 51)) &&& 2251799813685247#64, (e3 + ((e2 + ((e1 + ((e0 + 0#64) >>> 51)) >>> 51)) >>> 51)) &&& 2251799813685247#64, (e4 + ((e3 + ((e2 + ((e1 + ((e0 + 0#64) >>> 51)) >>> 51)) >>> 51)) >>> 51)) &&& 2251799813685247#64]) rfl Xy Xu rfl rfl m16.h1 X7 (.inl (Nat.zero_le _))) fun w17 m17 => ?_
  refine Zv (Qh (Qb ?_))
  refine Qd (Zg (b := 1) s5 rfl oM oM) <| Zp (i64 ((k : Int) + 1)) <| rN ?_
  have hwn : [((e0 + 0#64) &&& 2251799813685247#64) + (19#64 * ((e4 + ((e3 + ((e2 + ((e1 + ((e0 + 0#64) >>> 51)) >>> 51)) >>> 51)) >>> 51)) >>> 51)), (e1 + ((e0 + 0#64) >>> 51)) &&& 2251799813685247#64, (e2 + ((e1 + ((e0 + 0#64) >>> 51)) >>> 51)) &&& 2251799813685247#64, (e3 + ((e2 + ((e1 + ((e0 + 0#64) >>> 51)) >>> 51)) >>> 51)) &&& 2251799813685247#64, (e4 + ((e3 + ((e2 + ((e1 + ((e0 + 0#64) >>> 51)) >>> 51)) >>> 51)) >>> 51)) &&& 2251799813685247#64] = carN l (k + 1) := by show _ = Qey (carN l k); rw [← hw]; rfl
  exact ⟨⟨k + 1, ([((e0 + 0#64) &&& 2251799813685247#64) + (19#64 * ((e4 + ((e3 + ((e2 + ((e1 + ((e0 + 0#64) >>> 51)) >>> 51)) >>> 51)) >>> 51)) >>> 51)), (e1 + ((e0 + 0#64) >>> 51)) &&& 2251799813685247#64, (e2 + ((e1 + ((e0 + 0#64) >>> 51)) >>> 51)) &&& 2251799813685247#64, (e3 + ((e2 + ((e1 + ((e0 + 0#64) >>> 51)) >>> 51)) >>> 51)) &&& 2251799813685247#64, (e4 + ((e3 + ((e2 + ((e1 + ((e0 + 0#64) >>> 51)) >>> 51)) >>> 51)) >>> 51)) &&& 2251799813685247#64]), oM, hwn, s0, s1, s2, rfl, m17⟩, Uo rfl z5 oM oM⟩
 ·
  have hc5p := of_decide_eq_false hc5
  obtain rfl : k = 2 := by omega
  refine X6 ?_
  refine Qm (Qm (Xi ?_))
  refine sR <| Qd (Qp Xt rfl Yw s1 m4.h1 sZ) <| Ye m4 (Qj (f := u64) (l := [e0, e1, e2, e3, e4]) Xy Yw s2 rfl sD m4.h0 sZ rfl) fun w18 m18 => ?_
  refine rN (Xb ?_)
  refine Qv [(agg u64 ([e0, e1, e2, e3, e4]))] ⟨⟨_, s2, Xr Xt rfl Yw m18.h0 sZ⟩, trivial⟩ ?_
  exact ⟨congrArg (agg u64) hw, m18.toExt⟩
theorem Qml (a b : List (BitVec 64)) (w0 : World)  (ha : a.length = 5) (hb : b.length = 5) : X9 prog 97 #[(agg u64 a), (agg u64 b)] w0 (fun r w1 => r = (agg u64 (Z7 a b)) ∧ Ext w0 w1) := by
 refine Zb (args := [(agg u64 a), (agg u64 b)]) func97 rfl ntmps97 results97 rfl ?_
 have m0 : Mem w0 (Qu w0) [] := Mem.of_world w0
 obtain ⟨x0, x1, x2, x3, x4, rfl⟩ := Qee a ha
 obtain ⟨y0, y1, y2, y3, y4, rfl⟩ := Qee b hb
 refine sR <| Y9 (Xa (f := u64) (l := [x0, x1, x2, x3, x4]) m0 rfl) fun w1 b2 m1 => Y9 (Xa (f := u64) (l := [y0, y1, y2, y3, y4]) m1 rfl) fun w2 b3 m2 => Y9 (Zc m2 Yw) fun w3 b4 m3 => ?_
 refine rN (Qa (sR ?_))
 refine Zp (i64 0) ?_
 refine rN (Qk ?_)
 refine Wx 6 ?_
 refine Zt (sR ?_)
 refine Qd (Jf 0 5) ?_
 refine rN (Qa ?_)
 refine Za rfl Jg ?_
 refine Qs (Qc (Qa (Qk (sR ?_))))
 refine Zp (i64 0) <| Zz (i64 0) <| rN <| Xl (dl 8) 8 Xw <| Ky rfl (i64 0) <| Ky rfl (i64 0) <| Yb rfl (Xv 0 0 Xt Xu rfl) <| Yn (v := (u64 x0)) rfl (fun _ e' => Ql Ym rfl rfl (m3.ext e').h2 (Qx _ _ 0 X7)) <| Ky rfl (i64 0) <| Yb rfl (Xv 0 0 Xt Xu rfl) <| Yn (v := (u64 y0)) rfl (fun _ e' => Ql Ym rfl rfl (m3.ext e').h1 (Qx _ _ 0 X7)) <| Yb rfl (J6 rfl rfl) ?_
 refine Gs m3 fun w4 m4 => Qd (Xv 0 0 Xt Xu rfl) <| Ye m4 (Zn (f := u64) (l' := [x0 + y0, 0, 0, 0, 0]) rfl Xy Xu rfl rfl m4.h0 X7 (.inl (Nat.zero_le _))) fun w5 m5 => ?_
 refine Zv (Qh (Qb ?_))
 refine Qd (v := (i64 1)) (Yo 0 1) <| Zp (i64 1) ?_
 refine rN (Zt (sR ?_))
 refine Qd (Jf 1 5) ?_
 refine rN (Qa ?_)
 refine Za rfl Jg ?_
 refine Qs (Qc (Qa (Qk (sR ?_))))
 refine Zp (i64 1) <| Zz (i64 1) <| rN <| Xl (dl 8) 8 Xw <| Ky rfl (i64 1) <| Ky rfl (i64 1) <| Yb rfl (Xv 1 1 Xt Xu rfl) <| Yn (v := (u64 x1)) rfl (fun _ e' => Ql Ym rfl rfl (m5.ext e').h2 (Qx _ _ 0 X7)) <| Ky rfl (i64 1) <| Yb rfl (Xv 1 1 Xt Xu rfl) <| Yn (v := (u64 y1)) rfl (fun _ e' => Ql Ym rfl rfl (m5.ext e').h1 (Qx _ _ 0 X7)) <| Yb rfl (J6 rfl rfl) ?_
 refine Gs m5 fun w6 m6 => Qd (Xv 1 1 Xt Xu rfl) <| Ye m6 (Zn (f := u64) (l' := [x0 + y0, x1 + y1, 0, 0, 0]) rfl Xy Xu rfl rfl m6.h0 X7 (.inl (Nat.zero_le _))) fun w7 m7 => ?_
 refine Zv (Qh (Qb ?_))
 refine Qd (v := (i64 2)) (Yo 1 1) <| Zp (i64 2) ?_
 refine rN (Zt (sR ?_))
 refine Qd (Jf 2 5) ?_
 refine rN (Qa ?_)
 refine Za rfl Jg ?_
 refine Qs (Qc (Qa (Qk (sR ?_))))
 refine Zp (i64 2) <| Zz (i64 2) <| rN <| Xl (dl 8) 8 Xw <| Ky rfl (i64 2) <| Ky rfl (i64 2) <| Yb rfl (Xv 2 2 Xt Xu rfl) <| Yn (v := (u64 x2)) rfl (fun _ e' => Ql Ym rfl rfl (m7.ext e').h2 (Qx _ _ 0 X7)) <| Ky rfl (i64 2) <| Yb rfl (Xv 2 2 Xt Xu rfl) <| Yn (v := (u64 y2)) rfl (fun _ e' => Ql Ym rfl rfl (m7.ext e').h1 (Qx _ _ 0 X7)) <| Yb rfl (J6 rfl rfl) ?_
 refine Gs m7 fun w8 m8 => Qd (Xv 2 2 Xt Xu rfl) <| Ye m8 (Zn (f := u64) (l' := [x0 + y0, x1 + y1, x2 + y2, 0, 0]) rfl Xy Xu rfl rfl m8.h0 X7 (.inl (Nat.zero_le _))) fun w9 m9 => ?_
 refine Zv (Qh (Qb ?_))
 refine Qd (v := (i64 3)) (Yo 2 1) <| Zp (i64 3) ?_
 refine rN (Zt (sR ?_))
 refine Qd (Jf 3 5) ?_
 refine rN (Qa ?_)
 refine Za rfl Jg ?_
 refine Qs (Qc (Qa (Qk (sR ?_))))
 refine Zp (i64 3) <| Zz (i64 3) <| rN <| Xl (dl 8) 8 Xw <| Ky rfl (i64 3) <| Ky rfl (i64 3) <| Yb rfl (Xv 3 3 Xt Xu rfl) <| Yn (v := (u64 x3)) rfl (fun _ e' => Ql Ym rfl rfl (m9.ext e').h2 (Qx _ _ 0 X7)) <| Ky rfl (i64 3) <| Yb rfl (Xv 3 3 Xt Xu rfl) <| Yn (v := (u64 y3)) rfl (fun _ e' => Ql Ym rfl rfl (m9.ext e').h1 (Qx _ _ 0 X7)) <| Yb rfl (J6 rfl rfl) ?_
 refine Gs m9 fun w10 m10 => Qd (Xv 3 3 Xt Xu rfl) <| Ye m10 (Zn (f := u64) (l' := [x0 + y0, x1 + y1, x2 + y2, x3 + y3, 0]) rfl Xy Xu rfl rfl m10.h0 X7 (.inl (Nat.zero_le _))) fun w11 m11 => ?_
 refine Zv (Qh (Qb ?_))
 refine Qd (v := (i64 4)) (Yo 3 1) <| Zp (i64 4) ?_
 refine rN (Zt (sR ?_))
 refine Qd (Jf 4 5) ?_
 refine rN (Qa ?_)
 refine Za rfl Jg ?_
 refine Qs (Qc (Qa (Qk (sR ?_))))
 refine Zp (i64 4) <| Zz (i64 4) <| rN <| Xl (dl 8) 8 Xw <| Ky rfl (i64 4) <| Ky rfl (i64 4) <| Yb rfl (Xv 4 4 Xt Xu rfl) <| Yn (v := (u64 x4)) rfl (fun _ e' => Ql Ym rfl rfl (m11.ext e').h2 (Qx _ _ 0 X7)) <| Ky rfl (i64 4) <| Yb rfl (Xv 4 4 Xt Xu rfl) <| Yn (v := (u64 y4)) rfl (fun _ e' => Ql Ym rfl rfl (m11.ext e').h1 (Qx _ _ 0 X7)) <| Yb rfl (J6 rfl rfl) ?_
 refine Gs m11 fun w12 m12 => Qd (Xv 4 4 Xt Xu rfl) <| Ye m12 (Zn (f := u64) (l' := [x0 + y0, x1 + y1, x2 + y2, x3 + y3, x4 + y4]) rfl Xy Xu rfl rfl m12.h0 X7 (.inl (Nat.zero_le _))) fun w13 m13 => ?_
 refine Zv (Qh (Qb ?_))
 refine Qd (v := (i64 5)) (Yo 4 1) <| Zp (i64 5) ?_
 refine rN (Zt (sR ?_))
 refine Qd (Jf 5 5) ?_
 refine rN (Qa ?_)
 refine Yy rfl Jg <| X6 ?_
 refine Qm (Qm (Xi ?_))
 refine sR <| Qd (Qp Xt rfl Yw rfl m13.h0 sZ) <| U9 m13 (oc101 (Kt rfl) (Qie _ _ sD)) fun w14 m14 => Ye m14 (Qj (f := u64) (l := Ec ([x0 + y0, x1 + y1, x2 + y2, x3 + y3, x4 + y4])) Xy Yw rfl rfl sD m14.h0 sZ rfl) fun w16 m16 => ?_
 refine rN (Xb ?_)
 refine Qv [(agg u64 (Ec ([x0 + y0, x1 + y1, x2 + y2, x3 + y3, x4 + y4])))] ⟨⟨_, rfl, Xr Xt rfl Yw m16.h0 sZ⟩, trivial⟩ ?_
 exact ⟨rfl, m16.toExt⟩
theorem Qib (a b : List (BitVec 64)) (w0 : World)  (ha : a.length = 5) (hb : b.length = 5) : X9 prog 98 #[(agg u64 a), (agg u64 b)] w0 (fun r w1 => r = (agg u64 (Zf a b)) ∧ Ext w0 w1) := by
 refine Zb (args := [(agg u64 a), (agg u64 b)]) func98 rfl ntmps98 results98 rfl ?_
 have m0 : Mem w0 (Qu w0) [] := Mem.of_world w0
 obtain ⟨x0, x1, x2, x3, x4, rfl⟩ := Qee a ha
 obtain ⟨y0, y1, y2, y3, y4, rfl⟩ := Qee b hb
 refine sR <| Y9 (Xa (f := u64) (l := [x0, x1, x2, x3, x4]) m0 rfl) fun w1 b2 m1 => Y9 (Xa (f := u64) (l := [y0, y1, y2, y3, y4]) m1 rfl) fun w2 b3 m2 => Y9 (Zc m2 Yw) fun w3 b4 m3 => ?_
 refine rN (Qa (sR ?_))
 refine Zp (i64 0) ?_
 refine rN (Qk ?_)
 refine Wx 6 ?_
 refine Zt (sR ?_)
 refine Qd (Jf 0 5) ?_
 refine rN (Qa ?_)
 refine Za rfl Jg ?_
 refine Qs (Qc (Qa (Qk (sR ?_))))
 refine Zp (i64 0) <| Zz (i64 0) <| rN <| Xl (dl 9) 9 Xw <| Ky rfl (i64 0) <| Ky rfl (i64 0) <| Yb rfl (Xv 0 0 Xt Xu rfl) <| Yn (v := (u64 x0)) rfl (fun _ e' => Ql Ym rfl rfl (m3.ext e').h2 (Qx _ _ 0 X7)) <| Yb rfl (J6 (b := 4503599627370494#64) rfl rfl) <| Ky rfl (i64 0) <| Yb rfl (Xv 0 0 Xt Xu rfl) <| Yn (v := (u64 y0)) rfl (fun _ e' => Ql Ym rfl rfl (m3.ext e').h1 (Qx _ _ 0 X7)) ?_
 refine Yb rfl (Lr rfl rfl) <| Gs m3 fun w4 m4 => Qd (Xv 0 0 Xt Xu rfl) <| Ye m4 (Zn (f := u64) (l' := [(x0 + 4503599627370494#64) - y0, 0, 0, 0, 0]) rfl Xy Xu rfl rfl m4.h0 X7 (.inl (Nat.zero_le _))) fun w5 m5 => ?_
 refine Zv (Qh (Qb ?_))
 refine Qd (v := (i64 1)) (Yo 0 1) <| Zp (i64 1) ?_
 refine rN (Zt (sR ?_))
 refine Qd (Jf 1 5) ?_
 refine rN (Qa ?_)
 refine Za rfl Jg ?_
 refine Qs (Qc (Qa (Qk (sR ?_))))
 refine Zp (i64 1) <| Zz (i64 1) <| rN <| Xl (dl 9) 9 Xw <| Ky rfl (i64 1) <| Ky rfl (i64 1) <| Yb rfl (Xv 1 1 Xt Xu rfl) <| Yn (v := (u64 x1)) rfl (fun _ e' => Ql Ym rfl rfl (m5.ext e').h2 (Qx _ _ 0 X7)) <| Yb rfl (J6 (b := 4503599627370494#64) rfl rfl) <| Ky rfl (i64 1) <| Yb rfl (Xv 1 1 Xt Xu rfl) <| Yn (v := (u64 y1)) rfl (fun _ e' => Ql Ym rfl rfl (m5.ext e').h1 (Qx _ _ 0 X7)) ?_
 refine Yb rfl (Lr rfl rfl) <| Gs m5 fun w6 m6 => Qd (Xv 1 1 Xt Xu rfl) <| Ye m6 (Zn (f := u64) (l' := [(x0 + 4503599627370494#64) - y0, (x1 + 4503599627370494#64) - y1, 0, 0, 0]) rfl Xy Xu rfl rfl m6.h0 X7 (.inl (Nat.zero_le _))) fun w7 m7 => ?_
 refine Zv (Qh (Qb ?_))
 refine Qd (v := (i64 2)) (Yo 1 1) <| Zp (i64 2) ?_
 refine rN (Zt (sR ?_))
 refine Qd (Jf 2 5) ?_
 refine rN (Qa ?_)
 refine Za rfl Jg ?_
 refine Qs (Qc (Qa (Qk (sR ?_))))
 refine Zp (i64 2) <| Zz (i64 2) <| rN <| Xl (dl 9) 9 Xw <| Ky rfl (i64 2) <| Ky rfl (i64 2) <| Yb rfl (Xv 2 2 Xt Xu rfl) <| Yn (v := (u64 x2)) rfl (fun _ e' => Ql Ym rfl rfl (m7.ext e').h2 (Qx _ _ 0 X7)) <| Yb rfl (J6 (b := 4503599627370494#64) rfl rfl) <| Ky rfl (i64 2) <| Yb rfl (Xv 2 2 Xt Xu rfl) <| Yn (v := (u64 y2)) rfl (fun _ e' => Ql Ym rfl rfl (m7.ext e').h1 (Qx _ _ 0 X7)) ?_
 refine Yb rfl (Lr rfl rfl) <| Gs m7 fun w8 m8 => Qd (Xv 2 2 Xt Xu rfl) <| Ye m8 (Zn (f := u64) (l' := [(x0 + 4503599627370494#64) - y0, (x1 + 4503599627370494#64) - y1, (x2 + 4503599627370494#64) - y2, 0, 0]) rfl Xy Xu rfl rfl m8.h0 X7 (.inl (Nat.zero_le _))) fun w9 m9 => ?_
 refine Zv (Qh (Qb ?_))
 refine Qd (v := (i64 3)) (Yo 2 1) <| Zp (i64 3) ?_
 refine rN (Zt (sR ?_))
 refine Qd (Jf 3 5) ?_
 refine rN (Qa ?_)
 refine Za rfl Jg ?_
 refine Qs (Qc (Qa (Qk (sR ?_))))
 refine Zp (i64 3) <| Zz (i64 3) <| rN <| Xl (dl 9) 9 Xw <| Ky rfl (i64 3) <| Ky rfl (i64 3) <| Yb rfl (Xv 3 3 Xt Xu rfl) <| Yn (v := (u64 x3)) rfl (fun _ e' => Ql Ym rfl rfl (m9.ext e').h2 (Qx _ _ 0 X7)) <| Yb rfl (J6 (b := 4503599627370494#64) rfl rfl) <| Ky rfl (i64 3) <| Yb rfl (Xv 3 3 Xt Xu rfl) <| Yn (v := (u64 y3)) rfl (fun _ e' => Ql Ym rfl rfl (m9.ext e').h1 (Qx _ _ 0 X7)) ?_
 refine Yb rfl (Lr rfl rfl) <| Gs m9 fun w10 m10 => Qd (Xv 3 3 Xt Xu rfl) <| Ye m10 (Zn (f := u64) (l' := [(x0 + 4503599627370494#64) - y0, (x1 + 4503599627370494#64) - y1, (x2 + 4503599627370494#64) - y2, (x3 + 4503599627370494#64) - y3, 0]) rfl Xy Xu rfl rfl m10.h0 X7 (.inl (Nat.zero_le _))) fun w11 m11 => ?_
 refine Zv (Qh (Qb ?_))
 refine Qd (v := (i64 4)) (Yo 3 1) <| Zp (i64 4) ?_
 refine rN (Zt (sR ?_))
 refine Qd (Jf 4 5) ?_
 refine rN (Qa ?_)
 refine Za rfl Jg ?_
 refine Qs (Qc (Qa (Qk (sR ?_))))
 refine Zp (i64 4) <| Zz (i64 4) <| rN <| Xl (dl 9) 9 Xw <| Ky rfl (i64 4) <| Ky rfl (i64 4) <| Yb rfl (Xv 4 4 Xt Xu rfl) <| Yn (v := (u64 x4)) rfl (fun _ e' => Ql Ym rfl rfl (m11.ext e').h2 (Qx _ _ 0 X7)) <| Yb rfl (J6 (b := 4503599627370494#64) rfl rfl) <| Ky rfl (i64 4) <| Yb rfl (Xv 4 4 Xt Xu rfl) <| Yn (v := (u64 y4)) rfl (fun _ e' => Ql Ym rfl rfl (m11.ext e').h1 (Qx _ _ 0 X7)) ?_
 refine Yb rfl (Lr rfl rfl) <| Gs m11 fun w12 m12 => Qd (Xv 4 4 Xt Xu rfl) <| Ye m12 (Zn (f := u64) (l' := [(x0 + 4503599627370494#64) - y0, (x1 + 4503599627370494#64) - y1, (x2 + 4503599627370494#64) - y2, (x3 + 4503599627370494#64) - y3, (x4 + 4503599627370494#64) - y4]) rfl Xy Xu rfl rfl m12.h0 X7 (.inl (Nat.zero_le _))) fun w13 m13 => ?_
 refine Zv (Qh (Qb ?_))
 refine Qd (v := (i64 5)) (Yo 4 1) <| Zp (i64 5) ?_
 refine rN (Zt (sR ?_))
 refine Qd (Jf 5 5) ?_
 refine rN (Qa ?_)
 refine Yy rfl Jg <| X6 ?_
 refine Qm (Qm (Xi ?_))
 refine sR <| Qd (Xv 0 0 Xt Xu rfl) <| Qd (v := (u64 ((x0 + 4503599627370494#64) - y0))) (Ql Ym rfl rfl m13.h0 (Qx _ _ 0 X7)) <| Qd (Lr (b := 36#64) rfl rfl) <| Qd (Xv 0 0 Xt Xu rfl) <| Ye m13 (Zn (f := u64) (l' := [((x0 + 4503599627370494#64) - y0) - 36#64, (x1 + 4503599627370494#64) - y1, (x2 + 4503599627370494#64) - y2, (x3 + 4503599627370494#64) - y3, (x4 + 4503599627370494#64) - y4]) rfl Xy Xu rfl rfl m13.h0 X7 (.inl (Nat.zero_le _))) fun w14 m14 => rN ?_
 refine CW.abs (fun g => g 0 = (agg u64 ([x0, x1, x2, x3, x4])) ∧ g 1 = (agg u64 ([y0, y1, y2, y3, y4])) ∧ g 2 = (ptr b2 0) ∧ g 3 = (ptr b3 0) ∧ g 4 = (ptr b4 0) ∧ g 5 = (i64 4) ∧ g 6 = (i64 5) ∧ g 7 = (bl false) ∧ True) ⟨rfl, rfl, rfl, rfl, rfl, rfl, rfl, rfl, trivial⟩ ?_
 rintro fr15 ⟨s0, s1, s2, s3, s4, s5, s6, s7, _⟩
 refine sR <| Qd (Qp Xt rfl Yw s4 m14.h0 sZ) <| U9 m14 (oc101 (Kt rfl) (Qie _ _ sD)) fun w16 m16 => Ye m16 (Qj (f := u64) (l := Ec ([((x0 + 4503599627370494#64) - y0) - 36#64, (x1 + 4503599627370494#64) - y1, (x2 + 4503599627370494#64) - y2, (x3 + 4503599627370494#64) - y3, (x4 + 4503599627370494#64) - y4])) Xy Yw s4 rfl sD m16.h0 sZ rfl) fun w18 m18 => ?_
 refine rN (Xb ?_)
 refine Qv [(agg u64 (Ec ([((x0 + 4503599627370494#64) - y0) - 36#64, (x1 + 4503599627370494#64) - y1, (x2 + 4503599627370494#64) - y2, (x3 + 4503599627370494#64) - y3, (x4 + 4503599627370494#64) - y4])))] ⟨⟨_, s4, Xr Xt rfl Yw m18.h0 sZ⟩, trivial⟩ ?_
 exact ⟨rfl, m18.toExt⟩
set_option maxHeartbeats 1000000 in
theorem D5 (a b : List (BitVec 64)) (w0 : World)  (ha : a.length = 5) (hb : b.length = 5) : X9 prog 81 #[(agg u64 a), (agg u64 b)] w0 (fun r w1 => r = (agg u64 (Qr a b)) ∧ Ext w0 w1) := by
 refine Zb (args := [(agg u64 a), (agg u64 b)]) func81 rfl ntmps81 results81 rfl ?_
 have m0 : Mem w0 (Qu w0) [] := Mem.of_world w0
 refine sR <| Y9 (Xa (f := u64) (l := a) m0 rfl) fun w1 b2 m1 => Y9 (Xa (f := u64) (l := b) m1 rfl) fun w2 b3 m2 => Y9 (Zc m2 Yw) fun w3 b4 m3 => ?_
 refine rN (sR ?_)
 refine Y9 (Zc m3 ti147) fun w4 b5 m4 => ?_
 refine rN (Qa (sR ?_))
 refine Qd (Qp Xt rfl Yw rfl m4.h3 sZ) <| Zp (i64 0) ?_
 refine rN (Qk ?_)
 refine Y7 (fun g wv => ∃ (i : Nat) (wl : List (BitVec 64)), (i ≤ 5) ∧ (wl = Uf a b i) ∧ g 0 = (agg u64 a) ∧ g 1 = (agg u64 b) ∧ g 2 = (ptr b2 0) ∧ g 3 = (ptr b3 0) ∧ g 4 = (ptr b4 0) ∧ g 5 = (ptr b5 0) ∧ g 17 = (agg u64 a) ∧ g 18 = (i64 (i : Int)) ∧ Mem wv (Qu w0) [(b5, .cells (cl u64 wl) 147 (0, 0)), (b4, .cells (cl u64 (List.replicate 5 0)) 126 (0, 0)), (b3, .cells (cl u64 b) 126 (0, 0)), (b2, .cells (cl u64 a) 126 (0, 0))]) (fun g wv => (5 - RowKit.intOf (g 18)).toNat) ?_ ?_
 ·exact ⟨0, (List.replicate 10 0), oM, rfl, rfl, rfl, rfl, rfl, rfl, rfl, rfl, rfl, m4⟩
 rintro fr5 w6 ⟨i, wl, hi, hw, s0, s1, s2, s3, s4, s5, s17, s18, m6⟩
 have z18 := s18
 have hwl : wl.length = 10 := by rw [hw, Qf3]
 refine sR <| Qd (Z9 (b := 5) s18 rfl) ?_
 refine rN (Qa ?_)
 refine Z8 rfl (fun hc7 => ?_) (fun hc7 => ?_)
 ·
  have hc7p := of_decide_eq_true hc7
  refine Qs (Qc (Qa (Qk (sR ?_))))
  refine Ya s18 <| Qd (v := (u64 (a.getD i 0))) (J7 Xt Ym rfl Xu s17 s18 oM sD (Qx _ _ 0 sD)) <| Zz (i64 (i : Int)) <| Zz (u64 (a.getD i 0)) ?_
  refine rN (sR ?_)
  refine Qd (Qp Xt rfl Yw s3 m6.h2 sZ) <| Zp (i64 0) ?_
  refine rN (V5 ?_)
  refine Y7 (fun g wv => ∃ (k : Nat) (wk : List (BitVec 64)), (k ≤ 5) ∧ (wk = Ro a b i wl k) ∧ g 0 = (agg u64 a) ∧ g 1 = (agg u64 b) ∧ g 2 = (ptr b2 0) ∧ g 3 = (ptr b3 0) ∧ g 4 = (ptr b4 0) ∧ g 5 = (ptr b5 0) ∧ g 6 = (i64 (i : Int)) ∧ g 7 = (u64 (a.getD i 0)) ∧ g 17 = (agg u64 a) ∧ g 18 = (i64 (i : Int)) ∧ g 19 = (bl (decide ((i : Int) < 5))) ∧ g 22 = (agg u64 b) ∧ g 23 = (i64 (k : Int)) ∧ Mem wv (Qu w0) [(b5, .cells (cl u64 wk) 147 (0, 0)), (b4, .cells (cl u64 (List.replicate 5 0)) 126 (0, 0)), (b3, .cells (cl u64 b) 126 (0, 0)), (b2, .cells (cl u64 a) 126 (0, 0))]) (fun g wv => (5 - RowKit.intOf (g 23)).toNat) ?_ ?_
  ·exact ⟨0, wl, oM, rfl, s0, s1, s2, s3, s4, s5, rfl, rfl, s17, s18, rfl, rfl, rfl, m6⟩
  rintro fr8 w9 ⟨k, wk, hk, hwk, s0, s1, s2, s3, s4, s5, s6, s7, s17, s18, s19, s22, s23, m9⟩
  have z23 := s23
  have hwkl : wk.length = 10 := by rw [hwk, Qb3, hwl]
  refine sR <| Qd (Z9 (b := 5) s23 rfl) ?_
  refine rN (Qa ?_)
  refine Z8 rfl (fun hc10 => ?_) (fun hc10 => ?_)
  ·
   have hc10p := of_decide_eq_true hc10
   refine Qs (Qc (Qa (Qk (sR ?_))))
   refine Ya s23 <| Qd (v := (u64 (b.getD k 0))) (J7 Xt Ym rfl Xu s22 s23 oM sD (Qx _ _ 0 sD)) <| Zz (i64 (k : Int)) <| Zz (u64 (b.getD k 0)) ?_
   refine rN (sR ?_)
   refine Ya s6 <| Zp (i64 (k : Int)) <| Qd (Ko.cast (congrArg i64 (show (i : Int) + (k : Int) = ((i + k : Nat) : Int) by omega)) (Zg rfl rfl oM oM)) <| Zz (i64 ((i + k : Nat) : Int)) ?_
   refine rN (sR ?_)
   refine Zp (i64 ((i + k : Nat) : Int)) <| Qd (Z9 (b := 5) rfl rfl) <| rN ?_
   refine Z8 rfl (fun hc11 => ?_) (fun hc11 => ?_)
   ·
    have hc11p := of_decide_eq_true hc11
    refine Qb <| Zp (i64 ((i + k : Nat) : Int)) <| Qd (Zo (r := (i + k) * 2) oM uT147 Qmv s5 rfl oM sD) <| Ya s7 <| Zp (u64 (b.getD k 0)) ?_
    have hF13 : Mem _ _ ([(b5, .cells (cl u64 wk) 147 (0, 0))] ++ ([_, _, _])) := m9
    refine Vy (oc99 (D6 rfl rfl rfl) (c_wadd b5 ((i + k) * 2) wk (a.getD i 0) (b.getD k 0) _ _ (Mem.give hF13) sD)) ?_
    rintro _ w12 ⟨rfl, k_w12⟩
    have m12 : Mem _ _ [_, _, _, _] := Mem.back hF13 k_w12
    refine Zv (Qh (Qb ?_))
    refine Qd (Zg (b := 1) s23 rfl oM oM) <| Zp (i64 ((k : Int) + 1)) <| rN ?_
    have hwn : Di wk ((i + k) * 2) (a.getD i 0) (b.getD k 0) = Ro a b i wl (k + 1) := by rw [hwk]; exact Qrc oM
    exact ⟨⟨k + 1, (Di wk ((i + k) * 2) (a.getD i 0) (b.getD k 0)), oM, hwn, s0, s1, s2, s3, s4, s5, s6, s7, s17, s18, s19, s22, rfl, m12⟩, Uo rfl z23 oM oM⟩
   ·
    have hc11p := of_decide_eq_false hc11
    refine Qb <| Zp (i64 ((i + k : Nat) : Int)) <| Qd (Ko.cast (congrArg i64 (show ((i + k : Nat) : Int) - 5 = ((i + k - 5 : Nat) : Int) by omega)) (Yk (b := 5) rfl rfl oM oM)) <| Qd (Zo (r := (i + k - 5) * 2) oM uT147 Qmv s5 rfl oM sD) <| Ya s7 <| Qd (Ez (a := 19#64) rfl rfl) <| Zp (u64 (b.getD k 0)) ?_
    have hF16 : Mem _ _ ([(b5, .cells (cl u64 wk) 147 (0, 0))] ++ ([_, _, _])) := m9
    refine Vy (oc99 (D6 rfl rfl rfl) (c_wadd b5 ((i + k - 5) * 2) wk (19#64 * (a.getD i 0)) (b.getD k 0) _ _ (Mem.give hF16) sD)) ?_
    rintro _ w15 ⟨rfl, k_w15⟩
    have m15 : Mem _ _ [_, _, _, _] := Mem.back hF16 k_w15
    refine Zv (Qh (Qb ?_))
    refine Qd (Zg (b := 1) s23 rfl oM oM) <| Zp (i64 ((k : Int) + 1)) <| rN ?_
    have hwn : Di wk ((i + k - 5) * 2) (19#64 * (a.getD i 0)) (b.getD k 0) = Ro a b i wl (k + 1) := by rw [hwk]; exact Qrd oM
    exact ⟨⟨k + 1, (Di wk ((i + k - 5) * 2) (19#64 * (a.getD i 0)) (b.getD k 0)), oM, hwn, s0, s1, s2, s3, s4, s5, s6, s7, s17, s18, s19, s22, rfl, m15⟩, Uo rfl z23 oM oM⟩
  ·
   have hc10p := of_decide_eq_false hc10
   obtain rfl : k = 5 := by omega
   refine X6 ?_
   refine Qm (Qm (Xi ?_))
   refine Qh (Qb ?_)
   refine Qd (Zg (b := 1) s18 rfl oM oM) <| Zp (i64 ((i : Int) + 1)) <| rN ?_
   have hwo : wk = Uf a b (i + 1) := by rw [hwk, hw]; rfl
   exact ⟨⟨i + 1, wk, oM, hwo, s0, s1, s2, s3, s4, s5, s17, rfl, m9⟩, Uo rfl z18 oM oM⟩
 ·
  have hc7p := of_decide_eq_false hc7
  obtain rfl : i = 5 := by omega
  refine X6 ?_
  refine Qm (Qm (Xi ?_))
  refine sR <| Zz (u64 0#64) ?_
  refine rN (Qa (sR ?_))
  refine Qd (Qp uT147 rfl ti147 s5 m6.h0 sZ) <| Zp (i64 0) ?_
  refine rN (Qk ?_)
  refine Y7 (fun g wv => ∃ (i : Nat), (i ≤ 5) ∧ g 0 = (agg u64 a) ∧ g 1 = (agg u64 b) ∧ g 2 = (ptr b2 0) ∧ g 3 = (ptr b3 0) ∧ g 4 = (ptr b4 0) ∧ g 5 = (ptr b5 0) ∧ g 11 = (u64 (Dp wl i)) ∧ g 17 = (agg u64 a) ∧ g 18 = (i64 (5 : Int)) ∧ g 19 = (bl (decide ((5 : Int) < 5))) ∧ g 46 = (agg u64 wl) ∧ g 47 = (i64 (i : Int)) ∧ Mem wv (Qu w0) [(b5, .cells (cl u64 wl) 147 (0, 0)), (b4, .cells (cl u64 (Y1 (Dn wl) 0 5 i)) 126 (0, 0)), (b3, .cells (cl u64 b) 126 (0, 0)), (b2, .cells (cl u64 a) 126 (0, 0))]) (fun g wv => (5 - RowKit.intOf (g 47)).toNat) ?_ ?_
  ·exact ⟨0, oM, s0, s1, s2, s3, s4, s5, rfl, s17, s18, rfl, rfl, rfl, (by rw [Em]; exact m6)⟩
  rintro fr18 w19 ⟨i, hi, s0, s1, s2, s3, s4, s5, s11, s17, s18, s19, s46, s47, m19⟩
  have z47 := s47
  have z11 := s11
  have hfl : (Y1 (Dn wl) (0 : BitVec 64) 5 i).length = 5 := Kz _ _ _ _ hi
  refine sR <| Qd (Z9 (b := 5) s47 rfl) ?_
  refine rN (Qa ?_)
  refine Z8 rfl (fun hc20 => ?_) (fun hc20 => ?_)
  ·
   have hc20p := of_decide_eq_true hc20
   refine Qs (Qc (Qa (Qk (sR ?_))))
   refine Ya s47 <| Qd (v := (agg u64 ([wl.getD (i * 2) 0, wl.getD ((i * 2) + 1) 0]))) (Qmf (l := wl) (i := ((i : Int) : Int)) 0 uT147 Qii rfl Qmv s46 s47 oM sD oM) <| Y9 (Ji m19 Qmv) fun w21 b13 m21 => Zz (i64 (i : Int)) <| Ye m21 (Qj (f := u64) (l := [wl.getD (i * 2) 0, wl.getD ((i * 2) + 1) 0]) Xy Qmv rfl rfl sD m21.h0 rfl rfl) fun w22 m22 => ?_
   refine rN (sR ?_)
   refine Qd (Zr (r := 1) Qii rfl Jr Xu rfl rfl) <| Qd (v := (u64 (wl.getD ((i * 2) + 1) 0))) (Ql Ym rfl rfl m22.h0 (Qx _ _ 0 X7)) <| Ya s11 <| Qd (v := (Value.tuple #[(u64 ((wl.getD ((i * 2) + 1) 0) + (Dp wl i) + 0#64)), (u64 (Gp (wl.getD ((i * 2) + 1) 0) (Dp wl i) 0#64))])) (Qji (a := (wl.getD ((i * 2) + 1) 0)) (b := (Dp wl i)) (c := 0#64) func100 Xw Xw Xw Xw rfl rfl rfl (by first | decide | exact Qgz _ _ Jg)) <| Ya rfl <| Qd (v := (u64 ((wl.getD ((i * 2) + 1) 0) + (Dp wl i) + 0#64))) (Zm rfl rfl) <| Qd (v := (u64 (Gp (wl.getD ((i * 2) + 1) 0) (Dp wl i) 0#64))) (Zm rfl rfl) <| Zz (u64 ((wl.getD ((i * 2) + 1) 0) + (Dp wl i) + 0#64)) <| Zz (u64 (Gp (wl.getD ((i * 2) + 1) 0) (Dp wl i) 0#64)) ?_
   refine rN (sR ?_)
   refine Qd (Zr (r := 0) Qii rfl Jr Xu rfl rfl) <| Qd (v := (u64 (wl.getD (i * 2) 0))) (Ql Ym rfl rfl m22.h0 (Qx _ _ 0 X7)) <| Zp (u64 (Gp (wl.getD ((i * 2) + 1) 0) (Dp wl i) 0#64)) <| Qd (J6 rfl rfl) <| Sz rfl ?_
   refine rN (sR ?_)
   refine Zp (i64 (i : Int)) <| Zp (u64 ((wl.getD ((i * 2) + 1) 0) + (Dp wl i) + 0#64)) <| Qd (Vw (b := 2251799813685247#64) rfl rfl) <| Qd (Zo (r := i) oM Xt Xu s4 rfl oM sD) <| Bh m22 (Xz (f := u64) (a := ((wl.getD ((i * 2) + 1) 0) + (Dp wl i) + 0#64) &&& 2251799813685247#64) Xy Xu rfl rfl m22.h2 sD (.inl (Nat.zero_le _))) fun w23 m23 => ?_
   refine rN (Qb ?_)
   refine Ya rfl <| Qd (Ey (b := 13) rfl rfl oM) <| Zp (u64 ((wl.getD ((i * 2) + 1) 0) + (Dp wl i) + 0#64)) <| Qd (Yf (b := 51) rfl rfl oM) <| Qd (Qk8 rfl rfl) <| Sz rfl ?_
   refine Zv (Qh (Qb ?_))
   refine Qd (Zg (b := 1) s47 rfl oM oM) <| Zp (i64 ((i : Int) + 1)) <| rN ?_
   have m24 := Mem.drop [_] _ m23
   exact ⟨⟨i + 1, oM, s0, s1, s2, s3, s4, s5, rfl, s17, s18, s19, s46, rfl, (by rw [← Ew (Dn wl) (0 : BitVec 64) (n := 5) (k := i) oM _ rfl]; exact m24)⟩, Uo rfl z47 oM oM⟩
  ·
   have hc20p := of_decide_eq_false hc20
   obtain rfl : i = 5 := by omega
   have hmF25 := m19
   rw [filled5] at hmF25
   refine X6 ?_
   refine Qm (Qm (Xi ?_))
   refine sR <| Qd (Xv 0 0 Xt Xu s4) <| Qd (v := (u64 (Dn wl 0))) (Ql Ym rfl rfl hmF25.h1 (Qx _ _ 0 X7)) <| Ya s11 <| Qd (Vw (b := 2251799813685247#64) rfl rfl) <| Qd (Ez (a := 19#64) rfl rfl) <| Qd (J6 rfl rfl) <| Qd (Xv 0 0 Xt Xu s4) <| Vz hmF25 (Zn (f := u64) (l' := [(Dn wl 0) + (19#64 * ((Dp wl 5) &&& 2251799813685247#64)), Dn wl 1, Dn wl 2, Dn wl 3, Dn wl 4]) rfl Xy Xu rfl rfl hmF25.h1 X7 (.inl (Nat.zero_le _))) fun w26 m26 => ?_
   refine rN (sR ?_)
   refine Qd (Xv 1 1 Xt Xu s4) <| Qd (v := (u64 (Dn wl 1))) (Ql Ym rfl rfl m26.h1 (Qx _ _ 0 X7)) <| Ya s11 <| Qd (Yf (b := 51) rfl rfl oM) <| Qd (Ez (a := 19#64) rfl rfl) <| Qd (J6 rfl rfl) <| Qd (Xv 1 1 Xt Xu s4) <| Vz m26 (Zn (f := u64) (l' := [(Dn wl 0) + (19#64 * ((Dp wl 5) &&& 2251799813685247#64)), (Dn wl 1) + (19#64 * ((Dp wl 5) >>> 51)), Dn wl 2, Dn wl 3, Dn wl 4]) rfl Xy Xu rfl rfl m26.h1 X7 (.inl (Nat.zero_le _))) fun w27 m27 => ?_
   refine rN (sR ?_)
   refine Qd (Qp Xt rfl Yw s4 m27.h1 sZ) <| U9 m27 (oc101 (Kt rfl) (Qie _ _ sD)) fun w28 m28 => Vz m28 (Qj (f := u64) (l := Ec ([(Dn wl 0) + (19#64 * ((Dp wl 5) &&& 2251799813685247#64)), (Dn wl 1) + (19#64 * ((Dp wl 5) >>> 51)), Dn wl 2, Dn wl 3, Dn wl 4])) Xy Yw s4 rfl sD m28.h1 sZ rfl) fun w30 m30 => ?_
   refine rN (Xb ?_)
   refine Qv [(agg u64 (Ec ([(Dn wl 0) + (19#64 * ((Dp wl 5) &&& 2251799813685247#64)), (Dn wl 1) + (19#64 * ((Dp wl 5) >>> 51)), Dn wl 2, Dn wl 3, Dn wl 4])))] ⟨⟨_, s4, Xr Xt rfl Yw m30.h1 sZ⟩, trivial⟩ ?_
   exact ⟨congrArg (agg u64) (by rw [hw]; rfl), m30.toExt⟩
theorem c_cread (u : Xg) (w0 : World)  (hu : u.length = 32) : X9 prog 79 #[(agg u8 u)] w0 (fun r w1 => r = (agg u64 (Jn u)) ∧ Ext w0 w1) := by
 refine Zb (args := [(agg u8 u)]) func79 rfl ntmps79 results79 rfl ?_
 have m0 : Mem w0 (Qu w0) [] := Mem.of_world w0
 refine sR <| Y9 (Xa (f := u8) (l := u) m0 rfl) fun w1 b1 m1 => Y9 (Zc m1 Yw) fun w2 b2 m2 => ?_
 refine rN (Qa (sR ?_))
 refine Zp (i64 0) ?_
 refine rN (Qk ?_)
 refine Y7 (fun g wv => ∃ (i : Nat), (i ≤ 255) ∧ g 0 = (agg u8 u) ∧ g 1 = (ptr b1 0) ∧ g 2 = (ptr b2 0) ∧ g 4 = (i64 (i : Int)) ∧ Mem wv (Qu w0) [(b2, .cells (cl u64 (Cb u i)) 126 (0, 0)), (b1, .cells (cl u8 u) 23 (0, 0))]) (fun g wv => (255 - RowKit.intOf (g 4)).toNat) ?_ ?_
 ·exact ⟨0, oM, rfl, rfl, rfl, rfl, m2⟩
 rintro fr3 w4 ⟨i, hi, s0, s1, s2, s4, m4⟩
 have z4 := s4
 have hrl := H9 u i
 refine sR <| Qd (Z9 (b := 255) s4 rfl) ?_
 refine rN (Qa ?_)
 refine Z8 rfl (fun hc5 => ?_) (fun hc5 => ?_)
 ·
  have hc5p := of_decide_eq_true hc5
  refine Qs (Qc (Qa (Qk (sR ?_))))
  refine Ya s4 <| Zz (i64 (i : Int)) <| rN <| Xl (dl 16) 16 Xw <| Ky rfl (i64 (i : Int)) <| Yb rfl (Ko.cast (congrArg i64 (show (i : Int) / 51 = ((i / 51 : Nat) : Int) by omega)) (Uu (b := 51) rfl rfl oM oM oM)) <| Yb rfl (Zo (r := (i / 51)) oM Xt Xu s2 rfl oM sD) <| Yn (v := (u64 ((Cb u i).getD (i / 51) 0))) rfl (fun _ e' => Ql Ym rfl rfl (m4.ext e').h0 (Qx _ _ 0 sD)) <| Ky rfl (i64 (i : Int)) <| Yb rfl (Ko.cast (congrArg i64 (show (i : Int) / 8 = ((i / 8 : Nat) : Int) by omega)) (Uu (b := 8) rfl rfl oM oM oM)) <| Yb rfl (Zo (r := (i / 8)) oM Xq Y0 s1 rfl oM sD) <| Yn (v := (u8 (u.getD (i / 8) 0))) rfl (fun _ e' => Ql Gl rfl rfl (m4.ext e').h1 (Qx _ _ 0 sD)) ?_
  refine Ky rfl (i64 (i : Int)) <| Yb rfl (Ko.cast (congrArg i64 (show (i : Int) % 8 = ((i % 8 : Nat) : Int) by omega)) (Vf (b := 8) rfl rfl oM oM oM)) <| Yb rfl (Qgp rfl rfl oM) <| Yb rfl (Qgq (b := 1#8) rfl rfl) <| Yb rfl (Qjh ⟨_, Gl⟩ Ym rfl) <| Ky rfl (i64 (i : Int)) <| Yb rfl (Ko.cast (congrArg i64 (show (i : Int) % 51 = ((i % 51 : Nat) : Int) by omega)) (Vf (b := 51) rfl rfl oM oM oM)) <| Yb rfl (Ey rfl rfl oM) <| Gs m4 fun w6 m6 => Qd (Qk8 rfl rfl) <| Qd (Zo (r := (i / 51)) oM Xt Xu s2 rfl oM sD) <| Ye m6 (Xz (f := u64) (a := ((Cb u i).getD (i / 51) 0) ||| (((((u.getD (i / 8) 0) >>> ((i % 8 : Nat) : Int).toNat) &&& 1#8).setWidth 64) <<< ((i % 51 : Nat) : Int).toNat)) Xy Xu rfl rfl m6.h0 sD (.inl (Nat.zero_le _))) fun w7 m7 => ?_
  refine Zv (Qh (Qb ?_))
  refine Qd (Zg (b := 1) s4 rfl oM oM) <| Zp (i64 ((i : Int) + 1)) <| rN ?_
  exact ⟨⟨i + 1, oM, s0, s1, s2, rfl, m7⟩, Uo rfl z4 oM oM⟩
 ·
  have hc5p := of_decide_eq_false hc5
  obtain rfl : i = 255 := by omega
  have hrl := H9 u 255
  refine X6 ?_
  refine Qm (Qm (Xi ?_))
  refine sR <| Qd (Qp Xt rfl Yw s2 m4.h0 sZ) <| Ye m4 (Qj (f := u64) (l := Cb u 255) Xy Yw s2 rfl sD m4.h0 sZ rfl) fun w8 m8 => ?_
  refine rN (Xb ?_)
  refine Qv [(agg u64 (Cb u 255))] ⟨⟨_, s2, Xr Xt rfl Yw m8.h0 sZ⟩, trivial⟩ ?_
  exact ⟨rfl, m8.toExt⟩
end Go.Proofs.YtkmiemlpfkfiiaaDoor
