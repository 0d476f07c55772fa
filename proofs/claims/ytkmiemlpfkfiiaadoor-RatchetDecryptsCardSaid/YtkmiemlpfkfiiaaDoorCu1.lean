/- Contracts: the curve, first part. Conditions: none beyond those that each theorem states. -/
import Derived.Test.YtkmiemlpfkfiiaaDoorTab
import Derived.Test.YtkmiemlpfkfiiaaDoorCuM
namespace Go.Proofs.YtkmiemlpfkfiiaaDoor
open Tryd
set_option linter.unusedVariables false
set_option linter.unusedSimpArgs false
theorem c_mul64 (x y : BitVec 64) (w0 : World)   : X0 prog 110 #[(u64 x), (u64 y)] w0 (fun r w1 => r = (Value.tuple #[(u64 (Qa7 x y)), (u64 (x * y))]) ∧ Ext w0 w1) := by
 refine Qy (args := [(u64 x), (u64 y)]) func110 rfl ntmps110 results110 rfl ?_
 have m0 : Mem w0 (Qr w0) [] := Mem.of_world w0
 refine sR <| Zx (u64 0#64) <| Zx (u64 0#64) ?_
 refine rN (sR ?_)
 refine Zm (u64 x) <| Qd (Vr (b := 4294967295#64) rfl rfl) <| Zx (u64 (x &&& 4294967295#64)) ?_
 refine rN (sR ?_)
 refine Zm (u64 x) <| Qd (X9 (b := 32) rfl rfl oM) <| Zx (u64 (x >>> 32)) ?_
 refine rN (sR ?_)
 refine Zm (u64 y) <| Qd (Vr (b := 4294967295#64) rfl rfl) <| Zx (u64 (y &&& 4294967295#64)) ?_
 refine rN (sR ?_)
 refine Zm (u64 y) <| Qd (X9 (b := 32) rfl rfl oM) <| Zx (u64 (y >>> 32)) ?_
 refine rN (sR ?_)
 refine Zm (u64 (x &&& 4294967295#64)) <| Zm (u64 (y &&& 4294967295#64)) <| Qd (Dc rfl rfl) <| Zx (u64 ((x &&& 4294967295#64) * (y &&& 4294967295#64))) ?_
 refine rN (sR ?_)
 refine Zm (u64 (x >>> 32)) <| Zm (u64 (y &&& 4294967295#64)) <| Qd (Dc rfl rfl) <| Zm (u64 ((x &&& 4294967295#64) * (y &&& 4294967295#64))) <| Qd (X9 (b := 32) rfl rfl oM) <| Qd (Jt rfl rfl) <| yqA rfl ?_
 refine rN (sR ?_)
 refine Yb rfl <| Qd (Vr (b := 4294967295#64) rfl rfl) <| yqA rfl ?_
 refine rN (sR ?_)
 refine Yb rfl <| Qd (X9 (b := 32) rfl rfl oM) <| yqA rfl ?_
 refine rN (sR ?_)
 refine Yb rfl <| Zm (u64 (x &&& 4294967295#64)) <| Zm (u64 (y >>> 32)) <| Qd (Dc rfl rfl) <| Qd (Jt rfl rfl) <| yqA rfl ?_
 refine rN (sR ?_)
 refine Zm (u64 (x >>> 32)) <| Zm (u64 (y >>> 32)) <| Qd (Dc rfl rfl) <| Yb rfl <| Qd (Jt rfl rfl) <| Yb rfl <| Qd (X9 (b := 32) rfl rfl oM) <| Qd (Jt rfl rfl) <| yqA rfl ?_
 refine rN (sR ?_)
 refine Zm (u64 x) <| Zm (u64 y) <| Qd (Dc rfl rfl) <| Zx (u64 (x * y)) ?_
 refine rN (Zz ?_)
 refine Qp [(u64 ((((x >>> 32) * (y >>> 32)) + ((((x >>> 32) * (y &&& 4294967295#64)) + (((x &&& 4294967295#64) * (y &&& 4294967295#64)) >>> 32)) >>> 32)) + ((((((x >>> 32) * (y &&& 4294967295#64)) + (((x &&& 4294967295#64) * (y &&& 4294967295#64)) >>> 32)) &&& 4294967295#64) + ((x &&& 4294967295#64) * (y >>> 32))) >>> 32))), (u64 (x * y))] ⟨rfl, rfl, trivial⟩ ?_
 exact ⟨congrArg (fun q => Value.tuple #[u64 q, u64 (x * y)]) (mulHG_eq x y), m0.toExt⟩
theorem c_wadd (bw off : Nat) (l : List (BitVec 64)) (x y : BitVec 64) (w0 : World) (R : Rest) (m0 : Mem w0 R [(bw, .cells (cl u64 l) 147 (0, 0))]) (hl : off + 2 ≤ l.length) : X0 prog 99 #[(ptr bw off), (u64 x), (u64 y)] w0 (fun r w1 => r = .tuple #[] ∧ Mem w1 R [(bw, .cells (cl u64 (Dq l off x y)) 147 (0, 0))]) := by
 refine Qy (args := [(ptr bw off), (u64 x), (u64 y)]) func99 rfl ntmps99 results99 rfl <| sR <| Zm (u64 x) <| Zm (u64 y) <| U3 m0 (oc110 (Xm rfl rfl) (c_mul64 x y _)) fun w1 m1 => Zm (Value.tuple #[(u64 (Qa7 x y)), (u64 (x * y))]) <| Qd (v := (u64 (Qa7 x y))) (Zr rfl rfl) <| Qd (v := (u64 (x * y))) (Zr rfl rfl) <| Zx (u64 (Qa7 x y)) <| Zx (u64 (x * y)) ?_
 refine rN (sR ?_)
 refine Zx (u64 0#64) ?_
 refine rN (sR ?_)
 refine Zm (ptr bw off) <| Zm (ptr bw off) <| Qd (Zc rfl) <| Qd (Zi (r := off + 1) Qio rfl Je Xq rfl rfl) <| Qd (v := (u64 (l.getD (off + 1) 0))) (Qi Yj rfl rfl m1.h0 (Qu _ _ 0 sD)) <| Zm (u64 (x * y)) <| Qd (v := (Value.tuple #[(u64 ((l.getD (off + 1) 0) + (x * y) + 0#64)), (u64 (Gh (l.getD (off + 1) 0) (x * y) 0#64))])) (Qjp (a := (l.getD (off + 1) 0)) (b := (x * y)) (c := 0#64) func100 Xo Xo Xo Xo rfl rfl rfl (by first | decide | exact Qg9 _ _ Jb)) <| Yb rfl <| Qd (v := (u64 ((l.getD (off + 1) 0) + (x * y) + 0#64))) (Zr rfl rfl) <| Qd (v := (u64 (Gh (l.getD (off + 1) 0) (x * y) 0#64))) (Zr rfl rfl) <| Qd (Zc rfl) <| Qd (Zi (r := off + 1) Qio rfl Je Xq rfl rfl) ?_
 refine Ye m1 (Xx (f := u64) (a := (l.getD (off + 1) 0) + (x * y) + 0#64) Xw Xq rfl rfl m1.h0 sD (.inl (Nat.zero_le _))) fun w3 m3 => Zx (u64 (Gh (l.getD (off + 1) 0) (x * y) 0#64)) ?_
 refine rN (Qb ?_)
 refine Zm (ptr bw off) <| Zm (ptr bw off) <| Qd (Zc rfl) <| Qd (Zi (r := off + 0) Qio rfl Je Xq rfl rfl) <| Qd (v := (u64 ((l.set (off + 1) ((l.getD (off + 1) 0) + (x * y) + 0#64)).getD (off + 0) 0))) (Qi Yj rfl rfl m3.h0 (Qu _ _ 0 sD)) <| Zm (u64 (Qa7 x y)) <| Zm (u64 (Gh (l.getD (off + 1) 0) (x * y) 0#64)) <| Qd (v := (Value.tuple #[(u64 (((l.set (off + 1) ((l.getD (off + 1) 0) + (x * y) + 0#64)).getD (off + 0) 0) + (Qa7 x y) + (Gh (l.getD (off + 1) 0) (x * y) 0#64))), (u64 (Gh ((l.set (off + 1) ((l.getD (off + 1) 0) + (x * y) + 0#64)).getD (off + 0) 0) (Qa7 x y) (Gh (l.getD (off + 1) 0) (x * y) 0#64)))])) (Qjp (a := ((l.set (off + 1) ((l.getD (off + 1) 0) + (x * y) + 0#64)).getD (off + 0) 0)) (b := (Qa7 x y)) (c := (Gh (l.getD (off + 1) 0) (x * y) 0#64)) func100 Xo Xo Xo Xo rfl rfl rfl (by first | decide | exact Qg9 _ _ Jb)) <| Yb rfl <| Qd (v := (u64 (((l.set (off + 1) ((l.getD (off + 1) 0) + (x * y) + 0#64)).getD (off + 0) 0) + (Qa7 x y) + (Gh (l.getD (off + 1) 0) (x * y) 0#64)))) (Zr rfl rfl) <| Qd (v := (u64 (Gh ((l.set (off + 1) ((l.getD (off + 1) 0) + (x * y) + 0#64)).getD (off + 0) 0) (Qa7 x y) (Gh (l.getD (off + 1) 0) (x * y) 0#64)))) (Zr rfl rfl) <| Qd (Zc rfl) ?_
 refine Qd (Zi (r := off + 0) Qio rfl Je Xq rfl rfl) <| Ye m3 (Xx (f := u64) (a := ((l.set (off + 1) ((l.getD (off + 1) 0) + (x * y) + 0#64)).getD (off + 0) 0) + (Qa7 x y) + (Gh (l.getD (off + 1) 0) (x * y) 0#64)) Xw Xq rfl rfl m3.h0 sD (.inl (Nat.zero_le _))) fun w4 m4 => Zp <| Ls [] trivial ?_
 exact ⟨rfl, m4⟩
theorem Qim (l : List (BitVec 64)) (w0 : World)  (hl : l.length = 5) : X0 prog 101 #[(agg u64 l)] w0 (fun r w1 => r = (agg u64 (Eg l)) ∧ Ext w0 w1) := by
 refine Qy (args := [(agg u64 l)]) func101 rfl ntmps101 results101 rfl ?_
 have m0 : Mem w0 (Qr w0) [] := Mem.of_world w0
 refine sR <| Y9 (Xc (f := u64) (l := l) m0 rfl) fun w1 b1 m1 => Y9 (Q7 m1 Yt) fun w2 b2 m2 => ?_
 refine rN (Qa (sR ?_))
 refine Zm (i64 0) ?_
 refine rN (Qh ?_)
 refine Y1 (fun g wv => ∃ (k : Nat) (wl : List (BitVec 64)), (k ≤ 2) ∧ (wl = carN l k) ∧ g 0 = (agg u64 l) ∧ g 1 = (ptr b1 0) ∧ g 2 = (ptr b2 0) ∧ g 5 = (i64 (k : Int)) ∧ Mem wv (Qr w0) [(b2, .cells (cl u64 (List.replicate 5 0)) 126 (0, 0)), (b1, .cells (cl u64 wl) 126 (0, 0))]) (fun g wv => (2 - RowKit.intOf (g 5)).toNat) ?_ ?_
 ·exact ⟨0, l, oM, rfl, rfl, rfl, rfl, rfl, m2⟩
 rintro fr3 w4 ⟨k, wl, hk, hw, s0, s1, s2, s5, m4⟩
 have z5 := s5
 have hwl : wl.length = 5 := by rw [hw, Qn9, hl]
 obtain ⟨e0, e1, e2, e3, e4, rfl⟩ := Qer wl hwl
 refine sR <| Qd (Xa (b := 2) s5 rfl) ?_
 refine rN (Qa ?_)
 refine Zy rfl (fun hc5 => ?_) (fun hc5 => ?_)
 ·
  have hc5p := of_decide_eq_true hc5
  refine Qn (Qc (Qa (Qh (sR ?_))))
  refine Zx (u64 0#64) ?_
  refine rN (Qa (sR ?_))
  refine Zm (i64 0) ?_
  refine rN (Qh ?_)
  refine Vo 6 ?_
  refine Zq (sR ?_)
  refine Qd (Jd 0 5) ?_
  refine rN (Qa ?_)
  refine Q9 rfl Jb ?_
  refine Qn (Qc (Qa (Qh (sR ?_))))
  refine Zm (i64 0) <| Zx (i64 0) ?_
  refine rN (sR ?_)
  refine Zm (i64 0) <| Qd (Xu 0 0 Xp Xq s1) <| Qd (v := (u64 e0)) (Qi Yj rfl rfl m4.h1 (Qu _ _ 0 Ya)) <| Zm (u64 0#64) <| Qd (Jt (b := 0#64) rfl rfl) <| Qd (Xu 0 0 Xp Xq s1) <| Vu m4 (Zk (f := u64) (l' := [e0 + 0#64, e1, e2, e3, e4]) rfl Xw Xq rfl rfl m4.h1 Ya (.inl (Nat.zero_le _))) fun w6 m6 => ?_
  refine rN (sR ?_)
  refine Zm (i64 0) <| Qd (Xu 0 0 Xp Xq s1) <| Qd (v := (u64 (e0 + 0#64))) (Qi Yj rfl rfl m6.h1 (Qu _ _ 0 Ya)) <| Qd (X9 (b := 51) rfl rfl oM) <| Zx (u64 ((e0 + 0#64) >>> 51)) ?_
  refine rN (Qb ?_)
  refine Zm (i64 0) <| Qd (Xu 0 0 Xp Xq s1) <| Qd (v := (u64 (e0 + 0#64))) (Qi Yj rfl rfl m6.h1 (Qu _ _ 0 Ya)) <| Qd (Vr (b := 2251799813685247#64) rfl rfl) <| Qd (Xu 0 0 Xp Xq s1) <| Vu m6 (Zk (f := u64) (l' := [(e0 + 0#64) &&& 2251799813685247#64, e1, e2, e3, e4]) rfl Xw Xq rfl rfl m6.h1 Ya (.inl (Nat.zero_le _))) fun w7 m7 => ?_
  refine Zp (Qe (Qb ?_))
  refine Qd (v := (i64 1)) (Yo 0 1) <| Zm (i64 1) ?_
  refine rN (Zq (sR ?_))
  refine Qd (Jd 1 5) ?_
  refine rN (Qa ?_)
  refine Q9 rfl Jb ?_
  refine Qn (Qc (Qa (Qh (sR ?_))))
  refine Zm (i64 1) <| Zx (i64 1) ?_
  refine rN (sR ?_)
  refine Zm (i64 1) <| Qd (Xu 1 1 Xp Xq s1) <| Qd (v := (u64 e1)) (Qi Yj rfl rfl m7.h1 (Qu _ _ 0 Ya)) <| Zm (u64 ((e0 + 0#64) >>> 51)) <| Qd (Jt rfl rfl) <| Qd (Xu 1 1 Xp Xq s1) <| Vu m7 (Zk (f := u64) (l' := [(e0 + 0#64) &&& 2251799813685247#64, e1 + ((e0 + 0#64) >>> 51), e2, e3, e4]) rfl Xw Xq rfl rfl m7.h1 Ya (.inl (Nat.zero_le _))) fun w8 m8 => ?_
  refine rN (sR ?_)
  refine Zm (i64 1) <| Qd (Xu 1 1 Xp Xq s1) <| Qd (v := (u64 (e1 + ((e0 + 0#64) >>> 51)))) (Qi Yj rfl rfl m8.h1 (Qu _ _ 0 Ya)) <| Qd (X9 (b := 51) rfl rfl oM) <| Zx (u64 ((e1 + ((e0 + 0#64) >>> 51)) >>> 51)) ?_
  refine rN (Qb ?_)
  refine Zm (i64 1) <| Qd (Xu 1 1 Xp Xq s1) <| Qd (v := (u64 (e1 + ((e0 + 0#64) >>> 51)))) (Qi Yj rfl rfl m8.h1 (Qu _ _ 0 Ya)) <| Qd (Vr (b := 2251799813685247#64) rfl rfl) <| Qd (Xu 1 1 Xp Xq s1) <| Vu m8 (Zk (f := u64) (l' := [(e0 + 0#64) &&& 2251799813685247#64, (e1 + ((e0 + 0#64) >>> 51)) &&& 2251799813685247#64, e2, e3, e4]) rfl Xw Xq rfl rfl m8.h1 Ya (.inl (Nat.zero_le _))) fun w9 m9 => ?_
  refine Zp (Qe (Qb ?_))
  refine Qd (v := (i64 2)) (Yo 1 1) <| Zm (i64 2) ?_
  refine rN (Zq (sR ?_))
  refine Qd (Jd 2 5) ?_
  refine rN (Qa ?_)
  refine Q9 rfl Jb ?_
  refine Qn (Qc (Qa (Qh (sR ?_))))
  refine Zm (i64 2) <| Zx (i64 2) ?_
  refine rN (sR ?_)
  refine Zm (i64 2) <| Qd (Xu 2 2 Xp Xq s1) <| Qd (v := (u64 e2)) (Qi Yj rfl rfl m9.h1 (Qu _ _ 0 Ya)) <| Zm (u64 ((e1 + ((e0 + 0#64) >>> 51)) >>> 51)) <| Qd (Jt rfl rfl) <| Qd (Xu 2 2 Xp Xq s1) <| Vu m9 (Zk (f := u64) (l' := [(e0 + 0#64) &&& 2251799813685247#64, (e1 + ((e0 + 0#64) >>> 51)) &&& 2251799813685247#64, e2 + ((e1 + ((e0 + 0#64) >>> 51)) >>> 51), e3, e4]) rfl Xw Xq rfl rfl m9.h1 Ya (.inl (Nat.zero_le _))) fun w10 m10 => ?_
  refine rN (sR ?_)
  refine Zm (i64 2) <| Qd (Xu 2 2 Xp Xq s1) <| Qd (v := (u64 (e2 + ((e1 + ((e0 + 0#64) >>> 51)) >>> 51)))) (Qi Yj rfl rfl m10.h1 (Qu _ _ 0 Ya)) <| Qd (X9 (b := 51) rfl rfl oM) <| Zx (u64 ((e2 + ((e1 + ((e0 + 0#64) >>> 51)) >>> 51)) >>> 51)) ?_
  refine rN (Qb ?_)
  refine Zm (i64 2) <| Qd (Xu 2 2 Xp Xq s1) <| Qd (v := (u64 (e2 + ((e1 + ((e0 + 0#64) >>> 51)) >>> 51)))) (Qi Yj rfl rfl m10.h1 (Qu _ _ 0 Ya)) <| Qd (Vr (b := 2251799813685247#64) rfl rfl) <| Qd (Xu 2 2 Xp Xq s1) <| Vu m10 (Zk (f := u64) (l' := [(e0 + 0#64) &&& 2251799813685247#64, (e1 + ((e0 + 0#64) >>> 51)) &&& 2251799813685247#64, (e2 + ((e1 + ((e0 + 0#64) >>> 51)) >>> 51)) &&& 2251799813685247#64, e3, e4]) rfl Xw Xq rfl rfl m10.h1 Ya (.inl (Nat.zero_le _))) fun w11 m11 => ?_
  refine Zp (Qe (Qb ?_))
  refine Qd (v := (i64 3)) (Yo 2 1) <| Zm (i64 3) ?_
  refine rN (Zq (sR ?_))
  refine Qd (Jd 3 5) ?_
  refine rN (Qa ?_)
  refine Q9 rfl Jb ?_
  refine Qn (Qc (Qa (Qh (sR ?_))))
  refine Zm (i64 3) <| Zx (i64 3) ?_
  refine rN (sR ?_)
  refine Zm (i64 3) <| Qd (Xu 3 3 Xp Xq s1) <| Qd (v := (u64 e3)) (Qi Yj rfl rfl m11.h1 (Qu _ _ 0 Ya)) <| Zm (u64 ((e2 + ((e1 + ((e0 + 0#64) >>> 51)) >>> 51)) >>> 51)) <| Qd (Jt rfl rfl) <| Qd (Xu 3 3 Xp Xq s1) <| Vu m11 (Zk (f := u64) (l' := [(e0 + 0#64) &&& 2251799813685247#64, (e1 + ((e0 + 0#64) >>> 51)) &&& 2251799813685247#64, (e2 + ((e1 + ((e0 + 0#64) >>> 51)) >>> 51)) &&& 2251799813685247#64, e3 + ((e2 + ((e1 + ((e0 + 0#64) >>> 51)) >>> 51)) >>> 51), e4]) rfl Xw Xq rfl rfl m11.h1 Ya (.inl (Nat.zero_le _))) fun w12 m12 => ?_
  refine rN (sR ?_)
  refine Zm (i64 3) <| Qd (Xu 3 3 Xp Xq s1) <| Qd (v := (u64 (e3 + ((e2 + ((e1 + ((e0 + 0#64) >>> 51)) >>> 51)) >>> 51)))) (Qi Yj rfl rfl m12.h1 (Qu _ _ 0 Ya)) <| Qd (X9 (b := 51) rfl rfl oM) <| Zx (u64 ((e3 + ((e2 + ((e1 + ((e0 + 0#64) >>> 51)) >>> 51)) >>> 51)) >>> 51)) ?_
  refine rN (Qb ?_)
  refine Zm (i64 3) <| Qd (Xu 3 3 Xp Xq s1) <| Qd (v := (u64 (e3 + ((e2 + ((e1 + ((e0 + 0#64) >>> 51)) >>> 51)) >>> 51)))) (Qi Yj rfl rfl m12.h1 (Qu _ _ 0 Ya)) <| Qd (Vr (b := 2251799813685247#64) rfl rfl) <| Qd (Xu 3 3 Xp Xq s1) <| Vu m12 (Zk (f := u64) (l' := [(e0 + 0#64) &&& 2251799813685247#64, (e1 + ((e0 + 0#64) >>> 51)) &&& 2251799813685247#64, (e2 + ((e1 + ((e0 + 0#64) >>> 51)) >>> 51)) &&& 2251799813685247#64, (e3 + ((e2 + ((e1 + ((e0 + 0#64) >>> 51)) >>> 51)) >>> 51)) &&& 2251799813685247#64, e4]) rfl Xw Xq rfl rfl m12.h1 Ya (.inl (Nat.zero_le _))) fun w13 m13 => ?_
  refine Zp (Qe ?_)
  refine CW.abs (fun g => g 0 = (agg u64 l) ∧ g 1 = (ptr b1 0) ∧ g 2 = (ptr b2 0) ∧ g 3 = (u64 ((e3 + ((e2 + ((e1 + ((e0 + 0#64) >>> 51)) >>> 51)) >>> 51)) >>> 51)) ∧ g 4 = (i64 3) ∧ g 5 = (i64 (k : Int)) ∧ g 6 = (bl (decide ((k : Int) < 2))) ∧ g 7 = (i64 3) ∧ g 8 = (bl true) ∧ True) ⟨s0, s1, s2, rfl, rfl, s5, rfl, rfl, rfl, trivial⟩ ?_
  rintro fr14 ⟨s0, s1, s2, s3, s4, s5, s6, s7, s8, _⟩
  refine Qb <| Qd (v := (i64 4)) (Zf (a := 3) (b := 1) s7 rfl oM oM) <| Zm (i64 4) ?_
  refine rN (Zq (sR ?_))
  refine Qd (Jd 4 5) ?_
  refine rN (Qa ?_)
  refine Q9 rfl Jb ?_
  refine Qn (Qc (Qa (Qh (sR ?_))))
  refine Zm (i64 4) <| Zx (i64 4) ?_
  refine rN (sR ?_)
  refine Zm (i64 4) <| Qd (Xu 4 4 Xp Xq s1) <| Qd (v := (u64 e4)) (Qi Yj rfl rfl m13.h1 (Qu _ _ 0 Ya)) <| Yb s3 <| Qd (Jt rfl rfl) <| Qd (Xu 4 4 Xp Xq s1) <| Vu m13 (Zk (f := u64) (l' := [(e0 + 0#64) &&& 2251799813685247#64, (e1 + ((e0 + 0#64) >>> 51)) &&& 2251799813685247#64, (e2 + ((e1 + ((e0 + 0#64) >>> 51)) >>> 51)) &&& 2251799813685247#64, (e3 + ((e2 + ((e1 + ((e0 + 0#64) >>> 51)) >>> 51)) >>> 51)) &&& 2251799813685247#64, e4 + ((e3 + ((e2 + ((e1 + ((e0 + 0#64) >>> 51)) >>> 51)) >>> 51)) >>> 51)]) rfl Xw Xq rfl rfl m13.h1 Ya (.inl (Nat.zero_le _))) fun w15 m15 => ?_
  refine rN (sR ?_)
  refine Zm (i64 4) <| Qd (Xu 4 4 Xp Xq s1) <| Qd (v := (u64 (e4 + ((e3 + ((e2 + ((e1 + ((e0 + 0#64) >>> 51)) >>> 51)) >>> 51)) >>> 51)))) (Qi Yj rfl rfl m15.h1 (Qu _ _ 0 Ya)) <| Qd (X9 (b := 51) rfl rfl oM) <| yqA rfl ?_
  refine rN (Qb ?_)
  refine Zm (i64 4) <| Qd (Xu 4 4 Xp Xq s1) <| Qd (v := (u64 (e4 + ((e3 + ((e2 + ((e1 + ((e0 + 0#64) >>> 51)) >>> 51)) >>> 51)) >>> 51)))) (Qi Yj rfl rfl m15.h1 (Qu _ _ 0 Ya)) <| Qd (Vr (b := 2251799813685247#64) rfl rfl) <| Qd (Xu 4 4 Xp Xq s1) <| Vu m15 (Zk (f := u64) (l' := [(e0 + 0#64) &&& 2251799813685247#64, (e1 + ((e0 + 0#64) >>> 51)) &&& 2251799813685247#64, (e2 + ((e1 + ((e0 + 0#64) >>> 51)) >>> 51)) &&& 2251799813685247#64, (e3 + ((e2 + ((e1 + ((e0 + 0#64) >>> 51)) >>> 51)) >>> 51)) &&& 2251799813685247#64, (e4 + ((e3 + ((e2 + ((e1 + ((e0 + 0#64) >>> 51)) >>> 51)) >>> 51)) >>> 51)) &&& 2251799813685247#64]) rfl Xw Xq rfl rfl m15.h1 Ya (.inl (Nat.zero_le _))) fun w16 m16 => ?_
  refine Zp (Qe (Qb ?_))
  refine Qd (v := (i64 5)) (Yo 4 1) <| Zm (i64 5) ?_
  refine rN (Zq (sR ?_))
  refine Qd (Jd 5 5) ?_
  refine rN (Qa ?_)
  refine Ja rfl Jb <| X4 ?_
  refine Qj (Qj (Xi ?_))
  refine Qb <| Qd (Xu 0 0 Xp Xq s1) <| Qd (v := (u64 ((e0 + 0#64) &&& 2251799813685247#64))) (Qi Yj rfl rfl m16.h1 (Qu _ _ 0 Ya)) <| Yb rfl <| Qd (Dc (a := 19#64) rfl rfl) <| Qd (Jt rfl rfl) <| Qd (Xu 0 0 Xp Xq s1) <| Vu m16 (Zk (f := u64) (l' := [((e0 + 0#64) &&& 2251799813685247#64) + (19#64 * ((e4 + ((e3 + ((e2 + ((e1 + ((e0 + 0#64) >>> 51)) >>> 51)) >>> 51)) >>> 51)) >>> 51)), (e1 + ((e0 + 0#64) >>> 51)) &&& 2251799813685247#64, (e2 + ((e1 + ((e0 + 0#64) >>> 51)) >>> 51)) &&& 2251799813685247#64, (e3 + ((e2 + ((e1 + ((e0 + 0#64) >>> 51)) >>> 51)) >>> 51)) &&& 2251799813685247#64, (e4 + ((e3 + ((e2 + ((e1 + ((e0 + 0#64) >>> 51)) >>> 51)) >>> 51)) >>> 51)) &&& 2251799813685247#64]) rfl Xw Xq rfl rfl m16.h1 Ya (.inl (Nat.zero_le _))) fun w17 m17 => ?_
  refine Zp (Qe (Qb ?_))
  refine Qd (Zf (b := 1) s5 rfl oM oM) <| Zm (i64 ((k : Int) + 1)) <| rN ?_
  have hwn : [((e0 + 0#64) &&& 2251799813685247#64) + (19#64 * ((e4 + ((e3 + ((e2 + ((e1 + ((e0 + 0#64) >>> 51)) >>> 51)) >>> 51)) >>> 51)) >>> 51)), (e1 + ((e0 + 0#64) >>> 51)) &&& 2251799813685247#64, (e2 + ((e1 + ((e0 + 0#64) >>> 51)) >>> 51)) &&& 2251799813685247#64, (e3 + ((e2 + ((e1 + ((e0 + 0#64) >>> 51)) >>> 51)) >>> 51)) &&& 2251799813685247#64, (e4 + ((e3 + ((e2 + ((e1 + ((e0 + 0#64) >>> 51)) >>> 51)) >>> 51)) >>> 51)) &&& 2251799813685247#64] = carN l (k + 1) := by show _ = Qe9 (carN l k); rw [← hw]; rfl
  exact ⟨⟨k + 1, ([((e0 + 0#64) &&& 2251799813685247#64) + (19#64 * ((e4 + ((e3 + ((e2 + ((e1 + ((e0 + 0#64) >>> 51)) >>> 51)) >>> 51)) >>> 51)) >>> 51)), (e1 + ((e0 + 0#64) >>> 51)) &&& 2251799813685247#64, (e2 + ((e1 + ((e0 + 0#64) >>> 51)) >>> 51)) &&& 2251799813685247#64, (e3 + ((e2 + ((e1 + ((e0 + 0#64) >>> 51)) >>> 51)) >>> 51)) &&& 2251799813685247#64, (e4 + ((e3 + ((e2 + ((e1 + ((e0 + 0#64) >>> 51)) >>> 51)) >>> 51)) >>> 51)) &&& 2251799813685247#64]), oM, hwn, s0, s1, s2, rfl, m17⟩, Ue rfl z5 oM oM⟩
 ·
  have hc5p := of_decide_eq_false hc5
  obtain rfl : k = 2 := by omega
  refine X4 ?_
  refine Qj (Qj (Xi ?_))
  refine sR <| Qd (Qo Xp rfl Yt s1 m4.h1 sZ) <| Ye m4 (Qg (f := u64) (l := [e0, e1, e2, e3, e4]) Xw Yt s2 rfl sD m4.h0 sZ rfl) fun w18 m18 => ?_
  refine rN (Zz ?_)
  refine Qp [(agg u64 ([e0, e1, e2, e3, e4]))] ⟨⟨_, s2, Xn Xp rfl Yt m18.h0 sZ⟩, trivial⟩ ?_
  exact ⟨congrArg (agg u64) hw, m18.toExt⟩
theorem Qms (a b : List (BitVec 64)) (w0 : World)  (ha : a.length = 5) (hb : b.length = 5) : X0 prog 97 #[(agg u64 a), (agg u64 b)] w0 (fun r w1 => r = (agg u64 (Z4 a b)) ∧ Ext w0 w1) := by
 refine Qy (args := [(agg u64 a), (agg u64 b)]) func97 rfl ntmps97 results97 rfl ?_
 have m0 : Mem w0 (Qr w0) [] := Mem.of_world w0
 obtain ⟨x0, x1, x2, x3, x4, rfl⟩ := Qer a ha
 obtain ⟨y0, y1, y2, y3, y4, rfl⟩ := Qer b hb
 refine sR <| Y9 (Xc (f := u64) (l := [x0, x1, x2, x3, x4]) m0 rfl) fun w1 b2 m1 => Y9 (Xc (f := u64) (l := [y0, y1, y2, y3, y4]) m1 rfl) fun w2 b3 m2 => Y9 (Q7 m2 Yt) fun w3 b4 m3 => ?_
 refine rN (Qa (sR ?_))
 refine Zm (i64 0) ?_
 refine rN (Qh ?_)
 refine Vo 6 ?_
 refine Zq (sR ?_)
 refine Qd (Jd 0 5) ?_
 refine rN (Qa ?_)
 refine Q9 rfl Jb ?_
 refine Qn (Qc (Qa (Qh (sR ?_))))
 refine Zm (i64 0) <| Zx (i64 0) <| rN <| Xg (dl 8) 8 Xo <| J8 rfl (i64 0) <| J8 rfl (i64 0) <| X6 rfl (Xu 0 0 Xp Xq rfl) <| Ym (v := (u64 x0)) rfl (fun _ e' => Qi Yj rfl rfl (m3.ext e').h2 (Qu _ _ 0 Ya)) <| J8 rfl (i64 0) <| X6 rfl (Xu 0 0 Xp Xq rfl) <| Ym (v := (u64 y0)) rfl (fun _ e' => Qi Yj rfl rfl (m3.ext e').h1 (Qu _ _ 0 Ya)) <| X6 rfl (Jt rfl rfl) ?_
 refine Gf m3 fun w4 m4 => Qd (Xu 0 0 Xp Xq rfl) <| Ye m4 (Zk (f := u64) (l' := [x0 + y0, 0, 0, 0, 0]) rfl Xw Xq rfl rfl m4.h0 Ya (.inl (Nat.zero_le _))) fun w5 m5 => ?_
 refine Zp (Qe (Qb ?_))
 refine Qd (v := (i64 1)) (Yo 0 1) <| Zm (i64 1) ?_
 refine rN (Zq (sR ?_))
 refine Qd (Jd 1 5) ?_
 refine rN (Qa ?_)
 refine Q9 rfl Jb ?_
 refine Qn (Qc (Qa (Qh (sR ?_))))
 refine Zm (i64 1) <| Zx (i64 1) <| rN <| Xg (dl 8) 8 Xo <| J8 rfl (i64 1) <| J8 rfl (i64 1) <| X6 rfl (Xu 1 1 Xp Xq rfl) <| Ym (v := (u64 x1)) rfl (fun _ e' => Qi Yj rfl rfl (m5.ext e').h2 (Qu _ _ 0 Ya)) <| J8 rfl (i64 1) <| X6 rfl (Xu 1 1 Xp Xq rfl) <| Ym (v := (u64 y1)) rfl (fun _ e' => Qi Yj rfl rfl (m5.ext e').h1 (Qu _ _ 0 Ya)) <| X6 rfl (Jt rfl rfl) ?_
 refine Gf m5 fun w6 m6 => Qd (Xu 1 1 Xp Xq rfl) <| Ye m6 (Zk (f := u64) (l' := [x0 + y0, x1 + y1, 0, 0, 0]) rfl Xw Xq rfl rfl m6.h0 Ya (.inl (Nat.zero_le _))) fun w7 m7 => ?_
 refine Zp (Qe (Qb ?_))
 refine Qd (v := (i64 2)) (Yo 1 1) <| Zm (i64 2) ?_
 refine rN (Zq (sR ?_))
 refine Qd (Jd 2 5) ?_
 refine rN (Qa ?_)
 refine Q9 rfl Jb ?_
 refine Qn (Qc (Qa (Qh (sR ?_))))
 refine Zm (i64 2) <| Zx (i64 2) <| rN <| Xg (dl 8) 8 Xo <| J8 rfl (i64 2) <| J8 rfl (i64 2) <| X6 rfl (Xu 2 2 Xp Xq rfl) <| Ym (v := (u64 x2)) rfl (fun _ e' => Qi Yj rfl rfl (m7.ext e').h2 (Qu _ _ 0 Ya)) <| J8 rfl (i64 2) <| X6 rfl (Xu 2 2 Xp Xq rfl) <| Ym (v := (u64 y2)) rfl (fun _ e' => Qi Yj rfl rfl (m7.ext e').h1 (Qu _ _ 0 Ya)) <| X6 rfl (Jt rfl rfl) ?_
 refine Gf m7 fun w8 m8 => Qd (Xu 2 2 Xp Xq rfl) <| Ye m8 (Zk (f := u64) (l' := [x0 + y0, x1 + y1, x2 + y2, 0, 0]) rfl Xw Xq rfl rfl m8.h0 Ya (.inl (Nat.zero_le _))) fun w9 m9 => ?_
 refine Zp (Qe (Qb ?_))
 refine Qd (v := (i64 3)) (Yo 2 1) <| Zm (i64 3) ?_
 refine rN (Zq (sR ?_))
 refine Qd (Jd 3 5) ?_
 refine rN (Qa ?_)
 refine Q9 rfl Jb ?_
 refine Qn (Qc (Qa (Qh (sR ?_))))
 refine Zm (i64 3) <| Zx (i64 3) <| rN <| Xg (dl 8) 8 Xo <| J8 rfl (i64 3) <| J8 rfl (i64 3) <| X6 rfl (Xu 3 3 Xp Xq rfl) <| Ym (v := (u64 x3)) rfl (fun _ e' => Qi Yj rfl rfl (m9.ext e').h2 (Qu _ _ 0 Ya)) <| J8 rfl (i64 3) <| X6 rfl (Xu 3 3 Xp Xq rfl) <| Ym (v := (u64 y3)) rfl (fun _ e' => Qi Yj rfl rfl (m9.ext e').h1 (Qu _ _ 0 Ya)) <| X6 rfl (Jt rfl rfl) ?_
 refine Gf m9 fun w10 m10 => Qd (Xu 3 3 Xp Xq rfl) <| Ye m10 (Zk (f := u64) (l' := [x0 + y0, x1 + y1, x2 + y2, x3 + y3, 0]) rfl Xw Xq rfl rfl m10.h0 Ya (.inl (Nat.zero_le _))) fun w11 m11 => ?_
 refine Zp (Qe (Qb ?_))
 refine Qd (v := (i64 4)) (Yo 3 1) <| Zm (i64 4) ?_
 refine rN (Zq (sR ?_))
 refine Qd (Jd 4 5) ?_
 refine rN (Qa ?_)
 refine Q9 rfl Jb ?_
 refine Qn (Qc (Qa (Qh (sR ?_))))
 refine Zm (i64 4) <| Zx (i64 4) <| rN <| Xg (dl 8) 8 Xo <| J8 rfl (i64 4) <| J8 rfl (i64 4) <| X6 rfl (Xu 4 4 Xp Xq rfl) <| Ym (v := (u64 x4)) rfl (fun _ e' => Qi Yj rfl rfl (m11.ext e').h2 (Qu _ _ 0 Ya)) <| J8 rfl (i64 4) <| X6 rfl (Xu 4 4 Xp Xq rfl) <| Ym (v := (u64 y4)) rfl (fun _ e' => Qi Yj rfl rfl (m11.ext e').h1 (Qu _ _ 0 Ya)) <| X6 rfl (Jt rfl rfl) ?_
 refine Gf m11 fun w12 m12 => Qd (Xu 4 4 Xp Xq rfl) <| Ye m12 (Zk (f := u64) (l' := [x0 + y0, x1 + y1, x2 + y2, x3 + y3, x4 + y4]) rfl Xw Xq rfl rfl m12.h0 Ya (.inl (Nat.zero_le _))) fun w13 m13 => ?_
 refine Zp (Qe (Qb ?_))
 refine Qd (v := (i64 5)) (Yo 4 1) <| Zm (i64 5) ?_
 refine rN (Zq (sR ?_))
 refine Qd (Jd 5 5) ?_
 refine rN (Qa ?_)
 refine Ja rfl Jb <| X4 ?_
 refine Qj (Qj (Xi ?_))
 refine sR <| Qd (Qo Xp rfl Yt rfl m13.h0 sZ) <| U3 m13 (oc101 (Jv rfl) (Qim _ _ sD)) fun w14 m14 => Ye m14 (Qg (f := u64) (l := Eg ([x0 + y0, x1 + y1, x2 + y2, x3 + y3, x4 + y4])) Xw Yt rfl rfl sD m14.h0 sZ rfl) fun w16 m16 => ?_
 refine rN (Zz ?_)
 refine Qp [(agg u64 (Eg ([x0 + y0, x1 + y1, x2 + y2, x3 + y3, x4 + y4])))] ⟨⟨_, rfl, Xn Xp rfl Yt m16.h0 sZ⟩, trivial⟩ ?_
 exact ⟨rfl, m16.toExt⟩
theorem Qik (a b : List (BitVec 64)) (w0 : World)  (ha : a.length = 5) (hb : b.length = 5) : X0 prog 98 #[(agg u64 a), (agg u64 b)] w0 (fun r w1 => r = (agg u64 (Zb a b)) ∧ Ext w0 w1) := by
 refine Qy (args := [(agg u64 a), (agg u64 b)]) func98 rfl ntmps98 results98 rfl ?_
 have m0 : Mem w0 (Qr w0) [] := Mem.of_world w0
 obtain ⟨x0, x1, x2, x3, x4, rfl⟩ := Qer a ha
 obtain ⟨y0, y1, y2, y3, y4, rfl⟩ := Qer b hb
 refine sR <| Y9 (Xc (f := u64) (l := [x0, x1, x2, x3, x4]) m0 rfl) fun w1 b2 m1 => Y9 (Xc (f := u64) (l := [y0, y1, y2, y3, y4]) m1 rfl) fun w2 b3 m2 => Y9 (Q7 m2 Yt) fun w3 b4 m3 => ?_
 refine rN (Qa (sR ?_))
 refine Zm (i64 0) ?_
 refine rN (Qh ?_)
 refine Vo 6 ?_
 refine Zq (sR ?_)
 refine Qd (Jd 0 5) ?_
 refine rN (Qa ?_)
 refine Q9 rfl Jb ?_
 refine Qn (Qc (Qa (Qh (sR ?_))))
 refine Zm (i64 0) <| Zx (i64 0) <| rN <| Xg (dl 9) 9 Xo <| J8 rfl (i64 0) <| J8 rfl (i64 0) <| X6 rfl (Xu 0 0 Xp Xq rfl) <| Ym (v := (u64 x0)) rfl (fun _ e' => Qi Yj rfl rfl (m3.ext e').h2 (Qu _ _ 0 Ya)) <| X6 rfl (Jt (b := 4503599627370494#64) rfl rfl) <| J8 rfl (i64 0) <| X6 rfl (Xu 0 0 Xp Xq rfl) <| Ym (v := (u64 y0)) rfl (fun _ e' => Qi Yj rfl rfl (m3.ext e').h1 (Qu _ _ 0 Ya)) ?_
 refine X6 rfl (Md rfl rfl) <| Gf m3 fun w4 m4 => Qd (Xu 0 0 Xp Xq rfl) <| Ye m4 (Zk (f := u64) (l' := [(x0 + 4503599627370494#64) - y0, 0, 0, 0, 0]) rfl Xw Xq rfl rfl m4.h0 Ya (.inl (Nat.zero_le _))) fun w5 m5 => ?_
 refine Zp (Qe (Qb ?_))
 refine Qd (v := (i64 1)) (Yo 0 1) <| Zm (i64 1) ?_
 refine rN (Zq (sR ?_))
 refine Qd (Jd 1 5) ?_
 refine rN (Qa ?_)
 refine Q9 rfl Jb ?_
 refine Qn (Qc (Qa (Qh (sR ?_))))
 refine Zm (i64 1) <| Zx (i64 1) <| rN <| Xg (dl 9) 9 Xo <| J8 rfl (i64 1) <| J8 rfl (i64 1) <| X6 rfl (Xu 1 1 Xp Xq rfl) <| Ym (v := (u64 x1)) rfl (fun _ e' => Qi Yj rfl rfl (m5.ext e').h2 (Qu _ _ 0 Ya)) <| X6 rfl (Jt (b := 4503599627370494#64) rfl rfl) <| J8 rfl (i64 1) <| X6 rfl (Xu 1 1 Xp Xq rfl) <| Ym (v := (u64 y1)) rfl (fun _ e' => Qi Yj rfl rfl (m5.ext e').h1 (Qu _ _ 0 Ya)) ?_
 refine X6 rfl (Md rfl rfl) <| Gf m5 fun w6 m6 => Qd (Xu 1 1 Xp Xq rfl) <| Ye m6 (Zk (f := u64) (l' := [(x0 + 4503599627370494#64) - y0, (x1 + 4503599627370494#64) - y1, 0, 0, 0]) rfl Xw Xq rfl rfl m6.h0 Ya (.inl (Nat.zero_le _))) fun w7 m7 => ?_
 refine Zp (Qe (Qb ?_))
 refine Qd (v := (i64 2)) (Yo 1 1) <| Zm (i64 2) ?_
 refine rN (Zq (sR ?_))
 refine Qd (Jd 2 5) ?_
 refine rN (Qa ?_)
 refine Q9 rfl Jb ?_
 refine Qn (Qc (Qa (Qh (sR ?_))))
 refine Zm (i64 2) <| Zx (i64 2) <| rN <| Xg (dl 9) 9 Xo <| J8 rfl (i64 2) <| J8 rfl (i64 2) <| X6 rfl (Xu 2 2 Xp Xq rfl) <| Ym (v := (u64 x2)) rfl (fun _ e' => Qi Yj rfl rfl (m7.ext e').h2 (Qu _ _ 0 Ya)) <| X6 rfl (Jt (b := 4503599627370494#64) rfl rfl) <| J8 rfl (i64 2) <| X6 rfl (Xu 2 2 Xp Xq rfl) <| Ym (v := (u64 y2)) rfl (fun _ e' => Qi Yj rfl rfl (m7.ext e').h1 (Qu _ _ 0 Ya)) ?_
 refine X6 rfl (Md rfl rfl) <| Gf m7 fun w8 m8 => Qd (Xu 2 2 Xp Xq rfl) <| Ye m8 (Zk (f := u64) (l' := [(x0 + 4503599627370494#64) - y0, (x1 + 4503599627370494#64) - y1, (x2 + 4503599627370494#64) - y2, 0, 0]) rfl Xw Xq rfl rfl m8.h0 Ya (.inl (Nat.zero_le _))) fun w9 m9 => ?_
 refine Zp (Qe (Qb ?_))
 refine Qd (v := (i64 3)) (Yo 2 1) <| Zm (i64 3) ?_
 refine rN (Zq (sR ?_))
 refine Qd (Jd 3 5) ?_
 refine rN (Qa ?_)
 refine Q9 rfl Jb ?_
 refine Qn (Qc (Qa (Qh (sR ?_))))
 refine Zm (i64 3) <| Zx (i64 3) <| rN <| Xg (dl 9) 9 Xo <| J8 rfl (i64 3) <| J8 rfl (i64 3) <| X6 rfl (Xu 3 3 Xp Xq rfl) <| Ym (v := (u64 x3)) rfl (fun _ e' => Qi Yj rfl rfl (m9.ext e').h2 (Qu _ _ 0 Ya)) <| X6 rfl (Jt (b := 4503599627370494#64) rfl rfl) <| J8 rfl (i64 3) <| X6 rfl (Xu 3 3 Xp Xq rfl) <| Ym (v := (u64 y3)) rfl (fun _ e' => Qi Yj rfl rfl (m9.ext e').h1 (Qu _ _ 0 Ya)) ?_
 refine X6 rfl (Md rfl rfl) <| Gf m9 fun w10 m10 => Qd (Xu 3 3 Xp Xq rfl) <| Ye m10 (Zk (f := u64) (l' := [(x0 + 4503599627370494#64) - y0, (x1 + 4503599627370494#64) - y1, (x2 + 4503599627370494#64) - y2, (x3 + 4503599627370494#64) - y3, 0]) rfl Xw Xq rfl rfl m10.h0 Ya (.inl (Nat.zero_le _))) fun w11 m11 => ?_
 refine Zp (Qe (Qb ?_))
 refine Qd (v := (i64 4)) (Yo 3 1) <| Zm (i64 4) ?_
 refine rN (Zq (sR ?_))
 refine Qd (Jd 4 5) ?_
 refine rN (Qa ?_)
 refine Q9 rfl Jb ?_
 refine Qn (Qc (Qa (Qh (sR ?_))))
 refine Zm (i64 4) <| Zx (i64 4) <| rN <| Xg (dl 9) 9 Xo <| J8 rfl (i64 4) <| J8 rfl (i64 4) <| X6 rfl (Xu 4 4 Xp Xq rfl) <| Ym (v := (u64 x4)) rfl (fun _ e' => Qi Yj rfl rfl (m11.ext e').h2 (Qu _ _ 0 Ya)) <| X6 rfl (Jt (b := 4503599627370494#64) rfl rfl) <| J8 rfl (i64 4) <| X6 rfl (Xu 4 4 Xp Xq rfl) <| Ym (v := (u64 y4)) rfl (fun _ e' => Qi Yj rfl rfl (m11.ext e').h1 (Qu _ _ 0 Ya)) ?_
 refine X6 rfl (Md rfl rfl) <| Gf m11 fun w12 m12 => Qd (Xu 4 4 Xp Xq rfl) <| Ye m12 (Zk (f := u64) (l' := [(x0 + 4503599627370494#64) - y0, (x1 + 4503599627370494#64) - y1, (x2 + 4503599627370494#64) - y2, (x3 + 4503599627370494#64) - y3, (x4 + 4503599627370494#64) - y4]) rfl Xw Xq rfl rfl m12.h0 Ya (.inl (Nat.zero_le _))) fun w13 m13 => ?_
 refine Zp (Qe (Qb ?_))
 refine Qd (v := (i64 5)) (Yo 4 1) <| Zm (i64 5) ?_
 refine rN (Zq (sR ?_))
 refine Qd (Jd 5 5) ?_
 refine rN (Qa ?_)
 refine Ja rfl Jb <| X4 ?_
 refine Qj (Qj (Xi ?_))
 refine sR <| Qd (Xu 0 0 Xp Xq rfl) <| Qd (v := (u64 ((x0 + 4503599627370494#64) - y0))) (Qi Yj rfl rfl m13.h0 (Qu _ _ 0 Ya)) <| Qd (Md (b := 36#64) rfl rfl) <| Qd (Xu 0 0 Xp Xq rfl) <| Ye m13 (Zk (f := u64) (l' := [((x0 + 4503599627370494#64) - y0) - 36#64, (x1 + 4503599627370494#64) - y1, (x2 + 4503599627370494#64) - y2, (x3 + 4503599627370494#64) - y3, (x4 + 4503599627370494#64) - y4]) rfl Xw Xq rfl rfl m13.h0 Ya (.inl (Nat.zero_le _))) fun w14 m14 => rN ?_
 refine CW.abs (fun g => g 0 = (agg u64 ([x0, x1, x2, x3, x4])) ∧ g 1 = (agg u64 ([y0, y1, y2, y3, y4])) ∧ g 2 = (ptr b2 0) ∧ g 3 = (ptr b3 0) ∧ g 4 = (ptr b4 0) ∧ g 5 = (i64 4) ∧ g 6 = (i64 5) ∧ g 7 = (bl false) ∧ True) ⟨rfl, rfl, rfl, rfl, rfl, rfl, rfl, rfl, trivial⟩ ?_
 rintro fr15 ⟨s0, s1, s2, s3, s4, s5, s6, s7, _⟩
 refine sR <| Qd (Qo Xp rfl Yt s4 m14.h0 sZ) <| U3 m14 (oc101 (Jv rfl) (Qim _ _ sD)) fun w16 m16 => Ye m16 (Qg (f := u64) (l := Eg ([((x0 + 4503599627370494#64) - y0) - 36#64, (x1 + 4503599627370494#64) - y1, (x2 + 4503599627370494#64) - y2, (x3 + 4503599627370494#64) - y3, (x4 + 4503599627370494#64) - y4])) Xw Yt s4 rfl sD m16.h0 sZ rfl) fun w18 m18 => ?_
 refine rN (Zz ?_)
 refine Qp [(agg u64 (Eg ([((x0 + 4503599627370494#64) - y0) - 36#64, (x1 + 4503599627370494#64) - y1, (x2 + 4503599627370494#64) - y2, (x3 + 4503599627370494#64) - y3, (x4 + 4503599627370494#64) - y4])))] ⟨⟨_, s4, Xn Xp rfl Yt m18.h0 sZ⟩, trivial⟩ ?_
 exact ⟨rfl, m18.toExt⟩
set_option maxHeartbeats 1000000 in
theorem D7 (a b : List (BitVec 64)) (w0 : World)  (ha : a.length = 5) (hb : b.length = 5) : X0 prog 81 #[(agg u64 a), (agg u64 b)] w0 (fun r w1 => r = (agg u64 (Qm a b)) ∧ Ext w0 w1) := by
 refine Qy (args := [(agg u64 a), (agg u64 b)]) func81 rfl ntmps81 results81 rfl ?_
 have m0 : Mem w0 (Qr w0) [] := Mem.of_world w0
 refine sR <| Y9 (Xc (f := u64) (l := a) m0 rfl) fun w1 b2 m1 => Y9 (Xc (f := u64) (l := b) m1 rfl) fun w2 b3 m2 => Y9 (Q7 m2 Yt) fun w3 b4 m3 => ?_
 refine rN (sR ?_)
 refine Y9 (Q7 m3 ti147) fun w4 b5 m4 => ?_
 refine rN (Qa (sR ?_))
 refine Qd (Qo Xp rfl Yt rfl m4.h3 sZ) <| Zm (i64 0) ?_
 refine rN (Qh ?_)
 refine Y1 (fun g wv => ∃ (i : Nat) (wl : List (BitVec 64)), (i ≤ 5) ∧ (wl = Ub a b i) ∧ g 0 = (agg u64 a) ∧ g 1 = (agg u64 b) ∧ g 2 = (ptr b2 0) ∧ g 3 = (ptr b3 0) ∧ g 4 = (ptr b4 0) ∧ g 5 = (ptr b5 0) ∧ g 17 = (agg u64 a) ∧ g 18 = (i64 (i : Int)) ∧ Mem wv (Qr w0) [(b5, .cells (cl u64 wl) 147 (0, 0)), (b4, .cells (cl u64 (List.replicate 5 0)) 126 (0, 0)), (b3, .cells (cl u64 b) 126 (0, 0)), (b2, .cells (cl u64 a) 126 (0, 0))]) (fun g wv => (5 - RowKit.intOf (g 18)).toNat) ?_ ?_
 ·exact ⟨0, (List.replicate 10 0), oM, rfl, rfl, rfl, rfl, rfl, rfl, rfl, rfl, rfl, m4⟩
 rintro fr5 w6 ⟨i, wl, hi, hw, s0, s1, s2, s3, s4, s5, s17, s18, m6⟩
 have z18 := s18
 have hwl : wl.length = 10 := by rw [hw, Qgg]
 refine sR <| Qd (Xa (b := 5) s18 rfl) ?_
 refine rN (Qa ?_)
 refine Zy rfl (fun hc7 => ?_) (fun hc7 => ?_)
 ·
  have hc7p := of_decide_eq_true hc7
  refine Qn (Qc (Qa (Qh (sR ?_))))
  refine Yb s18 <| Qd (v := (u64 (a.getD i 0))) (Ju Xp Yj rfl Xq s17 s18 oM sD (Qu _ _ 0 sD)) <| Zx (i64 (i : Int)) <| Zx (u64 (a.getD i 0)) ?_
  refine rN (sR ?_)
  refine Qd (Qo Xp rfl Yt s3 m6.h2 sZ) <| Zm (i64 0) ?_
  refine rN (V8 ?_)
  refine Y1 (fun g wv => ∃ (k : Nat) (wk : List (BitVec 64)), (k ≤ 5) ∧ (wk = Rx a b i wl k) ∧ g 0 = (agg u64 a) ∧ g 1 = (agg u64 b) ∧ g 2 = (ptr b2 0) ∧ g 3 = (ptr b3 0) ∧ g 4 = (ptr b4 0) ∧ g 5 = (ptr b5 0) ∧ g 6 = (i64 (i : Int)) ∧ g 7 = (u64 (a.getD i 0)) ∧ g 17 = (agg u64 a) ∧ g 18 = (i64 (i : Int)) ∧ g 19 = (bl (decide ((i : Int) < 5))) ∧ g 22 = (agg u64 b) ∧ g 23 = (i64 (k : Int)) ∧ Mem wv (Qr w0) [(b5, .cells (cl u64 wk) 147 (0, 0)), (b4, .cells (cl u64 (List.replicate 5 0)) 126 (0, 0)), (b3, .cells (cl u64 b) 126 (0, 0)), (b2, .cells (cl u64 a) 126 (0, 0))]) (fun g wv => (5 - RowKit.intOf (g 23)).toNat) ?_ ?_
  ·exact ⟨0, wl, oM, rfl, s0, s1, s2, s3, s4, s5, rfl, rfl, s17, s18, rfl, rfl, rfl, m6⟩
  rintro fr8 w9 ⟨k, wk, hk, hwk, s0, s1, s2, s3, s4, s5, s6, s7, s17, s18, s19, s22, s23, m9⟩
  have z23 := s23
  have hwkl : wk.length = 10 := by rw [hwk, Qce, hwl]
  refine sR <| Qd (Xa (b := 5) s23 rfl) ?_
  refine rN (Qa ?_)
  refine Zy rfl (fun hc10 => ?_) (fun hc10 => ?_)
  ·
   have hc10p := of_decide_eq_true hc10
   refine Qn (Qc (Qa (Qh (sR ?_))))
   refine Yb s23 <| Qd (v := (u64 (b.getD k 0))) (Ju Xp Yj rfl Xq s22 s23 oM sD (Qu _ _ 0 sD)) <| Zx (i64 (k : Int)) <| Zx (u64 (b.getD k 0)) ?_
   refine rN (sR ?_)
   refine Yb s6 <| Zm (i64 (k : Int)) <| Qd (Jy.cast (congrArg i64 (show (i : Int) + (k : Int) = ((i + k : Nat) : Int) by omega)) (Zf rfl rfl oM oM)) <| Zx (i64 ((i + k : Nat) : Int)) ?_
   refine rN (sR ?_)
   refine Zm (i64 ((i + k : Nat) : Int)) <| Qd (Xa (b := 5) rfl rfl) <| rN ?_
   refine Zy rfl (fun hc11 => ?_) (fun hc11 => ?_)
   ·
    have hc11p := of_decide_eq_true hc11
    refine Qb <| Zm (i64 ((i + k : Nat) : Int)) <| Qd (Zl (r := (i + k) * 2) oM uT147 Qm3 s5 rfl oM sD) <| Yb s7 <| Zm (u64 (b.getD k 0)) ?_
    have hF13 : Mem _ _ ([(b5, .cells (cl u64 wk) 147 (0, 0))] ++ ([_, _, _])) := m9
    refine Vw (oc99 (Ci rfl rfl rfl) (c_wadd b5 ((i + k) * 2) wk (a.getD i 0) (b.getD k 0) _ _ (Mem.give hF13) sD)) ?_
    rintro _ w12 ⟨rfl, k_w12⟩
    have m12 : Mem _ _ [_, _, _, _] := Mem.back hF13 k_w12
    refine Zp (Qe (Qb ?_))
    refine Qd (Zf (b := 1) s23 rfl oM oM) <| Zm (i64 ((k : Int) + 1)) <| rN ?_
    have hwn : Dq wk ((i + k) * 2) (a.getD i 0) (b.getD k 0) = Rx a b i wl (k + 1) := by rw [hwk]; exact Qrl oM
    exact ⟨⟨k + 1, (Dq wk ((i + k) * 2) (a.getD i 0) (b.getD k 0)), oM, hwn, s0, s1, s2, s3, s4, s5, s6, s7, s17, s18, s19, s22, rfl, m12⟩, Ue rfl z23 oM oM⟩
   ·
    have hc11p := of_decide_eq_false hc11
    refine Qb <| Zm (i64 ((i + k : Nat) : Int)) <| Qd (Jy.cast (congrArg i64 (show ((i + k : Nat) : Int) - 5 = ((i + k - 5 : Nat) : Int) by omega)) (Yf (b := 5) rfl rfl oM oM)) <| Qd (Zl (r := (i + k - 5) * 2) oM uT147 Qm3 s5 rfl oM sD) <| Yb s7 <| Qd (Dc (a := 19#64) rfl rfl) <| Zm (u64 (b.getD k 0)) ?_
    have hF16 : Mem _ _ ([(b5, .cells (cl u64 wk) 147 (0, 0))] ++ ([_, _, _])) := m9
    refine Vw (oc99 (Ci rfl rfl rfl) (c_wadd b5 ((i + k - 5) * 2) wk (19#64 * (a.getD i 0)) (b.getD k 0) _ _ (Mem.give hF16) sD)) ?_
    rintro _ w15 ⟨rfl, k_w15⟩
    have m15 : Mem _ _ [_, _, _, _] := Mem.back hF16 k_w15
    refine Zp (Qe (Qb ?_))
    refine Qd (Zf (b := 1) s23 rfl oM oM) <| Zm (i64 ((k : Int) + 1)) <| rN ?_
    have hwn : Dq wk ((i + k - 5) * 2) (19#64 * (a.getD i 0)) (b.getD k 0) = Rx a b i wl (k + 1) := by rw [hwk]; exact Qrm oM
    exact ⟨⟨k + 1, (Dq wk ((i + k - 5) * 2) (19#64 * (a.getD i 0)) (b.getD k 0)), oM, hwn, s0, s1, s2, s3, s4, s5, s6, s7, s17, s18, s19, s22, rfl, m15⟩, Ue rfl z23 oM oM⟩
  ·
   have hc10p := of_decide_eq_false hc10
   obtain rfl : k = 5 := by omega
   refine X4 ?_
   refine Qj (Qj (Xi ?_))
   refine Qe (Qb ?_)
   refine Qd (Zf (b := 1) s18 rfl oM oM) <| Zm (i64 ((i : Int) + 1)) <| rN ?_
   have hwo : wk = Ub a b (i + 1) := by rw [hwk, hw]; rfl
   exact ⟨⟨i + 1, wk, oM, hwo, s0, s1, s2, s3, s4, s5, s17, rfl, m9⟩, Ue rfl z18 oM oM⟩
 ·
  have hc7p := of_decide_eq_false hc7
  obtain rfl : i = 5 := by omega
  refine X4 ?_
  refine Qj (Qj (Xi ?_))
  refine sR <| Zx (u64 0#64) ?_
  refine rN (Qa (sR ?_))
  refine Qd (Qo uT147 rfl ti147 s5 m6.h0 sZ) <| Zm (i64 0) ?_
  refine rN (Qh ?_)
  refine Y1 (fun g wv => ∃ (i : Nat), (i ≤ 5) ∧ g 0 = (agg u64 a) ∧ g 1 = (agg u64 b) ∧ g 2 = (ptr b2 0) ∧ g 3 = (ptr b3 0) ∧ g 4 = (ptr b4 0) ∧ g 5 = (ptr b5 0) ∧ g 11 = (u64 (Dx wl i)) ∧ g 17 = (agg u64 a) ∧ g 18 = (i64 (5 : Int)) ∧ g 19 = (bl (decide ((5 : Int) < 5))) ∧ g 46 = (agg u64 wl) ∧ g 47 = (i64 (i : Int)) ∧ Mem wv (Qr w0) [(b5, .cells (cl u64 wl) 147 (0, 0)), (b4, .cells (cl u64 (Y0 (Dw wl) 0 5 i)) 126 (0, 0)), (b3, .cells (cl u64 b) 126 (0, 0)), (b2, .cells (cl u64 a) 126 (0, 0))]) (fun g wv => (5 - RowKit.intOf (g 47)).toNat) ?_ ?_
  ·exact ⟨0, oM, s0, s1, s2, s3, s4, s5, rfl, s17, s18, rfl, rfl, rfl, (by rw [En]; exact m6)⟩
  rintro fr18 w19 ⟨i, hi, s0, s1, s2, s3, s4, s5, s11, s17, s18, s19, s46, s47, m19⟩
  have z47 := s47
  have z11 := s11
  have hfl : (Y0 (Dw wl) (0 : BitVec 64) 5 i).length = 5 := J9 _ _ _ _ hi
  refine sR <| Qd (Xa (b := 5) s47 rfl) ?_
  refine rN (Qa ?_)
  refine Zy rfl (fun hc20 => ?_) (fun hc20 => ?_)
  ·
   have hc20p := of_decide_eq_true hc20
   refine Qn (Qc (Qa (Qh (sR ?_))))
   refine Yb s47 <| Qd (v := (agg u64 ([wl.getD (i * 2) 0, wl.getD ((i * 2) + 1) 0]))) (Qml (l := wl) (i := ((i : Int) : Int)) 0 uT147 Qio rfl Qm3 s46 s47 oM sD oM) <| Y9 (Jw m19 Qm3) fun w21 b13 m21 => Zx (i64 (i : Int)) <| Ye m21 (Qg (f := u64) (l := [wl.getD (i * 2) 0, wl.getD ((i * 2) + 1) 0]) Xw Qm3 rfl rfl sD m21.h0 rfl rfl) fun w22 m22 => ?_
   refine rN (sR ?_)
   refine Qd (Zi (r := 1) Qio rfl Je Xq rfl rfl) <| Qd (v := (u64 (wl.getD ((i * 2) + 1) 0))) (Qi Yj rfl rfl m22.h0 (Qu _ _ 0 Ya)) <| Yb s11 <| Qd (v := (Value.tuple #[(u64 ((wl.getD ((i * 2) + 1) 0) + (Dx wl i) + 0#64)), (u64 (Gh (wl.getD ((i * 2) + 1) 0) (Dx wl i) 0#64))])) (Qjp (a := (wl.getD ((i * 2) + 1) 0)) (b := (Dx wl i)) (c := 0#64) func100 Xo Xo Xo Xo rfl rfl rfl (by first | decide | exact Qg9 _ _ Jb)) <| Yb rfl <| Qd (v := (u64 ((wl.getD ((i * 2) + 1) 0) + (Dx wl i) + 0#64))) (Zr rfl rfl) <| Qd (v := (u64 (Gh (wl.getD ((i * 2) + 1) 0) (Dx wl i) 0#64))) (Zr rfl rfl) <| Zx (u64 ((wl.getD ((i * 2) + 1) 0) + (Dx wl i) + 0#64)) <| Zx (u64 (Gh (wl.getD ((i * 2) + 1) 0) (Dx wl i) 0#64)) ?_
   refine rN (sR ?_)
   refine Qd (Zi (r := 0) Qio rfl Je Xq rfl rfl) <| Qd (v := (u64 (wl.getD (i * 2) 0))) (Qi Yj rfl rfl m22.h0 (Qu _ _ 0 Ya)) <| Zm (u64 (Gh (wl.getD ((i * 2) + 1) 0) (Dx wl i) 0#64)) <| Qd (Jt rfl rfl) <| yqA rfl ?_
   refine rN (sR ?_)
   refine Zm (i64 (i : Int)) <| Zm (u64 ((wl.getD ((i * 2) + 1) 0) + (Dx wl i) + 0#64)) <| Qd (Vr (b := 2251799813685247#64) rfl rfl) <| Qd (Zl (r := i) oM Xp Xq s4 rfl oM sD) <| Aa m22 (Xx (f := u64) (a := ((wl.getD ((i * 2) + 1) 0) + (Dx wl i) + 0#64) &&& 2251799813685247#64) Xw Xq rfl rfl m22.h2 sD (.inl (Nat.zero_le _))) fun w23 m23 => ?_
   refine rN (Qb ?_)
   refine Yb rfl <| Qd (E8 (b := 13) rfl rfl oM) <| Zm (u64 ((wl.getD ((i * 2) + 1) 0) + (Dx wl i) + 0#64)) <| Qd (X9 (b := 51) rfl rfl oM) <| Qd (Qlg rfl rfl) <| yqA rfl ?_
   refine Zp (Qe (Qb ?_))
   refine Qd (Zf (b := 1) s47 rfl oM oM) <| Zm (i64 ((i : Int) + 1)) <| rN ?_
   have m24 := Mem.drop [_] _ m23
   exact ⟨⟨i + 1, oM, s0, s1, s2, s3, s4, s5, rfl, s17, s18, s19, s46, rfl, (by rw [← E5 (Dw wl) (0 : BitVec 64) (n := 5) (k := i) oM _ rfl]; exact m24)⟩, Ue rfl z47 oM oM⟩
  ·
   have hc20p := of_decide_eq_false hc20
   obtain rfl : i = 5 := by omega
   have hmF25 := m19
   rw [filled5] at hmF25
   refine X4 ?_
   refine Qj (Qj (Xi ?_))
   refine sR <| Qd (Xu 0 0 Xp Xq s4) <| Qd (v := (u64 (Dw wl 0))) (Qi Yj rfl rfl hmF25.h1 (Qu _ _ 0 Ya)) <| Yb s11 <| Qd (Vr (b := 2251799813685247#64) rfl rfl) <| Qd (Dc (a := 19#64) rfl rfl) <| Qd (Jt rfl rfl) <| Qd (Xu 0 0 Xp Xq s4) <| Vu hmF25 (Zk (f := u64) (l' := [(Dw wl 0) + (19#64 * ((Dx wl 5) &&& 2251799813685247#64)), Dw wl 1, Dw wl 2, Dw wl 3, Dw wl 4]) rfl Xw Xq rfl rfl hmF25.h1 Ya (.inl (Nat.zero_le _))) fun w26 m26 => ?_
   refine rN (sR ?_)
   refine Qd (Xu 1 1 Xp Xq s4) <| Qd (v := (u64 (Dw wl 1))) (Qi Yj rfl rfl m26.h1 (Qu _ _ 0 Ya)) <| Yb s11 <| Qd (X9 (b := 51) rfl rfl oM) <| Qd (Dc (a := 19#64) rfl rfl) <| Qd (Jt rfl rfl) <| Qd (Xu 1 1 Xp Xq s4) <| Vu m26 (Zk (f := u64) (l' := [(Dw wl 0) + (19#64 * ((Dx wl 5) &&& 2251799813685247#64)), (Dw wl 1) + (19#64 * ((Dx wl 5) >>> 51)), Dw wl 2, Dw wl 3, Dw wl 4]) rfl Xw Xq rfl rfl m26.h1 Ya (.inl (Nat.zero_le _))) fun w27 m27 => ?_
   refine rN (sR ?_)
   refine Qd (Qo Xp rfl Yt s4 m27.h1 sZ) <| U3 m27 (oc101 (Jv rfl) (Qim _ _ sD)) fun w28 m28 => Vu m28 (Qg (f := u64) (l := Eg ([(Dw wl 0) + (19#64 * ((Dx wl 5) &&& 2251799813685247#64)), (Dw wl 1) + (19#64 * ((Dx wl 5) >>> 51)), Dw wl 2, Dw wl 3, Dw wl 4])) Xw Yt s4 rfl sD m28.h1 sZ rfl) fun w30 m30 => ?_
   refine rN (Zz ?_)
   refine Qp [(agg u64 (Eg ([(Dw wl 0) + (19#64 * ((Dx wl 5) &&& 2251799813685247#64)), (Dw wl 1) + (19#64 * ((Dx wl 5) >>> 51)), Dw wl 2, Dw wl 3, Dw wl 4])))] ⟨⟨_, s4, Xn Xp rfl Yt m30.h1 sZ⟩, trivial⟩ ?_
   exact ⟨congrArg (agg u64) (by rw [hw]; rfl), m30.toExt⟩
theorem c_cread (u : Z8) (w0 : World)  (hu : u.length = 32) : X0 prog 79 #[(agg u8 u)] w0 (fun r w1 => r = (agg u64 (Ji u)) ∧ Ext w0 w1) := by
 refine Qy (args := [(agg u8 u)]) func79 rfl ntmps79 results79 rfl ?_
 have m0 : Mem w0 (Qr w0) [] := Mem.of_world w0
 refine sR <| Y9 (Xc (f := u8) (l := u) m0 rfl) fun w1 b1 m1 => Y9 (Q7 m1 Yt) fun w2 b2 m2 => ?_
 refine rN (Qa (sR ?_))
 refine Zm (i64 0) ?_
 refine rN (Qh ?_)
 refine Y1 (fun g wv => ∃ (i : Nat), (i ≤ 255) ∧ g 0 = (agg u8 u) ∧ g 1 = (ptr b1 0) ∧ g 2 = (ptr b2 0) ∧ g 4 = (i64 (i : Int)) ∧ Mem wv (Qr w0) [(b2, .cells (cl u64 (Cm u i)) 126 (0, 0)), (b1, .cells (cl u8 u) 23 (0, 0))]) (fun g wv => (255 - RowKit.intOf (g 4)).toNat) ?_ ?_
 ·exact ⟨0, oM, rfl, rfl, rfl, rfl, m2⟩
 rintro fr3 w4 ⟨i, hi, s0, s1, s2, s4, m4⟩
 have z4 := s4
 have hrl := Lm u i
 refine sR <| Qd (Xa (b := 255) s4 rfl) ?_
 refine rN (Qa ?_)
 refine Zy rfl (fun hc5 => ?_) (fun hc5 => ?_)
 ·
  have hc5p := of_decide_eq_true hc5
  refine Qn (Qc (Qa (Qh (sR ?_))))
  refine Yb s4 <| Zx (i64 (i : Int)) <| rN <| Xg (dl 16) 16 Xo <| J8 rfl (i64 (i : Int)) <| X6 rfl (Jy.cast (congrArg i64 (show (i : Int) / 51 = ((i / 51 : Nat) : Int) by omega)) (Uo (b := 51) rfl rfl oM oM oM)) <| X6 rfl (Zl (r := (i / 51)) oM Xp Xq s2 rfl oM sD) <| Ym (v := (u64 ((Cm u i).getD (i / 51) 0))) rfl (fun _ e' => Qi Yj rfl rfl (m4.ext e').h0 (Qu _ _ 0 sD)) <| J8 rfl (i64 (i : Int)) <| X6 rfl (Jy.cast (congrArg i64 (show (i : Int) / 8 = ((i / 8 : Nat) : Int) by omega)) (Uo (b := 8) rfl rfl oM oM oM)) <| X6 rfl (Zl (r := (i / 8)) oM Xl Yw s1 rfl oM sD) <| Ym (v := (u8 (u.getD (i / 8) 0))) rfl (fun _ e' => Qi Vs rfl rfl (m4.ext e').h1 (Qu _ _ 0 sD)) ?_
  refine J8 rfl (i64 (i : Int)) <| X6 rfl (Jy.cast (congrArg i64 (show (i : Int) % 8 = ((i % 8 : Nat) : Int) by omega)) (W9 (b := 8) rfl rfl oM oM oM)) <| X6 rfl (Qgz rfl rfl oM) <| X6 rfl (Qg0 (b := 1#8) rfl rfl) <| X6 rfl (Qjo ⟨_, Vs⟩ Yj rfl) <| J8 rfl (i64 (i : Int)) <| X6 rfl (Jy.cast (congrArg i64 (show (i : Int) % 51 = ((i % 51 : Nat) : Int) by omega)) (W9 (b := 51) rfl rfl oM oM oM)) <| X6 rfl (E8 rfl rfl oM) <| Gf m4 fun w6 m6 => Qd (Qlg rfl rfl) <| Qd (Zl (r := (i / 51)) oM Xp Xq s2 rfl oM sD) <| Ye m6 (Xx (f := u64) (a := ((Cm u i).getD (i / 51) 0) ||| (((((u.getD (i / 8) 0) >>> ((i % 8 : Nat) : Int).toNat) &&& 1#8).setWidth 64) <<< ((i % 51 : Nat) : Int).toNat)) Xw Xq rfl rfl m6.h0 sD (.inl (Nat.zero_le _))) fun w7 m7 => ?_
  refine Zp (Qe (Qb ?_))
  refine Qd (Zf (b := 1) s4 rfl oM oM) <| Zm (i64 ((i : Int) + 1)) <| rN ?_
  exact ⟨⟨i + 1, oM, s0, s1, s2, rfl, m7⟩, Ue rfl z4 oM oM⟩
 ·
  have hc5p := of_decide_eq_false hc5
  obtain rfl : i = 255 := by omega
  have hrl := Lm u 255
  refine X4 ?_
  refine Qj (Qj (Xi ?_))
  refine sR <| Qd (Qo Xp rfl Yt s2 m4.h0 sZ) <| Ye m4 (Qg (f := u64) (l := Cm u 255) Xw Yt s2 rfl sD m4.h0 sZ rfl) fun w8 m8 => ?_
  refine rN (Zz ?_)
  refine Qp [(agg u64 (Cm u 255))] ⟨⟨_, s2, Xn Xp rfl Yt m8.h0 sZ⟩, trivial⟩ ?_
  exact ⟨rfl, m8.toExt⟩
end Go.Proofs.YtkmiemlpfkfiiaaDoor
