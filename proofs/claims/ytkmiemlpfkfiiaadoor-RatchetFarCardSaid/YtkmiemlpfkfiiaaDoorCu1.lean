/- Contracts: the curve, first part. Conditions: none beyond those that each theorem states. -/
import Derived.Test.YtkmiemlpfkfiiaaDoorTab
import Derived.Test.YtkmiemlpfkfiiaaDoorCuM
namespace Go.Proofs.YtkmiemlpfkfiiaaDoor
open Tryd
set_option linter.unusedVariables false
set_option linter.unusedSimpArgs false
theorem c_mul64 (x y : BitVec 64) (w0 : World)   : Xm prog 110 #[(u64 x), (u64 y)] w0 (fun r w1 => r = (Value.tuple #[(u64 (Md x y)), (u64 (x * y))]) ∧ Ext w0 w1) := by
 refine Qy (args := [(u64 x), (u64 y)]) func110 rfl ntmps110 results110 rfl ?_
 have m0 : Mem w0 (Qu w0) [] := Mem.of_world w0
 refine sR <| Zv (u64 0#64) <| Zv (u64 0#64) ?_
 refine rN (sR ?_)
 refine Zb (u64 x) <| Qd (Jk (b := 4294967295#64) rfl rfl) <| Zv (u64 (x &&& 4294967295#64)) ?_
 refine rN (sR ?_)
 refine Zb (u64 x) <| Qd (Xn (b := 32) rfl rfl oM) <| Zv (u64 (x >>> 32)) ?_
 refine rN (sR ?_)
 refine Zb (u64 y) <| Qd (Jk (b := 4294967295#64) rfl rfl) <| Zv (u64 (y &&& 4294967295#64)) ?_
 refine rN (sR ?_)
 refine Zb (u64 y) <| Qd (Xn (b := 32) rfl rfl oM) <| Zv (u64 (y >>> 32)) ?_
 refine rN (sR ?_)
 refine Zb (u64 (x &&& 4294967295#64)) <| Zb (u64 (y &&& 4294967295#64)) <| Qd (Ul rfl rfl) <| Zv (u64 ((x &&& 4294967295#64) * (y &&& 4294967295#64))) ?_
 refine rN (sR ?_)
 refine Zb (u64 (x >>> 32)) <| Zb (u64 (y &&& 4294967295#64)) <| Qd (Ul rfl rfl) <| Zb (u64 ((x &&& 4294967295#64) * (y &&& 4294967295#64))) <| Qd (Xn (b := 32) rfl rfl oM) <| Qd (X7 rfl rfl) <| Sv rfl ?_
 refine rN (sR ?_)
 refine Yk rfl <| Qd (Jk (b := 4294967295#64) rfl rfl) <| Sv rfl ?_
 refine rN (sR ?_)
 refine Yk rfl <| Qd (Xn (b := 32) rfl rfl oM) <| Sv rfl ?_
 refine rN (sR ?_)
 refine Yk rfl <| Zb (u64 (x &&& 4294967295#64)) <| Zb (u64 (y >>> 32)) <| Qd (Ul rfl rfl) <| Qd (X7 rfl rfl) <| Sv rfl ?_
 refine rN (sR ?_)
 refine Zb (u64 (x >>> 32)) <| Zb (u64 (y >>> 32)) <| Qd (Ul rfl rfl) <| Yk rfl <| Qd (X7 rfl rfl) <| Yk rfl <| Qd (Xn (b := 32) rfl rfl oM) <| Qd (X7 rfl rfl) <| Sv rfl ?_
 refine rN (sR ?_)
 refine Zb (u64 x) <| Zb (u64 y) <| Qd (Ul rfl rfl) <| Zv (u64 (x * y)) ?_
 refine rN (Zy ?_)
 refine Qs [(u64 ((((x >>> 32) * (y >>> 32)) + ((((x >>> 32) * (y &&& 4294967295#64)) + (((x &&& 4294967295#64) * (y &&& 4294967295#64)) >>> 32)) >>> 32)) + ((((((x >>> 32) * (y &&& 4294967295#64)) + (((x &&& 4294967295#64) * (y &&& 4294967295#64)) >>> 32)) &&& 4294967295#64) + ((x &&& 4294967295#64) * (y >>> 32))) >>> 32))), (u64 (x * y))] ⟨rfl, rfl, trivial⟩ ?_
 exact ⟨congrArg (fun q => Value.tuple #[u64 q, u64 (x * y)]) (mulHG_eq x y), m0.toExt⟩
theorem c_wadd (bw off : Nat) (l : List (BitVec 64)) (x y : BitVec 64) (w0 : World) (R : Rest) (m0 : Mem w0 R [(bw, .cells (cl u64 l) 147 (0, 0))]) (hl : off + 2 ≤ l.length) : Xm prog 99 #[(ptr bw off), (u64 x), (u64 y)] w0 (fun r w1 => r = .tuple #[] ∧ Mem w1 R [(bw, .cells (cl u64 (G6 l off x y)) 147 (0, 0))]) := by
 refine Qy (args := [(ptr bw off), (u64 x), (u64 y)]) func99 rfl ntmps99 results99 rfl <| sR <| Zb (u64 x) <| Zb (u64 y) <| Dx m0 (oc110 (X3 rfl rfl) (c_mul64 x y _)) fun w1 m1 => Zb (Value.tuple #[(u64 (Md x y)), (u64 (x * y))]) <| Qd (v := (u64 (Md x y))) (Zg rfl rfl) <| Qd (v := (u64 (x * y))) (Zg rfl rfl) <| Zv (u64 (Md x y)) <| Zv (u64 (x * y)) ?_
 refine rN (sR ?_)
 refine Zv (u64 0#64) ?_
 refine rN (sR ?_)
 refine Zb (ptr bw off) <| Zb (ptr bw off) <| Qd (Qm rfl) <| Qd (Zd (r := off + 1) Qe6 rfl Yy Zl rfl rfl) <| Qd (v := (u64 (l.getD (off + 1) 0))) (Ql Xg rfl rfl m1.h0 (Qv _ _ 0 sD)) <| Zb (u64 (x * y)) <| Qd (v := (Value.tuple #[(u64 ((l.getD (off + 1) 0) + (x * y) + 0#64)), (u64 (J7 (l.getD (off + 1) 0) (x * y) 0#64))])) (Qf3 (a := (l.getD (off + 1) 0)) (b := (x * y)) (c := 0#64) func100 Xh Xh Xh Xh rfl rfl rfl (by first | decide | exact Qdp _ _ Yh)) <| Yk rfl <| Qd (v := (u64 ((l.getD (off + 1) 0) + (x * y) + 0#64))) (Zg rfl rfl) <| Qd (v := (u64 (J7 (l.getD (off + 1) 0) (x * y) 0#64))) (Zg rfl rfl) <| Qd (Qm rfl) <| Qd (Zd (r := off + 1) Qe6 rfl Yy Zl rfl rfl) ?_
 refine Yb m1 (X9 (f := u64) (a := (l.getD (off + 1) 0) + (x * y) + 0#64) Zm Zl rfl rfl m1.h0 sD (.inl (Nat.zero_le _))) fun w3 m3 => Zv (u64 (J7 (l.getD (off + 1) 0) (x * y) 0#64)) ?_
 refine rN (Qb ?_)
 refine Zb (ptr bw off) <| Zb (ptr bw off) <| Qd (Qm rfl) <| Qd (Zd (r := off + 0) Qe6 rfl Yy Zl rfl rfl) <| Qd (v := (u64 ((l.set (off + 1) ((l.getD (off + 1) 0) + (x * y) + 0#64)).getD (off + 0) 0))) (Ql Xg rfl rfl m3.h0 (Qv _ _ 0 sD)) <| Zb (u64 (Md x y)) <| Zb (u64 (J7 (l.getD (off + 1) 0) (x * y) 0#64)) <| Qd (v := (Value.tuple #[(u64 (((l.set (off + 1) ((l.getD (off + 1) 0) + (x * y) + 0#64)).getD (off + 0) 0) + (Md x y) + (J7 (l.getD (off + 1) 0) (x * y) 0#64))), (u64 (J7 ((l.set (off + 1) ((l.getD (off + 1) 0) + (x * y) + 0#64)).getD (off + 0) 0) (Md x y) (J7 (l.getD (off + 1) 0) (x * y) 0#64)))])) (Qf3 (a := ((l.set (off + 1) ((l.getD (off + 1) 0) + (x * y) + 0#64)).getD (off + 0) 0)) (b := (Md x y)) (c := (J7 (l.getD (off + 1) 0) (x * y) 0#64)) func100 Xh Xh Xh Xh rfl rfl rfl (by first | decide | exact Qdp _ _ Yh)) <| Yk rfl <| Qd (v := (u64 (((l.set (off + 1) ((l.getD (off + 1) 0) + (x * y) + 0#64)).getD (off + 0) 0) + (Md x y) + (J7 (l.getD (off + 1) 0) (x * y) 0#64)))) (Zg rfl rfl) <| Qd (v := (u64 (J7 ((l.set (off + 1) ((l.getD (off + 1) 0) + (x * y) + 0#64)).getD (off + 0) 0) (Md x y) (J7 (l.getD (off + 1) 0) (x * y) 0#64)))) (Zg rfl rfl) <| Qd (Qm rfl) ?_
 refine Qd (Zd (r := off + 0) Qe6 rfl Yy Zl rfl rfl) <| Yb m3 (X9 (f := u64) (a := ((l.set (off + 1) ((l.getD (off + 1) 0) + (x * y) + 0#64)).getD (off + 0) 0) + (Md x y) + (J7 (l.getD (off + 1) 0) (x * y) 0#64)) Zm Zl rfl rfl m3.h0 sD (.inl (Nat.zero_le _))) fun w4 m4 => Zo <| Ec [] trivial ?_
 exact ⟨rfl, m4⟩
theorem Qez (l : List (BitVec 64)) (w0 : World)  (hl : l.length = 5) : Xm prog 101 #[(agg u64 l)] w0 (fun r w1 => r = (agg u64 (Gg l)) ∧ Ext w0 w1) := by
 refine Qy (args := [(agg u64 l)]) func101 rfl ntmps101 results101 rfl ?_
 have m0 : Mem w0 (Qu w0) [] := Mem.of_world w0
 refine sR <| Y5 (Zw (f := u64) (l := l) m0 rfl) fun w1 b1 m1 => Y5 (Zf m1 Z5) fun w2 b2 m2 => ?_
 refine rN (Qc (sR ?_))
 refine Zb (i64 0) ?_
 refine rN (Qj ?_)
 refine Jq (fun g wv => ∃ (k : Nat) (wl : List (BitVec 64)), (k ≤ 2) ∧ (wl = carN l k) ∧ g 0 = (agg u64 l) ∧ g 1 = (ptr b1 0) ∧ g 2 = (ptr b2 0) ∧ g 5 = (i64 (k : Int)) ∧ Mem wv (Qu w0) [(b2, .cells (cl u64 (List.replicate 5 0)) 126 (0, 0)), (b1, .cells (cl u64 wl) 126 (0, 0))]) (fun g wv => (2 - RowKit.intOf (g 5)).toNat) ?_ ?_
 ·exact ⟨0, l, oM, rfl, rfl, rfl, rfl, rfl, m2⟩
 rintro fr3 w4 ⟨k, wl, hk, hw, s0, s1, s2, s5, m4⟩
 have z5 := s5
 have hwl : wl.length = 5 := by rw [hw, Qkv, hl]
 obtain ⟨e0, e1, e2, e3, e4, rfl⟩ := Qbi wl hwl
 refine sR <| Qd (Xy (b := 2) s5 rfl) ?_
 refine rN (Qc ?_)
 refine Xb rfl (fun hc5 => ?_) (fun hc5 => ?_)
 ·
  have hc5p := of_decide_eq_true hc5
  refine Qo (Qa (Qc (Qj (sR ?_))))
  refine Zv (u64 0#64) ?_
  refine rN (Qc (sR ?_))
  refine Zb (i64 0) ?_
  refine rN (Qj ?_)
  refine Wu 6 ?_
  refine Zh (sR ?_)
  refine Qd (X5 0 5) ?_
  refine rN (Qc ?_)
  refine Qx rfl Yh ?_
  refine Qo (Qa (Qc (Qj (sR ?_))))
  refine Zb (i64 0) <| Zv (i64 0) ?_
  refine rN (sR ?_)
  refine Zb (i64 0) <| Qd (Xe 0 0 Zk Zl s1) <| Qd (v := (u64 e0)) (Ql Xg rfl rfl m4.h1 (Qv _ _ 0 Xk)) <| Zb (u64 0#64) <| Qd (X7 (b := 0#64) rfl rfl) <| Qd (Xe 0 0 Zk Zl s1) <| Vq m4 (Q8 (f := u64) (l' := [e0 + 0#64, e1, e2, e3, e4]) rfl Zm Zl rfl rfl m4.h1 Xk (.inl (Nat.zero_le _))) fun w6 m6 => ?_
  refine rN (sR ?_)
  refine Zb (i64 0) <| Qd (Xe 0 0 Zk Zl s1) <| Qd (v := (u64 (e0 + 0#64))) (Ql Xg rfl rfl m6.h1 (Qv _ _ 0 Xk)) <| Qd (Xn (b := 51) rfl rfl oM) <| Zv (u64 ((e0 + 0#64) >>> 51)) ?_
  refine rN (Qb ?_)
  refine Zb (i64 0) <| Qd (Xe 0 0 Zk Zl s1) <| Qd (v := (u64 (e0 + 0#64))) (Ql Xg rfl rfl m6.h1 (Qv _ _ 0 Xk)) <| Qd (Jk (b := 2251799813685247#64) rfl rfl) <| Qd (Xe 0 0 Zk Zl s1) <| Vq m6 (Q8 (f := u64) (l' := [(e0 + 0#64) &&& 2251799813685247#64, e1, e2, e3, e4]) rfl Zm Zl rfl rfl m6.h1 Xk (.inl (Nat.zero_le _))) fun w7 m7 => ?_
  refine Zo (Qh (Qb ?_))
  refine Qd (v := (i64 1)) (Xd 0 1) <| Zb (i64 1) ?_
  refine rN (Zh (sR ?_))
  refine Qd (X5 1 5) ?_
  refine rN (Qc ?_)
  refine Qx rfl Yh ?_
  refine Qo (Qa (Qc (Qj (sR ?_))))
  refine Zb (i64 1) <| Zv (i64 1) ?_
  refine rN (sR ?_)
  refine Zb (i64 1) <| Qd (Xe 1 1 Zk Zl s1) <| Qd (v := (u64 e1)) (Ql Xg rfl rfl m7.h1 (Qv _ _ 0 Xk)) <| Zb (u64 ((e0 + 0#64) >>> 51)) <| Qd (X7 rfl rfl) <| Qd (Xe 1 1 Zk Zl s1) <| Vq m7 (Q8 (f := u64) (l' := [(e0 + 0#64) &&& 2251799813685247#64, e1 + ((e0 + 0#64) >>> 51), e2, e3, e4]) rfl Zm Zl rfl rfl m7.h1 Xk (.inl (Nat.zero_le _))) fun w8 m8 => ?_
  refine rN (sR ?_)
  refine Zb (i64 1) <| Qd (Xe 1 1 Zk Zl s1) <| Qd (v := (u64 (e1 + ((e0 + 0#64) >>> 51)))) (Ql Xg rfl rfl m8.h1 (Qv _ _ 0 Xk)) <| Qd (Xn (b := 51) rfl rfl oM) <| Zv (u64 ((e1 + ((e0 + 0#64) >>> 51)) >>> 51)) ?_
  refine rN (Qb ?_)
  refine Zb (i64 1) <| Qd (Xe 1 1 Zk Zl s1) <| Qd (v := (u64 (e1 + ((e0 + 0#64) >>> 51)))) (Ql Xg rfl rfl m8.h1 (Qv _ _ 0 Xk)) <| Qd (Jk (b := 2251799813685247#64) rfl rfl) <| Qd (Xe 1 1 Zk Zl s1) <| Vq m8 (Q8 (f := u64) (l' := [(e0 + 0#64) &&& 2251799813685247#64, (e1 + ((e0 + 0#64) >>> 51)) &&& 2251799813685247#64, e2, e3, e4]) rfl Zm Zl rfl rfl m8.h1 Xk (.inl (Nat.zero_le _))) fun w9 m9 => ?_
  refine Zo (Qh (Qb ?_))
  refine Qd (v := (i64 2)) (Xd 1 1) <| Zb (i64 2) ?_
  refine rN (Zh (sR ?_))
  refine Qd (X5 2 5) ?_
  refine rN (Qc ?_)
  refine Qx rfl Yh ?_
  refine Qo (Qa (Qc (Qj (sR ?_))))
  refine Zb (i64 2) <| Zv (i64 2) ?_
  refine rN (sR ?_)
  refine Zb (i64 2) <| Qd (Xe 2 2 Zk Zl s1) <| Qd (v := (u64 e2)) (Ql Xg rfl rfl m9.h1 (Qv _ _ 0 Xk)) <| Zb (u64 ((e1 + ((e0 + 0#64) >>> 51)) >>> 51)) <| Qd (X7 rfl rfl) <| Qd (Xe 2 2 Zk Zl s1) <| Vq m9 (Q8 (f := u64) (l' := [(e0 + 0#64) &&& 2251799813685247#64, (e1 + ((e0 + 0#64) >>> 51)) &&& 2251799813685247#64, e2 + ((e1 + ((e0 + 0#64) >>> 51)) >>> 51), e3, e4]) rfl Zm Zl rfl rfl m9.h1 Xk (.inl (Nat.zero_le _))) fun w10 m10 => ?_
  refine rN (sR ?_)
  refine Zb (i64 2) <| Qd (Xe 2 2 Zk Zl s1) <| Qd (v := (u64 (e2 + ((e1 + ((e0 + 0#64) >>> 51)) >>> 51)))) (Ql Xg rfl rfl m10.h1 (Qv _ _ 0 Xk)) <| Qd (Xn (b := 51) rfl rfl oM) <| Zv (u64 ((e2 + ((e1 + ((e0 + 0#64) >>> 51)) >>> 51)) >>> 51)) ?_
  refine rN (Qb ?_)
  refine Zb (i64 2) <| Qd (Xe 2 2 Zk Zl s1) <| Qd (v := (u64 (e2 + ((e1 + ((e0 + 0#64) >>> 51)) >>> 51)))) (Ql Xg rfl rfl m10.h1 (Qv _ _ 0 Xk)) <| Qd (Jk (b := 2251799813685247#64) rfl rfl) <| Qd (Xe 2 2 Zk Zl s1) <| Vq m10 (Q8 (f := u64) (l' := [(e0 + 0#64) &&& 2251799813685247#64, (e1 + ((e0 + 0#64) >>> 51)) &&& 2251799813685247#64, (e2 + ((e1 + ((e0 + 0#64) >>> 51)) >>> 51)) &&& 2251799813685247#64, e3, e4]) rfl Zm Zl rfl rfl m10.h1 Xk (.inl (Nat.zero_le _))) fun w11 m11 => ?_
  refine Zo (Qh (Qb ?_))
  refine Qd (v := (i64 3)) (Xd 2 1) <| Zb (i64 3) ?_
  refine rN (Zh (sR ?_))
  refine Qd (X5 3 5) ?_
  refine rN (Qc ?_)
  refine Qx rfl Yh ?_
  refine Qo (Qa (Qc (Qj (sR ?_))))
  refine Zb (i64 3) <| Zv (i64 3) ?_
  refine rN (sR ?_)
  refine Zb (i64 3) <| Qd (Xe 3 3 Zk Zl s1) <| Qd (v := (u64 e3)) (Ql Xg rfl rfl m11.h1 (Qv _ _ 0 Xk)) <| Zb (u64 ((e2 + ((e1 + ((e0 + 0#64) >>> 51)) >>> 51)) >>> 51)) <| Qd (X7 rfl rfl) <| Qd (Xe 3 3 Zk Zl s1) <| Vq m11 (Q8 (f := u64) (l' := [(e0 + 0#64) &&& 2251799813685247#64, (e1 + ((e0 + 0#64) >>> 51)) &&& 2251799813685247#64, (e2 + ((e1 + ((e0 + 0#64) >>> 51)) >>> 51)) &&& 2251799813685247#64, e3 + ((e2 + ((e1 + ((e0 + 0#64) >>> 51)) >>> 51)) >>> 51), e4]) rfl Zm Zl rfl rfl m11.h1 Xk (.inl (Nat.zero_le _))) fun w12 m12 => ?_
  refine rN (sR ?_)
  refine Zb (i64 3) <| Qd (Xe 3 3 Zk Zl s1) <| Qd (v := (u64 (e3 + ((e2 + ((e1 + ((e0 + 0#64) >>> 51)) >>> 51)) >>> 51)))) (Ql Xg rfl rfl m12.h1 (Qv _ _ 0 Xk)) <| Qd (Xn (b := 51) rfl rfl oM) <| Zv (u64 ((e3 + ((e2 + ((e1 + ((e0 + 0#64) >>> 51)) >>> 51)) >>> 51)) >>> 51)) ?_
  refine rN (Qb ?_)
  refine Zb (i64 3) <| Qd (Xe 3 3 Zk Zl s1) <| Qd (v := (u64 (e3 + ((e2 + ((e1 + ((e0 + 0#64) >>> 51)) >>> 51)) >>> 51)))) (Ql Xg rfl rfl m12.h1 (Qv _ _ 0 Xk)) <| Qd (Jk (b := 2251799813685247#64) rfl rfl) <| Qd (Xe 3 3 Zk Zl s1) <| Vq m12 (Q8 (f := u64) (l' := [(e0 + 0#64) &&& 2251799813685247#64, (e1 + ((e0 + 0#64) >>> 51)) &&& 2251799813685247#64, (e2 + ((e1 + ((e0 + 0#64) >>> 51)) >>> 51)) &&& 2251799813685247#64, (e3 + ((e2 + ((e1 + ((e0 + 0#64) >>> 51)) >>> 51)) >>> 51)) &&& 2251799813685247#64, e4]) rfl Zm Zl rfl rfl m12.h1 Xk (.inl (Nat.zero_le _))) fun w13 m13 => ?_
  refine Zo (Qh ?_)
  refine CW.abs (fun g => g 0 = (agg u64 l) ∧ g 1 = (ptr b1 0) ∧ g 2 = (ptr b2 0) ∧ g 3 = (u64 ((e3 + ((e2 + ((e1 + ((e0 + 0#64) >>> 51)) >>> 51)) >>> 51)) >>> 51)) ∧ g 4 = (i64 3) ∧ g 5 = (i64 (k : Int)) ∧ g 6 = (bl (decide ((k : Int) < 2))) ∧ g 7 = (i64 3) ∧ g 8 = (bl true) ∧ True) ⟨s0, s1, s2, rfl, rfl, s5, rfl, rfl, rfl, trivial⟩ ?_
  rintro fr14 ⟨s0, s1, s2, s3, s4, s5, s6, s7, s8, _⟩
  refine Qb <| Qd (v := (i64 4)) (Z9 (a := 3) (b := 1) s7 rfl oM oM) <| Zb (i64 4) ?_
  refine rN (Zh (sR ?_))
  refine Qd (X5 4 5) ?_
  refine rN (Qc ?_)
  refine Qx rfl Yh ?_
  refine Qo (Qa (Qc (Qj (sR ?_))))
  refine Zb (i64 4) <| Zv (i64 4) ?_
  refine rN (sR ?_)
  refine Zb (i64 4) <| Qd (Xe 4 4 Zk Zl s1) <| Qd (v := (u64 e4)) (Ql Xg rfl rfl m13.h1 (Qv _ _ 0 Xk)) <| Yk s3 <| Qd (X7 rfl rfl) <| Qd (Xe 4 4 Zk Zl s1) <| Vq m13 (Q8 (f := u64) (l' := [(e0 + 0#64) &&& 2251799813685247#64, (e1 + ((e0 + 0#64) >>> 51)) &&& 2251799813685247#64, (e2 + ((e1 + ((e0 + 0#64) >>> 51)) >>> 51)) &&& 2251799813685247#64, (e3 + ((e2 + ((e1 + ((e0 + 0#64) >>> 51)) >>> 51)) >>> 51)) &&& 2251799813685247#64, e4 + ((e3 + ((e2 + ((e1 + ((e0 + 0#64) >>> 51)) >>> 51)) >>> 51)) >>> 51)]) rfl Zm Zl rfl rfl m13.h1 Xk (.inl (Nat.zero_le _))) fun w15 m15 => ?_
  refine rN (sR ?_)
  refine Zb (i64 4) <| Qd (Xe 4 4 Zk Zl s1) <| Qd (v := (u64 (e4 + ((e3 + ((e2 + ((e1 + ((e0 + 0#64) >>> 51)) >>> 51)) >>> 51)) >>> 51)))) (Ql Xg rfl rfl m15.h1 (Qv _ _ 0 Xk)) <| Qd (Xn (b := 51) rfl rfl oM) <| Sv rfl ?_
  refine rN (Qb ?_)
  refine Zb (i64 4) <| Qd (Xe 4 4 Zk Zl s1) <| Qd (v := (u64 (e4 + ((e3 + ((e2 + ((e1 + ((e0 + 0#64) >>> 51)) >>> 51)) >>> 51)) >>> 51)))) (Ql Xg rfl rfl m15.h1 (Qv _ _ 0 Xk)) <| Qd (Jk (b := 2251799813685247#64) rfl rfl) <| Qd (Xe 4 4 Zk Zl s1) <| Vq m15 (Q8 (f := u64) (l' := [(e0 + 0#64) &&& 2251799813685247#64, (e1 + ((e0 + 0#64) >>> 51)) &&& 2251799813685247#64, (e2 + ((e1 + ((e0 + 0#64) >>> 51)) >>> 51)) &&& 2251799813685247#64, (e3 + ((e2 + ((e1 + ((e0 + 0#64) >>> 51)) >>> 51)) >>> 51)) &&& 2251799813685247#64, (e4 + ((e3 + ((e2 + ((e1 + ((e0 + 0#64) >>> 51)) >>> 51)) >>> 51)) >>> 51)) &&& 2251799813685247#64]) rfl Zm Zl rfl rfl m15.h1 Xk (.inl (Nat.zero_le _))) fun w16 m16 => ?_
  refine Zo (Qh (Qb ?_))
  refine Qd (v := (i64 5)) (Xd 4 1) <| Zb (i64 5) ?_
  refine rN (Zh (sR ?_))
  refine Qd (X5 5 5) ?_
  refine rN (Qc ?_)
  refine Ym rfl Yh <| Yc ?_
  refine Qr (Qr (Xp ?_))
  refine Qb <| Qd (Xe 0 0 Zk Zl s1) <| Qd (v := (u64 ((e0 + 0#64) &&& 2251799813685247#64))) (Ql Xg rfl rfl m16.h1 (Qv _ _ 0 Xk)) <| Yk rfl <| Qd (Ul (a := 19#64) rfl rfl) <| Qd (X7 rfl rfl) <| Qd (Xe 0 0 Zk Zl s1) <| Vq m16 (Q8 (f := u64) (l' := [((e0 + 0#64) &&& 2251799813685247#64) + (19#64 * ((e4 + ((e3 + ((e2 + ((e1 + ((e0 + 0#64) >>> 51)) >>> 51)) >>> 51)) >>> 51)) >>> 51)), (e1 + ((e0 + 0#64) >>> 51)) &&& 2251799813685247#64, (e2 + ((e1 + ((e0 + 0#64) >>> 51)) >>> 51)) &&& 2251799813685247#64, (e3 + ((e2 + ((e1 + ((e0 + 0#64) >>> 51)) >>> 51)) >>> 51)) &&& 2251799813685247#64, (e4 + ((e3 + ((e2 + ((e1 + ((e0 + 0#64) >>> 51)) >>> 51)) >>> 51)) >>> 51)) &&& 2251799813685247#64]) rfl Zm Zl rfl rfl m16.h1 Xk (.inl (Nat.zero_le _))) fun w17 m17 => ?_
  refine Zo (Qh (Qb ?_))
  refine Qd (Z9 (b := 1) s5 rfl oM oM) <| Zb (i64 ((k : Int) + 1)) <| rN ?_
  have hwn : [((e0 + 0#64) &&& 2251799813685247#64) + (19#64 * ((e4 + ((e3 + ((e2 + ((e1 + ((e0 + 0#64) >>> 51)) >>> 51)) >>> 51)) >>> 51)) >>> 51)), (e1 + ((e0 + 0#64) >>> 51)) &&& 2251799813685247#64, (e2 + ((e1 + ((e0 + 0#64) >>> 51)) >>> 51)) &&& 2251799813685247#64, (e3 + ((e2 + ((e1 + ((e0 + 0#64) >>> 51)) >>> 51)) >>> 51)) &&& 2251799813685247#64, (e4 + ((e3 + ((e2 + ((e1 + ((e0 + 0#64) >>> 51)) >>> 51)) >>> 51)) >>> 51)) &&& 2251799813685247#64] = carN l (k + 1) := by show _ = Qbu (carN l k); rw [← hw]; rfl
  exact ⟨⟨k + 1, ([((e0 + 0#64) &&& 2251799813685247#64) + (19#64 * ((e4 + ((e3 + ((e2 + ((e1 + ((e0 + 0#64) >>> 51)) >>> 51)) >>> 51)) >>> 51)) >>> 51)), (e1 + ((e0 + 0#64) >>> 51)) &&& 2251799813685247#64, (e2 + ((e1 + ((e0 + 0#64) >>> 51)) >>> 51)) &&& 2251799813685247#64, (e3 + ((e2 + ((e1 + ((e0 + 0#64) >>> 51)) >>> 51)) >>> 51)) &&& 2251799813685247#64, (e4 + ((e3 + ((e2 + ((e1 + ((e0 + 0#64) >>> 51)) >>> 51)) >>> 51)) >>> 51)) &&& 2251799813685247#64]), oM, hwn, s0, s1, s2, rfl, m17⟩, Am rfl z5 oM oM⟩
 ·
  have hc5p := of_decide_eq_false hc5
  obtain rfl : k = 2 := by omega
  refine Yc ?_
  refine Qr (Qr (Xp ?_))
  refine sR <| Qd (Qw Zk rfl Z5 s1 m4.h1 sZ) <| Yb m4 (Qq (f := u64) (l := [e0, e1, e2, e3, e4]) Zm Z5 s2 rfl sD m4.h0 sZ rfl) fun w18 m18 => ?_
  refine rN (Zy ?_)
  refine Qs [(agg u64 ([e0, e1, e2, e3, e4]))] ⟨⟨_, s2, Xi Zk rfl Z5 m18.h0 sZ⟩, trivial⟩ ?_
  exact ⟨congrArg (agg u64) hw, m18.toExt⟩
theorem Qi6 (a b : List (BitVec 64)) (w0 : World)  (ha : a.length = 5) (hb : b.length = 5) : Xm prog 97 #[(agg u64 a), (agg u64 b)] w0 (fun r w1 => r = (agg u64 (Qz a b)) ∧ Ext w0 w1) := by
 refine Qy (args := [(agg u64 a), (agg u64 b)]) func97 rfl ntmps97 results97 rfl ?_
 have m0 : Mem w0 (Qu w0) [] := Mem.of_world w0
 obtain ⟨x0, x1, x2, x3, x4, rfl⟩ := Qbi a ha
 obtain ⟨y0, y1, y2, y3, y4, rfl⟩ := Qbi b hb
 refine sR <| Y5 (Zw (f := u64) (l := [x0, x1, x2, x3, x4]) m0 rfl) fun w1 b2 m1 => Y5 (Zw (f := u64) (l := [y0, y1, y2, y3, y4]) m1 rfl) fun w2 b3 m2 => Y5 (Zf m2 Z5) fun w3 b4 m3 => ?_
 refine rN (Qc (sR ?_))
 refine Zb (i64 0) ?_
 refine rN (Qj ?_)
 refine Wu 6 ?_
 refine Zh (sR ?_)
 refine Qd (X5 0 5) ?_
 refine rN (Qc ?_)
 refine Qx rfl Yh ?_
 refine Qo (Qa (Qc (Qj (sR ?_))))
 refine Zb (i64 0) <| Zv (i64 0) <| rN <| Xj (dl 8) 8 Xh <| Jj rfl (i64 0) <| Jj rfl (i64 0) <| Xq rfl (Xe 0 0 Zk Zl rfl) <| Y6 (v := (u64 x0)) rfl (fun _ e' => Ql Xg rfl rfl (m3.ext e').h2 (Qv _ _ 0 Xk)) <| Jj rfl (i64 0) <| Xq rfl (Xe 0 0 Zk Zl rfl) <| Y6 (v := (u64 y0)) rfl (fun _ e' => Ql Xg rfl rfl (m3.ext e').h1 (Qv _ _ 0 Xk)) <| Xq rfl (X7 rfl rfl) ?_
 refine Ug m3 fun w4 m4 => Qd (Xe 0 0 Zk Zl rfl) <| Yb m4 (Q8 (f := u64) (l' := [x0 + y0, 0, 0, 0, 0]) rfl Zm Zl rfl rfl m4.h0 Xk (.inl (Nat.zero_le _))) fun w5 m5 => ?_
 refine Zo (Qh (Qb ?_))
 refine Qd (v := (i64 1)) (Xd 0 1) <| Zb (i64 1) ?_
 refine rN (Zh (sR ?_))
 refine Qd (X5 1 5) ?_
 refine rN (Qc ?_)
 refine Qx rfl Yh ?_
 refine Qo (Qa (Qc (Qj (sR ?_))))
 refine Zb (i64 1) <| Zv (i64 1) <| rN <| Xj (dl 8) 8 Xh <| Jj rfl (i64 1) <| Jj rfl (i64 1) <| Xq rfl (Xe 1 1 Zk Zl rfl) <| Y6 (v := (u64 x1)) rfl (fun _ e' => Ql Xg rfl rfl (m5.ext e').h2 (Qv _ _ 0 Xk)) <| Jj rfl (i64 1) <| Xq rfl (Xe 1 1 Zk Zl rfl) <| Y6 (v := (u64 y1)) rfl (fun _ e' => Ql Xg rfl rfl (m5.ext e').h1 (Qv _ _ 0 Xk)) <| Xq rfl (X7 rfl rfl) ?_
 refine Ug m5 fun w6 m6 => Qd (Xe 1 1 Zk Zl rfl) <| Yb m6 (Q8 (f := u64) (l' := [x0 + y0, x1 + y1, 0, 0, 0]) rfl Zm Zl rfl rfl m6.h0 Xk (.inl (Nat.zero_le _))) fun w7 m7 => ?_
 refine Zo (Qh (Qb ?_))
 refine Qd (v := (i64 2)) (Xd 1 1) <| Zb (i64 2) ?_
 refine rN (Zh (sR ?_))
 refine Qd (X5 2 5) ?_
 refine rN (Qc ?_)
 refine Qx rfl Yh ?_
 refine Qo (Qa (Qc (Qj (sR ?_))))
 refine Zb (i64 2) <| Zv (i64 2) <| rN <| Xj (dl 8) 8 Xh <| Jj rfl (i64 2) <| Jj rfl (i64 2) <| Xq rfl (Xe 2 2 Zk Zl rfl) <| Y6 (v := (u64 x2)) rfl (fun _ e' => Ql Xg rfl rfl (m7.ext e').h2 (Qv _ _ 0 Xk)) <| Jj rfl (i64 2) <| Xq rfl (Xe 2 2 Zk Zl rfl) <| Y6 (v := (u64 y2)) rfl (fun _ e' => Ql Xg rfl rfl (m7.ext e').h1 (Qv _ _ 0 Xk)) <| Xq rfl (X7 rfl rfl) ?_
 refine Ug m7 fun w8 m8 => Qd (Xe 2 2 Zk Zl rfl) <| Yb m8 (Q8 (f := u64) (l' := [x0 + y0, x1 + y1, x2 + y2, 0, 0]) rfl Zm Zl rfl rfl m8.h0 Xk (.inl (Nat.zero_le _))) fun w9 m9 => ?_
 refine Zo (Qh (Qb ?_))
 refine Qd (v := (i64 3)) (Xd 2 1) <| Zb (i64 3) ?_
 refine rN (Zh (sR ?_))
 refine Qd (X5 3 5) ?_
 refine rN (Qc ?_)
 refine Qx rfl Yh ?_
 refine Qo (Qa (Qc (Qj (sR ?_))))
 refine Zb (i64 3) <| Zv (i64 3) <| rN <| Xj (dl 8) 8 Xh <| Jj rfl (i64 3) <| Jj rfl (i64 3) <| Xq rfl (Xe 3 3 Zk Zl rfl) <| Y6 (v := (u64 x3)) rfl (fun _ e' => Ql Xg rfl rfl (m9.ext e').h2 (Qv _ _ 0 Xk)) <| Jj rfl (i64 3) <| Xq rfl (Xe 3 3 Zk Zl rfl) <| Y6 (v := (u64 y3)) rfl (fun _ e' => Ql Xg rfl rfl (m9.ext e').h1 (Qv _ _ 0 Xk)) <| Xq rfl (X7 rfl rfl) ?_
 refine Ug m9 fun w10 m10 => Qd (Xe 3 3 Zk Zl rfl) <| Yb m10 (Q8 (f := u64) (l' := [x0 + y0, x1 + y1, x2 + y2, x3 + y3, 0]) rfl Zm Zl rfl rfl m10.h0 Xk (.inl (Nat.zero_le _))) fun w11 m11 => ?_
 refine Zo (Qh (Qb ?_))
 refine Qd (v := (i64 4)) (Xd 3 1) <| Zb (i64 4) ?_
 refine rN (Zh (sR ?_))
 refine Qd (X5 4 5) ?_
 refine rN (Qc ?_)
 refine Qx rfl Yh ?_
 refine Qo (Qa (Qc (Qj (sR ?_))))
 refine Zb (i64 4) <| Zv (i64 4) <| rN <| Xj (dl 8) 8 Xh <| Jj rfl (i64 4) <| Jj rfl (i64 4) <| Xq rfl (Xe 4 4 Zk Zl rfl) <| Y6 (v := (u64 x4)) rfl (fun _ e' => Ql Xg rfl rfl (m11.ext e').h2 (Qv _ _ 0 Xk)) <| Jj rfl (i64 4) <| Xq rfl (Xe 4 4 Zk Zl rfl) <| Y6 (v := (u64 y4)) rfl (fun _ e' => Ql Xg rfl rfl (m11.ext e').h1 (Qv _ _ 0 Xk)) <| Xq rfl (X7 rfl rfl) ?_
 refine Ug m11 fun w12 m12 => Qd (Xe 4 4 Zk Zl rfl) <| Yb m12 (Q8 (f := u64) (l' := [x0 + y0, x1 + y1, x2 + y2, x3 + y3, x4 + y4]) rfl Zm Zl rfl rfl m12.h0 Xk (.inl (Nat.zero_le _))) fun w13 m13 => ?_
 refine Zo (Qh (Qb ?_))
 refine Qd (v := (i64 5)) (Xd 4 1) <| Zb (i64 5) ?_
 refine rN (Zh (sR ?_))
 refine Qd (X5 5 5) ?_
 refine rN (Qc ?_)
 refine Ym rfl Yh <| Yc ?_
 refine Qr (Qr (Xp ?_))
 refine sR <| Qd (Qw Zk rfl Z5 rfl m13.h0 sZ) <| Dx m13 (oc101 (Jb rfl) (Qez _ _ sD)) fun w14 m14 => Yb m14 (Qq (f := u64) (l := Gg ([x0 + y0, x1 + y1, x2 + y2, x3 + y3, x4 + y4])) Zm Z5 rfl rfl sD m14.h0 sZ rfl) fun w16 m16 => ?_
 refine rN (Zy ?_)
 refine Qs [(agg u64 (Gg ([x0 + y0, x1 + y1, x2 + y2, x3 + y3, x4 + y4])))] ⟨⟨_, rfl, Xi Zk rfl Z5 m16.h0 sZ⟩, trivial⟩ ?_
 exact ⟨rfl, m16.toExt⟩
theorem Qey (a b : List (BitVec 64)) (w0 : World)  (ha : a.length = 5) (hb : b.length = 5) : Xm prog 98 #[(agg u64 a), (agg u64 b)] w0 (fun r w1 => r = (agg u64 (Qk a b)) ∧ Ext w0 w1) := by
 refine Qy (args := [(agg u64 a), (agg u64 b)]) func98 rfl ntmps98 results98 rfl ?_
 have m0 : Mem w0 (Qu w0) [] := Mem.of_world w0
 obtain ⟨x0, x1, x2, x3, x4, rfl⟩ := Qbi a ha
 obtain ⟨y0, y1, y2, y3, y4, rfl⟩ := Qbi b hb
 refine sR <| Y5 (Zw (f := u64) (l := [x0, x1, x2, x3, x4]) m0 rfl) fun w1 b2 m1 => Y5 (Zw (f := u64) (l := [y0, y1, y2, y3, y4]) m1 rfl) fun w2 b3 m2 => Y5 (Zf m2 Z5) fun w3 b4 m3 => ?_
 refine rN (Qc (sR ?_))
 refine Zb (i64 0) ?_
 refine rN (Qj ?_)
 refine Wu 6 ?_
 refine Zh (sR ?_)
 refine Qd (X5 0 5) ?_
 refine rN (Qc ?_)
 refine Qx rfl Yh ?_
 refine Qo (Qa (Qc (Qj (sR ?_))))
 refine Zb (i64 0) <| Zv (i64 0) <| rN <| Xj (dl 9) 9 Xh <| Jj rfl (i64 0) <| Jj rfl (i64 0) <| Xq rfl (Xe 0 0 Zk Zl rfl) <| Y6 (v := (u64 x0)) rfl (fun _ e' => Ql Xg rfl rfl (m3.ext e').h2 (Qv _ _ 0 Xk)) <| Xq rfl (X7 (b := 4503599627370494#64) rfl rfl) <| Jj rfl (i64 0) <| Xq rfl (Xe 0 0 Zk Zl rfl) <| Y6 (v := (u64 y0)) rfl (fun _ e' => Ql Xg rfl rfl (m3.ext e').h1 (Qv _ _ 0 Xk)) ?_
 refine Xq rfl (Et rfl rfl) <| Ug m3 fun w4 m4 => Qd (Xe 0 0 Zk Zl rfl) <| Yb m4 (Q8 (f := u64) (l' := [(x0 + 4503599627370494#64) - y0, 0, 0, 0, 0]) rfl Zm Zl rfl rfl m4.h0 Xk (.inl (Nat.zero_le _))) fun w5 m5 => ?_
 refine Zo (Qh (Qb ?_))
 refine Qd (v := (i64 1)) (Xd 0 1) <| Zb (i64 1) ?_
 refine rN (Zh (sR ?_))
 refine Qd (X5 1 5) ?_
 refine rN (Qc ?_)
 refine Qx rfl Yh ?_
 refine Qo (Qa (Qc (Qj (sR ?_))))
 refine Zb (i64 1) <| Zv (i64 1) <| rN <| Xj (dl 9) 9 Xh <| Jj rfl (i64 1) <| Jj rfl (i64 1) <| Xq rfl (Xe 1 1 Zk Zl rfl) <| Y6 (v := (u64 x1)) rfl (fun _ e' => Ql Xg rfl rfl (m5.ext e').h2 (Qv _ _ 0 Xk)) <| Xq rfl (X7 (b := 4503599627370494#64) rfl rfl) <| Jj rfl (i64 1) <| Xq rfl (Xe 1 1 Zk Zl rfl) <| Y6 (v := (u64 y1)) rfl (fun _ e' => Ql Xg rfl rfl (m5.ext e').h1 (Qv _ _ 0 Xk)) ?_
 refine Xq rfl (Et rfl rfl) <| Ug m5 fun w6 m6 => Qd (Xe 1 1 Zk Zl rfl) <| Yb m6 (Q8 (f := u64) (l' := [(x0 + 4503599627370494#64) - y0, (x1 + 4503599627370494#64) - y1, 0, 0, 0]) rfl Zm Zl rfl rfl m6.h0 Xk (.inl (Nat.zero_le _))) fun w7 m7 => ?_
 refine Zo (Qh (Qb ?_))
 refine Qd (v := (i64 2)) (Xd 1 1) <| Zb (i64 2) ?_
 refine rN (Zh (sR ?_))
 refine Qd (X5 2 5) ?_
 refine rN (Qc ?_)
 refine Qx rfl Yh ?_
 refine Qo (Qa (Qc (Qj (sR ?_))))
 refine Zb (i64 2) <| Zv (i64 2) <| rN <| Xj (dl 9) 9 Xh <| Jj rfl (i64 2) <| Jj rfl (i64 2) <| Xq rfl (Xe 2 2 Zk Zl rfl) <| Y6 (v := (u64 x2)) rfl (fun _ e' => Ql Xg rfl rfl (m7.ext e').h2 (Qv _ _ 0 Xk)) <| Xq rfl (X7 (b := 4503599627370494#64) rfl rfl) <| Jj rfl (i64 2) <| Xq rfl (Xe 2 2 Zk Zl rfl) <| Y6 (v := (u64 y2)) rfl (fun _ e' => Ql Xg rfl rfl (m7.ext e').h1 (Qv _ _ 0 Xk)) ?_
 refine Xq rfl (Et rfl rfl) <| Ug m7 fun w8 m8 => Qd (Xe 2 2 Zk Zl rfl) <| Yb m8 (Q8 (f := u64) (l' := [(x0 + 4503599627370494#64) - y0, (x1 + 4503599627370494#64) - y1, (x2 + 4503599627370494#64) - y2, 0, 0]) rfl Zm Zl rfl rfl m8.h0 Xk (.inl (Nat.zero_le _))) fun w9 m9 => ?_
 refine Zo (Qh (Qb ?_))
 refine Qd (v := (i64 3)) (Xd 2 1) <| Zb (i64 3) ?_
 refine rN (Zh (sR ?_))
 refine Qd (X5 3 5) ?_
 refine rN (Qc ?_)
 refine Qx rfl Yh ?_
 refine Qo (Qa (Qc (Qj (sR ?_))))
 refine Zb (i64 3) <| Zv (i64 3) <| rN <| Xj (dl 9) 9 Xh <| Jj rfl (i64 3) <| Jj rfl (i64 3) <| Xq rfl (Xe 3 3 Zk Zl rfl) <| Y6 (v := (u64 x3)) rfl (fun _ e' => Ql Xg rfl rfl (m9.ext e').h2 (Qv _ _ 0 Xk)) <| Xq rfl (X7 (b := 4503599627370494#64) rfl rfl) <| Jj rfl (i64 3) <| Xq rfl (Xe 3 3 Zk Zl rfl) <| Y6 (v := (u64 y3)) rfl (fun _ e' => Ql Xg rfl rfl (m9.ext e').h1 (Qv _ _ 0 Xk)) ?_
 refine Xq rfl (Et rfl rfl) <| Ug m9 fun w10 m10 => Qd (Xe 3 3 Zk Zl rfl) <| Yb m10 (Q8 (f := u64) (l' := [(x0 + 4503599627370494#64) - y0, (x1 + 4503599627370494#64) - y1, (x2 + 4503599627370494#64) - y2, (x3 + 4503599627370494#64) - y3, 0]) rfl Zm Zl rfl rfl m10.h0 Xk (.inl (Nat.zero_le _))) fun w11 m11 => ?_
 refine Zo (Qh (Qb ?_))
 refine Qd (v := (i64 4)) (Xd 3 1) <| Zb (i64 4) ?_
 refine rN (Zh (sR ?_))
 refine Qd (X5 4 5) ?_
 refine rN (Qc ?_)
 refine Qx rfl Yh ?_
 refine Qo (Qa (Qc (Qj (sR ?_))))
 refine Zb (i64 4) <| Zv (i64 4) <| rN <| Xj (dl 9) 9 Xh <| Jj rfl (i64 4) <| Jj rfl (i64 4) <| Xq rfl (Xe 4 4 Zk Zl rfl) <| Y6 (v := (u64 x4)) rfl (fun _ e' => Ql Xg rfl rfl (m11.ext e').h2 (Qv _ _ 0 Xk)) <| Xq rfl (X7 (b := 4503599627370494#64) rfl rfl) <| Jj rfl (i64 4) <| Xq rfl (Xe 4 4 Zk Zl rfl) <| Y6 (v := (u64 y4)) rfl (fun _ e' => Ql Xg rfl rfl (m11.ext e').h1 (Qv _ _ 0 Xk)) ?_
 refine Xq rfl (Et rfl rfl) <| Ug m11 fun w12 m12 => Qd (Xe 4 4 Zk Zl rfl) <| Yb m12 (Q8 (f := u64) (l' := [(x0 + 4503599627370494#64) - y0, (x1 + 4503599627370494#64) - y1, (x2 + 4503599627370494#64) - y2, (x3 + 4503599627370494#64) - y3, (x4 + 4503599627370494#64) - y4]) rfl Zm Zl rfl rfl m12.h0 Xk (.inl (Nat.zero_le _))) fun w13 m13 => ?_
 refine Zo (Qh (Qb ?_))
 refine Qd (v := (i64 5)) (Xd 4 1) <| Zb (i64 5) ?_
 refine rN (Zh (sR ?_))
 refine Qd (X5 5 5) ?_
 refine rN (Qc ?_)
 refine Ym rfl Yh <| Yc ?_
 refine Qr (Qr (Xp ?_))
 refine sR <| Qd (Xe 0 0 Zk Zl rfl) <| Qd (v := (u64 ((x0 + 4503599627370494#64) - y0))) (Ql Xg rfl rfl m13.h0 (Qv _ _ 0 Xk)) <| Qd (Et (b := 36#64) rfl rfl) <| Qd (Xe 0 0 Zk Zl rfl) <| Yb m13 (Q8 (f := u64) (l' := [((x0 + 4503599627370494#64) - y0) - 36#64, (x1 + 4503599627370494#64) - y1, (x2 + 4503599627370494#64) - y2, (x3 + 4503599627370494#64) - y3, (x4 + 4503599627370494#64) - y4]) rfl Zm Zl rfl rfl m13.h0 Xk (.inl (Nat.zero_le _))) fun w14 m14 => rN ?_
 refine CW.abs (fun g => g 0 = (agg u64 ([x0, x1, x2, x3, x4])) ∧ g 1 = (agg u64 ([y0, y1, y2, y3, y4])) ∧ g 2 = (ptr b2 0) ∧ g 3 = (ptr b3 0) ∧ g 4 = (ptr b4 0) ∧ g 5 = (i64 4) ∧ g 6 = (i64 5) ∧ g 7 = (bl false) ∧ True) ⟨rfl, rfl, rfl, rfl, rfl, rfl, rfl, rfl, trivial⟩ ?_
 rintro fr15 ⟨s0, s1, s2, s3, s4, s5, s6, s7, _⟩
 refine sR <| Qd (Qw Zk rfl Z5 s4 m14.h0 sZ) <| Dx m14 (oc101 (Jb rfl) (Qez _ _ sD)) fun w16 m16 => Yb m16 (Qq (f := u64) (l := Gg ([((x0 + 4503599627370494#64) - y0) - 36#64, (x1 + 4503599627370494#64) - y1, (x2 + 4503599627370494#64) - y2, (x3 + 4503599627370494#64) - y3, (x4 + 4503599627370494#64) - y4])) Zm Z5 s4 rfl sD m16.h0 sZ rfl) fun w18 m18 => ?_
 refine rN (Zy ?_)
 refine Qs [(agg u64 (Gg ([((x0 + 4503599627370494#64) - y0) - 36#64, (x1 + 4503599627370494#64) - y1, (x2 + 4503599627370494#64) - y2, (x3 + 4503599627370494#64) - y3, (x4 + 4503599627370494#64) - y4])))] ⟨⟨_, s4, Xi Zk rfl Z5 m18.h0 sZ⟩, trivial⟩ ?_
 exact ⟨rfl, m18.toExt⟩
set_option maxHeartbeats 1000000 in
theorem Ub (a b : List (BitVec 64)) (w0 : World)  (ha : a.length = 5) (hb : b.length = 5) : Xm prog 81 #[(agg u64 a), (agg u64 b)] w0 (fun r w1 => r = (agg u64 (Qe a b)) ∧ Ext w0 w1) := by
 refine Qy (args := [(agg u64 a), (agg u64 b)]) func81 rfl ntmps81 results81 rfl ?_
 have m0 : Mem w0 (Qu w0) [] := Mem.of_world w0
 refine sR <| Y5 (Zw (f := u64) (l := a) m0 rfl) fun w1 b2 m1 => Y5 (Zw (f := u64) (l := b) m1 rfl) fun w2 b3 m2 => Y5 (Zf m2 Z5) fun w3 b4 m3 => ?_
 refine rN (sR ?_)
 refine Y5 (Zf m3 ti147) fun w4 b5 m4 => ?_
 refine rN (Qc (sR ?_))
 refine Qd (Qw Zk rfl Z5 rfl m4.h3 sZ) <| Zb (i64 0) ?_
 refine rN (Qj ?_)
 refine Jq (fun g wv => ∃ (i : Nat) (wl : List (BitVec 64)), (i ≤ 5) ∧ (wl = Wp a b i) ∧ g 0 = (agg u64 a) ∧ g 1 = (agg u64 b) ∧ g 2 = (ptr b2 0) ∧ g 3 = (ptr b3 0) ∧ g 4 = (ptr b4 0) ∧ g 5 = (ptr b5 0) ∧ g 17 = (agg u64 a) ∧ g 18 = (i64 (i : Int)) ∧ Mem wv (Qu w0) [(b5, .cells (cl u64 wl) 147 (0, 0)), (b4, .cells (cl u64 (List.replicate 5 0)) 126 (0, 0)), (b3, .cells (cl u64 b) 126 (0, 0)), (b2, .cells (cl u64 a) 126 (0, 0))]) (fun g wv => (5 - RowKit.intOf (g 18)).toNat) ?_ ?_
 ·exact ⟨0, (List.replicate 10 0), oM, rfl, rfl, rfl, rfl, rfl, rfl, rfl, rfl, rfl, m4⟩
 rintro fr5 w6 ⟨i, wl, hi, hw, s0, s1, s2, s3, s4, s5, s17, s18, m6⟩
 have z18 := s18
 have hwl : wl.length = 10 := by rw [hw, Qc0]
 refine sR <| Qd (Xy (b := 5) s18 rfl) ?_
 refine rN (Qc ?_)
 refine Xb rfl (fun hc7 => ?_) (fun hc7 => ?_)
 ·
  have hc7p := of_decide_eq_true hc7
  refine Qo (Qa (Qc (Qj (sR ?_))))
  refine Yk s18 <| Qd (v := (u64 (a.getD i 0))) (X8 Zk Xg rfl Zl s17 s18 oM sD (Qv _ _ 0 sD)) <| Zv (i64 (i : Int)) <| Zv (u64 (a.getD i 0)) ?_
  refine rN (sR ?_)
  refine Qd (Qw Zk rfl Z5 s3 m6.h2 sZ) <| Zb (i64 0) ?_
  refine rN (Df ?_)
  refine Jq (fun g wv => ∃ (k : Nat) (wk : List (BitVec 64)), (k ≤ 5) ∧ (wk = Ac a b i wl k) ∧ g 0 = (agg u64 a) ∧ g 1 = (agg u64 b) ∧ g 2 = (ptr b2 0) ∧ g 3 = (ptr b3 0) ∧ g 4 = (ptr b4 0) ∧ g 5 = (ptr b5 0) ∧ g 6 = (i64 (i : Int)) ∧ g 7 = (u64 (a.getD i 0)) ∧ g 17 = (agg u64 a) ∧ g 18 = (i64 (i : Int)) ∧ g 19 = (bl (decide ((i : Int) < 5))) ∧ g 22 = (agg u64 b) ∧ g 23 = (i64 (k : Int)) ∧ Mem wv (Qu w0) [(b5, .cells (cl u64 wk) 147 (0, 0)), (b4, .cells (cl u64 (List.replicate 5 0)) 126 (0, 0)), (b3, .cells (cl u64 b) 126 (0, 0)), (b2, .cells (cl u64 a) 126 (0, 0))]) (fun g wv => (5 - RowKit.intOf (g 23)).toNat) ?_ ?_
  ·exact ⟨0, wl, oM, rfl, s0, s1, s2, s3, s4, s5, rfl, rfl, s17, s18, rfl, rfl, rfl, m6⟩
  rintro fr8 w9 ⟨k, wk, hk, hwk, s0, s1, s2, s3, s4, s5, s6, s7, s17, s18, s19, s22, s23, m9⟩
  have z23 := s23
  have hwkl : wk.length = 10 := by rw [hwk, P6, hwl]
  refine sR <| Qd (Xy (b := 5) s23 rfl) ?_
  refine rN (Qc ?_)
  refine Xb rfl (fun hc10 => ?_) (fun hc10 => ?_)
  ·
   have hc10p := of_decide_eq_true hc10
   refine Qo (Qa (Qc (Qj (sR ?_))))
   refine Yk s23 <| Qd (v := (u64 (b.getD k 0))) (X8 Zk Xg rfl Zl s22 s23 oM sD (Qv _ _ 0 sD)) <| Zv (i64 (k : Int)) <| Zv (u64 (b.getD k 0)) ?_
   refine rN (sR ?_)
   refine Yk s6 <| Zb (i64 (k : Int)) <| Qd (Yt.cast (congrArg i64 (show (i : Int) + (k : Int) = ((i + k : Nat) : Int) by omega)) (Z9 rfl rfl oM oM)) <| Zv (i64 ((i + k : Nat) : Int)) ?_
   refine rN (sR ?_)
   refine Zb (i64 ((i + k : Nat) : Int)) <| Qd (Xy (b := 5) rfl rfl) <| rN ?_
   refine Xb rfl (fun hc11 => ?_) (fun hc11 => ?_)
   ·
    have hc11p := of_decide_eq_true hc11
    refine Qb <| Zb (i64 ((i + k : Nat) : Int)) <| Qd (Xc (r := (i + k) * 2) oM uT147 Qji s5 rfl oM sD) <| Yk s7 <| Zb (u64 (b.getD k 0)) ?_
    have hF13 : Mem _ _ ([(b5, .cells (cl u64 wk) 147 (0, 0))] ++ ([_, _, _])) := m9
    refine G5 (oc99 (U2 rfl rfl rfl) (c_wadd b5 ((i + k) * 2) wk (a.getD i 0) (b.getD k 0) _ _ (Mem.give hF13) sD)) ?_
    rintro _ w12 ⟨rfl, k_w12⟩
    have m12 : Mem _ _ [_, _, _, _] := Mem.back hF13 k_w12
    refine Zo (Qh (Qb ?_))
    refine Qd (Z9 (b := 1) s23 rfl oM oM) <| Zb (i64 ((k : Int) + 1)) <| rN ?_
    have hwn : G6 wk ((i + k) * 2) (a.getD i 0) (b.getD k 0) = Ac a b i wl (k + 1) := by rw [hwk]; exact Qnk oM
    exact ⟨⟨k + 1, (G6 wk ((i + k) * 2) (a.getD i 0) (b.getD k 0)), oM, hwn, s0, s1, s2, s3, s4, s5, s6, s7, s17, s18, s19, s22, rfl, m12⟩, Am rfl z23 oM oM⟩
   ·
    have hc11p := of_decide_eq_false hc11
    refine Qb <| Zb (i64 ((i + k : Nat) : Int)) <| Qd (Yt.cast (congrArg i64 (show ((i + k : Nat) : Int) - 5 = ((i + k - 5 : Nat) : Int) by omega)) (Kw (b := 5) rfl rfl oM oM)) <| Qd (Xc (r := (i + k - 5) * 2) oM uT147 Qji s5 rfl oM sD) <| Yk s7 <| Qd (Ul (a := 19#64) rfl rfl) <| Zb (u64 (b.getD k 0)) ?_
    have hF16 : Mem _ _ ([(b5, .cells (cl u64 wk) 147 (0, 0))] ++ ([_, _, _])) := m9
    refine G5 (oc99 (U2 rfl rfl rfl) (c_wadd b5 ((i + k - 5) * 2) wk (19#64 * (a.getD i 0)) (b.getD k 0) _ _ (Mem.give hF16) sD)) ?_
    rintro _ w15 ⟨rfl, k_w15⟩
    have m15 : Mem _ _ [_, _, _, _] := Mem.back hF16 k_w15
    refine Zo (Qh (Qb ?_))
    refine Qd (Z9 (b := 1) s23 rfl oM oM) <| Zb (i64 ((k : Int) + 1)) <| rN ?_
    have hwn : G6 wk ((i + k - 5) * 2) (19#64 * (a.getD i 0)) (b.getD k 0) = Ac a b i wl (k + 1) := by rw [hwk]; exact Qnl oM
    exact ⟨⟨k + 1, (G6 wk ((i + k - 5) * 2) (19#64 * (a.getD i 0)) (b.getD k 0)), oM, hwn, s0, s1, s2, s3, s4, s5, s6, s7, s17, s18, s19, s22, rfl, m15⟩, Am rfl z23 oM oM⟩
  ·
   have hc10p := of_decide_eq_false hc10
   obtain rfl : k = 5 := by omega
   refine Yc ?_
   refine Qr (Qr (Xp ?_))
   refine Qh (Qb ?_)
   refine Qd (Z9 (b := 1) s18 rfl oM oM) <| Zb (i64 ((i : Int) + 1)) <| rN ?_
   have hwo : wk = Wp a b (i + 1) := by rw [hwk, hw]; rfl
   exact ⟨⟨i + 1, wk, oM, hwo, s0, s1, s2, s3, s4, s5, s17, rfl, m9⟩, Am rfl z18 oM oM⟩
 ·
  have hc7p := of_decide_eq_false hc7
  obtain rfl : i = 5 := by omega
  refine Yc ?_
  refine Qr (Qr (Xp ?_))
  refine sR <| Zv (u64 0#64) ?_
  refine rN (Qc (sR ?_))
  refine Qd (Qw uT147 rfl ti147 s5 m6.h0 sZ) <| Zb (i64 0) ?_
  refine rN (Qj ?_)
  refine Jq (fun g wv => ∃ (i : Nat), (i ≤ 5) ∧ g 0 = (agg u64 a) ∧ g 1 = (agg u64 b) ∧ g 2 = (ptr b2 0) ∧ g 3 = (ptr b3 0) ∧ g 4 = (ptr b4 0) ∧ g 5 = (ptr b5 0) ∧ g 11 = (u64 (G9 wl i)) ∧ g 17 = (agg u64 a) ∧ g 18 = (i64 (5 : Int)) ∧ g 19 = (bl (decide ((5 : Int) < 5))) ∧ g 46 = (agg u64 wl) ∧ g 47 = (i64 (i : Int)) ∧ Mem wv (Qu w0) [(b5, .cells (cl u64 wl) 147 (0, 0)), (b4, .cells (cl u64 (Wy (G8 wl) 0 5 i)) 126 (0, 0)), (b3, .cells (cl u64 b) 126 (0, 0)), (b2, .cells (cl u64 a) 126 (0, 0))]) (fun g wv => (5 - RowKit.intOf (g 47)).toNat) ?_ ?_
  ·exact ⟨0, oM, s0, s1, s2, s3, s4, s5, rfl, s17, s18, rfl, rfl, rfl, (by rw [Nc]; exact m6)⟩
  rintro fr18 w19 ⟨i, hi, s0, s1, s2, s3, s4, s5, s11, s17, s18, s19, s46, s47, m19⟩
  have z47 := s47
  have z11 := s11
  have hfl : (Wy (G8 wl) (0 : BitVec 64) 5 i).length = 5 := Bl _ _ _ _ hi
  refine sR <| Qd (Xy (b := 5) s47 rfl) ?_
  refine rN (Qc ?_)
  refine Xb rfl (fun hc20 => ?_) (fun hc20 => ?_)
  ·
   have hc20p := of_decide_eq_true hc20
   refine Qo (Qa (Qc (Qj (sR ?_))))
   refine Yk s47 <| Qd (v := (agg u64 ([wl.getD (i * 2) 0, wl.getD ((i * 2) + 1) 0]))) (Qiv (l := wl) (i := ((i : Int) : Int)) 0 uT147 Qe6 rfl Qji s46 s47 oM sD oM) <| Y5 (Yu m19 Qji) fun w21 b13 m21 => Zv (i64 (i : Int)) <| Yb m21 (Qq (f := u64) (l := [wl.getD (i * 2) 0, wl.getD ((i * 2) + 1) 0]) Zm Qji rfl rfl sD m21.h0 rfl rfl) fun w22 m22 => ?_
   refine rN (sR ?_)
   refine Qd (Zd (r := 1) Qe6 rfl Yy Zl rfl rfl) <| Qd (v := (u64 (wl.getD ((i * 2) + 1) 0))) (Ql Xg rfl rfl m22.h0 (Qv _ _ 0 Xk)) <| Yk s11 <| Qd (v := (Value.tuple #[(u64 ((wl.getD ((i * 2) + 1) 0) + (G9 wl i) + 0#64)), (u64 (J7 (wl.getD ((i * 2) + 1) 0) (G9 wl i) 0#64))])) (Qf3 (a := (wl.getD ((i * 2) + 1) 0)) (b := (G9 wl i)) (c := 0#64) func100 Xh Xh Xh Xh rfl rfl rfl (by first | decide | exact Qdp _ _ Yh)) <| Yk rfl <| Qd (v := (u64 ((wl.getD ((i * 2) + 1) 0) + (G9 wl i) + 0#64))) (Zg rfl rfl) <| Qd (v := (u64 (J7 (wl.getD ((i * 2) + 1) 0) (G9 wl i) 0#64))) (Zg rfl rfl) <| Zv (u64 ((wl.getD ((i * 2) + 1) 0) + (G9 wl i) + 0#64)) <| Zv (u64 (J7 (wl.getD ((i * 2) + 1) 0) (G9 wl i) 0#64)) ?_
   refine rN (sR ?_)
   refine Qd (Zd (r := 0) Qe6 rfl Yy Zl rfl rfl) <| Qd (v := (u64 (wl.getD (i * 2) 0))) (Ql Xg rfl rfl m22.h0 (Qv _ _ 0 Xk)) <| Zb (u64 (J7 (wl.getD ((i * 2) + 1) 0) (G9 wl i) 0#64)) <| Qd (X7 rfl rfl) <| Sv rfl ?_
   refine rN (sR ?_)
   refine Zb (i64 (i : Int)) <| Zb (u64 ((wl.getD ((i * 2) + 1) 0) + (G9 wl i) + 0#64)) <| Qd (Jk (b := 2251799813685247#64) rfl rfl) <| Qd (Xc (r := i) oM Zk Zl s4 rfl oM sD) <| Qc3 m22 (X9 (f := u64) (a := ((wl.getD ((i * 2) + 1) 0) + (G9 wl i) + 0#64) &&& 2251799813685247#64) Zm Zl rfl rfl m22.h2 sD (.inl (Nat.zero_le _))) fun w23 m23 => ?_
   refine rN (Qb ?_)
   refine Yk rfl <| Qd (Gv (b := 13) rfl rfl oM) <| Zb (u64 ((wl.getD ((i * 2) + 1) 0) + (G9 wl i) + 0#64)) <| Qd (Xn (b := 51) rfl rfl oM) <| Qd (Qhh rfl rfl) <| Sv rfl ?_
   refine Zo (Qh (Qb ?_))
   refine Qd (Z9 (b := 1) s47 rfl oM oM) <| Zb (i64 ((i : Int) + 1)) <| rN ?_
   have m24 := Mem.drop [_] _ m23
   exact ⟨⟨i + 1, oM, s0, s1, s2, s3, s4, s5, rfl, s17, s18, s19, s46, rfl, (by rw [← Ri (G8 wl) (0 : BitVec 64) (n := 5) (k := i) oM _ rfl]; exact m24)⟩, Am rfl z47 oM oM⟩
  ·
   have hc20p := of_decide_eq_false hc20
   obtain rfl : i = 5 := by omega
   have hmF25 := m19
   rw [filled5] at hmF25
   refine Yc ?_
   refine Qr (Qr (Xp ?_))
   refine sR <| Qd (Xe 0 0 Zk Zl s4) <| Qd (v := (u64 (G8 wl 0))) (Ql Xg rfl rfl hmF25.h1 (Qv _ _ 0 Xk)) <| Yk s11 <| Qd (Jk (b := 2251799813685247#64) rfl rfl) <| Qd (Ul (a := 19#64) rfl rfl) <| Qd (X7 rfl rfl) <| Qd (Xe 0 0 Zk Zl s4) <| Vq hmF25 (Q8 (f := u64) (l' := [(G8 wl 0) + (19#64 * ((G9 wl 5) &&& 2251799813685247#64)), G8 wl 1, G8 wl 2, G8 wl 3, G8 wl 4]) rfl Zm Zl rfl rfl hmF25.h1 Xk (.inl (Nat.zero_le _))) fun w26 m26 => ?_
   refine rN (sR ?_)
   refine Qd (Xe 1 1 Zk Zl s4) <| Qd (v := (u64 (G8 wl 1))) (Ql Xg rfl rfl m26.h1 (Qv _ _ 0 Xk)) <| Yk s11 <| Qd (Xn (b := 51) rfl rfl oM) <| Qd (Ul (a := 19#64) rfl rfl) <| Qd (X7 rfl rfl) <| Qd (Xe 1 1 Zk Zl s4) <| Vq m26 (Q8 (f := u64) (l' := [(G8 wl 0) + (19#64 * ((G9 wl 5) &&& 2251799813685247#64)), (G8 wl 1) + (19#64 * ((G9 wl 5) >>> 51)), G8 wl 2, G8 wl 3, G8 wl 4]) rfl Zm Zl rfl rfl m26.h1 Xk (.inl (Nat.zero_le _))) fun w27 m27 => ?_
   refine rN (sR ?_)
   refine Qd (Qw Zk rfl Z5 s4 m27.h1 sZ) <| Dx m27 (oc101 (Jb rfl) (Qez _ _ sD)) fun w28 m28 => Vq m28 (Qq (f := u64) (l := Gg ([(G8 wl 0) + (19#64 * ((G9 wl 5) &&& 2251799813685247#64)), (G8 wl 1) + (19#64 * ((G9 wl 5) >>> 51)), G8 wl 2, G8 wl 3, G8 wl 4])) Zm Z5 s4 rfl sD m28.h1 sZ rfl) fun w30 m30 => ?_
   refine rN (Zy ?_)
   refine Qs [(agg u64 (Gg ([(G8 wl 0) + (19#64 * ((G9 wl 5) &&& 2251799813685247#64)), (G8 wl 1) + (19#64 * ((G9 wl 5) >>> 51)), G8 wl 2, G8 wl 3, G8 wl 4])))] ⟨⟨_, s4, Xi Zk rfl Z5 m30.h1 sZ⟩, trivial⟩ ?_
   exact ⟨congrArg (agg u64) (by rw [hw]; rfl), m30.toExt⟩
theorem c_cread (u : Zj) (w0 : World)  (hu : u.length = 32) : Xm prog 79 #[(agg u8 u)] w0 (fun r w1 => r = (agg u64 (Xu u)) ∧ Ext w0 w1) := by
 refine Qy (args := [(agg u8 u)]) func79 rfl ntmps79 results79 rfl ?_
 have m0 : Mem w0 (Qu w0) [] := Mem.of_world w0
 refine sR <| Y5 (Zw (f := u8) (l := u) m0 rfl) fun w1 b1 m1 => Y5 (Zf m1 Z5) fun w2 b2 m2 => ?_
 refine rN (Qc (sR ?_))
 refine Zb (i64 0) ?_
 refine rN (Qj ?_)
 refine Jq (fun g wv => ∃ (i : Nat), (i ≤ 255) ∧ g 0 = (agg u8 u) ∧ g 1 = (ptr b1 0) ∧ g 2 = (ptr b2 0) ∧ g 4 = (i64 (i : Int)) ∧ Mem wv (Qu w0) [(b2, .cells (cl u64 (Uj u i)) 126 (0, 0)), (b1, .cells (cl u8 u) 23 (0, 0))]) (fun g wv => (255 - RowKit.intOf (g 4)).toNat) ?_ ?_
 ·exact ⟨0, oM, rfl, rfl, rfl, rfl, m2⟩
 rintro fr3 w4 ⟨i, hi, s0, s1, s2, s4, m4⟩
 have z4 := s4
 have hrl := F9 u i
 refine sR <| Qd (Xy (b := 255) s4 rfl) ?_
 refine rN (Qc ?_)
 refine Xb rfl (fun hc5 => ?_) (fun hc5 => ?_)
 ·
  have hc5p := of_decide_eq_true hc5
  refine Qo (Qa (Qc (Qj (sR ?_))))
  refine Yk s4 <| Zv (i64 (i : Int)) <| rN <| Xj (dl 16) 16 Xh <| Jj rfl (i64 (i : Int)) <| Xq rfl (Yt.cast (congrArg i64 (show (i : Int) / 51 = ((i / 51 : Nat) : Int) by omega)) (Gw (b := 51) rfl rfl oM oM oM)) <| Xq rfl (Xc (r := (i / 51)) oM Zk Zl s2 rfl oM sD) <| Y6 (v := (u64 ((Uj u i).getD (i / 51) 0))) rfl (fun _ e' => Ql Xg rfl rfl (m4.ext e').h0 (Qv _ _ 0 sD)) <| Jj rfl (i64 (i : Int)) <| Xq rfl (Yt.cast (congrArg i64 (show (i : Int) / 8 = ((i / 8 : Nat) : Int) by omega)) (Gw (b := 8) rfl rfl oM oM oM)) <| Xq rfl (Xc (r := (i / 8)) oM Xf Yw s1 rfl oM sD) <| Y6 (v := (u8 (u.getD (i / 8) 0))) rfl (fun _ e' => Ql Uu rfl rfl (m4.ext e').h1 (Qv _ _ 0 sD)) ?_
  refine Jj rfl (i64 (i : Int)) <| Xq rfl (Yt.cast (congrArg i64 (show (i : Int) % 8 = ((i % 8 : Nat) : Int) by omega)) (J4 (b := 8) rfl rfl oM oM oM)) <| Xq rfl (Qhe rfl rfl oM) <| Xq rfl (Qhg (b := 1#8) rfl rfl) <| Xq rfl (Qf2 ⟨_, Uu⟩ Xg rfl) <| Jj rfl (i64 (i : Int)) <| Xq rfl (Yt.cast (congrArg i64 (show (i : Int) % 51 = ((i % 51 : Nat) : Int) by omega)) (J4 (b := 51) rfl rfl oM oM oM)) <| Xq rfl (Gv rfl rfl oM) <| Ug m4 fun w6 m6 => Qd (Qhh rfl rfl) <| Qd (Xc (r := (i / 51)) oM Zk Zl s2 rfl oM sD) <| Yb m6 (X9 (f := u64) (a := ((Uj u i).getD (i / 51) 0) ||| (((((u.getD (i / 8) 0) >>> ((i % 8 : Nat) : Int).toNat) &&& 1#8).setWidth 64) <<< ((i % 51 : Nat) : Int).toNat)) Zm Zl rfl rfl m6.h0 sD (.inl (Nat.zero_le _))) fun w7 m7 => ?_
  refine Zo (Qh (Qb ?_))
  refine Qd (Z9 (b := 1) s4 rfl oM oM) <| Zb (i64 ((i : Int) + 1)) <| rN ?_
  exact ⟨⟨i + 1, oM, s0, s1, s2, rfl, m7⟩, Am rfl z4 oM oM⟩
 ·
  have hc5p := of_decide_eq_false hc5
  obtain rfl : i = 255 := by omega
  have hrl := F9 u 255
  refine Yc ?_
  refine Qr (Qr (Xp ?_))
  refine sR <| Qd (Qw Zk rfl Z5 s2 m4.h0 sZ) <| Yb m4 (Qq (f := u64) (l := Uj u 255) Zm Z5 s2 rfl sD m4.h0 sZ rfl) fun w8 m8 => ?_
  refine rN (Zy ?_)
  refine Qs [(agg u64 (Uj u 255))] ⟨⟨_, s2, Xi Zk rfl Z5 m8.h0 sZ⟩, trivial⟩ ?_
  exact ⟨rfl, m8.toExt⟩
end Go.Proofs.YtkmiemlpfkfiiaaDoor
