/- Contracts: the curve, first part. Conditions: none beyond those that each theorem states. -/
import Derived.Test.YtkmiemlpfkfiiaaDoorTab
import Derived.Test.YtkmiemlpfkfiiaaDoorCuM
namespace Go.Proofs.YtkmiemlpfkfiiaaDoor
set_option linter.unusedVariables false
set_option linter.unusedSimpArgs false
theorem c_mul64 (x y : BitVec 64) (w0 : World)   : X8 Tryd.prog 110 #[(u64 x), (u64 y)] w0 (fun r w1 => r = (Value.tuple #[(u64 (Rk x y)), (u64 (x * y))]) ∧ Ext w0 w1) := by
 refine Zp (args := [(u64 x), (u64 y)]) Tryd.func110 rfl Tryd.ntmps110 Tryd.results110 rfl ?_
 have hm0 : Mem w0 (Qo w0) [] := Mem.of_world w0
 refine sR <| Qb rfl (Qd (v := (u64 0#64)) rfl) <| Qb rfl (Qd (v := (u64 0#64)) rfl) ?_
 refine rN (sR ?_)
 refine Qb rfl (Qc (v := (u64 x)) rfl) <| Qb rfl (Jq (b := 4294967295#64) rfl rfl) <| Qb rfl (Qd (v := (u64 (x &&& 4294967295#64))) rfl) ?_
 refine rN (sR ?_)
 refine Qb rfl (Qc (v := (u64 x)) rfl) <| Qb rfl (X7 (b := 32) rfl rfl oM) <| Qb rfl (Qd (v := (u64 (x >>> 32))) rfl) ?_
 refine rN (sR ?_)
 refine Qb rfl (Qc (v := (u64 y)) rfl) <| Qb rfl (Jq (b := 4294967295#64) rfl rfl) <| Qb rfl (Qd (v := (u64 (y &&& 4294967295#64))) rfl) <| rN ?_
 refine CW.abs (fun g => g 0 = (u64 x) ∧ g 1 = (u64 y) ∧ g 4 = (u64 0#64) ∧ g 5 = (u64 0#64) ∧ g 6 = (u64 (x &&& 4294967295#64)) ∧ g 7 = (u64 (x >>> 32)) ∧ g 8 = (u64 (y &&& 4294967295#64)) ∧ True) ⟨rfl, rfl, rfl, rfl, rfl, rfl, rfl, trivial⟩ ?_
 rintro fr1 ⟨s0, s1, s4, s5, s6, s7, s8, _⟩
 refine sR <| rM rfl s1 <| Qb rfl (X7 (b := 32) rfl rfl oM) <| Qb rfl (Qd (v := (u64 (y >>> 32))) rfl) ?_
 refine rN (sR ?_)
 refine rM rfl s6 <| rM rfl s8 <| Qb rfl (Gs rfl rfl) <| Qb rfl (Qd (v := (u64 ((x &&& 4294967295#64) * (y &&& 4294967295#64)))) rfl) ?_
 refine rN (sR ?_)
 refine rM rfl s7 <| rM rfl s8 <| Qb rfl (Gs rfl rfl) <| Qb rfl (Qc (v := (u64 ((x &&& 4294967295#64) * (y &&& 4294967295#64)))) rfl) <| Qb rfl (X7 (b := 32) rfl rfl oM) <| Qb rfl (Ym rfl rfl) <| rA rfl rfl <| rN ?_
 refine CW.abs (fun g => g 0 = (u64 x) ∧ g 1 = (u64 y) ∧ g 4 = (u64 0#64) ∧ g 5 = (u64 0#64) ∧ g 6 = (u64 (x &&& 4294967295#64)) ∧ g 7 = (u64 (x >>> 32)) ∧ g 8 = (u64 (y &&& 4294967295#64)) ∧ g 9 = (u64 (y >>> 32)) ∧ g 10 = (u64 ((x &&& 4294967295#64) * (y &&& 4294967295#64))) ∧ g 11 = (u64 (((x >>> 32) * (y &&& 4294967295#64)) + (((x &&& 4294967295#64) * (y &&& 4294967295#64)) >>> 32))) ∧ True) ⟨s0, s1, s4, s5, s6, s7, s8, rfl, rfl, rfl, trivial⟩ ?_
 rintro fr2 ⟨s0, s1, s4, s5, s6, s7, s8, s9, s10, s11, _⟩
 refine sR <| rM rfl s11 <| Qb rfl (Jq (b := 4294967295#64) rfl rfl) <| rA rfl rfl ?_
 refine rN (sR ?_)
 refine rM rfl s11 <| Qb rfl (X7 (b := 32) rfl rfl oM) <| rA rfl rfl ?_
 refine rN (sR ?_)
 refine rM rfl rfl <| rM rfl s6 <| rM rfl s9 <| Qb rfl (Gs rfl rfl) <| Qb rfl (Ym rfl rfl) <| rA rfl rfl <| rN ?_
 refine CW.abs (fun g => g 0 = (u64 x) ∧ g 1 = (u64 y) ∧ g 4 = (u64 0#64) ∧ g 5 = (u64 0#64) ∧ g 6 = (u64 (x &&& 4294967295#64)) ∧ g 7 = (u64 (x >>> 32)) ∧ g 8 = (u64 (y &&& 4294967295#64)) ∧ g 9 = (u64 (y >>> 32)) ∧ g 10 = (u64 ((x &&& 4294967295#64) * (y &&& 4294967295#64))) ∧ g 11 = (u64 (((x >>> 32) * (y &&& 4294967295#64)) + (((x &&& 4294967295#64) * (y &&& 4294967295#64)) >>> 32))) ∧ g 12 = (u64 (((((x >>> 32) * (y &&& 4294967295#64)) + (((x &&& 4294967295#64) * (y &&& 4294967295#64)) >>> 32)) &&& 4294967295#64) + ((x &&& 4294967295#64) * (y >>> 32)))) ∧ g 13 = (u64 ((((x >>> 32) * (y &&& 4294967295#64)) + (((x &&& 4294967295#64) * (y &&& 4294967295#64)) >>> 32)) >>> 32)) ∧ True) ⟨s0, s1, s4, s5, s6, s7, s8, s9, s10, s11, rfl, rfl, trivial⟩ ?_
 rintro fr3 ⟨s0, s1, s4, s5, s6, s7, s8, s9, s10, s11, s12, s13, _⟩
 refine sR <| rM rfl s7 <| rM rfl s9 <| Qb rfl (Gs rfl rfl) <| rM rfl s13 <| Qb rfl (Ym rfl rfl) <| rM rfl s12 <| Qb rfl (X7 (b := 32) rfl rfl oM) <| Qb rfl (Ym rfl rfl) <| rA rfl rfl ?_
 refine rN (sR ?_)
 refine rM rfl s0 <| rM rfl s1 <| Qb rfl (Gs rfl rfl) <| Qb rfl (Qd (v := (u64 (x * y))) rfl) <| rN ?_
 refine CW.abs (fun g => g 0 = (u64 x) ∧ g 1 = (u64 y) ∧ g 4 = (u64 ((((x >>> 32) * (y >>> 32)) + ((((x >>> 32) * (y &&& 4294967295#64)) + (((x &&& 4294967295#64) * (y &&& 4294967295#64)) >>> 32)) >>> 32)) + ((((((x >>> 32) * (y &&& 4294967295#64)) + (((x &&& 4294967295#64) * (y &&& 4294967295#64)) >>> 32)) &&& 4294967295#64) + ((x &&& 4294967295#64) * (y >>> 32))) >>> 32))) ∧ g 5 = (u64 (x * y)) ∧ g 6 = (u64 (x &&& 4294967295#64)) ∧ g 7 = (u64 (x >>> 32)) ∧ g 8 = (u64 (y &&& 4294967295#64)) ∧ g 9 = (u64 (y >>> 32)) ∧ g 10 = (u64 ((x &&& 4294967295#64) * (y &&& 4294967295#64))) ∧ g 11 = (u64 (((x >>> 32) * (y &&& 4294967295#64)) + (((x &&& 4294967295#64) * (y &&& 4294967295#64)) >>> 32))) ∧ g 12 = (u64 (((((x >>> 32) * (y &&& 4294967295#64)) + (((x &&& 4294967295#64) * (y &&& 4294967295#64)) >>> 32)) &&& 4294967295#64) + ((x &&& 4294967295#64) * (y >>> 32)))) ∧ g 13 = (u64 ((((x >>> 32) * (y &&& 4294967295#64)) + (((x &&& 4294967295#64) * (y &&& 4294967295#64)) >>> 32)) >>> 32)) ∧ True) ⟨s0, s1, rfl, rfl, s6, s7, s8, s9, s10, s11, s12, s13, trivial⟩ ?_
 rintro fr4 ⟨s0, s1, s4, s5, s6, s7, s8, s9, s10, s11, s12, s13, _⟩
 refine Xn <| Zj [(u64 ((((x >>> 32) * (y >>> 32)) + ((((x >>> 32) * (y &&& 4294967295#64)) + (((x &&& 4294967295#64) * (y &&& 4294967295#64)) >>> 32)) >>> 32)) + ((((((x >>> 32) * (y &&& 4294967295#64)) + (((x &&& 4294967295#64) * (y &&& 4294967295#64)) >>> 32)) &&& 4294967295#64) + ((x &&& 4294967295#64) * (y >>> 32))) >>> 32))), (u64 (x * y))] ⟨s4, s5, trivial⟩ ?_
 exact ⟨congrArg (fun q => Value.tuple #[u64 q, u64 (x * y)]) (mulHG_eq x y), hm0.toExt⟩
theorem c_wadd (bw off : Nat) (l : List (BitVec 64)) (x y : BitVec 64) (w0 : World) (R : Rest) (hm0 : Mem w0 R [(bw, .cells (cl u64 l) 147 (0, 0))]) (hl : off + 2 ≤ l.length) : X8 Tryd.prog 99 #[(ptr bw off), (u64 x), (u64 y)] w0 (fun r w1 => r = .tuple #[] ∧ Mem w1 R [(bw, .cells (cl u64 (F7 l off x y)) 147 (0, 0))]) := by
 refine Zp (args := [(ptr bw off), (u64 x), (u64 y)]) Tryd.func99 rfl Tryd.ntmps99 Tryd.results99 rfl <| sR <| Qb rfl (Qc (v := (u64 x)) rfl) <| Qb rfl (Qc (v := (u64 y)) rfl) <| Zo rfl (Qx Tryd.func110 bd110 nm110 (Yk rfl rfl) (c_mul64 x y _)) ?_
 rintro _ w1 ⟨rfl, _ew1⟩
 have hm1 := hm0.ext _ew1
 refine Qb rfl (Qc (v := (Value.tuple #[(u64 (Rk x y)), (u64 (x * y))])) rfl) <| Qb (v := (u64 (Rk x y))) rfl (Xu rfl rfl) <| Qb (v := (u64 (x * y))) rfl (Xu rfl rfl) <| Qb rfl (Qd (v := (u64 (Rk x y))) rfl) <| Qb rfl (Qd (v := (u64 (x * y))) rfl) ?_
 refine rN (sR ?_)
 refine Qb rfl (Qd (v := (u64 0#64)) rfl) ?_
 refine rN (sR ?_)
 refine Qb rfl (Qc (v := (ptr bw off)) rfl) <| Qb rfl (Qc (v := (ptr bw off)) rfl) <| Qb rfl (Zv rfl) <| Qb rfl (Zr (r := off + 1) Qcf rfl (by first | rfl | omega) Z8 rfl rfl) <| Qb (v := (u64 (l.getD (off + 1) 0))) rfl (Qy X0 rfl rfl hm1.h0 (Zm _ _ 0 sD)) <| Qb rfl (Qc (v := (u64 (x * y))) rfl) <| Qb (v := (Value.tuple #[(u64 ((l.getD (off + 1) 0) + (x * y) + 0#64)), (u64 (Vg (l.getD (off + 1) 0) (x * y) 0#64))])) rfl (Qcz (a := (l.getD (off + 1) 0)) (b := (x * y)) (c := 0#64) Tryd.func100 (by kernel_rfl) (by kernel_rfl) (by kernel_rfl) (by kernel_rfl) rfl rfl rfl (by first | decide | exact Qbl _ _ (by decide))) <| rM rfl rfl <| Qb (v := (u64 ((l.getD (off + 1) 0) + (x * y) + 0#64))) rfl (Xu rfl rfl) <| Qb (v := (u64 (Vg (l.getD (off + 1) 0) (x * y) 0#64))) rfl (Xu rfl rfl) <| Qb rfl (Zv rfl) <| Qb rfl (Zr (r := off + 1) Qcf rfl (by first | rfl | omega) Z8 rfl rfl) ?_
 refine Xf (Yj (f := u64) (a := (l.getD (off + 1) 0) + (x * y) + 0#64) Xa Z8 rfl rfl hm1.h0 sD (.inl (Nat.zero_le _))) ?_
 rintro _ w3 uq3
 have hm3 := hm1.upd0 uq3
 refine Qb rfl (Qd (v := (u64 (Vg (l.getD (off + 1) 0) (x * y) 0#64))) rfl) <| rN ?_
 refine CW.abs (fun g => g 0 = (ptr bw off) ∧ g 1 = (u64 x) ∧ g 2 = (u64 y) ∧ g 6 = (u64 (Rk x y)) ∧ g 7 = (u64 (x * y)) ∧ g 8 = (u64 (Vg (l.getD (off + 1) 0) (x * y) 0#64)) ∧ True) ⟨rfl, rfl, rfl, rfl, rfl, rfl, trivial⟩ ?_
 rintro fr4 ⟨s0, s1, s2, s6, s7, s8, _⟩
 refine Qg <| rM rfl s0 <| rM rfl s0 <| Qb rfl (Zv rfl) <| Qb rfl (Zr (r := off + 0) Qcf rfl (by first | rfl | omega) Z8 rfl rfl) <| Qb (v := (u64 ((l.set (off + 1) ((l.getD (off + 1) 0) + (x * y) + 0#64)).getD (off + 0) 0))) rfl (Qy X0 rfl rfl hm3.h0 (Zm _ _ 0 sD)) <| rM rfl s6 <| rM rfl s8 <| Qb (v := (Value.tuple #[(u64 (((l.set (off + 1) ((l.getD (off + 1) 0) + (x * y) + 0#64)).getD (off + 0) 0) + (Rk x y) + (Vg (l.getD (off + 1) 0) (x * y) 0#64))), (u64 (Vg ((l.set (off + 1) ((l.getD (off + 1) 0) + (x * y) + 0#64)).getD (off + 0) 0) (Rk x y) (Vg (l.getD (off + 1) 0) (x * y) 0#64)))])) rfl (Qcz (a := ((l.set (off + 1) ((l.getD (off + 1) 0) + (x * y) + 0#64)).getD (off + 0) 0)) (b := (Rk x y)) (c := (Vg (l.getD (off + 1) 0) (x * y) 0#64)) Tryd.func100 (by kernel_rfl) (by kernel_rfl) (by kernel_rfl) (by kernel_rfl) rfl rfl rfl (by first | decide | exact Qbl _ _ (by decide))) <| rM rfl rfl <| Qb (v := (u64 (((l.set (off + 1) ((l.getD (off + 1) 0) + (x * y) + 0#64)).getD (off + 0) 0) + (Rk x y) + (Vg (l.getD (off + 1) 0) (x * y) 0#64)))) rfl (Xu rfl rfl) <| Qb (v := (u64 (Vg ((l.set (off + 1) ((l.getD (off + 1) 0) + (x * y) + 0#64)).getD (off + 0) 0) (Rk x y) (Vg (l.getD (off + 1) 0) (x * y) 0#64)))) rfl (Xu rfl rfl) ?_
 refine Qb rfl (Zv rfl) <| Qb rfl (Zr (r := off + 0) Qcf rfl (by first | rfl | omega) Z8 rfl rfl) <| Xf (Yj (f := u64) (a := ((l.set (off + 1) ((l.getD (off + 1) 0) + (x * y) + 0#64)).getD (off + 0) 0) + (Rk x y) + (Vg (l.getD (off + 1) 0) (x * y) 0#64)) Xa Z8 rfl rfl hm3.h0 sD (.inl (Nat.zero_le _))) ?_
 rintro _ w5 uq5
 have hm5 := hm3.upd0 uq5
 refine Zz <| Ej [] trivial ?_
 exact ⟨rfl, hm5⟩
theorem Qcc (l : List (BitVec 64)) (w0 : World)  (hl : l.length = 5) : X8 Tryd.prog 101 #[(agg u64 l)] w0 (fun r w1 => r = (agg u64 (Gz l)) ∧ Ext w0 w1) := by
 refine Zp (args := [(agg u64 l)]) Tryd.func101 rfl Tryd.ntmps101 Tryd.results101 rfl ?_
 have hm0 : Mem w0 (Qo w0) [] := Mem.of_world w0
 refine sR <| Zo rfl (X4 (f := u64) (l := l) hm0 rfl) ?_
 rintro _ w1 ⟨b1, rfl, _ew1, hm1⟩
 refine Zo rfl (Zy hm1 Xm) ?_
 rintro _ w2 ⟨b2, rfl, _ew2, hm2⟩
 refine rN (Qh (sR ?_))
 refine Qb rfl (Qc (v := (i64 0)) rfl) ?_
 refine rN (Qv ?_)
 refine Jg (fun g wv => ∃ (k : Nat) (wl : List (BitVec 64)), (k ≤ 2) ∧ (wl = carN l k) ∧ g 0 = (agg u64 l) ∧ g 1 = (ptr b1 0) ∧ g 2 = (ptr b2 0) ∧ g 5 = (i64 (k : Int)) ∧ Mem wv (Qo w0) [(b2, .cells (cl u64 (List.replicate 5 0)) 126 (0, 0)), (b1, .cells (cl u64 wl) 126 (0, 0))]) (fun g wv => (2 - RowKit.intOf (g 5)).toNat) ?_ ?_
 · exact ⟨0, l, oM, rfl, rfl, rfl, rfl, rfl, hm2⟩
 · rintro fr3 w4 ⟨k, wl, hk, hw, s0, s1, s2, s5, hm4⟩
   have z5 := s5
   have hwl : wl.length = 5 := by rw [hw, Qfq, hl]
   obtain ⟨e0, e1, e2, e3, e4, rfl⟩ := Qcu wl hwl
   refine sR <| Qb rfl (Qs (b := 2) s5 rfl) ?_
   refine rN (Qh ?_)
   refine Xy rfl (fun hc5 => ?_) (fun hc5 => ?_)
   ·
     have hc5p := of_decide_eq_true hc5
     refine Zc (Qi (Qh (Qv (sR ?_))))
     refine Qb rfl (Qd (v := (u64 0#64)) rfl) ?_
     refine rN (Qh (sR ?_))
     refine Qb rfl (Qc (v := (i64 0)) rfl) ?_
     refine rN (Qv ?_)
     refine Jw 6 ?_
     refine Zu (sR ?_)
     refine Qb rfl (Qs (a := 0) (b := 5) rfl rfl) ?_
     refine rN (Qh ?_)
     refine Zf rfl (by decide) ?_
     refine Zc (Qi (Qh (Qv (sR ?_))))
     refine Qb rfl (Qc (v := (i64 0)) rfl) <| Qb rfl (Qd (v := (i64 0)) rfl) ?_
     refine rN (sR ?_)
     refine Qb rfl (Qc (v := (i64 0)) rfl) <| Qb rfl (Qm (r := 0) (i := 0) oM Z7 Z8 s1 rfl oM oM) <| Qb (v := (u64 e0)) rfl (Qy X0 rfl rfl hm4.h1 (Zm _ _ 0 (by simp))) <| Qb rfl (Qc (v := (u64 0#64)) rfl) <| Qb rfl (Ym (b := 0#64) rfl rfl) <| Qb rfl (Qm (r := 0) (i := 0) oM Z7 Z8 s1 rfl oM oM) <| Xf (Zx (f := u64) (l' := [e0 + 0#64, e1, e2, e3, e4]) rfl Xa Z8 rfl rfl hm4.h1 (by simp) (.inl (Nat.zero_le _))) ?_
     rintro _ w6 uq6
     have hm6 := hm4.upd1 uq6
     refine rN ?_
     refine CW.abs (fun g => g 0 = (agg u64 l) ∧ g 1 = (ptr b1 0) ∧ g 2 = (ptr b2 0) ∧ g 3 = (u64 0#64) ∧ g 4 = (i64 0) ∧ g 5 = (i64 (k : Int)) ∧ g 6 = (bl (decide ((k : Int) < 2))) ∧ g 7 = (i64 0) ∧ g 8 = (bl true) ∧ True) ⟨s0, s1, s2, rfl, rfl, s5, rfl, rfl, rfl, trivial⟩ ?_
     rintro fr7 ⟨s0, s1, s2, s3, s4, s5, s6, s7, s8, _⟩
     refine sR <| rM rfl s4 <| Qb rfl (Qm (r := 0) (i := 0) oM Z7 Z8 s1 rfl oM oM) <| Qb (v := (u64 (e0 + 0#64))) rfl (Qy X0 rfl rfl hm6.h1 (Zm _ _ 0 (by simp))) <| Qb rfl (X7 (b := 51) rfl rfl oM) <| Qb rfl (Qd (v := (u64 ((e0 + 0#64) >>> 51))) rfl) ?_
     refine rN (Qg ?_)
     refine rM rfl s4 <| Qb rfl (Qm (r := 0) (i := 0) oM Z7 Z8 s1 rfl oM oM) <| Qb (v := (u64 (e0 + 0#64))) rfl (Qy X0 rfl rfl hm6.h1 (Zm _ _ 0 (by simp))) <| Qb rfl (Jq (b := 2251799813685247#64) rfl rfl) <| Qb rfl (Qm (r := 0) (i := 0) oM Z7 Z8 s1 rfl oM oM) <| Xf (Zx (f := u64) (l' := [(e0 + 0#64) &&& 2251799813685247#64, e1, e2, e3, e4]) rfl Xa Z8 rfl rfl hm6.h1 (by simp) (.inl (Nat.zero_le _))) ?_
     rintro _ w8 uq8
     have hm8 := hm6.upd1 uq8
     refine Zz (Qn (Qg ?_))
     refine Qb (v := (i64 1)) rfl (Qk (a := 0) (b := 1) s7 rfl oM oM) <| Qb rfl (Qc (v := (i64 1)) rfl) <| rN ?_
     refine CR.abs (fun g => g 0 = (agg u64 l) ∧ g 1 = (ptr b1 0) ∧ g 2 = (ptr b2 0) ∧ g 3 = (u64 ((e0 + 0#64) >>> 51)) ∧ g 4 = (i64 0) ∧ g 5 = (i64 (k : Int)) ∧ g 6 = (bl (decide ((k : Int) < 2))) ∧ g 7 = (i64 1) ∧ g 8 = (bl true) ∧ True) ⟨s0, s1, s2, rfl, s4, s5, s6, rfl, s8, trivial⟩ ?_
     rintro fr9 ⟨s0, s1, s2, s3, s4, s5, s6, s7, s8, _⟩
     refine Zu (sR ?_)
     refine Qb rfl (Qs (a := 1) (b := 5) s7 rfl) ?_
     refine rN (Qh ?_)
     refine Zf rfl (by decide) ?_
     refine Zc (Qi (Qh (Qv (sR ?_))))
     refine rM rfl s7 <| Qb rfl (Qd (v := (i64 1)) rfl) ?_
     refine rN (sR ?_)
     refine Qb rfl (Qc (v := (i64 1)) rfl) <| Qb rfl (Qm (r := 1) (i := 1) oM Z7 Z8 s1 rfl oM oM) <| Qb (v := (u64 e1)) rfl (Qy X0 rfl rfl hm8.h1 (Zm _ _ 0 (by simp))) <| rM rfl s3 <| Qb rfl (Ym rfl rfl) <| Qb rfl (Qm (r := 1) (i := 1) oM Z7 Z8 s1 rfl oM oM) <| Xf (Zx (f := u64) (l' := [(e0 + 0#64) &&& 2251799813685247#64, e1 + ((e0 + 0#64) >>> 51), e2, e3, e4]) rfl Xa Z8 rfl rfl hm8.h1 (by simp) (.inl (Nat.zero_le _))) ?_
     rintro _ w10 uq10
     have hm10 := hm8.upd1 uq10
     refine rN (sR ?_)
     refine Qb rfl (Qc (v := (i64 1)) rfl) <| Qb rfl (Qm (r := 1) (i := 1) oM Z7 Z8 s1 rfl oM oM) <| Qb (v := (u64 (e1 + ((e0 + 0#64) >>> 51)))) rfl (Qy X0 rfl rfl hm10.h1 (Zm _ _ 0 (by simp))) <| Qb rfl (X7 (b := 51) rfl rfl oM) <| Qb rfl (Qd (v := (u64 ((e1 + ((e0 + 0#64) >>> 51)) >>> 51))) rfl) <| rN ?_
     refine CW.abs (fun g => g 0 = (agg u64 l) ∧ g 1 = (ptr b1 0) ∧ g 2 = (ptr b2 0) ∧ g 3 = (u64 ((e1 + ((e0 + 0#64) >>> 51)) >>> 51)) ∧ g 4 = (i64 1) ∧ g 5 = (i64 (k : Int)) ∧ g 6 = (bl (decide ((k : Int) < 2))) ∧ g 7 = (i64 1) ∧ g 8 = (bl true) ∧ True) ⟨s0, s1, s2, rfl, rfl, s5, s6, s7, rfl, trivial⟩ ?_
     rintro fr11 ⟨s0, s1, s2, s3, s4, s5, s6, s7, s8, _⟩
     refine Qg <| rM rfl s4 <| Qb rfl (Qm (r := 1) (i := 1) oM Z7 Z8 s1 rfl oM oM) <| Qb (v := (u64 (e1 + ((e0 + 0#64) >>> 51)))) rfl (Qy X0 rfl rfl hm10.h1 (Zm _ _ 0 (by simp))) <| Qb rfl (Jq (b := 2251799813685247#64) rfl rfl) <| Qb rfl (Qm (r := 1) (i := 1) oM Z7 Z8 s1 rfl oM oM) <| Xf (Zx (f := u64) (l' := [(e0 + 0#64) &&& 2251799813685247#64, (e1 + ((e0 + 0#64) >>> 51)) &&& 2251799813685247#64, e2, e3, e4]) rfl Xa Z8 rfl rfl hm10.h1 (by simp) (.inl (Nat.zero_le _))) ?_
     rintro _ w12 uq12
     have hm12 := hm10.upd1 uq12
     refine Zz (Qn (Qg ?_))
     refine Qb (v := (i64 2)) rfl (Qk (a := 1) (b := 1) s7 rfl oM oM) <| Qb rfl (Qc (v := (i64 2)) rfl) ?_
     refine rN (Zu (sR ?_))
     refine Qb rfl (Qs (a := 2) (b := 5) rfl rfl) ?_
     refine rN (Qh ?_)
     refine Zf rfl (by decide) ?_
     refine Zc (Qi (Qh (Qv (sR ?_))))
     refine Qb rfl (Qc (v := (i64 2)) rfl) <| Qb rfl (Qd (v := (i64 2)) rfl) ?_
     refine rN (sR ?_)
     refine Qb rfl (Qc (v := (i64 2)) rfl) <| Qb rfl (Qm (r := 2) (i := 2) oM Z7 Z8 s1 rfl oM oM) <| Qb (v := (u64 e2)) rfl (Qy X0 rfl rfl hm12.h1 (Zm _ _ 0 (by simp))) <| rM rfl s3 <| Qb rfl (Ym rfl rfl) <| Qb rfl (Qm (r := 2) (i := 2) oM Z7 Z8 s1 rfl oM oM) <| Xf (Zx (f := u64) (l' := [(e0 + 0#64) &&& 2251799813685247#64, (e1 + ((e0 + 0#64) >>> 51)) &&& 2251799813685247#64, e2 + ((e1 + ((e0 + 0#64) >>> 51)) >>> 51), e3, e4]) rfl Xa Z8 rfl rfl hm12.h1 (by simp) (.inl (Nat.zero_le _))) ?_
     rintro _ w13 uq13
     have hm13 := hm12.upd1 uq13
     refine rN ?_
     refine CW.abs (fun g => g 0 = (agg u64 l) ∧ g 1 = (ptr b1 0) ∧ g 2 = (ptr b2 0) ∧ g 3 = (u64 ((e1 + ((e0 + 0#64) >>> 51)) >>> 51)) ∧ g 4 = (i64 2) ∧ g 5 = (i64 (k : Int)) ∧ g 6 = (bl (decide ((k : Int) < 2))) ∧ g 7 = (i64 2) ∧ g 8 = (bl true) ∧ True) ⟨s0, s1, s2, s3, rfl, s5, s6, rfl, rfl, trivial⟩ ?_
     rintro fr14 ⟨s0, s1, s2, s3, s4, s5, s6, s7, s8, _⟩
     refine sR <| rM rfl s4 <| Qb rfl (Qm (r := 2) (i := 2) oM Z7 Z8 s1 rfl oM oM) <| Qb (v := (u64 (e2 + ((e1 + ((e0 + 0#64) >>> 51)) >>> 51)))) rfl (Qy X0 rfl rfl hm13.h1 (Zm _ _ 0 (by simp))) <| Qb rfl (X7 (b := 51) rfl rfl oM) <| Qb rfl (Qd (v := (u64 ((e2 + ((e1 + ((e0 + 0#64) >>> 51)) >>> 51)) >>> 51))) rfl) ?_
     refine rN (Qg ?_)
     refine rM rfl s4 <| Qb rfl (Qm (r := 2) (i := 2) oM Z7 Z8 s1 rfl oM oM) <| Qb (v := (u64 (e2 + ((e1 + ((e0 + 0#64) >>> 51)) >>> 51)))) rfl (Qy X0 rfl rfl hm13.h1 (Zm _ _ 0 (by simp))) <| Qb rfl (Jq (b := 2251799813685247#64) rfl rfl) <| Qb rfl (Qm (r := 2) (i := 2) oM Z7 Z8 s1 rfl oM oM) <| Xf (Zx (f := u64) (l' := [(e0 + 0#64) &&& 2251799813685247#64, (e1 + ((e0 + 0#64) >>> 51)) &&& 2251799813685247#64, (e2 + ((e1 + ((e0 + 0#64) >>> 51)) >>> 51)) &&& 2251799813685247#64, e3, e4]) rfl Xa Z8 rfl rfl hm13.h1 (by simp) (.inl (Nat.zero_le _))) ?_
     rintro _ w15 uq15
     have hm15 := hm13.upd1 uq15
     refine Zz (Qn (Qg ?_))
     refine Qb (v := (i64 3)) rfl (Qk (a := 2) (b := 1) s7 rfl oM oM) <| Qb rfl (Qc (v := (i64 3)) rfl) <| rN ?_
     refine CR.abs (fun g => g 0 = (agg u64 l) ∧ g 1 = (ptr b1 0) ∧ g 2 = (ptr b2 0) ∧ g 3 = (u64 ((e2 + ((e1 + ((e0 + 0#64) >>> 51)) >>> 51)) >>> 51)) ∧ g 4 = (i64 2) ∧ g 5 = (i64 (k : Int)) ∧ g 6 = (bl (decide ((k : Int) < 2))) ∧ g 7 = (i64 3) ∧ g 8 = (bl true) ∧ True) ⟨s0, s1, s2, rfl, s4, s5, s6, rfl, s8, trivial⟩ ?_
     rintro fr16 ⟨s0, s1, s2, s3, s4, s5, s6, s7, s8, _⟩
     refine Zu (sR ?_)
     refine Qb rfl (Qs (a := 3) (b := 5) s7 rfl) ?_
     refine rN (Qh ?_)
     refine Zf rfl (by decide) ?_
     refine Zc (Qi (Qh (Qv (sR ?_))))
     refine rM rfl s7 <| Qb rfl (Qd (v := (i64 3)) rfl) ?_
     refine rN (sR ?_)
     refine Qb rfl (Qc (v := (i64 3)) rfl) <| Qb rfl (Qm (r := 3) (i := 3) oM Z7 Z8 s1 rfl oM oM) <| Qb (v := (u64 e3)) rfl (Qy X0 rfl rfl hm15.h1 (Zm _ _ 0 (by simp))) <| rM rfl s3 <| Qb rfl (Ym rfl rfl) <| Qb rfl (Qm (r := 3) (i := 3) oM Z7 Z8 s1 rfl oM oM) <| Xf (Zx (f := u64) (l' := [(e0 + 0#64) &&& 2251799813685247#64, (e1 + ((e0 + 0#64) >>> 51)) &&& 2251799813685247#64, (e2 + ((e1 + ((e0 + 0#64) >>> 51)) >>> 51)) &&& 2251799813685247#64, e3 + ((e2 + ((e1 + ((e0 + 0#64) >>> 51)) >>> 51)) >>> 51), e4]) rfl Xa Z8 rfl rfl hm15.h1 (by simp) (.inl (Nat.zero_le _))) ?_
     rintro _ w17 uq17
     have hm17 := hm15.upd1 uq17
     refine rN (sR ?_)
     refine Qb rfl (Qc (v := (i64 3)) rfl) <| Qb rfl (Qm (r := 3) (i := 3) oM Z7 Z8 s1 rfl oM oM) <| Qb (v := (u64 (e3 + ((e2 + ((e1 + ((e0 + 0#64) >>> 51)) >>> 51)) >>> 51)))) rfl (Qy X0 rfl rfl hm17.h1 (Zm _ _ 0 (by simp))) <| Qb rfl (X7 (b := 51) rfl rfl oM) <| Qb rfl (Qd (v := (u64 ((e3 + ((e2 + ((e1 + ((e0 + 0#64) >>> 51)) >>> 51)) >>> 51)) >>> 51))) rfl) <| rN ?_
     refine CW.abs (fun g => g 0 = (agg u64 l) ∧ g 1 = (ptr b1 0) ∧ g 2 = (ptr b2 0) ∧ g 3 = (u64 ((e3 + ((e2 + ((e1 + ((e0 + 0#64) >>> 51)) >>> 51)) >>> 51)) >>> 51)) ∧ g 4 = (i64 3) ∧ g 5 = (i64 (k : Int)) ∧ g 6 = (bl (decide ((k : Int) < 2))) ∧ g 7 = (i64 3) ∧ g 8 = (bl true) ∧ True) ⟨s0, s1, s2, rfl, rfl, s5, s6, s7, rfl, trivial⟩ ?_
     rintro fr18 ⟨s0, s1, s2, s3, s4, s5, s6, s7, s8, _⟩
     refine Qg <| rM rfl s4 <| Qb rfl (Qm (r := 3) (i := 3) oM Z7 Z8 s1 rfl oM oM) <| Qb (v := (u64 (e3 + ((e2 + ((e1 + ((e0 + 0#64) >>> 51)) >>> 51)) >>> 51)))) rfl (Qy X0 rfl rfl hm17.h1 (Zm _ _ 0 (by simp))) <| Qb rfl (Jq (b := 2251799813685247#64) rfl rfl) <| Qb rfl (Qm (r := 3) (i := 3) oM Z7 Z8 s1 rfl oM oM) <| Xf (Zx (f := u64) (l' := [(e0 + 0#64) &&& 2251799813685247#64, (e1 + ((e0 + 0#64) >>> 51)) &&& 2251799813685247#64, (e2 + ((e1 + ((e0 + 0#64) >>> 51)) >>> 51)) &&& 2251799813685247#64, (e3 + ((e2 + ((e1 + ((e0 + 0#64) >>> 51)) >>> 51)) >>> 51)) &&& 2251799813685247#64, e4]) rfl Xa Z8 rfl rfl hm17.h1 (by simp) (.inl (Nat.zero_le _))) ?_
     rintro _ w19 uq19
     have hm19 := hm17.upd1 uq19
     refine Zz (Qn (Qg ?_))
     refine Qb (v := (i64 4)) rfl (Qk (a := 3) (b := 1) s7 rfl oM oM) <| Qb rfl (Qc (v := (i64 4)) rfl) ?_
     refine rN (Zu (sR ?_))
     refine Qb rfl (Qs (a := 4) (b := 5) rfl rfl) ?_
     refine rN (Qh ?_)
     refine Zf rfl (by decide) ?_
     refine Zc (Qi (Qh (Qv (sR ?_))))
     refine Qb rfl (Qc (v := (i64 4)) rfl) <| Qb rfl (Qd (v := (i64 4)) rfl) ?_
     refine rN (sR ?_)
     refine Qb rfl (Qc (v := (i64 4)) rfl) <| Qb rfl (Qm (r := 4) (i := 4) oM Z7 Z8 s1 rfl oM oM) <| Qb (v := (u64 e4)) rfl (Qy X0 rfl rfl hm19.h1 (Zm _ _ 0 (by simp))) <| rM rfl s3 <| Qb rfl (Ym rfl rfl) <| Qb rfl (Qm (r := 4) (i := 4) oM Z7 Z8 s1 rfl oM oM) <| Xf (Zx (f := u64) (l' := [(e0 + 0#64) &&& 2251799813685247#64, (e1 + ((e0 + 0#64) >>> 51)) &&& 2251799813685247#64, (e2 + ((e1 + ((e0 + 0#64) >>> 51)) >>> 51)) &&& 2251799813685247#64, (e3 + ((e2 + ((e1 + ((e0 + 0#64) >>> 51)) >>> 51)) >>> 51)) &&& 2251799813685247#64, e4 + ((e3 + ((e2 + ((e1 + ((e0 + 0#64) >>> 51)) >>> 51)) >>> 51)) >>> 51)]) rfl Xa Z8 rfl rfl hm19.h1 (by simp) (.inl (Nat.zero_le _))) ?_
     rintro _ w20 uq20
     have hm20 := hm19.upd1 uq20
     refine rN ?_
     refine CW.abs (fun g => g 0 = (agg u64 l) ∧ g 1 = (ptr b1 0) ∧ g 2 = (ptr b2 0) ∧ g 3 = (u64 ((e3 + ((e2 + ((e1 + ((e0 + 0#64) >>> 51)) >>> 51)) >>> 51)) >>> 51)) ∧ g 4 = (i64 4) ∧ g 5 = (i64 (k : Int)) ∧ g 6 = (bl (decide ((k : Int) < 2))) ∧ g 7 = (i64 4) ∧ g 8 = (bl true) ∧ True) ⟨s0, s1, s2, s3, rfl, s5, s6, rfl, rfl, trivial⟩ ?_
     rintro fr21 ⟨s0, s1, s2, s3, s4, s5, s6, s7, s8, _⟩
     refine sR <| rM rfl s4 <| Qb rfl (Qm (r := 4) (i := 4) oM Z7 Z8 s1 rfl oM oM) <| Qb (v := (u64 (e4 + ((e3 + ((e2 + ((e1 + ((e0 + 0#64) >>> 51)) >>> 51)) >>> 51)) >>> 51)))) rfl (Qy X0 rfl rfl hm20.h1 (Zm _ _ 0 (by simp))) <| Qb rfl (X7 (b := 51) rfl rfl oM) <| rA rfl rfl ?_
     refine rN (Qg ?_)
     refine rM rfl s4 <| Qb rfl (Qm (r := 4) (i := 4) oM Z7 Z8 s1 rfl oM oM) <| Qb (v := (u64 (e4 + ((e3 + ((e2 + ((e1 + ((e0 + 0#64) >>> 51)) >>> 51)) >>> 51)) >>> 51)))) rfl (Qy X0 rfl rfl hm20.h1 (Zm _ _ 0 (by simp))) <| Qb rfl (Jq (b := 2251799813685247#64) rfl rfl) <| Qb rfl (Qm (r := 4) (i := 4) oM Z7 Z8 s1 rfl oM oM) <| Xf (Zx (f := u64) (l' := [(e0 + 0#64) &&& 2251799813685247#64, (e1 + ((e0 + 0#64) >>> 51)) &&& 2251799813685247#64, (e2 + ((e1 + ((e0 + 0#64) >>> 51)) >>> 51)) &&& 2251799813685247#64, (e3 + ((e2 + ((e1 + ((e0 + 0#64) >>> 51)) >>> 51)) >>> 51)) &&& 2251799813685247#64, (e4 + ((e3 + ((e2 + ((e1 + ((e0 + 0#64) >>> 51)) >>> 51)) >>> 51)) >>> 51)) &&& 2251799813685247#64]) rfl Xa Z8 rfl rfl hm20.h1 (by simp) (.inl (Nat.zero_le _))) ?_
     rintro _ w22 uq22
     have hm22 := hm20.upd1 uq22
     refine Zz (Qn (Qg ?_))
     refine Qb (v := (i64 5)) rfl (Qk (a := 4) (b := 1) s7 rfl oM oM) <| Qb rfl (Qc (v := (i64 5)) rfl) <| rN ?_
     refine CR.abs (fun g => g 0 = (agg u64 l) ∧ g 1 = (ptr b1 0) ∧ g 2 = (ptr b2 0) ∧ g 3 = (u64 ((e4 + ((e3 + ((e2 + ((e1 + ((e0 + 0#64) >>> 51)) >>> 51)) >>> 51)) >>> 51)) >>> 51)) ∧ g 4 = (i64 4) ∧ g 5 = (i64 (k : Int)) ∧ g 6 = (bl (decide ((k : Int) < 2))) ∧ g 7 = (i64 5) ∧ g 8 = (bl true) ∧ True) ⟨s0, s1, s2, rfl, s4, s5, s6, rfl, s8, trivial⟩ ?_
     rintro fr23 ⟨s0, s1, s2, s3, s4, s5, s6, s7, s8, _⟩
     refine Zu (sR ?_)
     refine Qb rfl (Qs (a := 5) (b := 5) s7 rfl) ?_
     refine rN (Qh ?_)
     refine Yt rfl (by decide) <| Yb ?_
     refine Zb (Zb (Xw ?_))
     refine Qg <| Qb rfl (Qm (r := 0) (i := 0) oM Z7 Z8 s1 rfl oM oM) <| Qb (v := (u64 ((e0 + 0#64) &&& 2251799813685247#64))) rfl (Qy X0 rfl rfl hm22.h1 (Zm _ _ 0 (by simp))) <| rM rfl s3 <| Qb rfl (Gs (a := 19#64) rfl rfl) <| Qb rfl (Ym rfl rfl) <| Qb rfl (Qm (r := 0) (i := 0) oM Z7 Z8 s1 rfl oM oM) <| Xf (Zx (f := u64) (l' := [((e0 + 0#64) &&& 2251799813685247#64) + (19#64 * ((e4 + ((e3 + ((e2 + ((e1 + ((e0 + 0#64) >>> 51)) >>> 51)) >>> 51)) >>> 51)) >>> 51)), (e1 + ((e0 + 0#64) >>> 51)) &&& 2251799813685247#64, (e2 + ((e1 + ((e0 + 0#64) >>> 51)) >>> 51)) &&& 2251799813685247#64, (e3 + ((e2 + ((e1 + ((e0 + 0#64) >>> 51)) >>> 51)) >>> 51)) &&& 2251799813685247#64, (e4 + ((e3 + ((e2 + ((e1 + ((e0 + 0#64) >>> 51)) >>> 51)) >>> 51)) >>> 51)) &&& 2251799813685247#64]) rfl Xa Z8 rfl rfl hm22.h1 (by simp) (.inl (Nat.zero_le _))) ?_
     rintro _ w24 uq24
     have hm24 := hm22.upd1 uq24
     refine Zz (Qn (Qg ?_))
     refine Qb rfl (Qk (b := 1) s5 rfl oM oM) <| Qb rfl (Qc (v := (i64 ((k : Int) + 1))) rfl) <| rN ?_
     have hwn : [((e0 + 0#64) &&& 2251799813685247#64) + (19#64 * ((e4 + ((e3 + ((e2 + ((e1 + ((e0 + 0#64) >>> 51)) >>> 51)) >>> 51)) >>> 51)) >>> 51)), (e1 + ((e0 + 0#64) >>> 51)) &&& 2251799813685247#64, (e2 + ((e1 + ((e0 + 0#64) >>> 51)) >>> 51)) &&& 2251799813685247#64, (e3 + ((e2 + ((e1 + ((e0 + 0#64) >>> 51)) >>> 51)) >>> 51)) &&& 2251799813685247#64, (e4 + ((e3 + ((e2 + ((e1 + ((e0 + 0#64) >>> 51)) >>> 51)) >>> 51)) >>> 51)) &&& 2251799813685247#64] = carN l (k + 1) := by show _ = Qbg (carN l k); rw [← hw]; rfl
     exact ⟨⟨k + 1, ([((e0 + 0#64) &&& 2251799813685247#64) + (19#64 * ((e4 + ((e3 + ((e2 + ((e1 + ((e0 + 0#64) >>> 51)) >>> 51)) >>> 51)) >>> 51)) >>> 51)), (e1 + ((e0 + 0#64) >>> 51)) &&& 2251799813685247#64, (e2 + ((e1 + ((e0 + 0#64) >>> 51)) >>> 51)) &&& 2251799813685247#64, (e3 + ((e2 + ((e1 + ((e0 + 0#64) >>> 51)) >>> 51)) >>> 51)) &&& 2251799813685247#64, (e4 + ((e3 + ((e2 + ((e1 + ((e0 + 0#64) >>> 51)) >>> 51)) >>> 51)) >>> 51)) &&& 2251799813685247#64]), oM, hwn, s0, s1, s2, rfl, hm24⟩, Fj rfl z5 oM oM⟩
   ·
     have hc5p := of_decide_eq_false hc5
     obtain rfl : k = 2 := by omega
     refine Yb ?_
     refine Zb (Zb (Xw ?_))
     refine sR <| Qb (v := (agg u64 ([e0, e1, e2, e3, e4]))) rfl (Z9 Z7 rfl Xm s1 hm4.h1 sZ) <| Xf (Zl (f := u64) (l := [e0, e1, e2, e3, e4]) Xa Xm s2 rfl sD hm4.h0 sZ rfl) ?_
     rintro _ w25 uq25
     have hm25 := hm4.upd0 uq25
     refine rN (Xn ?_)
     refine Zj [(agg u64 ([e0, e1, e2, e3, e4]))] ⟨⟨_, s2, X6 Z7 rfl Xm hm25.h0 sZ⟩, trivial⟩ ?_
     exact ⟨congrArg (agg u64) hw, hm25.toExt⟩
theorem Qet (a b : List (BitVec 64)) (w0 : World)  (ha : a.length = 5) (hb : b.length = 5) : X8 Tryd.prog 97 #[(agg u64 a), (agg u64 b)] w0 (fun r w1 => r = (agg u64 (Qz a b)) ∧ Ext w0 w1) := by
 refine Zp (args := [(agg u64 a), (agg u64 b)]) Tryd.func97 rfl Tryd.ntmps97 Tryd.results97 rfl ?_
 have hm0 : Mem w0 (Qo w0) [] := Mem.of_world w0
 obtain ⟨x0, x1, x2, x3, x4, rfl⟩ := Qcu a ha
 obtain ⟨y0, y1, y2, y3, y4, rfl⟩ := Qcu b hb
 refine sR <| Zo rfl (X4 (f := u64) (l := [x0, x1, x2, x3, x4]) hm0 rfl) ?_
 rintro _ w1 ⟨b2, rfl, _ew1, hm1⟩
 refine Zo rfl (X4 (f := u64) (l := [y0, y1, y2, y3, y4]) hm1 rfl) ?_
 rintro _ w2 ⟨b3, rfl, _ew2, hm2⟩
 refine Zo rfl (Zy hm2 Xm) ?_
 rintro _ w3 ⟨b4, rfl, _ew3, hm3⟩
 refine rN (Qh (sR ?_))
 refine Qb rfl (Qc (v := (i64 0)) rfl) ?_
 refine rN (Qv ?_)
 refine Jw 6 ?_
 refine Zu (sR ?_)
 refine Qb rfl (Qs (a := 0) (b := 5) rfl rfl) ?_
 refine rN (Qh ?_)
 refine Zf rfl (by decide) ?_
 refine Zc (Qi (Qh (Qv (sR ?_))))
 refine Qb rfl (Qc (v := (i64 0)) rfl) <| Qb rfl (Qd (v := (i64 0)) rfl) <| rN <| Yc [(0, false), (1, false), (2, false), (3, false), (4, false), (5, false), (6, false), (7, false)] 8 (by kernel_rfl) <| Qw rfl rfl (fun _ _hx => Qc (v := (i64 0)) rfl) <| Qw rfl rfl (fun _ _hx => Qc (v := (i64 0)) rfl) <| Qw rfl rfl (fun _ _hx => Qm (r := 0) (i := 0) oM Z7 Z8 rfl rfl oM oM) <| Qw (v := (u64 x0)) rfl rfl (fun _ _hx => Qy X0 rfl rfl (hm3.ext _hx).h2 (Zm _ _ 0 (by simp))) <| Qw rfl rfl (fun _ _hx => Qc (v := (i64 0)) rfl) <| Qw rfl rfl (fun _ _hx => Qm (r := 0) (i := 0) oM Z7 Z8 rfl rfl oM oM) <| Qw (v := (u64 y0)) rfl rfl (fun _ _hx => Qy X0 rfl rfl (hm3.ext _hx).h1 (Zm _ _ 0 (by simp))) <| Qw rfl rfl (fun _ _hx => Ym rfl rfl) ?_
 refine X3 (fun w4 _ew4 => ?_)
 have hm4 := hm3.ext _ew4
 refine Qb rfl (Qm (r := 0) (i := 0) oM Z7 Z8 rfl rfl oM oM) <| Xf (Zx (f := u64) (l' := [x0 + y0, 0, 0, 0, 0]) rfl Xa Z8 rfl rfl hm4.h0 (by simp) (.inl (Nat.zero_le _))) ?_
 rintro _ w5 uq5
 have hm5 := hm4.upd0 uq5
 refine Zz (Qn ?_)
 refine CW.abs (fun g => g 0 = (agg u64 ([x0, x1, x2, x3, x4])) ∧ g 1 = (agg u64 ([y0, y1, y2, y3, y4])) ∧ g 2 = (ptr b2 0) ∧ g 3 = (ptr b3 0) ∧ g 4 = (ptr b4 0) ∧ g 5 = (i64 0) ∧ g 6 = (i64 0) ∧ g 7 = (bl true) ∧ True) ⟨rfl, rfl, rfl, rfl, rfl, rfl, rfl, rfl, trivial⟩ ?_
 rintro fr6 ⟨s0, s1, s2, s3, s4, s5, s6, s7, _⟩
 refine Qg <| Qb (v := (i64 1)) rfl (Qk (a := 0) (b := 1) s6 rfl oM oM) <| Qb rfl (Qc (v := (i64 1)) rfl) ?_
 refine rN (Zu (sR ?_))
 refine Qb rfl (Qs (a := 1) (b := 5) rfl rfl) ?_
 refine rN (Qh ?_)
 refine Zf rfl (by decide) ?_
 refine Zc (Qi (Qh (Qv (sR ?_))))
 refine Qb rfl (Qc (v := (i64 1)) rfl) <| Qb rfl (Qd (v := (i64 1)) rfl) <| rN <| Yc [(0, false), (1, false), (2, false), (3, false), (4, false), (5, false), (6, false), (7, false)] 8 (by kernel_rfl) <| Qw rfl rfl (fun _ _hx => Qc (v := (i64 1)) rfl) <| Qw rfl rfl (fun _ _hx => Qc (v := (i64 1)) rfl) <| Qw rfl rfl (fun _ _hx => Qm (r := 1) (i := 1) oM Z7 Z8 s2 rfl oM oM) <| Qw (v := (u64 x1)) rfl rfl (fun _ _hx => Qy X0 rfl rfl (hm5.ext _hx).h2 (Zm _ _ 0 (by simp))) <| Qw rfl rfl (fun _ _hx => Qc (v := (i64 1)) rfl) <| Qw rfl rfl (fun _ _hx => Qm (r := 1) (i := 1) oM Z7 Z8 s3 rfl oM oM) <| Qw (v := (u64 y1)) rfl rfl (fun _ _hx => Qy X0 rfl rfl (hm5.ext _hx).h1 (Zm _ _ 0 (by simp))) <| Qw rfl rfl (fun _ _hx => Ym rfl rfl) ?_
 refine X3 (fun w7 _ew7 => ?_)
 have hm7 := hm5.ext _ew7
 refine Qb rfl (Qm (r := 1) (i := 1) oM Z7 Z8 s4 rfl oM oM) <| Xf (Zx (f := u64) (l' := [x0 + y0, x1 + y1, 0, 0, 0]) rfl Xa Z8 rfl rfl hm7.h0 (by simp) (.inl (Nat.zero_le _))) ?_
 rintro _ w8 uq8
 have hm8 := hm7.upd0 uq8
 refine Zz (Qn ?_)
 refine CW.abs (fun g => g 0 = (agg u64 ([x0, x1, x2, x3, x4])) ∧ g 1 = (agg u64 ([y0, y1, y2, y3, y4])) ∧ g 2 = (ptr b2 0) ∧ g 3 = (ptr b3 0) ∧ g 4 = (ptr b4 0) ∧ g 5 = (i64 1) ∧ g 6 = (i64 1) ∧ g 7 = (bl true) ∧ True) ⟨s0, s1, s2, s3, s4, rfl, rfl, rfl, trivial⟩ ?_
 rintro fr9 ⟨s0, s1, s2, s3, s4, s5, s6, s7, _⟩
 refine Qg <| Qb (v := (i64 2)) rfl (Qk (a := 1) (b := 1) s6 rfl oM oM) <| Qb rfl (Qc (v := (i64 2)) rfl) ?_
 refine rN (Zu (sR ?_))
 refine Qb rfl (Qs (a := 2) (b := 5) rfl rfl) ?_
 refine rN (Qh ?_)
 refine Zf rfl (by decide) ?_
 refine Zc (Qi (Qh (Qv (sR ?_))))
 refine Qb rfl (Qc (v := (i64 2)) rfl) <| Qb rfl (Qd (v := (i64 2)) rfl) <| rN <| Yc [(0, false), (1, false), (2, false), (3, false), (4, false), (5, false), (6, false), (7, false)] 8 (by kernel_rfl) <| Qw rfl rfl (fun _ _hx => Qc (v := (i64 2)) rfl) <| Qw rfl rfl (fun _ _hx => Qc (v := (i64 2)) rfl) <| Qw rfl rfl (fun _ _hx => Qm (r := 2) (i := 2) oM Z7 Z8 s2 rfl oM oM) <| Qw (v := (u64 x2)) rfl rfl (fun _ _hx => Qy X0 rfl rfl (hm8.ext _hx).h2 (Zm _ _ 0 (by simp))) <| Qw rfl rfl (fun _ _hx => Qc (v := (i64 2)) rfl) <| Qw rfl rfl (fun _ _hx => Qm (r := 2) (i := 2) oM Z7 Z8 s3 rfl oM oM) <| Qw (v := (u64 y2)) rfl rfl (fun _ _hx => Qy X0 rfl rfl (hm8.ext _hx).h1 (Zm _ _ 0 (by simp))) <| Qw rfl rfl (fun _ _hx => Ym rfl rfl) ?_
 refine X3 (fun w10 _ew10 => ?_)
 have hm10 := hm8.ext _ew10
 refine Qb rfl (Qm (r := 2) (i := 2) oM Z7 Z8 s4 rfl oM oM) <| Xf (Zx (f := u64) (l' := [x0 + y0, x1 + y1, x2 + y2, 0, 0]) rfl Xa Z8 rfl rfl hm10.h0 (by simp) (.inl (Nat.zero_le _))) ?_
 rintro _ w11 uq11
 have hm11 := hm10.upd0 uq11
 refine Zz (Qn ?_)
 refine CW.abs (fun g => g 0 = (agg u64 ([x0, x1, x2, x3, x4])) ∧ g 1 = (agg u64 ([y0, y1, y2, y3, y4])) ∧ g 2 = (ptr b2 0) ∧ g 3 = (ptr b3 0) ∧ g 4 = (ptr b4 0) ∧ g 5 = (i64 2) ∧ g 6 = (i64 2) ∧ g 7 = (bl true) ∧ True) ⟨s0, s1, s2, s3, s4, rfl, rfl, rfl, trivial⟩ ?_
 rintro fr12 ⟨s0, s1, s2, s3, s4, s5, s6, s7, _⟩
 refine Qg <| Qb (v := (i64 3)) rfl (Qk (a := 2) (b := 1) s6 rfl oM oM) <| Qb rfl (Qc (v := (i64 3)) rfl) ?_
 refine rN (Zu (sR ?_))
 refine Qb rfl (Qs (a := 3) (b := 5) rfl rfl) ?_
 refine rN (Qh ?_)
 refine Zf rfl (by decide) ?_
 refine Zc (Qi (Qh (Qv (sR ?_))))
 refine Qb rfl (Qc (v := (i64 3)) rfl) <| Qb rfl (Qd (v := (i64 3)) rfl) <| rN <| Yc [(0, false), (1, false), (2, false), (3, false), (4, false), (5, false), (6, false), (7, false)] 8 (by kernel_rfl) <| Qw rfl rfl (fun _ _hx => Qc (v := (i64 3)) rfl) <| Qw rfl rfl (fun _ _hx => Qc (v := (i64 3)) rfl) <| Qw rfl rfl (fun _ _hx => Qm (r := 3) (i := 3) oM Z7 Z8 s2 rfl oM oM) <| Qw (v := (u64 x3)) rfl rfl (fun _ _hx => Qy X0 rfl rfl (hm11.ext _hx).h2 (Zm _ _ 0 (by simp))) <| Qw rfl rfl (fun _ _hx => Qc (v := (i64 3)) rfl) <| Qw rfl rfl (fun _ _hx => Qm (r := 3) (i := 3) oM Z7 Z8 s3 rfl oM oM) <| Qw (v := (u64 y3)) rfl rfl (fun _ _hx => Qy X0 rfl rfl (hm11.ext _hx).h1 (Zm _ _ 0 (by simp))) <| Qw rfl rfl (fun _ _hx => Ym rfl rfl) ?_
 refine X3 (fun w13 _ew13 => ?_)
 have hm13 := hm11.ext _ew13
 refine Qb rfl (Qm (r := 3) (i := 3) oM Z7 Z8 s4 rfl oM oM) <| Xf (Zx (f := u64) (l' := [x0 + y0, x1 + y1, x2 + y2, x3 + y3, 0]) rfl Xa Z8 rfl rfl hm13.h0 (by simp) (.inl (Nat.zero_le _))) ?_
 rintro _ w14 uq14
 have hm14 := hm13.upd0 uq14
 refine Zz (Qn ?_)
 refine CW.abs (fun g => g 0 = (agg u64 ([x0, x1, x2, x3, x4])) ∧ g 1 = (agg u64 ([y0, y1, y2, y3, y4])) ∧ g 2 = (ptr b2 0) ∧ g 3 = (ptr b3 0) ∧ g 4 = (ptr b4 0) ∧ g 5 = (i64 3) ∧ g 6 = (i64 3) ∧ g 7 = (bl true) ∧ True) ⟨s0, s1, s2, s3, s4, rfl, rfl, rfl, trivial⟩ ?_
 rintro fr15 ⟨s0, s1, s2, s3, s4, s5, s6, s7, _⟩
 refine Qg <| Qb (v := (i64 4)) rfl (Qk (a := 3) (b := 1) s6 rfl oM oM) <| Qb rfl (Qc (v := (i64 4)) rfl) ?_
 refine rN (Zu (sR ?_))
 refine Qb rfl (Qs (a := 4) (b := 5) rfl rfl) ?_
 refine rN (Qh ?_)
 refine Zf rfl (by decide) ?_
 refine Zc (Qi (Qh (Qv (sR ?_))))
 refine Qb rfl (Qc (v := (i64 4)) rfl) <| Qb rfl (Qd (v := (i64 4)) rfl) <| rN <| Yc [(0, false), (1, false), (2, false), (3, false), (4, false), (5, false), (6, false), (7, false)] 8 (by kernel_rfl) <| Qw rfl rfl (fun _ _hx => Qc (v := (i64 4)) rfl) <| Qw rfl rfl (fun _ _hx => Qc (v := (i64 4)) rfl) <| Qw rfl rfl (fun _ _hx => Qm (r := 4) (i := 4) oM Z7 Z8 s2 rfl oM oM) <| Qw (v := (u64 x4)) rfl rfl (fun _ _hx => Qy X0 rfl rfl (hm14.ext _hx).h2 (Zm _ _ 0 (by simp))) <| Qw rfl rfl (fun _ _hx => Qc (v := (i64 4)) rfl) <| Qw rfl rfl (fun _ _hx => Qm (r := 4) (i := 4) oM Z7 Z8 s3 rfl oM oM) <| Qw (v := (u64 y4)) rfl rfl (fun _ _hx => Qy X0 rfl rfl (hm14.ext _hx).h1 (Zm _ _ 0 (by simp))) <| Qw rfl rfl (fun _ _hx => Ym rfl rfl) ?_
 refine X3 (fun w16 _ew16 => ?_)
 have hm16 := hm14.ext _ew16
 refine Qb rfl (Qm (r := 4) (i := 4) oM Z7 Z8 s4 rfl oM oM) <| Xf (Zx (f := u64) (l' := [x0 + y0, x1 + y1, x2 + y2, x3 + y3, x4 + y4]) rfl Xa Z8 rfl rfl hm16.h0 (by simp) (.inl (Nat.zero_le _))) ?_
 rintro _ w17 uq17
 have hm17 := hm16.upd0 uq17
 refine Zz (Qn ?_)
 refine CW.abs (fun g => g 0 = (agg u64 ([x0, x1, x2, x3, x4])) ∧ g 1 = (agg u64 ([y0, y1, y2, y3, y4])) ∧ g 2 = (ptr b2 0) ∧ g 3 = (ptr b3 0) ∧ g 4 = (ptr b4 0) ∧ g 5 = (i64 4) ∧ g 6 = (i64 4) ∧ g 7 = (bl true) ∧ True) ⟨s0, s1, s2, s3, s4, rfl, rfl, rfl, trivial⟩ ?_
 rintro fr18 ⟨s0, s1, s2, s3, s4, s5, s6, s7, _⟩
 refine Qg <| Qb (v := (i64 5)) rfl (Qk (a := 4) (b := 1) s6 rfl oM oM) <| Qb rfl (Qc (v := (i64 5)) rfl) ?_
 refine rN (Zu (sR ?_))
 refine Qb rfl (Qs (a := 5) (b := 5) rfl rfl) ?_
 refine rN (Qh ?_)
 refine Yt rfl (by decide) <| Yb ?_
 refine Zb (Zb (Xw ?_))
 refine sR <| Qb (v := (agg u64 ([x0 + y0, x1 + y1, x2 + y2, x3 + y3, x4 + y4]))) rfl (Z9 Z7 rfl Xm s4 hm17.h0 sZ) <| Zo rfl (Qx Tryd.func101 bd101 nm101 (Ye rfl) (Qcc ([x0 + y0, x1 + y1, x2 + y2, x3 + y3, x4 + y4]) _ sD)) ?_
 rintro _ w19 ⟨rfl, _ew19⟩
 have hm19 := hm17.ext _ew19
 refine Xf (Zl (f := u64) (l := Gz ([x0 + y0, x1 + y1, x2 + y2, x3 + y3, x4 + y4])) Xa Xm s4 rfl sD hm19.h0 sZ rfl) ?_
 rintro _ w21 uq21
 have hm21 := hm19.upd0 uq21
 refine rN (Xn ?_)
 refine Zj [(agg u64 (Gz ([x0 + y0, x1 + y1, x2 + y2, x3 + y3, x4 + y4])))] ⟨⟨_, s4, X6 Z7 rfl Xm hm21.h0 sZ⟩, trivial⟩ ?_
 exact ⟨rfl, hm21.toExt⟩
theorem Qcb (a b : List (BitVec 64)) (w0 : World)  (ha : a.length = 5) (hb : b.length = 5) : X8 Tryd.prog 98 #[(agg u64 a), (agg u64 b)] w0 (fun r w1 => r = (agg u64 (Ql a b)) ∧ Ext w0 w1) := by
 refine Zp (args := [(agg u64 a), (agg u64 b)]) Tryd.func98 rfl Tryd.ntmps98 Tryd.results98 rfl ?_
 have hm0 : Mem w0 (Qo w0) [] := Mem.of_world w0
 obtain ⟨x0, x1, x2, x3, x4, rfl⟩ := Qcu a ha
 obtain ⟨y0, y1, y2, y3, y4, rfl⟩ := Qcu b hb
 refine sR <| Zo rfl (X4 (f := u64) (l := [x0, x1, x2, x3, x4]) hm0 rfl) ?_
 rintro _ w1 ⟨b2, rfl, _ew1, hm1⟩
 refine Zo rfl (X4 (f := u64) (l := [y0, y1, y2, y3, y4]) hm1 rfl) ?_
 rintro _ w2 ⟨b3, rfl, _ew2, hm2⟩
 refine Zo rfl (Zy hm2 Xm) ?_
 rintro _ w3 ⟨b4, rfl, _ew3, hm3⟩
 refine rN (Qh (sR ?_))
 refine Qb rfl (Qc (v := (i64 0)) rfl) ?_
 refine rN (Qv ?_)
 refine Jw 6 ?_
 refine Zu (sR ?_)
 refine Qb rfl (Qs (a := 0) (b := 5) rfl rfl) ?_
 refine rN (Qh ?_)
 refine Zf rfl (by decide) ?_
 refine Zc (Qi (Qh (Qv (sR ?_))))
 refine Qb rfl (Qc (v := (i64 0)) rfl) <| Qb rfl (Qd (v := (i64 0)) rfl) <| rN <| Yc [(0, false), (1, false), (2, false), (3, false), (4, false), (5, false), (6, false), (7, false), (8, false)] 9 (by kernel_rfl) <| Qw rfl rfl (fun _ _hx => Qc (v := (i64 0)) rfl) <| Qw rfl rfl (fun _ _hx => Qc (v := (i64 0)) rfl) <| Qw rfl rfl (fun _ _hx => Qm (r := 0) (i := 0) oM Z7 Z8 rfl rfl oM oM) <| Qw (v := (u64 x0)) rfl rfl (fun _ _hx => Qy X0 rfl rfl (hm3.ext _hx).h2 (Zm _ _ 0 (by simp))) <| Qw rfl rfl (fun _ _hx => Ym (b := 4503599627370494#64) rfl rfl) <| Qw rfl rfl (fun _ _hx => Qc (v := (i64 0)) rfl) <| Qw rfl rfl (fun _ _hx => Qm (r := 0) (i := 0) oM Z7 Z8 rfl rfl oM oM) <| Qw (v := (u64 y0)) rfl rfl (fun _ _hx => Qy X0 rfl rfl (hm3.ext _hx).h1 (Zm _ _ 0 (by simp))) ?_
 refine Qw rfl rfl (fun _ _hx => U8 rfl rfl) ?_
 refine X3 (fun w4 _ew4 => ?_)
 have hm4 := hm3.ext _ew4
 refine Qb rfl (Qm (r := 0) (i := 0) oM Z7 Z8 rfl rfl oM oM) <| Xf (Zx (f := u64) (l' := [(x0 + 4503599627370494#64) - y0, 0, 0, 0, 0]) rfl Xa Z8 rfl rfl hm4.h0 (by simp) (.inl (Nat.zero_le _))) ?_
 rintro _ w5 uq5
 have hm5 := hm4.upd0 uq5
 refine Zz (Qn ?_)
 refine CW.abs (fun g => g 0 = (agg u64 ([x0, x1, x2, x3, x4])) ∧ g 1 = (agg u64 ([y0, y1, y2, y3, y4])) ∧ g 2 = (ptr b2 0) ∧ g 3 = (ptr b3 0) ∧ g 4 = (ptr b4 0) ∧ g 5 = (i64 0) ∧ g 6 = (i64 0) ∧ g 7 = (bl true) ∧ True) ⟨rfl, rfl, rfl, rfl, rfl, rfl, rfl, rfl, trivial⟩ ?_
 rintro fr6 ⟨s0, s1, s2, s3, s4, s5, s6, s7, _⟩
 refine Qg <| Qb (v := (i64 1)) rfl (Qk (a := 0) (b := 1) s6 rfl oM oM) <| Qb rfl (Qc (v := (i64 1)) rfl) ?_
 refine rN (Zu (sR ?_))
 refine Qb rfl (Qs (a := 1) (b := 5) rfl rfl) ?_
 refine rN (Qh ?_)
 refine Zf rfl (by decide) ?_
 refine Zc (Qi (Qh (Qv (sR ?_))))
 refine Qb rfl (Qc (v := (i64 1)) rfl) <| Qb rfl (Qd (v := (i64 1)) rfl) <| rN <| Yc [(0, false), (1, false), (2, false), (3, false), (4, false), (5, false), (6, false), (7, false), (8, false)] 9 (by kernel_rfl) <| Qw rfl rfl (fun _ _hx => Qc (v := (i64 1)) rfl) <| Qw rfl rfl (fun _ _hx => Qc (v := (i64 1)) rfl) <| Qw rfl rfl (fun _ _hx => Qm (r := 1) (i := 1) oM Z7 Z8 s2 rfl oM oM) <| Qw (v := (u64 x1)) rfl rfl (fun _ _hx => Qy X0 rfl rfl (hm5.ext _hx).h2 (Zm _ _ 0 (by simp))) <| Qw rfl rfl (fun _ _hx => Ym (b := 4503599627370494#64) rfl rfl) <| Qw rfl rfl (fun _ _hx => Qc (v := (i64 1)) rfl) <| Qw rfl rfl (fun _ _hx => Qm (r := 1) (i := 1) oM Z7 Z8 s3 rfl oM oM) <| Qw (v := (u64 y1)) rfl rfl (fun _ _hx => Qy X0 rfl rfl (hm5.ext _hx).h1 (Zm _ _ 0 (by simp))) ?_
 refine Qw rfl rfl (fun _ _hx => U8 rfl rfl) ?_
 refine X3 (fun w7 _ew7 => ?_)
 have hm7 := hm5.ext _ew7
 refine Qb rfl (Qm (r := 1) (i := 1) oM Z7 Z8 s4 rfl oM oM) <| Xf (Zx (f := u64) (l' := [(x0 + 4503599627370494#64) - y0, (x1 + 4503599627370494#64) - y1, 0, 0, 0]) rfl Xa Z8 rfl rfl hm7.h0 (by simp) (.inl (Nat.zero_le _))) ?_
 rintro _ w8 uq8
 have hm8 := hm7.upd0 uq8
 refine Zz (Qn ?_)
 refine CW.abs (fun g => g 0 = (agg u64 ([x0, x1, x2, x3, x4])) ∧ g 1 = (agg u64 ([y0, y1, y2, y3, y4])) ∧ g 2 = (ptr b2 0) ∧ g 3 = (ptr b3 0) ∧ g 4 = (ptr b4 0) ∧ g 5 = (i64 1) ∧ g 6 = (i64 1) ∧ g 7 = (bl true) ∧ True) ⟨s0, s1, s2, s3, s4, rfl, rfl, rfl, trivial⟩ ?_
 rintro fr9 ⟨s0, s1, s2, s3, s4, s5, s6, s7, _⟩
 refine Qg <| Qb (v := (i64 2)) rfl (Qk (a := 1) (b := 1) s6 rfl oM oM) <| Qb rfl (Qc (v := (i64 2)) rfl) ?_
 refine rN (Zu (sR ?_))
 refine Qb rfl (Qs (a := 2) (b := 5) rfl rfl) ?_
 refine rN (Qh ?_)
 refine Zf rfl (by decide) ?_
 refine Zc (Qi (Qh (Qv (sR ?_))))
 refine Qb rfl (Qc (v := (i64 2)) rfl) <| Qb rfl (Qd (v := (i64 2)) rfl) <| rN <| Yc [(0, false), (1, false), (2, false), (3, false), (4, false), (5, false), (6, false), (7, false), (8, false)] 9 (by kernel_rfl) <| Qw rfl rfl (fun _ _hx => Qc (v := (i64 2)) rfl) <| Qw rfl rfl (fun _ _hx => Qc (v := (i64 2)) rfl) <| Qw rfl rfl (fun _ _hx => Qm (r := 2) (i := 2) oM Z7 Z8 s2 rfl oM oM) <| Qw (v := (u64 x2)) rfl rfl (fun _ _hx => Qy X0 rfl rfl (hm8.ext _hx).h2 (Zm _ _ 0 (by simp))) <| Qw rfl rfl (fun _ _hx => Ym (b := 4503599627370494#64) rfl rfl) <| Qw rfl rfl (fun _ _hx => Qc (v := (i64 2)) rfl) <| Qw rfl rfl (fun _ _hx => Qm (r := 2) (i := 2) oM Z7 Z8 s3 rfl oM oM) <| Qw (v := (u64 y2)) rfl rfl (fun _ _hx => Qy X0 rfl rfl (hm8.ext _hx).h1 (Zm _ _ 0 (by simp))) ?_
 refine Qw rfl rfl (fun _ _hx => U8 rfl rfl) ?_
 refine X3 (fun w10 _ew10 => ?_)
 have hm10 := hm8.ext _ew10
 refine Qb rfl (Qm (r := 2) (i := 2) oM Z7 Z8 s4 rfl oM oM) <| Xf (Zx (f := u64) (l' := [(x0 + 4503599627370494#64) - y0, (x1 + 4503599627370494#64) - y1, (x2 + 4503599627370494#64) - y2, 0, 0]) rfl Xa Z8 rfl rfl hm10.h0 (by simp) (.inl (Nat.zero_le _))) ?_
 rintro _ w11 uq11
 have hm11 := hm10.upd0 uq11
 refine Zz (Qn ?_)
 refine CW.abs (fun g => g 0 = (agg u64 ([x0, x1, x2, x3, x4])) ∧ g 1 = (agg u64 ([y0, y1, y2, y3, y4])) ∧ g 2 = (ptr b2 0) ∧ g 3 = (ptr b3 0) ∧ g 4 = (ptr b4 0) ∧ g 5 = (i64 2) ∧ g 6 = (i64 2) ∧ g 7 = (bl true) ∧ True) ⟨s0, s1, s2, s3, s4, rfl, rfl, rfl, trivial⟩ ?_
 rintro fr12 ⟨s0, s1, s2, s3, s4, s5, s6, s7, _⟩
 refine Qg <| Qb (v := (i64 3)) rfl (Qk (a := 2) (b := 1) s6 rfl oM oM) <| Qb rfl (Qc (v := (i64 3)) rfl) ?_
 refine rN (Zu (sR ?_))
 refine Qb rfl (Qs (a := 3) (b := 5) rfl rfl) ?_
 refine rN (Qh ?_)
 refine Zf rfl (by decide) ?_
 refine Zc (Qi (Qh (Qv (sR ?_))))
 refine Qb rfl (Qc (v := (i64 3)) rfl) <| Qb rfl (Qd (v := (i64 3)) rfl) <| rN <| Yc [(0, false), (1, false), (2, false), (3, false), (4, false), (5, false), (6, false), (7, false), (8, false)] 9 (by kernel_rfl) <| Qw rfl rfl (fun _ _hx => Qc (v := (i64 3)) rfl) <| Qw rfl rfl (fun _ _hx => Qc (v := (i64 3)) rfl) <| Qw rfl rfl (fun _ _hx => Qm (r := 3) (i := 3) oM Z7 Z8 s2 rfl oM oM) <| Qw (v := (u64 x3)) rfl rfl (fun _ _hx => Qy X0 rfl rfl (hm11.ext _hx).h2 (Zm _ _ 0 (by simp))) <| Qw rfl rfl (fun _ _hx => Ym (b := 4503599627370494#64) rfl rfl) <| Qw rfl rfl (fun _ _hx => Qc (v := (i64 3)) rfl) <| Qw rfl rfl (fun _ _hx => Qm (r := 3) (i := 3) oM Z7 Z8 s3 rfl oM oM) <| Qw (v := (u64 y3)) rfl rfl (fun _ _hx => Qy X0 rfl rfl (hm11.ext _hx).h1 (Zm _ _ 0 (by simp))) ?_
 refine Qw rfl rfl (fun _ _hx => U8 rfl rfl) ?_
 refine X3 (fun w13 _ew13 => ?_)
 have hm13 := hm11.ext _ew13
 refine Qb rfl (Qm (r := 3) (i := 3) oM Z7 Z8 s4 rfl oM oM) <| Xf (Zx (f := u64) (l' := [(x0 + 4503599627370494#64) - y0, (x1 + 4503599627370494#64) - y1, (x2 + 4503599627370494#64) - y2, (x3 + 4503599627370494#64) - y3, 0]) rfl Xa Z8 rfl rfl hm13.h0 (by simp) (.inl (Nat.zero_le _))) ?_
 rintro _ w14 uq14
 have hm14 := hm13.upd0 uq14
 refine Zz (Qn ?_)
 refine CW.abs (fun g => g 0 = (agg u64 ([x0, x1, x2, x3, x4])) ∧ g 1 = (agg u64 ([y0, y1, y2, y3, y4])) ∧ g 2 = (ptr b2 0) ∧ g 3 = (ptr b3 0) ∧ g 4 = (ptr b4 0) ∧ g 5 = (i64 3) ∧ g 6 = (i64 3) ∧ g 7 = (bl true) ∧ True) ⟨s0, s1, s2, s3, s4, rfl, rfl, rfl, trivial⟩ ?_
 rintro fr15 ⟨s0, s1, s2, s3, s4, s5, s6, s7, _⟩
 refine Qg <| Qb (v := (i64 4)) rfl (Qk (a := 3) (b := 1) s6 rfl oM oM) <| Qb rfl (Qc (v := (i64 4)) rfl) ?_
 refine rN (Zu (sR ?_))
 refine Qb rfl (Qs (a := 4) (b := 5) rfl rfl) ?_
 refine rN (Qh ?_)
 refine Zf rfl (by decide) ?_
 refine Zc (Qi (Qh (Qv (sR ?_))))
 refine Qb rfl (Qc (v := (i64 4)) rfl) <| Qb rfl (Qd (v := (i64 4)) rfl) <| rN <| Yc [(0, false), (1, false), (2, false), (3, false), (4, false), (5, false), (6, false), (7, false), (8, false)] 9 (by kernel_rfl) <| Qw rfl rfl (fun _ _hx => Qc (v := (i64 4)) rfl) <| Qw rfl rfl (fun _ _hx => Qc (v := (i64 4)) rfl) <| Qw rfl rfl (fun _ _hx => Qm (r := 4) (i := 4) oM Z7 Z8 s2 rfl oM oM) <| Qw (v := (u64 x4)) rfl rfl (fun _ _hx => Qy X0 rfl rfl (hm14.ext _hx).h2 (Zm _ _ 0 (by simp))) <| Qw rfl rfl (fun _ _hx => Ym (b := 4503599627370494#64) rfl rfl) <| Qw rfl rfl (fun _ _hx => Qc (v := (i64 4)) rfl) <| Qw rfl rfl (fun _ _hx => Qm (r := 4) (i := 4) oM Z7 Z8 s3 rfl oM oM) <| Qw (v := (u64 y4)) rfl rfl (fun _ _hx => Qy X0 rfl rfl (hm14.ext _hx).h1 (Zm _ _ 0 (by simp))) ?_
 refine Qw rfl rfl (fun _ _hx => U8 rfl rfl) ?_
 refine X3 (fun w16 _ew16 => ?_)
 have hm16 := hm14.ext _ew16
 refine Qb rfl (Qm (r := 4) (i := 4) oM Z7 Z8 s4 rfl oM oM) <| Xf (Zx (f := u64) (l' := [(x0 + 4503599627370494#64) - y0, (x1 + 4503599627370494#64) - y1, (x2 + 4503599627370494#64) - y2, (x3 + 4503599627370494#64) - y3, (x4 + 4503599627370494#64) - y4]) rfl Xa Z8 rfl rfl hm16.h0 (by simp) (.inl (Nat.zero_le _))) ?_
 rintro _ w17 uq17
 have hm17 := hm16.upd0 uq17
 refine Zz (Qn ?_)
 refine CW.abs (fun g => g 0 = (agg u64 ([x0, x1, x2, x3, x4])) ∧ g 1 = (agg u64 ([y0, y1, y2, y3, y4])) ∧ g 2 = (ptr b2 0) ∧ g 3 = (ptr b3 0) ∧ g 4 = (ptr b4 0) ∧ g 5 = (i64 4) ∧ g 6 = (i64 4) ∧ g 7 = (bl true) ∧ True) ⟨s0, s1, s2, s3, s4, rfl, rfl, rfl, trivial⟩ ?_
 rintro fr18 ⟨s0, s1, s2, s3, s4, s5, s6, s7, _⟩
 refine Qg <| Qb (v := (i64 5)) rfl (Qk (a := 4) (b := 1) s6 rfl oM oM) <| Qb rfl (Qc (v := (i64 5)) rfl) ?_
 refine rN (Zu (sR ?_))
 refine Qb rfl (Qs (a := 5) (b := 5) rfl rfl) ?_
 refine rN (Qh ?_)
 refine Yt rfl (by decide) <| Yb ?_
 refine Zb (Zb (Xw ?_))
 refine sR <| Qb rfl (Qm (r := 0) (i := 0) oM Z7 Z8 s4 rfl oM oM) <| Qb (v := (u64 ((x0 + 4503599627370494#64) - y0))) rfl (Qy X0 rfl rfl hm17.h0 (Zm _ _ 0 (by simp))) <| Qb rfl (U8 (b := 36#64) rfl rfl) <| Qb rfl (Qm (r := 0) (i := 0) oM Z7 Z8 s4 rfl oM oM) <| Xf (Zx (f := u64) (l' := [((x0 + 4503599627370494#64) - y0) - 36#64, (x1 + 4503599627370494#64) - y1, (x2 + 4503599627370494#64) - y2, (x3 + 4503599627370494#64) - y3, (x4 + 4503599627370494#64) - y4]) rfl Xa Z8 rfl rfl hm17.h0 (by simp) (.inl (Nat.zero_le _))) ?_
 rintro _ w19 uq19
 have hm19 := hm17.upd0 uq19
 refine rN (sR ?_)
 refine Qb (v := (agg u64 ([((x0 + 4503599627370494#64) - y0) - 36#64, (x1 + 4503599627370494#64) - y1, (x2 + 4503599627370494#64) - y2, (x3 + 4503599627370494#64) - y3, (x4 + 4503599627370494#64) - y4]))) rfl (Z9 Z7 rfl Xm s4 hm19.h0 sZ) <| Zo rfl (Qx Tryd.func101 bd101 nm101 (Ye rfl) (Qcc ([((x0 + 4503599627370494#64) - y0) - 36#64, (x1 + 4503599627370494#64) - y1, (x2 + 4503599627370494#64) - y2, (x3 + 4503599627370494#64) - y3, (x4 + 4503599627370494#64) - y4]) _ sD)) ?_
 rintro _ w20 ⟨rfl, _ew20⟩
 have hm20 := hm19.ext _ew20
 refine Xf (Zl (f := u64) (l := Gz ([((x0 + 4503599627370494#64) - y0) - 36#64, (x1 + 4503599627370494#64) - y1, (x2 + 4503599627370494#64) - y2, (x3 + 4503599627370494#64) - y3, (x4 + 4503599627370494#64) - y4])) Xa Xm s4 rfl sD hm20.h0 sZ rfl) ?_
 rintro _ w22 uq22
 have hm22 := hm20.upd0 uq22
 refine rN (Xn ?_)
 refine Zj [(agg u64 (Gz ([((x0 + 4503599627370494#64) - y0) - 36#64, (x1 + 4503599627370494#64) - y1, (x2 + 4503599627370494#64) - y2, (x3 + 4503599627370494#64) - y3, (x4 + 4503599627370494#64) - y4])))] ⟨⟨_, s4, X6 Z7 rfl Xm hm22.h0 sZ⟩, trivial⟩ ?_
 exact ⟨rfl, hm22.toExt⟩
set_option maxHeartbeats 1000000 in
theorem Gh (a b : List (BitVec 64)) (w0 : World)  (ha : a.length = 5) (hb : b.length = 5) : X8 Tryd.prog 81 #[(agg u64 a), (agg u64 b)] w0 (fun r w1 => r = (agg u64 (Qe a b)) ∧ Ext w0 w1) := by
 refine Zp (args := [(agg u64 a), (agg u64 b)]) Tryd.func81 rfl Tryd.ntmps81 Tryd.results81 rfl ?_
 have hm0 : Mem w0 (Qo w0) [] := Mem.of_world w0
 refine sR <| Zo rfl (X4 (f := u64) (l := a) hm0 rfl) ?_
 rintro _ w1 ⟨b2, rfl, _ew1, hm1⟩
 refine Zo rfl (X4 (f := u64) (l := b) hm1 rfl) ?_
 rintro _ w2 ⟨b3, rfl, _ew2, hm2⟩
 refine Zo rfl (Zy hm2 Xm) ?_
 rintro _ w3 ⟨b4, rfl, _ew3, hm3⟩
 refine rN (sR ?_)
 refine Zo rfl (Zy hm3 ti147) ?_
 rintro _ w4 ⟨b5, rfl, _ew4, hm4⟩
 refine rN (Qh (sR ?_))
 refine Qb (v := (agg u64 a)) rfl (Z9 Z7 rfl Xm rfl hm4.h3 sZ) <| Qb rfl (Qc (v := (i64 0)) rfl) ?_
 refine rN (Qv ?_)
 refine Jg (fun g wv => ∃ (i : Nat) (wl : List (BitVec 64)), (i ≤ 5) ∧ (wl = Qd4 a b i) ∧ g 0 = (agg u64 a) ∧ g 1 = (agg u64 b) ∧ g 2 = (ptr b2 0) ∧ g 3 = (ptr b3 0) ∧ g 4 = (ptr b4 0) ∧ g 5 = (ptr b5 0) ∧ g 17 = (agg u64 a) ∧ g 18 = (i64 (i : Int)) ∧ Mem wv (Qo w0) [(b5, .cells (cl u64 wl) 147 (0, 0)), (b4, .cells (cl u64 (List.replicate 5 0)) 126 (0, 0)), (b3, .cells (cl u64 b) 126 (0, 0)), (b2, .cells (cl u64 a) 126 (0, 0))]) (fun g wv => (5 - RowKit.intOf (g 18)).toNat) ?_ ?_
 · exact ⟨0, (List.replicate 10 0), oM, rfl, rfl, rfl, rfl, rfl, rfl, rfl, rfl, rfl, hm4⟩
 · rintro fr5 w6 ⟨i, wl, hi, hw, s0, s1, s2, s3, s4, s5, s17, s18, hm6⟩
   have z18 := s18
   have hwl : wl.length = 10 := by rw [hw, Qev]
   refine sR <| Qb rfl (Qs (b := 5) s18 rfl) ?_
   refine rN (Qh ?_)
   refine Xy rfl (fun hc7 => ?_) (fun hc7 => ?_)
   ·
     have hc7p := of_decide_eq_true hc7
     refine Zc (Qi (Qh (Qv (sR ?_))))
     refine rM rfl s18 <| Qb (v := (u64 (a.getD i 0))) rfl (Yn Z7 X0 rfl Z8 s17 s18 oM sD (Zm _ _ 0 sD)) <| Qb rfl (Qd (v := (i64 (i : Int))) rfl) <| Qb rfl (Qd (v := (u64 (a.getD i 0))) rfl) ?_
     refine rN (sR ?_)
     refine Qb (v := (agg u64 b)) rfl (Z9 Z7 rfl Xm s3 hm6.h2 sZ) <| Qb rfl (Qc (v := (i64 0)) rfl) ?_
     refine rN (Uo ?_)
     refine Jg (fun g wv => ∃ (k : Nat) (wk : List (BitVec 64)), (k ≤ 5) ∧ (wk = Lu a b i wl k) ∧ g 0 = (agg u64 a) ∧ g 1 = (agg u64 b) ∧ g 2 = (ptr b2 0) ∧ g 3 = (ptr b3 0) ∧ g 4 = (ptr b4 0) ∧ g 5 = (ptr b5 0) ∧ g 6 = (i64 (i : Int)) ∧ g 7 = (u64 (a.getD i 0)) ∧ g 17 = (agg u64 a) ∧ g 18 = (i64 (i : Int)) ∧ g 19 = (bl (decide ((i : Int) < 5))) ∧ g 22 = (agg u64 b) ∧ g 23 = (i64 (k : Int)) ∧ Mem wv (Qo w0) [(b5, .cells (cl u64 wk) 147 (0, 0)), (b4, .cells (cl u64 (List.replicate 5 0)) 126 (0, 0)), (b3, .cells (cl u64 b) 126 (0, 0)), (b2, .cells (cl u64 a) 126 (0, 0))]) (fun g wv => (5 - RowKit.intOf (g 23)).toNat) ?_ ?_
     · exact ⟨0, wl, oM, rfl, s0, s1, s2, s3, s4, s5, rfl, rfl, s17, s18, rfl, rfl, rfl, hm6⟩
     · rintro fr8 w9 ⟨k, wk, hk, hwk, s0, s1, s2, s3, s4, s5, s6, s7, s17, s18, s19, s22, s23, hm9⟩
       have z23 := s23
       have hwkl : wk.length = 10 := by rw [hwk, Tm, hwl]
       refine sR <| Qb rfl (Qs (b := 5) s23 rfl) ?_
       refine rN (Qh ?_)
       refine Xy rfl (fun hc10 => ?_) (fun hc10 => ?_)
       ·
         have hc10p := of_decide_eq_true hc10
         refine Zc (Qi (Qh (Qv (sR ?_))))
         refine rM rfl s23 <| Qb (v := (u64 (b.getD k 0))) rfl (Yn Z7 X0 rfl Z8 s22 s23 oM sD (Zm _ _ 0 sD)) <| Qb rfl (Qd (v := (i64 (k : Int))) rfl) <| Qb rfl (Qd (v := (u64 (b.getD k 0))) rfl) ?_
         refine rN (sR ?_)
         refine rM rfl s6 <| Qb rfl (Qc (v := (i64 (k : Int))) rfl) <| Qb rfl (Ja.cast (congrArg i64 (show (i : Int) + (k : Int) = ((i + k : Nat) : Int) by omega)) (Qk rfl rfl oM oM)) <| Qb rfl (Qd (v := (i64 ((i + k : Nat) : Int))) rfl) ?_
         refine rN (sR ?_)
         refine Qb rfl (Qc (v := (i64 ((i + k : Nat) : Int))) rfl) <| Qb rfl (Qs (b := 5) rfl rfl) <| rN ?_
         refine CW.abs (fun g => g 0 = (agg u64 a) ∧ g 1 = (agg u64 b) ∧ g 2 = (ptr b2 0) ∧ g 3 = (ptr b3 0) ∧ g 4 = (ptr b4 0) ∧ g 5 = (ptr b5 0) ∧ g 6 = (i64 (i : Int)) ∧ g 7 = (u64 (a.getD i 0)) ∧ g 8 = (i64 (k : Int)) ∧ g 9 = (u64 (b.getD k 0)) ∧ g 10 = (i64 ((i + k : Nat) : Int)) ∧ g 17 = (agg u64 a) ∧ g 18 = (i64 (i : Int)) ∧ g 19 = (bl (decide ((i : Int) < 5))) ∧ g 22 = (agg u64 b) ∧ g 23 = (i64 (k : Int)) ∧ g 24 = (bl (decide ((k : Int) < 5))) ∧ g 31 = (bl (decide (((i + k : Nat) : Int) < 5))) ∧ True) ⟨s0, s1, s2, s3, s4, s5, s6, s7, rfl, rfl, rfl, s17, s18, s19, s22, s23, rfl, rfl, trivial⟩ ?_
         rintro fr11 ⟨s0, s1, s2, s3, s4, s5, s6, s7, s8, s9, s10, s17, s18, s19, s22, s23, s24, s31, _⟩
         refine Xy s31 (fun hc12 => ?_) (fun hc12 => ?_)
         ·
           have hc12p := of_decide_eq_true hc12
           refine Qg <| rM rfl s10 <| Qb rfl (Qm (r := (i + k) * 2) oM uT147 Qez s5 rfl oM sD) <| rM rfl s7 <| rM rfl s9 ?_
           have hF14 : Mem w9 (Qo w0) ([(b5, .cells (cl u64 wk) 147 (0, 0))] ++ ([(b4, .cells (cl u64 (List.replicate 5 0)) 126 (0, 0)), (b3, .cells (cl u64 b) 126 (0, 0)), (b2, .cells (cl u64 a) 126 (0, 0))])) := hm9
           refine Zo rfl (Qx Tryd.func99 bd99 nm99 (Ad rfl rfl rfl) (c_wadd b5 ((i + k) * 2) wk (a.getD i 0) (b.getD k 0) _ _ (Mem.give hF14) sD)) ?_
           rintro _ w13 ⟨rfl, k_w13⟩
           have hm13 : Mem w13 (Qo w0) [(b5, .cells (cl u64 (F7 wk ((i + k) * 2) (a.getD i 0) (b.getD k 0))) 147 (0, 0)), (b4, .cells (cl u64 (List.replicate 5 0)) 126 (0, 0)), (b3, .cells (cl u64 b) 126 (0, 0)), (b2, .cells (cl u64 a) 126 (0, 0))] := Mem.back hF14 k_w13
           refine Zz (Qn (Qg ?_))
           refine Qb rfl (Qk (b := 1) s23 rfl oM oM) <| Qb rfl (Qc (v := (i64 ((k : Int) + 1))) rfl) <| rN ?_
           have hwn : F7 wk ((i + k) * 2) (a.getD i 0) (b.getD k 0) = Lu a b i wl (k + 1) := by rw [hwk]; exact Qha oM
           exact ⟨⟨k + 1, (F7 wk ((i + k) * 2) (a.getD i 0) (b.getD k 0)), oM, hwn, s0, s1, s2, s3, s4, s5, s6, s7, s17, s18, s19, s22, rfl, hm13⟩, Fj rfl z23 oM oM⟩
         ·
           have hc12p := of_decide_eq_false hc12
           refine Qg <| rM rfl s10 <| Qb rfl (Ja.cast (congrArg i64 (show ((i + k : Nat) : Int) - 5 = ((i + k - 5 : Nat) : Int) by omega)) (Yo (b := 5) rfl rfl oM oM)) <| Qb rfl (Qm (r := (i + k - 5) * 2) oM uT147 Qez s5 rfl oM sD) <| rM rfl s7 <| Qb rfl (Gs (a := 19#64) rfl rfl) <| rM rfl s9 ?_
           have hF17 : Mem w9 (Qo w0) ([(b5, .cells (cl u64 wk) 147 (0, 0))] ++ ([(b4, .cells (cl u64 (List.replicate 5 0)) 126 (0, 0)), (b3, .cells (cl u64 b) 126 (0, 0)), (b2, .cells (cl u64 a) 126 (0, 0))])) := hm9
           refine Zo rfl (Qx Tryd.func99 bd99 nm99 (Ad rfl rfl rfl) (c_wadd b5 ((i + k - 5) * 2) wk (19#64 * (a.getD i 0)) (b.getD k 0) _ _ (Mem.give hF17) sD)) ?_
           rintro _ w16 ⟨rfl, k_w16⟩
           have hm16 : Mem w16 (Qo w0) [(b5, .cells (cl u64 (F7 wk ((i + k - 5) * 2) (19#64 * (a.getD i 0)) (b.getD k 0))) 147 (0, 0)), (b4, .cells (cl u64 (List.replicate 5 0)) 126 (0, 0)), (b3, .cells (cl u64 b) 126 (0, 0)), (b2, .cells (cl u64 a) 126 (0, 0))] := Mem.back hF17 k_w16
           refine Zz (Qn (Qg ?_))
           refine Qb rfl (Qk (b := 1) s23 rfl oM oM) <| Qb rfl (Qc (v := (i64 ((k : Int) + 1))) rfl) <| rN ?_
           have hwn : F7 wk ((i + k - 5) * 2) (19#64 * (a.getD i 0)) (b.getD k 0) = Lu a b i wl (k + 1) := by rw [hwk]; exact Qhb oM
           exact ⟨⟨k + 1, (F7 wk ((i + k - 5) * 2) (19#64 * (a.getD i 0)) (b.getD k 0)), oM, hwn, s0, s1, s2, s3, s4, s5, s6, s7, s17, s18, s19, s22, rfl, hm16⟩, Fj rfl z23 oM oM⟩
       ·
         have hc10p := of_decide_eq_false hc10
         obtain rfl : k = 5 := by omega
         refine Yb ?_
         refine Zb (Zb (Xw ?_))
         refine Qn (Qg ?_)
         refine Qb rfl (Qk (b := 1) s18 rfl oM oM) <| Qb rfl (Qc (v := (i64 ((i : Int) + 1))) rfl) <| rN ?_
         have hwo : wk = Qd4 a b (i + 1) := by rw [hwk, hw]; rfl
         exact ⟨⟨i + 1, wk, oM, hwo, s0, s1, s2, s3, s4, s5, s17, rfl, hm9⟩, Fj rfl z18 oM oM⟩
   ·
     have hc7p := of_decide_eq_false hc7
     obtain rfl : i = 5 := by omega
     refine Yb ?_
     refine Zb (Zb (Xw ?_))
     refine sR <| Qb rfl (Qd (v := (u64 0#64)) rfl) ?_
     refine rN (Qh (sR ?_))
     refine Qb (v := (agg u64 wl)) rfl (Z9 uT147 rfl ti147 s5 hm6.h0 sZ) <| Qb rfl (Qc (v := (i64 0)) rfl) ?_
     refine rN (Qv ?_)
     refine Jg (fun g wv => ∃ (i : Nat), (i ≤ 5) ∧ g 0 = (agg u64 a) ∧ g 1 = (agg u64 b) ∧ g 2 = (ptr b2 0) ∧ g 3 = (ptr b3 0) ∧ g 4 = (ptr b4 0) ∧ g 5 = (ptr b5 0) ∧ g 11 = (u64 (Ul wl i)) ∧ g 17 = (agg u64 a) ∧ g 18 = (i64 (5 : Int)) ∧ g 19 = (bl (decide ((5 : Int) < 5))) ∧ g 46 = (agg u64 wl) ∧ g 47 = (i64 (i : Int)) ∧ Mem wv (Qo w0) [(b5, .cells (cl u64 wl) 147 (0, 0)), (b4, .cells (cl u64 (Jp (Gl wl) 0 5 i)) 126 (0, 0)), (b3, .cells (cl u64 b) 126 (0, 0)), (b2, .cells (cl u64 a) 126 (0, 0))]) (fun g wv => (5 - RowKit.intOf (g 47)).toNat) ?_ ?_
     · exact ⟨0, oM, s0, s1, s2, s3, s4, s5, rfl, s17, s18, rfl, rfl, rfl, (by rw [Ew]; exact hm6)⟩
     · rintro fr19 w20 ⟨i, hi, s0, s1, s2, s3, s4, s5, s11, s17, s18, s19, s46, s47, hm20⟩
       have z47 := s47
       have z11 := s11
       have hfl : (Jp (Gl wl) (0 : BitVec 64) 5 i).length = 5 := Em _ _ _ _ hi
       refine sR <| Qb rfl (Qs (b := 5) s47 rfl) ?_
       refine rN (Qh ?_)
       refine Xy rfl (fun hc21 => ?_) (fun hc21 => ?_)
       ·
         have hc21p := of_decide_eq_true hc21
         refine Zc (Qi (Qh (Qv (sR ?_))))
         refine rM rfl s47 <| Qb (v := (agg u64 ([wl.getD (i * 2) 0, wl.getD ((i * 2) + 1) 0]))) rfl (Qeo (l := wl) (i := ((i : Int) : Int)) 0 uT147 Qcf rfl Qez s46 s47 oM sD oM) <| Zo rfl (Jc hm20 Qez) ?_
         rintro _ w22 ⟨b13, rfl, _ew22, hm22⟩
         refine Qb rfl (Qd (v := (i64 (i : Int))) rfl) <| Xf (Zl (f := u64) (l := [wl.getD (i * 2) 0, wl.getD ((i * 2) + 1) 0]) Xa Qez rfl rfl sD hm22.h0 rfl rfl) ?_
         rintro _ w23 uq23
         have hm23 := hm22.upd0 uq23
         refine rN (sR ?_)
         refine Qb rfl (Zr (r := 1) Qcf rfl (by first | rfl | omega) Z8 rfl rfl) <| Qb (v := (u64 (wl.getD ((i * 2) + 1) 0))) rfl (Qy X0 rfl rfl hm23.h0 (Zm _ _ 0 (by simp))) <| rM rfl s11 <| Qb (v := (Value.tuple #[(u64 ((wl.getD ((i * 2) + 1) 0) + (Ul wl i) + 0#64)), (u64 (Vg (wl.getD ((i * 2) + 1) 0) (Ul wl i) 0#64))])) rfl (Qcz (a := (wl.getD ((i * 2) + 1) 0)) (b := (Ul wl i)) (c := 0#64) Tryd.func100 (by kernel_rfl) (by kernel_rfl) (by kernel_rfl) (by kernel_rfl) rfl rfl rfl (by first | decide | exact Qbl _ _ (by decide))) <| rM rfl rfl <| Qb (v := (u64 ((wl.getD ((i * 2) + 1) 0) + (Ul wl i) + 0#64))) rfl (Xu rfl rfl) <| Qb (v := (u64 (Vg (wl.getD ((i * 2) + 1) 0) (Ul wl i) 0#64))) rfl (Xu rfl rfl) <| Qb rfl (Qd (v := (u64 ((wl.getD ((i * 2) + 1) 0) + (Ul wl i) + 0#64))) rfl) <| Qb rfl (Qd (v := (u64 (Vg (wl.getD ((i * 2) + 1) 0) (Ul wl i) 0#64))) rfl) <| rN ?_
         refine CW.abs (fun g => g 0 = (agg u64 a) ∧ g 1 = (agg u64 b) ∧ g 2 = (ptr b2 0) ∧ g 3 = (ptr b3 0) ∧ g 4 = (ptr b4 0) ∧ g 5 = (ptr b5 0) ∧ g 11 = (u64 (Ul wl i)) ∧ g 12 = (i64 (i : Int)) ∧ g 13 = (ptr b13 0) ∧ g 14 = (u64 ((wl.getD ((i * 2) + 1) 0) + (Ul wl i) + 0#64)) ∧ g 15 = (u64 (Vg (wl.getD ((i * 2) + 1) 0) (Ul wl i) 0#64)) ∧ g 17 = (agg u64 a) ∧ g 18 = (i64 (5 : Int)) ∧ g 19 = (bl (decide ((5 : Int) < 5))) ∧ g 46 = (agg u64 wl) ∧ g 47 = (i64 (i : Int)) ∧ g 48 = (bl (decide ((i : Int) < 5))) ∧ True) ⟨s0, s1, s2, s3, s4, s5, s11, rfl, rfl, rfl, rfl, s17, s18, s19, s46, s47, rfl, trivial⟩ ?_
         rintro fr24 ⟨s0, s1, s2, s3, s4, s5, s11, s12, s13, s14, s15, s17, s18, s19, s46, s47, s48, _⟩
         refine sR <| Qb rfl (Zr (r := 0) Qcf rfl (by first | rfl | omega) Z8 rfl s13) <| Qb (v := (u64 (wl.getD (i * 2) 0))) rfl (Qy X0 rfl rfl hm23.h0 (Zm _ _ 0 (by simp))) <| rM rfl s15 <| Qb rfl (Ym rfl rfl) <| rA rfl rfl ?_
         refine rN (sR ?_)
         refine rM rfl s12 <| rM rfl s14 <| Qb rfl (Jq (b := 2251799813685247#64) rfl rfl) <| Qb rfl (Qm (r := i) oM Z7 Z8 s4 rfl oM sD) <| Xf (Yj (f := u64) (a := ((wl.getD ((i * 2) + 1) 0) + (Ul wl i) + 0#64) &&& 2251799813685247#64) Xa Z8 rfl rfl hm23.h2 sD (.inl (Nat.zero_le _))) ?_
         rintro _ w25 uq25
         have hm25 := hm23.upd2 uq25
         refine rN (Qg ?_)
         refine rM rfl rfl <| Qb rfl (V5 (b := 13) rfl rfl oM) <| rM rfl s14 <| Qb rfl (X7 (b := 51) rfl rfl oM) <| Qb rfl (Qdy rfl rfl) <| rA rfl rfl ?_
         refine Zz (Qn ?_)
         refine CW.abs (fun g => g 0 = (agg u64 a) ∧ g 1 = (agg u64 b) ∧ g 2 = (ptr b2 0) ∧ g 3 = (ptr b3 0) ∧ g 4 = (ptr b4 0) ∧ g 5 = (ptr b5 0) ∧ g 11 = (u64 ((((wl.getD (i * 2) 0) + (Vg (wl.getD ((i * 2) + 1) 0) (Ul wl i) 0#64)) <<< 13) ||| (((wl.getD ((i * 2) + 1) 0) + (Ul wl i) + 0#64) >>> 51))) ∧ g 12 = (i64 (i : Int)) ∧ g 13 = (ptr b13 0) ∧ g 14 = (u64 ((wl.getD ((i * 2) + 1) 0) + (Ul wl i) + 0#64)) ∧ g 15 = (u64 (Vg (wl.getD ((i * 2) + 1) 0) (Ul wl i) 0#64)) ∧ g 16 = (u64 ((wl.getD (i * 2) 0) + (Vg (wl.getD ((i * 2) + 1) 0) (Ul wl i) 0#64))) ∧ g 17 = (agg u64 a) ∧ g 18 = (i64 (5 : Int)) ∧ g 19 = (bl (decide ((5 : Int) < 5))) ∧ g 46 = (agg u64 wl) ∧ g 47 = (i64 (i : Int)) ∧ g 48 = (bl (decide ((i : Int) < 5))) ∧ True) ⟨s0, s1, s2, s3, s4, s5, rfl, s12, s13, s14, s15, rfl, s17, s18, s19, s46, s47, s48, trivial⟩ ?_
         rintro fr26 ⟨s0, s1, s2, s3, s4, s5, s11, s12, s13, s14, s15, s16, s17, s18, s19, s46, s47, s48, _⟩
         refine Qg <| Qb rfl (Qk (b := 1) s47 rfl oM oM) <| Qb rfl (Qc (v := (i64 ((i : Int) + 1))) rfl) <| rN ?_
         have hm27 := Mem.drop ([(b13, .cells (cl u64 ([wl.getD (i * 2) 0, wl.getD ((i * 2) + 1) 0])) 146 (0, 0))]) _ hm25
         exact ⟨⟨i + 1, oM, s0, s1, s2, s3, s4, s5, s11, s17, s18, s19, s46, rfl, (by rw [← Dy (Gl wl) (0 : BitVec 64) (n := 5) (k := i) oM _ rfl]; exact hm27)⟩, Fj rfl z47 oM oM⟩
       ·
         have hc21p := of_decide_eq_false hc21
         obtain rfl : i = 5 := by omega
         have hmF28 := hm20
         rw [filled5] at hmF28
         refine Yb ?_
         refine Zb (Zb (Xw ?_))
         refine sR <| Qb rfl (Qm (r := 0) (i := 0) oM Z7 Z8 s4 rfl oM oM) <| Qb (v := (u64 (Gl wl 0))) rfl (Qy X0 rfl rfl hmF28.h1 (Zm _ _ 0 (by simp))) <| rM rfl s11 <| Qb rfl (Jq (b := 2251799813685247#64) rfl rfl) <| Qb rfl (Gs (a := 19#64) rfl rfl) <| Qb rfl (Ym rfl rfl) <| Qb rfl (Qm (r := 0) (i := 0) oM Z7 Z8 s4 rfl oM oM) <| Xf (Zx (f := u64) (l' := [(Gl wl 0) + (19#64 * ((Ul wl 5) &&& 2251799813685247#64)), Gl wl 1, Gl wl 2, Gl wl 3, Gl wl 4]) rfl Xa Z8 rfl rfl hmF28.h1 (by simp) (.inl (Nat.zero_le _))) ?_
         rintro _ w29 uq29
         have hm29 := hmF28.upd1 uq29
         refine rN (sR ?_)
         refine Qb rfl (Qm (r := 1) (i := 1) oM Z7 Z8 s4 rfl oM oM) <| Qb (v := (u64 (Gl wl 1))) rfl (Qy X0 rfl rfl hm29.h1 (Zm _ _ 0 (by simp))) <| rM rfl s11 <| Qb rfl (X7 (b := 51) rfl rfl oM) <| Qb rfl (Gs (a := 19#64) rfl rfl) <| Qb rfl (Ym rfl rfl) <| Qb rfl (Qm (r := 1) (i := 1) oM Z7 Z8 s4 rfl oM oM) <| Xf (Zx (f := u64) (l' := [(Gl wl 0) + (19#64 * ((Ul wl 5) &&& 2251799813685247#64)), (Gl wl 1) + (19#64 * ((Ul wl 5) >>> 51)), Gl wl 2, Gl wl 3, Gl wl 4]) rfl Xa Z8 rfl rfl hm29.h1 (by simp) (.inl (Nat.zero_le _))) ?_
         rintro _ w30 uq30
         have hm30 := hm29.upd1 uq30
         refine rN ?_
         refine CW.abs (fun g => g 0 = (agg u64 a) ∧ g 1 = (agg u64 b) ∧ g 2 = (ptr b2 0) ∧ g 3 = (ptr b3 0) ∧ g 4 = (ptr b4 0) ∧ g 5 = (ptr b5 0) ∧ g 11 = (u64 (Ul wl 5)) ∧ g 17 = (agg u64 a) ∧ g 18 = (i64 (5 : Int)) ∧ g 19 = (bl (decide ((5 : Int) < 5))) ∧ g 46 = (agg u64 wl) ∧ g 47 = (i64 (5 : Int)) ∧ g 48 = (bl (decide ((5 : Int) < 5))) ∧ True) ⟨s0, s1, s2, s3, s4, s5, s11, s17, s18, s19, s46, s47, rfl, trivial⟩ ?_
         rintro fr31 ⟨s0, s1, s2, s3, s4, s5, s11, s17, s18, s19, s46, s47, s48, _⟩
         refine sR <| Qb (v := (agg u64 ([(Gl wl 0) + (19#64 * ((Ul wl 5) &&& 2251799813685247#64)), (Gl wl 1) + (19#64 * ((Ul wl 5) >>> 51)), Gl wl 2, Gl wl 3, Gl wl 4]))) rfl (Z9 Z7 rfl Xm s4 hm30.h1 sZ) <| Zo rfl (Qx Tryd.func101 bd101 nm101 (Ye rfl) (Qcc ([(Gl wl 0) + (19#64 * ((Ul wl 5) &&& 2251799813685247#64)), (Gl wl 1) + (19#64 * ((Ul wl 5) >>> 51)), Gl wl 2, Gl wl 3, Gl wl 4]) _ sD)) ?_
         rintro _ w32 ⟨rfl, _ew32⟩
         have hm32 := hm30.ext _ew32
         refine Xf (Zl (f := u64) (l := Gz ([(Gl wl 0) + (19#64 * ((Ul wl 5) &&& 2251799813685247#64)), (Gl wl 1) + (19#64 * ((Ul wl 5) >>> 51)), Gl wl 2, Gl wl 3, Gl wl 4])) Xa Xm s4 rfl sD hm32.h1 sZ rfl) ?_
         rintro _ w34 uq34
         have hm34 := hm32.upd1 uq34
         refine rN (Xn ?_)
         refine Zj [(agg u64 (Gz ([(Gl wl 0) + (19#64 * ((Ul wl 5) &&& 2251799813685247#64)), (Gl wl 1) + (19#64 * ((Ul wl 5) >>> 51)), Gl wl 2, Gl wl 3, Gl wl 4])))] ⟨⟨_, s4, X6 Z7 rfl Xm hm34.h1 sZ⟩, trivial⟩ ?_
         exact ⟨congrArg (agg u64) (by rw [hw]; rfl), hm34.toExt⟩
theorem c_cread (u : List (BitVec 8)) (w0 : World)  (hu : u.length = 32) : X8 Tryd.prog 79 #[(agg u8 u)] w0 (fun r w1 => r = (agg u64 (Zi u)) ∧ Ext w0 w1) := by
 refine Zp (args := [(agg u8 u)]) Tryd.func79 rfl Tryd.ntmps79 Tryd.results79 rfl ?_
 have hm0 : Mem w0 (Qo w0) [] := Mem.of_world w0
 refine sR <| Zo rfl (X4 (f := u8) (l := u) hm0 rfl) ?_
 rintro _ w1 ⟨b1, rfl, _ew1, hm1⟩
 refine Zo rfl (Zy hm1 Xm) ?_
 rintro _ w2 ⟨b2, rfl, _ew2, hm2⟩
 refine rN (Qh (sR ?_))
 refine Qb rfl (Qc (v := (i64 0)) rfl) ?_
 refine rN (Qv ?_)
 refine Jg (fun g wv => ∃ (i : Nat), (i ≤ 255) ∧ g 0 = (agg u8 u) ∧ g 1 = (ptr b1 0) ∧ g 2 = (ptr b2 0) ∧ g 4 = (i64 (i : Int)) ∧ Mem wv (Qo w0) [(b2, .cells (cl u64 (Ea u i)) 126 (0, 0)), (b1, .cells (cl u8 u) 23 (0, 0))]) (fun g wv => (255 - RowKit.intOf (g 4)).toNat) ?_ ?_
 · exact ⟨0, oM, rfl, rfl, rfl, rfl, hm2⟩
 · rintro fr3 w4 ⟨i, hi, s0, s1, s2, s4, hm4⟩
   have z4 := s4
   have hrl := Bc u i
   refine sR <| Qb rfl (Qs (b := 255) s4 rfl) ?_
   refine rN (Qh ?_)
   refine Xy rfl (fun hc5 => ?_) (fun hc5 => ?_)
   ·
     have hc5p := of_decide_eq_true hc5
     refine Zc (Qi (Qh (Qv (sR ?_))))
     refine rM rfl s4 <| Qb rfl (Qd (v := (i64 (i : Int))) rfl) <| rN <| Yc [(0, false), (1, false), (2, false), (3, false), (4, false), (5, false), (6, false), (7, false), (8, false), (9, false), (10, false), (11, false), (12, false), (13, false), (14, false), (15, false)] 16 (by kernel_rfl) <| Qw rfl rfl (fun _ _hx => Qc (v := (i64 (i : Int))) rfl) <| Qw rfl rfl (fun _ _hx => Ja.cast (congrArg i64 (show (i : Int) / 51 = ((i / 51 : Nat) : Int) by omega)) (Wl (b := 51) rfl rfl oM oM oM)) <| Qw rfl rfl (fun _ _hx => Qm (r := (i / 51)) oM Z7 Z8 s2 rfl oM sD) <| Qw (v := (u64 ((Ea u i).getD (i / 51) 0))) rfl rfl (fun _ _hx => Qy X0 rfl rfl (hm4.ext _hx).h0 (Zm _ _ 0 sD)) <| Qw rfl rfl (fun _ _hx => Qc (v := (i64 (i : Int))) rfl) <| Qw rfl rfl (fun _ _hx => Ja.cast (congrArg i64 (show (i : Int) / 8 = ((i / 8 : Nat) : Int) by omega)) (Wl (b := 8) rfl rfl oM oM oM)) <| Qw rfl rfl (fun _ _hx => Qm (r := (i / 8)) oM Xo Yq s1 rfl oM sD) <| Qw (v := (u8 (u.getD (i / 8) 0))) rfl rfl (fun _ _hx => Qy Vh rfl rfl (hm4.ext _hx).h1 (Zm _ _ 0 sD)) ?_
     refine Qw rfl rfl (fun _ _hx => Qc (v := (i64 (i : Int))) rfl) <| Qw rfl rfl (fun _ _hx => Ja.cast (congrArg i64 (show (i : Int) % 8 = ((i % 8 : Nat) : Int) by omega)) (Jz (b := 8) rfl rfl oM oM oM)) <| Qw rfl rfl (fun _ _hx => Qdv rfl rfl oM) <| Qw rfl rfl (fun _ _hx => N7 (b := 1#8) rfl rfl) <| Qw rfl rfl (fun _ _hx => Qcy ⟨_, Vh⟩ X0 rfl) <| Qw rfl rfl (fun _ _hx => Qc (v := (i64 (i : Int))) rfl) <| Qw rfl rfl (fun _ _hx => Ja.cast (congrArg i64 (show (i : Int) % 51 = ((i % 51 : Nat) : Int) by omega)) (Jz (b := 51) rfl rfl oM oM oM)) <| Qw rfl rfl (fun _ _hx => V5 rfl rfl oM) ?_
     refine X3 (fun w6 _ew6 => ?_)
     have hm6 := hm4.ext _ew6
     refine Qb rfl (Qdy rfl rfl) <| Qb rfl (Qm (r := (i / 51)) oM Z7 Z8 s2 rfl oM sD) <| Xf (Yj (f := u64) (a := ((Ea u i).getD (i / 51) 0) ||| (((((u.getD (i / 8) 0) >>> ((i % 8 : Nat) : Int).toNat) &&& 1#8).setWidth 64) <<< ((i % 51 : Nat) : Int).toNat)) Xa Z8 rfl rfl hm6.h0 sD (.inl (Nat.zero_le _))) ?_
     rintro _ w7 uq7
     have hm7 := hm6.upd0 uq7
     refine Zz (Qn ?_)
     refine CW.abs (fun g => g 0 = (agg u8 u) ∧ g 1 = (ptr b1 0) ∧ g 2 = (ptr b2 0) ∧ g 3 = (i64 (i : Int)) ∧ g 4 = (i64 (i : Int)) ∧ g 5 = (bl (decide ((i : Int) < 255))) ∧ True) ⟨s0, s1, s2, rfl, s4, rfl, trivial⟩ ?_
     rintro fr8 ⟨s0, s1, s2, s3, s4, s5, _⟩
     refine Qg <| Qb rfl (Qk (b := 1) s4 rfl oM oM) <| Qb rfl (Qc (v := (i64 ((i : Int) + 1))) rfl) <| rN ?_
     exact ⟨⟨i + 1, oM, s0, s1, s2, rfl, hm7⟩, Fj rfl z4 oM oM⟩
   ·
     have hc5p := of_decide_eq_false hc5
     obtain rfl : i = 255 := by omega
     have hrl := Bc u 255
     refine Yb ?_
     refine Zb (Zb (Xw ?_))
     refine sR <| Qb (v := (agg u64 (Ea u 255))) rfl (Z9 Z7 rfl Xm s2 hm4.h0 sZ) <| Xf (Zl (f := u64) (l := Ea u 255) Xa Xm s2 rfl sD hm4.h0 sZ rfl) ?_
     rintro _ w9 uq9
     have hm9 := hm4.upd0 uq9
     refine rN (Xn ?_)
     refine Zj [(agg u64 (Ea u 255))] ⟨⟨_, s2, X6 Z7 rfl Xm hm9.h0 sZ⟩, trivial⟩ ?_
     exact ⟨rfl, hm9.toExt⟩
end Go.Proofs.YtkmiemlpfkfiiaaDoor
