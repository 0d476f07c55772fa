/- Contracts: stream, first part. Conditions: none beyond those that each theorem states. -/
import Derived.Test.YtkmiemlpfkfiiaaDoorTab
namespace Go.Proofs.YtkmiemlpfkfiiaaDoor
set_option linter.unusedVariables false
set_option linter.unusedSimpArgs false
def Za (x : BitVec 32) (k : Int) : BitVec 32 := (x <<< (BitVec.ofInt 64 k &&& 31#64).toNat) ||| (x >>> (32#64 - (BitVec.ofInt 64 k &&& 31#64)).toNat)
def Wj (rot : BitVec 32 → Int → BitVec 32) (a b c d : BitVec 32) : List (BitVec 32) :=
  let a1 := a + b
  let d1 := rot (d ^^^ a1) 16
  let c1 := c + d1
  let b1 := rot (b ^^^ c1) 12
  let a2 := a1 + b1
  let d2 := rot (d1 ^^^ a2) 8
  let c2 := c1 + d2
  let b2 := rot (b1 ^^^ c2) 7
  [a2, b2, c2, d2]
@[simp] theorem Qh9 (rot : BitVec 32 → Int → BitVec 32) (a b c d : BitVec 32) : (Wj rot a b c d).length = 4 := rfl
def wordP (a b c d : BitVec 8) : BitVec 32 := (((0#32 ||| a.setWidth 32 <<< 0) ||| b.setWidth 32 <<< 8) ||| c.setWidth 32 <<< 16) ||| d.setWidth 32 <<< 24
def Zk (l : List (BitVec 8)) : BitVec 32 := wordP (l.getD 0 0) (l.getD 1 0) (l.getD 2 0) (l.getD 3 0)
def Vk (s : List (BitVec 32)) (i0 i1 i2 i3 : Nat) : List (BitVec 32) :=
  let q := Wj Za (s.getD i0 0) (s.getD i1 0) (s.getD i2 0) (s.getD i3 0)
  (((s.set i0 (q.getD 0 0)).set i1 (q.getD 1 0)).set i2 (q.getD 2 0)).set i3 (q.getD 3 0)
theorem Qf0 (s : List (BitVec 32)) (i0 i1 i2 i3 : Nat) : (Vk s i0 i1 i2 i3).length = s.length := by simp [Vk]
theorem V4 (x : BitVec 32) (k : Int) (w0 : World)   : X8 Tryd.prog 112 #[(u32 x), (i64 k)] w0 (fun r w1 => r = (u32 (Za x k)) ∧ w1 = w0) := by
 refine Zp (args := [(u32 x), (i64 k)]) Tryd.func112 rfl Tryd.ntmps112 Tryd.results112 rfl ?_
 have hm0 : Mem w0 (Qo w0) [] := Mem.of_world w0
 refine sR <| Qb rfl (Qd (v := (u32 0#32)) rfl) ?_
 refine rN (sR ?_)
 refine Qb rfl (Qc (v := (i64 k)) rfl) <| Qb rfl (J4 ⟨_, Gj⟩ uT121 rfl) <| Qb rfl (Jq (b := 31#64) rfl rfl) <| Qb rfl (Qd (v := (u64 ((BitVec.ofInt 64 k) &&& 31#64))) rfl) ?_
 refine rN (sR ?_)
 refine Qb rfl (Qc (v := (u32 x)) rfl) <| Qb rfl (Qc (v := (u64 ((BitVec.ofInt 64 k) &&& 31#64))) rfl) <| Qb rfl (Gt rfl rfl oM) <| Qb rfl (Qc (v := (u32 x)) rfl) <| Qb rfl (Qc (v := (u64 ((BitVec.ofInt 64 k) &&& 31#64))) rfl) <| Qb rfl (U8 (a := 32#64) rfl rfl) <| Qb rfl (Dz rfl rfl oM) <| Qb rfl (Um rfl rfl) <| rA rfl rfl ?_
 refine rN (Xn ?_)
 refine Zj [(u32 ((x <<< ((BitVec.ofInt 64 k) &&& 31#64).toNat) ||| (x >>> (32#64 - ((BitVec.ofInt 64 k) &&& 31#64)).toNat)))] ⟨rfl, trivial⟩ ?_
 exact ⟨rfl, rfl⟩
theorem Qh4 (a b c d : BitVec 32) (w0 : World)   : X8 Tryd.prog 114 #[(agg u32 ([a, b, c, d]))] w0 (fun r w1 => r = (agg u32 (Wj Za a b c d)) ∧ Ext w0 w1) := by
 refine Zp (args := [(agg u32 ([a, b, c, d]))]) Tryd.func114 rfl Tryd.ntmps114 Tryd.results114 rfl ?_
 have hm0 : Mem w0 (Qo w0) [] := Mem.of_world w0
 refine sR <| Zo rfl (X4 (f := u32) (l := [a, b, c, d]) hm0 rfl) ?_
 rintro _ w1 ⟨b1, rfl, _ew1, hm1⟩
 refine Zo rfl (Zy hm1 Qdj) ?_
 rintro _ w2 ⟨b2, rfl, _ew2, hm2⟩
 refine rN (Qh (sR ?_))
 refine Qb rfl (Vt i64 [16, 12, 8, 7] Xl Po Us Uz rfl rfl) <| Qb rfl (Qc (v := (i64 0)) rfl) ?_
 refine rN (Qv ?_)
 refine Jw 5 ?_
 refine Zu (sR ?_)
 refine Qb rfl (Qs (a := 0) (b := 4) rfl rfl) ?_
 refine rN (Qh ?_)
 refine Zf rfl (by decide) ?_
 refine Zc (Qi (Qh (Qv (sR ?_))))
 refine Qb rfl (Qc (v := (i64 0)) rfl) <| Qb (v := (i64 16)) rfl (Yn (i := 0) Us Gj rfl Uz rfl rfl oM sD (Zm _ _ 0 (by simp))) <| Qb rfl (Qd (v := (i64 0)) rfl) <| Qb rfl (Qd (v := (i64 16)) rfl) ?_
 refine rN (sR ?_)
 refine Qb rfl (Qd (v := (i64 0)) rfl) <| Qb rfl (Qd (v := (i64 1)) rfl) <| Qb rfl (Qd (v := (i64 3)) rfl) <| rN ?_
 refine CW.abs (fun g => g 0 = (agg u32 ([a, b, c, d])) ∧ g 1 = (ptr b1 0) ∧ g 2 = (ptr b2 0) ∧ g 3 = (i64 0) ∧ g 4 = (i64 16) ∧ g 5 = (i64 0) ∧ g 6 = (i64 1) ∧ g 7 = (i64 3) ∧ g 8 = (agg i64 ([16, 12, 8, 7])) ∧ g 9 = (i64 0) ∧ g 10 = (bl true) ∧ True) ⟨rfl, rfl, rfl, rfl, rfl, rfl, rfl, rfl, rfl, rfl, rfl, trivial⟩ ?_
 rintro fr3 ⟨s0, s1, s2, s3, s4, s5, s6, s7, s8, s9, s10, _⟩
 refine Qh (sR ?_)
 refine rM rfl s3 <| Qb (v := (i64 0)) rfl (Jz (a := 0) (b := 2) rfl rfl oM oM oM) <| Qb rfl (W9 (a := 0) (b := 1) rfl rfl) <| rN <| Yt rfl (by decide) ?_
 refine Zc (Qi (Qh ?_))
 refine Yc [(0, false), (1, false), (2, false), (3, false), (4, false), (5, false)] 6 (by kernel_rfl) <| dM rfl rfl s5 <| Qw rfl rfl (fun _ _hx => Qm (r := 0) (i := 0) oM Vd Xb s1 rfl oM oM) <| Qw (v := (u32 a)) rfl rfl (fun _ _hx => Qy Yx rfl rfl (hm2.ext _hx).h1 (Zm _ _ 0 (by simp))) <| dM rfl rfl s6 <| Qw rfl rfl (fun _ _hx => Qm (r := 1) (i := 1) oM Vd Xb s1 rfl oM oM) <| Qw (v := (u32 b)) rfl rfl (fun _ _hx => Qy Yx rfl rfl (hm2.ext _hx).h1 (Zm _ _ 0 (by simp))) ?_
 refine X3 (fun w4 _ew4 => ?_)
 have hm4 := hm2.ext _ew4
 refine Qb rfl (Y1 rfl rfl) <| Qb rfl (Qm (r := 0) (i := 0) oM Vd Xb s1 rfl oM oM) <| Xf (Zx (f := u32) (l' := [a + b, b, c, d]) rfl Xq Xb rfl rfl hm4.h1 (by simp) (.inl (Nat.zero_le _))) ?_
 rintro _ w5 uq5
 have hm5 := hm4.upd1 uq5
 refine rN ?_
 refine CW.abs (fun g => g 0 = (agg u32 ([a, b, c, d])) ∧ g 1 = (ptr b1 0) ∧ g 2 = (ptr b2 0) ∧ g 3 = (i64 0) ∧ g 4 = (i64 16) ∧ g 5 = (i64 0) ∧ g 6 = (i64 1) ∧ g 7 = (i64 3) ∧ g 8 = (agg i64 ([16, 12, 8, 7])) ∧ g 9 = (i64 0) ∧ g 10 = (bl true) ∧ g 15 = (bl false) ∧ True) ⟨s0, s1, s2, s3, s4, s5, s6, s7, s8, s9, s10, rfl, trivial⟩ ?_
 rintro fr6 ⟨s0, s1, s2, s3, s4, s5, s6, s7, s8, s9, s10, s15, _⟩
 refine Yc [(0, false), (1, false), (2, false), (3, false), (4, false), (5, false), (6, false), (7, false), (8, false), (9, false)] 10 (by kernel_rfl) <| dM rfl rfl s7 <| dM rfl rfl s7 <| Qw rfl rfl (fun _ _hx => Qm (r := 3) (i := 3) oM Vd Xb s1 rfl oM oM) <| Qw (v := (u32 d)) rfl rfl (fun _ _hx => Qy Yx rfl rfl (hm5.ext _hx).h1 (Zm _ _ 0 (by simp))) <| dM rfl rfl s5 <| Qw rfl rfl (fun _ _hx => Qm (r := 0) (i := 0) oM Vd Xb s1 rfl oM oM) <| Qw (v := (u32 (a + b))) rfl rfl (fun _ _hx => Qy Yx rfl rfl (hm5.ext _hx).h1 (Zm _ _ 0 (by simp))) <| Qw rfl rfl (fun _ _hx => Kv rfl rfl) <| dM rfl rfl s4 <| Gu (v := (u32 (Za (d ^^^ (a + b)) (16 : Int)))) rfl rfl (fun w7 _ew7 => Jr.mono (Qx Tryd.func112 Cm Cf (Yk rfl rfl) (V4 (d ^^^ (a + b)) (16 : Int) _)) (by rintro _ w8 ⟨rfl, rfl⟩; exact ⟨rfl, Ext.refl _⟩)) ?_
 refine X3 (fun w10 _ew10 => ?_)
 have hm10 := hm5.ext _ew10
 refine Qb rfl (Qm (r := 3) (i := 3) oM Vd Xb s1 rfl oM oM) <| Xf (Zx (f := u32) (l' := [a + b, b, c, Za (d ^^^ (a + b)) (16 : Int)]) rfl Xq Xb rfl rfl hm10.h1 (by simp) (.inl (Nat.zero_le _))) ?_
 rintro _ w11 uq11
 have hm11 := hm10.upd1 uq11
 refine Zz (Qn ?_)
 refine CW.abs (fun g => g 0 = (agg u32 ([a, b, c, d])) ∧ g 1 = (ptr b1 0) ∧ g 2 = (ptr b2 0) ∧ g 3 = (i64 0) ∧ g 4 = (i64 16) ∧ g 5 = (i64 0) ∧ g 6 = (i64 1) ∧ g 7 = (i64 3) ∧ g 8 = (agg i64 ([16, 12, 8, 7])) ∧ g 9 = (i64 0) ∧ g 10 = (bl true) ∧ g 15 = (bl false) ∧ True) ⟨s0, s1, s2, s3, s4, s5, s6, s7, s8, s9, s10, s15, trivial⟩ ?_
 rintro fr12 ⟨s0, s1, s2, s3, s4, s5, s6, s7, s8, s9, s10, s15, _⟩
 refine Qg <| Qb (v := (i64 1)) rfl (Qk (a := 0) (b := 1) s9 rfl oM oM) <| Qb rfl (Qc (v := (i64 1)) rfl) ?_
 refine rN (Zu (sR ?_))
 refine Qb rfl (Qs (a := 1) (b := 4) rfl rfl) ?_
 refine rN (Qh ?_)
 refine Zf rfl (by decide) ?_
 refine Zc (Qi (Qh (Qv (sR ?_))))
 refine Qb rfl (Qc (v := (i64 1)) rfl) <| Qb (v := (i64 12)) rfl (Yn (i := 1) Us Gj rfl Uz s8 rfl oM sD (Zm _ _ 0 (by simp))) <| Qb rfl (Qd (v := (i64 1)) rfl) <| Qb rfl (Qd (v := (i64 12)) rfl) ?_
 refine rN (sR ?_)
 refine Qb rfl (Qd (v := (i64 0)) rfl) <| Qb rfl (Qd (v := (i64 1)) rfl) <| Qb rfl (Qd (v := (i64 3)) rfl) ?_
 refine rN (Qh (sR ?_))
 refine Qb rfl (Qc (v := (i64 1)) rfl) <| Qb (v := (i64 1)) rfl (Jz (a := 1) (b := 2) rfl rfl oM oM oM) <| Qb rfl (W9 (a := 1) (b := 1) rfl rfl) <| rN ?_
 refine CW.abs (fun g => g 0 = (agg u32 ([a, b, c, d])) ∧ g 1 = (ptr b1 0) ∧ g 2 = (ptr b2 0) ∧ g 3 = (i64 1) ∧ g 4 = (i64 12) ∧ g 5 = (i64 0) ∧ g 6 = (i64 1) ∧ g 7 = (i64 3) ∧ g 8 = (agg i64 ([16, 12, 8, 7])) ∧ g 9 = (i64 1) ∧ g 10 = (bl true) ∧ g 15 = (bl true) ∧ True) ⟨s0, s1, s2, rfl, rfl, rfl, rfl, rfl, s8, rfl, rfl, rfl, trivial⟩ ?_
 rintro fr13 ⟨s0, s1, s2, s3, s4, s5, s6, s7, s8, s9, s10, s15, _⟩
 refine Zf s15 (by decide) <| Qg <| Qb rfl (Qd (v := (i64 2)) rfl) <| Qb rfl (Qd (v := (i64 3)) rfl) <| Qb rfl (Qd (v := (i64 1)) rfl) ?_
 refine rN (Qh ?_)
 refine Yc [(0, false), (1, false), (2, false), (3, false), (4, false), (5, false)] 6 (by kernel_rfl) <| Qw rfl rfl (fun _ _hx => Qc (v := (i64 2)) rfl) <| Qw rfl rfl (fun _ _hx => Qm (r := 2) (i := 2) oM Vd Xb s1 rfl oM oM) <| Qw (v := (u32 c)) rfl rfl (fun _ _hx => Qy Yx rfl rfl (hm11.ext _hx).h1 (Zm _ _ 0 (by simp))) <| Qw rfl rfl (fun _ _hx => Qc (v := (i64 3)) rfl) <| Qw rfl rfl (fun _ _hx => Qm (r := 3) (i := 3) oM Vd Xb s1 rfl oM oM) <| Qw (v := (u32 (Za (d ^^^ (a + b)) (16 : Int)))) rfl rfl (fun _ _hx => Qy Yx rfl rfl (hm11.ext _hx).h1 (Zm _ _ 0 (by simp))) ?_
 refine X3 (fun w14 _ew14 => ?_)
 have hm14 := hm11.ext _ew14
 refine Qb rfl (Y1 rfl rfl) <| Qb rfl (Qm (r := 2) (i := 2) oM Vd Xb s1 rfl oM oM) <| Xf (Zx (f := u32) (l' := [a + b, b, c + (Za (d ^^^ (a + b)) (16 : Int)), Za (d ^^^ (a + b)) (16 : Int)]) rfl Xq Xb rfl rfl hm14.h1 (by simp) (.inl (Nat.zero_le _))) ?_
 rintro _ w15 uq15
 have hm15 := hm14.upd1 uq15
 refine rN ?_
 refine CW.abs (fun g => g 0 = (agg u32 ([a, b, c, d])) ∧ g 1 = (ptr b1 0) ∧ g 2 = (ptr b2 0) ∧ g 3 = (i64 1) ∧ g 4 = (i64 12) ∧ g 5 = (i64 2) ∧ g 6 = (i64 3) ∧ g 7 = (i64 1) ∧ g 8 = (agg i64 ([16, 12, 8, 7])) ∧ g 9 = (i64 1) ∧ g 10 = (bl true) ∧ g 15 = (bl true) ∧ True) ⟨s0, s1, s2, s3, s4, rfl, rfl, rfl, s8, s9, s10, s15, trivial⟩ ?_
 rintro fr16 ⟨s0, s1, s2, s3, s4, s5, s6, s7, s8, s9, s10, s15, _⟩
 refine Yc [(0, false), (1, false), (2, false), (3, false), (4, false), (5, false), (6, false), (7, false), (8, false), (9, false)] 10 (by kernel_rfl) <| dM rfl rfl s7 <| dM rfl rfl s7 <| Qw rfl rfl (fun _ _hx => Qm (r := 1) (i := 1) oM Vd Xb s1 rfl oM oM) <| Qw (v := (u32 b)) rfl rfl (fun _ _hx => Qy Yx rfl rfl (hm15.ext _hx).h1 (Zm _ _ 0 (by simp))) <| dM rfl rfl s5 <| Qw rfl rfl (fun _ _hx => Qm (r := 2) (i := 2) oM Vd Xb s1 rfl oM oM) <| Qw (v := (u32 (c + (Za (d ^^^ (a + b)) (16 : Int))))) rfl rfl (fun _ _hx => Qy Yx rfl rfl (hm15.ext _hx).h1 (Zm _ _ 0 (by simp))) <| Qw rfl rfl (fun _ _hx => Kv rfl rfl) <| dM rfl rfl s4 <| Gu (v := (u32 (Za (b ^^^ (c + (Za (d ^^^ (a + b)) (16 : Int)))) (12 : Int)))) rfl rfl (fun w17 _ew17 => Jr.mono (Qx Tryd.func112 Cm Cf (Yk rfl rfl) (V4 (b ^^^ (c + (Za (d ^^^ (a + b)) (16 : Int)))) (12 : Int) _)) (by rintro _ w18 ⟨rfl, rfl⟩; exact ⟨rfl, Ext.refl _⟩)) ?_
 refine X3 (fun w20 _ew20 => ?_)
 have hm20 := hm15.ext _ew20
 refine Qb rfl (Qm (r := 1) (i := 1) oM Vd Xb s1 rfl oM oM) <| Xf (Zx (f := u32) (l' := [a + b, Za (b ^^^ (c + (Za (d ^^^ (a + b)) (16 : Int)))) (12 : Int), c + (Za (d ^^^ (a + b)) (16 : Int)), Za (d ^^^ (a + b)) (16 : Int)]) rfl Xq Xb rfl rfl hm20.h1 (by simp) (.inl (Nat.zero_le _))) ?_
 rintro _ w21 uq21
 have hm21 := hm20.upd1 uq21
 refine Zz (Qn ?_)
 refine CW.abs (fun g => g 0 = (agg u32 ([a, b, c, d])) ∧ g 1 = (ptr b1 0) ∧ g 2 = (ptr b2 0) ∧ g 3 = (i64 1) ∧ g 4 = (i64 12) ∧ g 5 = (i64 2) ∧ g 6 = (i64 3) ∧ g 7 = (i64 1) ∧ g 8 = (agg i64 ([16, 12, 8, 7])) ∧ g 9 = (i64 1) ∧ g 10 = (bl true) ∧ g 15 = (bl true) ∧ True) ⟨s0, s1, s2, s3, s4, s5, s6, s7, s8, s9, s10, s15, trivial⟩ ?_
 rintro fr22 ⟨s0, s1, s2, s3, s4, s5, s6, s7, s8, s9, s10, s15, _⟩
 refine Qg <| Qb (v := (i64 2)) rfl (Qk (a := 1) (b := 1) s9 rfl oM oM) <| Qb rfl (Qc (v := (i64 2)) rfl) ?_
 refine rN (Zu (sR ?_))
 refine Qb rfl (Qs (a := 2) (b := 4) rfl rfl) ?_
 refine rN (Qh ?_)
 refine Zf rfl (by decide) ?_
 refine Zc (Qi (Qh (Qv (sR ?_))))
 refine Qb rfl (Qc (v := (i64 2)) rfl) <| Qb (v := (i64 8)) rfl (Yn (i := 2) Us Gj rfl Uz s8 rfl oM sD (Zm _ _ 0 (by simp))) <| Qb rfl (Qd (v := (i64 2)) rfl) <| Qb rfl (Qd (v := (i64 8)) rfl) ?_
 refine rN (sR ?_)
 refine Qb rfl (Qd (v := (i64 0)) rfl) <| Qb rfl (Qd (v := (i64 1)) rfl) <| Qb rfl (Qd (v := (i64 3)) rfl) ?_
 refine rN (Qh (sR ?_))
 refine Qb rfl (Qc (v := (i64 2)) rfl) <| Qb (v := (i64 0)) rfl (Jz (a := 2) (b := 2) rfl rfl oM oM oM) <| Qb rfl (W9 (a := 0) (b := 1) rfl rfl) <| rN ?_
 refine CW.abs (fun g => g 0 = (agg u32 ([a, b, c, d])) ∧ g 1 = (ptr b1 0) ∧ g 2 = (ptr b2 0) ∧ g 3 = (i64 2) ∧ g 4 = (i64 8) ∧ g 5 = (i64 0) ∧ g 6 = (i64 1) ∧ g 7 = (i64 3) ∧ g 8 = (agg i64 ([16, 12, 8, 7])) ∧ g 9 = (i64 2) ∧ g 10 = (bl true) ∧ g 15 = (bl false) ∧ True) ⟨s0, s1, s2, rfl, rfl, rfl, rfl, rfl, s8, rfl, rfl, rfl, trivial⟩ ?_
 rintro fr23 ⟨s0, s1, s2, s3, s4, s5, s6, s7, s8, s9, s10, s15, _⟩
 refine Yt s15 (by decide) ?_
 refine Zc (Qi (Qh ?_))
 refine Yc [(0, false), (1, false), (2, false), (3, false), (4, false), (5, false)] 6 (by kernel_rfl) <| dM rfl rfl s5 <| Qw rfl rfl (fun _ _hx => Qm (r := 0) (i := 0) oM Vd Xb s1 rfl oM oM) <| Qw (v := (u32 (a + b))) rfl rfl (fun _ _hx => Qy Yx rfl rfl (hm21.ext _hx).h1 (Zm _ _ 0 (by simp))) <| dM rfl rfl s6 <| Qw rfl rfl (fun _ _hx => Qm (r := 1) (i := 1) oM Vd Xb s1 rfl oM oM) <| Qw (v := (u32 (Za (b ^^^ (c + (Za (d ^^^ (a + b)) (16 : Int)))) (12 : Int)))) rfl rfl (fun _ _hx => Qy Yx rfl rfl (hm21.ext _hx).h1 (Zm _ _ 0 (by simp))) ?_
 refine X3 (fun w24 _ew24 => ?_)
 have hm24 := hm21.ext _ew24
 refine Qb rfl (Y1 rfl rfl) <| Qb rfl (Qm (r := 0) (i := 0) oM Vd Xb s1 rfl oM oM) <| Xf (Zx (f := u32) (l' := [(a + b) + (Za (b ^^^ (c + (Za (d ^^^ (a + b)) (16 : Int)))) (12 : Int)), Za (b ^^^ (c + (Za (d ^^^ (a + b)) (16 : Int)))) (12 : Int), c + (Za (d ^^^ (a + b)) (16 : Int)), Za (d ^^^ (a + b)) (16 : Int)]) rfl Xq Xb rfl rfl hm24.h1 (by simp) (.inl (Nat.zero_le _))) ?_
 rintro _ w25 uq25
 have hm25 := hm24.upd1 uq25
 refine rN <| Yc [(0, false), (1, false), (2, false), (3, false), (4, false), (5, false), (6, false), (7, false), (8, false), (9, false)] 10 (by kernel_rfl) <| dM rfl rfl s7 <| dM rfl rfl s7 <| Qw rfl rfl (fun _ _hx => Qm (r := 3) (i := 3) oM Vd Xb s1 rfl oM oM) <| Qw (v := (u32 (Za (d ^^^ (a + b)) (16 : Int)))) rfl rfl (fun _ _hx => Qy Yx rfl rfl (hm25.ext _hx).h1 (Zm _ _ 0 (by simp))) <| dM rfl rfl s5 <| Qw rfl rfl (fun _ _hx => Qm (r := 0) (i := 0) oM Vd Xb s1 rfl oM oM) <| Qw (v := (u32 ((a + b) + (Za (b ^^^ (c + (Za (d ^^^ (a + b)) (16 : Int)))) (12 : Int))))) rfl rfl (fun _ _hx => Qy Yx rfl rfl (hm25.ext _hx).h1 (Zm _ _ 0 (by simp))) <| Qw rfl rfl (fun _ _hx => Kv rfl rfl) <| dM rfl rfl s4 <| Gu (v := (u32 (Za ((Za (d ^^^ (a + b)) (16 : Int)) ^^^ ((a + b) + (Za (b ^^^ (c + (Za (d ^^^ (a + b)) (16 : Int)))) (12 : Int)))) (8 : Int)))) rfl rfl (fun w26 _ew26 => Jr.mono (Qx Tryd.func112 Cm Cf (Yk rfl rfl) (V4 ((Za (d ^^^ (a + b)) (16 : Int)) ^^^ ((a + b) + (Za (b ^^^ (c + (Za (d ^^^ (a + b)) (16 : Int)))) (12 : Int)))) (8 : Int) _)) (by rintro _ w27 ⟨rfl, rfl⟩; exact ⟨rfl, Ext.refl _⟩)) ?_
 refine X3 (fun w29 _ew29 => ?_)
 have hm29 := hm25.ext _ew29
 refine Qb rfl (Qm (r := 3) (i := 3) oM Vd Xb s1 rfl oM oM) <| Xf (Zx (f := u32) (l' := [(a + b) + (Za (b ^^^ (c + (Za (d ^^^ (a + b)) (16 : Int)))) (12 : Int)), Za (b ^^^ (c + (Za (d ^^^ (a + b)) (16 : Int)))) (12 : Int), c + (Za (d ^^^ (a + b)) (16 : Int)), Za ((Za (d ^^^ (a + b)) (16 : Int)) ^^^ ((a + b) + (Za (b ^^^ (c + (Za (d ^^^ (a + b)) (16 : Int)))) (12 : Int)))) (8 : Int)]) rfl Xq Xb rfl rfl hm29.h1 (by simp) (.inl (Nat.zero_le _))) ?_
 rintro _ w30 uq30
 have hm30 := hm29.upd1 uq30
 refine Zz (Qn ?_)
 refine CW.abs (fun g => g 0 = (agg u32 ([a, b, c, d])) ∧ g 1 = (ptr b1 0) ∧ g 2 = (ptr b2 0) ∧ g 3 = (i64 2) ∧ g 4 = (i64 8) ∧ g 5 = (i64 0) ∧ g 6 = (i64 1) ∧ g 7 = (i64 3) ∧ g 8 = (agg i64 ([16, 12, 8, 7])) ∧ g 9 = (i64 2) ∧ g 10 = (bl true) ∧ g 15 = (bl false) ∧ True) ⟨s0, s1, s2, s3, s4, s5, s6, s7, s8, s9, s10, s15, trivial⟩ ?_
 rintro fr31 ⟨s0, s1, s2, s3, s4, s5, s6, s7, s8, s9, s10, s15, _⟩
 refine Qg <| Qb (v := (i64 3)) rfl (Qk (a := 2) (b := 1) s9 rfl oM oM) <| Qb rfl (Qc (v := (i64 3)) rfl) ?_
 refine rN (Zu (sR ?_))
 refine Qb rfl (Qs (a := 3) (b := 4) rfl rfl) ?_
 refine rN (Qh ?_)
 refine Zf rfl (by decide) ?_
 refine Zc (Qi (Qh (Qv (sR ?_))))
 refine Qb rfl (Qc (v := (i64 3)) rfl) <| Qb (v := (i64 7)) rfl (Yn (i := 3) Us Gj rfl Uz s8 rfl oM sD (Zm _ _ 0 (by simp))) <| Qb rfl (Qd (v := (i64 3)) rfl) <| Qb rfl (Qd (v := (i64 7)) rfl) ?_
 refine rN (sR ?_)
 refine Qb rfl (Qd (v := (i64 0)) rfl) <| Qb rfl (Qd (v := (i64 1)) rfl) <| Qb rfl (Qd (v := (i64 3)) rfl) ?_
 refine rN (Qh (sR ?_))
 refine Qb rfl (Qc (v := (i64 3)) rfl) <| Qb (v := (i64 1)) rfl (Jz (a := 3) (b := 2) rfl rfl oM oM oM) <| Qb rfl (W9 (a := 1) (b := 1) rfl rfl) <| rN ?_
 refine CW.abs (fun g => g 0 = (agg u32 ([a, b, c, d])) ∧ g 1 = (ptr b1 0) ∧ g 2 = (ptr b2 0) ∧ g 3 = (i64 3) ∧ g 4 = (i64 7) ∧ g 5 = (i64 0) ∧ g 6 = (i64 1) ∧ g 7 = (i64 3) ∧ g 8 = (agg i64 ([16, 12, 8, 7])) ∧ g 9 = (i64 3) ∧ g 10 = (bl true) ∧ g 15 = (bl true) ∧ True) ⟨s0, s1, s2, rfl, rfl, rfl, rfl, rfl, s8, rfl, rfl, rfl, trivial⟩ ?_
 rintro fr32 ⟨s0, s1, s2, s3, s4, s5, s6, s7, s8, s9, s10, s15, _⟩
 refine Zf s15 (by decide) <| Qg <| Qb rfl (Qd (v := (i64 2)) rfl) <| Qb rfl (Qd (v := (i64 3)) rfl) <| Qb rfl (Qd (v := (i64 1)) rfl) ?_
 refine rN (Qh ?_)
 refine Yc [(0, false), (1, false), (2, false), (3, false), (4, false), (5, false)] 6 (by kernel_rfl) <| Qw rfl rfl (fun _ _hx => Qc (v := (i64 2)) rfl) <| Qw rfl rfl (fun _ _hx => Qm (r := 2) (i := 2) oM Vd Xb s1 rfl oM oM) <| Qw (v := (u32 (c + (Za (d ^^^ (a + b)) (16 : Int))))) rfl rfl (fun _ _hx => Qy Yx rfl rfl (hm30.ext _hx).h1 (Zm _ _ 0 (by simp))) <| Qw rfl rfl (fun _ _hx => Qc (v := (i64 3)) rfl) <| Qw rfl rfl (fun _ _hx => Qm (r := 3) (i := 3) oM Vd Xb s1 rfl oM oM) <| Qw (v := (u32 (Za ((Za (d ^^^ (a + b)) (16 : Int)) ^^^ ((a + b) + (Za (b ^^^ (c + (Za (d ^^^ (a + b)) (16 : Int)))) (12 : Int)))) (8 : Int)))) rfl rfl (fun _ _hx => Qy Yx rfl rfl (hm30.ext _hx).h1 (Zm _ _ 0 (by simp))) ?_
 refine X3 (fun w33 _ew33 => ?_)
 have hm33 := hm30.ext _ew33
 refine Qb rfl (Y1 rfl rfl) <| Qb rfl (Qm (r := 2) (i := 2) oM Vd Xb s1 rfl oM oM) <| Xf (Zx (f := u32) (l' := [(a + b) + (Za (b ^^^ (c + (Za (d ^^^ (a + b)) (16 : Int)))) (12 : Int)), Za (b ^^^ (c + (Za (d ^^^ (a + b)) (16 : Int)))) (12 : Int), (c + (Za (d ^^^ (a + b)) (16 : Int))) + (Za ((Za (d ^^^ (a + b)) (16 : Int)) ^^^ ((a + b) + (Za (b ^^^ (c + (Za (d ^^^ (a + b)) (16 : Int)))) (12 : Int)))) (8 : Int)), Za ((Za (d ^^^ (a + b)) (16 : Int)) ^^^ ((a + b) + (Za (b ^^^ (c + (Za (d ^^^ (a + b)) (16 : Int)))) (12 : Int)))) (8 : Int)]) rfl Xq Xb rfl rfl hm33.h1 (by simp) (.inl (Nat.zero_le _))) ?_
 rintro _ w34 uq34
 have hm34 := hm33.upd1 uq34
 refine rN ?_
 refine CW.abs (fun g => g 0 = (agg u32 ([a, b, c, d])) ∧ g 1 = (ptr b1 0) ∧ g 2 = (ptr b2 0) ∧ g 3 = (i64 3) ∧ g 4 = (i64 7) ∧ g 5 = (i64 2) ∧ g 6 = (i64 3) ∧ g 7 = (i64 1) ∧ g 8 = (agg i64 ([16, 12, 8, 7])) ∧ g 9 = (i64 3) ∧ g 10 = (bl true) ∧ g 15 = (bl true) ∧ True) ⟨s0, s1, s2, s3, s4, rfl, rfl, rfl, s8, s9, s10, s15, trivial⟩ ?_
 rintro fr35 ⟨s0, s1, s2, s3, s4, s5, s6, s7, s8, s9, s10, s15, _⟩
 refine Yc [(0, false), (1, false), (2, false), (3, false), (4, false), (5, false), (6, false), (7, false), (8, false), (9, false)] 10 (by kernel_rfl) <| dM rfl rfl s7 <| dM rfl rfl s7 <| Qw rfl rfl (fun _ _hx => Qm (r := 1) (i := 1) oM Vd Xb s1 rfl oM oM) <| Qw (v := (u32 (Za (b ^^^ (c + (Za (d ^^^ (a + b)) (16 : Int)))) (12 : Int)))) rfl rfl (fun _ _hx => Qy Yx rfl rfl (hm34.ext _hx).h1 (Zm _ _ 0 (by simp))) <| dM rfl rfl s5 <| Qw rfl rfl (fun _ _hx => Qm (r := 2) (i := 2) oM Vd Xb s1 rfl oM oM) <| Qw (v := (u32 ((c + (Za (d ^^^ (a + b)) (16 : Int))) + (Za ((Za (d ^^^ (a + b)) (16 : Int)) ^^^ ((a + b) + (Za (b ^^^ (c + (Za (d ^^^ (a + b)) (16 : Int)))) (12 : Int)))) (8 : Int))))) rfl rfl (fun _ _hx => Qy Yx rfl rfl (hm34.ext _hx).h1 (Zm _ _ 0 (by simp))) <| Qw rfl rfl (fun _ _hx => Kv rfl rfl) <| dM rfl rfl s4 <| Gu (v := (u32 (Za ((Za (b ^^^ (c + (Za (d ^^^ (a + b)) (16 : Int)))) (12 : Int)) ^^^ ((c + (Za (d ^^^ (a + b)) (16 : Int))) + (Za ((Za (d ^^^ (a + b)) (16 : Int)) ^^^ ((a + b) + (Za (b ^^^ (c + (Za (d ^^^ (a + b)) (16 : Int)))) (12 : Int)))) (8 : Int)))) (7 : Int)))) rfl rfl (fun w36 _ew36 => Jr.mono (Qx Tryd.func112 Cm Cf (Yk rfl rfl) (V4 ((Za (b ^^^ (c + (Za (d ^^^ (a + b)) (16 : Int)))) (12 : Int)) ^^^ ((c + (Za (d ^^^ (a + b)) (16 : Int))) + (Za ((Za (d ^^^ (a + b)) (16 : Int)) ^^^ ((a + b) + (Za (b ^^^ (c + (Za (d ^^^ (a + b)) (16 : Int)))) (12 : Int)))) (8 : Int)))) (7 : Int) _)) (by rintro _ w37 ⟨rfl, rfl⟩; exact ⟨rfl, Ext.refl _⟩)) ?_
 refine X3 (fun w39 _ew39 => ?_)
 have hm39 := hm34.ext _ew39
 refine Qb rfl (Qm (r := 1) (i := 1) oM Vd Xb s1 rfl oM oM) <| Xf (Zx (f := u32) (l' := [(a + b) + (Za (b ^^^ (c + (Za (d ^^^ (a + b)) (16 : Int)))) (12 : Int)), Za ((Za (b ^^^ (c + (Za (d ^^^ (a + b)) (16 : Int)))) (12 : Int)) ^^^ ((c + (Za (d ^^^ (a + b)) (16 : Int))) + (Za ((Za (d ^^^ (a + b)) (16 : Int)) ^^^ ((a + b) + (Za (b ^^^ (c + (Za (d ^^^ (a + b)) (16 : Int)))) (12 : Int)))) (8 : Int)))) (7 : Int), (c + (Za (d ^^^ (a + b)) (16 : Int))) + (Za ((Za (d ^^^ (a + b)) (16 : Int)) ^^^ ((a + b) + (Za (b ^^^ (c + (Za (d ^^^ (a + b)) (16 : Int)))) (12 : Int)))) (8 : Int)), Za ((Za (d ^^^ (a + b)) (16 : Int)) ^^^ ((a + b) + (Za (b ^^^ (c + (Za (d ^^^ (a + b)) (16 : Int)))) (12 : Int)))) (8 : Int)]) rfl Xq Xb rfl rfl hm39.h1 (by simp) (.inl (Nat.zero_le _))) ?_
 rintro _ w40 uq40
 have hm40 := hm39.upd1 uq40
 refine Zz (Qn ?_)
 refine CW.abs (fun g => g 0 = (agg u32 ([a, b, c, d])) ∧ g 1 = (ptr b1 0) ∧ g 2 = (ptr b2 0) ∧ g 3 = (i64 3) ∧ g 4 = (i64 7) ∧ g 5 = (i64 2) ∧ g 6 = (i64 3) ∧ g 7 = (i64 1) ∧ g 8 = (agg i64 ([16, 12, 8, 7])) ∧ g 9 = (i64 3) ∧ g 10 = (bl true) ∧ g 15 = (bl true) ∧ True) ⟨s0, s1, s2, s3, s4, s5, s6, s7, s8, s9, s10, s15, trivial⟩ ?_
 rintro fr41 ⟨s0, s1, s2, s3, s4, s5, s6, s7, s8, s9, s10, s15, _⟩
 refine Qg <| Qb (v := (i64 4)) rfl (Qk (a := 3) (b := 1) s9 rfl oM oM) <| Qb rfl (Qc (v := (i64 4)) rfl) ?_
 refine rN (Zu (sR ?_))
 refine Qb rfl (Qs (a := 4) (b := 4) rfl rfl) ?_
 refine rN (Qh ?_)
 refine Yt rfl (by decide) <| Yb ?_
 refine Zb (Zb (Xw ?_))
 refine sR <| Qb rfl (Z9 Vd rfl Qdj s1 hm40.h1 sZ) <| Xf (Zl (f := u32) (l := [(a + b) + (Za (b ^^^ (c + (Za (d ^^^ (a + b)) (16 : Int)))) (12 : Int)), Za ((Za (b ^^^ (c + (Za (d ^^^ (a + b)) (16 : Int)))) (12 : Int)) ^^^ ((c + (Za (d ^^^ (a + b)) (16 : Int))) + (Za ((Za (d ^^^ (a + b)) (16 : Int)) ^^^ ((a + b) + (Za (b ^^^ (c + (Za (d ^^^ (a + b)) (16 : Int)))) (12 : Int)))) (8 : Int)))) (7 : Int), (c + (Za (d ^^^ (a + b)) (16 : Int))) + (Za ((Za (d ^^^ (a + b)) (16 : Int)) ^^^ ((a + b) + (Za (b ^^^ (c + (Za (d ^^^ (a + b)) (16 : Int)))) (12 : Int)))) (8 : Int)), Za ((Za (d ^^^ (a + b)) (16 : Int)) ^^^ ((a + b) + (Za (b ^^^ (c + (Za (d ^^^ (a + b)) (16 : Int)))) (12 : Int)))) (8 : Int)]) Xq Qdj s2 rfl sD hm40.h0 sZ rfl) ?_
 rintro _ w42 uq42
 have hm42 := hm40.upd0 uq42
 refine rN (Xn ?_)
 refine Zj [(agg u32 ([(a + b) + (Za (b ^^^ (c + (Za (d ^^^ (a + b)) (16 : Int)))) (12 : Int)), Za ((Za (b ^^^ (c + (Za (d ^^^ (a + b)) (16 : Int)))) (12 : Int)) ^^^ ((c + (Za (d ^^^ (a + b)) (16 : Int))) + (Za ((Za (d ^^^ (a + b)) (16 : Int)) ^^^ ((a + b) + (Za (b ^^^ (c + (Za (d ^^^ (a + b)) (16 : Int)))) (12 : Int)))) (8 : Int)))) (7 : Int), (c + (Za (d ^^^ (a + b)) (16 : Int))) + (Za ((Za (d ^^^ (a + b)) (16 : Int)) ^^^ ((a + b) + (Za (b ^^^ (c + (Za (d ^^^ (a + b)) (16 : Int)))) (12 : Int)))) (8 : Int)), Za ((Za (d ^^^ (a + b)) (16 : Int)) ^^^ ((a + b) + (Za (b ^^^ (c + (Za (d ^^^ (a + b)) (16 : Int)))) (12 : Int)))) (8 : Int)]))] ⟨⟨_, s2, X6 Vd rfl Qdj hm42.h0 sZ⟩, trivial⟩ ?_
 exact ⟨rfl, hm42.toExt⟩
theorem D7 (v : Value) (l : List (BitVec 8)) (w0 : World)  (hr : Rd (Y3 w0) u8 v l) (hl : 4 ≤ l.length) : X8 Tryd.prog 113 #[v] w0 (fun r w1 => r = (u32 (Zk l)) ∧ Ext w0 w1) := by
 refine Zp (args := [v]) Tryd.func113 rfl Tryd.ntmps113 Tryd.results113 rfl ?_
 have hm0 : Mem w0 (Qo w0) [] := Mem.of_world w0
 obtain ⟨a, b, c, d, r, rfl⟩ := list4r l hl
 refine sR <| Qb rfl (Qd (v := (u32 0#32)) rfl) ?_
 refine rN (Qh (sR ?_))
 refine rM rfl (v := v) rfl <| Qb rfl (Yr (i := 0) (j := 4) (hr.ext hm0.toExt) Z4 Yq rfl (Zn _ _) (X9 (k := .i64) (i := 4) rfl) oM oM (by simp only [List.length_cons]; omega)) <| Qb (v := (i64 4)) rfl (Yi (l := [a, b, c, d]) (Rd.cast (l' := [a, b, c, d]) (Rd.sub (hr.ext hm0.toExt) oM oM (by simp only [List.length_cons]; omega)) rfl) Z4 rfl) <| Qb rfl (Qc (v := (i64 0)) rfl) ?_
 refine rN (Qv ?_)
 refine Jw 5 ?_
 refine Zu (sR ?_)
 refine Qb rfl (Qs (a := 0) (b := 4) rfl rfl) ?_
 refine rN (Qh ?_)
 refine Zf rfl (by decide) ?_
 refine Zc (Qi (Qh (Qv (sR ?_))))
 refine Qb rfl (Qc (v := (i64 0)) rfl) <| Qb rfl (Xi (i := 0) (Rd.cast (l' := [a, b, c, d]) (Rd.sub (hr.ext hm0.toExt) oM oM (by simp only [List.length_cons]; omega)) rfl) Z4 Yq rfl rfl oM (by simp)) <| Qb (v := (u8 a)) rfl (Yg (l := [a, b, c, d]) (i := 0) (dflt := 0) (Rd.cast (l' := [a, b, c, d]) (Rd.sub (hr.ext hm0.toExt) oM oM (by simp only [List.length_cons]; omega)) rfl) Vh rfl oM (by simp) rfl) <| Qb rfl (Qd (v := (i64 0)) rfl) <| Qb rfl (Qd (v := (u8 a)) rfl) <| rN ?_
 refine CW.abs (fun g => g 0 = v ∧ g 2 = (u32 0#32) ∧ g 3 = (i64 0) ∧ g 4 = (u8 a) ∧ g 6 = (V8 v 0 4) ∧ g 7 = (i64 4) ∧ g 8 = (i64 0) ∧ g 9 = (bl true) ∧ True) ⟨rfl, rfl, rfl, rfl, rfl, rfl, rfl, rfl, trivial⟩ ?_
 rintro fr1 ⟨s0, s2, s3, s4, s6, s7, s8, s9, _⟩
 refine Qg <| rM rfl s2 <| rM rfl s4 <| Qb rfl (Ve ⟨_, Vh⟩ Yx rfl) <| rM rfl s3 <| Qb (v := (i64 0)) rfl (Xj (a := 8) (b := 0) rfl rfl oM oM) <| Qb rfl (Gt (b := 0) rfl rfl oM) <| Qb rfl (Um (a := 0#32) rfl rfl) <| Qb rfl (Qd (v := (u32 (0#32 ||| ((a.setWidth 32) <<< 0)))) rfl) ?_
 refine Zz (Qn (Qg ?_))
 refine Qb (v := (i64 1)) rfl (Qk (a := 0) (b := 1) s8 rfl oM oM) <| Qb rfl (Qc (v := (i64 1)) rfl) ?_
 refine rN (Zu (sR ?_))
 refine Qb rfl (Qs (a := 1) (b := 4) rfl s7) <| rN ?_
 refine CW.abs (fun g => g 0 = v ∧ g 2 = (u32 (0#32 ||| ((a.setWidth 32) <<< 0))) ∧ g 3 = (i64 0) ∧ g 4 = (u8 a) ∧ g 6 = (V8 v 0 4) ∧ g 7 = (i64 4) ∧ g 8 = (i64 1) ∧ g 9 = (bl true) ∧ True) ⟨s0, rfl, s3, s4, s6, s7, rfl, rfl, trivial⟩ ?_
 rintro fr2 ⟨s0, s2, s3, s4, s6, s7, s8, s9, _⟩
 refine Qh <| Zf s9 (by decide) ?_
 refine Zc (Qi (Qh (Qv (sR ?_))))
 refine rM rfl s8 <| Qb rfl (Xi (i := 1) (Rd.cast (l' := [a, b, c, d]) (Rd.sub (hr.ext hm0.toExt) oM oM (by simp only [List.length_cons]; omega)) rfl) Z4 Yq s6 s8 oM (by simp)) <| Qb (v := (u8 b)) rfl (Yg (l := [a, b, c, d]) (i := 1) (dflt := 0) (Rd.cast (l' := [a, b, c, d]) (Rd.sub (hr.ext hm0.toExt) oM oM (by simp only [List.length_cons]; omega)) rfl) Vh rfl oM (by simp) rfl) <| Qb rfl (Qd (v := (i64 1)) rfl) <| Qb rfl (Qd (v := (u8 b)) rfl) ?_
 refine rN (Qg ?_)
 refine rM rfl s2 <| Qb rfl (Qc (v := (u8 b)) rfl) <| Qb rfl (Ve ⟨_, Vh⟩ Yx rfl) <| Qb rfl (Qc (v := (i64 1)) rfl) <| Qb (v := (i64 8)) rfl (Xj (a := 8) (b := 1) rfl rfl oM oM) <| Qb rfl (Gt (b := 8) rfl rfl oM) <| Qb rfl (Um rfl rfl) <| Qb rfl (Qd (v := (u32 ((0#32 ||| ((a.setWidth 32) <<< 0)) ||| ((b.setWidth 32) <<< 8)))) rfl) ?_
 refine Zz (Qn ?_)
 refine CW.abs (fun g => g 0 = v ∧ g 2 = (u32 ((0#32 ||| ((a.setWidth 32) <<< 0)) ||| ((b.setWidth 32) <<< 8))) ∧ g 3 = (i64 1) ∧ g 4 = (u8 b) ∧ g 6 = (V8 v 0 4) ∧ g 7 = (i64 4) ∧ g 8 = (i64 1) ∧ g 9 = (bl true) ∧ True) ⟨s0, rfl, rfl, rfl, s6, s7, s8, s9, trivial⟩ ?_
 rintro fr3 ⟨s0, s2, s3, s4, s6, s7, s8, s9, _⟩
 refine Qg <| Qb (v := (i64 2)) rfl (Qk (a := 1) (b := 1) s8 rfl oM oM) <| Qb rfl (Qc (v := (i64 2)) rfl) ?_
 refine rN (Zu (sR ?_))
 refine Qb rfl (Qs (a := 2) (b := 4) rfl s7) ?_
 refine rN (Qh ?_)
 refine Zf rfl (by decide) ?_
 refine Zc (Qi (Qh (Qv (sR ?_))))
 refine Qb rfl (Qc (v := (i64 2)) rfl) <| Qb rfl (Xi (i := 2) (Rd.cast (l' := [a, b, c, d]) (Rd.sub (hr.ext hm0.toExt) oM oM (by simp only [List.length_cons]; omega)) rfl) Z4 Yq s6 rfl oM (by simp)) <| Qb (v := (u8 c)) rfl (Yg (l := [a, b, c, d]) (i := 2) (dflt := 0) (Rd.cast (l' := [a, b, c, d]) (Rd.sub (hr.ext hm0.toExt) oM oM (by simp only [List.length_cons]; omega)) rfl) Vh rfl oM (by simp) rfl) <| Qb rfl (Qd (v := (i64 2)) rfl) <| Qb rfl (Qd (v := (u8 c)) rfl) ?_
 refine rN (Qg ?_)
 refine rM rfl s2 <| Qb rfl (Qc (v := (u8 c)) rfl) <| Qb rfl (Ve ⟨_, Vh⟩ Yx rfl) <| Qb rfl (Qc (v := (i64 2)) rfl) <| Qb (v := (i64 16)) rfl (Xj (a := 8) (b := 2) rfl rfl oM oM) <| Qb rfl (Gt (b := 16) rfl rfl oM) <| Qb rfl (Um rfl rfl) <| rA rfl rfl ?_
 refine Zz (Qn ?_)
 refine CW.abs (fun g => g 0 = v ∧ g 2 = (u32 (((0#32 ||| ((a.setWidth 32) <<< 0)) ||| ((b.setWidth 32) <<< 8)) ||| ((c.setWidth 32) <<< 16))) ∧ g 3 = (i64 2) ∧ g 4 = (u8 c) ∧ g 6 = (V8 v 0 4) ∧ g 7 = (i64 4) ∧ g 8 = (i64 2) ∧ g 9 = (bl true) ∧ True) ⟨s0, rfl, rfl, rfl, s6, s7, rfl, rfl, trivial⟩ ?_
 rintro fr4 ⟨s0, s2, s3, s4, s6, s7, s8, s9, _⟩
 refine Qg <| Qb (v := (i64 3)) rfl (Qk (a := 2) (b := 1) s8 rfl oM oM) <| Qb rfl (Qc (v := (i64 3)) rfl) ?_
 refine rN (Zu (sR ?_))
 refine Qb rfl (Qs (a := 3) (b := 4) rfl s7) ?_
 refine rN (Qh ?_)
 refine Zf rfl (by decide) ?_
 refine Zc (Qi (Qh (Qv (sR ?_))))
 refine Qb rfl (Qc (v := (i64 3)) rfl) <| Qb rfl (Xi (i := 3) (Rd.cast (l' := [a, b, c, d]) (Rd.sub (hr.ext hm0.toExt) oM oM (by simp only [List.length_cons]; omega)) rfl) Z4 Yq s6 rfl oM (by simp)) <| Qb (v := (u8 d)) rfl (Yg (l := [a, b, c, d]) (i := 3) (dflt := 0) (Rd.cast (l' := [a, b, c, d]) (Rd.sub (hr.ext hm0.toExt) oM oM (by simp only [List.length_cons]; omega)) rfl) Vh rfl oM (by simp) rfl) <| Qb rfl (Qd (v := (i64 3)) rfl) <| Qb rfl (Qd (v := (u8 d)) rfl) ?_
 refine rN (Qg ?_)
 refine rM rfl s2 <| Qb rfl (Qc (v := (u8 d)) rfl) <| Qb rfl (Ve ⟨_, Vh⟩ Yx rfl) <| Qb rfl (Qc (v := (i64 3)) rfl) <| Qb (v := (i64 24)) rfl (Xj (a := 8) (b := 3) rfl rfl oM oM) <| Qb rfl (Gt (b := 24) rfl rfl oM) <| Qb rfl (Um rfl rfl) <| rA rfl rfl ?_
 refine Zz (Qn ?_)
 refine CW.abs (fun g => g 0 = v ∧ g 2 = (u32 ((((0#32 ||| ((a.setWidth 32) <<< 0)) ||| ((b.setWidth 32) <<< 8)) ||| ((c.setWidth 32) <<< 16)) ||| ((d.setWidth 32) <<< 24))) ∧ g 3 = (i64 3) ∧ g 4 = (u8 d) ∧ g 6 = (V8 v 0 4) ∧ g 7 = (i64 4) ∧ g 8 = (i64 3) ∧ g 9 = (bl true) ∧ True) ⟨s0, rfl, rfl, rfl, s6, s7, rfl, rfl, trivial⟩ ?_
 rintro fr5 ⟨s0, s2, s3, s4, s6, s7, s8, s9, _⟩
 refine Qg <| Qb (v := (i64 4)) rfl (Qk (a := 3) (b := 1) s8 rfl oM oM) <| Qb rfl (Qc (v := (i64 4)) rfl) ?_
 refine rN (Zu (sR ?_))
 refine Qb rfl (Qs (a := 4) (b := 4) rfl s7) ?_
 refine rN (Qh ?_)
 refine Yt rfl (by decide) <| Yb ?_
 refine Zb (Zb (Xw ?_))
 refine sR <| rM rfl s2 <| rA rfl rfl ?_
 refine rN (Xn ?_)
 refine Zj [(u32 ((((0#32 ||| ((a.setWidth 32) <<< 0)) ||| ((b.setWidth 32) <<< 8)) ||| ((c.setWidth 32) <<< 16)) ||| ((d.setWidth 32) <<< 24)))] ⟨rfl, trivial⟩ ?_
 exact ⟨rfl, hm0.toExt⟩
theorem Uf (bs : Nat) (s : List (BitVec 32)) (i0 i1 i2 i3 : Int) (w0 : World) (R : Rest) (hm0 : Mem w0 R [(bs, .cells (cl u32 s) 156 (0, 0))]) (hl : s.length = 16) (h0 : 0 ≤ i0 ∧ i0 < 16) (h1 : 0 ≤ i1 ∧ i1 < 16) (h2 : 0 ≤ i2 ∧ i2 < 16) (h3 : 0 ≤ i3 ∧ i3 < 16) : X8 Tryd.prog 104 #[(ptr bs 0), (agg i64 ([i0, i1, i2, i3]))] w0 (fun r w1 => r = .tuple #[] ∧ Mem w1 R [(bs, .cells (cl u32 (Vk s i0.toNat i1.toNat i2.toNat i3.toNat)) 156 (0, 0))]) := by
 refine Zp (args := [(ptr bs 0), (agg i64 ([i0, i1, i2, i3]))]) Tryd.func104 rfl Tryd.ntmps104 Tryd.results104 rfl <| sR <| Zo rfl (X4 (f := i64) (l := [i0, i1, i2, i3]) hm0 rfl) ?_
 rintro _ w1 ⟨b3, rfl, _ew1, hm1⟩
 refine rN (sR ?_)
 refine Zo rfl (Zy hm1 Qdj) ?_
 rintro _ w2 ⟨b4, rfl, _ew2, hm2⟩
 refine rN (Qh (sR ?_))
 refine Qb (v := (agg i64 ([i0, i1, i2, i3]))) rfl (Z9 Us rfl Po rfl hm2.h1 sZ) <| Qb rfl (Qc (v := (i64 0)) rfl) ?_
 refine rN (Qv ?_)
 refine Jw 5 ?_
 refine Zu (sR ?_)
 refine Qb rfl (Qs (a := 0) (b := 4) rfl rfl) ?_
 refine rN (Qh ?_)
 refine Zf rfl (by decide) ?_
 refine Zc (Qi (Qh (Qv (sR ?_))))
 refine Qb rfl (Qc (v := (i64 0)) rfl) <| Qb (v := (i64 i0)) rfl (Yn (i := 0) Us Gj rfl Uz rfl rfl oM sD (Zm _ _ 0 (by simp))) <| Qb rfl (Qd (v := (i64 0)) rfl) <| Qb rfl (Qd (v := (i64 i0)) rfl) ?_
 refine rN (Qg ?_)
 refine Qb rfl (Qc (v := (i64 0)) rfl) <| Qb rfl (Qc (v := (ptr bs 0)) rfl) <| Qb rfl (Qc (v := (i64 i0)) rfl) <| Qb rfl (Zv rfl) <| Qb rfl (Qm (r := (i0 : Int).toNat) oM Gm Xb rfl rfl oM sD) <| Qb (v := (u32 (s.getD ((i0 : Int).toNat) 0))) rfl (Qy Yx rfl rfl hm2.h2 (Zm _ _ 0 sD)) <| Qb rfl (Qm (r := 0) (i := 0) oM Vd Xb rfl rfl oM oM) <| Xf (Zx (f := u32) (l' := [s.getD ((i0 : Int).toNat) 0, 0, 0, 0]) rfl Xq Xb rfl rfl hm2.h0 (by simp) (.inl (Nat.zero_le _))) ?_
 rintro _ w3 uq3
 have hm3 := hm2.upd0 uq3
 refine Zz (Qn ?_)
 refine CW.abs (fun g => g 0 = (ptr bs 0) ∧ g 1 = (agg i64 ([i0, i1, i2, i3])) ∧ g 3 = (ptr b3 0) ∧ g 4 = (ptr b4 0) ∧ g 5 = (i64 0) ∧ g 6 = (i64 i0) ∧ g 9 = (agg i64 ([i0, i1, i2, i3])) ∧ g 10 = (i64 0) ∧ g 11 = (bl true) ∧ True) ⟨rfl, rfl, rfl, rfl, rfl, rfl, rfl, rfl, rfl, trivial⟩ ?_
 rintro fr4 ⟨s0, s1, s3, s4, s5, s6, s9, s10, s11, _⟩
 refine Qg <| Qb (v := (i64 1)) rfl (Qk (a := 0) (b := 1) s10 rfl oM oM) <| Qb rfl (Qc (v := (i64 1)) rfl) ?_
 refine rN (Zu (sR ?_))
 refine Qb rfl (Qs (a := 1) (b := 4) rfl rfl) ?_
 refine rN (Qh ?_)
 refine Zf rfl (by decide) ?_
 refine Zc (Qi (Qh (Qv (sR ?_))))
 refine Qb rfl (Qc (v := (i64 1)) rfl) <| Qb (v := (i64 i1)) rfl (Yn (i := 1) Us Gj rfl Uz s9 rfl oM sD (Zm _ _ 0 (by simp))) <| Qb rfl (Qd (v := (i64 1)) rfl) <| Qb rfl (Qd (v := (i64 i1)) rfl) ?_
 refine rN (Qg ?_)
 refine Qb rfl (Qc (v := (i64 1)) rfl) <| rM rfl s0 <| Qb rfl (Qc (v := (i64 i1)) rfl) <| Qb rfl (Zv rfl) <| Qb rfl (Qm (r := (i1 : Int).toNat) oM Gm Xb rfl rfl oM sD) <| Qb (v := (u32 (s.getD ((i1 : Int).toNat) 0))) rfl (Qy Yx rfl rfl hm3.h2 (Zm _ _ 0 sD)) <| Qb rfl (Qm (r := 1) (i := 1) oM Vd Xb s4 rfl oM oM) <| Xf (Zx (f := u32) (l' := [s.getD ((i0 : Int).toNat) 0, s.getD ((i1 : Int).toNat) 0, 0, 0]) rfl Xq Xb rfl rfl hm3.h0 (by simp) (.inl (Nat.zero_le _))) ?_
 rintro _ w5 uq5
 have hm5 := hm3.upd0 uq5
 refine Zz (Qn ?_)
 refine CW.abs (fun g => g 0 = (ptr bs 0) ∧ g 1 = (agg i64 ([i0, i1, i2, i3])) ∧ g 3 = (ptr b3 0) ∧ g 4 = (ptr b4 0) ∧ g 5 = (i64 1) ∧ g 6 = (i64 i1) ∧ g 9 = (agg i64 ([i0, i1, i2, i3])) ∧ g 10 = (i64 1) ∧ g 11 = (bl true) ∧ True) ⟨s0, s1, s3, s4, rfl, rfl, s9, rfl, rfl, trivial⟩ ?_
 rintro fr6 ⟨s0, s1, s3, s4, s5, s6, s9, s10, s11, _⟩
 refine Qg <| Qb (v := (i64 2)) rfl (Qk (a := 1) (b := 1) s10 rfl oM oM) <| Qb rfl (Qc (v := (i64 2)) rfl) ?_
 refine rN (Zu (sR ?_))
 refine Qb rfl (Qs (a := 2) (b := 4) rfl rfl) ?_
 refine rN (Qh ?_)
 refine Zf rfl (by decide) ?_
 refine Zc (Qi (Qh (Qv (sR ?_))))
 refine Qb rfl (Qc (v := (i64 2)) rfl) <| Qb (v := (i64 i2)) rfl (Yn (i := 2) Us Gj rfl Uz s9 rfl oM sD (Zm _ _ 0 (by simp))) <| Qb rfl (Qd (v := (i64 2)) rfl) <| Qb rfl (Qd (v := (i64 i2)) rfl) ?_
 refine rN (Qg ?_)
 refine Qb rfl (Qc (v := (i64 2)) rfl) <| rM rfl s0 <| Qb rfl (Qc (v := (i64 i2)) rfl) <| Qb rfl (Zv rfl) <| Qb rfl (Qm (r := (i2 : Int).toNat) oM Gm Xb rfl rfl oM sD) <| Qb (v := (u32 (s.getD ((i2 : Int).toNat) 0))) rfl (Qy Yx rfl rfl hm5.h2 (Zm _ _ 0 sD)) <| Qb rfl (Qm (r := 2) (i := 2) oM Vd Xb s4 rfl oM oM) <| Xf (Zx (f := u32) (l' := [s.getD ((i0 : Int).toNat) 0, s.getD ((i1 : Int).toNat) 0, s.getD ((i2 : Int).toNat) 0, 0]) rfl Xq Xb rfl rfl hm5.h0 (by simp) (.inl (Nat.zero_le _))) ?_
 rintro _ w7 uq7
 have hm7 := hm5.upd0 uq7
 refine Zz (Qn ?_)
 refine CW.abs (fun g => g 0 = (ptr bs 0) ∧ g 1 = (agg i64 ([i0, i1, i2, i3])) ∧ g 3 = (ptr b3 0) ∧ g 4 = (ptr b4 0) ∧ g 5 = (i64 2) ∧ g 6 = (i64 i2) ∧ g 9 = (agg i64 ([i0, i1, i2, i3])) ∧ g 10 = (i64 2) ∧ g 11 = (bl true) ∧ True) ⟨s0, s1, s3, s4, rfl, rfl, s9, rfl, rfl, trivial⟩ ?_
 rintro fr8 ⟨s0, s1, s3, s4, s5, s6, s9, s10, s11, _⟩
 refine Qg <| Qb (v := (i64 3)) rfl (Qk (a := 2) (b := 1) s10 rfl oM oM) <| Qb rfl (Qc (v := (i64 3)) rfl) ?_
 refine rN (Zu (sR ?_))
 refine Qb rfl (Qs (a := 3) (b := 4) rfl rfl) ?_
 refine rN (Qh ?_)
 refine Zf rfl (by decide) ?_
 refine Zc (Qi (Qh (Qv (sR ?_))))
 refine Qb rfl (Qc (v := (i64 3)) rfl) <| Qb (v := (i64 i3)) rfl (Yn (i := 3) Us Gj rfl Uz s9 rfl oM sD (Zm _ _ 0 (by simp))) <| Qb rfl (Qd (v := (i64 3)) rfl) <| Qb rfl (Qd (v := (i64 i3)) rfl) ?_
 refine rN (Qg ?_)
 refine Qb rfl (Qc (v := (i64 3)) rfl) <| rM rfl s0 <| Qb rfl (Qc (v := (i64 i3)) rfl) <| Qb rfl (Zv rfl) <| Qb rfl (Qm (r := (i3 : Int).toNat) oM Gm Xb rfl rfl oM sD) <| Qb (v := (u32 (s.getD ((i3 : Int).toNat) 0))) rfl (Qy Yx rfl rfl hm7.h2 (Zm _ _ 0 sD)) <| Qb rfl (Qm (r := 3) (i := 3) oM Vd Xb s4 rfl oM oM) <| Xf (Zx (f := u32) (l' := [s.getD ((i0 : Int).toNat) 0, s.getD ((i1 : Int).toNat) 0, s.getD ((i2 : Int).toNat) 0, s.getD ((i3 : Int).toNat) 0]) rfl Xq Xb rfl rfl hm7.h0 (by simp) (.inl (Nat.zero_le _))) ?_
 rintro _ w9 uq9
 have hm9 := hm7.upd0 uq9
 refine Zz (Qn ?_)
 refine CW.abs (fun g => g 0 = (ptr bs 0) ∧ g 1 = (agg i64 ([i0, i1, i2, i3])) ∧ g 3 = (ptr b3 0) ∧ g 4 = (ptr b4 0) ∧ g 5 = (i64 3) ∧ g 6 = (i64 i3) ∧ g 9 = (agg i64 ([i0, i1, i2, i3])) ∧ g 10 = (i64 3) ∧ g 11 = (bl true) ∧ True) ⟨s0, s1, s3, s4, rfl, rfl, s9, rfl, rfl, trivial⟩ ?_
 rintro fr10 ⟨s0, s1, s3, s4, s5, s6, s9, s10, s11, _⟩
 refine Qg <| Qb (v := (i64 4)) rfl (Qk (a := 3) (b := 1) s10 rfl oM oM) <| Qb rfl (Qc (v := (i64 4)) rfl) ?_
 refine rN (Zu (sR ?_))
 refine Qb rfl (Qs (a := 4) (b := 4) rfl rfl) ?_
 refine rN (Qh ?_)
 refine Yt rfl (by decide) <| Yb ?_
 refine Zb (Zb (Xw ?_))
 refine sR <| Qb (v := (agg u32 ([s.getD ((i0 : Int).toNat) 0, s.getD ((i1 : Int).toNat) 0, s.getD ((i2 : Int).toNat) 0, s.getD ((i3 : Int).toNat) 0]))) rfl (Z9 Vd rfl Qdj s4 hm9.h0 sZ) <| Zo rfl (Qx Tryd.func114 bd114 nm114 (Ye rfl) (Qh4 (s.getD ((i0 : Int).toNat) 0) (s.getD ((i1 : Int).toNat) 0) (s.getD ((i2 : Int).toNat) 0) (s.getD ((i3 : Int).toNat) 0) _)) ?_
 rintro _ w11 ⟨rfl, _ew11⟩
 have hm11 := hm9.ext _ew11
 refine Qb rfl (Qc (v := (i64 0)) rfl) ?_
 refine rN (Uo ?_)
 refine Jw 5 ?_
 refine Zu (sR ?_)
 refine Qb rfl (Qs (a := 0) (b := 4) rfl rfl) ?_
 refine rN (Qh ?_)
 refine Zf rfl (by decide) ?_
 refine Zc (Qi (Qh (Qv (sR ?_))))
 refine Qb rfl (Qc (v := (i64 0)) rfl) <| Qb (v := (u32 ((Wj Za (s.getD ((i0 : Int).toNat) 0) (s.getD ((i1 : Int).toNat) 0) (s.getD ((i2 : Int).toNat) 0) (s.getD ((i3 : Int).toNat) 0)).getD 0 0))) rfl (Yn (i := 0) Vd Yx rfl Xb rfl rfl oM sD (Zm _ _ 0 sD)) <| Qb rfl (Qd (v := (i64 0)) rfl) <| rA rfl rfl <| rN ?_
 refine CW.abs (fun g => g 0 = (ptr bs 0) ∧ g 1 = (agg i64 ([i0, i1, i2, i3])) ∧ g 3 = (ptr b3 0) ∧ g 4 = (ptr b4 0) ∧ g 5 = (i64 3) ∧ g 6 = (i64 i3) ∧ g 7 = (i64 0) ∧ g 8 = (u32 ((Wj Za (s.getD ((i0 : Int).toNat) 0) (s.getD ((i1 : Int).toNat) 0) (s.getD ((i2 : Int).toNat) 0) (s.getD ((i3 : Int).toNat) 0)).getD 0 0)) ∧ g 9 = (agg i64 ([i0, i1, i2, i3])) ∧ g 10 = (i64 4) ∧ g 11 = (bl false) ∧ g 23 = (agg u32 (Wj Za (s.getD ((i0 : Int).toNat) 0) (s.getD ((i1 : Int).toNat) 0) (s.getD ((i2 : Int).toNat) 0) (s.getD ((i3 : Int).toNat) 0))) ∧ g 24 = (i64 0) ∧ g 25 = (bl true) ∧ True) ⟨s0, s1, s3, s4, s5, s6, rfl, rfl, s9, rfl, rfl, rfl, rfl, rfl, trivial⟩ ?_
 rintro fr12 ⟨s0, s1, s3, s4, s5, s6, s7, s8, s9, s10, s11, s23, s24, s25, _⟩
 refine Yc [(0, false), (1, false), (2, false), (3, false), (4, false), (5, false)] 6 (by kernel_rfl) <| dM rfl rfl s0 <| dM rfl rfl s7 <| Qw rfl rfl (fun _ _hx => Qm (r := 0) (i := 0) oM Us Uz s3 rfl oM oM) <| Qw (v := (i64 i0)) rfl rfl (fun _ _hx => Qy Gj rfl rfl (hm11.ext _hx).h1 (Zm _ _ 0 (by simp))) <| dM rfl rfl s8 <| Qw rfl rfl (fun _ _hx => Zv rfl) ?_
 refine X3 (fun w13 _ew13 => ?_)
 have hm13 := hm11.ext _ew13
 refine Qb rfl (Qm (r := (i0 : Int).toNat) oM Gm Xb rfl rfl oM sD) <| Xf (Yj (f := u32) (a := (Wj Za (s.getD ((i0 : Int).toNat) 0) (s.getD ((i1 : Int).toNat) 0) (s.getD ((i2 : Int).toNat) 0) (s.getD ((i3 : Int).toNat) 0)).getD 0 0) Xq Xb rfl rfl hm13.h2 sD (.inl (Nat.zero_le _))) ?_
 rintro _ w14 uq14
 have hm14 := hm13.upd2 uq14
 refine Zz (Qn (Qg ?_))
 refine Qb (v := (i64 1)) rfl (Qk (a := 0) (b := 1) s24 rfl oM oM) <| Qb rfl (Qc (v := (i64 1)) rfl) ?_
 refine rN (Zu (sR ?_))
 refine Qb rfl (Qs (a := 1) (b := 4) rfl rfl) ?_
 refine rN (Qh ?_)
 refine Zf rfl (by decide) ?_
 refine Zc (Qi (Qh (Qv (sR ?_))))
 refine Qb rfl (Qc (v := (i64 1)) rfl) <| Qb (v := (u32 ((Wj Za (s.getD ((i0 : Int).toNat) 0) (s.getD ((i1 : Int).toNat) 0) (s.getD ((i2 : Int).toNat) 0) (s.getD ((i3 : Int).toNat) 0)).getD 1 0))) rfl (Yn (i := 1) Vd Yx rfl Xb s23 rfl oM sD (Zm _ _ 0 sD)) <| Qb rfl (Qd (v := (i64 1)) rfl) <| rA rfl rfl <| rN ?_
 refine CW.abs (fun g => g 0 = (ptr bs 0) ∧ g 1 = (agg i64 ([i0, i1, i2, i3])) ∧ g 3 = (ptr b3 0) ∧ g 4 = (ptr b4 0) ∧ g 5 = (i64 3) ∧ g 6 = (i64 i3) ∧ g 7 = (i64 1) ∧ g 8 = (u32 ((Wj Za (s.getD ((i0 : Int).toNat) 0) (s.getD ((i1 : Int).toNat) 0) (s.getD ((i2 : Int).toNat) 0) (s.getD ((i3 : Int).toNat) 0)).getD 1 0)) ∧ g 9 = (agg i64 ([i0, i1, i2, i3])) ∧ g 10 = (i64 4) ∧ g 11 = (bl false) ∧ g 23 = (agg u32 (Wj Za (s.getD ((i0 : Int).toNat) 0) (s.getD ((i1 : Int).toNat) 0) (s.getD ((i2 : Int).toNat) 0) (s.getD ((i3 : Int).toNat) 0))) ∧ g 24 = (i64 1) ∧ g 25 = (bl true) ∧ True) ⟨s0, s1, s3, s4, s5, s6, rfl, rfl, s9, s10, s11, s23, rfl, rfl, trivial⟩ ?_
 rintro fr15 ⟨s0, s1, s3, s4, s5, s6, s7, s8, s9, s10, s11, s23, s24, s25, _⟩
 refine Yc [(0, false), (1, false), (2, false), (3, false), (4, false), (5, false)] 6 (by kernel_rfl) <| dM rfl rfl s0 <| dM rfl rfl s7 <| Qw rfl rfl (fun _ _hx => Qm (r := 1) (i := 1) oM Us Uz s3 rfl oM oM) <| Qw (v := (i64 i1)) rfl rfl (fun _ _hx => Qy Gj rfl rfl (hm14.ext _hx).h1 (Zm _ _ 0 (by simp))) <| dM rfl rfl s8 <| Qw rfl rfl (fun _ _hx => Zv rfl) ?_
 refine X3 (fun w16 _ew16 => ?_)
 have hm16 := hm14.ext _ew16
 refine Qb rfl (Qm (r := (i1 : Int).toNat) oM Gm Xb rfl rfl oM sD) <| Xf (Yj (f := u32) (a := (Wj Za (s.getD ((i0 : Int).toNat) 0) (s.getD ((i1 : Int).toNat) 0) (s.getD ((i2 : Int).toNat) 0) (s.getD ((i3 : Int).toNat) 0)).getD 1 0) Xq Xb rfl rfl hm16.h2 sD (.inl (Nat.zero_le _))) ?_
 rintro _ w17 uq17
 have hm17 := hm16.upd2 uq17
 refine Zz (Qn (Qg ?_))
 refine Qb (v := (i64 2)) rfl (Qk (a := 1) (b := 1) s24 rfl oM oM) <| Qb rfl (Qc (v := (i64 2)) rfl) ?_
 refine rN (Zu (sR ?_))
 refine Qb rfl (Qs (a := 2) (b := 4) rfl rfl) ?_
 refine rN (Qh ?_)
 refine Zf rfl (by decide) ?_
 refine Zc (Qi (Qh (Qv (sR ?_))))
 refine Qb rfl (Qc (v := (i64 2)) rfl) <| Qb (v := (u32 ((Wj Za (s.getD ((i0 : Int).toNat) 0) (s.getD ((i1 : Int).toNat) 0) (s.getD ((i2 : Int).toNat) 0) (s.getD ((i3 : Int).toNat) 0)).getD 2 0))) rfl (Yn (i := 2) Vd Yx rfl Xb s23 rfl oM sD (Zm _ _ 0 sD)) <| Qb rfl (Qd (v := (i64 2)) rfl) <| rA rfl rfl <| rN ?_
 refine CW.abs (fun g => g 0 = (ptr bs 0) ∧ g 1 = (agg i64 ([i0, i1, i2, i3])) ∧ g 3 = (ptr b3 0) ∧ g 4 = (ptr b4 0) ∧ g 5 = (i64 3) ∧ g 6 = (i64 i3) ∧ g 7 = (i64 2) ∧ g 8 = (u32 ((Wj Za (s.getD ((i0 : Int).toNat) 0) (s.getD ((i1 : Int).toNat) 0) (s.getD ((i2 : Int).toNat) 0) (s.getD ((i3 : Int).toNat) 0)).getD 2 0)) ∧ g 9 = (agg i64 ([i0, i1, i2, i3])) ∧ g 10 = (i64 4) ∧ g 11 = (bl false) ∧ g 23 = (agg u32 (Wj Za (s.getD ((i0 : Int).toNat) 0) (s.getD ((i1 : Int).toNat) 0) (s.getD ((i2 : Int).toNat) 0) (s.getD ((i3 : Int).toNat) 0))) ∧ g 24 = (i64 2) ∧ g 25 = (bl true) ∧ True) ⟨s0, s1, s3, s4, s5, s6, rfl, rfl, s9, s10, s11, s23, rfl, rfl, trivial⟩ ?_
 rintro fr18 ⟨s0, s1, s3, s4, s5, s6, s7, s8, s9, s10, s11, s23, s24, s25, _⟩
 refine Yc [(0, false), (1, false), (2, false), (3, false), (4, false), (5, false)] 6 (by kernel_rfl) <| dM rfl rfl s0 <| dM rfl rfl s7 <| Qw rfl rfl (fun _ _hx => Qm (r := 2) (i := 2) oM Us Uz s3 rfl oM oM) <| Qw (v := (i64 i2)) rfl rfl (fun _ _hx => Qy Gj rfl rfl (hm17.ext _hx).h1 (Zm _ _ 0 (by simp))) <| dM rfl rfl s8 <| Qw rfl rfl (fun _ _hx => Zv rfl) ?_
 refine X3 (fun w19 _ew19 => ?_)
 have hm19 := hm17.ext _ew19
 refine Qb rfl (Qm (r := (i2 : Int).toNat) oM Gm Xb rfl rfl oM sD) <| Xf (Yj (f := u32) (a := (Wj Za (s.getD ((i0 : Int).toNat) 0) (s.getD ((i1 : Int).toNat) 0) (s.getD ((i2 : Int).toNat) 0) (s.getD ((i3 : Int).toNat) 0)).getD 2 0) Xq Xb rfl rfl hm19.h2 sD (.inl (Nat.zero_le _))) ?_
 rintro _ w20 uq20
 have hm20 := hm19.upd2 uq20
 refine Zz (Qn (Qg ?_))
 refine Qb (v := (i64 3)) rfl (Qk (a := 2) (b := 1) s24 rfl oM oM) <| Qb rfl (Qc (v := (i64 3)) rfl) ?_
 refine rN (Zu (sR ?_))
 refine Qb rfl (Qs (a := 3) (b := 4) rfl rfl) ?_
 refine rN (Qh ?_)
 refine Zf rfl (by decide) ?_
 refine Zc (Qi (Qh (Qv (sR ?_))))
 refine Qb rfl (Qc (v := (i64 3)) rfl) <| Qb (v := (u32 ((Wj Za (s.getD ((i0 : Int).toNat) 0) (s.getD ((i1 : Int).toNat) 0) (s.getD ((i2 : Int).toNat) 0) (s.getD ((i3 : Int).toNat) 0)).getD 3 0))) rfl (Yn (i := 3) Vd Yx rfl Xb s23 rfl oM sD (Zm _ _ 0 sD)) <| Qb rfl (Qd (v := (i64 3)) rfl) <| rA rfl rfl <| rN ?_
 refine CW.abs (fun g => g 0 = (ptr bs 0) ∧ g 1 = (agg i64 ([i0, i1, i2, i3])) ∧ g 3 = (ptr b3 0) ∧ g 4 = (ptr b4 0) ∧ g 5 = (i64 3) ∧ g 6 = (i64 i3) ∧ g 7 = (i64 3) ∧ g 8 = (u32 ((Wj Za (s.getD ((i0 : Int).toNat) 0) (s.getD ((i1 : Int).toNat) 0) (s.getD ((i2 : Int).toNat) 0) (s.getD ((i3 : Int).toNat) 0)).getD 3 0)) ∧ g 9 = (agg i64 ([i0, i1, i2, i3])) ∧ g 10 = (i64 4) ∧ g 11 = (bl false) ∧ g 23 = (agg u32 (Wj Za (s.getD ((i0 : Int).toNat) 0) (s.getD ((i1 : Int).toNat) 0) (s.getD ((i2 : Int).toNat) 0) (s.getD ((i3 : Int).toNat) 0))) ∧ g 24 = (i64 3) ∧ g 25 = (bl true) ∧ True) ⟨s0, s1, s3, s4, s5, s6, rfl, rfl, s9, s10, s11, s23, rfl, rfl, trivial⟩ ?_
 rintro fr21 ⟨s0, s1, s3, s4, s5, s6, s7, s8, s9, s10, s11, s23, s24, s25, _⟩
 refine Yc [(0, false), (1, false), (2, false), (3, false), (4, false), (5, false)] 6 (by kernel_rfl) <| dM rfl rfl s0 <| dM rfl rfl s7 <| Qw rfl rfl (fun _ _hx => Qm (r := 3) (i := 3) oM Us Uz s3 rfl oM oM) <| Qw (v := (i64 i3)) rfl rfl (fun _ _hx => Qy Gj rfl rfl (hm20.ext _hx).h1 (Zm _ _ 0 (by simp))) <| dM rfl rfl s8 <| Qw rfl rfl (fun _ _hx => Zv rfl) ?_
 refine X3 (fun w22 _ew22 => ?_)
 have hm22 := hm20.ext _ew22
 refine Qb rfl (Qm (r := (i3 : Int).toNat) oM Gm Xb rfl rfl oM sD) <| Xf (Yj (f := u32) (a := (Wj Za (s.getD ((i0 : Int).toNat) 0) (s.getD ((i1 : Int).toNat) 0) (s.getD ((i2 : Int).toNat) 0) (s.getD ((i3 : Int).toNat) 0)).getD 3 0) Xq Xb rfl rfl hm22.h2 sD (.inl (Nat.zero_le _))) ?_
 rintro _ w23 uq23
 have hm23 := hm22.upd2 uq23
 refine Zz (Qn (Qg ?_))
 refine Qb (v := (i64 4)) rfl (Qk (a := 3) (b := 1) s24 rfl oM oM) <| Qb rfl (Qc (v := (i64 4)) rfl) ?_
 refine rN (Zu (sR ?_))
 refine Qb rfl (Qs (a := 4) (b := 4) rfl rfl) ?_
 refine rN (Qh ?_)
 refine Yt rfl (by decide) <| Yb ?_
 refine Zb (Zb (Xw ?_))
 refine Ej [] trivial ?_
 exact ⟨rfl, Mem.drop [_, _] _ hm23⟩
end Go.Proofs.YtkmiemlpfkfiiaaDoor
