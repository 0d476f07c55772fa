/- Contracts: stream, second part. Conditions: none beyond those that each theorem states. -/
import Derived.Test.YtkmiemlpfkfiiaaDoorSt1
namespace Go.Proofs.YtkmiemlpfkfiiaaDoor
set_option linter.unusedVariables false
set_option linter.unusedSimpArgs false
def Gm (key : List (BitVec 8)) (i n : Nat) : List (BitVec 8) := (key.drop i).take n
def J7 (word : List (BitVec 8) → BitVec 32) (key : List (BitVec 8)) (counter : BitVec 32) (nonce : List (BitVec 8)) : List (BitVec 32) :=
  [1634760805#32, 857760878#32, 2036477234#32, 1797285236#32, word key, word (Gm key 4 28), word (Gm key 8 24), word (Gm key 12 20),
   word (Gm key 16 16), word (Gm key 20 12), word (Gm key 24 8), word (Gm key 28 4), counter, word nonce, word (Gm nonce 4 8), word (Gm nonce 8 4)]
@[simp] theorem beginP_length (word : List (BitVec 8) → BitVec 32) (key : List (BitVec 8)) (counter : BitVec 32) (nonce : List (BitVec 8)) : (J7 word key counter nonce).length = 16 := rfl
attribute [simp] Qk8
def dbl (s : List (BitVec 32)) : List (BitVec 32) :=
 Ew (Ew (Ew (Ew (Ew (Ew (Ew (Ew s 0 4 8 12) 1 5 9 13) 2 6 10 14) 3 7 11 15) 0 5 10 15) 1 6 11 12) 2 7 8 13) 3 4 9 14
def X9 (f : List (BitVec 32) → List (BitVec 32)) : Nat → List (BitVec 32) → List (BitVec 32)
 | 0, s => s
 | k + 1, s => f (X9 f k s)
@[simp] theorem dbl_length (s : List (BitVec 32)) : (dbl s).length = s.length := by simp [dbl]
@[simp] theorem Qmp (k : Nat) (s : List (BitVec 32)) : (X9 dbl k s).length = s.length := by
 induction k with
 | zero => rfl
 | succ k ih => simp [X9, ih]
def Ak (s f : List (BitVec 32)) (i : Nat) : BitVec 8 :=
 ((s.getD ((i : Int) / 4).toNat 0 + f.getD ((i : Int) / 4).toNat 0) >>> (8 * ((i : Int) % 4)).toNat).setWidth 8
def Yx (key : List (BitVec 8)) (counter : BitVec 32) (nonce : List (BitVec 8)) : List (BitVec 8) :=
 Yk (Ak (X9 dbl 10 (J7 Z4 key counter nonce)) (J7 Z4 key counter nonce)) 0 64 64
@[simp] theorem blockP_length (key : List (BitVec 8)) (counter : BitVec 32) (nonce : List (BitVec 8)) : (Yx key counter nonce).length = 64 := by
 unfold Yx; rw [Jl _ _ _ _ oM]
@[simp] theorem filled_length' {α : Type} (g : Nat → α) (z : α) (n k : Nat) : (Yk g z n k).length = k + (n - k) := by simp [Yk]
theorem c_begin (key : List (BitVec 8)) (counter : BitVec 32) (nonce : List (BitVec 8)) (w0 : World)  (hk : key.length = 32) (hn : nonce.length = 12) : Xz Tryd.prog 103 #[(agg u8 key), (u32 counter), (agg u8 nonce)] w0 (fun r w1 => r = (agg u32 (J7 Z4 key counter nonce)) ∧ Ext w0 w1) := by
 refine Zd (args := [(agg u8 key), (u32 counter), (agg u8 nonce)]) Tryd.func103 rfl Tryd.ntmps103 Tryd.results103 rfl ?_
 have m0 : Mem w0 (Qy w0) [] := Mem.of_world w0
 refine sR <| Za rfl (Z8 (f := u8) (l := key) m0 rfl) ?_
 rintro _ w1 ⟨b3, rfl, e1, m1⟩
 refine Za rfl (Z8 (f := u8) (l := nonce) m1 rfl) ?_
 rintro _ w2 ⟨b5, rfl, e2, m2⟩
 refine Za rfl (Zg m2 Qcu) ?_
 rintro _ w3 ⟨b6, rfl, e3, m3⟩
 refine rN (sR ?_)
 refine Qa rfl (Xj (i := 0) (j := 16) U9 Zh rfl (Zy _ _) (Zy _ _) oM sD sD) <| Za rfl (Ql u32 [1634760805#32, 857760878#32, 2036477234#32, 1797285236#32] Z5 m3 Df Zh rfl rfl rfl) ?_
 rintro _ w4 ⟨b10, rfl, e4, m4⟩
 refine Za rfl (Qcf (f := u32) (Eq.trans rfl (Qjj (by decide))) rfl (Rd.mkA m4.h0) Df Zh Z5 m4.h1 sD sD (Nat.le_refl _)) ?_
 rintro _ w5 ⟨rfl, uq5⟩
 have m5 : Mem w5 (Qy w0) [(b10, .cells (cl u32 ([1634760805#32, 857760878#32, 2036477234#32, 1797285236#32])) 106 (0, 0)), (b6, .cells (cl u32 ([1634760805#32, 857760878#32, 2036477234#32, 1797285236#32, 0, 0, 0, 0, 0, 0, 0, 0, 0, 0, 0, 0])) 156 (0, 0)), (b5, .cells (cl u8 nonce) 77 (0, 0)), (b3, .cells (cl u8 key) 23 (0, 0))] := m4.upd1 uq5
 refine rN (Qg (sR ?_))
 refine Qa rfl (Qb (v := (i64 0)) rfl) ?_
 refine rN (Qo ?_)
 refine Kw 9 ?_
 refine Zq (sR ?_)
 refine Qa rfl (Qs (a := 0) (b := 8) rfl rfl) ?_
 refine rN (Qg ?_)
 refine Zc rfl (by decide) ?_
 refine Q7 (Qh (Qg (Qo (sR ?_))))
 refine Qa rfl (Qb (v := (i64 0)) rfl) <| Qa rfl (Qc (v := (i64 0)) rfl) ?_
 refine rN (Qe ?_)
 refine Qa rfl (Qb (v := (i64 0)) rfl) <| Qa (v := (i64 4)) rfl (Qk (a := 4) (b := 0) rfl rfl oM oM) <| Qa rfl (Qb (v := (i64 0)) rfl) <| Qa (v := (i64 0)) rfl (Z7 (a := 4) (b := 0) rfl rfl oM oM) <| Qa rfl (Xj (i := 0) (j := 32) X3 X6 rfl (Jt (k := .i64) (i := 0) rfl) (Zy _ _) oM sD sD) <| Za rfl (Qay (Jj rfl) (Nw (sla b3 0 1 0 32 32) key _ (Rd.slaAll m5.h3 sD) sD)) ?_
 rintro _ w6 ⟨rfl, e6⟩
 have m6 := m5.ext e6
 refine Qa rfl (Qd (r := 4) (i := 4) oM U9 Zh rfl rfl oM oM) <| Zw (Zm (f := u32) (l' := [1634760805#32, 857760878#32, 2036477234#32, 1797285236#32, Z4 key, 0, 0, 0, 0, 0, 0, 0, 0, 0, 0, 0]) rfl Z5 Zh rfl rfl m6.h1 (by simp) (.inl (Nat.zero_le _))) ?_
 rintro _ w8 uq8
 have m8 := m6.upd1 uq8
 refine Zr (Qi ?_)
 have m9 := Mem.drop [_] _ m8
 refine Qe <| Qa (v := (i64 1)) rfl (Qk (a := 0) (b := 1) rfl rfl oM oM) <| Qa rfl (Qb (v := (i64 1)) rfl) ?_
 refine rN (Zq (sR ?_))
 refine Qa rfl (Qs (a := 1) (b := 8) rfl rfl) ?_
 refine rN (Qg ?_)
 refine Zc rfl (by decide) ?_
 refine Q7 (Qh (Qg (Qo (sR ?_))))
 refine Qa rfl (Qb (v := (i64 1)) rfl) <| Qa rfl (Qc (v := (i64 1)) rfl) ?_
 refine rN (Qe ?_)
 refine Qa rfl (Qb (v := (i64 1)) rfl) <| Qa (v := (i64 5)) rfl (Qk (a := 4) (b := 1) rfl rfl oM oM) <| Qa rfl (Qb (v := (i64 1)) rfl) <| Qa (v := (i64 4)) rfl (Z7 (a := 4) (b := 1) rfl rfl oM oM) <| Qa rfl (Xj (i := 4) (j := 32) X3 X6 rfl (Jt (k := .i64) (i := 4) rfl) (Zy _ _) oM sD sD) <| Za rfl (Qay (Jj rfl) (Nw (sla b3 0 1 4 32 32) ((key.drop 4).take 28) _ (Rd.cast (l' := (key.drop 4).take 28) (Rd.sla m9.h2 sD oM sD sD) rfl) sD)) ?_
 rintro _ w10 ⟨rfl, e10⟩
 have m10 := m9.ext e10
 refine Qa rfl (Qd (r := 5) (i := 5) oM U9 Zh rfl rfl oM oM) <| Zw (Zm (f := u32) (l' := [1634760805#32, 857760878#32, 2036477234#32, 1797285236#32, Z4 key, Z4 ((key.drop 4).take 28), 0, 0, 0, 0, 0, 0, 0, 0, 0, 0]) rfl Z5 Zh rfl rfl m10.h0 (by simp) (.inl (Nat.zero_le _))) ?_
 rintro _ w12 uq12
 have m12 := m10.upd0 uq12
 refine Zr (Qi (Qe ?_))
 refine Qa (v := (i64 2)) rfl (Qk (a := 1) (b := 1) rfl rfl oM oM) <| Qa rfl (Qb (v := (i64 2)) rfl) ?_
 refine rN (Zq (sR ?_))
 refine Qa rfl (Qs (a := 2) (b := 8) rfl rfl) ?_
 refine rN (Qg ?_)
 refine Zc rfl (by decide) ?_
 refine Q7 (Qh (Qg (Qo (sR ?_))))
 refine Qa rfl (Qb (v := (i64 2)) rfl) <| Qa rfl (Qc (v := (i64 2)) rfl) ?_
 refine rN (Qe ?_)
 refine Qa rfl (Qb (v := (i64 2)) rfl) <| Qa (v := (i64 6)) rfl (Qk (a := 4) (b := 2) rfl rfl oM oM) <| Qa rfl (Qb (v := (i64 2)) rfl) <| Qa (v := (i64 8)) rfl (Z7 (a := 4) (b := 2) rfl rfl oM oM) <| Qa rfl (Xj (i := 8) (j := 32) X3 X6 rfl (Jt (k := .i64) (i := 8) rfl) (Zy _ _) oM sD sD) <| Za rfl (Qay (Jj rfl) (Nw (sla b3 0 1 8 32 32) ((key.drop 8).take 24) _ (Rd.cast (l' := (key.drop 8).take 24) (Rd.sla m12.h2 sD oM sD sD) rfl) sD)) ?_
 rintro _ w13 ⟨rfl, e13⟩
 have m13 := m12.ext e13
 refine Qa rfl (Qd (r := 6) (i := 6) oM U9 Zh rfl rfl oM oM) <| Zw (Zm (f := u32) (l' := [1634760805#32, 857760878#32, 2036477234#32, 1797285236#32, Z4 key, Z4 ((key.drop 4).take 28), Z4 ((key.drop 8).take 24), 0, 0, 0, 0, 0, 0, 0, 0, 0]) rfl Z5 Zh rfl rfl m13.h0 (by simp) (.inl (Nat.zero_le _))) ?_
 rintro _ w15 uq15
 have m15 := m13.upd0 uq15
 refine Zr (Qi (Qe ?_))
 refine Qa (v := (i64 3)) rfl (Qk (a := 2) (b := 1) rfl rfl oM oM) <| Qa rfl (Qb (v := (i64 3)) rfl) ?_
 refine rN (Zq (sR ?_))
 refine Qa rfl (Qs (a := 3) (b := 8) rfl rfl) ?_
 refine rN (Qg ?_)
 refine Zc rfl (by decide) ?_
 refine Q7 (Qh (Qg (Qo (sR ?_))))
 refine Qa rfl (Qb (v := (i64 3)) rfl) <| Qa rfl (Qc (v := (i64 3)) rfl) ?_
 refine rN (Qe ?_)
 refine Qa rfl (Qb (v := (i64 3)) rfl) <| Qa (v := (i64 7)) rfl (Qk (a := 4) (b := 3) rfl rfl oM oM) <| Qa rfl (Qb (v := (i64 3)) rfl) <| Qa (v := (i64 12)) rfl (Z7 (a := 4) (b := 3) rfl rfl oM oM) <| Qa rfl (Xj (i := 12) (j := 32) X3 X6 rfl (Jt (k := .i64) (i := 12) rfl) (Zy _ _) oM sD sD) <| Za rfl (Qay (Jj rfl) (Nw (sla b3 0 1 12 32 32) ((key.drop 12).take 20) _ (Rd.cast (l' := (key.drop 12).take 20) (Rd.sla m15.h2 sD oM sD sD) rfl) sD)) ?_
 rintro _ w16 ⟨rfl, e16⟩
 have m16 := m15.ext e16
 refine Qa rfl (Qd (r := 7) (i := 7) oM U9 Zh rfl rfl oM oM) <| Zw (Zm (f := u32) (l' := [1634760805#32, 857760878#32, 2036477234#32, 1797285236#32, Z4 key, Z4 ((key.drop 4).take 28), Z4 ((key.drop 8).take 24), Z4 ((key.drop 12).take 20), 0, 0, 0, 0, 0, 0, 0, 0]) rfl Z5 Zh rfl rfl m16.h0 (by simp) (.inl (Nat.zero_le _))) ?_
 rintro _ w18 uq18
 have m18 := m16.upd0 uq18
 refine Zr (Qi (Qe ?_))
 refine Qa (v := (i64 4)) rfl (Qk (a := 3) (b := 1) rfl rfl oM oM) <| Qa rfl (Qb (v := (i64 4)) rfl) ?_
 refine rN (Zq (sR ?_))
 refine Qa rfl (Qs (a := 4) (b := 8) rfl rfl) ?_
 refine rN (Qg ?_)
 refine Zc rfl (by decide) ?_
 refine Q7 (Qh (Qg (Qo (sR ?_))))
 refine Qa rfl (Qb (v := (i64 4)) rfl) <| Qa rfl (Qc (v := (i64 4)) rfl) ?_
 refine rN (Qe ?_)
 refine Qa rfl (Qb (v := (i64 4)) rfl) <| Qa (v := (i64 8)) rfl (Qk (a := 4) (b := 4) rfl rfl oM oM) <| Qa rfl (Qb (v := (i64 4)) rfl) <| Qa (v := (i64 16)) rfl (Z7 (a := 4) (b := 4) rfl rfl oM oM) <| Qa rfl (Xj (i := 16) (j := 32) X3 X6 rfl (Jt (k := .i64) (i := 16) rfl) (Zy _ _) oM sD sD) <| Za rfl (Qay (Jj rfl) (Nw (sla b3 0 1 16 32 32) ((key.drop 16).take 16) _ (Rd.cast (l' := (key.drop 16).take 16) (Rd.sla m18.h2 sD oM sD sD) rfl) sD)) ?_
 rintro _ w19 ⟨rfl, e19⟩
 have m19 := m18.ext e19
 refine Qa rfl (Qd (r := 8) (i := 8) oM U9 Zh rfl rfl oM oM) <| Zw (Zm (f := u32) (l' := [1634760805#32, 857760878#32, 2036477234#32, 1797285236#32, Z4 key, Z4 ((key.drop 4).take 28), Z4 ((key.drop 8).take 24), Z4 ((key.drop 12).take 20), Z4 ((key.drop 16).take 16), 0, 0, 0, 0, 0, 0, 0]) rfl Z5 Zh rfl rfl m19.h0 (by simp) (.inl (Nat.zero_le _))) ?_
 rintro _ w21 uq21
 have m21 := m19.upd0 uq21
 refine Zr (Qi (Qe ?_))
 refine Qa (v := (i64 5)) rfl (Qk (a := 4) (b := 1) rfl rfl oM oM) <| Qa rfl (Qb (v := (i64 5)) rfl) ?_
 refine rN (Zq (sR ?_))
 refine Qa rfl (Qs (a := 5) (b := 8) rfl rfl) ?_
 refine rN (Qg ?_)
 refine Zc rfl (by decide) ?_
 refine Q7 (Qh (Qg (Qo (sR ?_))))
 refine Qa rfl (Qb (v := (i64 5)) rfl) <| Qa rfl (Qc (v := (i64 5)) rfl) ?_
 refine rN (Qe ?_)
 refine Qa rfl (Qb (v := (i64 5)) rfl) <| Qa (v := (i64 9)) rfl (Qk (a := 4) (b := 5) rfl rfl oM oM) <| Qa rfl (Qb (v := (i64 5)) rfl) <| Qa (v := (i64 20)) rfl (Z7 (a := 4) (b := 5) rfl rfl oM oM) <| Qa rfl (Xj (i := 20) (j := 32) X3 X6 rfl (Jt (k := .i64) (i := 20) rfl) (Zy _ _) oM sD sD) <| Za rfl (Qay (Jj rfl) (Nw (sla b3 0 1 20 32 32) ((key.drop 20).take 12) _ (Rd.cast (l' := (key.drop 20).take 12) (Rd.sla m21.h2 sD oM sD sD) rfl) sD)) ?_
 rintro _ w22 ⟨rfl, e22⟩
 have m22 := m21.ext e22
 refine Qa rfl (Qd (r := 9) (i := 9) oM U9 Zh rfl rfl oM oM) <| Zw (Zm (f := u32) (l' := [1634760805#32, 857760878#32, 2036477234#32, 1797285236#32, Z4 key, Z4 ((key.drop 4).take 28), Z4 ((key.drop 8).take 24), Z4 ((key.drop 12).take 20), Z4 ((key.drop 16).take 16), Z4 ((key.drop 20).take 12), 0, 0, 0, 0, 0, 0]) rfl Z5 Zh rfl rfl m22.h0 (by simp) (.inl (Nat.zero_le _))) ?_
 rintro _ w24 uq24
 have m24 := m22.upd0 uq24
 refine Zr (Qi (Qe ?_))
 refine Qa (v := (i64 6)) rfl (Qk (a := 5) (b := 1) rfl rfl oM oM) <| Qa rfl (Qb (v := (i64 6)) rfl) ?_
 refine rN (Zq (sR ?_))
 refine Qa rfl (Qs (a := 6) (b := 8) rfl rfl) ?_
 refine rN (Qg ?_)
 refine Zc rfl (by decide) ?_
 refine Q7 (Qh (Qg (Qo (sR ?_))))
 refine Qa rfl (Qb (v := (i64 6)) rfl) <| Qa rfl (Qc (v := (i64 6)) rfl) <| rN ?_
 refine CW.abs (fun g => g 0 = (agg u8 key) ∧ g 1 = (u32 counter) ∧ g 2 = (agg u8 nonce) ∧ g 3 = (ptr b3 0) ∧ g 5 = (ptr b5 0) ∧ g 6 = (ptr b6 0) ∧ g 7 = (i64 6) ∧ g 12 = (i64 6) ∧ g 13 = (bl true) ∧ True) ⟨rfl, rfl, rfl, rfl, rfl, rfl, rfl, rfl, rfl, trivial⟩ ?_
 rintro fr25 ⟨s0, s1, s2, s3, s5, s6, s7, s12, s13, _⟩
 refine Qe <| rM rfl s7 <| Qa (v := (i64 10)) rfl (Qk (a := 4) (b := 6) rfl rfl oM oM) <| rM rfl s7 <| Qa (v := (i64 24)) rfl (Z7 (a := 4) (b := 6) rfl rfl oM oM) <| Qa rfl (Xj (i := 24) (j := 32) X3 X6 s3 (Jt (k := .i64) (i := 24) rfl) (Zy _ _) oM sD sD) <| Za rfl (Qay (Jj rfl) (Nw (sla b3 0 1 24 32 32) ((key.drop 24).take 8) _ (Rd.cast (l' := (key.drop 24).take 8) (Rd.sla m24.h2 sD oM sD sD) rfl) sD)) ?_
 rintro _ w26 ⟨rfl, e26⟩
 have m26 := m24.ext e26
 refine Qa rfl (Qd (r := 10) (i := 10) oM U9 Zh s6 rfl oM oM) <| Zw (Zm (f := u32) (l' := [1634760805#32, 857760878#32, 2036477234#32, 1797285236#32, Z4 key, Z4 ((key.drop 4).take 28), Z4 ((key.drop 8).take 24), Z4 ((key.drop 12).take 20), Z4 ((key.drop 16).take 16), Z4 ((key.drop 20).take 12), Z4 ((key.drop 24).take 8), 0, 0, 0, 0, 0]) rfl Z5 Zh rfl rfl m26.h0 (by simp) (.inl (Nat.zero_le _))) ?_
 rintro _ w28 uq28
 have m28 := m26.upd0 uq28
 refine Zr (Qi (Qe ?_))
 refine Qa (v := (i64 7)) rfl (Qk (a := 6) (b := 1) s12 rfl oM oM) <| Qa rfl (Qb (v := (i64 7)) rfl) ?_
 refine rN (Zq (sR ?_))
 refine Qa rfl (Qs (a := 7) (b := 8) rfl rfl) ?_
 refine rN (Qg ?_)
 refine Zc rfl (by decide) ?_
 refine Q7 (Qh (Qg (Qo (sR ?_))))
 refine Qa rfl (Qb (v := (i64 7)) rfl) <| Qa rfl (Qc (v := (i64 7)) rfl) ?_
 refine rN (Qe ?_)
 refine Qa rfl (Qb (v := (i64 7)) rfl) <| Qa (v := (i64 11)) rfl (Qk (a := 4) (b := 7) rfl rfl oM oM) <| Qa rfl (Qb (v := (i64 7)) rfl) <| Qa (v := (i64 28)) rfl (Z7 (a := 4) (b := 7) rfl rfl oM oM) <| Qa rfl (Xj (i := 28) (j := 32) X3 X6 s3 (Jt (k := .i64) (i := 28) rfl) (Zy _ _) oM sD sD) <| Za rfl (Qay (Jj rfl) (Nw (sla b3 0 1 28 32 32) ((key.drop 28).take 4) _ (Rd.cast (l' := (key.drop 28).take 4) (Rd.sla m28.h2 sD oM sD sD) rfl) sD)) ?_
 rintro _ w29 ⟨rfl, e29⟩
 have m29 := m28.ext e29
 refine Qa rfl (Qd (r := 11) (i := 11) oM U9 Zh s6 rfl oM oM) <| Zw (Zm (f := u32) (l' := [1634760805#32, 857760878#32, 2036477234#32, 1797285236#32, Z4 key, Z4 ((key.drop 4).take 28), Z4 ((key.drop 8).take 24), Z4 ((key.drop 12).take 20), Z4 ((key.drop 16).take 16), Z4 ((key.drop 20).take 12), Z4 ((key.drop 24).take 8), Z4 ((key.drop 28).take 4), 0, 0, 0, 0]) rfl Z5 Zh rfl rfl m29.h0 (by simp) (.inl (Nat.zero_le _))) ?_
 rintro _ w31 uq31
 have m31 := m29.upd0 uq31
 refine Zr (Qi (Qe ?_))
 refine Qa (v := (i64 8)) rfl (Qk (a := 7) (b := 1) rfl rfl oM oM) <| Qa rfl (Qb (v := (i64 8)) rfl) ?_
 refine rN (Zq (sR ?_))
 refine Qa rfl (Qs (a := 8) (b := 8) rfl rfl) ?_
 refine rN (Qg ?_)
 refine Yp rfl (by decide) <| X0 ?_
 refine Qr (Qr (Xf ?_))
 refine sR <| rM rfl s1 <| Qa rfl (Qd (r := 12) (i := 12) oM U9 Zh s6 rfl oM oM) <| Zw (Zm (f := u32) (l' := [1634760805#32, 857760878#32, 2036477234#32, 1797285236#32, Z4 key, Z4 ((key.drop 4).take 28), Z4 ((key.drop 8).take 24), Z4 ((key.drop 12).take 20), Z4 ((key.drop 16).take 16), Z4 ((key.drop 20).take 12), Z4 ((key.drop 24).take 8), Z4 ((key.drop 28).take 4), counter, 0, 0, 0]) rfl Z5 Zh rfl rfl m31.h0 (by simp) (.inl (Nat.zero_le _))) ?_
 rintro _ w32 uq32
 have m32 := m31.upd0 uq32
 refine rN (Qg (sR ?_))
 refine Qa rfl (Qb (v := (i64 0)) rfl) ?_
 refine rN (Qo ?_)
 refine Kw 4 ?_
 refine Zq (sR ?_)
 refine Qa rfl (Qs (a := 0) (b := 3) rfl rfl) ?_
 refine rN (Qg ?_)
 refine Zc rfl (by decide) ?_
 refine Q7 (Qh (Qg (Qo (sR ?_))))
 refine Qa rfl (Qb (v := (i64 0)) rfl) <| Qa rfl (Qc (v := (i64 0)) rfl) ?_
 refine rN (Qe ?_)
 refine Qa rfl (Qb (v := (i64 0)) rfl) <| Qa (v := (i64 13)) rfl (Qk (a := 13) (b := 0) rfl rfl oM oM) <| Qa rfl (Qb (v := (i64 0)) rfl) <| Qa (v := (i64 0)) rfl (Z7 (a := 4) (b := 0) rfl rfl oM oM) <| Qa rfl (Xj (i := 0) (j := 12) Qah X6 s5 (Jt (k := .i64) (i := 0) rfl) (Zy _ _) oM sD sD) <| Za rfl (Qay (Jj rfl) (Nw (sla b5 0 1 0 12 12) nonce _ (Rd.slaAll m32.h1 sD) sD)) ?_
 rintro _ w33 ⟨rfl, e33⟩
 have m33 := m32.ext e33
 refine Qa rfl (Qd (r := 13) (i := 13) oM U9 Zh s6 rfl oM oM) <| Zw (Zm (f := u32) (l' := [1634760805#32, 857760878#32, 2036477234#32, 1797285236#32, Z4 key, Z4 ((key.drop 4).take 28), Z4 ((key.drop 8).take 24), Z4 ((key.drop 12).take 20), Z4 ((key.drop 16).take 16), Z4 ((key.drop 20).take 12), Z4 ((key.drop 24).take 8), Z4 ((key.drop 28).take 4), counter, Z4 nonce, 0, 0]) rfl Z5 Zh rfl rfl m33.h0 (by simp) (.inl (Nat.zero_le _))) ?_
 rintro _ w35 uq35
 have m35 := m33.upd0 uq35
 refine Zr (Qi (Qe ?_))
 refine Qa (v := (i64 1)) rfl (Qk (a := 0) (b := 1) rfl rfl oM oM) <| Qa rfl (Qb (v := (i64 1)) rfl) ?_
 refine rN (Zq (sR ?_))
 refine Qa rfl (Qs (a := 1) (b := 3) rfl rfl) ?_
 refine rN (Qg ?_)
 refine Zc rfl (by decide) ?_
 refine Q7 (Qh (Qg (Qo (sR ?_))))
 refine Qa rfl (Qb (v := (i64 1)) rfl) <| Qa rfl (Qc (v := (i64 1)) rfl) ?_
 refine rN (Qe ?_)
 refine Qa rfl (Qb (v := (i64 1)) rfl) <| Qa (v := (i64 14)) rfl (Qk (a := 13) (b := 1) rfl rfl oM oM) <| Qa rfl (Qb (v := (i64 1)) rfl) <| Qa (v := (i64 4)) rfl (Z7 (a := 4) (b := 1) rfl rfl oM oM) <| Qa rfl (Xj (i := 4) (j := 12) Qah X6 s5 (Jt (k := .i64) (i := 4) rfl) (Zy _ _) oM sD sD) <| Za rfl (Qay (Jj rfl) (Nw (sla b5 0 1 4 12 12) ((nonce.drop 4).take 8) _ (Rd.cast (l' := (nonce.drop 4).take 8) (Rd.sla m35.h1 sD oM sD sD) rfl) sD)) ?_
 rintro _ w36 ⟨rfl, e36⟩
 have m36 := m35.ext e36
 refine Qa rfl (Qd (r := 14) (i := 14) oM U9 Zh s6 rfl oM oM) <| Zw (Zm (f := u32) (l' := [1634760805#32, 857760878#32, 2036477234#32, 1797285236#32, Z4 key, Z4 ((key.drop 4).take 28), Z4 ((key.drop 8).take 24), Z4 ((key.drop 12).take 20), Z4 ((key.drop 16).take 16), Z4 ((key.drop 20).take 12), Z4 ((key.drop 24).take 8), Z4 ((key.drop 28).take 4), counter, Z4 nonce, Z4 ((nonce.drop 4).take 8), 0]) rfl Z5 Zh rfl rfl m36.h0 (by simp) (.inl (Nat.zero_le _))) ?_
 rintro _ w38 uq38
 have m38 := m36.upd0 uq38
 refine Zr (Qi (Qe ?_))
 refine Qa (v := (i64 2)) rfl (Qk (a := 1) (b := 1) rfl rfl oM oM) <| Qa rfl (Qb (v := (i64 2)) rfl) ?_
 refine rN (Zq (sR ?_))
 refine Qa rfl (Qs (a := 2) (b := 3) rfl rfl) ?_
 refine rN (Qg ?_)
 refine Zc rfl (by decide) ?_
 refine Q7 (Qh (Qg (Qo (sR ?_))))
 refine Qa rfl (Qb (v := (i64 2)) rfl) <| Qa rfl (Qc (v := (i64 2)) rfl) ?_
 refine rN (Qe ?_)
 refine Qa rfl (Qb (v := (i64 2)) rfl) <| Qa (v := (i64 15)) rfl (Qk (a := 13) (b := 2) rfl rfl oM oM) <| Qa rfl (Qb (v := (i64 2)) rfl) <| Qa (v := (i64 8)) rfl (Z7 (a := 4) (b := 2) rfl rfl oM oM) <| Qa rfl (Xj (i := 8) (j := 12) Qah X6 s5 (Jt (k := .i64) (i := 8) rfl) (Zy _ _) oM sD sD) <| Za rfl (Qay (Jj rfl) (Nw (sla b5 0 1 8 12 12) ((nonce.drop 8).take 4) _ (Rd.cast (l' := (nonce.drop 8).take 4) (Rd.sla m38.h1 sD oM sD sD) rfl) sD)) ?_
 rintro _ w39 ⟨rfl, e39⟩
 have m39 := m38.ext e39
 refine Qa rfl (Qd (r := 15) (i := 15) oM U9 Zh s6 rfl oM oM) <| Zw (Zm (f := u32) (l' := [1634760805#32, 857760878#32, 2036477234#32, 1797285236#32, Z4 key, Z4 ((key.drop 4).take 28), Z4 ((key.drop 8).take 24), Z4 ((key.drop 12).take 20), Z4 ((key.drop 16).take 16), Z4 ((key.drop 20).take 12), Z4 ((key.drop 24).take 8), Z4 ((key.drop 28).take 4), counter, Z4 nonce, Z4 ((nonce.drop 4).take 8), Z4 ((nonce.drop 8).take 4)]) rfl Z5 Zh rfl rfl m39.h0 (by simp) (.inl (Nat.zero_le _))) ?_
 rintro _ w41 uq41
 have m41 := m39.upd0 uq41
 refine Zr (Qi (Qe ?_))
 refine Qa (v := (i64 3)) rfl (Qk (a := 2) (b := 1) rfl rfl oM oM) <| Qa rfl (Qb (v := (i64 3)) rfl) ?_
 refine rN (Zq (sR ?_))
 refine Qa rfl (Qs (a := 3) (b := 3) rfl rfl) ?_
 refine rN (Qg ?_)
 refine Yp rfl (by decide) <| X0 ?_
 refine Qr (Qr (Xf ?_))
 refine sR <| Qa rfl (Qw U9 rfl Qcu s6 m41.h0 sZ) <| Zw (Qm (f := u32) (l := [1634760805#32, 857760878#32, 2036477234#32, 1797285236#32, Z4 key, Z4 ((key.drop 4).take 28), Z4 ((key.drop 8).take 24), Z4 ((key.drop 12).take 20), Z4 ((key.drop 16).take 16), Z4 ((key.drop 20).take 12), Z4 ((key.drop 24).take 8), Z4 ((key.drop 28).take 4), counter, Z4 nonce, Z4 ((nonce.drop 4).take 8), Z4 ((nonce.drop 8).take 4)]) Z5 Qcu s6 rfl sD m41.h0 sZ rfl) ?_
 rintro _ w42 uq42
 have m42 := m41.upd0 uq42
 refine rN (Xt ?_)
 refine Ze [(agg u32 ([1634760805#32, 857760878#32, 2036477234#32, 1797285236#32, Z4 key, Z4 ((key.drop 4).take 28), Z4 ((key.drop 8).take 24), Z4 ((key.drop 12).take 20), Z4 ((key.drop 16).take 16), Z4 ((key.drop 20).take 12), Z4 ((key.drop 24).take 8), Z4 ((key.drop 28).take 4), counter, Z4 nonce, Z4 ((nonce.drop 4).take 8), Z4 ((nonce.drop 8).take 4)]))] ⟨⟨_, s6, Xo U9 rfl Qcu m42.h0 sZ⟩, trivial⟩ ?_
 exact ⟨rfl, m42.toExt⟩
theorem c_block (key : List (BitVec 8)) (counter : BitVec 32) (nonce : List (BitVec 8)) (w0 : World)  (hk : key.length = 32) (hn : nonce.length = 12) : Xz Tryd.prog 89 #[(agg u8 key), (u32 counter), (agg u8 nonce)] w0 (fun r w1 => r = (agg u8 (Yx key counter nonce)) ∧ Ext w0 w1) := by
 refine Zd (args := [(agg u8 key), (u32 counter), (agg u8 nonce)]) Tryd.func89 rfl Tryd.ntmps89 Tryd.results89 rfl ?_
 have m0 : Mem w0 (Qy w0) [] := Mem.of_world w0
 refine sR <| Za rfl (Z8 (f := u8) (l := key) m0 rfl) ?_
 rintro _ w1 ⟨b3, rfl, e1, m1⟩
 refine Za rfl (Z8 (f := u8) (l := nonce) m1 rfl) ?_
 rintro _ w2 ⟨b5, rfl, e2, m2⟩
 refine Za rfl (Zg m2 Qhg) ?_
 rintro _ w3 ⟨b6, rfl, e3, m3⟩
 refine rN (sR ?_)
 refine Qa rfl (Qw X3 rfl Z9 rfl m3.h2 sZ) <| Qa rfl (Qb (v := (u32 counter)) rfl) <| Qa rfl (Qw Qah rfl Qey rfl m3.h1 sZ) <| Za rfl (oc103 (Vx rfl rfl rfl) (c_begin _ counter _ _ sD sD)) ?_
 rintro _ w4 ⟨rfl, e4⟩
 have m4 := m3.ext e4
 refine Za rfl (Zg m4 Qcu) ?_
 rintro _ w6 ⟨b7, rfl, e6, m6⟩
 refine Zw (Qm (f := u32) (l := J7 Z4 key counter nonce) Z5 Qcu rfl rfl sD m6.h0 sZ rfl) ?_
 rintro _ w7 uq7
 have m7 := m6.upd0 uq7
 refine rN (sR ?_)
 refine Qa rfl (Qw U9 rfl Qcu rfl m7.h0 sZ) <| Za rfl (Zg m7 Qcu) ?_
 rintro _ w8 ⟨b8, rfl, e8, m8⟩
 refine Zw (Qm (f := u32) (l := J7 Z4 key counter nonce) Z5 Qcu rfl rfl sD m8.h0 sZ rfl) ?_
 rintro _ w9 uq9
 have m9 := m8.upd0 uq9
 refine rN (Qg (sR ?_))
 refine Qa rfl (Qb (v := (i64 0)) rfl) ?_
 refine rN (Qo ?_)
 refine Yo (fun g wv => ∃ (k : Nat), (k ≤ 10) ∧ g 0 = (agg u8 key) ∧ g 1 = (u32 counter) ∧ g 2 = (agg u8 nonce) ∧ g 3 = (ptr b3 0) ∧ g 5 = (ptr b5 0) ∧ g 6 = (ptr b6 0) ∧ g 7 = (ptr b7 0) ∧ g 8 = (ptr b8 0) ∧ g 17 = (i64 (k : Int)) ∧ Mem wv (Qy w0) [(b8, .cells (cl u32 (X9 dbl k (J7 Z4 key counter nonce))) 156 (0, 0)), (b7, .cells (cl u32 (J7 Z4 key counter nonce)) 156 (0, 0)), (b6, .cells (cl u8 (List.replicate 64 0)) 139 (0, 0)), (b5, .cells (cl u8 nonce) 77 (0, 0)), (b3, .cells (cl u8 key) 23 (0, 0))]) (fun g wv => (10 - RowKit.intOf (g 17)).toNat) ?_ ?_
 ·exact ⟨0, oM, rfl, rfl, rfl, rfl, rfl, rfl, rfl, rfl, rfl, m9⟩
 rintro fr10 w11 ⟨k, hk1, s0, s1, s2, s3, s5, s6, s7, s8, s17, m11⟩
 have z17 := s17
 refine sR <| Qa rfl (Qs (b := 10) s17 rfl) ?_
 refine rN (Qg ?_)
 refine Xv rfl (fun hc12 => ?_) (fun hc12 => ?_)
 ·
  have hc12p := of_decide_eq_true hc12
  refine Q7 (Qh (Qg (Qo (Qg (sR ?_)))))
  refine Qa rfl (Qb (v := (i64 0)) rfl) ?_
  refine rN (Qo ?_)
  refine Kw 5 ?_
  refine Zq (sR ?_)
  refine Qa rfl (Qs (a := 0) (b := 4) rfl rfl) ?_
  refine rN (Qg ?_)
  refine Zc rfl (by decide) ?_
  refine Q7 (Qh (Qg (Qo (sR ?_))))
  refine Qa rfl (Qb (v := (i64 0)) rfl) <| Qa rfl (Qc (v := (i64 0)) rfl) ?_
  refine rN (Qe ?_)
  refine Qa rfl (Qb (v := (i64 0)) rfl) <| Qa rfl (Qb (v := (i64 0)) rfl) <| Qa (v := (i64 4)) rfl (Qk (a := 4) (b := 0) rfl rfl oM oM) <| Qa rfl (Qb (v := (i64 0)) rfl) <| Qa (v := (i64 8)) rfl (Qk (a := 8) (b := 0) rfl rfl oM oM) <| Qa rfl (Qb (v := (i64 0)) rfl) <| Qa (v := (i64 12)) rfl (Qk (a := 12) (b := 0) rfl rfl oM oM) <| Qa rfl (Vf i64 [0, 4, 8, 12] Xm Qb0 Dh Dy rfl rfl) ?_
  have hF14 : Mem _ _ ([(b8, .cells (cl u32 (X9 dbl k (J7 Z4 key counter nonce))) 156 (0, 0))] ++ ([_, _, _, _])) := m11
  refine Za rfl (Qem (Xr s8 rfl) (Ep b8 (X9 dbl k (J7 Z4 key counter nonce)) (0 : Int) (4 : Int) (8 : Int) (12 : Int) _ _ (Mem.give hF14) sD sD sD sD sD)) ?_
  rintro _ w13 ⟨rfl, k_w13⟩
  have m13 : Mem _ _ [_, _, _, _, _] := Mem.back hF14 k_w13
  refine Zr (Qi (Qe ?_))
  refine Qa (v := (i64 1)) rfl (Qk (a := 0) (b := 1) rfl rfl oM oM) <| Qa rfl (Qb (v := (i64 1)) rfl) ?_
  refine rN (Zq (sR ?_))
  refine Qa rfl (Qs (a := 1) (b := 4) rfl rfl) ?_
  refine rN (Qg ?_)
  refine Zc rfl (by decide) ?_
  refine Q7 (Qh (Qg (Qo (sR ?_))))
  refine Qa rfl (Qb (v := (i64 1)) rfl) <| Qa rfl (Qc (v := (i64 1)) rfl) ?_
  refine rN (Qe ?_)
  refine Qa rfl (Qb (v := (i64 1)) rfl) <| Qa rfl (Qb (v := (i64 1)) rfl) <| Qa (v := (i64 5)) rfl (Qk (a := 4) (b := 1) rfl rfl oM oM) <| Qa rfl (Qb (v := (i64 1)) rfl) <| Qa (v := (i64 9)) rfl (Qk (a := 8) (b := 1) rfl rfl oM oM) <| Qa rfl (Qb (v := (i64 1)) rfl) <| Qa (v := (i64 13)) rfl (Qk (a := 12) (b := 1) rfl rfl oM oM) <| Qa rfl (Vf i64 [1, 5, 9, 13] Xm Qb0 Dh Dy rfl rfl) ?_
  have hF17 : Mem _ _ ([(b8, .cells (cl u32 (Ew (X9 dbl k (J7 Z4 key counter nonce)) (0 : Int).toNat (4 : Int).toNat (8 : Int).toNat (12 : Int).toNat)) 156 (0, 0))] ++ ([_, _, _, _])) := m13
  refine Za rfl (Qem (Xr s8 rfl) (Ep b8 (Ew (X9 dbl k (J7 Z4 key counter nonce)) (0 : Int).toNat (4 : Int).toNat (8 : Int).toNat (12 : Int).toNat) (1 : Int) (5 : Int) (9 : Int) (13 : Int) _ _ (Mem.give hF17) sD sD sD sD sD)) ?_
  rintro _ w16 ⟨rfl, k_w16⟩
  have m16 : Mem _ _ [_, _, _, _, _] := Mem.back hF17 k_w16
  refine Zr (Qi (Qe ?_))
  refine Qa (v := (i64 2)) rfl (Qk (a := 1) (b := 1) rfl rfl oM oM) <| Qa rfl (Qb (v := (i64 2)) rfl) ?_
  refine rN (Zq (sR ?_))
  refine Qa rfl (Qs (a := 2) (b := 4) rfl rfl) ?_
  refine rN (Qg ?_)
  refine Zc rfl (by decide) ?_
  refine Q7 (Qh (Qg (Qo (sR ?_))))
  refine Qa rfl (Qb (v := (i64 2)) rfl) <| Qa rfl (Qc (v := (i64 2)) rfl) ?_
  refine rN (Qe ?_)
  refine Qa rfl (Qb (v := (i64 2)) rfl) <| Qa rfl (Qb (v := (i64 2)) rfl) <| Qa (v := (i64 6)) rfl (Qk (a := 4) (b := 2) rfl rfl oM oM) <| Qa rfl (Qb (v := (i64 2)) rfl) <| Qa (v := (i64 10)) rfl (Qk (a := 8) (b := 2) rfl rfl oM oM) <| Qa rfl (Qb (v := (i64 2)) rfl) <| Qa (v := (i64 14)) rfl (Qk (a := 12) (b := 2) rfl rfl oM oM) <| Qa rfl (Vf i64 [2, 6, 10, 14] Xm Qb0 Dh Dy rfl rfl) ?_
  have hF20 : Mem _ _ ([(b8, .cells (cl u32 (Ew (Ew (X9 dbl k (J7 Z4 key counter nonce)) (0 : Int).toNat (4 : Int).toNat (8 : Int).toNat (12 : Int).toNat) (1 : Int).toNat (5 : Int).toNat (9 : Int).toNat (13 : Int).toNat)) 156 (0, 0))] ++ ([_, _, _, _])) := m16
  refine Za rfl (Qem (Xr s8 rfl) (Ep b8 (Ew (Ew (X9 dbl k (J7 Z4 key counter nonce)) (0 : Int).toNat (4 : Int).toNat (8 : Int).toNat (12 : Int).toNat) (1 : Int).toNat (5 : Int).toNat (9 : Int).toNat (13 : Int).toNat) (2 : Int) (6 : Int) (10 : Int) (14 : Int) _ _ (Mem.give hF20) sD sD sD sD sD)) ?_
  rintro _ w19 ⟨rfl, k_w19⟩
  have m19 : Mem _ _ [_, _, _, _, _] := Mem.back hF20 k_w19
  refine Zr (Qi (Qe ?_))
  refine Qa (v := (i64 3)) rfl (Qk (a := 2) (b := 1) rfl rfl oM oM) <| Qa rfl (Qb (v := (i64 3)) rfl) ?_
  refine rN (Zq (sR ?_))
  refine Qa rfl (Qs (a := 3) (b := 4) rfl rfl) ?_
  refine rN (Qg ?_)
  refine Zc rfl (by decide) ?_
  refine Q7 (Qh (Qg (Qo (sR ?_))))
  refine Qa rfl (Qb (v := (i64 3)) rfl) <| Qa rfl (Qc (v := (i64 3)) rfl) ?_
  refine rN (Qe ?_)
  refine Qa rfl (Qb (v := (i64 3)) rfl) <| Qa rfl (Qb (v := (i64 3)) rfl) <| Qa (v := (i64 7)) rfl (Qk (a := 4) (b := 3) rfl rfl oM oM) <| Qa rfl (Qb (v := (i64 3)) rfl) <| Qa (v := (i64 11)) rfl (Qk (a := 8) (b := 3) rfl rfl oM oM) <| Qa rfl (Qb (v := (i64 3)) rfl) <| Qa (v := (i64 15)) rfl (Qk (a := 12) (b := 3) rfl rfl oM oM) <| Qa rfl (Vf i64 [3, 7, 11, 15] Xm Qb0 Dh Dy rfl rfl) ?_
  have hF23 : Mem _ _ ([(b8, .cells (cl u32 (Ew (Ew (Ew (X9 dbl k (J7 Z4 key counter nonce)) (0 : Int).toNat (4 : Int).toNat (8 : Int).toNat (12 : Int).toNat) (1 : Int).toNat (5 : Int).toNat (9 : Int).toNat (13 : Int).toNat) (2 : Int).toNat (6 : Int).toNat (10 : Int).toNat (14 : Int).toNat)) 156 (0, 0))] ++ ([_, _, _, _])) := m19
  refine Za rfl (Qem (Xr s8 rfl) (Ep b8 (Ew (Ew (Ew (X9 dbl k (J7 Z4 key counter nonce)) (0 : Int).toNat (4 : Int).toNat (8 : Int).toNat (12 : Int).toNat) (1 : Int).toNat (5 : Int).toNat (9 : Int).toNat (13 : Int).toNat) (2 : Int).toNat (6 : Int).toNat (10 : Int).toNat (14 : Int).toNat) (3 : Int) (7 : Int) (11 : Int) (15 : Int) _ _ (Mem.give hF23) sD sD sD sD sD)) ?_
  rintro _ w22 ⟨rfl, k_w22⟩
  have m22 : Mem _ _ [_, _, _, _, _] := Mem.back hF23 k_w22
  refine Zr (Qi (Qe ?_))
  refine Qa (v := (i64 4)) rfl (Qk (a := 3) (b := 1) rfl rfl oM oM) <| Qa rfl (Qb (v := (i64 4)) rfl) ?_
  refine rN (Zq (sR ?_))
  refine Qa rfl (Qs (a := 4) (b := 4) rfl rfl) ?_
  refine rN (Qg ?_)
  refine Yp rfl (by decide) <| X0 ?_
  refine Qr (Qr (Xf ?_))
  refine sR <| Qa rfl (Qb (v := (i64 0)) rfl) ?_
  refine rN (Vq ?_)
  refine Kw 5 ?_
  refine Zq (sR ?_)
  refine Qa rfl (Qs (a := 0) (b := 4) rfl rfl) ?_
  refine rN (Qg ?_)
  refine Zc rfl (by decide) ?_
  refine Q7 (Qh (Qg (Qo (sR ?_))))
  refine Qa rfl (Qb (v := (i64 0)) rfl) <| Qa rfl (Qc (v := (i64 0)) rfl) ?_
  refine rN (Qe ?_)
  refine Qa rfl (Qb (v := (i64 0)) rfl) <| Qa rfl (Qb (v := (i64 0)) rfl) <| Qa (v := (i64 1)) rfl (Qk (a := 0) (b := 1) rfl rfl oM oM) <| Qa (v := (i64 1)) rfl (Va (a := 1) (b := 3) rfl rfl oM oM) <| Qa (v := (i64 5)) rfl (Qk (a := 4) (b := 1) rfl rfl oM oM) <| Qa rfl (Qb (v := (i64 0)) rfl) <| Qa (v := (i64 2)) rfl (Qk (a := 0) (b := 2) rfl rfl oM oM) <| Qa (v := (i64 2)) rfl (Va (a := 2) (b := 3) rfl rfl oM oM) <| Qa (v := (i64 10)) rfl (Qk (a := 8) (b := 2) rfl rfl oM oM) <| Qa rfl (Qb (v := (i64 0)) rfl) <| Qa (v := (i64 3)) rfl (Qk (a := 0) (b := 3) rfl rfl oM oM) <| Qa (v := (i64 3)) rfl (Va (a := 3) (b := 3) rfl rfl oM oM) ?_
  refine Qa (v := (i64 15)) rfl (Qk (a := 12) (b := 3) rfl rfl oM oM) <| Qa rfl (Vf i64 [0, 5, 10, 15] Xm Qb0 Dh Dy rfl rfl) ?_
  have hF26 : Mem _ _ ([(b8, .cells (cl u32 (Ew (Ew (Ew (Ew (X9 dbl k (J7 Z4 key counter nonce)) (0 : Int).toNat (4 : Int).toNat (8 : Int).toNat (12 : Int).toNat) (1 : Int).toNat (5 : Int).toNat (9 : Int).toNat (13 : Int).toNat) (2 : Int).toNat (6 : Int).toNat (10 : Int).toNat (14 : Int).toNat) (3 : Int).toNat (7 : Int).toNat (11 : Int).toNat (15 : Int).toNat)) 156 (0, 0))] ++ ([_, _, _, _])) := m22
  refine Za rfl (Qem (Xr s8 rfl) (Ep b8 (Ew (Ew (Ew (Ew (X9 dbl k (J7 Z4 key counter nonce)) (0 : Int).toNat (4 : Int).toNat (8 : Int).toNat (12 : Int).toNat) (1 : Int).toNat (5 : Int).toNat (9 : Int).toNat (13 : Int).toNat) (2 : Int).toNat (6 : Int).toNat (10 : Int).toNat (14 : Int).toNat) (3 : Int).toNat (7 : Int).toNat (11 : Int).toNat (15 : Int).toNat) (0 : Int) (5 : Int) (10 : Int) (15 : Int) _ _ (Mem.give hF26) sD sD sD sD sD)) ?_
  rintro _ w25 ⟨rfl, k_w25⟩
  have m25 : Mem _ _ [_, _, _, _, _] := Mem.back hF26 k_w25
  refine Zr (Qi (Qe ?_))
  refine Qa (v := (i64 1)) rfl (Qk (a := 0) (b := 1) rfl rfl oM oM) <| Qa rfl (Qb (v := (i64 1)) rfl) ?_
  refine rN (Zq (sR ?_))
  refine Qa rfl (Qs (a := 1) (b := 4) rfl rfl) <| rN ?_
  refine CW.abs (fun g => g 0 = (agg u8 key) ∧ g 1 = (u32 counter) ∧ g 2 = (agg u8 nonce) ∧ g 3 = (ptr b3 0) ∧ g 5 = (ptr b5 0) ∧ g 6 = (ptr b6 0) ∧ g 7 = (ptr b7 0) ∧ g 8 = (ptr b8 0) ∧ g 9 = (i64 3) ∧ g 10 = (i64 0) ∧ g 17 = (i64 (k : Int)) ∧ g 18 = (bl (decide ((k : Int) < 10))) ∧ g 19 = (i64 4) ∧ g 20 = (bl false) ∧ g 32 = (i64 1) ∧ g 33 = (bl true) ∧ True) ⟨s0, s1, s2, s3, s5, s6, s7, s8, rfl, rfl, s17, rfl, rfl, rfl, rfl, rfl, trivial⟩ ?_
  rintro fr28 ⟨s0, s1, s2, s3, s5, s6, s7, s8, s9, s10, s17, s18, s19, s20, s32, s33, _⟩
  refine Qg <| Zc s33 (by decide) ?_
  refine Q7 (Qh (Qg (Qo (sR ?_))))
  refine rM rfl s32 <| Qa rfl (Qc (v := (i64 1)) rfl) ?_
  refine rN (Qe ?_)
  refine Qa rfl (Qb (v := (i64 1)) rfl) <| Qa rfl (Qb (v := (i64 1)) rfl) <| Qa (v := (i64 2)) rfl (Qk (a := 1) (b := 1) rfl rfl oM oM) <| Qa (v := (i64 2)) rfl (Va (a := 2) (b := 3) rfl rfl oM oM) <| Qa (v := (i64 6)) rfl (Qk (a := 4) (b := 2) rfl rfl oM oM) <| Qa rfl (Qb (v := (i64 1)) rfl) <| Qa (v := (i64 3)) rfl (Qk (a := 1) (b := 2) rfl rfl oM oM) <| Qa (v := (i64 3)) rfl (Va (a := 3) (b := 3) rfl rfl oM oM) <| Qa (v := (i64 11)) rfl (Qk (a := 8) (b := 3) rfl rfl oM oM) <| Qa rfl (Qb (v := (i64 1)) rfl) <| Qa (v := (i64 4)) rfl (Qk (a := 1) (b := 3) rfl rfl oM oM) <| Qa (v := (i64 0)) rfl (Va (a := 4) (b := 3) rfl rfl oM oM) ?_
  refine Qa (v := (i64 12)) rfl (Qk (a := 12) (b := 0) rfl rfl oM oM) <| Qa rfl (Vf i64 [1, 6, 11, 12] Xm Qb0 Dh Dy rfl rfl) ?_
  have hF30 : Mem _ _ ([(b8, .cells (cl u32 (Ew (Ew (Ew (Ew (Ew (X9 dbl k (J7 Z4 key counter nonce)) (0 : Int).toNat (4 : Int).toNat (8 : Int).toNat (12 : Int).toNat) (1 : Int).toNat (5 : Int).toNat (9 : Int).toNat (13 : Int).toNat) (2 : Int).toNat (6 : Int).toNat (10 : Int).toNat (14 : Int).toNat) (3 : Int).toNat (7 : Int).toNat (11 : Int).toNat (15 : Int).toNat) (0 : Int).toNat (5 : Int).toNat (10 : Int).toNat (15 : Int).toNat)) 156 (0, 0))] ++ ([_, _, _, _])) := m25
  refine Za rfl (Qem (Xr s8 rfl) (Ep b8 (Ew (Ew (Ew (Ew (Ew (X9 dbl k (J7 Z4 key counter nonce)) (0 : Int).toNat (4 : Int).toNat (8 : Int).toNat (12 : Int).toNat) (1 : Int).toNat (5 : Int).toNat (9 : Int).toNat (13 : Int).toNat) (2 : Int).toNat (6 : Int).toNat (10 : Int).toNat (14 : Int).toNat) (3 : Int).toNat (7 : Int).toNat (11 : Int).toNat (15 : Int).toNat) (0 : Int).toNat (5 : Int).toNat (10 : Int).toNat (15 : Int).toNat) (1 : Int) (6 : Int) (11 : Int) (12 : Int) _ _ (Mem.give hF30) sD sD sD sD sD)) ?_
  rintro _ w29 ⟨rfl, k_w29⟩
  have m29 : Mem _ _ [_, _, _, _, _] := Mem.back hF30 k_w29
  refine Zr (Qi (Qe ?_))
  refine Qa (v := (i64 2)) rfl (Qk (a := 1) (b := 1) s32 rfl oM oM) <| Qa rfl (Qb (v := (i64 2)) rfl) ?_
  refine rN (Zq (sR ?_))
  refine Qa rfl (Qs (a := 2) (b := 4) rfl rfl) ?_
  refine rN (Qg ?_)
  refine Zc rfl (by decide) ?_
  refine Q7 (Qh (Qg (Qo (sR ?_))))
  refine Qa rfl (Qb (v := (i64 2)) rfl) <| Qa rfl (Qc (v := (i64 2)) rfl) ?_
  refine rN (Qe ?_)
  refine Qa rfl (Qb (v := (i64 2)) rfl) <| Qa rfl (Qb (v := (i64 2)) rfl) <| Qa (v := (i64 3)) rfl (Qk (a := 2) (b := 1) rfl rfl oM oM) <| Qa (v := (i64 3)) rfl (Va (a := 3) (b := 3) rfl rfl oM oM) <| Qa (v := (i64 7)) rfl (Qk (a := 4) (b := 3) rfl rfl oM oM) <| Qa rfl (Qb (v := (i64 2)) rfl) <| Qa (v := (i64 4)) rfl (Qk (a := 2) (b := 2) rfl rfl oM oM) <| Qa (v := (i64 0)) rfl (Va (a := 4) (b := 3) rfl rfl oM oM) <| Qa (v := (i64 8)) rfl (Qk (a := 8) (b := 0) rfl rfl oM oM) <| Qa rfl (Qb (v := (i64 2)) rfl) <| Qa (v := (i64 5)) rfl (Qk (a := 2) (b := 3) rfl rfl oM oM) <| Qa (v := (i64 1)) rfl (Va (a := 5) (b := 3) rfl rfl oM oM) ?_
  refine Qa (v := (i64 13)) rfl (Qk (a := 12) (b := 1) rfl rfl oM oM) <| Qa rfl (Vf i64 [2, 7, 8, 13] Xm Qb0 Dh Dy rfl rfl) ?_
  have hF33 : Mem _ _ ([(b8, .cells (cl u32 (Ew (Ew (Ew (Ew (Ew (Ew (X9 dbl k (J7 Z4 key counter nonce)) (0 : Int).toNat (4 : Int).toNat (8 : Int).toNat (12 : Int).toNat) (1 : Int).toNat (5 : Int).toNat (9 : Int).toNat (13 : Int).toNat) (2 : Int).toNat (6 : Int).toNat (10 : Int).toNat (14 : Int).toNat) (3 : Int).toNat (7 : Int).toNat (11 : Int).toNat (15 : Int).toNat) (0 : Int).toNat (5 : Int).toNat (10 : Int).toNat (15 : Int).toNat) (1 : Int).toNat (6 : Int).toNat (11 : Int).toNat (12 : Int).toNat)) 156 (0, 0))] ++ ([_, _, _, _])) := m29
  refine Za rfl (Qem (Xr s8 rfl) (Ep b8 (Ew (Ew (Ew (Ew (Ew (Ew (X9 dbl k (J7 Z4 key counter nonce)) (0 : Int).toNat (4 : Int).toNat (8 : Int).toNat (12 : Int).toNat) (1 : Int).toNat (5 : Int).toNat (9 : Int).toNat (13 : Int).toNat) (2 : Int).toNat (6 : Int).toNat (10 : Int).toNat (14 : Int).toNat) (3 : Int).toNat (7 : Int).toNat (11 : Int).toNat (15 : Int).toNat) (0 : Int).toNat (5 : Int).toNat (10 : Int).toNat (15 : Int).toNat) (1 : Int).toNat (6 : Int).toNat (11 : Int).toNat (12 : Int).toNat) (2 : Int) (7 : Int) (8 : Int) (13 : Int) _ _ (Mem.give hF33) sD sD sD sD sD)) ?_
  rintro _ w32 ⟨rfl, k_w32⟩
  have m32 : Mem _ _ [_, _, _, _, _] := Mem.back hF33 k_w32
  refine Zr (Qi (Qe ?_))
  refine Qa (v := (i64 3)) rfl (Qk (a := 2) (b := 1) rfl rfl oM oM) <| Qa rfl (Qb (v := (i64 3)) rfl) ?_
  refine rN (Zq (sR ?_))
  refine Qa rfl (Qs (a := 3) (b := 4) rfl rfl) ?_
  refine rN (Qg ?_)
  refine Zc rfl (by decide) ?_
  refine Q7 (Qh (Qg (Qo (sR ?_))))
  refine Qa rfl (Qb (v := (i64 3)) rfl) <| Qa rfl (Qc (v := (i64 3)) rfl) ?_
  refine rN (Qe ?_)
  refine Qa rfl (Qb (v := (i64 3)) rfl) <| Qa rfl (Qb (v := (i64 3)) rfl) <| Qa (v := (i64 4)) rfl (Qk (a := 3) (b := 1) rfl rfl oM oM) <| Qa (v := (i64 0)) rfl (Va (a := 4) (b := 3) rfl rfl oM oM) <| Qa (v := (i64 4)) rfl (Qk (a := 4) (b := 0) rfl rfl oM oM) <| Qa rfl (Qb (v := (i64 3)) rfl) <| Qa (v := (i64 5)) rfl (Qk (a := 3) (b := 2) rfl rfl oM oM) <| Qa (v := (i64 1)) rfl (Va (a := 5) (b := 3) rfl rfl oM oM) <| Qa (v := (i64 9)) rfl (Qk (a := 8) (b := 1) rfl rfl oM oM) <| Qa rfl (Qb (v := (i64 3)) rfl) <| Qa (v := (i64 6)) rfl (Qk (a := 3) (b := 3) rfl rfl oM oM) <| Qa (v := (i64 2)) rfl (Va (a := 6) (b := 3) rfl rfl oM oM) ?_
  refine Qa (v := (i64 14)) rfl (Qk (a := 12) (b := 2) rfl rfl oM oM) <| Qa rfl (Vf i64 [3, 4, 9, 14] Xm Qb0 Dh Dy rfl rfl) ?_
  have hF36 : Mem _ _ ([(b8, .cells (cl u32 (Ew (Ew (Ew (Ew (Ew (Ew (Ew (X9 dbl k (J7 Z4 key counter nonce)) (0 : Int).toNat (4 : Int).toNat (8 : Int).toNat (12 : Int).toNat) (1 : Int).toNat (5 : Int).toNat (9 : Int).toNat (13 : Int).toNat) (2 : Int).toNat (6 : Int).toNat (10 : Int).toNat (14 : Int).toNat) (3 : Int).toNat (7 : Int).toNat (11 : Int).toNat (15 : Int).toNat) (0 : Int).toNat (5 : Int).toNat (10 : Int).toNat (15 : Int).toNat) (1 : Int).toNat (6 : Int).toNat (11 : Int).toNat (12 : Int).toNat) (2 : Int).toNat (7 : Int).toNat (8 : Int).toNat (13 : Int).toNat)) 156 (0, 0))] ++ ([_, _, _, _])) := m32
  refine Za rfl (Qem (Xr s8 rfl) (Ep b8 (Ew (Ew (Ew (Ew (Ew (Ew (Ew (X9 dbl k (J7 Z4 key counter nonce)) (0 : Int).toNat (4 : Int).toNat (8 : Int).toNat (12 : Int).toNat) (1 : Int).toNat (5 : Int).toNat (9 : Int).toNat (13 : Int).toNat) (2 : Int).toNat (6 : Int).toNat (10 : Int).toNat (14 : Int).toNat) (3 : Int).toNat (7 : Int).toNat (11 : Int).toNat (15 : Int).toNat) (0 : Int).toNat (5 : Int).toNat (10 : Int).toNat (15 : Int).toNat) (1 : Int).toNat (6 : Int).toNat (11 : Int).toNat (12 : Int).toNat) (2 : Int).toNat (7 : Int).toNat (8 : Int).toNat (13 : Int).toNat) (3 : Int) (4 : Int) (9 : Int) (14 : Int) _ _ (Mem.give hF36) sD sD sD sD sD)) ?_
  rintro _ w35 ⟨rfl, k_w35⟩
  have m35 : Mem _ _ [_, _, _, _, _] := Mem.back hF36 k_w35
  refine Zr (Qi (Qe ?_))
  refine Qa (v := (i64 4)) rfl (Qk (a := 3) (b := 1) rfl rfl oM oM) <| Qa rfl (Qb (v := (i64 4)) rfl) ?_
  refine rN (Zq (sR ?_))
  refine Qa rfl (Qs (a := 4) (b := 4) rfl rfl) ?_
  refine rN (Qg ?_)
  refine Yp rfl (by decide) <| X0 ?_
  refine Qr (Qr (Xf ?_))
  refine Qi (Qe ?_)
  refine Qa rfl (Qk (b := 1) s17 rfl oM oM) <| Qa rfl (Qb (v := (i64 ((k : Int) + 1))) rfl) <| rN ?_
  exact ⟨⟨k + 1, oM, s0, s1, s2, s3, s5, s6, s7, s8, rfl, m35⟩, Gl rfl z17 oM oM⟩
 ·
  have hc12p := of_decide_eq_false hc12
  obtain rfl : k = 10 := by omega
  refine X0 ?_
  refine Qr (Qr (Xf ?_))
  refine Qg (sR ?_)
  refine Qa rfl (Qb (v := (i64 0)) rfl) ?_
  refine rN (Qo ?_)
  refine Yo (fun g wv => ∃ (k2 : Nat), (k2 ≤ 64) ∧ g 0 = (agg u8 key) ∧ g 1 = (u32 counter) ∧ g 2 = (agg u8 nonce) ∧ g 3 = (ptr b3 0) ∧ g 5 = (ptr b5 0) ∧ g 6 = (ptr b6 0) ∧ g 7 = (ptr b7 0) ∧ g 8 = (ptr b8 0) ∧ g 17 = (i64 (10 : Int)) ∧ g 18 = (bl (decide ((10 : Int) < 10))) ∧ g 52 = (i64 (k2 : Int)) ∧ Mem wv (Qy w0) [(b8, .cells (cl u32 (X9 dbl 10 (J7 Z4 key counter nonce))) 156 (0, 0)), (b7, .cells (cl u32 (J7 Z4 key counter nonce)) 156 (0, 0)), (b6, .cells (cl u8 (Yk (Ak (X9 dbl 10 (J7 Z4 key counter nonce)) (J7 Z4 key counter nonce)) 0 64 k2)) 139 (0, 0)), (b5, .cells (cl u8 nonce) 77 (0, 0)), (b3, .cells (cl u8 key) 23 (0, 0))]) (fun g wv => (64 - RowKit.intOf (g 52)).toNat) ?_ ?_
  ·exact ⟨0, oM, s0, s1, s2, s3, s5, s6, s7, s8, s17, rfl, rfl, (by rw [Fa]; exact m11)⟩
  rintro fr38 w39 ⟨k2, hk2, s0, s1, s2, s3, s5, s6, s7, s8, s17, s18, s52, m39⟩
  have z52 := s52
  refine sR <| Qa rfl (Qs (b := 64) s52 rfl) ?_
  refine rN (Qg ?_)
  refine Xv rfl (fun hc40 => ?_) (fun hc40 => ?_)
  ·
   have hc40p := of_decide_eq_true hc40
   refine Q7 (Qh (Qg (Qo (sR ?_))))
   refine rM rfl s52 <| Qa rfl (Qc (v := (i64 (k2 : Int))) rfl) <| rN <| Xq (dl 15) 15 (by kernel_rfl) <| Qj rfl rfl (fun _ _hx => Qb (v := (i64 (k2 : Int))) rfl) <| Qj rfl rfl (fun _ _hx => Qb (v := (i64 (k2 : Int))) rfl) <| Qj rfl rfl (fun _ _hx => Wy (b := 4) rfl rfl oM oM oM) <| Qj rfl rfl (fun _ _hx => Qd (r := ((k2 : Int) / 4 : Int).toNat) oM U9 Zh s8 rfl oM sD) <| Qj (v := (u32 ((X9 dbl 10 (J7 Z4 key counter nonce)).getD (((k2 : Int) / 4 : Int).toNat) 0))) rfl rfl (fun _ _hx => Qn Xk rfl rfl (m39.ext _hx).h0 (Qx _ _ 0 sD)) <| Qj rfl rfl (fun _ _hx => Qb (v := (i64 (k2 : Int))) rfl) <| Qj rfl rfl (fun _ _hx => Wy (b := 4) rfl rfl oM oM oM) <| Qj rfl rfl (fun _ _hx => Qd (r := ((k2 : Int) / 4 : Int).toNat) oM U9 Zh s7 rfl oM sD) ?_
   refine Qj (v := (u32 ((J7 Z4 key counter nonce).getD (((k2 : Int) / 4 : Int).toNat) 0))) rfl rfl (fun _ _hx => Qn Xk rfl rfl (m39.ext _hx).h1 (Qx _ _ 0 sD)) <| Qj rfl rfl (fun _ _hx => Xp rfl rfl) <| Qj rfl rfl (fun _ _hx => Qb (v := (i64 (k2 : Int))) rfl) <| Qj rfl rfl (fun _ _hx => Jy (b := 4) rfl rfl oM oM oM) <| Qj rfl rfl (fun _ _hx => Z7 (a := 8) rfl rfl oM oM) <| Qj rfl rfl (fun _ _hx => V8 rfl rfl oM) <| Qj rfl rfl (fun _ _hx => Ua ⟨_, Xk⟩ Vm rfl) ?_
   refine Xd (fun w41 e41 => ?_)
   have m41 := m39.ext e41
   refine Qa rfl (Qd (r := k2) oM uT139 X6 s6 rfl oM sD) <| Zw (Xn (f := u8) (a := ((((X9 dbl 10 (J7 Z4 key counter nonce)).getD (((k2 : Int) / 4 : Int).toNat) 0) + ((J7 Z4 key counter nonce).getD (((k2 : Int) / 4 : Int).toNat) 0)) >>> (8 * ((k2 : Int) % 4)).toNat).setWidth 8) Qu X6 rfl rfl m41.h2 sD (.inl (Nat.zero_le _))) ?_
   rintro _ w42 uq42
   have m42 := m41.upd2 uq42
   refine Zr (Qi (Qe ?_))
   refine Qa rfl (Qk (b := 1) s52 rfl oM oM) <| Qa rfl (Qb (v := (i64 ((k2 : Int) + 1))) rfl) <| rN ?_
   exact ⟨⟨k2 + 1, oM, s0, s1, s2, s3, s5, s6, s7, s8, s17, s18, rfl, (by rw [← Fh (Ak (X9 dbl 10 (J7 Z4 key counter nonce)) (J7 Z4 key counter nonce)) 0 (n := 64) (k := k2) oM _ rfl]; exact m42)⟩, Gl rfl z52 oM oM⟩
  ·
   have hc40p := of_decide_eq_false hc40
   obtain rfl : k2 = 64 := by omega
   refine X0 ?_
   refine Qr (Qr (Xf ?_))
   refine sR <| Qa rfl (Qw uT139 rfl Qhg s6 m39.h2 sZ) <| Zw (Qm (f := u8) (l := Yk (Ak (X9 dbl 10 (J7 Z4 key counter nonce)) (J7 Z4 key counter nonce)) 0 64 64) Qu Qhg s6 rfl sD m39.h2 sZ rfl) ?_
   rintro _ w43 uq43
   have m43 := m39.upd2 uq43
   refine rN (Xt ?_)
   refine Ze [(agg u8 (Yk (Ak (X9 dbl 10 (J7 Z4 key counter nonce)) (J7 Z4 key counter nonce)) 0 64 64))] ⟨⟨_, s6, Xo uT139 rfl Qhg m43.h2 sZ⟩, trivial⟩ ?_
   exact ⟨rfl, m43.toExt⟩
end Go.Proofs.YtkmiemlpfkfiiaaDoor
