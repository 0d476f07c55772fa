/- Contracts: stream, second part. Conditions: none beyond those that each theorem states. -/
import Derived.Test.YtkmiemlpfkfiiaaDoorSt1
namespace Go.Proofs.YtkmiemlpfkfiiaaDoor
set_option linter.unusedVariables false
set_option linter.unusedSimpArgs false
def Qac (key : List (BitVec 8)) (i n : Nat) : List (BitVec 8) := (key.drop i).take n
def Yd (word : List (BitVec 8) → BitVec 32) (key : List (BitVec 8)) (counter : BitVec 32) (nonce : List (BitVec 8)) : List (BitVec 32) :=
  [1634760805#32, 857760878#32, 2036477234#32, 1797285236#32, word key, word (Qac key 4 28), word (Qac key 8 24), word (Qac key 12 20),
   word (Qac key 16 16), word (Qac key 20 12), word (Qac key 24 8), word (Qac key 28 4), counter, word nonce, word (Qac nonce 4 8), word (Qac nonce 8 4)]
@[simp] theorem beginP_length (word : List (BitVec 8) → BitVec 32) (key : List (BitVec 8)) (counter : BitVec 32) (nonce : List (BitVec 8)) : (Yd word key counter nonce).length = 16 := rfl
attribute [simp] Qf0
def Ld (s : List (BitVec 32)) : List (BitVec 32) :=
  Vk (Vk (Vk (Vk (Vk (Vk (Vk (Vk s 0 4 8 12) 1 5 9 13) 2 6 10 14) 3 7 11 15) 0 5 10 15) 1 6 11 12) 2 7 8 13) 3 4 9 14
def Jo (f : List (BitVec 32) → List (BitVec 32)) : Nat → List (BitVec 32) → List (BitVec 32)
  | 0, s => s
  | k + 1, s => f (Jo f k s)
@[simp] theorem dbl_length (s : List (BitVec 32)) : (Ld s).length = s.length := by simp [Ld]
@[simp] theorem Qgr (k : Nat) (s : List (BitVec 32)) : (Jo Ld k s).length = s.length := by
  induction k with
  | zero => rfl
  | succ k ih => simp [Jo, ih]
def Dt (s f : List (BitVec 32)) (i : Nat) : BitVec 8 :=
  ((s.getD ((i : Int) / 4).toNat 0 + f.getD ((i : Int) / 4).toNat 0) >>> (8 * ((i : Int) % 4)).toNat).setWidth 8
def Xp (key : List (BitVec 8)) (counter : BitVec 32) (nonce : List (BitVec 8)) : List (BitVec 8) :=
  Jp (Dt (Jo Ld 10 (Yd Zk key counter nonce)) (Yd Zk key counter nonce)) 0 64 64
@[simp] theorem blockP_length (key : List (BitVec 8)) (counter : BitVec 32) (nonce : List (BitVec 8)) : (Xp key counter nonce).length = 64 := by
  unfold Xp; rw [Em _ _ _ _ oM]
@[simp] theorem filled_length' {α : Type} (g : Nat → α) (z : α) (n k : Nat) : (Jp g z n k).length = k + (n - k) := by simp [Jp]
theorem c_begin (key : List (BitVec 8)) (counter : BitVec 32) (nonce : List (BitVec 8)) (w0 : World)  (hk : key.length = 32) (hn : nonce.length = 12) : X8 Tryd.prog 103 #[(agg u8 key), (u32 counter), (agg u8 nonce)] w0 (fun r w1 => r = (agg u32 (Yd Zk key counter nonce)) ∧ Ext w0 w1) := by
 refine Zp (args := [(agg u8 key), (u32 counter), (agg u8 nonce)]) Tryd.func103 rfl Tryd.ntmps103 Tryd.results103 rfl ?_
 have hm0 : Mem w0 (Qo w0) [] := Mem.of_world w0
 refine sR <| Zo rfl (X4 (f := u8) (l := key) hm0 rfl) ?_
 rintro _ w1 ⟨b3, rfl, _ew1, hm1⟩
 refine Zo rfl (X4 (f := u8) (l := nonce) hm1 rfl) ?_
 rintro _ w2 ⟨b5, rfl, _ew2, hm2⟩
 refine Zo rfl (Zy hm2 Sr) ?_
 rintro _ w3 ⟨b6, rfl, _ew3, hm3⟩
 refine rN (sR ?_)
 refine Qb rfl (Xg (i := 0) (j := 16) Gm Xb rfl (Zn _ _) (Zn _ _) oM sD sD) <| Zo rfl (Xd u32 [1634760805#32, 857760878#32, 2036477234#32, 1797285236#32] Xq hm3 uT163 Xb rfl rfl rfl) ?_
 rintro _ w4 ⟨b10, rfl, _ew4, hm4⟩
 refine Zo rfl (Ri (f := u32) (Eq.trans rfl (Qe3 (by decide))) rfl (Rd.mkA hm4.h0) uT163 Xb Xq hm4.h1 sD sD (Nat.le_refl _)) ?_
 rintro _ w5 ⟨rfl, uq5⟩
 have hm5 : Mem w5 (Qo w0) [(b10, .cells (cl u32 ([1634760805#32, 857760878#32, 2036477234#32, 1797285236#32])) 106 (0, 0)), (b6, .cells (cl u32 ([1634760805#32, 857760878#32, 2036477234#32, 1797285236#32, 0, 0, 0, 0, 0, 0, 0, 0, 0, 0, 0, 0])) 156 (0, 0)), (b5, .cells (cl u8 nonce) 77 (0, 0)), (b3, .cells (cl u8 key) 23 (0, 0))] := hm4.upd1 uq5
 refine rN (Qh (sR ?_))
 refine Qb rfl (Qc (v := (i64 0)) rfl) ?_
 refine rN (Qv ?_)
 refine Jw 9 ?_
 refine Zu (sR ?_)
 refine Qb rfl (Qs (a := 0) (b := 8) rfl rfl) ?_
 refine rN (Qh ?_)
 refine Zf rfl (by decide) ?_
 refine Zc (Qi (Qh (Qv (sR ?_))))
 refine Qb rfl (Qc (v := (i64 0)) rfl) <| Qb rfl (Qd (v := (i64 0)) rfl) ?_
 refine rN (Qg ?_)
 refine Qb rfl (Qc (v := (i64 0)) rfl) <| Qb (v := (i64 4)) rfl (Qk (a := 4) (b := 0) rfl rfl oM oM) <| Qb rfl (Qc (v := (i64 0)) rfl) <| Qb (v := (i64 0)) rfl (Xj (a := 4) (b := 0) rfl rfl oM oM) <| Qb rfl (Xg (i := 0) (j := 32) Xo Yq rfl (X9 (k := .i64) (i := 0) rfl) (Zn _ _) oM sD sD) <| Zo rfl (Qx Tryd.func113 Nj L6 (Ye rfl) (D7 (sla b3 0 1 0 32 32) key _ (Rd.slaAll hm5.h3 sD) sD)) ?_
 rintro _ w6 ⟨rfl, _ew6⟩
 have hm6 := hm5.ext _ew6
 refine Qb rfl (Qm (r := 4) (i := 4) oM Gm Xb rfl rfl oM oM) <| Xf (Zx (f := u32) (l' := [1634760805#32, 857760878#32, 2036477234#32, 1797285236#32, Zk key, 0, 0, 0, 0, 0, 0, 0, 0, 0, 0, 0]) rfl Xq Xb rfl rfl hm6.h1 (by simp) (.inl (Nat.zero_le _))) ?_
 rintro _ w8 uq8
 have hm8 := hm6.upd1 uq8
 refine Zz (Qn ?_)
 have hm9 := Mem.drop ([(b10, .cells (cl u32 ([1634760805#32, 857760878#32, 2036477234#32, 1797285236#32])) 106 (0, 0))]) _ hm8
 refine CW.abs (fun g => g 0 = (agg u8 key) ∧ g 1 = (u32 counter) ∧ g 2 = (agg u8 nonce) ∧ g 3 = (ptr b3 0) ∧ g 5 = (ptr b5 0) ∧ g 6 = (ptr b6 0) ∧ g 7 = (i64 0) ∧ g 12 = (i64 0) ∧ g 13 = (bl true) ∧ True) ⟨rfl, rfl, rfl, rfl, rfl, rfl, rfl, rfl, rfl, trivial⟩ ?_
 rintro fr10 ⟨s0, s1, s2, s3, s5, s6, s7, s12, s13, _⟩
 refine Qg <| Qb (v := (i64 1)) rfl (Qk (a := 0) (b := 1) s12 rfl oM oM) <| Qb rfl (Qc (v := (i64 1)) rfl) ?_
 refine rN (Zu (sR ?_))
 refine Qb rfl (Qs (a := 1) (b := 8) rfl rfl) ?_
 refine rN (Qh ?_)
 refine Zf rfl (by decide) ?_
 refine Zc (Qi (Qh (Qv (sR ?_))))
 refine Qb rfl (Qc (v := (i64 1)) rfl) <| Qb rfl (Qd (v := (i64 1)) rfl) ?_
 refine rN (Qg ?_)
 refine Qb rfl (Qc (v := (i64 1)) rfl) <| Qb (v := (i64 5)) rfl (Qk (a := 4) (b := 1) rfl rfl oM oM) <| Qb rfl (Qc (v := (i64 1)) rfl) <| Qb (v := (i64 4)) rfl (Xj (a := 4) (b := 1) rfl rfl oM oM) <| Qb rfl (Xg (i := 4) (j := 32) Xo Yq s3 (X9 (k := .i64) (i := 4) rfl) (Zn _ _) oM sD sD) <| Zo rfl (Qx Tryd.func113 Nj L6 (Ye rfl) (D7 (sla b3 0 1 4 32 32) ((key.drop 4).take 28) _ (Rd.cast (l' := (key.drop 4).take 28) (Rd.sla hm9.h2 sD oM sD sD) rfl) sD)) ?_
 rintro _ w11 ⟨rfl, _ew11⟩
 have hm11 := hm9.ext _ew11
 refine Qb rfl (Qm (r := 5) (i := 5) oM Gm Xb s6 rfl oM oM) <| Xf (Zx (f := u32) (l' := [1634760805#32, 857760878#32, 2036477234#32, 1797285236#32, Zk key, Zk ((key.drop 4).take 28), 0, 0, 0, 0, 0, 0, 0, 0, 0, 0]) rfl Xq Xb rfl rfl hm11.h0 (by simp) (.inl (Nat.zero_le _))) ?_
 rintro _ w13 uq13
 have hm13 := hm11.upd0 uq13
 refine Zz (Qn ?_)
 refine CW.abs (fun g => g 0 = (agg u8 key) ∧ g 1 = (u32 counter) ∧ g 2 = (agg u8 nonce) ∧ g 3 = (ptr b3 0) ∧ g 5 = (ptr b5 0) ∧ g 6 = (ptr b6 0) ∧ g 7 = (i64 1) ∧ g 12 = (i64 1) ∧ g 13 = (bl true) ∧ True) ⟨s0, s1, s2, s3, s5, s6, rfl, rfl, rfl, trivial⟩ ?_
 rintro fr14 ⟨s0, s1, s2, s3, s5, s6, s7, s12, s13, _⟩
 refine Qg <| Qb (v := (i64 2)) rfl (Qk (a := 1) (b := 1) s12 rfl oM oM) <| Qb rfl (Qc (v := (i64 2)) rfl) ?_
 refine rN (Zu (sR ?_))
 refine Qb rfl (Qs (a := 2) (b := 8) rfl rfl) ?_
 refine rN (Qh ?_)
 refine Zf rfl (by decide) ?_
 refine Zc (Qi (Qh (Qv (sR ?_))))
 refine Qb rfl (Qc (v := (i64 2)) rfl) <| Qb rfl (Qd (v := (i64 2)) rfl) ?_
 refine rN (Qg ?_)
 refine Qb rfl (Qc (v := (i64 2)) rfl) <| Qb (v := (i64 6)) rfl (Qk (a := 4) (b := 2) rfl rfl oM oM) <| Qb rfl (Qc (v := (i64 2)) rfl) <| Qb (v := (i64 8)) rfl (Xj (a := 4) (b := 2) rfl rfl oM oM) <| Qb rfl (Xg (i := 8) (j := 32) Xo Yq s3 (X9 (k := .i64) (i := 8) rfl) (Zn _ _) oM sD sD) <| Zo rfl (Qx Tryd.func113 Nj L6 (Ye rfl) (D7 (sla b3 0 1 8 32 32) ((key.drop 8).take 24) _ (Rd.cast (l' := (key.drop 8).take 24) (Rd.sla hm13.h2 sD oM sD sD) rfl) sD)) ?_
 rintro _ w15 ⟨rfl, _ew15⟩
 have hm15 := hm13.ext _ew15
 refine Qb rfl (Qm (r := 6) (i := 6) oM Gm Xb s6 rfl oM oM) <| Xf (Zx (f := u32) (l' := [1634760805#32, 857760878#32, 2036477234#32, 1797285236#32, Zk key, Zk ((key.drop 4).take 28), Zk ((key.drop 8).take 24), 0, 0, 0, 0, 0, 0, 0, 0, 0]) rfl Xq Xb rfl rfl hm15.h0 (by simp) (.inl (Nat.zero_le _))) ?_
 rintro _ w17 uq17
 have hm17 := hm15.upd0 uq17
 refine Zz (Qn ?_)
 refine CW.abs (fun g => g 0 = (agg u8 key) ∧ g 1 = (u32 counter) ∧ g 2 = (agg u8 nonce) ∧ g 3 = (ptr b3 0) ∧ g 5 = (ptr b5 0) ∧ g 6 = (ptr b6 0) ∧ g 7 = (i64 2) ∧ g 12 = (i64 2) ∧ g 13 = (bl true) ∧ True) ⟨s0, s1, s2, s3, s5, s6, rfl, rfl, rfl, trivial⟩ ?_
 rintro fr18 ⟨s0, s1, s2, s3, s5, s6, s7, s12, s13, _⟩
 refine Qg <| Qb (v := (i64 3)) rfl (Qk (a := 2) (b := 1) s12 rfl oM oM) <| Qb rfl (Qc (v := (i64 3)) rfl) ?_
 refine rN (Zu (sR ?_))
 refine Qb rfl (Qs (a := 3) (b := 8) rfl rfl) ?_
 refine rN (Qh ?_)
 refine Zf rfl (by decide) ?_
 refine Zc (Qi (Qh (Qv (sR ?_))))
 refine Qb rfl (Qc (v := (i64 3)) rfl) <| Qb rfl (Qd (v := (i64 3)) rfl) ?_
 refine rN (Qg ?_)
 refine Qb rfl (Qc (v := (i64 3)) rfl) <| Qb (v := (i64 7)) rfl (Qk (a := 4) (b := 3) rfl rfl oM oM) <| Qb rfl (Qc (v := (i64 3)) rfl) <| Qb (v := (i64 12)) rfl (Xj (a := 4) (b := 3) rfl rfl oM oM) <| Qb rfl (Xg (i := 12) (j := 32) Xo Yq s3 (X9 (k := .i64) (i := 12) rfl) (Zn _ _) oM sD sD) <| Zo rfl (Qx Tryd.func113 Nj L6 (Ye rfl) (D7 (sla b3 0 1 12 32 32) ((key.drop 12).take 20) _ (Rd.cast (l' := (key.drop 12).take 20) (Rd.sla hm17.h2 sD oM sD sD) rfl) sD)) ?_
 rintro _ w19 ⟨rfl, _ew19⟩
 have hm19 := hm17.ext _ew19
 refine Qb rfl (Qm (r := 7) (i := 7) oM Gm Xb s6 rfl oM oM) <| Xf (Zx (f := u32) (l' := [1634760805#32, 857760878#32, 2036477234#32, 1797285236#32, Zk key, Zk ((key.drop 4).take 28), Zk ((key.drop 8).take 24), Zk ((key.drop 12).take 20), 0, 0, 0, 0, 0, 0, 0, 0]) rfl Xq Xb rfl rfl hm19.h0 (by simp) (.inl (Nat.zero_le _))) ?_
 rintro _ w21 uq21
 have hm21 := hm19.upd0 uq21
 refine Zz (Qn ?_)
 refine CW.abs (fun g => g 0 = (agg u8 key) ∧ g 1 = (u32 counter) ∧ g 2 = (agg u8 nonce) ∧ g 3 = (ptr b3 0) ∧ g 5 = (ptr b5 0) ∧ g 6 = (ptr b6 0) ∧ g 7 = (i64 3) ∧ g 12 = (i64 3) ∧ g 13 = (bl true) ∧ True) ⟨s0, s1, s2, s3, s5, s6, rfl, rfl, rfl, trivial⟩ ?_
 rintro fr22 ⟨s0, s1, s2, s3, s5, s6, s7, s12, s13, _⟩
 refine Qg <| Qb (v := (i64 4)) rfl (Qk (a := 3) (b := 1) s12 rfl oM oM) <| Qb rfl (Qc (v := (i64 4)) rfl) ?_
 refine rN (Zu (sR ?_))
 refine Qb rfl (Qs (a := 4) (b := 8) rfl rfl) ?_
 refine rN (Qh ?_)
 refine Zf rfl (by decide) ?_
 refine Zc (Qi (Qh (Qv (sR ?_))))
 refine Qb rfl (Qc (v := (i64 4)) rfl) <| Qb rfl (Qd (v := (i64 4)) rfl) ?_
 refine rN (Qg ?_)
 refine Qb rfl (Qc (v := (i64 4)) rfl) <| Qb (v := (i64 8)) rfl (Qk (a := 4) (b := 4) rfl rfl oM oM) <| Qb rfl (Qc (v := (i64 4)) rfl) <| Qb (v := (i64 16)) rfl (Xj (a := 4) (b := 4) rfl rfl oM oM) <| Qb rfl (Xg (i := 16) (j := 32) Xo Yq s3 (X9 (k := .i64) (i := 16) rfl) (Zn _ _) oM sD sD) <| Zo rfl (Qx Tryd.func113 Nj L6 (Ye rfl) (D7 (sla b3 0 1 16 32 32) ((key.drop 16).take 16) _ (Rd.cast (l' := (key.drop 16).take 16) (Rd.sla hm21.h2 sD oM sD sD) rfl) sD)) ?_
 rintro _ w23 ⟨rfl, _ew23⟩
 have hm23 := hm21.ext _ew23
 refine Qb rfl (Qm (r := 8) (i := 8) oM Gm Xb s6 rfl oM oM) <| Xf (Zx (f := u32) (l' := [1634760805#32, 857760878#32, 2036477234#32, 1797285236#32, Zk key, Zk ((key.drop 4).take 28), Zk ((key.drop 8).take 24), Zk ((key.drop 12).take 20), Zk ((key.drop 16).take 16), 0, 0, 0, 0, 0, 0, 0]) rfl Xq Xb rfl rfl hm23.h0 (by simp) (.inl (Nat.zero_le _))) ?_
 rintro _ w25 uq25
 have hm25 := hm23.upd0 uq25
 refine Zz (Qn ?_)
 refine CW.abs (fun g => g 0 = (agg u8 key) ∧ g 1 = (u32 counter) ∧ g 2 = (agg u8 nonce) ∧ g 3 = (ptr b3 0) ∧ g 5 = (ptr b5 0) ∧ g 6 = (ptr b6 0) ∧ g 7 = (i64 4) ∧ g 12 = (i64 4) ∧ g 13 = (bl true) ∧ True) ⟨s0, s1, s2, s3, s5, s6, rfl, rfl, rfl, trivial⟩ ?_
 rintro fr26 ⟨s0, s1, s2, s3, s5, s6, s7, s12, s13, _⟩
 refine Qg <| Qb (v := (i64 5)) rfl (Qk (a := 4) (b := 1) s12 rfl oM oM) <| Qb rfl (Qc (v := (i64 5)) rfl) ?_
 refine rN (Zu (sR ?_))
 refine Qb rfl (Qs (a := 5) (b := 8) rfl rfl) ?_
 refine rN (Qh ?_)
 refine Zf rfl (by decide) ?_
 refine Zc (Qi (Qh (Qv (sR ?_))))
 refine Qb rfl (Qc (v := (i64 5)) rfl) <| Qb rfl (Qd (v := (i64 5)) rfl) ?_
 refine rN (Qg ?_)
 refine Qb rfl (Qc (v := (i64 5)) rfl) <| Qb (v := (i64 9)) rfl (Qk (a := 4) (b := 5) rfl rfl oM oM) <| Qb rfl (Qc (v := (i64 5)) rfl) <| Qb (v := (i64 20)) rfl (Xj (a := 4) (b := 5) rfl rfl oM oM) <| Qb rfl (Xg (i := 20) (j := 32) Xo Yq s3 (X9 (k := .i64) (i := 20) rfl) (Zn _ _) oM sD sD) <| Zo rfl (Qx Tryd.func113 Nj L6 (Ye rfl) (D7 (sla b3 0 1 20 32 32) ((key.drop 20).take 12) _ (Rd.cast (l' := (key.drop 20).take 12) (Rd.sla hm25.h2 sD oM sD sD) rfl) sD)) ?_
 rintro _ w27 ⟨rfl, _ew27⟩
 have hm27 := hm25.ext _ew27
 refine Qb rfl (Qm (r := 9) (i := 9) oM Gm Xb s6 rfl oM oM) <| Xf (Zx (f := u32) (l' := [1634760805#32, 857760878#32, 2036477234#32, 1797285236#32, Zk key, Zk ((key.drop 4).take 28), Zk ((key.drop 8).take 24), Zk ((key.drop 12).take 20), Zk ((key.drop 16).take 16), Zk ((key.drop 20).take 12), 0, 0, 0, 0, 0, 0]) rfl Xq Xb rfl rfl hm27.h0 (by simp) (.inl (Nat.zero_le _))) ?_
 rintro _ w29 uq29
 have hm29 := hm27.upd0 uq29
 refine Zz (Qn ?_)
 refine CW.abs (fun g => g 0 = (agg u8 key) ∧ g 1 = (u32 counter) ∧ g 2 = (agg u8 nonce) ∧ g 3 = (ptr b3 0) ∧ g 5 = (ptr b5 0) ∧ g 6 = (ptr b6 0) ∧ g 7 = (i64 5) ∧ g 12 = (i64 5) ∧ g 13 = (bl true) ∧ True) ⟨s0, s1, s2, s3, s5, s6, rfl, rfl, rfl, trivial⟩ ?_
 rintro fr30 ⟨s0, s1, s2, s3, s5, s6, s7, s12, s13, _⟩
 refine Qg <| Qb (v := (i64 6)) rfl (Qk (a := 5) (b := 1) s12 rfl oM oM) <| Qb rfl (Qc (v := (i64 6)) rfl) ?_
 refine rN (Zu (sR ?_))
 refine Qb rfl (Qs (a := 6) (b := 8) rfl rfl) ?_
 refine rN (Qh ?_)
 refine Zf rfl (by decide) ?_
 refine Zc (Qi (Qh (Qv (sR ?_))))
 refine Qb rfl (Qc (v := (i64 6)) rfl) <| Qb rfl (Qd (v := (i64 6)) rfl) ?_
 refine rN (Qg ?_)
 refine Qb rfl (Qc (v := (i64 6)) rfl) <| Qb (v := (i64 10)) rfl (Qk (a := 4) (b := 6) rfl rfl oM oM) <| Qb rfl (Qc (v := (i64 6)) rfl) <| Qb (v := (i64 24)) rfl (Xj (a := 4) (b := 6) rfl rfl oM oM) <| Qb rfl (Xg (i := 24) (j := 32) Xo Yq s3 (X9 (k := .i64) (i := 24) rfl) (Zn _ _) oM sD sD) <| Zo rfl (Qx Tryd.func113 Nj L6 (Ye rfl) (D7 (sla b3 0 1 24 32 32) ((key.drop 24).take 8) _ (Rd.cast (l' := (key.drop 24).take 8) (Rd.sla hm29.h2 sD oM sD sD) rfl) sD)) ?_
 rintro _ w31 ⟨rfl, _ew31⟩
 have hm31 := hm29.ext _ew31
 refine Qb rfl (Qm (r := 10) (i := 10) oM Gm Xb s6 rfl oM oM) <| Xf (Zx (f := u32) (l' := [1634760805#32, 857760878#32, 2036477234#32, 1797285236#32, Zk key, Zk ((key.drop 4).take 28), Zk ((key.drop 8).take 24), Zk ((key.drop 12).take 20), Zk ((key.drop 16).take 16), Zk ((key.drop 20).take 12), Zk ((key.drop 24).take 8), 0, 0, 0, 0, 0]) rfl Xq Xb rfl rfl hm31.h0 (by simp) (.inl (Nat.zero_le _))) ?_
 rintro _ w33 uq33
 have hm33 := hm31.upd0 uq33
 refine Zz (Qn ?_)
 refine CW.abs (fun g => g 0 = (agg u8 key) ∧ g 1 = (u32 counter) ∧ g 2 = (agg u8 nonce) ∧ g 3 = (ptr b3 0) ∧ g 5 = (ptr b5 0) ∧ g 6 = (ptr b6 0) ∧ g 7 = (i64 6) ∧ g 12 = (i64 6) ∧ g 13 = (bl true) ∧ True) ⟨s0, s1, s2, s3, s5, s6, rfl, rfl, rfl, trivial⟩ ?_
 rintro fr34 ⟨s0, s1, s2, s3, s5, s6, s7, s12, s13, _⟩
 refine Qg <| Qb (v := (i64 7)) rfl (Qk (a := 6) (b := 1) s12 rfl oM oM) <| Qb rfl (Qc (v := (i64 7)) rfl) ?_
 refine rN (Zu (sR ?_))
 refine Qb rfl (Qs (a := 7) (b := 8) rfl rfl) ?_
 refine rN (Qh ?_)
 refine Zf rfl (by decide) ?_
 refine Zc (Qi (Qh (Qv (sR ?_))))
 refine Qb rfl (Qc (v := (i64 7)) rfl) <| Qb rfl (Qd (v := (i64 7)) rfl) ?_
 refine rN (Qg ?_)
 refine Qb rfl (Qc (v := (i64 7)) rfl) <| Qb (v := (i64 11)) rfl (Qk (a := 4) (b := 7) rfl rfl oM oM) <| Qb rfl (Qc (v := (i64 7)) rfl) <| Qb (v := (i64 28)) rfl (Xj (a := 4) (b := 7) rfl rfl oM oM) <| Qb rfl (Xg (i := 28) (j := 32) Xo Yq s3 (X9 (k := .i64) (i := 28) rfl) (Zn _ _) oM sD sD) <| Zo rfl (Qx Tryd.func113 Nj L6 (Ye rfl) (D7 (sla b3 0 1 28 32 32) ((key.drop 28).take 4) _ (Rd.cast (l' := (key.drop 28).take 4) (Rd.sla hm33.h2 sD oM sD sD) rfl) sD)) ?_
 rintro _ w35 ⟨rfl, _ew35⟩
 have hm35 := hm33.ext _ew35
 refine Qb rfl (Qm (r := 11) (i := 11) oM Gm Xb s6 rfl oM oM) <| Xf (Zx (f := u32) (l' := [1634760805#32, 857760878#32, 2036477234#32, 1797285236#32, Zk key, Zk ((key.drop 4).take 28), Zk ((key.drop 8).take 24), Zk ((key.drop 12).take 20), Zk ((key.drop 16).take 16), Zk ((key.drop 20).take 12), Zk ((key.drop 24).take 8), Zk ((key.drop 28).take 4), 0, 0, 0, 0]) rfl Xq Xb rfl rfl hm35.h0 (by simp) (.inl (Nat.zero_le _))) ?_
 rintro _ w37 uq37
 have hm37 := hm35.upd0 uq37
 refine Zz (Qn ?_)
 refine CW.abs (fun g => g 0 = (agg u8 key) ∧ g 1 = (u32 counter) ∧ g 2 = (agg u8 nonce) ∧ g 3 = (ptr b3 0) ∧ g 5 = (ptr b5 0) ∧ g 6 = (ptr b6 0) ∧ g 7 = (i64 7) ∧ g 12 = (i64 7) ∧ g 13 = (bl true) ∧ True) ⟨s0, s1, s2, s3, s5, s6, rfl, rfl, rfl, trivial⟩ ?_
 rintro fr38 ⟨s0, s1, s2, s3, s5, s6, s7, s12, s13, _⟩
 refine Qg <| Qb (v := (i64 8)) rfl (Qk (a := 7) (b := 1) s12 rfl oM oM) <| Qb rfl (Qc (v := (i64 8)) rfl) ?_
 refine rN (Zu (sR ?_))
 refine Qb rfl (Qs (a := 8) (b := 8) rfl rfl) ?_
 refine rN (Qh ?_)
 refine Yt rfl (by decide) <| Yb ?_
 refine Zb (Zb (Xw ?_))
 refine sR <| rM rfl s1 <| Qb rfl (Qm (r := 12) (i := 12) oM Gm Xb s6 rfl oM oM) <| Xf (Zx (f := u32) (l' := [1634760805#32, 857760878#32, 2036477234#32, 1797285236#32, Zk key, Zk ((key.drop 4).take 28), Zk ((key.drop 8).take 24), Zk ((key.drop 12).take 20), Zk ((key.drop 16).take 16), Zk ((key.drop 20).take 12), Zk ((key.drop 24).take 8), Zk ((key.drop 28).take 4), counter, 0, 0, 0]) rfl Xq Xb rfl rfl hm37.h0 (by simp) (.inl (Nat.zero_le _))) ?_
 rintro _ w39 uq39
 have hm39 := hm37.upd0 uq39
 refine rN (Qh (sR ?_))
 refine Qb rfl (Qc (v := (i64 0)) rfl) ?_
 refine rN (Qv ?_)
 refine Jw 4 ?_
 refine Zu (sR ?_)
 refine Qb rfl (Qs (a := 0) (b := 3) rfl rfl) ?_
 refine rN (Qh ?_)
 refine Zf rfl (by decide) ?_
 refine Zc (Qi (Qh (Qv (sR ?_))))
 refine Qb rfl (Qc (v := (i64 0)) rfl) <| Qb rfl (Qd (v := (i64 0)) rfl) ?_
 refine rN (Qg ?_)
 refine Qb rfl (Qc (v := (i64 0)) rfl) <| Qb (v := (i64 13)) rfl (Qk (a := 13) (b := 0) rfl rfl oM oM) <| Qb rfl (Qc (v := (i64 0)) rfl) <| Qb (v := (i64 0)) rfl (Xj (a := 4) (b := 0) rfl rfl oM oM) <| Qb rfl (Xg (i := 0) (j := 12) Qce Yq s5 (X9 (k := .i64) (i := 0) rfl) (Zn _ _) oM sD sD) <| Zo rfl (Qx Tryd.func113 Nj L6 (Ye rfl) (D7 (sla b5 0 1 0 12 12) nonce _ (Rd.slaAll hm39.h1 sD) sD)) ?_
 rintro _ w40 ⟨rfl, _ew40⟩
 have hm40 := hm39.ext _ew40
 refine Qb rfl (Qm (r := 13) (i := 13) oM Gm Xb s6 rfl oM oM) <| Xf (Zx (f := u32) (l' := [1634760805#32, 857760878#32, 2036477234#32, 1797285236#32, Zk key, Zk ((key.drop 4).take 28), Zk ((key.drop 8).take 24), Zk ((key.drop 12).take 20), Zk ((key.drop 16).take 16), Zk ((key.drop 20).take 12), Zk ((key.drop 24).take 8), Zk ((key.drop 28).take 4), counter, Zk nonce, 0, 0]) rfl Xq Xb rfl rfl hm40.h0 (by simp) (.inl (Nat.zero_le _))) ?_
 rintro _ w42 uq42
 have hm42 := hm40.upd0 uq42
 refine Zz (Qn ?_)
 refine CW.abs (fun g => g 0 = (agg u8 key) ∧ g 1 = (u32 counter) ∧ g 2 = (agg u8 nonce) ∧ g 3 = (ptr b3 0) ∧ g 5 = (ptr b5 0) ∧ g 6 = (ptr b6 0) ∧ g 7 = (i64 7) ∧ g 8 = (i64 0) ∧ g 12 = (i64 8) ∧ g 13 = (bl false) ∧ g 25 = (i64 0) ∧ g 26 = (bl true) ∧ True) ⟨s0, s1, s2, s3, s5, s6, s7, rfl, rfl, rfl, rfl, rfl, trivial⟩ ?_
 rintro fr43 ⟨s0, s1, s2, s3, s5, s6, s7, s8, s12, s13, s25, s26, _⟩
 refine Qg <| Qb (v := (i64 1)) rfl (Qk (a := 0) (b := 1) s25 rfl oM oM) <| Qb rfl (Qc (v := (i64 1)) rfl) ?_
 refine rN (Zu (sR ?_))
 refine Qb rfl (Qs (a := 1) (b := 3) rfl rfl) ?_
 refine rN (Qh ?_)
 refine Zf rfl (by decide) ?_
 refine Zc (Qi (Qh (Qv (sR ?_))))
 refine Qb rfl (Qc (v := (i64 1)) rfl) <| Qb rfl (Qd (v := (i64 1)) rfl) ?_
 refine rN (Qg ?_)
 refine Qb rfl (Qc (v := (i64 1)) rfl) <| Qb (v := (i64 14)) rfl (Qk (a := 13) (b := 1) rfl rfl oM oM) <| Qb rfl (Qc (v := (i64 1)) rfl) <| Qb (v := (i64 4)) rfl (Xj (a := 4) (b := 1) rfl rfl oM oM) <| Qb rfl (Xg (i := 4) (j := 12) Qce Yq s5 (X9 (k := .i64) (i := 4) rfl) (Zn _ _) oM sD sD) <| Zo rfl (Qx Tryd.func113 Nj L6 (Ye rfl) (D7 (sla b5 0 1 4 12 12) ((nonce.drop 4).take 8) _ (Rd.cast (l' := (nonce.drop 4).take 8) (Rd.sla hm42.h1 sD oM sD sD) rfl) sD)) ?_
 rintro _ w44 ⟨rfl, _ew44⟩
 have hm44 := hm42.ext _ew44
 refine Qb rfl (Qm (r := 14) (i := 14) oM Gm Xb s6 rfl oM oM) <| Xf (Zx (f := u32) (l' := [1634760805#32, 857760878#32, 2036477234#32, 1797285236#32, Zk key, Zk ((key.drop 4).take 28), Zk ((key.drop 8).take 24), Zk ((key.drop 12).take 20), Zk ((key.drop 16).take 16), Zk ((key.drop 20).take 12), Zk ((key.drop 24).take 8), Zk ((key.drop 28).take 4), counter, Zk nonce, Zk ((nonce.drop 4).take 8), 0]) rfl Xq Xb rfl rfl hm44.h0 (by simp) (.inl (Nat.zero_le _))) ?_
 rintro _ w46 uq46
 have hm46 := hm44.upd0 uq46
 refine Zz (Qn ?_)
 refine CW.abs (fun g => g 0 = (agg u8 key) ∧ g 1 = (u32 counter) ∧ g 2 = (agg u8 nonce) ∧ g 3 = (ptr b3 0) ∧ g 5 = (ptr b5 0) ∧ g 6 = (ptr b6 0) ∧ g 7 = (i64 7) ∧ g 8 = (i64 1) ∧ g 12 = (i64 8) ∧ g 13 = (bl false) ∧ g 25 = (i64 1) ∧ g 26 = (bl true) ∧ True) ⟨s0, s1, s2, s3, s5, s6, s7, rfl, s12, s13, rfl, rfl, trivial⟩ ?_
 rintro fr47 ⟨s0, s1, s2, s3, s5, s6, s7, s8, s12, s13, s25, s26, _⟩
 refine Qg <| Qb (v := (i64 2)) rfl (Qk (a := 1) (b := 1) s25 rfl oM oM) <| Qb rfl (Qc (v := (i64 2)) rfl) ?_
 refine rN (Zu (sR ?_))
 refine Qb rfl (Qs (a := 2) (b := 3) rfl rfl) ?_
 refine rN (Qh ?_)
 refine Zf rfl (by decide) ?_
 refine Zc (Qi (Qh (Qv (sR ?_))))
 refine Qb rfl (Qc (v := (i64 2)) rfl) <| Qb rfl (Qd (v := (i64 2)) rfl) ?_
 refine rN (Qg ?_)
 refine Qb rfl (Qc (v := (i64 2)) rfl) <| Qb (v := (i64 15)) rfl (Qk (a := 13) (b := 2) rfl rfl oM oM) <| Qb rfl (Qc (v := (i64 2)) rfl) <| Qb (v := (i64 8)) rfl (Xj (a := 4) (b := 2) rfl rfl oM oM) <| Qb rfl (Xg (i := 8) (j := 12) Qce Yq s5 (X9 (k := .i64) (i := 8) rfl) (Zn _ _) oM sD sD) <| Zo rfl (Qx Tryd.func113 Nj L6 (Ye rfl) (D7 (sla b5 0 1 8 12 12) ((nonce.drop 8).take 4) _ (Rd.cast (l' := (nonce.drop 8).take 4) (Rd.sla hm46.h1 sD oM sD sD) rfl) sD)) ?_
 rintro _ w48 ⟨rfl, _ew48⟩
 have hm48 := hm46.ext _ew48
 refine Qb rfl (Qm (r := 15) (i := 15) oM Gm Xb s6 rfl oM oM) <| Xf (Zx (f := u32) (l' := [1634760805#32, 857760878#32, 2036477234#32, 1797285236#32, Zk key, Zk ((key.drop 4).take 28), Zk ((key.drop 8).take 24), Zk ((key.drop 12).take 20), Zk ((key.drop 16).take 16), Zk ((key.drop 20).take 12), Zk ((key.drop 24).take 8), Zk ((key.drop 28).take 4), counter, Zk nonce, Zk ((nonce.drop 4).take 8), Zk ((nonce.drop 8).take 4)]) rfl Xq Xb rfl rfl hm48.h0 (by simp) (.inl (Nat.zero_le _))) ?_
 rintro _ w50 uq50
 have hm50 := hm48.upd0 uq50
 refine Zz (Qn ?_)
 refine CW.abs (fun g => g 0 = (agg u8 key) ∧ g 1 = (u32 counter) ∧ g 2 = (agg u8 nonce) ∧ g 3 = (ptr b3 0) ∧ g 5 = (ptr b5 0) ∧ g 6 = (ptr b6 0) ∧ g 7 = (i64 7) ∧ g 8 = (i64 2) ∧ g 12 = (i64 8) ∧ g 13 = (bl false) ∧ g 25 = (i64 2) ∧ g 26 = (bl true) ∧ True) ⟨s0, s1, s2, s3, s5, s6, s7, rfl, s12, s13, rfl, rfl, trivial⟩ ?_
 rintro fr51 ⟨s0, s1, s2, s3, s5, s6, s7, s8, s12, s13, s25, s26, _⟩
 refine Qg <| Qb (v := (i64 3)) rfl (Qk (a := 2) (b := 1) s25 rfl oM oM) <| Qb rfl (Qc (v := (i64 3)) rfl) ?_
 refine rN (Zu (sR ?_))
 refine Qb rfl (Qs (a := 3) (b := 3) rfl rfl) ?_
 refine rN (Qh ?_)
 refine Yt rfl (by decide) <| Yb ?_
 refine Zb (Zb (Xw ?_))
 refine sR <| Qb (v := (agg u32 ([1634760805#32, 857760878#32, 2036477234#32, 1797285236#32, Zk key, Zk ((key.drop 4).take 28), Zk ((key.drop 8).take 24), Zk ((key.drop 12).take 20), Zk ((key.drop 16).take 16), Zk ((key.drop 20).take 12), Zk ((key.drop 24).take 8), Zk ((key.drop 28).take 4), counter, Zk nonce, Zk ((nonce.drop 4).take 8), Zk ((nonce.drop 8).take 4)]))) rfl (Z9 Gm rfl Sr s6 hm50.h0 sZ) <| Xf (Zl (f := u32) (l := [1634760805#32, 857760878#32, 2036477234#32, 1797285236#32, Zk key, Zk ((key.drop 4).take 28), Zk ((key.drop 8).take 24), Zk ((key.drop 12).take 20), Zk ((key.drop 16).take 16), Zk ((key.drop 20).take 12), Zk ((key.drop 24).take 8), Zk ((key.drop 28).take 4), counter, Zk nonce, Zk ((nonce.drop 4).take 8), Zk ((nonce.drop 8).take 4)]) Xq Sr s6 rfl sD hm50.h0 sZ rfl) ?_
 rintro _ w52 uq52
 have hm52 := hm50.upd0 uq52
 refine rN (Xn ?_)
 refine Zj [(agg u32 ([1634760805#32, 857760878#32, 2036477234#32, 1797285236#32, Zk key, Zk ((key.drop 4).take 28), Zk ((key.drop 8).take 24), Zk ((key.drop 12).take 20), Zk ((key.drop 16).take 16), Zk ((key.drop 20).take 12), Zk ((key.drop 24).take 8), Zk ((key.drop 28).take 4), counter, Zk nonce, Zk ((nonce.drop 4).take 8), Zk ((nonce.drop 8).take 4)]))] ⟨⟨_, s6, X6 Gm rfl Sr hm52.h0 sZ⟩, trivial⟩ ?_
 exact ⟨rfl, hm52.toExt⟩
theorem c_block (key : List (BitVec 8)) (counter : BitVec 32) (nonce : List (BitVec 8)) (w0 : World)  (hk : key.length = 32) (hn : nonce.length = 12) : X8 Tryd.prog 89 #[(agg u8 key), (u32 counter), (agg u8 nonce)] w0 (fun r w1 => r = (agg u8 (Xp key counter nonce)) ∧ Ext w0 w1) := by
 refine Zp (args := [(agg u8 key), (u32 counter), (agg u8 nonce)]) Tryd.func89 rfl Tryd.ntmps89 Tryd.results89 rfl ?_
 have hm0 : Mem w0 (Qo w0) [] := Mem.of_world w0
 refine sR <| Zo rfl (X4 (f := u8) (l := key) hm0 rfl) ?_
 rintro _ w1 ⟨b3, rfl, _ew1, hm1⟩
 refine Zo rfl (X4 (f := u8) (l := nonce) hm1 rfl) ?_
 rintro _ w2 ⟨b5, rfl, _ew2, hm2⟩
 refine Zo rfl (Zy hm2 Qdk) ?_
 rintro _ w3 ⟨b6, rfl, _ew3, hm3⟩
 refine rN (sR ?_)
 refine Qb (v := (agg u8 key)) rfl (Z9 Xo rfl Z5 rfl hm3.h2 sZ) <| Qb rfl (Qc (v := (u32 counter)) rfl) <| Qb (v := (agg u8 nonce)) rfl (Z9 Qce rfl ti77 rfl hm3.h1 sZ) <| Zo rfl (Qx Tryd.func103 bd103 nm103 (Ad rfl rfl rfl) (c_begin key counter nonce _ sD sD)) ?_
 rintro _ w4 ⟨rfl, _ew4⟩
 have hm4 := hm3.ext _ew4
 refine Zo rfl (Zy hm4 Sr) ?_
 rintro _ w6 ⟨b7, rfl, _ew6, hm6⟩
 refine Xf (Zl (f := u32) (l := Yd Zk key counter nonce) Xq Sr rfl rfl sD hm6.h0 sZ rfl) ?_
 rintro _ w7 uq7
 have hm7 := hm6.upd0 uq7
 refine rN (sR ?_)
 refine Qb (v := (agg u32 (Yd Zk key counter nonce))) rfl (Z9 Gm rfl Sr rfl hm7.h0 sZ) <| Zo rfl (Zy hm7 Sr) ?_
 rintro _ w8 ⟨b8, rfl, _ew8, hm8⟩
 refine Xf (Zl (f := u32) (l := Yd Zk key counter nonce) Xq Sr rfl rfl sD hm8.h0 sZ rfl) ?_
 rintro _ w9 uq9
 have hm9 := hm8.upd0 uq9
 refine rN (Qh (sR ?_))
 refine Qb rfl (Qc (v := (i64 0)) rfl) <| rN ?_
 refine CW.abs (fun g => g 0 = (agg u8 key) ∧ g 1 = (u32 counter) ∧ g 2 = (agg u8 nonce) ∧ g 3 = (ptr b3 0) ∧ g 5 = (ptr b5 0) ∧ g 6 = (ptr b6 0) ∧ g 7 = (ptr b7 0) ∧ g 8 = (ptr b8 0) ∧ g 17 = (i64 0) ∧ True) ⟨rfl, rfl, rfl, rfl, rfl, rfl, rfl, rfl, rfl, trivial⟩ ?_
 rintro fr10 ⟨s0, s1, s2, s3, s5, s6, s7, s8, s17, _⟩
 refine Qv ?_
 refine Jg (fun g wv => ∃ (k : Nat), (k ≤ 10) ∧ g 0 = (agg u8 key) ∧ g 1 = (u32 counter) ∧ g 2 = (agg u8 nonce) ∧ g 3 = (ptr b3 0) ∧ g 5 = (ptr b5 0) ∧ g 6 = (ptr b6 0) ∧ g 7 = (ptr b7 0) ∧ g 8 = (ptr b8 0) ∧ g 17 = (i64 (k : Int)) ∧ Mem wv (Qo w0) [(b8, .cells (cl u32 (Jo Ld k (Yd Zk key counter nonce))) 156 (0, 0)), (b7, .cells (cl u32 (Yd Zk key counter nonce)) 156 (0, 0)), (b6, .cells (cl u8 (List.replicate 64 0)) 139 (0, 0)), (b5, .cells (cl u8 nonce) 77 (0, 0)), (b3, .cells (cl u8 key) 23 (0, 0))]) (fun g wv => (10 - RowKit.intOf (g 17)).toNat) ?_ ?_
 · exact ⟨0, oM, s0, s1, s2, s3, s5, s6, s7, s8, s17, hm9⟩
 · rintro fr11 w12 ⟨k, hk1, s0, s1, s2, s3, s5, s6, s7, s8, s17, hm12⟩
   have z17 := s17
   refine sR <| Qb rfl (Qs (b := 10) s17 rfl) ?_
   refine rN (Qh ?_)
   refine Xy rfl (fun hc13 => ?_) (fun hc13 => ?_)
   ·
     have hc13p := of_decide_eq_true hc13
     refine Zc (Qi (Qh (Qv (Qh (sR ?_)))))
     refine Qb rfl (Qc (v := (i64 0)) rfl) ?_
     refine rN (Qv ?_)
     refine Jw 5 ?_
     refine Zu (sR ?_)
     refine Qb rfl (Qs (a := 0) (b := 4) rfl rfl) ?_
     refine rN (Qh ?_)
     refine Zf rfl (by decide) ?_
     refine Zc (Qi (Qh (Qv (sR ?_))))
     refine Qb rfl (Qc (v := (i64 0)) rfl) <| Qb rfl (Qd (v := (i64 0)) rfl) ?_
     refine rN (Qg ?_)
     refine Qb rfl (Qc (v := (i64 0)) rfl) <| Qb rfl (Qc (v := (i64 0)) rfl) <| Qb (v := (i64 4)) rfl (Qk (a := 4) (b := 0) rfl rfl oM oM) <| Qb rfl (Qc (v := (i64 0)) rfl) <| Qb (v := (i64 8)) rfl (Qk (a := 8) (b := 0) rfl rfl oM oM) <| Qb rfl (Qc (v := (i64 0)) rfl) <| Qb (v := (i64 12)) rfl (Qk (a := 12) (b := 0) rfl rfl oM oM) <| Qb rfl (Vt i64 [0, 4, 8, 12] Xl Po Us Uz rfl rfl) ?_
     have hF15 : Mem w12 (Qo w0) ([(b8, .cells (cl u32 (Jo Ld k (Yd Zk key counter nonce))) 156 (0, 0))] ++ ([(b7, .cells (cl u32 (Yd Zk key counter nonce)) 156 (0, 0)), (b6, .cells (cl u8 (List.replicate 64 0)) 139 (0, 0)), (b5, .cells (cl u8 nonce) 77 (0, 0)), (b3, .cells (cl u8 key) 23 (0, 0))])) := hm12
     refine Zo rfl (Qx Tryd.func104 Qb0 Qbr (Yk s8 rfl) (Uf b8 (Jo Ld k (Yd Zk key counter nonce)) (0 : Int) (4 : Int) (8 : Int) (12 : Int) _ _ (Mem.give hF15) sD sD sD sD sD)) ?_
     rintro _ w14 ⟨rfl, k_w14⟩
     have hm14 : Mem w14 (Qo w0) [(b8, .cells (cl u32 (Vk (Jo Ld k (Yd Zk key counter nonce)) (0 : Int).toNat (4 : Int).toNat (8 : Int).toNat (12 : Int).toNat)) 156 (0, 0)), (b7, .cells (cl u32 (Yd Zk key counter nonce)) 156 (0, 0)), (b6, .cells (cl u8 (List.replicate 64 0)) 139 (0, 0)), (b5, .cells (cl u8 nonce) 77 (0, 0)), (b3, .cells (cl u8 key) 23 (0, 0))] := Mem.back hF15 k_w14
     refine Zz (Qn ?_)
     refine CW.abs (fun g => g 0 = (agg u8 key) ∧ g 1 = (u32 counter) ∧ g 2 = (agg u8 nonce) ∧ g 3 = (ptr b3 0) ∧ g 5 = (ptr b5 0) ∧ g 6 = (ptr b6 0) ∧ g 7 = (ptr b7 0) ∧ g 8 = (ptr b8 0) ∧ g 9 = (i64 0) ∧ g 17 = (i64 (k : Int)) ∧ g 18 = (bl (decide ((k : Int) < 10))) ∧ g 19 = (i64 0) ∧ g 20 = (bl true) ∧ True) ⟨s0, s1, s2, s3, s5, s6, s7, s8, rfl, s17, rfl, rfl, rfl, trivial⟩ ?_
     rintro fr17 ⟨s0, s1, s2, s3, s5, s6, s7, s8, s9, s17, s18, s19, s20, _⟩
     refine Qg <| Qb (v := (i64 1)) rfl (Qk (a := 0) (b := 1) s19 rfl oM oM) <| Qb rfl (Qc (v := (i64 1)) rfl) ?_
     refine rN (Zu (sR ?_))
     refine Qb rfl (Qs (a := 1) (b := 4) rfl rfl) ?_
     refine rN (Qh ?_)
     refine Zf rfl (by decide) ?_
     refine Zc (Qi (Qh (Qv (sR ?_))))
     refine Qb rfl (Qc (v := (i64 1)) rfl) <| Qb rfl (Qd (v := (i64 1)) rfl) ?_
     refine rN (Qg ?_)
     refine Qb rfl (Qc (v := (i64 1)) rfl) <| Qb rfl (Qc (v := (i64 1)) rfl) <| Qb (v := (i64 5)) rfl (Qk (a := 4) (b := 1) rfl rfl oM oM) <| Qb rfl (Qc (v := (i64 1)) rfl) <| Qb (v := (i64 9)) rfl (Qk (a := 8) (b := 1) rfl rfl oM oM) <| Qb rfl (Qc (v := (i64 1)) rfl) <| Qb (v := (i64 13)) rfl (Qk (a := 12) (b := 1) rfl rfl oM oM) <| Qb rfl (Vt i64 [1, 5, 9, 13] Xl Po Us Uz rfl rfl) ?_
     have hF19 : Mem w14 (Qo w0) ([(b8, .cells (cl u32 (Vk (Jo Ld k (Yd Zk key counter nonce)) (0 : Int).toNat (4 : Int).toNat (8 : Int).toNat (12 : Int).toNat)) 156 (0, 0))] ++ ([(b7, .cells (cl u32 (Yd Zk key counter nonce)) 156 (0, 0)), (b6, .cells (cl u8 (List.replicate 64 0)) 139 (0, 0)), (b5, .cells (cl u8 nonce) 77 (0, 0)), (b3, .cells (cl u8 key) 23 (0, 0))])) := hm14
     refine Zo rfl (Qx Tryd.func104 Qb0 Qbr (Yk s8 rfl) (Uf b8 (Vk (Jo Ld k (Yd Zk key counter nonce)) (0 : Int).toNat (4 : Int).toNat (8 : Int).toNat (12 : Int).toNat) (1 : Int) (5 : Int) (9 : Int) (13 : Int) _ _ (Mem.give hF19) sD sD sD sD sD)) ?_
     rintro _ w18 ⟨rfl, k_w18⟩
     have hm18 : Mem w18 (Qo w0) [(b8, .cells (cl u32 (Vk (Vk (Jo Ld k (Yd Zk key counter nonce)) (0 : Int).toNat (4 : Int).toNat (8 : Int).toNat (12 : Int).toNat) (1 : Int).toNat (5 : Int).toNat (9 : Int).toNat (13 : Int).toNat)) 156 (0, 0)), (b7, .cells (cl u32 (Yd Zk key counter nonce)) 156 (0, 0)), (b6, .cells (cl u8 (List.replicate 64 0)) 139 (0, 0)), (b5, .cells (cl u8 nonce) 77 (0, 0)), (b3, .cells (cl u8 key) 23 (0, 0))] := Mem.back hF19 k_w18
     refine Zz (Qn ?_)
     refine CW.abs (fun g => g 0 = (agg u8 key) ∧ g 1 = (u32 counter) ∧ g 2 = (agg u8 nonce) ∧ g 3 = (ptr b3 0) ∧ g 5 = (ptr b5 0) ∧ g 6 = (ptr b6 0) ∧ g 7 = (ptr b7 0) ∧ g 8 = (ptr b8 0) ∧ g 9 = (i64 1) ∧ g 17 = (i64 (k : Int)) ∧ g 18 = (bl (decide ((k : Int) < 10))) ∧ g 19 = (i64 1) ∧ g 20 = (bl true) ∧ True) ⟨s0, s1, s2, s3, s5, s6, s7, s8, rfl, s17, s18, rfl, rfl, trivial⟩ ?_
     rintro fr21 ⟨s0, s1, s2, s3, s5, s6, s7, s8, s9, s17, s18, s19, s20, _⟩
     refine Qg <| Qb (v := (i64 2)) rfl (Qk (a := 1) (b := 1) s19 rfl oM oM) <| Qb rfl (Qc (v := (i64 2)) rfl) ?_
     refine rN (Zu (sR ?_))
     refine Qb rfl (Qs (a := 2) (b := 4) rfl rfl) ?_
     refine rN (Qh ?_)
     refine Zf rfl (by decide) ?_
     refine Zc (Qi (Qh (Qv (sR ?_))))
     refine Qb rfl (Qc (v := (i64 2)) rfl) <| Qb rfl (Qd (v := (i64 2)) rfl) ?_
     refine rN (Qg ?_)
     refine Qb rfl (Qc (v := (i64 2)) rfl) <| Qb rfl (Qc (v := (i64 2)) rfl) <| Qb (v := (i64 6)) rfl (Qk (a := 4) (b := 2) rfl rfl oM oM) <| Qb rfl (Qc (v := (i64 2)) rfl) <| Qb (v := (i64 10)) rfl (Qk (a := 8) (b := 2) rfl rfl oM oM) <| Qb rfl (Qc (v := (i64 2)) rfl) <| Qb (v := (i64 14)) rfl (Qk (a := 12) (b := 2) rfl rfl oM oM) <| Qb rfl (Vt i64 [2, 6, 10, 14] Xl Po Us Uz rfl rfl) ?_
     have hF23 : Mem w18 (Qo w0) ([(b8, .cells (cl u32 (Vk (Vk (Jo Ld k (Yd Zk key counter nonce)) (0 : Int).toNat (4 : Int).toNat (8 : Int).toNat (12 : Int).toNat) (1 : Int).toNat (5 : Int).toNat (9 : Int).toNat (13 : Int).toNat)) 156 (0, 0))] ++ ([(b7, .cells (cl u32 (Yd Zk key counter nonce)) 156 (0, 0)), (b6, .cells (cl u8 (List.replicate 64 0)) 139 (0, 0)), (b5, .cells (cl u8 nonce) 77 (0, 0)), (b3, .cells (cl u8 key) 23 (0, 0))])) := hm18
     refine Zo rfl (Qx Tryd.func104 Qb0 Qbr (Yk s8 rfl) (Uf b8 (Vk (Vk (Jo Ld k (Yd Zk key counter nonce)) (0 : Int).toNat (4 : Int).toNat (8 : Int).toNat (12 : Int).toNat) (1 : Int).toNat (5 : Int).toNat (9 : Int).toNat (13 : Int).toNat) (2 : Int) (6 : Int) (10 : Int) (14 : Int) _ _ (Mem.give hF23) sD sD sD sD sD)) ?_
     rintro _ w22 ⟨rfl, k_w22⟩
     have hm22 : Mem w22 (Qo w0) [(b8, .cells (cl u32 (Vk (Vk (Vk (Jo Ld k (Yd Zk key counter nonce)) (0 : Int).toNat (4 : Int).toNat (8 : Int).toNat (12 : Int).toNat) (1 : Int).toNat (5 : Int).toNat (9 : Int).toNat (13 : Int).toNat) (2 : Int).toNat (6 : Int).toNat (10 : Int).toNat (14 : Int).toNat)) 156 (0, 0)), (b7, .cells (cl u32 (Yd Zk key counter nonce)) 156 (0, 0)), (b6, .cells (cl u8 (List.replicate 64 0)) 139 (0, 0)), (b5, .cells (cl u8 nonce) 77 (0, 0)), (b3, .cells (cl u8 key) 23 (0, 0))] := Mem.back hF23 k_w22
     refine Zz (Qn ?_)
     refine CW.abs (fun g => g 0 = (agg u8 key) ∧ g 1 = (u32 counter) ∧ g 2 = (agg u8 nonce) ∧ g 3 = (ptr b3 0) ∧ g 5 = (ptr b5 0) ∧ g 6 = (ptr b6 0) ∧ g 7 = (ptr b7 0) ∧ g 8 = (ptr b8 0) ∧ g 9 = (i64 2) ∧ g 17 = (i64 (k : Int)) ∧ g 18 = (bl (decide ((k : Int) < 10))) ∧ g 19 = (i64 2) ∧ g 20 = (bl true) ∧ True) ⟨s0, s1, s2, s3, s5, s6, s7, s8, rfl, s17, s18, rfl, rfl, trivial⟩ ?_
     rintro fr25 ⟨s0, s1, s2, s3, s5, s6, s7, s8, s9, s17, s18, s19, s20, _⟩
     refine Qg <| Qb (v := (i64 3)) rfl (Qk (a := 2) (b := 1) s19 rfl oM oM) <| Qb rfl (Qc (v := (i64 3)) rfl) ?_
     refine rN (Zu (sR ?_))
     refine Qb rfl (Qs (a := 3) (b := 4) rfl rfl) ?_
     refine rN (Qh ?_)
     refine Zf rfl (by decide) ?_
     refine Zc (Qi (Qh (Qv (sR ?_))))
     refine Qb rfl (Qc (v := (i64 3)) rfl) <| Qb rfl (Qd (v := (i64 3)) rfl) ?_
     refine rN (Qg ?_)
     refine Qb rfl (Qc (v := (i64 3)) rfl) <| Qb rfl (Qc (v := (i64 3)) rfl) <| Qb (v := (i64 7)) rfl (Qk (a := 4) (b := 3) rfl rfl oM oM) <| Qb rfl (Qc (v := (i64 3)) rfl) <| Qb (v := (i64 11)) rfl (Qk (a := 8) (b := 3) rfl rfl oM oM) <| Qb rfl (Qc (v := (i64 3)) rfl) <| Qb (v := (i64 15)) rfl (Qk (a := 12) (b := 3) rfl rfl oM oM) <| Qb rfl (Vt i64 [3, 7, 11, 15] Xl Po Us Uz rfl rfl) ?_
     have hF27 : Mem w22 (Qo w0) ([(b8, .cells (cl u32 (Vk (Vk (Vk (Jo Ld k (Yd Zk key counter nonce)) (0 : Int).toNat (4 : Int).toNat (8 : Int).toNat (12 : Int).toNat) (1 : Int).toNat (5 : Int).toNat (9 : Int).toNat (13 : Int).toNat) (2 : Int).toNat (6 : Int).toNat (10 : Int).toNat (14 : Int).toNat)) 156 (0, 0))] ++ ([(b7, .cells (cl u32 (Yd Zk key counter nonce)) 156 (0, 0)), (b6, .cells (cl u8 (List.replicate 64 0)) 139 (0, 0)), (b5, .cells (cl u8 nonce) 77 (0, 0)), (b3, .cells (cl u8 key) 23 (0, 0))])) := hm22
     refine Zo rfl (Qx Tryd.func104 Qb0 Qbr (Yk s8 rfl) (Uf b8 (Vk (Vk (Vk (Jo Ld k (Yd Zk key counter nonce)) (0 : Int).toNat (4 : Int).toNat (8 : Int).toNat (12 : Int).toNat) (1 : Int).toNat (5 : Int).toNat (9 : Int).toNat (13 : Int).toNat) (2 : Int).toNat (6 : Int).toNat (10 : Int).toNat (14 : Int).toNat) (3 : Int) (7 : Int) (11 : Int) (15 : Int) _ _ (Mem.give hF27) sD sD sD sD sD)) ?_
     rintro _ w26 ⟨rfl, k_w26⟩
     have hm26 : Mem w26 (Qo w0) [(b8, .cells (cl u32 (Vk (Vk (Vk (Vk (Jo Ld k (Yd Zk key counter nonce)) (0 : Int).toNat (4 : Int).toNat (8 : Int).toNat (12 : Int).toNat) (1 : Int).toNat (5 : Int).toNat (9 : Int).toNat (13 : Int).toNat) (2 : Int).toNat (6 : Int).toNat (10 : Int).toNat (14 : Int).toNat) (3 : Int).toNat (7 : Int).toNat (11 : Int).toNat (15 : Int).toNat)) 156 (0, 0)), (b7, .cells (cl u32 (Yd Zk key counter nonce)) 156 (0, 0)), (b6, .cells (cl u8 (List.replicate 64 0)) 139 (0, 0)), (b5, .cells (cl u8 nonce) 77 (0, 0)), (b3, .cells (cl u8 key) 23 (0, 0))] := Mem.back hF27 k_w26
     refine Zz (Qn ?_)
     refine CW.abs (fun g => g 0 = (agg u8 key) ∧ g 1 = (u32 counter) ∧ g 2 = (agg u8 nonce) ∧ g 3 = (ptr b3 0) ∧ g 5 = (ptr b5 0) ∧ g 6 = (ptr b6 0) ∧ g 7 = (ptr b7 0) ∧ g 8 = (ptr b8 0) ∧ g 9 = (i64 3) ∧ g 17 = (i64 (k : Int)) ∧ g 18 = (bl (decide ((k : Int) < 10))) ∧ g 19 = (i64 3) ∧ g 20 = (bl true) ∧ True) ⟨s0, s1, s2, s3, s5, s6, s7, s8, rfl, s17, s18, rfl, rfl, trivial⟩ ?_
     rintro fr29 ⟨s0, s1, s2, s3, s5, s6, s7, s8, s9, s17, s18, s19, s20, _⟩
     refine Qg <| Qb (v := (i64 4)) rfl (Qk (a := 3) (b := 1) s19 rfl oM oM) <| Qb rfl (Qc (v := (i64 4)) rfl) ?_
     refine rN (Zu (sR ?_))
     refine Qb rfl (Qs (a := 4) (b := 4) rfl rfl) ?_
     refine rN (Qh ?_)
     refine Yt rfl (by decide) <| Yb ?_
     refine Zb (Zb (Xw ?_))
     refine sR <| Qb rfl (Qc (v := (i64 0)) rfl) ?_
     refine rN (Uo ?_)
     refine Jw 5 ?_
     refine Zu (sR ?_)
     refine Qb rfl (Qs (a := 0) (b := 4) rfl rfl) ?_
     refine rN (Qh ?_)
     refine Zf rfl (by decide) ?_
     refine Zc (Qi (Qh (Qv (sR ?_))))
     refine Qb rfl (Qc (v := (i64 0)) rfl) <| Qb rfl (Qd (v := (i64 0)) rfl) ?_
     refine rN (Qg ?_)
     refine Qb rfl (Qc (v := (i64 0)) rfl) <| Qb rfl (Qc (v := (i64 0)) rfl) <| Qb (v := (i64 1)) rfl (Qk (a := 0) (b := 1) rfl rfl oM oM) <| Qb (v := (i64 1)) rfl (Vl (a := 1) (b := 3) rfl rfl oM oM) <| Qb (v := (i64 5)) rfl (Qk (a := 4) (b := 1) rfl rfl oM oM) <| Qb rfl (Qc (v := (i64 0)) rfl) <| Qb (v := (i64 2)) rfl (Qk (a := 0) (b := 2) rfl rfl oM oM) <| Qb (v := (i64 2)) rfl (Vl (a := 2) (b := 3) rfl rfl oM oM) <| Qb (v := (i64 10)) rfl (Qk (a := 8) (b := 2) rfl rfl oM oM) <| Qb rfl (Qc (v := (i64 0)) rfl) <| Qb (v := (i64 3)) rfl (Qk (a := 0) (b := 3) rfl rfl oM oM) <| Qb (v := (i64 3)) rfl (Vl (a := 3) (b := 3) rfl rfl oM oM) ?_
     refine Qb (v := (i64 15)) rfl (Qk (a := 12) (b := 3) rfl rfl oM oM) <| Qb rfl (Vt i64 [0, 5, 10, 15] Xl Po Us Uz rfl rfl) ?_
     have hF31 : Mem w26 (Qo w0) ([(b8, .cells (cl u32 (Vk (Vk (Vk (Vk (Jo Ld k (Yd Zk key counter nonce)) (0 : Int).toNat (4 : Int).toNat (8 : Int).toNat (12 : Int).toNat) (1 : Int).toNat (5 : Int).toNat (9 : Int).toNat (13 : Int).toNat) (2 : Int).toNat (6 : Int).toNat (10 : Int).toNat (14 : Int).toNat) (3 : Int).toNat (7 : Int).toNat (11 : Int).toNat (15 : Int).toNat)) 156 (0, 0))] ++ ([(b7, .cells (cl u32 (Yd Zk key counter nonce)) 156 (0, 0)), (b6, .cells (cl u8 (List.replicate 64 0)) 139 (0, 0)), (b5, .cells (cl u8 nonce) 77 (0, 0)), (b3, .cells (cl u8 key) 23 (0, 0))])) := hm26
     refine Zo rfl (Qx Tryd.func104 Qb0 Qbr (Yk s8 rfl) (Uf b8 (Vk (Vk (Vk (Vk (Jo Ld k (Yd Zk key counter nonce)) (0 : Int).toNat (4 : Int).toNat (8 : Int).toNat (12 : Int).toNat) (1 : Int).toNat (5 : Int).toNat (9 : Int).toNat (13 : Int).toNat) (2 : Int).toNat (6 : Int).toNat (10 : Int).toNat (14 : Int).toNat) (3 : Int).toNat (7 : Int).toNat (11 : Int).toNat (15 : Int).toNat) (0 : Int) (5 : Int) (10 : Int) (15 : Int) _ _ (Mem.give hF31) sD sD sD sD sD)) ?_
     rintro _ w30 ⟨rfl, k_w30⟩
     have hm30 : Mem w30 (Qo w0) [(b8, .cells (cl u32 (Vk (Vk (Vk (Vk (Vk (Jo Ld k (Yd Zk key counter nonce)) (0 : Int).toNat (4 : Int).toNat (8 : Int).toNat (12 : Int).toNat) (1 : Int).toNat (5 : Int).toNat (9 : Int).toNat (13 : Int).toNat) (2 : Int).toNat (6 : Int).toNat (10 : Int).toNat (14 : Int).toNat) (3 : Int).toNat (7 : Int).toNat (11 : Int).toNat (15 : Int).toNat) (0 : Int).toNat (5 : Int).toNat (10 : Int).toNat (15 : Int).toNat)) 156 (0, 0)), (b7, .cells (cl u32 (Yd Zk key counter nonce)) 156 (0, 0)), (b6, .cells (cl u8 (List.replicate 64 0)) 139 (0, 0)), (b5, .cells (cl u8 nonce) 77 (0, 0)), (b3, .cells (cl u8 key) 23 (0, 0))] := Mem.back hF31 k_w30
     refine Zz (Qn ?_)
     refine CW.abs (fun g => g 0 = (agg u8 key) ∧ g 1 = (u32 counter) ∧ g 2 = (agg u8 nonce) ∧ g 3 = (ptr b3 0) ∧ g 5 = (ptr b5 0) ∧ g 6 = (ptr b6 0) ∧ g 7 = (ptr b7 0) ∧ g 8 = (ptr b8 0) ∧ g 9 = (i64 3) ∧ g 10 = (i64 0) ∧ g 17 = (i64 (k : Int)) ∧ g 18 = (bl (decide ((k : Int) < 10))) ∧ g 19 = (i64 4) ∧ g 20 = (bl false) ∧ g 32 = (i64 0) ∧ g 33 = (bl true) ∧ True) ⟨s0, s1, s2, s3, s5, s6, s7, s8, s9, rfl, s17, s18, rfl, rfl, rfl, rfl, trivial⟩ ?_
     rintro fr33 ⟨s0, s1, s2, s3, s5, s6, s7, s8, s9, s10, s17, s18, s19, s20, s32, s33, _⟩
     refine Qg <| Qb (v := (i64 1)) rfl (Qk (a := 0) (b := 1) s32 rfl oM oM) <| Qb rfl (Qc (v := (i64 1)) rfl) ?_
     refine rN (Zu (sR ?_))
     refine Qb rfl (Qs (a := 1) (b := 4) rfl rfl) ?_
     refine rN (Qh ?_)
     refine Zf rfl (by decide) ?_
     refine Zc (Qi (Qh (Qv (sR ?_))))
     refine Qb rfl (Qc (v := (i64 1)) rfl) <| Qb rfl (Qd (v := (i64 1)) rfl) ?_
     refine rN (Qg ?_)
     refine Qb rfl (Qc (v := (i64 1)) rfl) <| Qb rfl (Qc (v := (i64 1)) rfl) <| Qb (v := (i64 2)) rfl (Qk (a := 1) (b := 1) rfl rfl oM oM) <| Qb (v := (i64 2)) rfl (Vl (a := 2) (b := 3) rfl rfl oM oM) <| Qb (v := (i64 6)) rfl (Qk (a := 4) (b := 2) rfl rfl oM oM) <| Qb rfl (Qc (v := (i64 1)) rfl) <| Qb (v := (i64 3)) rfl (Qk (a := 1) (b := 2) rfl rfl oM oM) <| Qb (v := (i64 3)) rfl (Vl (a := 3) (b := 3) rfl rfl oM oM) <| Qb (v := (i64 11)) rfl (Qk (a := 8) (b := 3) rfl rfl oM oM) <| Qb rfl (Qc (v := (i64 1)) rfl) <| Qb (v := (i64 4)) rfl (Qk (a := 1) (b := 3) rfl rfl oM oM) <| Qb (v := (i64 0)) rfl (Vl (a := 4) (b := 3) rfl rfl oM oM) ?_
     refine Qb (v := (i64 12)) rfl (Qk (a := 12) (b := 0) rfl rfl oM oM) <| Qb rfl (Vt i64 [1, 6, 11, 12] Xl Po Us Uz rfl rfl) ?_
     have hF35 : Mem w30 (Qo w0) ([(b8, .cells (cl u32 (Vk (Vk (Vk (Vk (Vk (Jo Ld k (Yd Zk key counter nonce)) (0 : Int).toNat (4 : Int).toNat (8 : Int).toNat (12 : Int).toNat) (1 : Int).toNat (5 : Int).toNat (9 : Int).toNat (13 : Int).toNat) (2 : Int).toNat (6 : Int).toNat (10 : Int).toNat (14 : Int).toNat) (3 : Int).toNat (7 : Int).toNat (11 : Int).toNat (15 : Int).toNat) (0 : Int).toNat (5 : Int).toNat (10 : Int).toNat (15 : Int).toNat)) 156 (0, 0))] ++ ([(b7, .cells (cl u32 (Yd Zk key counter nonce)) 156 (0, 0)), (b6, .cells (cl u8 (List.replicate 64 0)) 139 (0, 0)), (b5, .cells (cl u8 nonce) 77 (0, 0)), (b3, .cells (cl u8 key) 23 (0, 0))])) := hm30
     refine Zo rfl (Qx Tryd.func104 Qb0 Qbr (Yk s8 rfl) (Uf b8 (Vk (Vk (Vk (Vk (Vk (Jo Ld k (Yd Zk key counter nonce)) (0 : Int).toNat (4 : Int).toNat (8 : Int).toNat (12 : Int).toNat) (1 : Int).toNat (5 : Int).toNat (9 : Int).toNat (13 : Int).toNat) (2 : Int).toNat (6 : Int).toNat (10 : Int).toNat (14 : Int).toNat) (3 : Int).toNat (7 : Int).toNat (11 : Int).toNat (15 : Int).toNat) (0 : Int).toNat (5 : Int).toNat (10 : Int).toNat (15 : Int).toNat) (1 : Int) (6 : Int) (11 : Int) (12 : Int) _ _ (Mem.give hF35) sD sD sD sD sD)) ?_
     rintro _ w34 ⟨rfl, k_w34⟩
     have hm34 : Mem w34 (Qo w0) [(b8, .cells (cl u32 (Vk (Vk (Vk (Vk (Vk (Vk (Jo Ld k (Yd Zk key counter nonce)) (0 : Int).toNat (4 : Int).toNat (8 : Int).toNat (12 : Int).toNat) (1 : Int).toNat (5 : Int).toNat (9 : Int).toNat (13 : Int).toNat) (2 : Int).toNat (6 : Int).toNat (10 : Int).toNat (14 : Int).toNat) (3 : Int).toNat (7 : Int).toNat (11 : Int).toNat (15 : Int).toNat) (0 : Int).toNat (5 : Int).toNat (10 : Int).toNat (15 : Int).toNat) (1 : Int).toNat (6 : Int).toNat (11 : Int).toNat (12 : Int).toNat)) 156 (0, 0)), (b7, .cells (cl u32 (Yd Zk key counter nonce)) 156 (0, 0)), (b6, .cells (cl u8 (List.replicate 64 0)) 139 (0, 0)), (b5, .cells (cl u8 nonce) 77 (0, 0)), (b3, .cells (cl u8 key) 23 (0, 0))] := Mem.back hF35 k_w34
     refine Zz (Qn ?_)
     refine CW.abs (fun g => g 0 = (agg u8 key) ∧ g 1 = (u32 counter) ∧ g 2 = (agg u8 nonce) ∧ g 3 = (ptr b3 0) ∧ g 5 = (ptr b5 0) ∧ g 6 = (ptr b6 0) ∧ g 7 = (ptr b7 0) ∧ g 8 = (ptr b8 0) ∧ g 9 = (i64 3) ∧ g 10 = (i64 1) ∧ g 17 = (i64 (k : Int)) ∧ g 18 = (bl (decide ((k : Int) < 10))) ∧ g 19 = (i64 4) ∧ g 20 = (bl false) ∧ g 32 = (i64 1) ∧ g 33 = (bl true) ∧ True) ⟨s0, s1, s2, s3, s5, s6, s7, s8, s9, rfl, s17, s18, s19, s20, rfl, rfl, trivial⟩ ?_
     rintro fr37 ⟨s0, s1, s2, s3, s5, s6, s7, s8, s9, s10, s17, s18, s19, s20, s32, s33, _⟩
     refine Qg <| Qb (v := (i64 2)) rfl (Qk (a := 1) (b := 1) s32 rfl oM oM) <| Qb rfl (Qc (v := (i64 2)) rfl) ?_
     refine rN (Zu (sR ?_))
     refine Qb rfl (Qs (a := 2) (b := 4) rfl rfl) ?_
     refine rN (Qh ?_)
     refine Zf rfl (by decide) ?_
     refine Zc (Qi (Qh (Qv (sR ?_))))
     refine Qb rfl (Qc (v := (i64 2)) rfl) <| Qb rfl (Qd (v := (i64 2)) rfl) ?_
     refine rN (Qg ?_)
     refine Qb rfl (Qc (v := (i64 2)) rfl) <| Qb rfl (Qc (v := (i64 2)) rfl) <| Qb (v := (i64 3)) rfl (Qk (a := 2) (b := 1) rfl rfl oM oM) <| Qb (v := (i64 3)) rfl (Vl (a := 3) (b := 3) rfl rfl oM oM) <| Qb (v := (i64 7)) rfl (Qk (a := 4) (b := 3) rfl rfl oM oM) <| Qb rfl (Qc (v := (i64 2)) rfl) <| Qb (v := (i64 4)) rfl (Qk (a := 2) (b := 2) rfl rfl oM oM) <| Qb (v := (i64 0)) rfl (Vl (a := 4) (b := 3) rfl rfl oM oM) <| Qb (v := (i64 8)) rfl (Qk (a := 8) (b := 0) rfl rfl oM oM) <| Qb rfl (Qc (v := (i64 2)) rfl) <| Qb (v := (i64 5)) rfl (Qk (a := 2) (b := 3) rfl rfl oM oM) <| Qb (v := (i64 1)) rfl (Vl (a := 5) (b := 3) rfl rfl oM oM) ?_
     refine Qb (v := (i64 13)) rfl (Qk (a := 12) (b := 1) rfl rfl oM oM) <| Qb rfl (Vt i64 [2, 7, 8, 13] Xl Po Us Uz rfl rfl) ?_
     have hF39 : Mem w34 (Qo w0) ([(b8, .cells (cl u32 (Vk (Vk (Vk (Vk (Vk (Vk (Jo Ld k (Yd Zk key counter nonce)) (0 : Int).toNat (4 : Int).toNat (8 : Int).toNat (12 : Int).toNat) (1 : Int).toNat (5 : Int).toNat (9 : Int).toNat (13 : Int).toNat) (2 : Int).toNat (6 : Int).toNat (10 : Int).toNat (14 : Int).toNat) (3 : Int).toNat (7 : Int).toNat (11 : Int).toNat (15 : Int).toNat) (0 : Int).toNat (5 : Int).toNat (10 : Int).toNat (15 : Int).toNat) (1 : Int).toNat (6 : Int).toNat (11 : Int).toNat (12 : Int).toNat)) 156 (0, 0))] ++ ([(b7, .cells (cl u32 (Yd Zk key counter nonce)) 156 (0, 0)), (b6, .cells (cl u8 (List.replicate 64 0)) 139 (0, 0)), (b5, .cells (cl u8 nonce) 77 (0, 0)), (b3, .cells (cl u8 key) 23 (0, 0))])) := hm34
     refine Zo rfl (Qx Tryd.func104 Qb0 Qbr (Yk s8 rfl) (Uf b8 (Vk (Vk (Vk (Vk (Vk (Vk (Jo Ld k (Yd Zk key counter nonce)) (0 : Int).toNat (4 : Int).toNat (8 : Int).toNat (12 : Int).toNat) (1 : Int).toNat (5 : Int).toNat (9 : Int).toNat (13 : Int).toNat) (2 : Int).toNat (6 : Int).toNat (10 : Int).toNat (14 : Int).toNat) (3 : Int).toNat (7 : Int).toNat (11 : Int).toNat (15 : Int).toNat) (0 : Int).toNat (5 : Int).toNat (10 : Int).toNat (15 : Int).toNat) (1 : Int).toNat (6 : Int).toNat (11 : Int).toNat (12 : Int).toNat) (2 : Int) (7 : Int) (8 : Int) (13 : Int) _ _ (Mem.give hF39) sD sD sD sD sD)) ?_
     rintro _ w38 ⟨rfl, k_w38⟩
     have hm38 : Mem w38 (Qo w0) [(b8, .cells (cl u32 (Vk (Vk (Vk (Vk (Vk (Vk (Vk (Jo Ld k (Yd Zk key counter nonce)) (0 : Int).toNat (4 : Int).toNat (8 : Int).toNat (12 : Int).toNat) (1 : Int).toNat (5 : Int).toNat (9 : Int).toNat (13 : Int).toNat) (2 : Int).toNat (6 : Int).toNat (10 : Int).toNat (14 : Int).toNat) (3 : Int).toNat (7 : Int).toNat (11 : Int).toNat (15 : Int).toNat) (0 : Int).toNat (5 : Int).toNat (10 : Int).toNat (15 : Int).toNat) (1 : Int).toNat (6 : Int).toNat (11 : Int).toNat (12 : Int).toNat) (2 : Int).toNat (7 : Int).toNat (8 : Int).toNat (13 : Int).toNat)) 156 (0, 0)), (b7, .cells (cl u32 (Yd Zk key counter nonce)) 156 (0, 0)), (b6, .cells (cl u8 (List.replicate 64 0)) 139 (0, 0)), (b5, .cells (cl u8 nonce) 77 (0, 0)), (b3, .cells (cl u8 key) 23 (0, 0))] := Mem.back hF39 k_w38
     refine Zz (Qn ?_)
     refine CW.abs (fun g => g 0 = (agg u8 key) ∧ g 1 = (u32 counter) ∧ g 2 = (agg u8 nonce) ∧ g 3 = (ptr b3 0) ∧ g 5 = (ptr b5 0) ∧ g 6 = (ptr b6 0) ∧ g 7 = (ptr b7 0) ∧ g 8 = (ptr b8 0) ∧ g 9 = (i64 3) ∧ g 10 = (i64 2) ∧ g 17 = (i64 (k : Int)) ∧ g 18 = (bl (decide ((k : Int) < 10))) ∧ g 19 = (i64 4) ∧ g 20 = (bl false) ∧ g 32 = (i64 2) ∧ g 33 = (bl true) ∧ True) ⟨s0, s1, s2, s3, s5, s6, s7, s8, s9, rfl, s17, s18, s19, s20, rfl, rfl, trivial⟩ ?_
     rintro fr41 ⟨s0, s1, s2, s3, s5, s6, s7, s8, s9, s10, s17, s18, s19, s20, s32, s33, _⟩
     refine Qg <| Qb (v := (i64 3)) rfl (Qk (a := 2) (b := 1) s32 rfl oM oM) <| Qb rfl (Qc (v := (i64 3)) rfl) ?_
     refine rN (Zu (sR ?_))
     refine Qb rfl (Qs (a := 3) (b := 4) rfl rfl) ?_
     refine rN (Qh ?_)
     refine Zf rfl (by decide) ?_
     refine Zc (Qi (Qh (Qv (sR ?_))))
     refine Qb rfl (Qc (v := (i64 3)) rfl) <| Qb rfl (Qd (v := (i64 3)) rfl) ?_
     refine rN (Qg ?_)
     refine Qb rfl (Qc (v := (i64 3)) rfl) <| Qb rfl (Qc (v := (i64 3)) rfl) <| Qb (v := (i64 4)) rfl (Qk (a := 3) (b := 1) rfl rfl oM oM) <| Qb (v := (i64 0)) rfl (Vl (a := 4) (b := 3) rfl rfl oM oM) <| Qb (v := (i64 4)) rfl (Qk (a := 4) (b := 0) rfl rfl oM oM) <| Qb rfl (Qc (v := (i64 3)) rfl) <| Qb (v := (i64 5)) rfl (Qk (a := 3) (b := 2) rfl rfl oM oM) <| Qb (v := (i64 1)) rfl (Vl (a := 5) (b := 3) rfl rfl oM oM) <| Qb (v := (i64 9)) rfl (Qk (a := 8) (b := 1) rfl rfl oM oM) <| Qb rfl (Qc (v := (i64 3)) rfl) <| Qb (v := (i64 6)) rfl (Qk (a := 3) (b := 3) rfl rfl oM oM) <| Qb (v := (i64 2)) rfl (Vl (a := 6) (b := 3) rfl rfl oM oM) ?_
     refine Qb (v := (i64 14)) rfl (Qk (a := 12) (b := 2) rfl rfl oM oM) <| Qb rfl (Vt i64 [3, 4, 9, 14] Xl Po Us Uz rfl rfl) ?_
     have hF43 : Mem w38 (Qo w0) ([(b8, .cells (cl u32 (Vk (Vk (Vk (Vk (Vk (Vk (Vk (Jo Ld k (Yd Zk key counter nonce)) (0 : Int).toNat (4 : Int).toNat (8 : Int).toNat (12 : Int).toNat) (1 : Int).toNat (5 : Int).toNat (9 : Int).toNat (13 : Int).toNat) (2 : Int).toNat (6 : Int).toNat (10 : Int).toNat (14 : Int).toNat) (3 : Int).toNat (7 : Int).toNat (11 : Int).toNat (15 : Int).toNat) (0 : Int).toNat (5 : Int).toNat (10 : Int).toNat (15 : Int).toNat) (1 : Int).toNat (6 : Int).toNat (11 : Int).toNat (12 : Int).toNat) (2 : Int).toNat (7 : Int).toNat (8 : Int).toNat (13 : Int).toNat)) 156 (0, 0))] ++ ([(b7, .cells (cl u32 (Yd Zk key counter nonce)) 156 (0, 0)), (b6, .cells (cl u8 (List.replicate 64 0)) 139 (0, 0)), (b5, .cells (cl u8 nonce) 77 (0, 0)), (b3, .cells (cl u8 key) 23 (0, 0))])) := hm38
     refine Zo rfl (Qx Tryd.func104 Qb0 Qbr (Yk s8 rfl) (Uf b8 (Vk (Vk (Vk (Vk (Vk (Vk (Vk (Jo Ld k (Yd Zk key counter nonce)) (0 : Int).toNat (4 : Int).toNat (8 : Int).toNat (12 : Int).toNat) (1 : Int).toNat (5 : Int).toNat (9 : Int).toNat (13 : Int).toNat) (2 : Int).toNat (6 : Int).toNat (10 : Int).toNat (14 : Int).toNat) (3 : Int).toNat (7 : Int).toNat (11 : Int).toNat (15 : Int).toNat) (0 : Int).toNat (5 : Int).toNat (10 : Int).toNat (15 : Int).toNat) (1 : Int).toNat (6 : Int).toNat (11 : Int).toNat (12 : Int).toNat) (2 : Int).toNat (7 : Int).toNat (8 : Int).toNat (13 : Int).toNat) (3 : Int) (4 : Int) (9 : Int) (14 : Int) _ _ (Mem.give hF43) sD sD sD sD sD)) ?_
     rintro _ w42 ⟨rfl, k_w42⟩
     have hm42 : Mem w42 (Qo w0) [(b8, .cells (cl u32 (Vk (Vk (Vk (Vk (Vk (Vk (Vk (Vk (Jo Ld k (Yd Zk key counter nonce)) (0 : Int).toNat (4 : Int).toNat (8 : Int).toNat (12 : Int).toNat) (1 : Int).toNat (5 : Int).toNat (9 : Int).toNat (13 : Int).toNat) (2 : Int).toNat (6 : Int).toNat (10 : Int).toNat (14 : Int).toNat) (3 : Int).toNat (7 : Int).toNat (11 : Int).toNat (15 : Int).toNat) (0 : Int).toNat (5 : Int).toNat (10 : Int).toNat (15 : Int).toNat) (1 : Int).toNat (6 : Int).toNat (11 : Int).toNat (12 : Int).toNat) (2 : Int).toNat (7 : Int).toNat (8 : Int).toNat (13 : Int).toNat) (3 : Int).toNat (4 : Int).toNat (9 : Int).toNat (14 : Int).toNat)) 156 (0, 0)), (b7, .cells (cl u32 (Yd Zk key counter nonce)) 156 (0, 0)), (b6, .cells (cl u8 (List.replicate 64 0)) 139 (0, 0)), (b5, .cells (cl u8 nonce) 77 (0, 0)), (b3, .cells (cl u8 key) 23 (0, 0))] := Mem.back hF43 k_w42
     refine Zz (Qn ?_)
     refine CW.abs (fun g => g 0 = (agg u8 key) ∧ g 1 = (u32 counter) ∧ g 2 = (agg u8 nonce) ∧ g 3 = (ptr b3 0) ∧ g 5 = (ptr b5 0) ∧ g 6 = (ptr b6 0) ∧ g 7 = (ptr b7 0) ∧ g 8 = (ptr b8 0) ∧ g 9 = (i64 3) ∧ g 10 = (i64 3) ∧ g 17 = (i64 (k : Int)) ∧ g 18 = (bl (decide ((k : Int) < 10))) ∧ g 19 = (i64 4) ∧ g 20 = (bl false) ∧ g 32 = (i64 3) ∧ g 33 = (bl true) ∧ True) ⟨s0, s1, s2, s3, s5, s6, s7, s8, s9, rfl, s17, s18, s19, s20, rfl, rfl, trivial⟩ ?_
     rintro fr45 ⟨s0, s1, s2, s3, s5, s6, s7, s8, s9, s10, s17, s18, s19, s20, s32, s33, _⟩
     refine Qg <| Qb (v := (i64 4)) rfl (Qk (a := 3) (b := 1) s32 rfl oM oM) <| Qb rfl (Qc (v := (i64 4)) rfl) ?_
     refine rN (Zu (sR ?_))
     refine Qb rfl (Qs (a := 4) (b := 4) rfl rfl) ?_
     refine rN (Qh ?_)
     refine Yt rfl (by decide) <| Yb ?_
     refine Zb (Zb (Xw ?_))
     refine Qn (Qg ?_)
     refine Qb rfl (Qk (b := 1) s17 rfl oM oM) <| Qb rfl (Qc (v := (i64 ((k : Int) + 1))) rfl) <| rN ?_
     exact ⟨⟨k + 1, oM, s0, s1, s2, s3, s5, s6, s7, s8, rfl, hm42⟩, Fj rfl z17 oM oM⟩
   ·
     have hc13p := of_decide_eq_false hc13
     obtain rfl : k = 10 := by omega
     refine Yb ?_
     refine Zb (Zb (Xw ?_))
     refine Qh (sR ?_)
     refine Qb rfl (Qc (v := (i64 0)) rfl) ?_
     refine rN (Qv ?_)
     refine Jg (fun g wv => ∃ (k2 : Nat), (k2 ≤ 64) ∧ g 0 = (agg u8 key) ∧ g 1 = (u32 counter) ∧ g 2 = (agg u8 nonce) ∧ g 3 = (ptr b3 0) ∧ g 5 = (ptr b5 0) ∧ g 6 = (ptr b6 0) ∧ g 7 = (ptr b7 0) ∧ g 8 = (ptr b8 0) ∧ g 17 = (i64 (10 : Int)) ∧ g 18 = (bl (decide ((10 : Int) < 10))) ∧ g 52 = (i64 (k2 : Int)) ∧ Mem wv (Qo w0) [(b8, .cells (cl u32 (Jo Ld 10 (Yd Zk key counter nonce))) 156 (0, 0)), (b7, .cells (cl u32 (Yd Zk key counter nonce)) 156 (0, 0)), (b6, .cells (cl u8 (Jp (Dt (Jo Ld 10 (Yd Zk key counter nonce)) (Yd Zk key counter nonce)) 0 64 k2)) 139 (0, 0)), (b5, .cells (cl u8 nonce) 77 (0, 0)), (b3, .cells (cl u8 key) 23 (0, 0))]) (fun g wv => (64 - RowKit.intOf (g 52)).toNat) ?_ ?_
     · exact ⟨0, oM, s0, s1, s2, s3, s5, s6, s7, s8, s17, rfl, rfl, (by rw [Ew]; exact hm12)⟩
     · rintro fr46 w47 ⟨k2, hk2, s0, s1, s2, s3, s5, s6, s7, s8, s17, s18, s52, hm47⟩
       have z52 := s52
       refine sR <| Qb rfl (Qs (b := 64) s52 rfl) ?_
       refine rN (Qh ?_)
       refine Xy rfl (fun hc48 => ?_) (fun hc48 => ?_)
       ·
         have hc48p := of_decide_eq_true hc48
         refine Zc (Qi (Qh (Qv (sR ?_))))
         refine rM rfl s52 <| Qb rfl (Qd (v := (i64 (k2 : Int))) rfl) <| rN <| Yc [(0, false), (1, false), (2, false), (3, false), (4, false), (5, false), (6, false), (7, false), (8, false), (9, false), (10, false), (11, false), (12, false), (13, false), (14, false)] 15 (by kernel_rfl) <| Qw rfl rfl (fun _ _hx => Qc (v := (i64 (k2 : Int))) rfl) <| Qw rfl rfl (fun _ _hx => Qc (v := (i64 (k2 : Int))) rfl) <| Qw rfl rfl (fun _ _hx => Wl (b := 4) rfl rfl oM oM oM) <| Qw rfl rfl (fun _ _hx => Qm (r := ((k2 : Int) / 4 : Int).toNat) oM Gm Xb s8 rfl oM sD) <| Qw (v := (u32 ((Jo Ld 10 (Yd Zk key counter nonce)).getD (((k2 : Int) / 4 : Int).toNat) 0))) rfl rfl (fun _ _hx => Qy Yx rfl rfl (hm47.ext _hx).h0 (Zm _ _ 0 sD)) <| Qw rfl rfl (fun _ _hx => Qc (v := (i64 (k2 : Int))) rfl) <| Qw rfl rfl (fun _ _hx => Wl (b := 4) rfl rfl oM oM oM) <| Qw rfl rfl (fun _ _hx => Qm (r := ((k2 : Int) / 4 : Int).toNat) oM Gm Xb s7 rfl oM sD) ?_
         refine Qw (v := (u32 ((Yd Zk key counter nonce).getD (((k2 : Int) / 4 : Int).toNat) 0))) rfl rfl (fun _ _hx => Qy Yx rfl rfl (hm47.ext _hx).h1 (Zm _ _ 0 sD)) <| Qw rfl rfl (fun _ _hx => Y1 rfl rfl) <| Qw rfl rfl (fun _ _hx => Qc (v := (i64 (k2 : Int))) rfl) <| Qw rfl rfl (fun _ _hx => Jz (b := 4) rfl rfl oM oM oM) <| Qw rfl rfl (fun _ _hx => Xj (a := 8) rfl rfl oM oM) <| Qw rfl rfl (fun _ _hx => Dz rfl rfl oM) <| Qw rfl rfl (fun _ _hx => Nb ⟨_, Yx⟩ Vh rfl) ?_
         refine X3 (fun w49 _ew49 => ?_)
         have hm49 := hm47.ext _ew49
         refine Qb rfl (Qm (r := k2) oM uT139 Yq s6 rfl oM sD) <| Xf (Yj (f := u8) (a := ((((Jo Ld 10 (Yd Zk key counter nonce)).getD (((k2 : Int) / 4 : Int).toNat) 0) + ((Yd Zk key counter nonce).getD (((k2 : Int) / 4 : Int).toNat) 0)) >>> (8 * ((k2 : Int) % 4)).toNat).setWidth 8) Q8 Yq rfl rfl hm49.h2 sD (.inl (Nat.zero_le _))) ?_
         rintro _ w50 uq50
         have hm50 := hm49.upd2 uq50
         refine Zz (Qn ?_)
         refine CW.abs (fun g => g 0 = (agg u8 key) ∧ g 1 = (u32 counter) ∧ g 2 = (agg u8 nonce) ∧ g 3 = (ptr b3 0) ∧ g 5 = (ptr b5 0) ∧ g 6 = (ptr b6 0) ∧ g 7 = (ptr b7 0) ∧ g 8 = (ptr b8 0) ∧ g 11 = (i64 (k2 : Int)) ∧ g 17 = (i64 (10 : Int)) ∧ g 18 = (bl (decide ((10 : Int) < 10))) ∧ g 52 = (i64 (k2 : Int)) ∧ g 53 = (bl (decide ((k2 : Int) < 64))) ∧ True) ⟨s0, s1, s2, s3, s5, s6, s7, s8, rfl, s17, s18, s52, rfl, trivial⟩ ?_
         rintro fr51 ⟨s0, s1, s2, s3, s5, s6, s7, s8, s11, s17, s18, s52, s53, _⟩
         refine Qg <| Qb rfl (Qk (b := 1) s52 rfl oM oM) <| Qb rfl (Qc (v := (i64 ((k2 : Int) + 1))) rfl) <| rN ?_
         exact ⟨⟨k2 + 1, oM, s0, s1, s2, s3, s5, s6, s7, s8, s17, s18, rfl, (by rw [← Dy (Dt (Jo Ld 10 (Yd Zk key counter nonce)) (Yd Zk key counter nonce)) 0 (n := 64) (k := k2) oM _ rfl]; exact hm50)⟩, Fj rfl z52 oM oM⟩
       ·
         have hc48p := of_decide_eq_false hc48
         obtain rfl : k2 = 64 := by omega
         refine Yb ?_
         refine Zb (Zb (Xw ?_))
         refine sR <| Qb (v := (agg u8 (Jp (Dt (Jo Ld 10 (Yd Zk key counter nonce)) (Yd Zk key counter nonce)) 0 64 64))) rfl (Z9 uT139 rfl Qdk s6 hm47.h2 sZ) <| Xf (Zl (f := u8) (l := Jp (Dt (Jo Ld 10 (Yd Zk key counter nonce)) (Yd Zk key counter nonce)) 0 64 64) Q8 Qdk s6 rfl sD hm47.h2 sZ rfl) ?_
         rintro _ w52 uq52
         have hm52 := hm47.upd2 uq52
         refine rN (Xn ?_)
         refine Zj [(agg u8 (Jp (Dt (Jo Ld 10 (Yd Zk key counter nonce)) (Yd Zk key counter nonce)) 0 64 64))] ⟨⟨_, s6, X6 uT139 rfl Qdk hm52.h2 sZ⟩, trivial⟩ ?_
         exact ⟨rfl, hm52.toExt⟩
end Go.Proofs.YtkmiemlpfkfiiaaDoor
