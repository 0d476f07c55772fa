/- Contracts: stream, third part. Conditions: none beyond those that each theorem states. -/
import Derived.Test.YtkmiemlpfkfiiaaDoorSt2
namespace Go.Proofs.YtkmiemlpfkfiiaaDoor
set_option linter.unusedVariables false
set_option linter.unusedSimpArgs false
def Dp (block : List (BitVec 8) → BitVec 32 → List (BitVec 8) → List (BitVec 8)) (key : List (BitVec 8)) (counter : BitVec 32) (nonce l : List (BitVec 8)) (i : Nat) : BitVec 8 :=
 l.getD i 0 ^^^ (block key (counter + BitVec.ofNat 32 (i / 64)) nonce).getD (i % 64) 0
def Jb (block : List (BitVec 8) → BitVec 32 → List (BitVec 8) → List (BitVec 8)) (key : List (BitVec 8)) (counter : BitVec 32) (nonce l : List (BitVec 8)) : List (BitVec 8) :=
 Yk (Dp block key counter nonce l) 0 l.length l.length
@[simp] theorem Ba (block : List (BitVec 8) → BitVec 32 → List (BitVec 8) → List (BitVec 8)) (key : List (BitVec 8)) (counter : BitVec 32) (nonce l : List (BitVec 8)) : (Jb block key counter nonce l).length = l.length := by simp [Jb]
def Ag (key : List (BitVec 8)) (counter : BitVec 32) (nonce : List (BitVec 8)) (k : Nat) : List (BitVec 8) :=
 if k = 0 then List.replicate 64 0 else Yx key (counter + BitVec.ofNat 32 ((k - 1) / 64)) nonce
@[simp] theorem Qny (key : List (BitVec 8)) (counter : BitVec 32) (nonce : List (BitVec 8)) (k : Nat) : (Ag key counter nonce k).length = 64 := by unfold Ag; split <;> simp
theorem held_mid {key : List (BitVec 8)} {counter : BitVec 32} {nonce : List (BitVec 8)} {k : Nat} (h : ¬ ((k : Int) % 64 = 0)) : Ag key counter nonce k = Yx key (counter + BitVec.ofNat 32 (k / 64)) nonce := by
 have h1 : ¬ k = 0 := by rintro rfl; simp at h
 have h2 : (k - 1) / 64 = k / 64 := by omega
 rw [Ag, if_neg h1, h2]
theorem Qnx (key : List (BitVec 8)) (counter : BitVec 32) (nonce : List (BitVec 8)) (k : Nat) : Ag key counter nonce (k + 1) = Yx key (counter + BitVec.ofNat 32 (k / 64)) nonce := by
 rw [Ag, if_neg oM, Nat.add_sub_cancel]
theorem Qgl {counter : BitVec 32} {k : Nat} (h : (k : Int) % 64 = 0) : counter + BitVec.ofNat 32 ((k + 63) / 64) = counter + BitVec.ofNat 32 (k / 64) := by
 have : (k + 63) / 64 = k / 64 := by omega
 rw [this]
theorem Ql1 {counter : BitVec 32} {k : Nat} : counter + BitVec.ofNat 32 (k / 64) + 1 = counter + BitVec.ofNat 32 ((k + 1 + 63) / 64) := by
 have : (k + 1 + 63) / 64 = k / 64 + 1 := by omega
 rw [this, BitVec.add_assoc]; congr 1; simp [BitVec.ofNat_add]
theorem count_zs {counter : BitVec 32} {k : Nat} (h : (k : Int) % 64 = 0) : counter + BitVec.ofNat 32 ((k + 63) / 64) + 1#32 = counter + BitVec.ofNat 32 ((k + 1 + 63) / 64) := by
 rw [Qgl h]; exact Ql1
theorem Qoe {counter : BitVec 32} {k : Nat} (h : ¬ ((k : Int) % 64 = 0)) : counter + BitVec.ofNat 32 ((k + 63) / 64) = counter + BitVec.ofNat 32 ((k + 1 + 63) / 64) := by
 have : (k + 63) / 64 = (k + 1 + 63) / 64 := by omega
 rw [this]
theorem Qjf {block : List (BitVec 8) → BitVec 32 → List (BitVec 8) → List (BitVec 8)} {key : List (BitVec 8)} {counter : BitVec 32} {nonce l : List (BitVec 8)} {k : Nat} :
  l.getD k 0 ^^^ (block key (counter + BitVec.ofNat 32 (k / 64)) nonce).getD ((k : Int) % 64).toNat 0 = Dp block key counter nonce l k := by
 have : ((k : Int) % 64).toNat = k % 64 := by omega
 rw [this]; rfl
theorem c_turn (key : List (BitVec 8)) (counter : BitVec 32) (nonce : List (BitVec 8)) (v : Value) (l : List (BitVec 8)) (w0 : World)  (hk : key.length = 32) (hn : nonce.length = 12) (hr : Rd (Yq w0) u8 v l) (hl : l.length ≤ 281474976710656) : Xz Tryd.prog 61 #[(agg u8 key), (u32 counter), (agg u8 nonce), v] w0 (fun r w1 => ∃ b, r = Ko b 0 (Jb Yx key counter nonce l).length (Jb Yx key counter nonce l).length ∧ Mem w1 (Qy w0) [(b, .cells (cl u8 (Jb Yx key counter nonce l)) 5 (0, 0))]) := by
 refine Zd (args := [(agg u8 key), (u32 counter), (agg u8 nonce), v]) Tryd.func61 rfl Tryd.ntmps61 Tryd.results61 rfl ?_
 have m0 : Mem w0 (Qy w0) [] := Mem.of_world w0
 refine sR <| Za rfl (Z8 (f := u8) (l := key) m0 rfl) ?_
 rintro _ w1 ⟨b4, rfl, e1, m1⟩
 refine Za rfl (Z8 (f := u8) (l := nonce) m1 rfl) ?_
 rintro _ w2 ⟨b6, rfl, e2, m2⟩
 refine Qa rfl (Qc (v := (Value.slice none 0 0)) rfl) ?_
 refine rN (sR ?_)
 refine rM rfl (v := v) rfl <| Qa rfl (Ye (Rd.ofRest hr m2) Zi rfl) <| Za rfl (Ey m2 Zi X6 rfl rfl oM oM oM oM) ?_
 rintro _ w3 ⟨b15, rfl, e3, m3⟩
 rw [Ls u8 0 rfl] at m3
 have m3 : Mem w3 (Qy w0) [(b15, .cells (cl u8 (List.replicate l.length (0 : BitVec 8))) 5 (0, 0)), (b6, .cells (cl u8 nonce) 77 (0, 0)), (b4, .cells (cl u8 key) 23 (0, 0))] := m3
 refine Qa rfl (Qc (v := (Ko b15 0 l.length l.length)) rfl) ?_
 refine rN (sR ?_)
 refine Za rfl (Zg m3 Qhg) ?_
 rintro _ w4 ⟨b10, rfl, e4, m4⟩
 refine rN (Qg (sR ?_))
 refine rM rfl (v := v) rfl <| Qa rfl (Ye (Rd.ofRest hr m4) Zi rfl) <| Qa rfl (Qb (v := (i64 0)) rfl) ?_
 refine rN (Qo ?_)
 refine Yo (fun g wv => ∃ (k : Nat), (k ≤ l.length) ∧ g 0 = (agg u8 key) ∧ g 1 = (u32 (counter + BitVec.ofNat 32 ((k + 63) / 64))) ∧ g 2 = (agg u8 nonce) ∧ g 3 = v ∧ g 4 = (ptr b4 0) ∧ g 6 = (ptr b6 0) ∧ g 8 = (Value.slice none 0 0) ∧ g 9 = (Ko b15 0 l.length l.length) ∧ g 10 = (ptr b10 0) ∧ g 16 = v ∧ g 17 = (i64 (l.length : Int)) ∧ g 18 = (i64 (k : Int)) ∧ Mem wv (Qy w0) [(b10, .cells (cl u8 (Ag key counter nonce k)) 139 (0, 0)), (b15, .cells (cl u8 (Yk (Dp Yx key counter nonce l) 0 l.length k)) 5 (0, 0)), (b6, .cells (cl u8 nonce) 77 (0, 0)), (b4, .cells (cl u8 key) 23 (0, 0))]) (fun g wv => ((l.length : Int) - RowKit.intOf (g 18)).toNat) ?_ ?_
 ·exact ⟨0, oM, rfl, (Eq.trans (show _ = (u32 counter) from rfl) (by simp)), rfl, rfl, rfl, rfl, rfl, rfl, rfl, rfl, rfl, rfl, (by rw [Fa]; exact m4)⟩
 rintro fr5 w6 ⟨k, hk1, s0, s1, s2, s3, s4, s6, s8, s9, s10, s16, s17, s18, m6⟩
 have z18 := s18
 have z1 := s1
 refine sR <| Qa rfl (Qs s18 s17) ?_
 refine rN (Qg ?_)
 refine Xv rfl (fun hc7 => ?_) (fun hc7 => ?_)
 ·
  have hc7p := of_decide_eq_true hc7
  refine Q7 (Qh (Qg (Qo (sR ?_))))
  refine rM rfl s18 <| Qa rfl (Xa (Rd.ofRest hr m6) Zi X6 s16 s18 oM sD) <| Qa (v := (u8 (l.getD k 0))) rfl (Yc (l := l) (i := (k : Int)) (dflt := 0) (Rd.ofRest hr m6) Vm rfl oM sD rfl) <| Qa rfl (Qc (v := (i64 (k : Int))) rfl) <| Qa rfl (Qc (v := (u8 (l.getD k 0))) rfl) ?_
  refine rN (Qg (sR ?_))
  refine Qa rfl (Qb (v := (i64 (k : Int))) rfl) <| Qa rfl (Jy (b := 64) rfl rfl oM oM oM) <| Qa rfl (Vp (b := 0) rfl rfl) <| rN ?_
  refine Pv (J := fun g wv => g 0 = (agg u8 key) ∧ g 1 = (u32 (counter + BitVec.ofNat 32 ((k + 1 + 63) / 64))) ∧ g 2 = (agg u8 nonce) ∧ g 3 = v ∧ g 4 = (ptr b4 0) ∧ g 6 = (ptr b6 0) ∧ g 8 = (Value.slice none 0 0) ∧ g 9 = (Ko b15 0 l.length l.length) ∧ g 10 = (ptr b10 0) ∧ g 11 = (i64 (k : Int)) ∧ g 12 = (u8 (l.getD k 0)) ∧ g 16 = v ∧ g 17 = (i64 (l.length : Int)) ∧ g 18 = (i64 (k : Int)) ∧ g 19 = (bl (decide ((k : Int) < (l.length : Int)))) ∧ g 25 = (bl (((k : Int) % 64) == 0)) ∧ Mem wv (Qy w0) [(b10, .cells (cl u8 (Yx key (counter + BitVec.ofNat 32 (k / 64)) nonce)) 139 (0, 0)), (b15, .cells (cl u8 (Yk (Dp Yx key counter nonce l) 0 l.length k)) 5 (0, 0)), (b6, .cells (cl u8 nonce) 77 (0, 0)), (b4, .cells (cl u8 key) 23 (0, 0))]) ?_ ?_
  ·skip
   refine Xv rfl (fun hc8 => ?_) (fun hc8 => ?_)
   ·
    have hc8p := eq_of_beq hc8
    refine sR <| Qa rfl (Qw X3 rfl Z9 s4 m6.h3 sZ) <| rM rfl s1 <| Qa rfl (Qw Qah rfl Qey s6 m6.h2 sZ) <| Za rfl (oc89 (Vx rfl rfl rfl) (c_block _ (counter + BitVec.ofNat 32 ((k + 63) / 64)) _ _ sD sD)) ?_
    rintro _ w9 ⟨rfl, e9⟩
    have m9 := m6.ext e9
    refine Zw (Qm (f := u8) (l := Yx key (counter + BitVec.ofNat 32 ((k + 63) / 64)) nonce) Qu Qhg s10 rfl sD m9.h0 sZ rfl) ?_
    rintro _ w11 uq11
    have m11 := m9.upd0 uq11
    refine rN (Qe ?_)
    refine rM rfl s1 <| Qa rfl (Xp (b := 1#32) rfl rfl) <| Qa rfl (Qc (v := (u32 ((counter + BitVec.ofNat 32 ((k + 63) / 64)) + 1#32))) rfl) <| rN ?_
    exact ⟨s0, Eq.trans rfl (congrArg u32 (count_zs hc8p)), s2, s3, s4, s6, s8, s9, s10, rfl, rfl, s16, s17, s18, rfl, rfl, (by rw [← Qgl hc8p]; exact m11)⟩
   ·
    have hc8p := ne_of_beq_false hc8
    refine Q7 (Qh ?_)
    exact ⟨s0, Eq.trans s1 (congrArg u32 (Qoe hc8p)), s2, s3, s4, s6, s8, s9, s10, rfl, rfl, s16, s17, s18, rfl, rfl, (by rw [← held_mid hc8p]; exact m6)⟩
  rintro fr12 w13 ⟨s0, s1, s2, s3, s4, s6, s8, s9, s10, s11, s12, s16, s17, s18, s19, s25, m13⟩
  refine Qe <| rM rfl s9 <| rM rfl s11 <| rM rfl s12 <| rM rfl s11 <| Qa rfl (Jy (b := 64) rfl rfl oM oM oM) <| Qa rfl (Qd (r := ((k : Int) % 64 : Int).toNat) oM uT139 X6 s10 rfl oM sD) <| Qa (v := (u8 ((Yx key (counter + BitVec.ofNat 32 (k / 64)) nonce).getD (((k : Int) % 64 : Int).toNat) 0))) rfl (Qn Vm rfl rfl m13.h0 (Qx _ _ 0 sD)) <| Qa rfl (L6 rfl rfl) <| Qa rfl (Sl (r := k) oM Zi X6 rfl rfl oM sD) <| Zw (Xn (f := u8) (a := (l.getD k 0) ^^^ ((Yx key (counter + BitVec.ofNat 32 (k / 64)) nonce).getD (((k : Int) % 64 : Int).toNat) 0)) Qu X6 rfl rfl m13.h1 sD (.inl (Nat.zero_le _))) ?_
  rintro _ w14 uq14
  have m14 := m13.upd1 uq14
  refine Zr (Qi (Qe ?_))
  refine Qa rfl (Qk (b := 1) s18 rfl oM oM) <| Qa rfl (Qb (v := (i64 ((k : Int) + 1))) rfl) <| rN ?_
  exact ⟨⟨k + 1, oM, s0, s1, s2, s3, s4, s6, s8, s9, s10, s16, s17, rfl, (by rw [Qnx, ← Fh (Dp Yx key counter nonce l) 0 (n := l.length) (k := k) oM _ Qjf]; exact m14)⟩, Gl rfl z18 oM oM⟩
 ·
  have hc7p := of_decide_eq_false hc7
  obtain rfl : k = l.length := by omega
  refine X0 ?_
  refine Qr (Qr (Xf ?_))
  refine sR <| rM rfl s9 <| Qa rfl (Qc (v := (Ko b15 0 l.length l.length)) rfl) ?_
  refine rN (Xt ?_)
  refine Ze [(Ko b15 0 l.length l.length)] ⟨rfl, trivial⟩ ?_
  exact ⟨b15, by rw [Ba]; rfl, Mem.weak (H' := [_, _, _]) (Mem.pick [_] [_] _ m6)⟩
end Go.Proofs.YtkmiemlpfkfiiaaDoor
