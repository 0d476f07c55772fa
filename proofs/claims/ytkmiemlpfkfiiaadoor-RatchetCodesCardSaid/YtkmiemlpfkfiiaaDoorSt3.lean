/- Contracts: stream, third part. Conditions: none beyond those that each theorem states. -/
import Derived.Test.YtkmiemlpfkfiiaaDoorSt2
namespace Go.Proofs.YtkmiemlpfkfiiaaDoor
set_option linter.unusedVariables false
set_option linter.unusedSimpArgs false
def Ll (block : List (BitVec 8) → BitVec 32 → List (BitVec 8) → List (BitVec 8)) (key : List (BitVec 8)) (counter : BitVec 32) (nonce l : List (BitVec 8)) (i : Nat) : BitVec 8 :=
  l.getD i 0 ^^^ (block key (counter + BitVec.ofNat 32 (i / 64)) nonce).getD (i % 64) 0
def Yw (block : List (BitVec 8) → BitVec 32 → List (BitVec 8) → List (BitVec 8)) (key : List (BitVec 8)) (counter : BitVec 32) (nonce l : List (BitVec 8)) : List (BitVec 8) :=
  Jp (Ll block key counter nonce l) 0 l.length l.length
@[simp] theorem Fg (block : List (BitVec 8) → BitVec 32 → List (BitVec 8) → List (BitVec 8)) (key : List (BitVec 8)) (counter : BitVec 32) (nonce l : List (BitVec 8)) : (Yw block key counter nonce l).length = l.length := by simp [Yw]
def Ee (key : List (BitVec 8)) (counter : BitVec 32) (nonce : List (BitVec 8)) (k : Nat) : List (BitVec 8) :=
  if k = 0 then List.replicate 64 0 else Xp key (counter + BitVec.ofNat 32 ((k - 1) / 64)) nonce
@[simp] theorem Qho (key : List (BitVec 8)) (counter : BitVec 32) (nonce : List (BitVec 8)) (k : Nat) : (Ee key counter nonce k).length = 64 := by unfold Ee; split <;> simp
theorem held_mid {key : List (BitVec 8)} {counter : BitVec 32} {nonce : List (BitVec 8)} {k : Nat} (h : ¬ ((k : Int) % 64 = 0)) : Ee key counter nonce k = Xp key (counter + BitVec.ofNat 32 (k / 64)) nonce := by
  have h1 : ¬ k = 0 := by rintro rfl; simp at h
  have h2 : (k - 1) / 64 = k / 64 := by omega
  rw [Ee, if_neg h1, h2]
theorem Qhn (key : List (BitVec 8)) (counter : BitVec 32) (nonce : List (BitVec 8)) (k : Nat) : Ee key counter nonce (k + 1) = Xp key (counter + BitVec.ofNat 32 (k / 64)) nonce := by
  rw [Ee, if_neg oM, Nat.add_sub_cancel]
theorem Qc3 {counter : BitVec 32} {k : Nat} (h : (k : Int) % 64 = 0) : counter + BitVec.ofNat 32 ((k + 63) / 64) = counter + BitVec.ofNat 32 (k / 64) := by
  have : (k + 63) / 64 = k / 64 := by omega
  rw [this]
theorem Qgj {counter : BitVec 32} {k : Nat} : counter + BitVec.ofNat 32 (k / 64) + 1 = counter + BitVec.ofNat 32 ((k + 1 + 63) / 64) := by
  have : (k + 1 + 63) / 64 = k / 64 + 1 := by omega
  rw [this, BitVec.add_assoc]; congr 1; simp [BitVec.ofNat_add]
theorem count_zs {counter : BitVec 32} {k : Nat} (h : (k : Int) % 64 = 0) : counter + BitVec.ofNat 32 ((k + 63) / 64) + 1#32 = counter + BitVec.ofNat 32 ((k + 1 + 63) / 64) := by
  rw [Qc3 h]; exact Qgj
theorem Qh0 {counter : BitVec 32} {k : Nat} (h : ¬ ((k : Int) % 64 = 0)) : counter + BitVec.ofNat 32 ((k + 63) / 64) = counter + BitVec.ofNat 32 ((k + 1 + 63) / 64) := by
  have : (k + 63) / 64 = (k + 1 + 63) / 64 := by omega
  rw [this]
theorem Qey {block : List (BitVec 8) → BitVec 32 → List (BitVec 8) → List (BitVec 8)} {key : List (BitVec 8)} {counter : BitVec 32} {nonce l : List (BitVec 8)} {k : Nat} :
    l.getD k 0 ^^^ (block key (counter + BitVec.ofNat 32 (k / 64)) nonce).getD ((k : Int) % 64).toNat 0 = Ll block key counter nonce l k := by
  have : ((k : Int) % 64).toNat = k % 64 := by omega
  rw [this]; rfl
theorem c_turn (key : List (BitVec 8)) (counter : BitVec 32) (nonce : List (BitVec 8)) (v : Value) (l : List (BitVec 8)) (w0 : World)  (hk : key.length = 32) (hn : nonce.length = 12) (hr : Rd (Y3 w0) u8 v l) (hl : l.length ≤ 281474976710656) : X8 Tryd.prog 61 #[(agg u8 key), (u32 counter), (agg u8 nonce), v] w0 (fun r w1 => ∃ b, r = Jt b 0 (Yw Xp key counter nonce l).length (Yw Xp key counter nonce l).length ∧ Mem w1 (Qo w0) [(b, .cells (cl u8 (Yw Xp key counter nonce l)) 5 (0, 0))]) := by
 refine Zp (args := [(agg u8 key), (u32 counter), (agg u8 nonce), v]) Tryd.func61 rfl Tryd.ntmps61 Tryd.results61 rfl ?_
 have hm0 : Mem w0 (Qo w0) [] := Mem.of_world w0
 refine sR <| Zo rfl (X4 (f := u8) (l := key) hm0 rfl) ?_
 rintro _ w1 ⟨b4, rfl, _ew1, hm1⟩
 refine Zo rfl (X4 (f := u8) (l := nonce) hm1 rfl) ?_
 rintro _ w2 ⟨b6, rfl, _ew2, hm2⟩
 refine Qb rfl (Qd (v := (Value.slice none 0 0)) rfl) ?_
 refine rN (sR ?_)
 refine rM rfl (v := v) rfl <| Qb (v := (i64 (l.length : Int))) rfl (Yi (Rd.ofRest hr hm2) Z4 rfl) <| Zo rfl (Fh hm2 Z4 Yq rfl rfl oM oM oM oM) ?_
 rintro _ w3 ⟨b15, rfl, _ew3, hm3⟩
 rw [Bl u8 0 rfl] at hm3
 have hm3 : Mem w3 (Qo w0) [(b15, .cells (cl u8 (List.replicate l.length (0 : BitVec 8))) 5 (0, 0)), (b6, .cells (cl u8 nonce) 77 (0, 0)), (b4, .cells (cl u8 key) 23 (0, 0))] := hm3
 refine Qb rfl (Qd (v := (Jt b15 0 l.length l.length)) rfl) ?_
 refine rN (sR ?_)
 refine Zo rfl (Zy hm3 Qdk) ?_
 rintro _ w4 ⟨b10, rfl, _ew4, hm4⟩
 refine rN (Qh (sR ?_))
 refine rM rfl (v := v) rfl <| Qb (v := (i64 (l.length : Int))) rfl (Yi (Rd.ofRest hr hm4) Z4 rfl) <| Qb rfl (Qc (v := (i64 0)) rfl) <| rN ?_
 refine CW.abs (fun g => g 0 = (agg u8 key) ∧ g 1 = (u32 counter) ∧ g 2 = (agg u8 nonce) ∧ g 3 = v ∧ g 4 = (ptr b4 0) ∧ g 6 = (ptr b6 0) ∧ g 8 = (Value.slice none 0 0) ∧ g 9 = (Jt b15 0 l.length l.length) ∧ g 10 = (ptr b10 0) ∧ g 16 = v ∧ g 17 = (i64 (l.length : Int)) ∧ g 18 = (i64 0) ∧ True) ⟨rfl, rfl, rfl, rfl, rfl, rfl, rfl, rfl, rfl, rfl, rfl, rfl, trivial⟩ ?_
 rintro fr5 ⟨s0, s1, s2, s3, s4, s6, s8, s9, s10, s16, s17, s18, _⟩
 refine Qv ?_
 refine Jg (fun g wv => ∃ (k : Nat), (k ≤ l.length) ∧ g 0 = (agg u8 key) ∧ g 1 = (u32 (counter + BitVec.ofNat 32 ((k + 63) / 64))) ∧ g 2 = (agg u8 nonce) ∧ g 3 = v ∧ g 4 = (ptr b4 0) ∧ g 6 = (ptr b6 0) ∧ g 8 = (Value.slice none 0 0) ∧ g 9 = (Jt b15 0 l.length l.length) ∧ g 10 = (ptr b10 0) ∧ g 16 = v ∧ g 17 = (i64 (l.length : Int)) ∧ g 18 = (i64 (k : Int)) ∧ Mem wv (Qo w0) [(b10, .cells (cl u8 (Ee key counter nonce k)) 139 (0, 0)), (b15, .cells (cl u8 (Jp (Ll Xp key counter nonce l) 0 l.length k)) 5 (0, 0)), (b6, .cells (cl u8 nonce) 77 (0, 0)), (b4, .cells (cl u8 key) 23 (0, 0))]) (fun g wv => ((l.length : Int) - RowKit.intOf (g 18)).toNat) ?_ ?_
 · exact ⟨0, oM, s0, (s1.trans (by simp)), s2, s3, s4, s6, s8, s9, s10, s16, s17, s18, (by rw [Ew]; exact hm4)⟩
 · rintro fr6 w7 ⟨k, hk1, s0, s1, s2, s3, s4, s6, s8, s9, s10, s16, s17, s18, hm7⟩
   have z18 := s18
   have z1 := s1
   refine sR <| Qb rfl (Qs s18 s17) ?_
   refine rN (Qh ?_)
   refine Xy rfl (fun hc8 => ?_) (fun hc8 => ?_)
   ·
     have hc8p := of_decide_eq_true hc8
     refine Zc (Qi (Qh (Qv (sR ?_))))
     refine rM rfl s18 <| Qb rfl (Xi (Rd.ofRest hr hm7) Z4 Yq s16 s18 oM sD) <| Qb (v := (u8 (l.getD k 0))) rfl (Yg (l := l) (i := (k : Int)) (dflt := 0) (Rd.ofRest hr hm7) Vh rfl oM sD rfl) <| Qb rfl (Qd (v := (i64 (k : Int))) rfl) <| Qb rfl (Qd (v := (u8 (l.getD k 0))) rfl) ?_
     refine rN (Qh (sR ?_))
     refine Qb rfl (Qc (v := (i64 (k : Int))) rfl) <| Qb rfl (Jz (b := 64) rfl rfl oM oM oM) <| Qb rfl (W9 (b := 0) rfl rfl) <| rN ?_
     refine G8 (J := fun g wv => g 0 = (agg u8 key) ∧ g 1 = (u32 (counter + BitVec.ofNat 32 ((k + 1 + 63) / 64))) ∧ g 2 = (agg u8 nonce) ∧ g 3 = v ∧ g 4 = (ptr b4 0) ∧ g 6 = (ptr b6 0) ∧ g 8 = (Value.slice none 0 0) ∧ g 9 = (Jt b15 0 l.length l.length) ∧ g 10 = (ptr b10 0) ∧ g 11 = (i64 (k : Int)) ∧ g 12 = (u8 (l.getD k 0)) ∧ g 16 = v ∧ g 17 = (i64 (l.length : Int)) ∧ g 18 = (i64 (k : Int)) ∧ g 19 = (bl (decide ((k : Int) < (l.length : Int)))) ∧ g 25 = (bl (((k : Int) % 64) == 0)) ∧ Mem wv (Qo w0) [(b10, .cells (cl u8 (Xp key (counter + BitVec.ofNat 32 (k / 64)) nonce)) 139 (0, 0)), (b15, .cells (cl u8 (Jp (Ll Xp key counter nonce l) 0 l.length k)) 5 (0, 0)), (b6, .cells (cl u8 nonce) 77 (0, 0)), (b4, .cells (cl u8 key) 23 (0, 0))]) ?_ ?_
     · skip
       refine Xy rfl (fun hc9 => ?_) (fun hc9 => ?_)
       ·
         have hc9p := eq_of_beq hc9
         refine sR <| Qb (v := (agg u8 key)) rfl (Z9 Xo rfl Z5 s4 hm7.h3 sZ) <| rM rfl s1 <| Qb (v := (agg u8 nonce)) rfl (Z9 Qce rfl ti77 s6 hm7.h2 sZ) <| Zo rfl (Qx Tryd.func89 bd89 nm89 (Ad rfl rfl rfl) (c_block key (counter + BitVec.ofNat 32 ((k + 63) / 64)) nonce _ sD sD)) ?_
         rintro _ w10 ⟨rfl, _ew10⟩
         have hm10 := hm7.ext _ew10
         refine Xf (Zl (f := u8) (l := Xp key (counter + BitVec.ofNat 32 ((k + 63) / 64)) nonce) Q8 Qdk s10 rfl sD hm10.h0 sZ rfl) ?_
         rintro _ w12 uq12
         have hm12 := hm10.upd0 uq12
         refine rN ?_
         refine CW.abs (fun g => g 0 = (agg u8 key) ∧ g 1 = (u32 (counter + BitVec.ofNat 32 ((k + 63) / 64))) ∧ g 2 = (agg u8 nonce) ∧ g 3 = v ∧ g 4 = (ptr b4 0) ∧ g 6 = (ptr b6 0) ∧ g 8 = (Value.slice none 0 0) ∧ g 9 = (Jt b15 0 l.length l.length) ∧ g 10 = (ptr b10 0) ∧ g 11 = (i64 (k : Int)) ∧ g 12 = (u8 (l.getD k 0)) ∧ g 16 = v ∧ g 17 = (i64 (l.length : Int)) ∧ g 18 = (i64 (k : Int)) ∧ g 19 = (bl (decide ((k : Int) < (l.length : Int)))) ∧ g 25 = (bl (((k : Int) % 64) == 0)) ∧ True) ⟨s0, s1, s2, s3, s4, s6, s8, s9, s10, rfl, rfl, s16, s17, s18, rfl, rfl, trivial⟩ ?_
         rintro fr13 ⟨s0, s1, s2, s3, s4, s6, s8, s9, s10, s11, s12, s16, s17, s18, s19, s25, _⟩
         refine Qg <| rM rfl s1 <| Qb rfl (Y1 (b := 1#32) rfl rfl) <| Qb rfl (Qd (v := (u32 ((counter + BitVec.ofNat 32 ((k + 63) / 64)) + 1#32))) rfl) <| rN ?_
         exact ⟨s0, Eq.trans rfl (congrArg u32 (count_zs hc9p)), s2, s3, s4, s6, s8, s9, s10, s11, s12, s16, s17, s18, s19, s25, (by rw [← Qc3 hc9p]; exact hm12)⟩
       ·
         have hc9p := ne_of_beq_false hc9
         refine Zc (Qi ?_)
         exact ⟨s0, Eq.trans s1 (congrArg u32 (Qh0 hc9p)), s2, s3, s4, s6, s8, s9, s10, rfl, rfl, s16, s17, s18, rfl, rfl, (by rw [← held_mid hc9p]; exact hm7)⟩
     · rintro fr14 w15 ⟨s0, s1, s2, s3, s4, s6, s8, s9, s10, s11, s12, s16, s17, s18, s19, s25, hm15⟩
       refine Qg <| rM rfl s9 <| rM rfl s11 <| rM rfl s12 <| rM rfl s11 <| Qb rfl (Jz (b := 64) rfl rfl oM oM oM) <| Qb rfl (Qm (r := ((k : Int) % 64 : Int).toNat) oM uT139 Yq s10 rfl oM sD) <| Qb (v := (u8 ((Xp key (counter + BitVec.ofNat 32 (k / 64)) nonce).getD (((k : Int) % 64 : Int).toNat) 0))) rfl (Qy Vh rfl rfl hm15.h0 (Zm _ _ 0 sD)) <| Qb rfl (Qa9 rfl rfl) <| Qb rfl (Ji (r := k) oM Z4 Yq rfl rfl oM sD) <| Xf (Yj (f := u8) (a := (l.getD k 0) ^^^ ((Xp key (counter + BitVec.ofNat 32 (k / 64)) nonce).getD (((k : Int) % 64 : Int).toNat) 0)) Q8 Yq rfl rfl hm15.h1 sD (.inl (Nat.zero_le _))) ?_
       rintro _ w16 uq16
       have hm16 := hm15.upd1 uq16
       refine Zz (Qn (Qg ?_))
       refine Qb rfl (Qk (b := 1) s18 rfl oM oM) <| Qb rfl (Qc (v := (i64 ((k : Int) + 1))) rfl) <| rN ?_
       exact ⟨⟨k + 1, oM, s0, s1, s2, s3, s4, s6, s8, s9, s10, s16, s17, rfl, (by rw [Qhn, ← Dy (Ll Xp key counter nonce l) 0 (n := l.length) (k := k) oM _ Qey]; exact hm16)⟩, Fj rfl z18 oM oM⟩
   ·
     have hc8p := of_decide_eq_false hc8
     obtain rfl : k = l.length := by omega
     refine Yb ?_
     refine Zb (Zb (Xw ?_))
     refine sR <| rM rfl s9 <| Qb rfl (Qd (v := (Jt b15 0 l.length l.length)) rfl) ?_
     refine rN (Xn ?_)
     refine Zj [(Jt b15 0 l.length l.length)] ⟨rfl, trivial⟩ ?_
     exact ⟨b15, by rw [Fg]; rfl, Mem.weak (H' := [_, _, _]) (Mem.pick [_] [_] _ hm7)⟩
end Go.Proofs.YtkmiemlpfkfiiaaDoor
