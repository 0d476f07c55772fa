/- Contracts: kdf, first part. Conditions: none beyond those that each theorem states. -/
import Derived.Test.YtkmiemlpfkfiiaaDoorHa6
import Derived.Test.YtkmiemlpfkfiiaaDoorFwP
namespace Go.Proofs.YtkmiemlpfkfiiaaDoor
open Tryd
section
set_option linter.unusedVariables false
set_option linter.unusedSimpArgs false
theorem mask_map {key K : Z8} {bb : BitVec 8} (hK : K = Qa8 key ++ List.replicate (64 - (Qa8 key).length) 0) : (List.range 64).map (fun j => K.getD j 0 ^^^ bb) = Va key bb := by
 have hle := Qif key
 have e : K.length = 64 := by rw [hK]; simp; omega
 have h := Qnq (fun x => x ^^^ bb) K 0
 rw [e] at h
 rw [h, hK]; rfl
theorem Qag (v : Value) (l : Z8) : Vp [(v, l)] = l := by simp [Vp]
attribute [local irreducible] U4 Dn Va Xj
set_option maxHeartbeats 1000000 in
theorem Qaa (vb : Value) (l : Z8) (vc : Value) (m : Z8) (w0 : World)  (hr : Rd (Y8 w0) u8 vb l) (hl : l.length ≤ 1099511627776) (hrm : Rd (Y8 w0) u8 vc m) (hm : m.length ≤ 1099511627776) : X0 prog 69 #[vb, vc] w0 (fun r w1 => r = (agg u8 (Xj l m)) ∧ Ext w0 w1) := by
 refine Qy (args := [vb, vc]) func69 rfl ntmps69 results69 rfl ?_
 have m0 : Mem w0 (Qr w0) [] := Mem.of_world w0
 refine sR <| Y9 (Q7 m0 Zg) fun w1 b4 m1 => ?_
 refine rN (sR ?_)
 refine Y9 (Qq u8 [] Qs m1 Zo Yw rfl (by simp [Ce]) rfl) fun w2 b11 m2 => Zm vb <| Vw (Xf (f := u8) (Hs := [(b11, .cells (cl u8 ([])) 5 (0, 0))]) (H := [_]) m2 (Z5.of u8 5 b11 ([])) rfl rfl (Rd.ofRest hr m2) Zo Zo Yw rfl Qs sD sD) ?_
 rintro sv3 w3 ⟨Hs3, m3, g3⟩
 replace g3 : Z5 u8 5 sv3 l Hs3 := g3
 refine Zx sv3 ?_
 refine rN (Qa (sR ?_))
 refine Zm vb <| Qd (Yk (Rd.ofRest hr m3) Zo rfl) <| Qd (Vz (b := 64) rfl rfl) <| rN ?_
 refine H5 (J := fun g wv => ∃ (sk : Value) (Hk : List (Nat × Obj)), (Z5 u8 5 sk (Qa8 l) Hk) ∧ g 0 = vb ∧ g 1 = vc ∧ g 4 = (ptr b4 0) ∧ g 5 = sk ∧ g 16 = (bl (decide (64 < (l.length : Int)))) ∧ Mem wv (Qr w0) (Hk ++ ([(b4, .cells (cl u8 (List.replicate 32 0)) 23 (0, 0))]))) ?_ ?_
 ·skip
  refine Zy rfl (fun hc4 => ?_) (fun hc4 => ?_)
  ·
   have hc4p := of_decide_eq_true hc4
   refine sR <| Zm vb <| U3 m3 (oc91 (Jv rfl) (Qpz vb l _ (Rd.ofRest hr m3) sD)) fun w5 m5 => Y9 (Q7 m5 Zg) fun w7 b6 m7 => Ye m7 (Qg (f := u8) (l := U4 l) Qs Zg rfl rfl sD m7.h0 sZ rfl) fun w8 m8 => ?_
   refine rN (Qb ?_)
   refine Y9 (Qq u8 [] Qs m8 Zo Yw rfl (by simp [Ce]) rfl) fun w9 b19 m9 => Qd (Xk (i := 0) (j := 32) Xl Yw rfl (Zd _ _) (Zd _ _) oM sD sD) <| Vw (Xf (f := u8) (Hs := [(b19, .cells (cl u8 ([])) 5 (0, 0))]) (H := [_] ++ (Hs3 ++ ([_]))) m9 (Z5.of u8 5 b19 ([])) rfl rfl (Rd.slaAll m9.h1 sD) Zo Zo Yw rfl Qs sD sD) ?_
   rintro sv10 w10 ⟨Hs10, m10, g10⟩
   replace g10 : Z5 u8 5 sv10 (U4 l) Hs10 := g10
   refine Zx sv10 <| rN ?_
   have hK : Qa8 l = U4 l := by unfold Qa8; rw [if_pos oM]
   have m11 := Mem.drop [_] _ (Mem.pick Hs10 [_] _ m10)
   have m12 := Mem.drop Hs3 _ (Mem.pick Hs10 Hs3 _ m11)
   exact ⟨sv10, Hs10, (Z5.cast g10 hK.symm), rfl, rfl, rfl, rfl, rfl, m12⟩
  ·
   have hc4p := of_decide_eq_false hc4
   refine Qn (Qc ?_)
   have hK : Qa8 l = l := by unfold Qa8; rw [if_neg oM]
   exact ⟨sv3, Hs3, (Z5.cast g3 hK.symm), rfl, rfl, rfl, rfl, rfl, m3⟩
 rintro fr13 w14 ⟨sk, Hk, gk, s0, s1, s4, s5, s16, m14⟩
 have hle := Qif l
 refine Qa (Qh ?_)
 refine Y1 (fun g wv => ∃ (k : Nat) (kl : Z8) (sk2 : Value) (Hk2 : List (Nat × Obj)), (k ≤ 64 - (Qa8 l).length) ∧ (kl = Qa8 l ++ List.replicate k 0) ∧ (Z5 u8 5 sk2 kl Hk2) ∧ g 0 = vb ∧ g 1 = vc ∧ g 4 = (ptr b4 0) ∧ g 5 = sk2 ∧ g 16 = (bl (decide (64 < (l.length : Int)))) ∧ Mem wv (Qr w0) (Hk2 ++ ([(b4, .cells (cl u8 (List.replicate 32 0)) 23 (0, 0))]))) (fun g wv => 66 - sllen (g 5)) ?_ ?_
 ·exact ⟨0, (Qa8 l), sk, Hk, oM, Ya, gk, s0, s1, s4, s5, s16, m14⟩
 rintro fr15 w16 ⟨k, kl, sk2, Hk2, hk, hkl, gk2, s0, s1, s4, s5, s16, m16⟩
 have z5 := s5
 have hkn : kl.length = (Qa8 l).length + k := by rw [hkl]; simp
 refine Qa (sR ?_)
 refine Yb s5 <| Qd (Yk (gk2.rd m16) Zo rfl) <| Qd (Xa (b := 64) rfl rfl) <| rN ?_
 refine Zy rfl (fun hc17 => ?_) (fun hc17 => ?_)
 ·
  have hc17p := of_decide_eq_true hc17
  refine Qn (Qc (V8 (Qb ?_)))
  refine Yb s5 <| Y9 (Qq u8 [0#8] Qs m16 Zo Yw rfl rfl rfl) fun w18 b26 m18 => Vw (Xf (f := u8) (Hs := Hk2) (H := [_, _]) (Mem.pick [_] Hk2 _ m18) gk2 rfl rfl (Rd.mkA m18.h0) Zo Zo Yw rfl Qs sD sD) ?_
  rintro sv19 w19 ⟨Hs19, m19, g19⟩
  replace g19 : Z5 u8 5 sv19 (kl ++ ([0#8])) Hs19 := g19
  refine Zx sv19 ?_
  refine Zp (Qe (Qc ?_))
  have m20 := Mem.drop [_] _ (Mem.pick Hs19 [_] _ m19)
  exact ⟨⟨k + 1, kl ++ ([0#8]), sv19, Hs19, oM, (by rw [hkl, List.replicate_succ']; simp), g19, s0, s1, s4, rfl, s16, m20⟩, (by show 66 - sllen sv19 < 66 - sllen _; rw [z5, gk2.sllen, Z5.sllen g19]; simp [hkn]; omega)⟩
 ·
  have hc17p := of_decide_eq_false hc17
  have hkn : kl.length = (Qa8 l).length + k := by rw [hkl]; simp
  obtain rfl : k = 64 - (Qa8 l).length := by omega
  have hkl64 : kl.length = 64 := by omega
  have hn0 : True := trivial
  refine X4 ?_
  refine Qj (Qj (Xi ?_))
  refine sR <| Y9 (Qq u8 [] Qs m16 Zo Yw rfl (by simp [Ce]) rfl) fun w21 b28 m21 => Y9 (Qq u8 [] Qs m21 Zo Yw rfl (by simp [Ce]) rfl) fun w22 b29 m22 => Zx (Wp b28 0 0 0) <| Zx (Wp b29 0 0 0) ?_
  refine rN (Qa (sR ?_))
  refine Zx (i64 0) ?_
  refine rN (Qh ?_)
  refine Y1 (fun g wv => ∃ (i : Nat) (l7 l8 : Z8) (sv7 sv8 : Value) (H7 H8 : List (Nat × Obj)), (i ≤ 64) ∧ (l7 = (List.range i).map (fun j => kl.getD j 0 ^^^ 54#8)) ∧ (l8 = (List.range i).map (fun j => kl.getD j 0 ^^^ 92#8)) ∧ (Z5 u8 5 sv7 l7 H7) ∧ (Z5 u8 5 sv8 l8 H8) ∧ g 0 = vb ∧ g 1 = vc ∧ g 4 = (ptr b4 0) ∧ g 5 = sk2 ∧ g 7 = sv7 ∧ g 8 = sv8 ∧ g 9 = (i64 (i : Int)) ∧ g 16 = (bl (decide (64 < (l.length : Int)))) ∧ g 24 = (bl (decide ((kl.length : Int) < 64))) ∧ Mem wv (Qr w0) (H7 ++ (H8 ++ (Hk2 ++ ([(b4, .cells (cl u8 (List.replicate 32 0)) 23 (0, 0))]))))) (fun g wv => (64 - RowKit.intOf (g 9)).toNat) ?_ ?_
  have m23 := (Mem.pick2 [_, _] Hk2 [_] _ m22)
  have m24 := (Mem.pick [_, _, _] Hk2 _ m23)
  have m25 := (Mem.pick2 Hk2 [_] [_] _ m24)
  have m26 := (Mem.pick3 [_] Hk2 [_] [_] _ m25)
  ·exact ⟨0, [], [], (Wp b28 0 0 0), (Wp b29 0 0 0), [(b28, .cells (cl u8 ([])) 5 (0, 0))], [(b29, .cells (cl u8 ([])) 5 (0, 0))], oM, rfl, rfl, (Z5.of u8 5 b28 []), (Z5.of u8 5 b29 []), s0, s1, s4, s5, rfl, rfl, rfl, s16, rfl, m26⟩
  rintro fr27 w28 ⟨i, l7, l8, sv7, sv8, H7, H8, hi, h7, h8, gg7, gg8, s0, s1, s4, s5, s7, s8, s9, s16, s24, m28⟩
  have z9 := s9
  have z7 := s7
  have z8 := s8
  have h7n : l7.length = i ∧ l8.length = i := by rw [h7, h8]; simp
  refine Qa (sR ?_)
  refine Yb s9 <| Qd (Xa (b := 64) rfl rfl) <| rN ?_
  refine Zy rfl (fun hc29 => ?_) (fun hc29 => ?_)
  ·
   have hc29p := of_decide_eq_true hc29
   refine Qn (Qc (Qa (Qh (sR ?_))))
   refine Yb s7 <| Yb s5 <| Yb s9 <| Qd (Zt (gk2.rd (Mem.pick2 H7 H8 Hk2 _ m28)) Zo Yw rfl rfl oM sD) <| Qd (v := (u8 (kl.getD i 0))) (X5 (l := kl) (i := (i : Int)) (dflt := 0) (gk2.rd (Mem.pick2 H7 H8 Hk2 _ m28)) Vs rfl oM sD rfl) <| Qd (Rf (b := 54#8) rfl rfl) <| Y9 (Qq u8 [(kl.getD i 0) ^^^ 54#8] Qs m28 Zo Yw rfl rfl rfl) fun w30 b40 m30 => Vw (Xf (f := u8) (Hs := H7) (H := [_] ++ (H8 ++ (Hk2 ++ ([_])))) (Mem.pick [_] H7 _ m30) gg7 rfl rfl (Rd.mkA m30.h0) Zo Zo Yw rfl Qs sD sD) ?_
   rintro sv31 w31 ⟨Hs31, m31, g31⟩
   replace g31 : Z5 u8 5 sv31 (l7 ++ ([(kl.getD i 0) ^^^ 54#8])) Hs31 := g31
   refine Zx sv31 ?_
   refine rN (Qb ?_)
   refine Yb s8 <| Yb s5 <| Yb s9 <| Qd (Zt (gk2.rd (Mem.pick3 Hs31 [_] H8 Hk2 _ m31)) Zo Yw rfl rfl oM sD) <| Qd (v := (u8 (kl.getD i 0))) (X5 (l := kl) (i := (i : Int)) (dflt := 0) (gk2.rd (Mem.pick3 Hs31 [_] H8 Hk2 _ m31)) Vs rfl oM sD rfl) <| Qd (Rf (b := 92#8) rfl rfl) <| Y9 (Qq u8 [(kl.getD i 0) ^^^ 92#8] Qs m31 Zo Yw rfl rfl rfl) fun w32 b48 m32 => Vw (Xf (f := u8) (Hs := H8) (H := [_] ++ (Hs31 ++ ([_] ++ (Hk2 ++ ([_]))))) (Mem.pick3 [_] Hs31 [_] H8 _ m32) gg8 rfl rfl (Rd.mkA m32.h0) Zo Zo Yw rfl Qs sD sD) ?_
   rintro sv33 w33 ⟨Hs33, m33, g33⟩
   replace g33 : Z5 u8 5 sv33 (l8 ++ ([(kl.getD i 0) ^^^ 92#8])) Hs33 := g33
   refine Zx sv33 ?_
   refine Zp (Qe ?_)
   have m34 := Mem.drop [_] _ (Mem.pick Hs33 [_] _ m33)
   have m35 := Mem.drop [_] _ (Mem.pick2 Hs33 Hs31 [_] _ m34)
   refine Qb <| Yb s9 <| Qd (Zf (b := 1) rfl rfl oM oM) <| Zx (i64 ((i : Int) + 1)) <| rN ?_
   have m36 := (Mem.pick3 Hs33 Hs31 Hk2 [_] _ m35)
   have m37 := (Mem.pick3 [_] Hs33 Hs31 Hk2 _ m36)
   have m38 := (Mem.pick2 Hk2 [_] Hs33 _ m37)
   have m39 := (Mem.pick3 Hs33 Hk2 [_] Hs31 _ m38)
   exact ⟨⟨i + 1, l7 ++ ([(kl.getD i 0) ^^^ 54#8]), l8 ++ ([(kl.getD i 0) ^^^ 92#8]), sv31, sv33, Hs31, Hs33, oM, (by rw [h7]; exact Qex _ _ _ rfl), (by rw [h8]; exact Qex _ _ _ rfl), g31, g33, s0, s1, s4, s5, rfl, rfl, rfl, s16, s24, m39⟩, Ue rfl z9 oM oM⟩
  ·
   have hc29p := of_decide_eq_false hc29
   obtain rfl : i = 64 := by omega
   rw [mask_map hkl] at h7 h8
   have h7n : l7.length = 64 ∧ l8.length = 64 := by rw [h7, h8]; simp
   refine X4 ?_
   refine Qj (Qj (Xi ?_))
   refine sR <| Yb s7 <| Yb s1 <| Vw (Xf (f := u8) (Hs := H7) (H := H8 ++ (Hk2 ++ ([_]))) m28 gg7 rfl rfl (Rd.ofRest hrm m28) Zo Zo Yw rfl Qs sD sD) ?_
   rintro sv40 w40 ⟨Hs40, m40, g40⟩
   replace g40 : Z5 u8 5 sv40 (l7 ++ m) Hs40 := g40
   refine Zx sv40 ?_
   refine rN (sR ?_)
   refine Zm sv40 <| U3 m40 (oc91 (Jv rfl) (Qpz sv40 (l7 ++ m) _ (g40.rd m40) sD)) fun w41 m41 => Y9 (Q7 m41 Zg) fun w43 b10 m43 => Ye m43 (Qg (f := u8) (l := U4 (l7 ++ m)) Qs Zg rfl rfl sD m43.h0 sZ rfl) fun w44 m44 => ?_
   refine rN (sR ?_)
   refine Yb s8 <| Qd (Xk (i := 0) (j := 32) Xl Yw rfl (Zd _ _) (Zd _ _) oM sD sD) <| Vw (Xf (f := u8) (Hs := H8) (H := [_] ++ (Hs40 ++ (Hk2 ++ ([_])))) (Mem.pick2 [_] Hs40 H8 _ m44) gg8 rfl rfl (Rd.slaAll m44.h0 sD) Zo Zo Yw rfl Qs sD sD) ?_
   rintro sv45 w45 ⟨Hs45, m45, g45⟩
   replace g45 : Z5 u8 5 sv45 (l8 ++ (U4 (l7 ++ m))) Hs45 := g45
   refine Zx sv45 ?_
   refine rN (sR ?_)
   refine Zm sv45 <| U3 m45 (oc91 (Jv rfl) (Qpz sv45 (l8 ++ (U4 (l7 ++ m))) _ (g45.rd m45) sD)) fun w46 m46 => Vf (Qg (f := u8) (l := U4 (l8 ++ (U4 (l7 ++ m)))) Qs Zg s4 rfl sD ((Mem.pick4 Hs45 [_] Hs40 Hk2 [_] _ m46)).h0 sZ rfl) ?_
   rintro _ w48 uq48
   have m48 : Mem _ _ ([_] ++ (Hs45 ++ ([_] ++ (Hs40 ++ (Hk2 ++ ([])))))) := Mem.upd0 (Mem.pick4 Hs45 [_] Hs40 Hk2 [_] _ m46) uq48
   refine rN (Zz ?_)
   refine Qp [(agg u8 (U4 (l8 ++ (U4 (l7 ++ m)))))] ⟨⟨_, s4, Xn Xl rfl Zg m48.h0 sZ⟩, trivial⟩ ?_
   exact ⟨congrArg (agg u8) (by unfold Xj; rw [h7, h8]), m48.toExt⟩
end --m
section
set_option linter.unusedVariables false
set_option linter.unusedSimpArgs false
def tK (key info : Z8) : Nat → Z8
 | 0 => []
 | i + 1 => Xj key (tK key info i ++ info ++ [BitVec.ofNat 8 (i + 1)])
theorem Qqd (key info : Z8) : tK key info 0 = [] := rfl
theorem Qib (key info : Z8) (i : Nat) : tK key info (i + 1) = Xj key (tK key info i ++ info ++ [BitVec.ofNat 8 (i + 1)]) := rfl
theorem tK_le (key info : Z8) (i : Nat) : (tK key info i).length ≤ 32 := by
 cases i with
 | zero => simp [tK]
 | succ i => rw [Qib, V6]; omega
theorem tK_len (key info : Z8) (i : Nat) : (tK key info (i + 1)).length = 32 := by rw [Qib, V6]
def Qey (key info : Z8) : Nat → Z8
 | 0 => []
 | i + 1 => Qey key info i ++ tK key info (i + 1)
theorem Qk2 (key info : Z8) : Qey key info 0 = [] := rfl
theorem Qgp (key info : Z8) (i : Nat) : Qey key info (i + 1) = Qey key info i ++ tK key info (i + 1) := rfl
theorem Qi9 (key info : Z8) (i : Nat) : (Qey key info i).length = 32 * i := by
 induction i with
 | zero => rfl
 | succ i ih => rw [Qgp, List.length_append, ih, tK_len]; omega
def Vb (key info : Z8) (n : Nat) : Z8 := (Qey key info ((n + 31) / 32)).take n
@[simp] theorem Dy (key info : Z8) (n : Nat) : (Vb key info n).length = n := by unfold Vb; rw [List.length_take, Qi9]; omega
def Qh8 (n : Int) : Bool := decide (n < 0) || decide (8160 < n)
def Qeh (n : Int) : Int := if Qh8 n then 2 else 0
def Rq (key info : Z8) (n : Int) : Z8 := if Qh8 n then [] else Vb key info n.toNat
theorem Qho (a b c : Value) (x y z : Z8) : Vp [(a, x), (b, y), (c, z)] = x ++ y ++ z := by simp [Vp]
theorem Qss (k : Nat) : BitVec.ofNat 8 (k + 1) + 1#8 = BitVec.ofNat 8 (k + 1 + 1) := by simp [BitVec.ofNat_add]
theorem byte_int (k : Nat) : BitVec.ofInt 8 (((k + 1 : Nat)) : Int) = BitVec.ofNat 8 (k + 1) := BitVec.ofInt_natCast 8 (k + 1)
def Qnc (salt : Z8) : Z8 := if salt.length = 0 then List.replicate 32 0 else salt
def Kz (salt secret : Z8) : Z8 := Xj (Qnc salt) secret
@[simp] theorem Qsx (salt secret : Z8) : (Kz salt secret).length = 32 := V6 _ _
attribute [local irreducible] Xj tK Qey
set_option maxHeartbeats 1000000 in
theorem c_expand (key : Z8) (vi : Value) (info : Z8) (n : Int) (w0 : World)  (hT : Tabs (Y8 w0)) (hk : key.length = 32) (hri : Rd (Y8 w0) u8 vi info) (hli : info.length ≤ 1048576) : X0 prog 95 #[(agg u8 key), vi, (i64 n)] w0 (fun r w1 => ∃ v Hs, r = Value.tuple #[v, i64 (Qeh n)] ∧ Z5 u8 5 v (Rq key info n) Hs ∧ Mem w1 (Qr w0) Hs) := by
 refine Qy (args := [(agg u8 key), vi, (i64 n)]) func95 rfl ntmps95 results95 rfl ?_
 have m0 : Mem w0 (Qr w0) [] := Mem.of_world w0
 refine sR <| Y9 (Xc (f := u8) (l := key) m0 rfl) fun w1 b3 m1 => Zx Wl <| Zx (i64 0) ?_
 refine rN (Qa (sR ?_))
 refine Zm (i64 n) <| Qd (Xa (b := 0) rfl rfl) <| Zm (bl (decide (n < 0))) ?_
 rcases Bool.eq_false_or_eq_true (decide (n < 0)) with hb2 | hb2
 ·
  have hb2p := of_decide_eq_true hb2
  refine Yg (s := 14) rfl rfl hb2 rfl <| Yg (s := 14) rfl rfl hb2 rfl <| Qd (Jg rfl hb2 rfl) <| rN <| Q9 rfl Jb <| sR <| Zx Wl <| Zx (i64 2) ?_
  refine rN (Zz (Yv ?_))
  refine Qp [Wl, (i64 2)] ⟨rfl, rfl, trivial⟩ ?_
  have hbad : Qh8 n = true := by simp [Qh8]; omega
  have m3 := Mem.drop [_] _ m1
  exact ⟨Value.slice none 0 0, [], by unfold Qeh; rw [if_pos hbad]; rfl, by unfold Rq; rw [if_pos hbad]; exact Z5.none _ _, m3⟩
 ·
  have hb2p := of_decide_eq_false hb2
  refine Zj (s := 14) rfl rfl hb2 rfl (Yh (v := (i64 n)) rfl) <| Zj (s := 14) rfl rfl hb2 rfl (Vz (b := 8160) rfl rfl) <| Qd (Yz rfl hb2 rfl) <| rN ?_
  refine Zy rfl (fun hc4 => ?_) (fun hc4 => ?_)
  ·
   have hc4p := of_decide_eq_true hc4
   refine sR <| Zx Wl <| Zx (i64 2) ?_
   refine rN (Zz (Yv ?_))
   refine Qp [Wl, (i64 2)] ⟨rfl, rfl, trivial⟩ ?_
   have hbad : Qh8 n = true := by simp [Qh8]; omega
   have m5 := Mem.drop [_] _ m1
   exact ⟨Value.slice none 0 0, [], by unfold Qeh; rw [if_pos hbad]; rfl, by unfold Rq; rw [if_pos hbad]; exact Z5.none _ _, m5⟩
  ·
   have hc4p := of_decide_eq_false hc4
   refine Qn (Qc (sR ?_))
   refine Zm (i64 n) <| Qd (Zf (b := 32) rfl rfl oM oM) <| Y9 (Hm m1 Zo Yw rfl rfl oM oM oM oM) fun w6 b20 m6 => ?_
   rw [Qae u8 0 rfl] at m6
   obtain ⟨Hs6, m6, g6⟩ : ∃ Hs, Mem w6 (Qr w0) (Hs ++ [(b3, .cells (cl u8 key) 23 (0, 0))]) ∧ Z5 u8 5 (Wp b20 0 0 ((n + 32 : Int).toNat)) [] Hs := ⟨_, m6, Z5.made0 u8 5 b20 (0 : BitVec 8) ((n + 32 : Int).toNat)⟩
   refine Zx (Wp b20 0 0 ((n + 32 : Int).toNat)) ?_
   refine rN (sR ?_)
   refine Zx Wl ?_
   refine rN (Qa (sR ?_))
   refine Zx (u8 1#8) ?_
   refine rN (Qh ?_)
   refine Y1 (fun g wv => ∃ (k : Nat) (ol : Z8) (so : Value) (Ho : List (Nat × Obj)) (vl : Value) (Hl : List (Nat × Obj)), (k = 0 ∨ 32 * ((k : Int) - 1) < n) ∧ (ol = Qey key info k) ∧ (Z5 u8 5 so ol Ho) ∧ (Z5 u8 23 vl (tK key info k) Hl) ∧ g 0 = (agg u8 key) ∧ g 1 = vi ∧ g 2 = (i64 n) ∧ g 3 = (ptr b3 0) ∧ g 6 = Wl ∧ g 7 = (i64 0) ∧ g 8 = so ∧ g 9 = vl ∧ g 10 = (u8 (BitVec.ofNat 8 (k + 1))) ∧ g 17 = (bl (decide (8160 < n))) ∧ Mem wv (Qr w0) (Ho ++ (Hl ++ ([(b3, .cells (cl u8 key) 23 (0, 0))])))) (fun g wv => n.toNat + 1 - sllen (g 8)) ?_ ?_
   ·exact ⟨0, [], (Wp b20 0 0 ((n + 32 : Int).toNat)), Hs6, Wl, [], (.inl rfl), (Qk2 _ _).symm, g6, ((Qqd key info).symm ▸ Z5.none u8 23), rfl, rfl, rfl, rfl, rfl, rfl, rfl, rfl, rfl, rfl, m6⟩
   rintro fr7 w8 ⟨k, ol, so, Ho, vl, Hl, hk0, hol, goo, gvl, s0, s1, s2, s3, s6, s7, s8, s9, s10, s17, m8⟩
   have z8 := s8
   have z9 := s9
   have z10 := s10
   have holn : ol.length = 32 * k := by rw [hol, Qi9]
   have htl := tK_le key info k
   refine Qa (sR ?_)
   refine Yb s8 <| Qd (Yk (goo.rd m8) Zo rfl) <| Yb s2 <| Qd (Xa rfl rfl) <| rN ?_
   refine Zy rfl (fun hc9 => ?_) (fun hc9 => ?_)
   ·
    have hc9p := of_decide_eq_true hc9
    refine Qn (Qc (Qa (Qh (sR ?_))))
    refine Qd (Xk (i := 0) (j := 32) Xl Yw s3 (Zd _ _) (Zd _ _) oM sD sD) <| Yb s9 <| Yb s1 <| Yb s10 <| Y9 (Qq u8 [BitVec.ofNat 8 (k + 1)] Qs m8 Zo Yw rfl rfl rfl) fun w10 b31 m10 => Y9 (Ky [vl, vi, (Wp b31 0 1 1)] (List.all_eq_true.1 (Xy gvl.one (Xy (Rd.one (Rd.ofRest hri m10)) (Xy rfl Jz)))) m10 Qhz Qa6 rfl rfl rfl) fun w11 b32 m11 => ?_
    have m11 : Mem w11 (Qr w0) ([(b32, .cells #[vl, vi, (Wp b31 0 1 1)] 27 (0, 0)), (b31, .cells (cl u8 ([BitVec.ofNat 8 (k + 1)])) 5 (0, 0))] ++ (Ho ++ (Hl ++ ([(b3, .cells (cl u8 key) 23 (0, 0))])))) := m11
    refine U3 m11 (oc59 (Xm rfl rfl) (Qbt (sla b3 0 1 0 32 32) key (Wp b32 0 3 3) ([(vl, tK key info k), (vi, info), ((Wp b31 0 1 1), [BitVec.ofNat 8 (k + 1)])]) _ (hT.mono fun b o e => (m11).rest b o e) (Rd.slaAll ((Mem.pick3 [_, _] Ho Hl [_] _ m11)).h0 sD) sD (Rd.mkA (f := Prod.fst) (l := [(vl, tK key info k), (vi, info), ((Wp b31 0 1 1), [BitVec.ofNat 8 (k + 1)])]) m11.h0) (Ej (gvl.rd (Mem.pick2 [_, _] Ho Hl _ m11)) (Ej (Rd.ofRest hri m11) (Ej (Rd.mkA m11.h1) L8))) (by rw [Qho]; simp only [List.length_append, List.length_cons, List.length_nil]; omega) sD)) fun w12 m12 => Y9 (Q7 m12 Zg) fun w14 b11 m14 => Ye m14 (Qg (f := u8) (l := Xj key (Vp ([(vl, tK key info k), (vi, info), ((Wp b31 0 1 1), [BitVec.ofNat 8 (k + 1)])]))) Qs Zg rfl rfl sD m14.h0 sZ rfl) fun w15 m15 => ?_
    refine rN (sR ?_)
    refine Qd (Xk (i := 0) (j := 32) Xl Yw rfl (Zd _ _) (Zd _ _) oM sD sD) <| Zx (sla b11 0 1 0 32 32) ?_
    refine rN (Qb ?_)
    refine Yb s8 <| Zm (sla b11 0 1 0 32 32) <| Vw (Xf (f := u8) (Hs := Ho) (H := [_, _, _] ++ (Hl ++ ([_]))) (Mem.pick [_, _, _] Ho _ m15) goo rfl rfl (Rd.slaAll m15.h0 sD) Zo Zo Yw rfl Qs sD sD) ?_
    rintro sv16 w16 ⟨Hs16, m16, g16⟩
    replace g16 : Z5 u8 5 sv16 (ol ++ (Xj key (Vp ([(vl, tK key info k), (vi, info), ((Wp b31 0 1 1), [BitVec.ofNat 8 (k + 1)])])))) Hs16 := g16
    refine Zx sv16 ?_
    refine Zp (Qe ?_)
    have m17 := Mem.drop [_] _ (Mem.pick2 Hs16 [_] [_] _ m16)
    have m18 := Mem.drop [_] _ (Mem.pick2 Hs16 [_] [_] _ m17)
    have m19 := Mem.drop Hl _ (Mem.pick2 Hs16 [_] Hl _ m18)
    refine Qb <| Yb s10 <| Qd (Qlf (b := 1#8) rfl rfl) <| Zx (u8 ((BitVec.ofNat 8 (k + 1)) + 1#8)) <| rN ?_
    have htn : Xj key (Vp ([(vl, tK key info k), (vi, info), ((Wp b31 0 1 1), [BitVec.ofNat 8 (k + 1)])])) = tK key info (k + 1) := by rw [Qib, Qho]
    exact ⟨⟨k + 1, ol ++ (Xj key (Vp ([(vl, tK key info k), (vi, info), ((Wp b31 0 1 1), [BitVec.ofNat 8 (k + 1)])]))), sv16, Hs16, (sla b11 0 1 0 32 32), [(b11, .cells (cl u8 (Xj key (Vp ([(vl, tK key info k), (vi, info), ((Wp b31 0 1 1), [BitVec.ofNat 8 (k + 1)])])))) 23 (0, 0))], (.inr oM), (by rw [Qgp, ← htn, hol]), g16, (htn ▸ (by have e : sla b11 0 1 0 32 32 = Wp b11 0 32 32 := Qm5 Jb; rw [e]; exact Z5.ofE u8 23 b11 _ (by rw [V6]))), s0, s1, s2, s3, s6, s7, rfl, rfl, (congrArg u8 (Qss k)), s17, m19⟩, (by show n.toNat + 1 - sllen sv16 < n.toNat + 1 - sllen _; rw [z8, goo.sllen, Z5.sllen g16]; simp only [List.length_append, V6]; omega)⟩
   ·
    have hc9p := of_decide_eq_false hc9
    refine X4 ?_
    refine Qj (Qj (Xi ?_))
    refine Qa ?_
    have hbad : Qh8 n = false := by simp [Qh8]; omega
    have hkn : k = (n.toNat + 31) / 32 := by omega
    refine Qb <| Yb s8 <| Yb s2 <| Yb s2 <| Qd (Qmi (j := n) (goo.rd m8) Zo Yw rfl rfl rfl oM sD) <| Zx (Qhd so 0 n n) <| Zx (i64 0) ?_
    refine rN (Zz ?_)
    refine Qp [(Qhd so 0 n n), (i64 0)] ⟨rfl, rfl, trivial⟩ ?_
    have m20 := Mem.drop Hl _ (Mem.pick Ho Hl _ m8)
    have m21 := Mem.drop [_] _ (Mem.pick Ho [_] _ m20)
    exact ⟨_, Ho, by unfold Qeh; rw [if_neg (by rw [hbad]; decide)]; rfl, by unfold Rq Vb; rw [if_neg (by rw [hbad]; decide), ← hkn, ← hol]; exact (Z5.cut (j := n) goo oM sD), by simpa using m21⟩
theorem Qsq (va : Value) (la : Z8) (vb : Value) (lb : Z8) (w0 : World)  (hT : Tabs (Y8 w0)) (hra : Rd (Y8 w0) u8 va la) (hla : la.length ≤ 1048576) (hrb : Rd (Y8 w0) u8 vb lb) (hlb : lb.length ≤ 1048576) : X0 prog 96 #[va, vb] w0 (fun r w1 => r = (agg u8 (Kz la lb)) ∧ Ext w0 w1) := by
 refine Qy (args := [va, vb]) func96 rfl ntmps96 results96 rfl ?_
 have m0 : Mem w0 (Qr w0) [] := Mem.of_world w0
 refine sR <| Y9 (Q7 m0 Zg) fun w1 b4 m1 => ?_
 refine rN (Qa (sR ?_))
 refine Zm va <| Qd (Yk (Rd.ofRest hra m1) Zo rfl) <| Qd (Gq (b := 0) rfl rfl) <| rN ?_
 refine Zy rfl (fun hc2 => ?_) (fun hc2 => ?_)
 ·
  have hc2p := eq_of_beq hc2
  refine Qb <| Y9 (Hm m1 Zo Yw rfl rfl oM oM oM oM) fun w3 b8 m3 => ?_
  rw [Qae u8 0 rfl] at m3
  have m3 : Mem w3 (Qr w0) [(b8, .cells (cl u8 (List.replicate 32 (0 : BitVec 8))) 5 (0, 0)), (b4, .cells (cl u8 (List.replicate 32 0)) 23 (0, 0))] := m3
  refine Zx (Wp b8 0 32 32) ?_
  refine rN (sR ?_)
  refine Zm (Wp b8 0 32 32) <| Zm vb <| Y9 (Ky [vb] (List.all_eq_true.1 (Xy (Rd.one (Rd.ofRest hrb m3)) Jz)) m3 Qhz Qa6 rfl rfl rfl) fun w4 b11 m4 => ?_
  have m4 : Mem w4 (Qr w0) [(b11, .cells #[vb] 27 (0, 0)), (b8, .cells (cl u8 (List.replicate 32 (0 : BitVec 8))) 5 (0, 0)), (b4, .cells (cl u8 (List.replicate 32 0)) 23 (0, 0))] := m4
  refine U3 m4 (oc59 (Xm rfl rfl) (Qbt (Wp b8 0 32 32) (List.replicate 32 (0 : BitVec 8)) (Wp b11 0 1 1) ([(vb, lb)]) _ (hT.mono fun b o e => (m4).rest b o e) (Rd.mkE m4.h1 sD) sD (Rd.mkA (f := Prod.fst) (l := [(vb, lb)]) m4.h0) (Ej (Rd.ofRest hrb m4) L8) (by rw [Qag]; omega) sD)) fun w5 m5 => Aa m5 (Qg (f := u8) (l := Xj (List.replicate 32 (0 : BitVec 8)) (Vp ([(vb, lb)]))) Qs Zg rfl rfl sD m5.h2 sZ rfl) fun w7 m7 => ?_
  refine rN (Zz ?_)
  refine Qp [(agg u8 (Xj (List.replicate 32 (0 : BitVec 8)) (Vp ([(vb, lb)]))))] ⟨⟨_, rfl, Xn Xl rfl Zg m7.h2 sZ⟩, trivial⟩ ?_
  exact ⟨congrArg (agg u8) (by unfold Kz Qnc; rw [Qag, if_pos oM]), m7.toExt⟩
 ·
  have hc2p := ne_of_beq_false hc2
  refine Qn (Qc (sR ?_))
  refine Zm va <| Zm vb <| Y9 (Ky [vb] (List.all_eq_true.1 (Xy (Rd.one (Rd.ofRest hrb m1)) Jz)) m1 Qhz Qa6 rfl rfl rfl) fun w8 b11_1 m8 => ?_
  have m8 : Mem w8 (Qr w0) [(b11_1, .cells #[vb] 27 (0, 0)), (b4, .cells (cl u8 (List.replicate 32 0)) 23 (0, 0))] := m8
  refine U3 m8 (oc59 (Xm rfl rfl) (Qbt va la (Wp b11_1 0 1 1) ([(vb, lb)]) _ (hT.mono fun b o e => (m8).rest b o e) (Rd.ofRest hra m8) sD (Rd.mkA (f := Prod.fst) (l := [(vb, lb)]) m8.h0) (Ej (Rd.ofRest hrb m8) L8) (by rw [Qag]; omega) sD)) fun w9 m9 => Vu m9 (Qg (f := u8) (l := Xj la (Vp ([(vb, lb)]))) Qs Zg rfl rfl sD m9.h1 sZ rfl) fun w11 m11 => ?_
  refine rN (Zz ?_)
  refine Qp [(agg u8 (Xj la (Vp ([(vb, lb)]))))] ⟨⟨_, rfl, Xn Xl rfl Zg m11.h1 sZ⟩, trivial⟩ ?_
  exact ⟨congrArg (agg u8) (by unfold Kz Qnc; rw [Qag, if_neg oM]), m11.toExt⟩
theorem Qp0 (va : Value) (la : Z8) (vb : Value) (lb : Z8) (w0 : World)  (hra : Rd (Y8 w0) u8 va la) (hla : la.length ≤ 1048576) (hrb : Rd (Y8 w0) u8 vb lb) (hlb : lb.length ≤ 1048576) : X0 prog 93 #[va, vb] w0 (fun r w1 => r = (agg u8 (Kz la lb)) ∧ Ext w0 w1) := by
 refine Qy (args := [va, vb]) func93 rfl ntmps93 results93 rfl ?_
 have m0 : Mem w0 (Qr w0) [] := Mem.of_world w0
 refine sR <| Y9 (Q7 m0 Zg) fun w1 b4 m1 => ?_
 refine rN (Qa (sR ?_))
 refine Zm va <| Qd (Yk (Rd.ofRest hra m1) Zo rfl) <| Qd (Gq (b := 0) rfl rfl) <| rN ?_
 refine Zy rfl (fun hc2 => ?_) (fun hc2 => ?_)
 ·
  have hc2p := eq_of_beq hc2
  refine sR <| Y9 (Hm m1 Zo Yw rfl rfl oM oM oM oM) fun w3 b8 m3 => ?_
  rw [Qae u8 0 rfl] at m3
  have m3 : Mem w3 (Qr w0) [(b8, .cells (cl u8 (List.replicate 32 (0 : BitVec 8))) 5 (0, 0)), (b4, .cells (cl u8 (List.replicate 32 0)) 23 (0, 0))] := m3
  refine Zm vb <| U3 m3 (oc69 (Xm rfl rfl) (Qaa (Wp b8 0 32 32) (List.replicate 32 (0 : BitVec 8)) vb lb _ (Rd.mkE m3.h0 sD) sD (Rd.ofRest hrb m3) sD)) fun w4 m4 => Vu m4 (Qg (f := u8) (l := Xj (List.replicate 32 (0 : BitVec 8)) lb) Qs Zg rfl rfl sD m4.h1 sZ rfl) fun w6 m6 => ?_
  refine rN (Zz (Yv ?_))
  refine Qp [(agg u8 (Xj (List.replicate 32 (0 : BitVec 8)) lb))] ⟨⟨_, rfl, Xn Xl rfl Zg m6.h1 sZ⟩, trivial⟩ ?_
  exact ⟨congrArg (agg u8) (by unfold Kz Qnc; rw [if_pos oM]), m6.toExt⟩
 ·
  have hc2p := ne_of_beq_false hc2
  refine Qn (Qc (sR ?_))
  refine Zm va <| Zm vb <| U3 m1 (oc69 (Xm rfl rfl) (Qaa va la vb lb _ (Rd.ofRest hra m1) sD (Rd.ofRest hrb m1) sD)) fun w7 m7 => Ye m7 (Qg (f := u8) (l := Xj la lb) Qs Zg rfl rfl sD m7.h0 sZ rfl) fun w9 m9 => ?_
  refine rN (Zz ?_)
  refine Qp [(agg u8 (Xj la lb))] ⟨⟨_, rfl, Xn Xl rfl Zg m9.h0 sZ⟩, trivial⟩ ?_
  exact ⟨congrArg (agg u8) (by unfold Kz Qnc; rw [if_neg oM]), m9.toExt⟩
end --m
end Go.Proofs.YtkmiemlpfkfiiaaDoor
