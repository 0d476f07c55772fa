/- Contracts: kdf, first part. Conditions: none beyond those that each theorem states. -/
import Derived.Test.YtkmiemlpfkfiiaaDoorHa6
import Derived.Test.YtkmiemlpfkfiiaaDoorFwP
namespace Go.Proofs.YtkmiemlpfkfiiaaDoor
open BitVec renaming ofNat → aV
open List renaming length_append → ag, range → bP, replicate → aA
open Mem renaming drop → aF, of_world → aY, pick → aC, pick2 → aN, pick3 → ai, pick4 → dO
open Rd renaming mkA → bG, ofRest → aK, slaAll → bT
open Tryd
section
set_option linter.unusedVariables false
set_option linter.unusedSimpArgs false
theorem mask_map {key K : Z4} {bb : BitVec 8} (hK : K = Qa0 key ++ aA (64 - (Qa0 key).length) 0) : (bP 64).map (fun j => K.getD j 0 ^^^ bb) = Va key bb := by
 have hle := Qi0 key
 have e : K.length = 64 := by rw [hK]; simp; omega
 have h := Qoz (fun x => x ^^^ bb) K 0
 rw [e] at h
 rw [h, hK]; rfl
theorem Qab (v : Value) (l : Z4) : Vm [(v, l)] = l := by simp [Vm]
attribute [local irreducible] U1 Dc Va Xc
set_option maxHeartbeats 1000000 in
theorem Tt (vb : Value) (l : Z4) (vc : Value) (m : Z4) (w0 : World)  (hr : Rd (Jd w0) u8 vb l) (hl : l.length ≤ 1099511627776) (hrm : Rd (Jd w0) u8 vc m) (hm : m.length ≤ 1099511627776) : Xz prog 69 #[vb, vc] w0 (fun r w1 => r = (agg u8 (Xc l m)) ∧ Ext w0 w1) := by
 refine Qz (args := [vb, vc]) func69 rfl ntmps69 results69 rfl ?_
 have m0 : Mem w0 (Qs w0) [] := aY w0
 refine sR <| Y5 (Q7 m0 Zh) fun w1 b4 m1 => ?_
 refine rN (sR ?_)
 refine Y5 (Qp u8 [] Qr m1 Zn Yr rfl (by simp [Bz]) rfl) fun w2 b11 m2 => Zm vb <| Vr (Xh (f := u8) (Hs := [(b11, .cells (cl u8 ([])) 5 (0, 0))]) (H := [_]) m2 (Z9.of u8 5 b11 ([])) rfl rfl (aK hr m2) Zn Zn Yr rfl Qr sD sD) ?_
 rintro sv3 w3 ⟨Hs3, m3, g3⟩
 replace g3 : Z9 u8 5 sv3 l Hs3 := g3
 refine Zx sv3 ?_
 refine rN (Qa (sR ?_))
 refine Zm vb <| Qd (Yi (aK hr m3) Zn rfl) <| Qd (G7 (b := 64) rfl rfl) <| rN ?_
 refine Ri (J := fun g wv => ∃ (sk : Value) (Hk : List (Nat × Obj)), (Z9 u8 5 sk (Qa0 l) Hk) ∧ g 0 = vb ∧ g 1 = vc ∧ g 4 = (ptr b4 0) ∧ g 5 = sk ∧ g 16 = (bl (decide (64 < (l.length : Int)))) ∧ Mem wv (Qs w0) (Hk ++ ([(b4, .cells (cl u8 (aA 32 0)) 23 (0, 0))]))) ?_ ?_
 ·skip
  refine Zz rfl (fun hc4 => ?_) (fun hc4 => ?_)
  ·
   have hc4p := of_decide_eq_true hc4
   refine sR <| Zm vb <| U5 m3 (oc91 (Jz rfl) (Qrn vb l _ (aK hr m3) sD)) fun w5 m5 => Y5 (Q7 m5 Zh) fun w7 b6 m7 => Ye m7 (Qg (f := u8) (l := U1 l) Qr Zh rfl rfl sD m7.h0 sZ rfl) fun w8 m8 => ?_
   refine rN (Qb ?_)
   refine Y5 (Qp u8 [] Qr m8 Zn Yr rfl (by simp [Bz]) rfl) fun w9 b19 m9 => Qd (Xj (i := 0) (j := 32) Xn Yr rfl (Zd _ _) (Zd _ _) oM sD sD) <| Vr (Xh (f := u8) (Hs := [(b19, .cells (cl u8 ([])) 5 (0, 0))]) (H := [_] ++ (Hs3 ++ ([_]))) m9 (Z9.of u8 5 b19 ([])) rfl rfl (bT m9.h1 sD) Zn Zn Yr rfl Qr sD sD) ?_
   rintro sv10 w10 ⟨Hs10, m10, g10⟩
   replace g10 : Z9 u8 5 sv10 (U1 l) Hs10 := g10
   refine Zx sv10 <| rN ?_
   have hK : Qa0 l = U1 l := by unfold Qa0; rw [if_pos oM]
   have m11 := aF [_] _ (aC Hs10 [_] _ m10)
   have m12 := aF Hs3 _ (aC Hs10 Hs3 _ m11)
   exact ⟨sv10, Hs10, (Z9.cast g10 hK.symm), rfl, rfl, rfl, rfl, rfl, m12⟩
  ·
   have hc4p := of_decide_eq_false hc4
   refine Qo (Qc ?_)
   have hK : Qa0 l = l := by unfold Qa0; rw [if_neg oM]
   exact ⟨sv3, Hs3, (Z9.cast g3 hK.symm), rfl, rfl, rfl, rfl, rfl, m3⟩
 rintro fr13 w14 ⟨sk, Hk, gk, s0, s1, s4, s5, s16, m14⟩
 have hle := Qi0 l
 refine Qa (Qh ?_)
 refine Y1 (fun g wv => ∃ (k : Nat) (kl : Z4) (sk2 : Value) (Hk2 : List (Nat × Obj)), (k ≤ 64 - (Qa0 l).length) ∧ (kl = Qa0 l ++ aA k 0) ∧ (Z9 u8 5 sk2 kl Hk2) ∧ g 0 = vb ∧ g 1 = vc ∧ g 4 = (ptr b4 0) ∧ g 5 = sk2 ∧ g 16 = (bl (decide (64 < (l.length : Int)))) ∧ Mem wv (Qs w0) (Hk2 ++ ([(b4, .cells (cl u8 (aA 32 0)) 23 (0, 0))]))) (fun g wv => 66 - sllen (g 5)) ?_ ?_
 ·exact ⟨0, (Qa0 l), sk, Hk, oM, Ya, gk, s0, s1, s4, s5, s16, m14⟩
 rintro fr15 w16 ⟨k, kl, sk2, Hk2, hk, hkl, gk2, s0, s1, s4, s5, s16, m16⟩
 have z5 := s5
 have hkn : kl.length = (Qa0 l).length + k := by rw [hkl]; simp
 refine Qa (sR ?_)
 refine X9 s5 <| Qd (Yi (gk2.rd m16) Zn rfl) <| Qd (Xd (b := 64) rfl rfl) <| rN ?_
 refine Zz rfl (fun hc17 => ?_) (fun hc17 => ?_)
 ·
  have hc17p := of_decide_eq_true hc17
  refine Qo (Qc (Gh (Qb ?_)))
  refine X9 s5 <| Y5 (Qp u8 [0#8] Qr m16 Zn Yr rfl rfl rfl) fun w18 b26 m18 => Vr (Xh (f := u8) (Hs := Hk2) (H := [_, _]) (aC [_] Hk2 _ m18) gk2 rfl rfl (bG m18.h0) Zn Zn Yr rfl Qr sD sD) ?_
  rintro sv19 w19 ⟨Hs19, m19, g19⟩
  replace g19 : Z9 u8 5 sv19 (kl ++ ([0#8])) Hs19 := g19
  refine Zx sv19 ?_
  refine Zp (Qe (Qc ?_))
  have m20 := aF [_] _ (aC Hs19 [_] _ m19)
  exact ⟨⟨k + 1, kl ++ ([0#8]), sv19, Hs19, oM, (by rw [hkl, List.replicate_succ']; simp), g19, s0, s1, s4, rfl, s16, m20⟩, (by show 66 - sllen sv19 < 66 - sllen _; rw [z5, gk2.sllen, Z9.sllen g19]; simp [hkn]; omega)⟩
 ·
  have hc17p := of_decide_eq_false hc17
  have hkn : kl.length = (Qa0 l).length + k := by rw [hkl]; simp
  obtain rfl : k = 64 - (Qa0 l).length := by omega
  have hkl64 : kl.length = 64 := by omega
  have hn0 : True := trivial
  refine X3 ?_
  refine Qj (Qj (Xk ?_))
  refine sR <| Y5 (Qp u8 [] Qr m16 Zn Yr rfl (by simp [Bz]) rfl) fun w21 b28 m21 => Y5 (Qp u8 [] Qr m21 Zn Yr rfl (by simp [Bz]) rfl) fun w22 b29 m22 => Zx (Wi b28 0 0 0) <| Zx (Wi b29 0 0 0) ?_
  refine rN (Qa (sR ?_))
  refine Zx (i64 0) ?_
  refine rN (Qh ?_)
  refine Y1 (fun g wv => ∃ (i : Nat) (l7 l8 : Z4) (sv7 sv8 : Value) (H7 H8 : List (Nat × Obj)), (i ≤ 64) ∧ (l7 = (bP i).map (fun j => kl.getD j 0 ^^^ 54#8)) ∧ (l8 = (bP i).map (fun j => kl.getD j 0 ^^^ 92#8)) ∧ (Z9 u8 5 sv7 l7 H7) ∧ (Z9 u8 5 sv8 l8 H8) ∧ g 0 = vb ∧ g 1 = vc ∧ g 4 = (ptr b4 0) ∧ g 5 = sk2 ∧ g 7 = sv7 ∧ g 8 = sv8 ∧ g 9 = (i64 (i : Int)) ∧ g 16 = (bl (decide (64 < (l.length : Int)))) ∧ g 24 = (bl (decide ((kl.length : Int) < 64))) ∧ Mem wv (Qs w0) (H7 ++ (H8 ++ (Hk2 ++ ([(b4, .cells (cl u8 (aA 32 0)) 23 (0, 0))]))))) (fun g wv => (64 - RowKit.intOf (g 9)).toNat) ?_ ?_
  have m23 := (aN [_, _] Hk2 [_] _ m22)
  have m24 := (aC [_, _, _] Hk2 _ m23)
  have m25 := (aN Hk2 [_] [_] _ m24)
  have m26 := (ai [_] Hk2 [_] [_] _ m25)
  ·exact ⟨0, [], [], (Wi b28 0 0 0), (Wi b29 0 0 0), [(b28, .cells (cl u8 ([])) 5 (0, 0))], [(b29, .cells (cl u8 ([])) 5 (0, 0))], oM, rfl, rfl, (Z9.of u8 5 b28 []), (Z9.of u8 5 b29 []), s0, s1, s4, s5, rfl, rfl, rfl, s16, rfl, m26⟩
  rintro fr27 w28 ⟨i, l7, l8, sv7, sv8, H7, H8, hi, h7, h8, gg7, gg8, s0, s1, s4, s5, s7, s8, s9, s16, s24, m28⟩
  have z9 := s9
  have z7 := s7
  have z8 := s8
  have h7n : l7.length = i ∧ l8.length = i := by rw [h7, h8]; simp
  refine Qa (sR ?_)
  refine X9 s9 <| Qd (Xd (b := 64) rfl rfl) <| rN ?_
  refine Zz rfl (fun hc29 => ?_) (fun hc29 => ?_)
  ·
   have hc29p := of_decide_eq_true hc29
   refine Qo (Qc (Qa (Qh (sR ?_))))
   refine X9 s7 <| X9 s5 <| X9 s9 <| Qd (Zo (gk2.rd (aN H7 H8 Hk2 _ m28)) Zn Yr rfl rfl oM sD) <| Qd (v := (u8 (kl.getD i 0))) (Xy (l := kl) (i := (i : Int)) (dflt := 0) (gk2.rd (aN H7 H8 Hk2 _ m28)) V3 rfl oM sD rfl) <| Qd (Nb (b := 54#8) rfl rfl) <| Y5 (Qp u8 [(kl.getD i 0) ^^^ 54#8] Qr m28 Zn Yr rfl rfl rfl) fun w30 b40 m30 => Vr (Xh (f := u8) (Hs := H7) (H := [_] ++ (H8 ++ (Hk2 ++ ([_])))) (aC [_] H7 _ m30) gg7 rfl rfl (bG m30.h0) Zn Zn Yr rfl Qr sD sD) ?_
   rintro sv31 w31 ⟨Hs31, m31, g31⟩
   replace g31 : Z9 u8 5 sv31 (l7 ++ ([(kl.getD i 0) ^^^ 54#8])) Hs31 := g31
   refine Zx sv31 ?_
   refine rN (Qb ?_)
   refine X9 s8 <| X9 s5 <| X9 s9 <| Qd (Zo (gk2.rd (ai Hs31 [_] H8 Hk2 _ m31)) Zn Yr rfl rfl oM sD) <| Qd (v := (u8 (kl.getD i 0))) (Xy (l := kl) (i := (i : Int)) (dflt := 0) (gk2.rd (ai Hs31 [_] H8 Hk2 _ m31)) V3 rfl oM sD rfl) <| Qd (Nb (b := 92#8) rfl rfl) <| Y5 (Qp u8 [(kl.getD i 0) ^^^ 92#8] Qr m31 Zn Yr rfl rfl rfl) fun w32 b48 m32 => Vr (Xh (f := u8) (Hs := H8) (H := [_] ++ (Hs31 ++ ([_] ++ (Hk2 ++ ([_]))))) (ai [_] Hs31 [_] H8 _ m32) gg8 rfl rfl (bG m32.h0) Zn Zn Yr rfl Qr sD sD) ?_
   rintro sv33 w33 ⟨Hs33, m33, g33⟩
   replace g33 : Z9 u8 5 sv33 (l8 ++ ([(kl.getD i 0) ^^^ 92#8])) Hs33 := g33
   refine Zx sv33 ?_
   refine Zp (Qe ?_)
   have m34 := aF [_] _ (aC Hs33 [_] _ m33)
   have m35 := aF [_] _ (aN Hs33 Hs31 [_] _ m34)
   refine Qb <| X9 s9 <| Qd (Zg (b := 1) rfl rfl oM oM) <| Zx (i64 ((i : Int) + 1)) <| rN ?_
   have m36 := (ai Hs33 Hs31 Hk2 [_] _ m35)
   have m37 := (ai [_] Hs33 Hs31 Hk2 _ m36)
   have m38 := (aN Hk2 [_] Hs33 _ m37)
   have m39 := (ai Hs33 Hk2 [_] Hs31 _ m38)
   exact ⟨⟨i + 1, l7 ++ ([(kl.getD i 0) ^^^ 54#8]), l8 ++ ([(kl.getD i 0) ^^^ 92#8]), sv31, sv33, Hs31, Hs33, oM, (by rw [h7]; exact Qe3 _ _ _ rfl), (by rw [h8]; exact Qe3 _ _ _ rfl), g31, g33, s0, s1, s4, s5, rfl, rfl, rfl, s16, s24, m39⟩, Uj rfl z9 oM oM⟩
  ·
   have hc29p := of_decide_eq_false hc29
   obtain rfl : i = 64 := by omega
   rw [mask_map hkl] at h7 h8
   have h7n : l7.length = 64 ∧ l8.length = 64 := by rw [h7, h8]; simp
   refine X3 ?_
   refine Qj (Qj (Xk ?_))
   refine sR <| X9 s7 <| X9 s1 <| Vr (Xh (f := u8) (Hs := H7) (H := H8 ++ (Hk2 ++ ([_]))) m28 gg7 rfl rfl (aK hrm m28) Zn Zn Yr rfl Qr sD sD) ?_
   rintro sv40 w40 ⟨Hs40, m40, g40⟩
   replace g40 : Z9 u8 5 sv40 (l7 ++ m) Hs40 := g40
   refine Zx sv40 ?_
   refine rN (sR ?_)
   refine Zm sv40 <| U5 m40 (oc91 (Jz rfl) (Qrn sv40 (l7 ++ m) _ (g40.rd m40) sD)) fun w41 m41 => Y5 (Q7 m41 Zh) fun w43 b10 m43 => Ye m43 (Qg (f := u8) (l := U1 (l7 ++ m)) Qr Zh rfl rfl sD m43.h0 sZ rfl) fun w44 m44 => ?_
   refine rN (sR ?_)
   refine X9 s8 <| Qd (Xj (i := 0) (j := 32) Xn Yr rfl (Zd _ _) (Zd _ _) oM sD sD) <| Vr (Xh (f := u8) (Hs := H8) (H := [_] ++ (Hs40 ++ (Hk2 ++ ([_])))) (aN [_] Hs40 H8 _ m44) gg8 rfl rfl (bT m44.h0 sD) Zn Zn Yr rfl Qr sD sD) ?_
   rintro sv45 w45 ⟨Hs45, m45, g45⟩
   replace g45 : Z9 u8 5 sv45 (l8 ++ (U1 (l7 ++ m))) Hs45 := g45
   refine Zx sv45 ?_
   refine rN (sR ?_)
   refine Zm sv45 <| U5 m45 (oc91 (Jz rfl) (Qrn sv45 (l8 ++ (U1 (l7 ++ m))) _ (g45.rd m45) sD)) fun w46 m46 => Vd (Qg (f := u8) (l := U1 (l8 ++ (U1 (l7 ++ m)))) Qr Zh s4 rfl sD ((dO Hs45 [_] Hs40 Hk2 [_] _ m46)).h0 sZ rfl) ?_
   rintro _ w48 uq48
   have m48 : Mem _ _ ([_] ++ (Hs45 ++ ([_] ++ (Hs40 ++ (Hk2 ++ ([])))))) := Mem.upd0 (dO Hs45 [_] Hs40 Hk2 [_] _ m46) uq48
   refine rN (Z8 ?_)
   refine Qq [(agg u8 (U1 (l8 ++ (U1 (l7 ++ m)))))] ⟨⟨_, s4, Xm Xn rfl Zh m48.h0 sZ⟩, trivial⟩ ?_
   exact ⟨congrArg (agg u8) (by unfold Xc; rw [h7, h8]), m48.toExt⟩
end --m
section
set_option linter.unusedVariables false
set_option linter.unusedSimpArgs false
def tK (key info : Z4) : Nat → Z4
 | 0 => []
 | i + 1 => Xc key (tK key info i ++ info ++ [aV 8 (i + 1)])
theorem Qr5 (key info : Z4) : tK key info 0 = [] := rfl
theorem Qiv (key info : Z4) (i : Nat) : tK key info (i + 1) = Xc key (tK key info i ++ info ++ [aV 8 (i + 1)]) := rfl
theorem tK_le (key info : Z4) (i : Nat) : (tK key info i).length ≤ 32 := by
 cases i with
 | zero => simp [tK]
 | succ i => rw [Qiv, V6]; omega
theorem tK_len (key info : Z4) (i : Nat) : (tK key info (i + 1)).length = 32 := by rw [Qiv, V6]
def Qe5 (key info : Z4) : Nat → Z4
 | 0 => []
 | i + 1 => Qe5 key info i ++ tK key info (i + 1)
theorem Qlr (key info : Z4) : Qe5 key info 0 = [] := rfl
theorem Qha (key info : Z4) (i : Nat) : Qe5 key info (i + 1) = Qe5 key info i ++ tK key info (i + 1) := rfl
theorem Qj0 (key info : Z4) (i : Nat) : (Qe5 key info i).length = 32 * i := by
 induction i with
 | zero => rfl
 | succ i ih => rw [Qha, ag, ih, tK_len]; omega
def Wv (key info : Z4) (n : Nat) : Z4 := (Qe5 key info ((n + 31) / 32)).take n
@[simp] theorem Du (key info : Z4) (n : Nat) : (Wv key info n).length = n := by unfold Wv; rw [List.length_take, Qj0]; omega
def Qit (n : Int) : Bool := decide (n < 0) || decide (8160 < n)
def Qek (n : Int) : Int := if Qit n then 2 else 0
def Rh (key info : Z4) (n : Int) : Z4 := if Qit n then [] else Wv key info n.toNat
theorem Qh9 (a b c : Value) (x y z : Z4) : Vm [(a, x), (b, y), (c, z)] = x ++ y ++ z := by simp [Vm]
theorem Quw (k : Nat) : aV 8 (k + 1) + 1#8 = aV 8 (k + 1 + 1) := by simp [BitVec.ofNat_add]
theorem byte_int (k : Nat) : BitVec.ofInt 8 (((k + 1 : Nat)) : Int) = aV 8 (k + 1) := BitVec.ofInt_natCast 8 (k + 1)
def Qof (salt : Z4) : Z4 := if salt.length = 0 then aA 32 0 else salt
def Kw (salt secret : Z4) : Z4 := Xc (Qof salt) secret
@[simp] theorem Qu1 (salt secret : Z4) : (Kw salt secret).length = 32 := V6 _ _
attribute [local irreducible] Xc tK Qe5
set_option maxHeartbeats 1000000 in
theorem c_expand (key : Z4) (vi : Value) (info : Z4) (n : Int) (w0 : World)  (hT : Tabs (Jd w0)) (hk : key.length = 32) (hri : Rd (Jd w0) u8 vi info) (hli : info.length ≤ 1048576) : Xz prog 95 #[(agg u8 key), vi, (i64 n)] w0 (fun r w1 => ∃ v Hs, r = Value.tuple #[v, i64 (Qek n)] ∧ Z9 u8 5 v (Rh key info n) Hs ∧ Mem w1 (Qs w0) Hs) := by
 refine Qz (args := [(agg u8 key), vi, (i64 n)]) func95 rfl ntmps95 results95 rfl ?_
 have m0 : Mem w0 (Qs w0) [] := aY w0
 refine sR <| Y5 (Z5 (f := u8) (l := key) m0 rfl) fun w1 b3 m1 => Zx J3 <| Zx (i64 0) ?_
 refine rN (Qa (sR ?_))
 refine Zm (i64 n) <| Qd (Xd (b := 0) rfl rfl) <| Zm (bl (decide (n < 0))) ?_
 rcases Bool.eq_false_or_eq_true (decide (n < 0)) with hb2 | hb2
 ·
  have hb2p := of_decide_eq_true hb2
  refine Fe (s := 14) rfl rfl hb2 rfl <| Fe (s := 14) rfl rfl hb2 rfl <| Qd (G6 rfl hb2 rfl) <| rN <| Za rfl Yx <| sR <| Zx J3 <| Zx (i64 2) ?_
  refine rN (Z8 (Yz ?_))
  refine Qq [J3, (i64 2)] ⟨rfl, rfl, trivial⟩ ?_
  have hbad : Qit n = true := by simp [Qit]; omega
  have m3 := aF [_] _ m1
  exact ⟨Value.slice none 0 0, [], by unfold Qek; rw [if_pos hbad]; rfl, by unfold Rh; rw [if_pos hbad]; exact Z9.none _ _, m3⟩
 ·
  have hb2p := of_decide_eq_false hb2
  refine Yf (s := 14) rfl rfl hb2 rfl (Jb (v := (i64 n)) rfl) <| Yf (s := 14) rfl rfl hb2 rfl (G7 (b := 8160) rfl rfl) <| Qd (Wn rfl hb2 rfl) <| rN ?_
  refine Zz rfl (fun hc4 => ?_) (fun hc4 => ?_)
  ·
   have hc4p := of_decide_eq_true hc4
   refine sR <| Zx J3 <| Zx (i64 2) ?_
   refine rN (Z8 (Yz ?_))
   refine Qq [J3, (i64 2)] ⟨rfl, rfl, trivial⟩ ?_
   have hbad : Qit n = true := by simp [Qit]; omega
   have m5 := aF [_] _ m1
   exact ⟨Value.slice none 0 0, [], by unfold Qek; rw [if_pos hbad]; rfl, by unfold Rh; rw [if_pos hbad]; exact Z9.none _ _, m5⟩
  ·
   have hc4p := of_decide_eq_false hc4
   refine Qo (Qc (sR ?_))
   refine Zm (i64 n) <| Qd (Zg (b := 32) rfl rfl oM oM) <| Y5 (Az m1 Zn Yr rfl rfl oM oM oM oM) fun w6 b20 m6 => ?_
   rw [Tz u8 0 rfl] at m6
   obtain ⟨Hs6, m6, g6⟩ : ∃ Hs, Mem w6 (Qs w0) (Hs ++ [(b3, .cells (cl u8 key) 23 (0, 0))]) ∧ Z9 u8 5 (Wi b20 0 0 ((n + 32 : Int).toNat)) [] Hs := ⟨_, m6, Z9.made0 u8 5 b20 (0 : BitVec 8) ((n + 32 : Int).toNat)⟩
   refine Zx (Wi b20 0 0 ((n + 32 : Int).toNat)) ?_
   refine rN (sR ?_)
   refine Zx J3 ?_
   refine rN (Qa (sR ?_))
   refine Zx (u8 1#8) ?_
   refine rN (Qh ?_)
   refine Y1 (fun g wv => ∃ (k : Nat) (ol : Z4) (so : Value) (Ho : List (Nat × Obj)) (vl : Value) (Hl : List (Nat × Obj)), (k = 0 ∨ 32 * ((k : Int) - 1) < n) ∧ (ol = Qe5 key info k) ∧ (Z9 u8 5 so ol Ho) ∧ (Z9 u8 23 vl (tK key info k) Hl) ∧ g 0 = (agg u8 key) ∧ g 1 = vi ∧ g 2 = (i64 n) ∧ g 3 = (ptr b3 0) ∧ g 6 = J3 ∧ g 7 = (i64 0) ∧ g 8 = so ∧ g 9 = vl ∧ g 10 = (u8 (aV 8 (k + 1))) ∧ g 17 = (bl (decide (8160 < n))) ∧ Mem wv (Qs w0) (Ho ++ (Hl ++ ([(b3, .cells (cl u8 key) 23 (0, 0))])))) (fun g wv => n.toNat + 1 - sllen (g 8)) ?_ ?_
   ·exact ⟨0, [], (Wi b20 0 0 ((n + 32 : Int).toNat)), Hs6, J3, [], (.inl rfl), (Qlr _ _).symm, g6, ((Qr5 key info).symm ▸ Z9.none u8 23), rfl, rfl, rfl, rfl, rfl, rfl, rfl, rfl, rfl, rfl, m6⟩
   rintro fr7 w8 ⟨k, ol, so, Ho, vl, Hl, hk0, hol, goo, gvl, s0, s1, s2, s3, s6, s7, s8, s9, s10, s17, m8⟩
   have z8 := s8
   have z9 := s9
   have z10 := s10
   have holn : ol.length = 32 * k := by rw [hol, Qj0]
   have htl := tK_le key info k
   refine Qa (sR ?_)
   refine X9 s8 <| Qd (Yi (goo.rd m8) Zn rfl) <| X9 s2 <| Qd (Xd rfl rfl) <| rN ?_
   refine Zz rfl (fun hc9 => ?_) (fun hc9 => ?_)
   ·
    have hc9p := of_decide_eq_true hc9
    refine Qo (Qc (Qa (Qh (sR ?_))))
    refine Qd (Xj (i := 0) (j := 32) Xn Yr s3 (Zd _ _) (Zd _ _) oM sD sD) <| X9 s9 <| X9 s1 <| X9 s10 <| Y5 (Qp u8 [aV 8 (k + 1)] Qr m8 Zn Yr rfl rfl rfl) fun w10 b31 m10 => Y5 (Kv [vl, vi, (Wi b31 0 1 1)] (List.all_eq_true.1 (X0 gvl.one (X0 (Rd.one (aK hri m10)) (X0 rfl J6)))) m10 Qik Qay rfl rfl rfl) fun w11 b32 m11 => ?_
    have m11 : Mem w11 (Qs w0) ([(b32, .cells #[vl, vi, (Wi b31 0 1 1)] 27 (0, 0)), (b31, .cells (cl u8 ([aV 8 (k + 1)])) 5 (0, 0))] ++ (Ho ++ (Hl ++ ([(b3, .cells (cl u8 key) 23 (0, 0))])))) := m11
    refine U5 m11 (oc59 (Xl rfl rfl) (Qbj (sla b3 0 1 0 32 32) key (Wi b32 0 3 3) ([(vl, tK key info k), (vi, info), ((Wi b31 0 1 1), [aV 8 (k + 1)])]) _ (hT.mono fun b o e => (m11).rest b o e) (bT ((ai [_, _] Ho Hl [_] _ m11)).h0 sD) sD (bG (f := Prod.fst) (l := [(vl, tK key info k), (vi, info), ((Wi b31 0 1 1), [aV 8 (k + 1)])]) m11.h0) (Ee (gvl.rd (aN [_, _] Ho Hl _ m11)) (Ee (aK hri m11) (Ee (bG m11.h1) Lh))) (by rw [Qh9]; simp only [ag, List.length_cons, List.length_nil]; omega) sD)) fun w12 m12 => Y5 (Q7 m12 Zh) fun w14 b11 m14 => Ye m14 (Qg (f := u8) (l := Xc key (Vm ([(vl, tK key info k), (vi, info), ((Wi b31 0 1 1), [aV 8 (k + 1)])]))) Qr Zh rfl rfl sD m14.h0 sZ rfl) fun w15 m15 => ?_
    refine rN (sR ?_)
    refine Qd (Xj (i := 0) (j := 32) Xn Yr rfl (Zd _ _) (Zd _ _) oM sD sD) <| Zx (sla b11 0 1 0 32 32) ?_
    refine rN (Qb ?_)
    refine X9 s8 <| Zm (sla b11 0 1 0 32 32) <| Vr (Xh (f := u8) (Hs := Ho) (H := [_, _, _] ++ (Hl ++ ([_]))) (aC [_, _, _] Ho _ m15) goo rfl rfl (bT m15.h0 sD) Zn Zn Yr rfl Qr sD sD) ?_
    rintro sv16 w16 ⟨Hs16, m16, g16⟩
    replace g16 : Z9 u8 5 sv16 (ol ++ (Xc key (Vm ([(vl, tK key info k), (vi, info), ((Wi b31 0 1 1), [aV 8 (k + 1)])])))) Hs16 := g16
    refine Zx sv16 ?_
    refine Zp (Qe ?_)
    have m17 := aF [_] _ (aN Hs16 [_] [_] _ m16)
    have m18 := aF [_] _ (aN Hs16 [_] [_] _ m17)
    have m19 := aF Hl _ (aN Hs16 [_] Hl _ m18)
    refine Qb <| X9 s10 <| Qd (Ql4 (b := 1#8) rfl rfl) <| Zx (u8 ((aV 8 (k + 1)) + 1#8)) <| rN ?_
    have htn : Xc key (Vm ([(vl, tK key info k), (vi, info), ((Wi b31 0 1 1), [aV 8 (k + 1)])])) = tK key info (k + 1) := by rw [Qiv, Qh9]
    exact ⟨⟨k + 1, ol ++ (Xc key (Vm ([(vl, tK key info k), (vi, info), ((Wi b31 0 1 1), [aV 8 (k + 1)])]))), sv16, Hs16, (sla b11 0 1 0 32 32), [(b11, .cells (cl u8 (Xc key (Vm ([(vl, tK key info k), (vi, info), ((Wi b31 0 1 1), [aV 8 (k + 1)])])))) 23 (0, 0))], (.inr oM), (by rw [Qha, ← htn, hol]), g16, (htn ▸ (by have e : sla b11 0 1 0 32 32 = Wi b11 0 32 32 := Qn8 Yx; rw [e]; exact Z9.ofE u8 23 b11 _ (by rw [V6]))), s0, s1, s2, s3, s6, s7, rfl, rfl, (congrArg u8 (Quw k)), s17, m19⟩, (by show n.toNat + 1 - sllen sv16 < n.toNat + 1 - sllen _; rw [z8, goo.sllen, Z9.sllen g16]; simp only [ag, V6]; omega)⟩
   ·
    have hc9p := of_decide_eq_false hc9
    refine X3 ?_
    refine Qj (Qj (Xk ?_))
    refine Qa ?_
    have hbad : Qit n = false := by simp [Qit]; omega
    have hkn : k = (n.toNat + 31) / 32 := by omega
    refine Qb <| X9 s8 <| X9 s2 <| X9 s2 <| Qd (Qnk (j := n) (goo.rd m8) Zn Yr rfl rfl rfl oM sD) <| Zx (Qhv so 0 n n) <| Zx (i64 0) ?_
    refine rN (Z8 ?_)
    refine Qq [(Qhv so 0 n n), (i64 0)] ⟨rfl, rfl, trivial⟩ ?_
    have m20 := aF Hl _ (aC Ho Hl _ m8)
    have m21 := aF [_] _ (aC Ho [_] _ m20)
    exact ⟨_, Ho, by unfold Qek; rw [if_neg (by rw [hbad]; decide)]; rfl, by unfold Rh Wv; rw [if_neg (by rw [hbad]; decide), ← hkn, ← hol]; exact (Z9.cut (j := n) goo oM sD), by simpa using m21⟩
theorem Quu (va : Value) (la : Z4) (vb : Value) (lb : Z4) (w0 : World)  (hT : Tabs (Jd w0)) (hra : Rd (Jd w0) u8 va la) (hla : la.length ≤ 1048576) (hrb : Rd (Jd w0) u8 vb lb) (hlb : lb.length ≤ 1048576) : Xz prog 96 #[va, vb] w0 (fun r w1 => r = (agg u8 (Kw la lb)) ∧ Ext w0 w1) := by
 refine Qz (args := [va, vb]) func96 rfl ntmps96 results96 rfl ?_
 have m0 : Mem w0 (Qs w0) [] := aY w0
 refine sR <| Y5 (Q7 m0 Zh) fun w1 b4 m1 => ?_
 refine rN (Qa (sR ?_))
 refine Zm va <| Qd (Yi (aK hra m1) Zn rfl) <| Qd (G8 (b := 0) rfl rfl) <| rN ?_
 refine Zz rfl (fun hc2 => ?_) (fun hc2 => ?_)
 ·
  have hc2p := eq_of_beq hc2
  refine Qb <| Y5 (Az m1 Zn Yr rfl rfl oM oM oM oM) fun w3 b8 m3 => ?_
  rw [Tz u8 0 rfl] at m3
  have m3 : Mem w3 (Qs w0) [(b8, .cells (cl u8 (aA 32 (0 : BitVec 8))) 5 (0, 0)), (b4, .cells (cl u8 (aA 32 0)) 23 (0, 0))] := m3
  refine Zx (Wi b8 0 32 32) ?_
  refine rN (sR ?_)
  refine Zm (Wi b8 0 32 32) <| Zm vb <| Y5 (Kv [vb] (List.all_eq_true.1 (X0 (Rd.one (aK hrb m3)) J6)) m3 Qik Qay rfl rfl rfl) fun w4 b11 m4 => ?_
  have m4 : Mem w4 (Qs w0) [(b11, .cells #[vb] 27 (0, 0)), (b8, .cells (cl u8 (aA 32 (0 : BitVec 8))) 5 (0, 0)), (b4, .cells (cl u8 (aA 32 0)) 23 (0, 0))] := m4
  refine U5 m4 (oc59 (Xl rfl rfl) (Qbj (Wi b8 0 32 32) (aA 32 (0 : BitVec 8)) (Wi b11 0 1 1) ([(vb, lb)]) _ (hT.mono fun b o e => (m4).rest b o e) (Rd.mkE m4.h1 sD) sD (bG (f := Prod.fst) (l := [(vb, lb)]) m4.h0) (Ee (aK hrb m4) Lh) (by rw [Qab]; omega) sD)) fun w5 m5 => Bj m5 (Qg (f := u8) (l := Xc (aA 32 (0 : BitVec 8)) (Vm ([(vb, lb)]))) Qr Zh rfl rfl sD m5.h2 sZ rfl) fun w7 m7 => ?_
  refine rN (Z8 ?_)
  refine Qq [(agg u8 (Xc (aA 32 (0 : BitVec 8)) (Vm ([(vb, lb)]))))] ⟨⟨_, rfl, Xm Xn rfl Zh m7.h2 sZ⟩, trivial⟩ ?_
  exact ⟨congrArg (agg u8) (by unfold Kw Qof; rw [Qab, if_pos oM]), m7.toExt⟩
 ·
  have hc2p := ne_of_beq_false hc2
  refine Qo (Qc (sR ?_))
  refine Zm va <| Zm vb <| Y5 (Kv [vb] (List.all_eq_true.1 (X0 (Rd.one (aK hrb m1)) J6)) m1 Qik Qay rfl rfl rfl) fun w8 b11_1 m8 => ?_
  have m8 : Mem w8 (Qs w0) [(b11_1, .cells #[vb] 27 (0, 0)), (b4, .cells (cl u8 (aA 32 0)) 23 (0, 0))] := m8
  refine U5 m8 (oc59 (Xl rfl rfl) (Qbj va la (Wi b11_1 0 1 1) ([(vb, lb)]) _ (hT.mono fun b o e => (m8).rest b o e) (aK hra m8) sD (bG (f := Prod.fst) (l := [(vb, lb)]) m8.h0) (Ee (aK hrb m8) Lh) (by rw [Qab]; omega) sD)) fun w9 m9 => Vs m9 (Qg (f := u8) (l := Xc la (Vm ([(vb, lb)]))) Qr Zh rfl rfl sD m9.h1 sZ rfl) fun w11 m11 => ?_
  refine rN (Z8 ?_)
  refine Qq [(agg u8 (Xc la (Vm ([(vb, lb)]))))] ⟨⟨_, rfl, Xm Xn rfl Zh m11.h1 sZ⟩, trivial⟩ ?_
  exact ⟨congrArg (agg u8) (by unfold Kw Qof; rw [Qab, if_neg oM]), m11.toExt⟩
theorem Qro (va : Value) (la : Z4) (vb : Value) (lb : Z4) (w0 : World)  (hra : Rd (Jd w0) u8 va la) (hla : la.length ≤ 1048576) (hrb : Rd (Jd w0) u8 vb lb) (hlb : lb.length ≤ 1048576) : Xz prog 93 #[va, vb] w0 (fun r w1 => r = (agg u8 (Kw la lb)) ∧ Ext w0 w1) := by
 refine Qz (args := [va, vb]) func93 rfl ntmps93 results93 rfl ?_
 have m0 : Mem w0 (Qs w0) [] := aY w0
 refine sR <| Y5 (Q7 m0 Zh) fun w1 b4 m1 => ?_
 refine rN (Qa (sR ?_))
 refine Zm va <| Qd (Yi (aK hra m1) Zn rfl) <| Qd (G8 (b := 0) rfl rfl) <| rN ?_
 refine Zz rfl (fun hc2 => ?_) (fun hc2 => ?_)
 ·
  have hc2p := eq_of_beq hc2
  refine sR <| Y5 (Az m1 Zn Yr rfl rfl oM oM oM oM) fun w3 b8 m3 => ?_
  rw [Tz u8 0 rfl] at m3
  have m3 : Mem w3 (Qs w0) [(b8, .cells (cl u8 (aA 32 (0 : BitVec 8))) 5 (0, 0)), (b4, .cells (cl u8 (aA 32 0)) 23 (0, 0))] := m3
  refine Zm vb <| U5 m3 (oc69 (Xl rfl rfl) (Tt (Wi b8 0 32 32) (aA 32 (0 : BitVec 8)) vb lb _ (Rd.mkE m3.h0 sD) sD (aK hrb m3) sD)) fun w4 m4 => Vs m4 (Qg (f := u8) (l := Xc (aA 32 (0 : BitVec 8)) lb) Qr Zh rfl rfl sD m4.h1 sZ rfl) fun w6 m6 => ?_
  refine rN (Z8 (Yz ?_))
  refine Qq [(agg u8 (Xc (aA 32 (0 : BitVec 8)) lb))] ⟨⟨_, rfl, Xm Xn rfl Zh m6.h1 sZ⟩, trivial⟩ ?_
  exact ⟨congrArg (agg u8) (by unfold Kw Qof; rw [if_pos oM]), m6.toExt⟩
 ·
  have hc2p := ne_of_beq_false hc2
  refine Qo (Qc (sR ?_))
  refine Zm va <| Zm vb <| U5 m1 (oc69 (Xl rfl rfl) (Tt va la vb lb _ (aK hra m1) sD (aK hrb m1) sD)) fun w7 m7 => Ye m7 (Qg (f := u8) (l := Xc la lb) Qr Zh rfl rfl sD m7.h0 sZ rfl) fun w9 m9 => ?_
  refine rN (Z8 ?_)
  refine Qq [(agg u8 (Xc la lb))] ⟨⟨_, rfl, Xm Xn rfl Zh m9.h0 sZ⟩, trivial⟩ ?_
  exact ⟨congrArg (agg u8) (by unfold Kw Qof; rw [if_neg oM]), m9.toExt⟩
end --m
end Go.Proofs.YtkmiemlpfkfiiaaDoor
