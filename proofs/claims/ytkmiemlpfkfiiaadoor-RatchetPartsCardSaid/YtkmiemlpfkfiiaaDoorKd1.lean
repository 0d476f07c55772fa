/- Contracts: kdf, first part. Conditions: none beyond those that each theorem states. -/
import Derived.Test.YtkmiemlpfkfiiaaDoorHa6
import Derived.Test.YtkmiemlpfkfiiaaDoorFwP
namespace Go.Proofs.YtkmiemlpfkfiiaaDoor
open Tryd
section
set_option linter.unusedVariables false
set_option linter.unusedSimpArgs false
theorem mask_map {key K : Xg} {bb : BitVec 8} (hK : K = Qay key ++ List.replicate (64 - (Qay key).length) 0) : (List.range 64).map (fun j => K.getD j 0 ^^^ bb) = Vh key bb := by
 have hle := Qh5 key
 have e : K.length = 64 := by rw [hK]; simp; omega
 have h := Qni (fun x => x ^^^ bb) K 0
 rw [e] at h
 rw [h, hK]; rfl
theorem Qaa (v : Value) (l : Xg) : Vu [(v, l)] = l := by simp [Vu]
attribute [local irreducible] U4 Df Vh Xk
set_option maxHeartbeats 1000000 in
theorem Tq (vb : Value) (l : Xg) (vc : Value) (m : Xg) (w0 : World)  (hr : Rd (Jl w0) u8 vb l) (hl : l.length ≤ 1099511627776) (hrm : Rd (Jl w0) u8 vc m) (hm : m.length ≤ 1099511627776) : X9 prog 69 #[vb, vc] w0 (fun r w1 => r = (agg u8 (Xk l m)) ∧ Ext w0 w1) := by
 refine Zb (args := [vb, vc]) func69 rfl ntmps69 results69 rfl ?_
 have m0 : Mem w0 (Qu w0) [] := Mem.of_world w0
 refine sR <| Y9 (Zc m0 Zl) fun w1 b4 m1 => ?_
 refine rN (sR ?_)
 refine Y9 (Qw u8 [] Qy m1 Zu Y0 rfl (by simp [Ac]) rfl) fun w2 b11 m2 => Zp vb <| Vy (Xp (f := u8) (Hs := [(b11, .cells (cl u8 ([])) 5 (0, 0))]) (H := [_]) m2 (Xe.of u8 5 b11 ([])) rfl rfl (Rd.ofRest hr m2) Zu Zu Y0 rfl Qy sD sD) ?_
 rintro sv3 w3 ⟨Hs3, m3, g3⟩
 replace g3 : Xe u8 5 sv3 l Hs3 := g3
 refine Zz sv3 ?_
 refine rN (Qa (sR ?_))
 refine Zp vb <| Qd (Yl (Rd.ofRest hr m3) Zu rfl) <| Qd (Gm (b := 64) rfl rfl) <| rN ?_
 refine Bq (J := fun g wv => ∃ (sk : Value) (Hk : List (Nat × Obj)), (Xe u8 5 sk (Qay l) Hk) ∧ g 0 = vb ∧ g 1 = vc ∧ g 4 = (ptr b4 0) ∧ g 5 = sk ∧ g 16 = (bl (decide (64 < (l.length : Int)))) ∧ Mem wv (Qu w0) (Hk ++ ([(b4, .cells (cl u8 (List.replicate 32 0)) 23 (0, 0))]))) ?_ ?_
 ·skip
  refine Z8 rfl (fun hc4 => ?_) (fun hc4 => ?_)
  ·
   have hc4p := of_decide_eq_true hc4
   refine sR <| Zp vb <| U9 m3 (oc91 (Kt rfl) (Qps vb l _ (Rd.ofRest hr m3) sD)) fun w5 m5 => Y9 (Zc m5 Zl) fun w7 b6 m7 => Ye m7 (Qj (f := u8) (l := U4 l) Qy Zl rfl rfl sD m7.h0 sZ rfl) fun w8 m8 => ?_
   refine rN (Qb ?_)
   refine Y9 (Qw u8 [] Qy m8 Zu Y0 rfl (by simp [Ac]) rfl) fun w9 b19 m9 => Qd (Xo (i := 0) (j := 32) Xq Y0 rfl (Zi _ _) (Zi _ _) oM sD sD) <| Vy (Xp (f := u8) (Hs := [(b19, .cells (cl u8 ([])) 5 (0, 0))]) (H := [_] ++ (Hs3 ++ ([_]))) m9 (Xe.of u8 5 b19 ([])) rfl rfl (Rd.slaAll m9.h1 sD) Zu Zu Y0 rfl Qy sD sD) ?_
   rintro sv10 w10 ⟨Hs10, m10, g10⟩
   replace g10 : Xe u8 5 sv10 (U4 l) Hs10 := g10
   refine Zz sv10 <| rN ?_
   have hK : Qay l = U4 l := by unfold Qay; rw [if_pos oM]
   have m11 := Mem.drop [_] _ (Mem.pick Hs10 [_] _ m10)
   have m12 := Mem.drop Hs3 _ (Mem.pick Hs10 Hs3 _ m11)
   exact ⟨sv10, Hs10, (Xe.cast g10 hK.symm), rfl, rfl, rfl, rfl, rfl, m12⟩
  ·
   have hc4p := of_decide_eq_false hc4
   refine Qs (Qc ?_)
   have hK : Qay l = l := by unfold Qay; rw [if_neg oM]
   exact ⟨sv3, Hs3, (Xe.cast g3 hK.symm), rfl, rfl, rfl, rfl, rfl, m3⟩
 rintro fr13 w14 ⟨sk, Hk, gk, s0, s1, s4, s5, s16, m14⟩
 have hle := Qh5 l
 refine Qa (Qk ?_)
 refine Y7 (fun g wv => ∃ (k : Nat) (kl : Xg) (sk2 : Value) (Hk2 : List (Nat × Obj)), (k ≤ 64 - (Qay l).length) ∧ (kl = Qay l ++ List.replicate k 0) ∧ (Xe u8 5 sk2 kl Hk2) ∧ g 0 = vb ∧ g 1 = vc ∧ g 4 = (ptr b4 0) ∧ g 5 = sk2 ∧ g 16 = (bl (decide (64 < (l.length : Int)))) ∧ Mem wv (Qu w0) (Hk2 ++ ([(b4, .cells (cl u8 (List.replicate 32 0)) 23 (0, 0))]))) (fun g wv => 66 - sllen (g 5)) ?_ ?_
 ·exact ⟨0, (Qay l), sk, Hk, oM, X7, gk, s0, s1, s4, s5, s16, m14⟩
 rintro fr15 w16 ⟨k, kl, sk2, Hk2, hk, hkl, gk2, s0, s1, s4, s5, s16, m16⟩
 have z5 := s5
 have hkn : kl.length = (Qay l).length + k := by rw [hkl]; simp
 refine Qa (sR ?_)
 refine Ya s5 <| Qd (Yl (gk2.rd m16) Zu rfl) <| Qd (Z9 (b := 64) rfl rfl) <| rN ?_
 refine Z8 rfl (fun hc17 => ?_) (fun hc17 => ?_)
 ·
  have hc17p := of_decide_eq_true hc17
  refine Qs (Qc (V5 (Qb ?_)))
  refine Ya s5 <| Y9 (Qw u8 [0#8] Qy m16 Zu Y0 rfl rfl rfl) fun w18 b26 m18 => Vy (Xp (f := u8) (Hs := Hk2) (H := [_, _]) (Mem.pick [_] Hk2 _ m18) gk2 rfl rfl (Rd.mkA m18.h0) Zu Zu Y0 rfl Qy sD sD) ?_
  rintro sv19 w19 ⟨Hs19, m19, g19⟩
  replace g19 : Xe u8 5 sv19 (kl ++ ([0#8])) Hs19 := g19
  refine Zz sv19 ?_
  refine Zv (Qh (Qc ?_))
  have m20 := Mem.drop [_] _ (Mem.pick Hs19 [_] _ m19)
  exact ⟨⟨k + 1, kl ++ ([0#8]), sv19, Hs19, oM, (by rw [hkl, List.replicate_succ']; simp), g19, s0, s1, s4, rfl, s16, m20⟩, (by show 66 - sllen sv19 < 66 - sllen _; rw [z5, gk2.sllen, Xe.sllen g19]; simp [hkn]; omega)⟩
 ·
  have hc17p := of_decide_eq_false hc17
  have hkn : kl.length = (Qay l).length + k := by rw [hkl]; simp
  obtain rfl : k = 64 - (Qay l).length := by omega
  have hkl64 : kl.length = 64 := by omega
  have hn0 : True := trivial
  refine X6 ?_
  refine Qm (Qm (Xi ?_))
  refine sR <| Y9 (Qw u8 [] Qy m16 Zu Y0 rfl (by simp [Ac]) rfl) fun w21 b28 m21 => Y9 (Qw u8 [] Qy m21 Zu Y0 rfl (by simp [Ac]) rfl) fun w22 b29 m22 => Zz (Wq b28 0 0 0) <| Zz (Wq b29 0 0 0) ?_
  refine rN (Qa (sR ?_))
  refine Zz (i64 0) ?_
  refine rN (Qk ?_)
  refine Y7 (fun g wv => ∃ (i : Nat) (l7 l8 : Xg) (sv7 sv8 : Value) (H7 H8 : List (Nat × Obj)), (i ≤ 64) ∧ (l7 = (List.range i).map (fun j => kl.getD j 0 ^^^ 54#8)) ∧ (l8 = (List.range i).map (fun j => kl.getD j 0 ^^^ 92#8)) ∧ (Xe u8 5 sv7 l7 H7) ∧ (Xe u8 5 sv8 l8 H8) ∧ g 0 = vb ∧ g 1 = vc ∧ g 4 = (ptr b4 0) ∧ g 5 = sk2 ∧ g 7 = sv7 ∧ g 8 = sv8 ∧ g 9 = (i64 (i : Int)) ∧ g 16 = (bl (decide (64 < (l.length : Int)))) ∧ g 24 = (bl (decide ((kl.length : Int) < 64))) ∧ Mem wv (Qu w0) (H7 ++ (H8 ++ (Hk2 ++ ([(b4, .cells (cl u8 (List.replicate 32 0)) 23 (0, 0))]))))) (fun g wv => (64 - RowKit.intOf (g 9)).toNat) ?_ ?_
  have m23 := (Mem.pick2 [_, _] Hk2 [_] _ m22)
  have m24 := (Mem.pick [_, _, _] Hk2 _ m23)
  have m25 := (Mem.pick2 Hk2 [_] [_] _ m24)
  have m26 := (Mem.pick3 [_] Hk2 [_] [_] _ m25)
  ·exact ⟨0, [], [], (Wq b28 0 0 0), (Wq b29 0 0 0), [(b28, .cells (cl u8 ([])) 5 (0, 0))], [(b29, .cells (cl u8 ([])) 5 (0, 0))], oM, rfl, rfl, (Xe.of u8 5 b28 []), (Xe.of u8 5 b29 []), s0, s1, s4, s5, rfl, rfl, rfl, s16, rfl, m26⟩
  rintro fr27 w28 ⟨i, l7, l8, sv7, sv8, H7, H8, hi, h7, h8, gg7, gg8, s0, s1, s4, s5, s7, s8, s9, s16, s24, m28⟩
  have z9 := s9
  have z7 := s7
  have z8 := s8
  have h7n : l7.length = i ∧ l8.length = i := by rw [h7, h8]; simp
  refine Qa (sR ?_)
  refine Ya s9 <| Qd (Z9 (b := 64) rfl rfl) <| rN ?_
  refine Z8 rfl (fun hc29 => ?_) (fun hc29 => ?_)
  ·
   have hc29p := of_decide_eq_true hc29
   refine Qs (Qc (Qa (Qk (sR ?_))))
   refine Ya s7 <| Ya s5 <| Ya s9 <| Qd (Zw (gk2.rd (Mem.pick2 H7 H8 Hk2 _ m28)) Zu Y0 rfl rfl oM sD) <| Qd (v := (u8 (kl.getD i 0))) (X8 (l := kl) (i := (i : Int)) (dflt := 0) (gk2.rd (Mem.pick2 H7 H8 Hk2 _ m28)) Gl rfl oM sD rfl) <| Qd (Pz (b := 54#8) rfl rfl) <| Y9 (Qw u8 [(kl.getD i 0) ^^^ 54#8] Qy m28 Zu Y0 rfl rfl rfl) fun w30 b40 m30 => Vy (Xp (f := u8) (Hs := H7) (H := [_] ++ (H8 ++ (Hk2 ++ ([_])))) (Mem.pick [_] H7 _ m30) gg7 rfl rfl (Rd.mkA m30.h0) Zu Zu Y0 rfl Qy sD sD) ?_
   rintro sv31 w31 ⟨Hs31, m31, g31⟩
   replace g31 : Xe u8 5 sv31 (l7 ++ ([(kl.getD i 0) ^^^ 54#8])) Hs31 := g31
   refine Zz sv31 ?_
   refine rN (Qb ?_)
   refine Ya s8 <| Ya s5 <| Ya s9 <| Qd (Zw (gk2.rd (Mem.pick3 Hs31 [_] H8 Hk2 _ m31)) Zu Y0 rfl rfl oM sD) <| Qd (v := (u8 (kl.getD i 0))) (X8 (l := kl) (i := (i : Int)) (dflt := 0) (gk2.rd (Mem.pick3 Hs31 [_] H8 Hk2 _ m31)) Gl rfl oM sD rfl) <| Qd (Pz (b := 92#8) rfl rfl) <| Y9 (Qw u8 [(kl.getD i 0) ^^^ 92#8] Qy m31 Zu Y0 rfl rfl rfl) fun w32 b48 m32 => Vy (Xp (f := u8) (Hs := H8) (H := [_] ++ (Hs31 ++ ([_] ++ (Hk2 ++ ([_]))))) (Mem.pick3 [_] Hs31 [_] H8 _ m32) gg8 rfl rfl (Rd.mkA m32.h0) Zu Zu Y0 rfl Qy sD sD) ?_
   rintro sv33 w33 ⟨Hs33, m33, g33⟩
   replace g33 : Xe u8 5 sv33 (l8 ++ ([(kl.getD i 0) ^^^ 92#8])) Hs33 := g33
   refine Zz sv33 ?_
   refine Zv (Qh ?_)
   have m34 := Mem.drop [_] _ (Mem.pick Hs33 [_] _ m33)
   have m35 := Mem.drop [_] _ (Mem.pick2 Hs33 Hs31 [_] _ m34)
   refine Qb <| Ya s9 <| Qd (Zg (b := 1) rfl rfl oM oM) <| Zz (i64 ((i : Int) + 1)) <| rN ?_
   have m36 := (Mem.pick3 Hs33 Hs31 Hk2 [_] _ m35)
   have m37 := (Mem.pick3 [_] Hs33 Hs31 Hk2 _ m36)
   have m38 := (Mem.pick2 Hk2 [_] Hs33 _ m37)
   have m39 := (Mem.pick3 Hs33 Hk2 [_] Hs31 _ m38)
   exact ⟨⟨i + 1, l7 ++ ([(kl.getD i 0) ^^^ 54#8]), l8 ++ ([(kl.getD i 0) ^^^ 92#8]), sv31, sv33, Hs31, Hs33, oM, (by rw [h7]; exact Qem _ _ _ rfl), (by rw [h8]; exact Qem _ _ _ rfl), g31, g33, s0, s1, s4, s5, rfl, rfl, rfl, s16, s24, m39⟩, Uo rfl z9 oM oM⟩
  ·
   have hc29p := of_decide_eq_false hc29
   obtain rfl : i = 64 := by omega
   rw [mask_map hkl] at h7 h8
   have h7n : l7.length = 64 ∧ l8.length = 64 := by rw [h7, h8]; simp
   refine X6 ?_
   refine Qm (Qm (Xi ?_))
   refine sR <| Ya s7 <| Ya s1 <| Vy (Xp (f := u8) (Hs := H7) (H := H8 ++ (Hk2 ++ ([_]))) m28 gg7 rfl rfl (Rd.ofRest hrm m28) Zu Zu Y0 rfl Qy sD sD) ?_
   rintro sv40 w40 ⟨Hs40, m40, g40⟩
   replace g40 : Xe u8 5 sv40 (l7 ++ m) Hs40 := g40
   refine Zz sv40 ?_
   refine rN (sR ?_)
   refine Zp sv40 <| U9 m40 (oc91 (Kt rfl) (Qps sv40 (l7 ++ m) _ (g40.rd m40) sD)) fun w41 m41 => Y9 (Zc m41 Zl) fun w43 b10 m43 => Ye m43 (Qj (f := u8) (l := U4 (l7 ++ m)) Qy Zl rfl rfl sD m43.h0 sZ rfl) fun w44 m44 => ?_
   refine rN (sR ?_)
   refine Ya s8 <| Qd (Xo (i := 0) (j := 32) Xq Y0 rfl (Zi _ _) (Zi _ _) oM sD sD) <| Vy (Xp (f := u8) (Hs := H8) (H := [_] ++ (Hs40 ++ (Hk2 ++ ([_])))) (Mem.pick2 [_] Hs40 H8 _ m44) gg8 rfl rfl (Rd.slaAll m44.h0 sD) Zu Zu Y0 rfl Qy sD sD) ?_
   rintro sv45 w45 ⟨Hs45, m45, g45⟩
   replace g45 : Xe u8 5 sv45 (l8 ++ (U4 (l7 ++ m))) Hs45 := g45
   refine Zz sv45 ?_
   refine rN (sR ?_)
   refine Zp sv45 <| U9 m45 (oc91 (Kt rfl) (Qps sv45 (l8 ++ (U4 (l7 ++ m))) _ (g45.rd m45) sD)) fun w46 m46 => Vk (Qj (f := u8) (l := U4 (l8 ++ (U4 (l7 ++ m)))) Qy Zl s4 rfl sD ((Mem.pick4 Hs45 [_] Hs40 Hk2 [_] _ m46)).h0 sZ rfl) ?_
   rintro _ w48 uq48
   have m48 : Mem _ _ ([_] ++ (Hs45 ++ ([_] ++ (Hs40 ++ (Hk2 ++ ([])))))) := Mem.upd0 (Mem.pick4 Hs45 [_] Hs40 Hk2 [_] _ m46) uq48
   refine rN (Xb ?_)
   refine Qv [(agg u8 (U4 (l8 ++ (U4 (l7 ++ m)))))] ⟨⟨_, s4, Xr Xq rfl Zl m48.h0 sZ⟩, trivial⟩ ?_
   exact ⟨congrArg (agg u8) (by unfold Xk; rw [h7, h8]), m48.toExt⟩
end --m
section
set_option linter.unusedVariables false
set_option linter.unusedSimpArgs false
def tK (key info : Xg) : Nat → Xg
 | 0 => []
 | i + 1 => Xk key (tK key info i ++ info ++ [BitVec.ofNat 8 (i + 1)])
theorem Qp9 (key info : Xg) : tK key info 0 = [] := rfl
theorem Qh1 (key info : Xg) (i : Nat) : tK key info (i + 1) = Xk key (tK key info i ++ info ++ [BitVec.ofNat 8 (i + 1)]) := rfl
theorem tK_le (key info : Xg) (i : Nat) : (tK key info i).length ≤ 32 := by
 cases i with
 | zero => simp [tK]
 | succ i => rw [Qh1, Gi]; omega
theorem tK_len (key info : Xg) (i : Nat) : (tK key info (i + 1)).length = 32 := by rw [Qh1, Gi]
def Qeo (key info : Xg) : Nat → Xg
 | 0 => []
 | i + 1 => Qeo key info i ++ tK key info (i + 1)
theorem Qkt (key info : Xg) : Qeo key info 0 = [] := rfl
theorem Qge (key info : Xg) (i : Nat) : Qeo key info (i + 1) = Qeo key info i ++ tK key info (i + 1) := rfl
theorem Qi3 (key info : Xg) (i : Nat) : (Qeo key info i).length = 32 * i := by
 induction i with
 | zero => rfl
 | succ i ih => rw [Qge, List.length_append, ih, tK_len]; omega
def Vd (key info : Xg) (n : Nat) : Xg := (Qeo key info ((n + 31) / 32)).take n
@[simp] theorem Dt (key info : Xg) (n : Nat) : (Vd key info n).length = n := by unfold Vd; rw [List.length_take, Qi3]; omega
def Qhy (n : Int) : Bool := decide (n < 0) || decide (8160 < n)
def Qd3 (n : Int) : Int := if Qhy n then 2 else 0
def Rj (key info : Xg) (n : Int) : Xg := if Qhy n then [] else Vd key info n.toNat
theorem Qhf (a b c : Value) (x y z : Xg) : Vu [(a, x), (b, y), (c, z)] = x ++ y ++ z := by simp [Vu]
theorem Qsd (k : Nat) : BitVec.ofNat 8 (k + 1) + 1#8 = BitVec.ofNat 8 (k + 1 + 1) := by simp [BitVec.ofNat_add]
theorem byte_int (k : Nat) : BitVec.ofInt 8 (((k + 1 : Nat)) : Int) = BitVec.ofNat 8 (k + 1) := BitVec.ofInt_natCast 8 (k + 1)
def Qm4 (salt : Xg) : Xg := if salt.length = 0 then List.replicate 32 0 else salt
def Wn (salt secret : Xg) : Xg := Xk (Qm4 salt) secret
@[simp] theorem Qsi (salt secret : Xg) : (Wn salt secret).length = 32 := Gi _ _
attribute [local irreducible] Xk tK Qeo
set_option maxHeartbeats 1000000 in
theorem c_expand (key : Xg) (vi : Value) (info : Xg) (n : Int) (w0 : World)  (hT : Tabs (Jl w0)) (hk : key.length = 32) (hri : Rd (Jl w0) u8 vi info) (hli : info.length ≤ 1048576) : X9 prog 95 #[(agg u8 key), vi, (i64 n)] w0 (fun r w1 => ∃ v Hs, r = Value.tuple #[v, i64 (Qd3 n)] ∧ Xe u8 5 v (Rj key info n) Hs ∧ Mem w1 (Qu w0) Hs) := by
 refine Zb (args := [(agg u8 key), vi, (i64 n)]) func95 rfl ntmps95 results95 rfl ?_
 have m0 : Mem w0 (Qu w0) [] := Mem.of_world w0
 refine sR <| Y9 (Xa (f := u8) (l := key) m0 rfl) fun w1 b3 m1 => Zz Yj <| Zz (i64 0) ?_
 refine rN (Qa (sR ?_))
 refine Zp (i64 n) <| Qd (Z9 (b := 0) rfl rfl) <| Zp (bl (decide (n < 0))) ?_
 rcases Bool.eq_false_or_eq_true (decide (n < 0)) with hb2 | hb2
 ·
  have hb2p := of_decide_eq_true hb2
  refine W9 (s := 14) rfl rfl hb2 rfl <| W9 (s := 14) rfl rfl hb2 rfl <| Qd (Vm rfl hb2 rfl) <| rN <| Za rfl Jg <| sR <| Zz Yj <| Zz (i64 2) ?_
  refine rN (Xb (Y3 ?_))
  refine Qv [Yj, (i64 2)] ⟨rfl, rfl, trivial⟩ ?_
  have hbad : Qhy n = true := by simp [Qhy]; omega
  have m3 := Mem.drop [_] _ m1
  exact ⟨Value.slice none 0 0, [], by unfold Qd3; rw [if_pos hbad]; rfl, by unfold Rj; rw [if_pos hbad]; exact Xe.none _ _, m3⟩
 ·
  have hb2p := of_decide_eq_false hb2
  refine Z5 (s := 14) rfl rfl hb2 rfl (Yp (v := (i64 n)) rfl) <| Z5 (s := 14) rfl rfl hb2 rfl (Gm (b := 8160) rfl rfl) <| Qd (Y4 rfl hb2 rfl) <| rN ?_
  refine Z8 rfl (fun hc4 => ?_) (fun hc4 => ?_)
  ·
   have hc4p := of_decide_eq_true hc4
   refine sR <| Zz Yj <| Zz (i64 2) ?_
   refine rN (Xb (Y3 ?_))
   refine Qv [Yj, (i64 2)] ⟨rfl, rfl, trivial⟩ ?_
   have hbad : Qhy n = true := by simp [Qhy]; omega
   have m5 := Mem.drop [_] _ m1
   exact ⟨Value.slice none 0 0, [], by unfold Qd3; rw [if_pos hbad]; rfl, by unfold Rj; rw [if_pos hbad]; exact Xe.none _ _, m5⟩
  ·
   have hc4p := of_decide_eq_false hc4
   refine Qs (Qc (sR ?_))
   refine Zp (i64 n) <| Qd (Zg (b := 32) rfl rfl oM oM) <| Y9 (Aw m1 Zu Y0 rfl rfl oM oM oM oM) fun w6 b20 m6 => ?_
   rw [Tv u8 0 rfl] at m6
   obtain ⟨Hs6, m6, g6⟩ : ∃ Hs, Mem w6 (Qu w0) (Hs ++ [(b3, .cells (cl u8 key) 23 (0, 0))]) ∧ Xe u8 5 (Wq b20 0 0 ((n + 32 : Int).toNat)) [] Hs := ⟨_, m6, Xe.made0 u8 5 b20 (0 : BitVec 8) ((n + 32 : Int).toNat)⟩
   refine Zz (Wq b20 0 0 ((n + 32 : Int).toNat)) ?_
   refine rN (sR ?_)
   refine Zz Yj ?_
   refine rN (Qa (sR ?_))
   refine Zz (u8 1#8) ?_
   refine rN (Qk ?_)
   refine Y7 (fun g wv => ∃ (k : Nat) (ol : Xg) (so : Value) (Ho : List (Nat × Obj)) (vl : Value) (Hl : List (Nat × Obj)), (k = 0 ∨ 32 * ((k : Int) - 1) < n) ∧ (ol = Qeo key info k) ∧ (Xe u8 5 so ol Ho) ∧ (Xe u8 23 vl (tK key info k) Hl) ∧ g 0 = (agg u8 key) ∧ g 1 = vi ∧ g 2 = (i64 n) ∧ g 3 = (ptr b3 0) ∧ g 6 = Yj ∧ g 7 = (i64 0) ∧ g 8 = so ∧ g 9 = vl ∧ g 10 = (u8 (BitVec.ofNat 8 (k + 1))) ∧ g 17 = (bl (decide (8160 < n))) ∧ Mem wv (Qu w0) (Ho ++ (Hl ++ ([(b3, .cells (cl u8 key) 23 (0, 0))])))) (fun g wv => n.toNat + 1 - sllen (g 8)) ?_ ?_
   ·exact ⟨0, [], (Wq b20 0 0 ((n + 32 : Int).toNat)), Hs6, Yj, [], (.inl rfl), (Qkt _ _).symm, g6, ((Qp9 key info).symm ▸ Xe.none u8 23), rfl, rfl, rfl, rfl, rfl, rfl, rfl, rfl, rfl, rfl, m6⟩
   rintro fr7 w8 ⟨k, ol, so, Ho, vl, Hl, hk0, hol, goo, gvl, s0, s1, s2, s3, s6, s7, s8, s9, s10, s17, m8⟩
   have z8 := s8
   have z9 := s9
   have z10 := s10
   have holn : ol.length = 32 * k := by rw [hol, Qi3]
   have htl := tK_le key info k
   refine Qa (sR ?_)
   refine Ya s8 <| Qd (Yl (goo.rd m8) Zu rfl) <| Ya s2 <| Qd (Z9 rfl rfl) <| rN ?_
   refine Z8 rfl (fun hc9 => ?_) (fun hc9 => ?_)
   ·
    have hc9p := of_decide_eq_true hc9
    refine Qs (Qc (Qa (Qk (sR ?_))))
    refine Qd (Xo (i := 0) (j := 32) Xq Y0 s3 (Zi _ _) (Zi _ _) oM sD sD) <| Ya s9 <| Ya s1 <| Ya s10 <| Y9 (Qw u8 [BitVec.ofNat 8 (k + 1)] Qy m8 Zu Y0 rfl rfl rfl) fun w10 b31 m10 => Y9 (Ku [vl, vi, (Wq b31 0 1 1)] (List.all_eq_true.1 (X4 gvl.one (X4 (Rd.one (Rd.ofRest hri m10)) (X4 rfl Kw)))) m10 Qbi Pg rfl rfl rfl) fun w11 b32 m11 => ?_
    have m11 : Mem w11 (Qu w0) ([(b32, .cells #[vl, vi, (Wq b31 0 1 1)] 27 (0, 0)), (b31, .cells (cl u8 ([BitVec.ofNat 8 (k + 1)])) 5 (0, 0))] ++ (Ho ++ (Hl ++ ([(b3, .cells (cl u8 key) 23 (0, 0))])))) := m11
    refine U9 m11 (oc59 (Xm rfl rfl) (Qbh (sla b3 0 1 0 32 32) key (Wq b32 0 3 3) ([(vl, tK key info k), (vi, info), ((Wq b31 0 1 1), [BitVec.ofNat 8 (k + 1)])]) _ (hT.mono fun b o e => (m11).rest b o e) (Rd.slaAll ((Mem.pick3 [_, _] Ho Hl [_] _ m11)).h0 sD) sD (Rd.mkA (f := Prod.fst) (l := [(vl, tK key info k), (vi, info), ((Wq b31 0 1 1), [BitVec.ofNat 8 (k + 1)])]) m11.h0) (Ef (gvl.rd (Mem.pick2 [_, _] Ho Hl _ m11)) (Ef (Rd.ofRest hri m11) (Ef (Rd.mkA m11.h1) Ll))) (by rw [Qhf]; simp only [List.length_append, List.length_cons, List.length_nil]; omega) sD)) fun w12 m12 => Y9 (Zc m12 Zl) fun w14 b11 m14 => Ye m14 (Qj (f := u8) (l := Xk key (Vu ([(vl, tK key info k), (vi, info), ((Wq b31 0 1 1), [BitVec.ofNat 8 (k + 1)])]))) Qy Zl rfl rfl sD m14.h0 sZ rfl) fun w15 m15 => ?_
    refine rN (sR ?_)
    refine Qd (Xo (i := 0) (j := 32) Xq Y0 rfl (Zi _ _) (Zi _ _) oM sD sD) <| Zz (sla b11 0 1 0 32 32) ?_
    refine rN (Qb ?_)
    refine Ya s8 <| Zp (sla b11 0 1 0 32 32) <| Vy (Xp (f := u8) (Hs := Ho) (H := [_, _, _] ++ (Hl ++ ([_]))) (Mem.pick [_, _, _] Ho _ m15) goo rfl rfl (Rd.slaAll m15.h0 sD) Zu Zu Y0 rfl Qy sD sD) ?_
    rintro sv16 w16 ⟨Hs16, m16, g16⟩
    replace g16 : Xe u8 5 sv16 (ol ++ (Xk key (Vu ([(vl, tK key info k), (vi, info), ((Wq b31 0 1 1), [BitVec.ofNat 8 (k + 1)])])))) Hs16 := g16
    refine Zz sv16 ?_
    refine Zv (Qh ?_)
    have m17 := Mem.drop [_] _ (Mem.pick2 Hs16 [_] [_] _ m16)
    have m18 := Mem.drop [_] _ (Mem.pick2 Hs16 [_] [_] _ m17)
    have m19 := Mem.drop Hl _ (Mem.pick2 Hs16 [_] Hl _ m18)
    refine Qb <| Ya s10 <| Qd (Qk7 (b := 1#8) rfl rfl) <| Zz (u8 ((BitVec.ofNat 8 (k + 1)) + 1#8)) <| rN ?_
    have htn : Xk key (Vu ([(vl, tK key info k), (vi, info), ((Wq b31 0 1 1), [BitVec.ofNat 8 (k + 1)])])) = tK key info (k + 1) := by rw [Qh1, Qhf]
    exact ⟨⟨k + 1, ol ++ (Xk key (Vu ([(vl, tK key info k), (vi, info), ((Wq b31 0 1 1), [BitVec.ofNat 8 (k + 1)])]))), sv16, Hs16, (sla b11 0 1 0 32 32), [(b11, .cells (cl u8 (Xk key (Vu ([(vl, tK key info k), (vi, info), ((Wq b31 0 1 1), [BitVec.ofNat 8 (k + 1)])])))) 23 (0, 0))], (.inr oM), (by rw [Qge, ← htn, hol]), g16, (htn ▸ (by have e : sla b11 0 1 0 32 32 = Wq b11 0 32 32 := Qmx Jg; rw [e]; exact Xe.ofE u8 23 b11 _ (by rw [Gi]))), s0, s1, s2, s3, s6, s7, rfl, rfl, (congrArg u8 (Qsd k)), s17, m19⟩, (by show n.toNat + 1 - sllen sv16 < n.toNat + 1 - sllen _; rw [z8, goo.sllen, Xe.sllen g16]; simp only [List.length_append, Gi]; omega)⟩
   ·
    have hc9p := of_decide_eq_false hc9
    refine X6 ?_
    refine Qm (Qm (Xi ?_))
    refine Qa ?_
    have hbad : Qhy n = false := by simp [Qhy]; omega
    have hkn : k = (n.toNat + 31) / 32 := by omega
    refine Qb <| Ya s8 <| Ya s2 <| Ya s2 <| Qd (Qmc (j := n) (goo.rd m8) Zu Y0 rfl rfl rfl oM sD) <| Zz (Qg3 so 0 n n) <| Zz (i64 0) ?_
    refine rN (Xb ?_)
    refine Qv [(Qg3 so 0 n n), (i64 0)] ⟨rfl, rfl, trivial⟩ ?_
    have m20 := Mem.drop Hl _ (Mem.pick Ho Hl _ m8)
    have m21 := Mem.drop [_] _ (Mem.pick Ho [_] _ m20)
    exact ⟨_, Ho, by unfold Qd3; rw [if_neg (by rw [hbad]; decide)]; rfl, by unfold Rj Vd; rw [if_neg (by rw [hbad]; decide), ← hkn, ← hol]; exact (Xe.cut (j := n) goo oM sD), by simpa using m21⟩
theorem Qsb (va : Value) (la : Xg) (vb : Value) (lb : Xg) (w0 : World)  (hT : Tabs (Jl w0)) (hra : Rd (Jl w0) u8 va la) (hla : la.length ≤ 1048576) (hrb : Rd (Jl w0) u8 vb lb) (hlb : lb.length ≤ 1048576) : X9 prog 96 #[va, vb] w0 (fun r w1 => r = (agg u8 (Wn la lb)) ∧ Ext w0 w1) := by
 refine Zb (args := [va, vb]) func96 rfl ntmps96 results96 rfl ?_
 have m0 : Mem w0 (Qu w0) [] := Mem.of_world w0
 refine sR <| Y9 (Zc m0 Zl) fun w1 b4 m1 => ?_
 refine rN (Qa (sR ?_))
 refine Zp va <| Qd (Yl (Rd.ofRest hra m1) Zu rfl) <| Qd (Fb (b := 0) rfl rfl) <| rN ?_
 refine Z8 rfl (fun hc2 => ?_) (fun hc2 => ?_)
 ·
  have hc2p := eq_of_beq hc2
  refine Qb <| Y9 (Aw m1 Zu Y0 rfl rfl oM oM oM oM) fun w3 b8 m3 => ?_
  rw [Tv u8 0 rfl] at m3
  have m3 : Mem w3 (Qu w0) [(b8, .cells (cl u8 (List.replicate 32 (0 : BitVec 8))) 5 (0, 0)), (b4, .cells (cl u8 (List.replicate 32 0)) 23 (0, 0))] := m3
  refine Zz (Wq b8 0 32 32) ?_
  refine rN (sR ?_)
  refine Zp (Wq b8 0 32 32) <| Zp vb <| Y9 (Ku [vb] (List.all_eq_true.1 (X4 (Rd.one (Rd.ofRest hrb m3)) Kw)) m3 Qbi Pg rfl rfl rfl) fun w4 b11 m4 => ?_
  have m4 : Mem w4 (Qu w0) [(b11, .cells #[vb] 27 (0, 0)), (b8, .cells (cl u8 (List.replicate 32 (0 : BitVec 8))) 5 (0, 0)), (b4, .cells (cl u8 (List.replicate 32 0)) 23 (0, 0))] := m4
  refine U9 m4 (oc59 (Xm rfl rfl) (Qbh (Wq b8 0 32 32) (List.replicate 32 (0 : BitVec 8)) (Wq b11 0 1 1) ([(vb, lb)]) _ (hT.mono fun b o e => (m4).rest b o e) (Rd.mkE m4.h1 sD) sD (Rd.mkA (f := Prod.fst) (l := [(vb, lb)]) m4.h0) (Ef (Rd.ofRest hrb m4) Ll) (by rw [Qaa]; omega) sD)) fun w5 m5 => Bh m5 (Qj (f := u8) (l := Xk (List.replicate 32 (0 : BitVec 8)) (Vu ([(vb, lb)]))) Qy Zl rfl rfl sD m5.h2 sZ rfl) fun w7 m7 => ?_
  refine rN (Xb ?_)
  refine Qv [(agg u8 (Xk (List.replicate 32 (0 : BitVec 8)) (Vu ([(vb, lb)]))))] ⟨⟨_, rfl, Xr Xq rfl Zl m7.h2 sZ⟩, trivial⟩ ?_
  exact ⟨congrArg (agg u8) (by unfold Wn Qm4; rw [Qaa, if_pos oM]), m7.toExt⟩
 ·
  have hc2p := ne_of_beq_false hc2
  refine Qs (Qc (sR ?_))
  refine Zp va <| Zp vb <| Y9 (Ku [vb] (List.all_eq_true.1 (X4 (Rd.one (Rd.ofRest hrb m1)) Kw)) m1 Qbi Pg rfl rfl rfl) fun w8 b11_1 m8 => ?_
  have m8 : Mem w8 (Qu w0) [(b11_1, .cells #[vb] 27 (0, 0)), (b4, .cells (cl u8 (List.replicate 32 0)) 23 (0, 0))] := m8
  refine U9 m8 (oc59 (Xm rfl rfl) (Qbh va la (Wq b11_1 0 1 1) ([(vb, lb)]) _ (hT.mono fun b o e => (m8).rest b o e) (Rd.ofRest hra m8) sD (Rd.mkA (f := Prod.fst) (l := [(vb, lb)]) m8.h0) (Ef (Rd.ofRest hrb m8) Ll) (by rw [Qaa]; omega) sD)) fun w9 m9 => Vz m9 (Qj (f := u8) (l := Xk la (Vu ([(vb, lb)]))) Qy Zl rfl rfl sD m9.h1 sZ rfl) fun w11 m11 => ?_
  refine rN (Xb ?_)
  refine Qv [(agg u8 (Xk la (Vu ([(vb, lb)]))))] ⟨⟨_, rfl, Xr Xq rfl Zl m11.h1 sZ⟩, trivial⟩ ?_
  exact ⟨congrArg (agg u8) (by unfold Wn Qm4; rw [Qaa, if_neg oM]), m11.toExt⟩
theorem Qpt (va : Value) (la : Xg) (vb : Value) (lb : Xg) (w0 : World)  (hra : Rd (Jl w0) u8 va la) (hla : la.length ≤ 1048576) (hrb : Rd (Jl w0) u8 vb lb) (hlb : lb.length ≤ 1048576) : X9 prog 93 #[va, vb] w0 (fun r w1 => r = (agg u8 (Wn la lb)) ∧ Ext w0 w1) := by
 refine Zb (args := [va, vb]) func93 rfl ntmps93 results93 rfl ?_
 have m0 : Mem w0 (Qu w0) [] := Mem.of_world w0
 refine sR <| Y9 (Zc m0 Zl) fun w1 b4 m1 => ?_
 refine rN (Qa (sR ?_))
 refine Zp va <| Qd (Yl (Rd.ofRest hra m1) Zu rfl) <| Qd (Fb (b := 0) rfl rfl) <| rN ?_
 refine Z8 rfl (fun hc2 => ?_) (fun hc2 => ?_)
 ·
  have hc2p := eq_of_beq hc2
  refine sR <| Y9 (Aw m1 Zu Y0 rfl rfl oM oM oM oM) fun w3 b8 m3 => ?_
  rw [Tv u8 0 rfl] at m3
  have m3 : Mem w3 (Qu w0) [(b8, .cells (cl u8 (List.replicate 32 (0 : BitVec 8))) 5 (0, 0)), (b4, .cells (cl u8 (List.replicate 32 0)) 23 (0, 0))] := m3
  refine Zp vb <| U9 m3 (oc69 (Xm rfl rfl) (Tq (Wq b8 0 32 32) (List.replicate 32 (0 : BitVec 8)) vb lb _ (Rd.mkE m3.h0 sD) sD (Rd.ofRest hrb m3) sD)) fun w4 m4 => Vz m4 (Qj (f := u8) (l := Xk (List.replicate 32 (0 : BitVec 8)) lb) Qy Zl rfl rfl sD m4.h1 sZ rfl) fun w6 m6 => ?_
  refine rN (Xb (Y3 ?_))
  refine Qv [(agg u8 (Xk (List.replicate 32 (0 : BitVec 8)) lb))] ⟨⟨_, rfl, Xr Xq rfl Zl m6.h1 sZ⟩, trivial⟩ ?_
  exact ⟨congrArg (agg u8) (by unfold Wn Qm4; rw [if_pos oM]), m6.toExt⟩
 ·
  have hc2p := ne_of_beq_false hc2
  refine Qs (Qc (sR ?_))
  refine Zp va <| Zp vb <| U9 m1 (oc69 (Xm rfl rfl) (Tq va la vb lb _ (Rd.ofRest hra m1) sD (Rd.ofRest hrb m1) sD)) fun w7 m7 => Ye m7 (Qj (f := u8) (l := Xk la lb) Qy Zl rfl rfl sD m7.h0 sZ rfl) fun w9 m9 => ?_
  refine rN (Xb ?_)
  refine Qv [(agg u8 (Xk la lb))] ⟨⟨_, rfl, Xr Xq rfl Zl m9.h0 sZ⟩, trivial⟩ ?_
  exact ⟨congrArg (agg u8) (by unfold Wn Qm4; rw [if_neg oM]), m9.toExt⟩
end --m
end Go.Proofs.YtkmiemlpfkfiiaaDoor
