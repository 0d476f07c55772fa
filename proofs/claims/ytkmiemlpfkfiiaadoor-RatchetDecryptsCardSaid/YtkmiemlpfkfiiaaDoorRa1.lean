/- The ratchet: sessions that may be. Conditions: none beyond those that each theorem states. -/
import Derived.Test.YtkmiemlpfkfiiaaDoorCu4
import Derived.Test.YtkmiemlpfkfiiaaDoorFwf
namespace Go.Proofs.YtkmiemlpfkfiiaaDoor
open Tryd
set_option linter.unusedVariables false
set_option linter.unusedSimpArgs false
structure Kp where
 c : Z8
 n : Int
 k : Z8
 hc : c.length = 32
 hk : k.length = 32
def Y3 (a : Kp) : List Value := ([a.c.map u8, [i64 a.n], a.k.map u8] : List (List Value)).flatten
def Gu : Kp := ⟨List.replicate 32 0, 0, List.replicate 32 0, rfl, rfl⟩
theorem Qd3 (a : Kp) : (Y3 a).length = 65 := by simp [Y3, a.hc, a.hk]
theorem Nq (a : Kp) : (Y3 a).all (·.oneCell') = true := by
 simp only [Y3, List.flatten_cons, List.flatten_nil, List.append_nil, List.all_append, List.all_cons, List.all_nil, Bool.and_true]
 rw [Bool.and_eq_true, Bool.and_eq_true]
 refine ⟨?_, rfl, ?_⟩ <;> (rw [List.all_eq_true]; intro v hv; obtain ⟨a, _, rfl⟩ := List.mem_map.1 hv; rfl)
theorem kp_n (a : Kp) : (Y3 a)[32]? = some (i64 a.n) := by
 have h : (a.c.map u8).length = 32 := by rw [List.length_map, a.hc]
 simp only [Y3, List.flatten_cons, List.flatten_nil, List.append_nil]
 rw [List.getElem?_append_right oM, h]; rfl
theorem kp_c (a : Kp) : (((Y3 a).drop 0).take 32).toArray = cl u8 a.c := by
 have h : (a.c.map u8).length = 32 := by rw [List.length_map, a.hc]
 simp only [Y3, List.flatten_cons, List.flatten_nil, List.append_nil, List.drop_zero]
 rw [← h, List.take_left]; rfl
theorem kp_k (a : Kp) : (((Y3 a).drop 33).take 32).toArray = cl u8 a.k := by
 have h : (a.c.map u8 ++ [i64 a.n]).length = 33 := by simp [a.hc]
 have e : Y3 a = (a.c.map u8 ++ [i64 a.n]) ++ a.k.map u8 := by simp [Y3]
 rw [e, ← h, List.drop_left, List.take_of_length_le (by simp [a.hk])]; rfl
theorem kp_a (a : Kp) : (((Y3 a).drop 0).take 65).toArray = Qz [a.c.map u8, [i64 a.n], a.k.map u8] := by
 rw [List.drop_zero, List.take_of_length_le (Nat.le_of_eq (Qd3 a))]; rfl
structure Ss where
 r : Z8
 w : Z8
 o : Z8
 sb : Bool
 tb : Bool
 s : Z8
 t : Z8
 n1 : Int
 n2 : Int
 n3 : Int
 ks : List Kp
def Cb (n : Int) : Bool := decide (0 ≤ n) && decide (n ≤ 2147483647)
def hitK (a b : Kp) : Bool := (a.n == b.n) && (a.c == b.c)
def dupB (ks : List Kp) (x : Kp) (k : Nat) : Bool := (ks.take k).any (fun a => hitK a x)
def okK (ks : List Kp) : Nat → Bool
 | 0 => true
 | i + 1 => okK ks i && (Cb (ks.getD i Gu).n && !dupB ks (ks.getD i Gu) i)
def z32 : Z8 := List.replicate 32 0
def Nz (a b c : Int) (k : Nat) : Bool := Cb a && (Cb b && (Cb c && decide ((k : Int) ≤ 2000)))
def Am (sb tb : Bool) (s t o : Z8) : Bool := (sb || s == List.replicate 32 0#8) && ((tb || t == List.replicate 32 0#8) && ((sb || tb) || o == List.replicate 32 0#8))
def Pq (s : Ss) : Bool := (Nz s.n1 s.n2 s.n3 s.ks.length && Am s.sb s.tb s.s s.t s.o) && okK s.ks s.ks.length
theorem Qol {ks : List Kp} {k : Nat} (h : k < ks.length) : ks.take (k + 1) = ks.take k ++ [ks.getD k Gu] := by
 rw [List.take_add_one, List.getElem?_eq_getElem h, List.getD_eq_getElem?_getD, List.getElem?_eq_getElem h]; rfl
theorem Qmm {ks : List Kp} {x : Kp} {k : Nat} (h : k < ks.length) : dupB ks x (k + 1) = (dupB ks x k || hitK (ks.getD k Gu) x) := by
 unfold dupB; rw [Qol h, List.any_append, List.any_cons, List.any_nil, Bool.or_false]
theorem dupB_0 (ks : List Kp) (x : Kp) : dupB ks x 0 = false := rfl
theorem Qqx {ks : List Kp} {x : Kp} {k : Nat} : ∀ m, k + m ≤ ks.length → dupB ks x k = true → dupB ks x (k + m) = true
 | 0, _, h => h
 | m + 1, hl, h => by rw [← Nat.add_assoc, Qmm oM, Qqx m oM h, Bool.true_or]
theorem okK_up {ks : List Kp} {k : Nat} (h : okK ks k = false) : ∀ m, okK ks (k + m) = false
 | 0 => h
 | m + 1 => by rw [← Nat.add_assoc, okK, okK_up h m, Bool.false_and]
theorem ok_no {ks : List Kp} {i : Nat} (hi : i < ks.length) (h : okK ks (i + 1) = false) : okK ks ks.length = false := by
 have := okK_up h (ks.length - (i + 1))
 rwa [show i + 1 + (ks.length - (i + 1)) = ks.length by omega] at this
theorem ok_no1 {ks : List Kp} {i : Nat} (hi : i < ks.length) (h : Cb (ks.getD i Gu).n = false) : okK ks ks.length = false :=
 ok_no hi (by rw [okK, h, Bool.false_and, Bool.and_false])
theorem ok_no2 {ks : List Kp} {i k : Nat} (hi : i < ks.length) (hk : k < i) (h : hitK (ks.getD k Gu) (ks.getD i Gu) = true) : okK ks ks.length = false := by
 have h1 : dupB ks (ks.getD i Gu) (k + 1) = true := by rw [Qmm oM, h, Bool.or_true]
 have h2 := Qqx (i - (k + 1)) oM h1
 rw [show k + 1 + (i - (k + 1)) = i by omega] at h2
 exact ok_no hi (by rw [okK, h2, Bool.not_true, Bool.and_false, Bool.and_false])
set_option maxHeartbeats 2000000 in
theorem c_may (n : Int) (w0 : World)   : X0 prog 28 #[(i64 n)] w0 (fun r w1 => r = (bl (Cb n)) ∧ Ext w0 w1) := by
 refine Qy (args := [(i64 n)]) func28 rfl ntmps28 results28 rfl ?_
 have m0 : Mem w0 (Qr w0) [] := Mem.of_world w0
 refine sR <| Zx (bl false) ?_
 refine rN (sR ?_)
 refine Zm (i64 n) <| Qd (F5 (b := 0) rfl rfl) <| Zm (bl (decide (0 ≤ n))) ?_
 rcases Bool.eq_false_or_eq_true (decide (0 ≤ n)) with hb1 | hb1
 ·
  have hb1p := of_decide_eq_true hb1
  refine Zj (s := 5) rfl rfl hb1 rfl (Yh (v := (i64 n)) rfl) <| Zj (s := 5) rfl rfl hb1 rfl (Qjn (b := 2147483647) rfl rfl) <| Qd (Jg rfl hb1 rfl) <| Zx (bl (decide (n ≤ 2147483647))) ?_
  refine rN (Zz ?_)
  refine Qp [(bl (decide (n ≤ 2147483647)))] ⟨rfl, trivial⟩ ?_
  exact ⟨congrArg bl (show _ = Cb n from by unfold Cb; rw [hb1]; rfl), m0.toExt⟩
 ·
  have hb1p := of_decide_eq_false hb1
  refine Yg (s := 5) rfl rfl hb1 rfl <| Yg (s := 5) rfl rfl hb1 rfl <| Qd (Yz rfl hb1 rfl) <| Zx (bl false) ?_
  refine rN (Zz ?_)
  refine Qp [(bl false)] ⟨rfl, trivial⟩ ?_
  exact ⟨congrArg bl (show _ = Cb n from by unfold Cb; rw [hb1]; rfl), m0.toExt⟩
set_option maxHeartbeats 2000000 in
theorem c_rright (ra wa oa : Z8) (sb tb : Bool) (sa ta : Z8) (n1 n2 n3 : Int) (vk : Value) (ks : List Kp) (w0 : World)  (hl : ra.length = 32 ∧ wa.length = 32 ∧ oa.length = 32 ∧ sa.length = 32 ∧ ta.length = 32) (hk : RdK (Y8 w0) Y3 65 vk ks) (hn : ks.length ≤ 1048576) : X0 prog 11 #[(Value.agg (Qz (sE ra wa oa sb tb sa ta n1 n2 n3 vk)))] w0 (fun r w1 => r = (bl (Pq (Ss.mk ra wa oa sb tb sa ta n1 n2 n3 ks))) ∧ Ext w0 w1) := by
 refine Qy (args := [(Value.agg (Qz (sE ra wa oa sb tb sa ta n1 n2 n3 vk)))]) func11 rfl ntmps11 results11 rfl ?_
 have m0 : Mem w0 (Qr w0) [] := Mem.of_world w0
 obtain ⟨hl1, hl2, hl3, hl4, hl5⟩ := hl
 refine sR <| Y9 (Us (cs := (Qz (sE ra wa oa sb tb sa ta n1 n2 n3 vk))) m0 rfl) fun w1 b1 m1 => Zx (bl false) ?_
 refine rN (Qa (Qa ?_))
 refine H5 (J := fun g wv => g 0 = (Value.agg (Qz (sE ra wa oa sb tb sa ta n1 n2 n3 vk))) ∧ g 1 = (ptr b1 0) ∧ g 2 = (bl false) ∧ g 26 = (bl (!(Nz n1 n2 n3 ks.length))) ∧ Mem wv (Qr w0) [(b1, .cells (Qz (sE ra wa oa sb tb sa ta n1 n2 n3 vk)) 26 (0, 0))]) ?_ ?_
 ·skip
  refine Qb <| Qd (Zi (r := 162) Xt rfl Je Ui rfl rfl) <| Qd (Yi 7 Uu rfl m1.h0 rfl) <| U3 m1 (oc28 (Jv rfl) (c_may _ _)) fun w2 m2 => Qd (Gw rfl) <| Zm (bl (!(Cb n1))) ?_
  rcases Bool.eq_false_or_eq_true (!(Cb n1)) with hb4 | hb4
  ·
   have hb4n : (Cb n1) = false := by simpa using hb4
   refine Yg (s := 9) rfl rfl hb4 rfl <| Yg (s := 9) rfl rfl hb4 rfl <| Yg (s := 9) rfl rfl hb4 rfl <| Yg (s := 9) rfl rfl hb4 rfl <| Qd (Jg rfl hb4 rfl) <| Zm (bl true) <| Yg (s := 15) rfl rfl rfl rfl <| Yg (s := 15) rfl rfl rfl rfl <| Yg (s := 15) rfl rfl rfl rfl <| Yg (s := 15) rfl rfl rfl rfl <| Qd (Hy rfl rfl) <| Zm (bl true) ?_
   refine Yg (s := 21) rfl rfl rfl rfl <| Yg (s := 21) rfl rfl rfl rfl <| Yg (s := 21) rfl rfl rfl rfl <| Yg (s := 21) rfl rfl rfl rfl <| Qd (Hy rfl rfl) <| rN ?_
   exact ⟨rfl, rfl, rfl, (Eq.trans rfl (congrArg bl (by unfold Nz; rw [show decide ((ks.length : Int) ≤ 2000) = !decide (2000 < (ks.length : Int)) from Bool.eq_iff_iff.2 (by rw [decide_eq_true_eq, Bool.not_eq_true', decide_eq_false_iff_not]; omega)]; revert hb4; generalize Cb n1 = b0; generalize Cb n2 = b1; generalize Cb n3 = b2; generalize decide ((ks.length : Int) ≤ 2000) = b3; generalize decide (2000 < (ks.length : Int)) = b4; revert b0 b1 b2 b3 b4; decide))), m2⟩
  ·
   have hb4n : (Cb n1) = true := by simpa using hb4
   refine Zj (s := 9) rfl rfl hb4 rfl (Zi (r := 163) Xt rfl Je Ui rfl rfl) <| Zj (s := 9) rfl rfl hb4 rfl (Yi 8 Uu rfl m2.h0 rfl) <| Qfl (s := 9) rfl rfl hb4 rfl (oc28 (Jv rfl) (c_may _ _)) ?_
   rintro _ w5 ⟨rfl, e5⟩
   have m5 := m2.ext e5
   refine Zj (s := 9) rfl rfl hb4 rfl (Gw rfl) <| Qd (Yz rfl hb4 rfl) <| Zm (bl (!(Cb n2))) ?_
   rcases Bool.eq_false_or_eq_true (!(Cb n2)) with hb7 | hb7
   ·
    have hb7n : (Cb n2) = false := by simpa using hb7
    refine Yg (s := 15) rfl rfl hb7 rfl <| Yg (s := 15) rfl rfl hb7 rfl <| Yg (s := 15) rfl rfl hb7 rfl <| Yg (s := 15) rfl rfl hb7 rfl <| Qd (Jg rfl hb7 rfl) <| Zm (bl true) <| Yg (s := 21) rfl rfl rfl rfl <| Yg (s := 21) rfl rfl rfl rfl <| Yg (s := 21) rfl rfl rfl rfl <| Yg (s := 21) rfl rfl rfl rfl <| Qd (Hy rfl rfl) <| rN ?_
    exact ⟨rfl, rfl, rfl, (Eq.trans rfl (congrArg bl (by unfold Nz; rw [show decide ((ks.length : Int) ≤ 2000) = !decide (2000 < (ks.length : Int)) from Bool.eq_iff_iff.2 (by rw [decide_eq_true_eq, Bool.not_eq_true', decide_eq_false_iff_not]; omega)]; revert hb4 hb7; generalize Cb n1 = b0; generalize Cb n2 = b1; generalize Cb n3 = b2; generalize decide ((ks.length : Int) ≤ 2000) = b3; generalize decide (2000 < (ks.length : Int)) = b4; revert b0 b1 b2 b3 b4; decide))), m5⟩
   ·
    have hb7n : (Cb n2) = true := by simpa using hb7
    refine Zj (s := 15) rfl rfl hb7 rfl (Zi (r := 164) Xt rfl Je Ui rfl rfl) <| Zj (s := 15) rfl rfl hb7 rfl (Yi 9 Uu rfl m5.h0 rfl) <| Qfl (s := 15) rfl rfl hb7 rfl (oc28 (Jv rfl) (c_may _ _)) ?_
    rintro _ w8 ⟨rfl, e8⟩
    have m8 := m5.ext e8
    refine Zj (s := 15) rfl rfl hb7 rfl (Gw rfl) <| Qd (Yz rfl hb7 rfl) <| Zm (bl (!(Cb n3))) ?_
    rcases Bool.eq_false_or_eq_true (!(Cb n3)) with hb10 | hb10
    ·
     have hb10n : (Cb n3) = false := by simpa using hb10
     refine Yg (s := 21) rfl rfl hb10 rfl <| Yg (s := 21) rfl rfl hb10 rfl <| Yg (s := 21) rfl rfl hb10 rfl <| Yg (s := 21) rfl rfl hb10 rfl <| Qd (Jg rfl hb10 rfl) <| rN ?_
     exact ⟨rfl, rfl, rfl, (Eq.trans rfl (congrArg bl (by unfold Nz; rw [show decide ((ks.length : Int) ≤ 2000) = !decide (2000 < (ks.length : Int)) from Bool.eq_iff_iff.2 (by rw [decide_eq_true_eq, Bool.not_eq_true', decide_eq_false_iff_not]; omega)]; revert hb10 hb4 hb7; generalize Cb n1 = b0; generalize Cb n2 = b1; generalize Cb n3 = b2; generalize decide ((ks.length : Int) ≤ 2000) = b3; generalize decide (2000 < (ks.length : Int)) = b4; revert b0 b1 b2 b3 b4; decide))), m8⟩
    ·
     have hb10n : (Cb n3) = true := by simpa using hb10
     refine Zj (s := 21) rfl rfl hb10 rfl (Zi (r := 165) Xt rfl Je Ec rfl rfl) <| Zj (s := 21) rfl rfl hb10 rfl (Yi 10 Wq rfl m8.h0 rfl) <| Zj (s := 21) rfl rfl hb10 rfl (Fp (RdK.ofRest hk m8) Wq rfl) <| Zj (s := 21) rfl rfl hb10 rfl (Vz (b := 2000) rfl rfl) <| Qd (Yz rfl hb10 rfl) <| rN ?_
     exact ⟨rfl, rfl, rfl, (Eq.trans rfl (congrArg bl (by unfold Nz; rw [show decide ((ks.length : Int) ≤ 2000) = !decide (2000 < (ks.length : Int)) from Bool.eq_iff_iff.2 (by rw [decide_eq_true_eq, Bool.not_eq_true', decide_eq_false_iff_not]; omega)]; revert hb10 hb4 hb7; generalize Cb n1 = b0; generalize Cb n2 = b1; generalize Cb n3 = b2; generalize decide ((ks.length : Int) ≤ 2000) = b3; generalize decide (2000 < (ks.length : Int)) = b4; revert b0 b1 b2 b3 b4; decide))), m8⟩
 rintro fr11 w12 ⟨s0, s1, s2, s26, m12⟩
 refine Zy s26 (fun hc13 => ?_) (fun hc13 => ?_)
 ·
  have hc13n : (Nz n1 n2 n3 ks.length) = false := by simpa using hc13
  refine sR <| Zx (bl false) ?_
  refine rN (Zz (Yv ?_))
  refine Qp [(bl false)] ⟨rfl, trivial⟩ ?_
  exact ⟨congrArg bl (by show _ = ((Nz n1 n2 n3 ks.length && Am sb tb sa ta oa) && okK ks ks.length); revert hc13; generalize Nz n1 n2 n3 ks.length = b0; generalize Am sb tb sa ta oa = b1; generalize okK ks ks.length = b2; revert b0 b1 b2; decide), m12.toExt⟩
 ·
  have hc13n : (Nz n1 n2 n3 ks.length) = true := by simpa using hc13
  refine Qn (Qc (Qa (Qa ?_)))
  refine H5 (J := fun g wv => g 0 = (Value.agg (Qz (sE ra wa oa sb tb sa ta n1 n2 n3 vk))) ∧ g 1 = (ptr b1 0) ∧ g 2 = (bl false) ∧ g 26 = (bl (!(Nz n1 n2 n3 ks.length))) ∧ g 62 = (bl (!(Am sb tb sa ta oa))) ∧ Mem wv (Qr w0) [(b1, .cells (Qz (sE ra wa oa sb tb sa ta n1 n2 n3 vk)) 26 (0, 0))]) ?_ ?_
  ·skip
   refine Qb <| Qd (Zi (r := 96) Xt rfl Je ti4 rfl s1) <| Qd (Yi 3 uT4 rfl m12.h0 rfl) <| Qd (Gw rfl) <| Zm (bl (!sb)) ?_
   rcases Bool.eq_false_or_eq_true (!sb) with hb14 | hb14
   ·
    have hb14n : sb = false := by simpa using hb14
    refine Zj (s := 30) rfl rfl hb14 rfl (Zi (r := 98) Xt rfl Je Zg rfl s1) <| Zj (s := 30) rfl rfl hb14 rfl (Jk 5 Xl Zg rfl m12.h0 rfl) <| Zj (s := 30) rfl rfl hb14 rfl (Kw (ps := []) (c := (cl u8 (List.replicate 32 0))) Zg Xl Yw Ya rfl) <| Zj (s := 30) rfl rfl hb14 rfl (G8 (l := sa) (m := List.replicate 32 0) Xl Vs Yw eqGuardType23 rfl rfl ysF ysF) <| Qd (Jg rfl hb14 rfl) <| Zm (bl (sa != (List.replicate 32 0))) ?_
    rcases Bool.eq_false_or_eq_true (sa != (List.replicate 32 0)) with hb15 | hb15
    ·
     have hb15p := bne_iff_ne.1 hb15
     refine Yg (s := 36) rfl rfl hb15 rfl <| Yg (s := 36) rfl rfl hb15 rfl <| Yg (s := 36) rfl rfl hb15 rfl <| Yg (s := 36) rfl rfl hb15 rfl <| Bh (s := 40) rfl rfl rfl <| Bh (s := 40) rfl rfl rfl <| Bh (s := 40) rfl rfl rfl <| Bh (s := 40) rfl rfl rfl <| Yg (s := 36) rfl rfl hb15 rfl <| Qd (Jg rfl hb15 rfl) <| Zm (bl true) <| Yg (s := 47) rfl rfl rfl rfl ?_
     refine Yg (s := 47) rfl rfl rfl rfl <| Yg (s := 47) rfl rfl rfl rfl <| Yg (s := 47) rfl rfl rfl rfl <| Bh (s := 51) rfl rfl rfl <| Bh (s := 51) rfl rfl rfl <| Bh (s := 51) rfl rfl rfl <| Yg (s := 47) rfl rfl rfl rfl <| Yg (s := 47) rfl rfl rfl rfl <| Bh (s := 56) rfl rfl rfl <| Bh (s := 56) rfl rfl rfl <| Bh (s := 56) rfl rfl rfl <| Bh (s := 56) rfl rfl rfl ?_
     refine Yg (s := 47) rfl rfl rfl rfl <| Qd (Hy rfl rfl) <| rN ?_
     exact ⟨s0, s1, s2, s26, (Eq.trans rfl (congrArg bl (by unfold Am; (try simp only [bne] at *); revert hb14 hb15 hc13; generalize Nz n1 n2 n3 ks.length = b0; generalize sb = b1; generalize tb = b2; generalize (sa == List.replicate 32 0#8) = b3; generalize (ta == List.replicate 32 0#8) = b4; generalize (oa == List.replicate 32 0#8) = b5; revert b0 b1 b2 b3 b4 b5; decide))), m12⟩
    ·
     have hb15p := X3 hb15
     refine Zj (s := 36) rfl rfl hb15 rfl (Zi (r := 97) Xt rfl Je ti4 rfl s1) <| Zj (s := 36) rfl rfl hb15 rfl (Yi 4 uT4 rfl m12.h0 rfl) <| Zj (s := 36) rfl rfl hb15 rfl (Gw rfl) <| Zj (s := 36) rfl rfl hb15 rfl (Yh (v := (bl (!tb))) rfl) ?_
     rcases Bool.eq_false_or_eq_true (!tb) with hb16 | hb16
     ·
      have hb16n : tb = false := by simpa using hb16
      refine Zj (s := 40) rfl rfl hb16 rfl (Zi (r := 130) Xt rfl Je Zg rfl s1) <| Zj (s := 40) rfl rfl hb16 rfl (Jk 6 Xl Zg rfl m12.h0 rfl) <| Zj (s := 40) rfl rfl hb16 rfl (Kw (ps := []) (c := (cl u8 (List.replicate 32 0))) Zg Xl Yw Ya rfl) <| Zj (s := 40) rfl rfl hb16 rfl (G8 (l := ta) (m := List.replicate 32 0) Xl Vs Yw eqGuardType23 rfl rfl ysF ysF) <| Zj (s := 36) rfl rfl hb15 rfl (Jg rfl hb16 rfl) <| Qd (Yz rfl hb15 rfl) <| Zm (bl (ta != (List.replicate 32 0))) ?_
      rcases Bool.eq_false_or_eq_true (ta != (List.replicate 32 0)) with hb17 | hb17
      ·
       have hb17p := bne_iff_ne.1 hb17
       refine Yg (s := 47) rfl rfl hb17 rfl <| Yg (s := 47) rfl rfl hb17 rfl <| Yg (s := 47) rfl rfl hb17 rfl <| Yg (s := 47) rfl rfl hb17 rfl <| Bh (s := 51) rfl rfl rfl <| Bh (s := 51) rfl rfl rfl <| Bh (s := 51) rfl rfl rfl <| Yg (s := 47) rfl rfl hb17 rfl <| Yg (s := 47) rfl rfl hb17 rfl <| Bh (s := 56) rfl rfl rfl <| Bh (s := 56) rfl rfl rfl <| Bh (s := 56) rfl rfl rfl ?_
       refine Bh (s := 56) rfl rfl rfl <| Yg (s := 47) rfl rfl hb17 rfl <| Qd (Jg rfl hb17 rfl) <| rN ?_
       exact ⟨s0, s1, s2, s26, (Eq.trans rfl (congrArg bl (by unfold Am; (try simp only [bne] at *); revert hb14 hb15 hb16 hb17 hc13; generalize Nz n1 n2 n3 ks.length = b0; generalize sb = b1; generalize tb = b2; generalize (sa == List.replicate 32 0#8) = b3; generalize (ta == List.replicate 32 0#8) = b4; generalize (oa == List.replicate 32 0#8) = b5; revert b0 b1 b2 b3 b4 b5; decide))), m12⟩
      ·
       have hb17p := X3 hb17
       refine Zj (s := 47) rfl rfl hb17 rfl (Zi (r := 96) Xt rfl Je ti4 rfl s1) <| Zj (s := 47) rfl rfl hb17 rfl (Yi 3 uT4 rfl m12.h0 rfl) <| Zj (s := 47) rfl rfl hb17 rfl (Gw rfl) <| Zj (s := 47) rfl rfl hb17 rfl (Yh (v := (bl (!sb))) rfl) <| Zj (s := 51) rfl rfl hb14 rfl (Zi (r := 97) Xt rfl Je ti4 rfl s1) <| Zj (s := 51) rfl rfl hb14 rfl (Yi 4 uT4 rfl m12.h0 rfl) <| Zj (s := 51) rfl rfl hb14 rfl (Gw rfl) <| Zj (s := 47) rfl rfl hb17 rfl (Jg rfl hb14 rfl) <| Zj (s := 47) rfl rfl hb17 rfl (Yh (v := (bl (!tb))) rfl) <| Zj (s := 56) rfl rfl hb16 rfl (Zi (r := 64) Xt rfl Je Zg rfl s1) <| Zj (s := 56) rfl rfl hb16 rfl (Jk 2 Xl Zg rfl m12.h0 rfl) <| Zj (s := 56) rfl rfl hb16 rfl (Kw (ps := []) (c := (cl u8 (List.replicate 32 0))) Zg Xl Yw Ya rfl) ?_
       refine Zj (s := 56) rfl rfl hb16 rfl (G8 (l := oa) (m := List.replicate 32 0) Xl Vs Yw eqGuardType23 rfl rfl ysF ysF) <| Zj (s := 47) rfl rfl hb17 rfl (Jg rfl hb16 rfl) <| Qd (Yz rfl hb17 rfl) <| rN ?_
       exact ⟨s0, s1, s2, s26, (Eq.trans rfl (congrArg bl (by unfold Am; (try simp only [bne] at *); revert hb14 hb15 hb16 hb17 hc13; generalize Nz n1 n2 n3 ks.length = b0; generalize sb = b1; generalize tb = b2; generalize (sa == List.replicate 32 0#8) = b3; generalize (ta == List.replicate 32 0#8) = b4; generalize (oa == List.replicate 32 0#8) = b5; revert b0 b1 b2 b3 b4 b5; decide))), m12⟩
     ·
      have hb16n : tb = true := by simpa using hb16
      refine Yg (s := 40) rfl rfl hb16 rfl <| Yg (s := 40) rfl rfl hb16 rfl <| Yg (s := 40) rfl rfl hb16 rfl <| Yg (s := 40) rfl rfl hb16 rfl <| Zj (s := 36) rfl rfl hb15 rfl (Yz rfl hb16 rfl) <| Qd (Yz rfl hb15 rfl) <| Zm (bl false) <| Zj (s := 47) rfl rfl rfl rfl (Zi (r := 96) Xt rfl Je ti4 rfl s1) <| Zj (s := 47) rfl rfl rfl rfl (Yi 3 uT4 rfl m12.h0 rfl) <| Zj (s := 47) rfl rfl rfl rfl (Gw rfl) <| Zj (s := 47) rfl rfl rfl rfl (Yh (v := (bl (!sb))) rfl) <| Zj (s := 51) rfl rfl hb14 rfl (Zi (r := 97) Xt rfl Je ti4 rfl s1) ?_
      refine Zj (s := 51) rfl rfl hb14 rfl (Yi 4 uT4 rfl m12.h0 rfl) <| Zj (s := 51) rfl rfl hb14 rfl (Gw rfl) <| Zj (s := 47) rfl rfl rfl rfl (Jg rfl hb14 rfl) <| Zj (s := 47) rfl rfl rfl rfl (Yh (v := (bl (!tb))) rfl) <| Yg (s := 56) rfl rfl hb16 rfl <| Yg (s := 56) rfl rfl hb16 rfl <| Yg (s := 56) rfl rfl hb16 rfl <| Yg (s := 56) rfl rfl hb16 rfl <| Zj (s := 47) rfl rfl rfl rfl (Yz rfl hb16 rfl) <| Qd (Rh rfl rfl) <| rN ?_
      exact ⟨s0, s1, s2, s26, (Eq.trans rfl (congrArg bl (by unfold Am; (try simp only [bne] at *); revert hb14 hb15 hb16 hc13; generalize Nz n1 n2 n3 ks.length = b0; generalize sb = b1; generalize tb = b2; generalize (sa == List.replicate 32 0#8) = b3; generalize (ta == List.replicate 32 0#8) = b4; generalize (oa == List.replicate 32 0#8) = b5; revert b0 b1 b2 b3 b4 b5; decide))), m12⟩
   ·
    have hb14n : sb = true := by simpa using hb14
    refine Yg (s := 30) rfl rfl hb14 rfl <| Yg (s := 30) rfl rfl hb14 rfl <| Yg (s := 30) rfl rfl hb14 rfl <| Yg (s := 30) rfl rfl hb14 rfl <| Qd (Yz rfl hb14 rfl) <| Zm (bl false) <| Zj (s := 36) rfl rfl rfl rfl (Zi (r := 97) Xt rfl Je ti4 rfl s1) <| Zj (s := 36) rfl rfl rfl rfl (Yi 4 uT4 rfl m12.h0 rfl) <| Zj (s := 36) rfl rfl rfl rfl (Gw rfl) <| Zj (s := 36) rfl rfl rfl rfl (Yh (v := (bl (!tb))) rfl) ?_
    rcases Bool.eq_false_or_eq_true (!tb) with hb18 | hb18
    ·
     have hb18n : tb = false := by simpa using hb18
     refine Zj (s := 40) rfl rfl hb18 rfl (Zi (r := 130) Xt rfl Je Zg rfl s1) <| Zj (s := 40) rfl rfl hb18 rfl (Jk 6 Xl Zg rfl m12.h0 rfl) <| Zj (s := 40) rfl rfl hb18 rfl (Kw (ps := []) (c := (cl u8 (List.replicate 32 0))) Zg Xl Yw Ya rfl) <| Zj (s := 40) rfl rfl hb18 rfl (G8 (l := ta) (m := List.replicate 32 0) Xl Vs Yw eqGuardType23 rfl rfl ysF ysF) <| Zj (s := 36) rfl rfl rfl rfl (Jg rfl hb18 rfl) <| Qd (Rh rfl rfl) <| Zm (bl (ta != (List.replicate 32 0))) ?_
     rcases Bool.eq_false_or_eq_true (ta != (List.replicate 32 0)) with hb19 | hb19
     ·
      have hb19p := bne_iff_ne.1 hb19
      refine Yg (s := 47) rfl rfl hb19 rfl <| Yg (s := 47) rfl rfl hb19 rfl <| Yg (s := 47) rfl rfl hb19 rfl <| Yg (s := 47) rfl rfl hb19 rfl <| Bh (s := 51) rfl rfl rfl <| Bh (s := 51) rfl rfl rfl <| Bh (s := 51) rfl rfl rfl <| Yg (s := 47) rfl rfl hb19 rfl <| Yg (s := 47) rfl rfl hb19 rfl <| Bh (s := 56) rfl rfl rfl <| Bh (s := 56) rfl rfl rfl <| Bh (s := 56) rfl rfl rfl ?_
      refine Bh (s := 56) rfl rfl rfl <| Yg (s := 47) rfl rfl hb19 rfl <| Qd (Jg rfl hb19 rfl) <| rN ?_
      exact ⟨s0, s1, s2, s26, (Eq.trans rfl (congrArg bl (by unfold Am; (try simp only [bne] at *); revert hb14 hb18 hb19 hc13; generalize Nz n1 n2 n3 ks.length = b0; generalize sb = b1; generalize tb = b2; generalize (sa == List.replicate 32 0#8) = b3; generalize (ta == List.replicate 32 0#8) = b4; generalize (oa == List.replicate 32 0#8) = b5; revert b0 b1 b2 b3 b4 b5; decide))), m12⟩
     ·
      have hb19p := X3 hb19
      refine Zj (s := 47) rfl rfl hb19 rfl (Zi (r := 96) Xt rfl Je ti4 rfl s1) <| Zj (s := 47) rfl rfl hb19 rfl (Yi 3 uT4 rfl m12.h0 rfl) <| Zj (s := 47) rfl rfl hb19 rfl (Gw rfl) <| Zj (s := 47) rfl rfl hb19 rfl (Yh (v := (bl (!sb))) rfl) <| Yg (s := 51) rfl rfl hb14 rfl <| Yg (s := 51) rfl rfl hb14 rfl <| Yg (s := 51) rfl rfl hb14 rfl <| Zj (s := 47) rfl rfl hb19 rfl (Yz rfl hb14 rfl) <| Zj (s := 47) rfl rfl hb19 rfl (Yh (v := (bl false)) rfl) <| Yg (s := 56) rfl rfl rfl rfl <| Yg (s := 56) rfl rfl rfl rfl <| Yg (s := 56) rfl rfl rfl rfl ?_
      refine Yg (s := 56) rfl rfl rfl rfl <| Zj (s := 47) rfl rfl hb19 rfl (Rh rfl rfl) <| Qd (Yz rfl hb19 rfl) <| rN ?_
      exact ⟨s0, s1, s2, s26, (Eq.trans rfl (congrArg bl (by unfold Am; (try simp only [bne] at *); revert hb14 hb18 hb19 hc13; generalize Nz n1 n2 n3 ks.length = b0; generalize sb = b1; generalize tb = b2; generalize (sa == List.replicate 32 0#8) = b3; generalize (ta == List.replicate 32 0#8) = b4; generalize (oa == List.replicate 32 0#8) = b5; revert b0 b1 b2 b3 b4 b5; decide))), m12⟩
    ·
     have hb18n : tb = true := by simpa using hb18
     refine Yg (s := 40) rfl rfl hb18 rfl <| Yg (s := 40) rfl rfl hb18 rfl <| Yg (s := 40) rfl rfl hb18 rfl <| Yg (s := 40) rfl rfl hb18 rfl <| Zj (s := 36) rfl rfl rfl rfl (Yz rfl hb18 rfl) <| Qd (Rh rfl rfl) <| Zm (bl false) <| Zj (s := 47) rfl rfl rfl rfl (Zi (r := 96) Xt rfl Je ti4 rfl s1) <| Zj (s := 47) rfl rfl rfl rfl (Yi 3 uT4 rfl m12.h0 rfl) <| Zj (s := 47) rfl rfl rfl rfl (Gw rfl) <| Zj (s := 47) rfl rfl rfl rfl (Yh (v := (bl (!sb))) rfl) <| Yg (s := 51) rfl rfl hb14 rfl ?_
     refine Yg (s := 51) rfl rfl hb14 rfl <| Yg (s := 51) rfl rfl hb14 rfl <| Zj (s := 47) rfl rfl rfl rfl (Yz rfl hb14 rfl) <| Zj (s := 47) rfl rfl rfl rfl (Yh (v := (bl false)) rfl) <| Yg (s := 56) rfl rfl rfl rfl <| Yg (s := 56) rfl rfl rfl rfl <| Yg (s := 56) rfl rfl rfl rfl <| Yg (s := 56) rfl rfl rfl rfl <| Zj (s := 47) rfl rfl rfl rfl (Rh rfl rfl) <| Qd (Rh rfl rfl) <| rN ?_
     exact ⟨s0, s1, s2, s26, (Eq.trans rfl (congrArg bl (by unfold Am; (try simp only [bne] at *); revert hb14 hb18 hc13; generalize Nz n1 n2 n3 ks.length = b0; generalize sb = b1; generalize tb = b2; generalize (sa == List.replicate 32 0#8) = b3; generalize (ta == List.replicate 32 0#8) = b4; generalize (oa == List.replicate 32 0#8) = b5; revert b0 b1 b2 b3 b4 b5; decide))), m12⟩
  rintro fr20 w21 ⟨s0, s1, s2, s26, s62, m21⟩
  refine Zy s62 (fun hc22 => ?_) (fun hc22 => ?_)
  ·
   have hc22n : (Am sb tb sa ta oa) = false := by simpa using hc22
   refine sR <| Zx (bl false) ?_
   refine rN (Zz (Yv ?_))
   refine Qp [(bl false)] ⟨rfl, trivial⟩ ?_
   exact ⟨congrArg bl (by show _ = ((Nz n1 n2 n3 ks.length && Am sb tb sa ta oa) && okK ks ks.length); revert hc13 hc22; generalize Nz n1 n2 n3 ks.length = b0; generalize Am sb tb sa ta oa = b1; generalize okK ks ks.length = b2; revert b0 b1 b2; decide), m21.toExt⟩
  ·
   have hc22n : (Am sb tb sa ta oa) = true := by simpa using hc22
   refine Qn (Qc (Qa (sR ?_)))
   refine Zx (i64 0) ?_
   refine rN (Qh ?_)
   refine Y1 (fun g wv => ∃ (i : Nat), (i ≤ ks.length) ∧ (okK ks i = true) ∧ g 0 = (Value.agg (Qz (sE ra wa oa sb tb sa ta n1 n2 n3 vk))) ∧ g 1 = (ptr b1 0) ∧ g 3 = (i64 (i : Int)) ∧ g 26 = (bl (!(Nz n1 n2 n3 ks.length))) ∧ g 62 = (bl (!(Am sb tb sa ta oa))) ∧ Mem wv (Qr w0) [(b1, .cells (Qz (sE ra wa oa sb tb sa ta n1 n2 n3 vk)) 26 (0, 0))]) (fun g wv => ((ks.length : Int) - RowKit.intOf (g 3)).toNat) ?_ ?_
   ·exact ⟨0, oM, rfl, s0, s1, rfl, s26, s62, m21⟩
   rintro fr23 w24 ⟨i, hi, hok, s0, s1, s3, s26, s62, m24⟩
   have z3 := s3
   have hkc := (ks.getD i Gu).hc; have hkk := (ks.getD i Gu).hk
   refine Qa (sR ?_)
   refine Yb s3 <| Qd (Zi (r := 165) Xt rfl Je Ec rfl s1) <| Qd (Yi 10 Wq rfl m24.h0 rfl) <| Qd (Fp (RdK.ofRest hk m24) Wq rfl) <| Qd (Xa rfl rfl) <| rN ?_
   refine Zy rfl (fun hc25 => ?_) (fun hc25 => ?_)
   ·
    have hc25p := of_decide_eq_true hc25
    refine Qn (Qc (Qa (Qh (Qa (sR ?_)))))
    refine Qd (Zi (r := 165) Xt rfl Je Ec rfl s1) <| Qd (Yi 10 Wq rfl m24.h0 rfl) <| Yb s3 <| Qd (Yn (i := (i : Int)) (RdK.ofRest hk m24) Wq Dj rfl rfl oM sL) <| Qd (N8 (i := (i : Int)) (RdK.ofRest hk m24) sL Qbk rfl Je Ui rfl rfl) <| Qd (v := (i64 ((ks.getD i Gu).n))) (Ep (i := (i : Int)) (dflt := Gu) (u := (i64 ((ks.getD i Gu).n))) (RdK.ofRest hk m24) sL Uu rfl rfl Jb (kp_n (ks.getD i Gu))) <| U3 m24 (oc28 (Jv rfl) (c_may _ _)) fun w26 m26 => Qd (Gw rfl) <| rN ?_
    refine Zy rfl (fun hc28 => ?_) (fun hc28 => ?_)
    ·
     have hc28n : (Cb ((ks.getD i Gu).n)) = false := by simpa using hc28
     refine sR <| Zx (bl false) ?_
     refine rN (Zz ?_)
     refine Yv (Fe (Yv (Fe ?_)))
     refine Qp [(bl false)] ⟨rfl, trivial⟩ ?_
     exact ⟨congrArg bl (by show _ = ((Nz n1 n2 n3 ks.length && Am sb tb sa ta oa) && okK ks ks.length); have hz := ok_no1 (show i < ks.length by omega) (show Cb _ = false by simpa using hc28); revert hc13 hc22 hz; generalize Nz n1 n2 n3 ks.length = b0; generalize Am sb tb sa ta oa = b1; generalize okK ks ks.length = b2; revert b0 b1 b2; decide), m26.toExt⟩
    ·
     have hc28n : (Cb ((ks.getD i Gu).n)) = true := by simpa using hc28
     refine Qn (Qc (sR ?_))
     refine Zx (i64 0) ?_
     refine rN (V8 ?_)
     refine Y1 (fun g wv => ∃ (k : Nat), (k ≤ i) ∧ (dupB ks (ks.getD i Gu) k = false) ∧ g 0 = (Value.agg (Qz (sE ra wa oa sb tb sa ta n1 n2 n3 vk))) ∧ g 1 = (ptr b1 0) ∧ g 3 = (i64 (i : Int)) ∧ g 4 = (i64 (k : Int)) ∧ g 26 = (bl (!(Nz n1 n2 n3 ks.length))) ∧ g 62 = (bl (!(Am sb tb sa ta oa))) ∧ g 67 = (bl (decide ((i : Int) < (ks.length : Int)))) ∧ g 77 = (bl (!(Cb ((ks.getD i Gu).n)))) ∧ Mem wv (Qr w0) [(b1, .cells (Qz (sE ra wa oa sb tb sa ta n1 n2 n3 vk)) 26 (0, 0))]) (fun g wv => ((i : Int) - RowKit.intOf (g 4)).toNat) ?_ ?_
     ·exact ⟨0, oM, (dupB_0 _ _), s0, s1, s3, rfl, s26, s62, rfl, rfl, m26⟩
     rintro fr29 w30 ⟨k, hk1, hdk, s0, s1, s3, s4, s26, s62, s67, s77, m30⟩
     have z4 := s4
     have hkc1 := (ks.getD k Gu).hc; have hkk1 := (ks.getD k Gu).hk
     refine Qa (sR ?_)
     refine Yb s4 <| Yb s3 <| Qd (Xa rfl rfl) <| rN ?_
     refine Zy rfl (fun hc31 => ?_) (fun hc31 => ?_)
     ·
      have hc31p := of_decide_eq_true hc31
      refine Qn (Qc (Qa (Qh (Qa ?_))))
      refine Xg (dl 26) 26 Xo <| X6 rfl (Zi (r := 165) Xt rfl Je Ec rfl s1) <| Ym rfl (fun _ e' => Yi 10 Wq rfl (m30.ext e').h0 rfl) <| Uh rfl s4 <| Ym rfl (fun _ e' => Yn (i := (k : Int)) (RdK.ofRest hk (m30.ext e')) Wq Dj rfl rfl oM sL) <| Ym rfl (fun _ e' => N8 (i := (k : Int)) (RdK.ofRest hk (m30.ext e')) sL Qbk rfl Je Ui rfl rfl) <| Ym (v := (i64 ((ks.getD k Gu).n))) rfl (fun _ e' => Ep (i := (k : Int)) (dflt := Gu) (u := (i64 ((ks.getD k Gu).n))) (RdK.ofRest hk (m30.ext e')) sL Uu rfl rfl Jb (kp_n (ks.getD k Gu))) <| X6 rfl (Zi (r := 165) Xt rfl Je Ec rfl s1) <| Ym rfl (fun _ e' => Yi 10 Wq rfl (m30.ext e').h0 rfl) <| Uh rfl s3 <| Ym rfl (fun _ e' => Yn (i := (i : Int)) (RdK.ofRest hk (m30.ext e')) Wq Dj rfl rfl oM sL) <| Ym rfl (fun _ e' => N8 (i := (i : Int)) (RdK.ofRest hk (m30.ext e')) sL Qbk rfl Je Ui rfl rfl) ?_
      refine Ym (v := (i64 ((ks.getD i Gu).n))) rfl (fun _ e' => Ep (i := (i : Int)) (dflt := Gu) (u := (i64 ((ks.getD i Gu).n))) (RdK.ofRest hk (m30.ext e')) sL Uu rfl rfl Jb (kp_n (ks.getD i Gu))) <| X6 rfl (Gq rfl rfl) <| J8 rfl (bl (((ks.getD k Gu).n) == ((ks.getD i Gu).n))) ?_
      rcases Bool.eq_false_or_eq_true (((ks.getD k Gu).n) == ((ks.getD i Gu).n)) with hb32 | hb32
      ·
       have hb32p := eq_of_beq hb32
       refine D5 (s := 96) rfl rfl rfl hb32 rfl (fun _ _hx => Zi (r := 165) Xt rfl Je Ec rfl s1) <| D5 (s := 96) rfl rfl rfl hb32 rfl (fun _ _hx => Yi 10 Wq rfl (m30.ext _hx).h0 rfl) <| D5 (s := 96) rfl rfl rfl hb32 rfl (fun _ _hx => Yh s4) <| D5 (s := 96) rfl rfl rfl hb32 rfl (fun _ _hx => Yn (i := (k : Int)) (RdK.ofRest hk (m30.ext _hx)) Wq Dj rfl rfl oM sL) <| D5 (s := 96) rfl rfl rfl hb32 rfl (fun _ _hx => N8 (i := (k : Int)) (RdK.ofRest hk (m30.ext _hx)) sL Qbk rfl Je Zg rfl rfl) <| D5 (s := 96) rfl rfl rfl hb32 rfl (fun _ _hx => Eo (i := (k : Int)) (dflt := Gu) (cs := (cl u8 ((ks.getD k Gu).c))) (RdK.ofRest hk (m30.ext _hx)) sL Xl rfl Zg rfl rfl Jb (kp_c (ks.getD k Gu))) <| D5 (s := 96) rfl rfl rfl hb32 rfl (fun _ _hx => Zi (r := 165) Xt rfl Je Ec rfl s1) <| D5 (s := 96) rfl rfl rfl hb32 rfl (fun _ _hx => Yi 10 Wq rfl (m30.ext _hx).h0 rfl) <| D5 (s := 96) rfl rfl rfl hb32 rfl (fun _ _hx => Yh s3) <| D5 (s := 96) rfl rfl rfl hb32 rfl (fun _ _hx => Yn (i := (i : Int)) (RdK.ofRest hk (m30.ext _hx)) Wq Dj rfl rfl oM sL) <| D5 (s := 96) rfl rfl rfl hb32 rfl (fun _ _hx => N8 (i := (i : Int)) (RdK.ofRest hk (m30.ext _hx)) sL Qbk rfl Je Zg rfl rfl) <| D5 (s := 96) rfl rfl rfl hb32 rfl (fun _ _hx => Eo (i := (i : Int)) (dflt := Gu) (cs := (cl u8 ((ks.getD i Gu).c))) (RdK.ofRest hk (m30.ext _hx)) sL Xl rfl Zg rfl rfl Jb (kp_c (ks.getD i Gu))) ?_
       refine Gf m30 fun w33 m33 => Zj (s := 96) rfl rfl hb32 rfl (Tu (l := (ks.getD k Gu).c) (m := (ks.getD i Gu).c) Xl Vs Yw eqGuardType23 rfl rfl ysF ysF) <| Qd (Jg rfl hb32 rfl) <| rN ?_
       refine Zy rfl (fun hc34 => ?_) (fun hc34 => ?_)
       ·
        have hc34p := eq_of_beq hc34
        refine sR <| Zx (bl false) ?_
        refine rN (Zz ?_)
        refine Fe (Yv (Fe (Fe (Yv (Fe ?_)))))
        refine Qp [(bl false)] ⟨rfl, trivial⟩ ?_
        exact ⟨congrArg bl (by show _ = ((Nz n1 n2 n3 ks.length && Am sb tb sa ta oa) && okK ks ks.length); have hz := ok_no2 (show i < ks.length by omega) (show k < i by omega) (show hitK _ _ = true by unfold hitK; rw [hb32, hc34]; rfl); revert hc13 hc22 hz; generalize Nz n1 n2 n3 ks.length = b0; generalize Am sb tb sa ta oa = b1; generalize okK ks ks.length = b2; revert b0 b1 b2; decide), m33.toExt⟩
       ·
        have hc34p := ne_of_beq_false hc34
        refine Qn (Qe (Qb ?_))
        refine Yb s4 <| Qd (Zf (b := 1) rfl rfl oM oM) <| Zx (i64 ((k : Int) + 1)) <| rN ?_
        exact ⟨⟨(k + 1), oM, (by rw [Qmm oM, hdk]; unfold hitK; rw [hb32, hc34]; rfl), s0, s1, s3, rfl, s26, s62, s67, s77, m33⟩, Ue rfl z4 oM oM⟩
      ·
       have hb32p := ne_of_beq_false hb32
       refine D6 (s := 96) rfl rfl rfl hb32 rfl <| D6 (s := 96) rfl rfl rfl hb32 rfl <| D6 (s := 96) rfl rfl rfl hb32 rfl <| D6 (s := 96) rfl rfl rfl hb32 rfl <| D6 (s := 96) rfl rfl rfl hb32 rfl <| D6 (s := 96) rfl rfl rfl hb32 rfl <| D6 (s := 96) rfl rfl rfl hb32 rfl <| D6 (s := 96) rfl rfl rfl hb32 rfl <| D6 (s := 96) rfl rfl rfl hb32 rfl <| D6 (s := 96) rfl rfl rfl hb32 rfl <| D6 (s := 96) rfl rfl rfl hb32 rfl <| D6 (s := 96) rfl rfl rfl hb32 rfl ?_
       refine Gf m30 fun w35 m35 => Yg (s := 96) rfl rfl hb32 rfl <| Qd (Yz rfl hb32 rfl) <| rN <| Ja rfl Jb ?_
       refine Qn (Qe (Qb ?_))
       refine Yb s4 <| Qd (Zf (b := 1) rfl rfl oM oM) <| Zx (i64 ((k : Int) + 1)) <| rN ?_
       exact ⟨⟨(k + 1), oM, (by rw [Qmm oM, hdk]; unfold hitK; rw [hb32]; rfl), s0, s1, s3, rfl, s26, s62, s67, s77, m35⟩, Ue rfl z4 oM oM⟩
     ·
      have hc31p := of_decide_eq_false hc31
      refine X4 ?_
      refine Qj (Qj (Xi ?_))
      refine Qe (Qb ?_)
      refine Yb s3 <| Qd (Zf (b := 1) rfl rfl oM oM) <| Zx (i64 ((i : Int) + 1)) <| rN ?_
      exact ⟨⟨(i + 1), oM, (by rw [okK, hok, show dupB ks (ks.getD i Gu) i = false from (show k = i by omega) ▸ hdk, show Cb (ks.getD i Gu).n = true from by simpa using hc28]; rfl), s0, s1, rfl, s26, s62, m30⟩, Ue rfl z3 oM oM⟩
   ·
    have hc25p := of_decide_eq_false hc25
    refine X4 ?_
    refine Qj (Qj (Xi ?_))
    refine sR <| Zx (bl true) ?_
    refine rN (Zz ?_)
    refine Qp [(bl true)] ⟨rfl, trivial⟩ ?_
    exact ⟨congrArg bl (by show _ = ((Nz n1 n2 n3 ks.length && Am sb tb sa ta oa) && okK ks ks.length); have hz : okK ks ks.length = true := (show i = ks.length by omega) ▸ hok; revert hc13 hc22 hz; generalize Nz n1 n2 n3 ks.length = b0; generalize Am sb tb sa ta oa = b1; generalize okK ks ks.length = b2; revert b0 b1 b2; decide), m24.toExt⟩
end Go.Proofs.YtkmiemlpfkfiiaaDoor
