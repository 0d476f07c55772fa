/- The ratchet: sessions that may be. Conditions: none beyond those that each theorem states. -/
import Derived.Test.YtkmiemlpfkfiiaaDoorCu4
import Derived.Test.YtkmiemlpfkfiiaaDoorFwf
namespace Go.Proofs.YtkmiemlpfkfiiaaDoor
set_option linter.unusedVariables false
set_option linter.unusedSimpArgs false
structure Kp where
 c : List (BitVec 8)
 n : Int
 k : List (BitVec 8)
 hc : c.length = 32
 hk : k.length = 32
def J9 (a : Kp) : List Value := ([a.c.map u8, [i64 a.n], a.k.map u8] : List (List Value)).flatten
def F7 : Kp := ⟨List.replicate 32 0, 0, List.replicate 32 0, rfl, rfl⟩
theorem Qh4 (a : Kp) : (J9 a).length = 65 := by simp [J9, a.hc, a.hk]
theorem Qob (a : Kp) : (J9 a).all (·.oneCell') = true := by
 simp only [J9, List.flatten_cons, List.flatten_nil, List.append_nil, List.all_append, List.all_cons, List.all_nil, Bool.and_true]
 rw [Bool.and_eq_true, Bool.and_eq_true]
 refine ⟨?_, rfl, ?_⟩ <;> (rw [List.all_eq_true]; intro v hv; obtain ⟨a, _, rfl⟩ := List.mem_map.1 hv; rfl)
theorem kp_n (a : Kp) : (J9 a)[32]? = some (i64 a.n) := by
 have h : (a.c.map u8).length = 32 := by rw [List.length_map, a.hc]
 simp only [J9, List.flatten_cons, List.flatten_nil, List.append_nil]
 rw [List.getElem?_append_right oM, h]; rfl
theorem kp_c (a : Kp) : (((J9 a).drop 0).take 32).toArray = cl u8 a.c := by
 have h : (a.c.map u8).length = 32 := by rw [List.length_map, a.hc]
 simp only [J9, List.flatten_cons, List.flatten_nil, List.append_nil, List.drop_zero]
 rw [← h, List.take_left]; rfl
theorem kp_a (a : Kp) : (((J9 a).drop 0).take 65).toArray = Zl [a.c.map u8, [i64 a.n], a.k.map u8] := by
 rw [List.drop_zero, List.take_of_length_le (Nat.le_of_eq (Qh4 a))]; rfl
structure Ss where
 r : List (BitVec 8)
 w : List (BitVec 8)
 o : List (BitVec 8)
 sb : Bool
 tb : Bool
 s : List (BitVec 8)
 t : List (BitVec 8)
 n1 : Int
 n2 : Int
 n3 : Int
 ks : List Kp
def U8 (n : Int) : Bool := decide (0 ≤ n) && decide (n ≤ 2147483647)
def hitK (a b : Kp) : Bool := (a.n == b.n) && (a.c == b.c)
def dupB (ks : List Kp) (x : Kp) (k : Nat) : Bool := (ks.take k).any (fun a => hitK a x)
def okK (ks : List Kp) : Nat → Bool
 | 0 => true
 | i + 1 => okK ks i && (U8 (ks.getD i F7).n && !dupB ks (ks.getD i F7) i)
def z32 : List (BitVec 8) := List.replicate 32 0
def Be (a b c : Int) (k : Nat) : Bool := U8 a && (U8 b && (U8 c && decide ((k : Int) ≤ 2000)))
def Ei (sb tb : Bool) (s t o : List (BitVec 8)) : Bool := (sb || s == List.replicate 32 0#8) && ((tb || t == List.replicate 32 0#8) && ((sb || tb) || o == List.replicate 32 0#8))
def Aa (s : Ss) : Bool := (Be s.n1 s.n2 s.n3 s.ks.length && Ei s.sb s.tb s.s s.t s.o) && okK s.ks s.ks.length
theorem Qkz {ks : List Kp} {k : Nat} (h : k < ks.length) : ks.take (k + 1) = ks.take k ++ [ks.getD k F7] := by
 rw [List.take_add_one, List.getElem?_eq_getElem h, List.getD_eq_getElem?_getD, List.getElem?_eq_getElem h]; rfl
theorem Qi6 {ks : List Kp} {x : Kp} {k : Nat} (h : k < ks.length) : dupB ks x (k + 1) = (dupB ks x k || hitK (ks.getD k F7) x) := by
 unfold dupB; rw [Qkz h, List.any_append, List.any_cons, List.any_nil, Bool.or_false]
theorem dupB_0 (ks : List Kp) (x : Kp) : dupB ks x 0 = false := rfl
theorem Qmy {ks : List Kp} {x : Kp} {k : Nat} : ∀ m, k + m ≤ ks.length → dupB ks x k = true → dupB ks x (k + m) = true
 | 0, _, h => h
 | m + 1, hl, h => by rw [← Nat.add_assoc, Qi6 oM, Qmy m oM h, Bool.true_or]
theorem okK_up {ks : List Kp} {k : Nat} (h : okK ks k = false) : ∀ m, okK ks (k + m) = false
 | 0 => h
 | m + 1 => by rw [← Nat.add_assoc, okK, okK_up h m, Bool.false_and]
theorem ok_no {ks : List Kp} {i : Nat} (hi : i < ks.length) (h : okK ks (i + 1) = false) : okK ks ks.length = false := by
 have := okK_up h (ks.length - (i + 1))
 rwa [show i + 1 + (ks.length - (i + 1)) = ks.length by omega] at this
theorem ok_no1 {ks : List Kp} {i : Nat} (hi : i < ks.length) (h : U8 (ks.getD i F7).n = false) : okK ks ks.length = false :=
 ok_no hi (by rw [okK, h, Bool.false_and, Bool.and_false])
theorem ok_no2 {ks : List Kp} {i k : Nat} (hi : i < ks.length) (hk : k < i) (h : hitK (ks.getD k F7) (ks.getD i F7) = true) : okK ks ks.length = false := by
 have h1 : dupB ks (ks.getD i F7) (k + 1) = true := by rw [Qi6 oM, h, Bool.or_true]
 have h2 := Qmy (i - (k + 1)) oM h1
 rw [show k + 1 + (i - (k + 1)) = i by omega] at h2
 exact ok_no hi (by rw [okK, h2, Bool.not_true, Bool.and_false, Bool.and_false])
set_option maxHeartbeats 2000000 in
theorem c_may (n : Int) (w0 : World)   : Xz Tryd.prog 28 #[(i64 n)] w0 (fun r w1 => r = (bl (U8 n)) ∧ Ext w0 w1) := by
 refine Zd (args := [(i64 n)]) Tryd.func28 rfl Tryd.ntmps28 Tryd.results28 rfl ?_
 have m0 : Mem w0 (Qy w0) [] := Mem.of_world w0
 refine sR <| Qa rfl (Qc (v := (bl false)) rfl) ?_
 refine rN (sR ?_)
 refine Qa rfl (Qb (v := (i64 n)) rfl) <| Qa rfl (X5 (b := 0) rfl rfl) <| Qa rfl (Qb (v := (bl (decide (0 ≤ n)))) rfl) ?_
 rcases Bool.eq_false_or_eq_true (decide (0 ≤ n)) with hb1 | hb1
 ·
  have hb1p := of_decide_eq_true hb1
  refine Zt (s := 5) rfl rfl hb1 rfl (Qb (v := (i64 n)) rfl) <| Zt (s := 5) rfl rfl hb1 rfl (Qgf (b := 2147483647) rfl rfl) <| Qa rfl (Jd rfl hb1 rfl) <| Qa rfl (Qc (v := (bl (decide (n ≤ 2147483647)))) rfl) ?_
  refine rN (Xt ?_)
  refine Ze [(bl (decide (n ≤ 2147483647)))] ⟨rfl, trivial⟩ ?_
  exact ⟨congrArg bl (show _ = U8 n from by unfold U8; rw [hb1]; rfl), m0.toExt⟩
 ·
  have hb1p := of_decide_eq_false hb1
  refine Yd (s := 5) rfl rfl hb1 rfl <| Yd (s := 5) rfl rfl hb1 rfl <| Qa rfl (Yn rfl hb1 rfl) <| Qa rfl (Qc (v := (bl false)) rfl) ?_
  refine rN (Xt ?_)
  refine Ze [(bl false)] ⟨rfl, trivial⟩ ?_
  exact ⟨congrArg bl (show _ = U8 n from by unfold U8; rw [hb1]; rfl), m0.toExt⟩
set_option maxHeartbeats 2000000 in
theorem c_rright (ra wa oa : List (BitVec 8)) (sb tb : Bool) (sa ta : List (BitVec 8)) (n1 n2 n3 : Int) (vk : Value) (ks : List Kp) (w0 : World)  (hl : ra.length = 32 ∧ wa.length = 32 ∧ oa.length = 32 ∧ sa.length = 32 ∧ ta.length = 32) (hk : RdK (Yq w0) J9 65 vk ks) (hn : ks.length ≤ 1048576) : Xz Tryd.prog 11 #[(Value.agg (Zl (sE ra wa oa sb tb sa ta n1 n2 n3 vk)))] w0 (fun r w1 => r = (bl (Aa (Ss.mk ra wa oa sb tb sa ta n1 n2 n3 ks))) ∧ Ext w0 w1) := by
 refine Zd (args := [(Value.agg (Zl (sE ra wa oa sb tb sa ta n1 n2 n3 vk)))]) Tryd.func11 rfl Tryd.ntmps11 Tryd.results11 rfl ?_
 have m0 : Mem w0 (Qy w0) [] := Mem.of_world w0
 obtain ⟨hl1, hl2, hl3, hl4, hl5⟩ := hl
 refine sR <| Za rfl (Gx (cs := (Zl (sE ra wa oa sb tb sa ta n1 n2 n3 vk))) m0 rfl) ?_
 rintro _ w1 ⟨b1, rfl, e1, m1⟩
 refine Qa rfl (Qc (v := (bl false)) rfl) ?_
 refine rN (Qg (Qg ?_))
 refine Pv (J := fun g wv => g 0 = (Value.agg (Zl (sE ra wa oa sb tb sa ta n1 n2 n3 vk))) ∧ g 1 = (ptr b1 0) ∧ g 2 = (bl false) ∧ g 26 = (bl (!(Be n1 n2 n3 ks.length))) ∧ Mem wv (Qy w0) [(b1, .cells (Zl (sE ra wa oa sb tb sa ta n1 n2 n3 vk)) 26 (0, 0))]) ?_ ?_
 ·skip
  refine Qe <| Qa rfl (Xi (r := 162) Yu rfl (by first | rfl | omega) Dy rfl rfl) <| Qa rfl (Y7 7 Fj rfl m1.h0 rfl) <| Za rfl (oc28 (Jj rfl) (c_may _ _)) ?_
  rintro _ w2 ⟨rfl, e2⟩
  have m2 := m1.ext e2
  refine Qa rfl (G9 rfl) <| Qa rfl (Qb (v := (bl (!(U8 n1)))) rfl) ?_
  rcases Bool.eq_false_or_eq_true (!(U8 n1)) with hb4 | hb4
  ·
   have hb4n : (U8 n1) = false := by simpa using hb4
   refine Yd (s := 9) rfl rfl hb4 rfl <| Yd (s := 9) rfl rfl hb4 rfl <| Yd (s := 9) rfl rfl hb4 rfl <| Yd (s := 9) rfl rfl hb4 rfl <| Qa rfl (Jd rfl hb4 rfl) <| Qa rfl (Qb (v := (bl true)) rfl) <| Yd (s := 15) rfl rfl rfl rfl <| Yd (s := 15) rfl rfl rfl rfl <| Yd (s := 15) rfl rfl rfl rfl <| Yd (s := 15) rfl rfl rfl rfl <| Qa rfl (Ai rfl rfl) <| Qa rfl (Qb (v := (bl true)) rfl) ?_
   refine Yd (s := 21) rfl rfl rfl rfl <| Yd (s := 21) rfl rfl rfl rfl <| Yd (s := 21) rfl rfl rfl rfl <| Yd (s := 21) rfl rfl rfl rfl <| Qa rfl (Ai rfl rfl) <| rN ?_
   exact ⟨rfl, rfl, rfl, (Eq.trans rfl (congrArg bl (by unfold Be; rw [show decide ((ks.length : Int) ≤ 2000) = !decide (2000 < (ks.length : Int)) from Bool.eq_iff_iff.2 (by rw [decide_eq_true_eq, Bool.not_eq_true', decide_eq_false_iff_not]; omega)]; revert hb4; generalize U8 n1 = b0; generalize U8 n2 = b1; generalize U8 n3 = b2; generalize decide ((ks.length : Int) ≤ 2000) = b3; generalize decide (2000 < (ks.length : Int)) = b4; revert b0 b1 b2 b3 b4; decide))), m2⟩
  ·
   have hb4n : (U8 n1) = true := by simpa using hb4
   refine Zt (s := 9) rfl rfl hb4 rfl (Xi (r := 163) Yu rfl (by first | rfl | omega) Dy rfl rfl) <| Zt (s := 9) rfl rfl hb4 rfl (Y7 8 Fj rfl m2.h0 rfl) <| Qft (s := 9) rfl rfl hb4 rfl (oc28 (Jj rfl) (c_may _ _)) ?_
   rintro _ w5 ⟨rfl, e5⟩
   have m5 := m2.ext e5
   refine Zt (s := 9) rfl rfl hb4 rfl (G9 rfl) <| Qa rfl (Yn rfl hb4 rfl) <| Qa rfl (Qb (v := (bl (!(U8 n2)))) rfl) ?_
   rcases Bool.eq_false_or_eq_true (!(U8 n2)) with hb7 | hb7
   ·
    have hb7n : (U8 n2) = false := by simpa using hb7
    refine Yd (s := 15) rfl rfl hb7 rfl <| Yd (s := 15) rfl rfl hb7 rfl <| Yd (s := 15) rfl rfl hb7 rfl <| Yd (s := 15) rfl rfl hb7 rfl <| Qa rfl (Jd rfl hb7 rfl) <| Qa rfl (Qb (v := (bl true)) rfl) <| Yd (s := 21) rfl rfl rfl rfl <| Yd (s := 21) rfl rfl rfl rfl <| Yd (s := 21) rfl rfl rfl rfl <| Yd (s := 21) rfl rfl rfl rfl <| Qa rfl (Ai rfl rfl) <| rN ?_
    exact ⟨rfl, rfl, rfl, (Eq.trans rfl (congrArg bl (by unfold Be; rw [show decide ((ks.length : Int) ≤ 2000) = !decide (2000 < (ks.length : Int)) from Bool.eq_iff_iff.2 (by rw [decide_eq_true_eq, Bool.not_eq_true', decide_eq_false_iff_not]; omega)]; revert hb4 hb7; generalize U8 n1 = b0; generalize U8 n2 = b1; generalize U8 n3 = b2; generalize decide ((ks.length : Int) ≤ 2000) = b3; generalize decide (2000 < (ks.length : Int)) = b4; revert b0 b1 b2 b3 b4; decide))), m5⟩
   ·
    have hb7n : (U8 n2) = true := by simpa using hb7
    refine Zt (s := 15) rfl rfl hb7 rfl (Xi (r := 164) Yu rfl (by first | rfl | omega) Dy rfl rfl) <| Zt (s := 15) rfl rfl hb7 rfl (Y7 9 Fj rfl m5.h0 rfl) <| Qft (s := 15) rfl rfl hb7 rfl (oc28 (Jj rfl) (c_may _ _)) ?_
    rintro _ w8 ⟨rfl, e8⟩
    have m8 := m5.ext e8
    refine Zt (s := 15) rfl rfl hb7 rfl (G9 rfl) <| Qa rfl (Yn rfl hb7 rfl) <| Qa rfl (Qb (v := (bl (!(U8 n3)))) rfl) ?_
    rcases Bool.eq_false_or_eq_true (!(U8 n3)) with hb10 | hb10
    ·
     have hb10n : (U8 n3) = false := by simpa using hb10
     refine Yd (s := 21) rfl rfl hb10 rfl <| Yd (s := 21) rfl rfl hb10 rfl <| Yd (s := 21) rfl rfl hb10 rfl <| Yd (s := 21) rfl rfl hb10 rfl <| Qa rfl (Jd rfl hb10 rfl) <| rN ?_
     exact ⟨rfl, rfl, rfl, (Eq.trans rfl (congrArg bl (by unfold Be; rw [show decide ((ks.length : Int) ≤ 2000) = !decide (2000 < (ks.length : Int)) from Bool.eq_iff_iff.2 (by rw [decide_eq_true_eq, Bool.not_eq_true', decide_eq_false_iff_not]; omega)]; revert hb10 hb4 hb7; generalize U8 n1 = b0; generalize U8 n2 = b1; generalize U8 n3 = b2; generalize decide ((ks.length : Int) ≤ 2000) = b3; generalize decide (2000 < (ks.length : Int)) = b4; revert b0 b1 b2 b3 b4; decide))), m8⟩
    ·
     have hb10n : (U8 n3) = true := by simpa using hb10
     refine Zt (s := 21) rfl rfl hb10 rfl (Xi (r := 165) Yu rfl (by first | rfl | omega) Qbu rfl rfl) <| Zt (s := 21) rfl rfl hb10 rfl (Y7 10 Dl rfl m8.h0 rfl) <| Zt (s := 21) rfl rfl hb10 rfl (L8 (RdK.ofRest hk m8) Dl rfl) <| Zt (s := 21) rfl rfl hb10 rfl (W9 (b := 2000) rfl rfl) <| Qa rfl (Yn rfl hb10 rfl) <| rN ?_
     exact ⟨rfl, rfl, rfl, (Eq.trans rfl (congrArg bl (by unfold Be; rw [show decide ((ks.length : Int) ≤ 2000) = !decide (2000 < (ks.length : Int)) from Bool.eq_iff_iff.2 (by rw [decide_eq_true_eq, Bool.not_eq_true', decide_eq_false_iff_not]; omega)]; revert hb10 hb4 hb7; generalize U8 n1 = b0; generalize U8 n2 = b1; generalize U8 n3 = b2; generalize decide ((ks.length : Int) ≤ 2000) = b3; generalize decide (2000 < (ks.length : Int)) = b4; revert b0 b1 b2 b3 b4; decide))), m8⟩
 rintro fr11 w12 ⟨s0, s1, s2, s26, m12⟩
 refine Xv s26 (fun hc13 => ?_) (fun hc13 => ?_)
 ·
  have hc13n : (Be n1 n2 n3 ks.length) = false := by simpa using hc13
  refine sR <| Qa rfl (Qc (v := (bl false)) rfl) ?_
  refine rN (Xt (Vg ?_))
  refine Ze [(bl false)] ⟨rfl, trivial⟩ ?_
  exact ⟨congrArg bl (by show _ = ((Be n1 n2 n3 ks.length && Ei sb tb sa ta oa) && okK ks ks.length); revert hc13; generalize Be n1 n2 n3 ks.length = b0; generalize Ei sb tb sa ta oa = b1; generalize okK ks ks.length = b2; revert b0 b1 b2; decide), m12.toExt⟩
 ·
  have hc13n : (Be n1 n2 n3 ks.length) = true := by simpa using hc13
  refine Q7 (Qh (Qg (Qg ?_)))
  refine Pv (J := fun g wv => g 0 = (Value.agg (Zl (sE ra wa oa sb tb sa ta n1 n2 n3 vk))) ∧ g 1 = (ptr b1 0) ∧ g 2 = (bl false) ∧ g 26 = (bl (!(Be n1 n2 n3 ks.length))) ∧ g 62 = (bl (!(Ei sb tb sa ta oa))) ∧ Mem wv (Qy w0) [(b1, .cells (Zl (sE ra wa oa sb tb sa ta n1 n2 n3 vk)) 26 (0, 0))]) ?_ ?_
  ·skip
   refine Qe <| Qa rfl (Xi (r := 96) Yu rfl (by first | rfl | omega) ti4 rfl s1) <| Qa rfl (Y7 3 uT4 rfl m12.h0 rfl) <| Qa rfl (G9 rfl) <| Qa rfl (Qb (v := (bl (!sb))) rfl) ?_
   rcases Bool.eq_false_or_eq_true (!sb) with hb14 | hb14
   ·
    have hb14n : sb = false := by simpa using hb14
    refine Zt (s := 30) rfl rfl hb14 rfl (Xi (r := 98) Yu rfl (by first | rfl | omega) Z9 rfl s1) <| Zt (s := 30) rfl rfl hb14 rfl (Vk 5 X3 Z9 rfl m12.h0 rfl) <| Zt (s := 30) rfl rfl hb14 rfl (Jp (ps := []) (c := (cl u8 (List.replicate 32 0))) Z9 X3 X6 (by simp) rfl) <| Zt (s := 30) rfl rfl hb14 rfl (Gy (l := sa) (m := List.replicate 32 0) X3 Vm X6 Tryd.eqGuardType23 rfl rfl (by first | rfl | first | omega | (simp only [List.length_set, List.length_append, List.length_replicate, List.length_map, List.length_cons, List.length_nil]; omega) | (simp; done) | (simp; omega) | decide) (by first | rfl | first | omega | (simp only [List.length_set, List.length_append, List.length_replicate, List.length_map, List.length_cons, List.length_nil]; omega) | (simp; done) | (simp; omega) | decide)) <| Qa rfl (Jd rfl hb14 rfl) <| Qa rfl (Qb (v := (bl (sa != (List.replicate 32 0)))) rfl) ?_
    rcases Bool.eq_false_or_eq_true (sa != (List.replicate 32 0)) with hb15 | hb15
    ·
     have hb15p := bne_iff_ne.1 hb15
     refine Yd (s := 36) rfl rfl hb15 rfl <| Yd (s := 36) rfl rfl hb15 rfl <| Yd (s := 36) rfl rfl hb15 rfl <| Yd (s := 36) rfl rfl hb15 rfl <| Fq (s := 40) rfl rfl rfl <| Fq (s := 40) rfl rfl rfl <| Fq (s := 40) rfl rfl rfl <| Fq (s := 40) rfl rfl rfl <| Yd (s := 36) rfl rfl hb15 rfl <| Qa rfl (Jd rfl hb15 rfl) <| Qa rfl (Qb (v := (bl true)) rfl) <| Yd (s := 47) rfl rfl rfl rfl ?_
     refine Yd (s := 47) rfl rfl rfl rfl <| Yd (s := 47) rfl rfl rfl rfl <| Yd (s := 47) rfl rfl rfl rfl <| Fq (s := 51) rfl rfl rfl <| Fq (s := 51) rfl rfl rfl <| Fq (s := 51) rfl rfl rfl <| Yd (s := 47) rfl rfl rfl rfl <| Yd (s := 47) rfl rfl rfl rfl <| Fq (s := 56) rfl rfl rfl <| Fq (s := 56) rfl rfl rfl <| Fq (s := 56) rfl rfl rfl <| Fq (s := 56) rfl rfl rfl ?_
     refine Yd (s := 47) rfl rfl rfl rfl <| Qa rfl (Ai rfl rfl) <| rN ?_
     exact ⟨s0, s1, s2, s26, (Eq.trans rfl (congrArg bl (by unfold Ei; (try simp only [bne] at *); revert hb14 hb15 hc13; generalize Be n1 n2 n3 ks.length = b0; generalize sb = b1; generalize tb = b2; generalize (sa == List.replicate 32 0#8) = b3; generalize (ta == List.replicate 32 0#8) = b4; generalize (oa == List.replicate 32 0#8) = b5; revert b0 b1 b2 b3 b4 b5; decide))), m12⟩
    ·
     have hb15p := Kt hb15
     refine Zt (s := 36) rfl rfl hb15 rfl (Xi (r := 97) Yu rfl (by first | rfl | omega) ti4 rfl s1) <| Zt (s := 36) rfl rfl hb15 rfl (Y7 4 uT4 rfl m12.h0 rfl) <| Zt (s := 36) rfl rfl hb15 rfl (G9 rfl) <| Zt (s := 36) rfl rfl hb15 rfl (Qb (v := (bl (!tb))) rfl) ?_
     rcases Bool.eq_false_or_eq_true (!tb) with hb16 | hb16
     ·
      have hb16n : tb = false := by simpa using hb16
      refine Zt (s := 40) rfl rfl hb16 rfl (Xi (r := 130) Yu rfl (by first | rfl | omega) Z9 rfl s1) <| Zt (s := 40) rfl rfl hb16 rfl (Vk 6 X3 Z9 rfl m12.h0 rfl) <| Zt (s := 40) rfl rfl hb16 rfl (Jp (ps := []) (c := (cl u8 (List.replicate 32 0))) Z9 X3 X6 (by simp) rfl) <| Zt (s := 40) rfl rfl hb16 rfl (Gy (l := ta) (m := List.replicate 32 0) X3 Vm X6 Tryd.eqGuardType23 rfl rfl (by first | rfl | first | omega | (simp only [List.length_set, List.length_append, List.length_replicate, List.length_map, List.length_cons, List.length_nil]; omega) | (simp; done) | (simp; omega) | decide) (by first | rfl | first | omega | (simp only [List.length_set, List.length_append, List.length_replicate, List.length_map, List.length_cons, List.length_nil]; omega) | (simp; done) | (simp; omega) | decide)) <| Zt (s := 36) rfl rfl hb15 rfl (Jd rfl hb16 rfl) <| Qa rfl (Yn rfl hb15 rfl) <| Qa rfl (Qb (v := (bl (ta != (List.replicate 32 0)))) rfl) ?_
      rcases Bool.eq_false_or_eq_true (ta != (List.replicate 32 0)) with hb17 | hb17
      ·
       have hb17p := bne_iff_ne.1 hb17
       refine Yd (s := 47) rfl rfl hb17 rfl <| Yd (s := 47) rfl rfl hb17 rfl <| Yd (s := 47) rfl rfl hb17 rfl <| Yd (s := 47) rfl rfl hb17 rfl <| Fq (s := 51) rfl rfl rfl <| Fq (s := 51) rfl rfl rfl <| Fq (s := 51) rfl rfl rfl <| Yd (s := 47) rfl rfl hb17 rfl <| Yd (s := 47) rfl rfl hb17 rfl <| Fq (s := 56) rfl rfl rfl <| Fq (s := 56) rfl rfl rfl <| Fq (s := 56) rfl rfl rfl ?_
       refine Fq (s := 56) rfl rfl rfl <| Yd (s := 47) rfl rfl hb17 rfl <| Qa rfl (Jd rfl hb17 rfl) <| rN ?_
       exact ⟨s0, s1, s2, s26, (Eq.trans rfl (congrArg bl (by unfold Ei; (try simp only [bne] at *); revert hb14 hb15 hb16 hb17 hc13; generalize Be n1 n2 n3 ks.length = b0; generalize sb = b1; generalize tb = b2; generalize (sa == List.replicate 32 0#8) = b3; generalize (ta == List.replicate 32 0#8) = b4; generalize (oa == List.replicate 32 0#8) = b5; revert b0 b1 b2 b3 b4 b5; decide))), m12⟩
      ·
       have hb17p := Kt hb17
       refine Zt (s := 47) rfl rfl hb17 rfl (Xi (r := 96) Yu rfl (by first | rfl | omega) ti4 rfl s1) <| Zt (s := 47) rfl rfl hb17 rfl (Y7 3 uT4 rfl m12.h0 rfl) <| Zt (s := 47) rfl rfl hb17 rfl (G9 rfl) <| Zt (s := 47) rfl rfl hb17 rfl (Qb (v := (bl (!sb))) rfl) <| Zt (s := 51) rfl rfl hb14 rfl (Xi (r := 97) Yu rfl (by first | rfl | omega) ti4 rfl s1) <| Zt (s := 51) rfl rfl hb14 rfl (Y7 4 uT4 rfl m12.h0 rfl) <| Zt (s := 51) rfl rfl hb14 rfl (G9 rfl) <| Zt (s := 47) rfl rfl hb17 rfl (Jd rfl hb14 rfl) <| Zt (s := 47) rfl rfl hb17 rfl (Qb (v := (bl (!tb))) rfl) <| Zt (s := 56) rfl rfl hb16 rfl (Xi (r := 64) Yu rfl (by first | rfl | omega) Z9 rfl s1) <| Zt (s := 56) rfl rfl hb16 rfl (Vk 2 X3 Z9 rfl m12.h0 rfl) <| Zt (s := 56) rfl rfl hb16 rfl (Jp (ps := []) (c := (cl u8 (List.replicate 32 0))) Z9 X3 X6 (by simp) rfl) ?_
       refine Zt (s := 56) rfl rfl hb16 rfl (Gy (l := oa) (m := List.replicate 32 0) X3 Vm X6 Tryd.eqGuardType23 rfl rfl (by first | rfl | first | omega | (simp only [List.length_set, List.length_append, List.length_replicate, List.length_map, List.length_cons, List.length_nil]; omega) | (simp; done) | (simp; omega) | decide) (by first | rfl | first | omega | (simp only [List.length_set, List.length_append, List.length_replicate, List.length_map, List.length_cons, List.length_nil]; omega) | (simp; done) | (simp; omega) | decide)) <| Zt (s := 47) rfl rfl hb17 rfl (Jd rfl hb16 rfl) <| Qa rfl (Yn rfl hb17 rfl) <| rN ?_
       exact ⟨s0, s1, s2, s26, (Eq.trans rfl (congrArg bl (by unfold Ei; (try simp only [bne] at *); revert hb14 hb15 hb16 hb17 hc13; generalize Be n1 n2 n3 ks.length = b0; generalize sb = b1; generalize tb = b2; generalize (sa == List.replicate 32 0#8) = b3; generalize (ta == List.replicate 32 0#8) = b4; generalize (oa == List.replicate 32 0#8) = b5; revert b0 b1 b2 b3 b4 b5; decide))), m12⟩
     ·
      have hb16n : tb = true := by simpa using hb16
      refine Yd (s := 40) rfl rfl hb16 rfl <| Yd (s := 40) rfl rfl hb16 rfl <| Yd (s := 40) rfl rfl hb16 rfl <| Yd (s := 40) rfl rfl hb16 rfl <| Zt (s := 36) rfl rfl hb15 rfl (Yn rfl hb16 rfl) <| Qa rfl (Yn rfl hb15 rfl) <| Qa rfl (Qb (v := (bl false)) rfl) <| Zt (s := 47) rfl rfl rfl rfl (Xi (r := 96) Yu rfl (by first | rfl | omega) ti4 rfl s1) <| Zt (s := 47) rfl rfl rfl rfl (Y7 3 uT4 rfl m12.h0 rfl) <| Zt (s := 47) rfl rfl rfl rfl (G9 rfl) <| Zt (s := 47) rfl rfl rfl rfl (Qb (v := (bl (!sb))) rfl) <| Zt (s := 51) rfl rfl hb14 rfl (Xi (r := 97) Yu rfl (by first | rfl | omega) ti4 rfl s1) ?_
      refine Zt (s := 51) rfl rfl hb14 rfl (Y7 4 uT4 rfl m12.h0 rfl) <| Zt (s := 51) rfl rfl hb14 rfl (G9 rfl) <| Zt (s := 47) rfl rfl rfl rfl (Jd rfl hb14 rfl) <| Zt (s := 47) rfl rfl rfl rfl (Qb (v := (bl (!tb))) rfl) <| Yd (s := 56) rfl rfl hb16 rfl <| Yd (s := 56) rfl rfl hb16 rfl <| Yd (s := 56) rfl rfl hb16 rfl <| Yd (s := 56) rfl rfl hb16 rfl <| Zt (s := 47) rfl rfl rfl rfl (Yn rfl hb16 rfl) <| Qa rfl (Cf rfl rfl) <| rN ?_
      exact ⟨s0, s1, s2, s26, (Eq.trans rfl (congrArg bl (by unfold Ei; (try simp only [bne] at *); revert hb14 hb15 hb16 hc13; generalize Be n1 n2 n3 ks.length = b0; generalize sb = b1; generalize tb = b2; generalize (sa == List.replicate 32 0#8) = b3; generalize (ta == List.replicate 32 0#8) = b4; generalize (oa == List.replicate 32 0#8) = b5; revert b0 b1 b2 b3 b4 b5; decide))), m12⟩
   ·
    have hb14n : sb = true := by simpa using hb14
    refine Yd (s := 30) rfl rfl hb14 rfl <| Yd (s := 30) rfl rfl hb14 rfl <| Yd (s := 30) rfl rfl hb14 rfl <| Yd (s := 30) rfl rfl hb14 rfl <| Qa rfl (Yn rfl hb14 rfl) <| Qa rfl (Qb (v := (bl false)) rfl) <| Zt (s := 36) rfl rfl rfl rfl (Xi (r := 97) Yu rfl (by first | rfl | omega) ti4 rfl s1) <| Zt (s := 36) rfl rfl rfl rfl (Y7 4 uT4 rfl m12.h0 rfl) <| Zt (s := 36) rfl rfl rfl rfl (G9 rfl) <| Zt (s := 36) rfl rfl rfl rfl (Qb (v := (bl (!tb))) rfl) ?_
    rcases Bool.eq_false_or_eq_true (!tb) with hb18 | hb18
    ·
     have hb18n : tb = false := by simpa using hb18
     refine Zt (s := 40) rfl rfl hb18 rfl (Xi (r := 130) Yu rfl (by first | rfl | omega) Z9 rfl s1) <| Zt (s := 40) rfl rfl hb18 rfl (Vk 6 X3 Z9 rfl m12.h0 rfl) <| Zt (s := 40) rfl rfl hb18 rfl (Jp (ps := []) (c := (cl u8 (List.replicate 32 0))) Z9 X3 X6 (by simp) rfl) <| Zt (s := 40) rfl rfl hb18 rfl (Gy (l := ta) (m := List.replicate 32 0) X3 Vm X6 Tryd.eqGuardType23 rfl rfl (by first | rfl | first | omega | (simp only [List.length_set, List.length_append, List.length_replicate, List.length_map, List.length_cons, List.length_nil]; omega) | (simp; done) | (simp; omega) | decide) (by first | rfl | first | omega | (simp only [List.length_set, List.length_append, List.length_replicate, List.length_map, List.length_cons, List.length_nil]; omega) | (simp; done) | (simp; omega) | decide)) <| Zt (s := 36) rfl rfl rfl rfl (Jd rfl hb18 rfl) <| Qa rfl (Cf rfl rfl) <| Qa rfl (Qb (v := (bl (ta != (List.replicate 32 0)))) rfl) ?_
     rcases Bool.eq_false_or_eq_true (ta != (List.replicate 32 0)) with hb19 | hb19
     ·
      have hb19p := bne_iff_ne.1 hb19
      refine Yd (s := 47) rfl rfl hb19 rfl <| Yd (s := 47) rfl rfl hb19 rfl <| Yd (s := 47) rfl rfl hb19 rfl <| Yd (s := 47) rfl rfl hb19 rfl <| Fq (s := 51) rfl rfl rfl <| Fq (s := 51) rfl rfl rfl <| Fq (s := 51) rfl rfl rfl <| Yd (s := 47) rfl rfl hb19 rfl <| Yd (s := 47) rfl rfl hb19 rfl <| Fq (s := 56) rfl rfl rfl <| Fq (s := 56) rfl rfl rfl <| Fq (s := 56) rfl rfl rfl ?_
      refine Fq (s := 56) rfl rfl rfl <| Yd (s := 47) rfl rfl hb19 rfl <| Qa rfl (Jd rfl hb19 rfl) <| rN ?_
      exact ⟨s0, s1, s2, s26, (Eq.trans rfl (congrArg bl (by unfold Ei; (try simp only [bne] at *); revert hb14 hb18 hb19 hc13; generalize Be n1 n2 n3 ks.length = b0; generalize sb = b1; generalize tb = b2; generalize (sa == List.replicate 32 0#8) = b3; generalize (ta == List.replicate 32 0#8) = b4; generalize (oa == List.replicate 32 0#8) = b5; revert b0 b1 b2 b3 b4 b5; decide))), m12⟩
     ·
      have hb19p := Kt hb19
      refine Zt (s := 47) rfl rfl hb19 rfl (Xi (r := 96) Yu rfl (by first | rfl | omega) ti4 rfl s1) <| Zt (s := 47) rfl rfl hb19 rfl (Y7 3 uT4 rfl m12.h0 rfl) <| Zt (s := 47) rfl rfl hb19 rfl (G9 rfl) <| Zt (s := 47) rfl rfl hb19 rfl (Qb (v := (bl (!sb))) rfl) <| Yd (s := 51) rfl rfl hb14 rfl <| Yd (s := 51) rfl rfl hb14 rfl <| Yd (s := 51) rfl rfl hb14 rfl <| Zt (s := 47) rfl rfl hb19 rfl (Yn rfl hb14 rfl) <| Zt (s := 47) rfl rfl hb19 rfl (Qb (v := (bl false)) rfl) <| Yd (s := 56) rfl rfl rfl rfl <| Yd (s := 56) rfl rfl rfl rfl <| Yd (s := 56) rfl rfl rfl rfl ?_
      refine Yd (s := 56) rfl rfl rfl rfl <| Zt (s := 47) rfl rfl hb19 rfl (Cf rfl rfl) <| Qa rfl (Yn rfl hb19 rfl) <| rN ?_
      exact ⟨s0, s1, s2, s26, (Eq.trans rfl (congrArg bl (by unfold Ei; (try simp only [bne] at *); revert hb14 hb18 hb19 hc13; generalize Be n1 n2 n3 ks.length = b0; generalize sb = b1; generalize tb = b2; generalize (sa == List.replicate 32 0#8) = b3; generalize (ta == List.replicate 32 0#8) = b4; generalize (oa == List.replicate 32 0#8) = b5; revert b0 b1 b2 b3 b4 b5; decide))), m12⟩
    ·
     have hb18n : tb = true := by simpa using hb18
     refine Yd (s := 40) rfl rfl hb18 rfl <| Yd (s := 40) rfl rfl hb18 rfl <| Yd (s := 40) rfl rfl hb18 rfl <| Yd (s := 40) rfl rfl hb18 rfl <| Zt (s := 36) rfl rfl rfl rfl (Yn rfl hb18 rfl) <| Qa rfl (Cf rfl rfl) <| Qa rfl (Qb (v := (bl false)) rfl) <| Zt (s := 47) rfl rfl rfl rfl (Xi (r := 96) Yu rfl (by first | rfl | omega) ti4 rfl s1) <| Zt (s := 47) rfl rfl rfl rfl (Y7 3 uT4 rfl m12.h0 rfl) <| Zt (s := 47) rfl rfl rfl rfl (G9 rfl) <| Zt (s := 47) rfl rfl rfl rfl (Qb (v := (bl (!sb))) rfl) <| Yd (s := 51) rfl rfl hb14 rfl ?_
     refine Yd (s := 51) rfl rfl hb14 rfl <| Yd (s := 51) rfl rfl hb14 rfl <| Zt (s := 47) rfl rfl rfl rfl (Yn rfl hb14 rfl) <| Zt (s := 47) rfl rfl rfl rfl (Qb (v := (bl false)) rfl) <| Yd (s := 56) rfl rfl rfl rfl <| Yd (s := 56) rfl rfl rfl rfl <| Yd (s := 56) rfl rfl rfl rfl <| Yd (s := 56) rfl rfl rfl rfl <| Zt (s := 47) rfl rfl rfl rfl (Cf rfl rfl) <| Qa rfl (Cf rfl rfl) <| rN ?_
     exact ⟨s0, s1, s2, s26, (Eq.trans rfl (congrArg bl (by unfold Ei; (try simp only [bne] at *); revert hb14 hb18 hc13; generalize Be n1 n2 n3 ks.length = b0; generalize sb = b1; generalize tb = b2; generalize (sa == List.replicate 32 0#8) = b3; generalize (ta == List.replicate 32 0#8) = b4; generalize (oa == List.replicate 32 0#8) = b5; revert b0 b1 b2 b3 b4 b5; decide))), m12⟩
  rintro fr20 w21 ⟨s0, s1, s2, s26, s62, m21⟩
  refine Xv s62 (fun hc22 => ?_) (fun hc22 => ?_)
  ·
   have hc22n : (Ei sb tb sa ta oa) = false := by simpa using hc22
   refine sR <| Qa rfl (Qc (v := (bl false)) rfl) ?_
   refine rN (Xt (Vg ?_))
   refine Ze [(bl false)] ⟨rfl, trivial⟩ ?_
   exact ⟨congrArg bl (by show _ = ((Be n1 n2 n3 ks.length && Ei sb tb sa ta oa) && okK ks ks.length); revert hc13 hc22; generalize Be n1 n2 n3 ks.length = b0; generalize Ei sb tb sa ta oa = b1; generalize okK ks ks.length = b2; revert b0 b1 b2; decide), m21.toExt⟩
  ·
   have hc22n : (Ei sb tb sa ta oa) = true := by simpa using hc22
   refine Q7 (Qh (Qg (sR ?_)))
   refine Qa rfl (Qc (v := (i64 0)) rfl) ?_
   refine rN (Qo ?_)
   refine Yo (fun g wv => ∃ (i : Nat), (i ≤ ks.length) ∧ (okK ks i = true) ∧ g 0 = (Value.agg (Zl (sE ra wa oa sb tb sa ta n1 n2 n3 vk))) ∧ g 1 = (ptr b1 0) ∧ g 3 = (i64 (i : Int)) ∧ g 26 = (bl (!(Be n1 n2 n3 ks.length))) ∧ g 62 = (bl (!(Ei sb tb sa ta oa))) ∧ Mem wv (Qy w0) [(b1, .cells (Zl (sE ra wa oa sb tb sa ta n1 n2 n3 vk)) 26 (0, 0))]) (fun g wv => ((ks.length : Int) - RowKit.intOf (g 3)).toNat) ?_ ?_
   ·exact ⟨0, oM, rfl, s0, s1, rfl, s26, s62, m21⟩
   rintro fr23 w24 ⟨i, hi, hok, s0, s1, s3, s26, s62, m24⟩
   have z3 := s3
   have hkc := (ks.getD i F7).hc; have hkk := (ks.getD i F7).hk
   refine Qg (sR ?_)
   refine rM rfl s3 <| Qa rfl (Xi (r := 165) Yu rfl (by first | rfl | omega) Qbu rfl s1) <| Qa rfl (Y7 10 Dl rfl m24.h0 rfl) <| Qa rfl (L8 (RdK.ofRest hk m24) Dl rfl) <| Qa rfl (Qs rfl rfl) <| rN ?_
   refine Xv rfl (fun hc25 => ?_) (fun hc25 => ?_)
   ·
    have hc25p := of_decide_eq_true hc25
    refine Q7 (Qh (Qg (Qo (Qg (sR ?_)))))
    refine Qa rfl (Xi (r := 165) Yu rfl (by first | rfl | omega) Qbu rfl s1) <| Qa rfl (Y7 10 Dl rfl m24.h0 rfl) <| rM rfl s3 <| Qa rfl (Ym (i := (i : Int)) (RdK.ofRest hk m24) Dl Qfm rfl rfl oM sL) <| Qa rfl (Qa4 (i := (i : Int)) (RdK.ofRest hk m24) sL uT69 rfl (by first | rfl | omega) Dy rfl rfl) <| Qa (v := (i64 ((ks.getD i F7).n))) rfl (Fe (i := (i : Int)) (dflt := F7) (u := (i64 ((ks.getD i F7).n))) (RdK.ofRest hk m24) sL Fj rfl rfl (by decide) (kp_n (ks.getD i F7))) <| Za rfl (oc28 (Jj rfl) (c_may _ _)) ?_
    rintro _ w26 ⟨rfl, e26⟩
    have m26 := m24.ext e26
    refine Qa rfl (G9 rfl) <| rN ?_
    refine Xv rfl (fun hc28 => ?_) (fun hc28 => ?_)
    ·
     have hc28n : (U8 ((ks.getD i F7).n)) = false := by simpa using hc28
     refine sR <| Qa rfl (Qc (v := (bl false)) rfl) ?_
     refine rN (Xt ?_)
     refine Vg (Du (Vg (Du ?_)))
     refine Ze [(bl false)] ⟨rfl, trivial⟩ ?_
     exact ⟨congrArg bl (by show _ = ((Be n1 n2 n3 ks.length && Ei sb tb sa ta oa) && okK ks ks.length); have hz := ok_no1 (show i < ks.length by omega) (show U8 _ = false by simpa using hc28); revert hc13 hc22 hz; generalize Be n1 n2 n3 ks.length = b0; generalize Ei sb tb sa ta oa = b1; generalize okK ks ks.length = b2; revert b0 b1 b2; decide), m26.toExt⟩
    ·
     have hc28n : (U8 ((ks.getD i F7).n)) = true := by simpa using hc28
     refine Q7 (Qh (sR ?_))
     refine Qa rfl (Qc (v := (i64 0)) rfl) ?_
     refine rN (Vq ?_)
     refine Yo (fun g wv => ∃ (k : Nat), (k ≤ i) ∧ (dupB ks (ks.getD i F7) k = false) ∧ g 0 = (Value.agg (Zl (sE ra wa oa sb tb sa ta n1 n2 n3 vk))) ∧ g 1 = (ptr b1 0) ∧ g 3 = (i64 (i : Int)) ∧ g 4 = (i64 (k : Int)) ∧ g 26 = (bl (!(Be n1 n2 n3 ks.length))) ∧ g 62 = (bl (!(Ei sb tb sa ta oa))) ∧ g 67 = (bl (decide ((i : Int) < (ks.length : Int)))) ∧ g 77 = (bl (!(U8 ((ks.getD i F7).n)))) ∧ Mem wv (Qy w0) [(b1, .cells (Zl (sE ra wa oa sb tb sa ta n1 n2 n3 vk)) 26 (0, 0))]) (fun g wv => ((i : Int) - RowKit.intOf (g 4)).toNat) ?_ ?_
     ·exact ⟨0, oM, (dupB_0 _ _), s0, s1, s3, rfl, s26, s62, rfl, rfl, m26⟩
     rintro fr29 w30 ⟨k, hk1, hdk, s0, s1, s3, s4, s26, s62, s67, s77, m30⟩
     have z4 := s4
     have hkc1 := (ks.getD k F7).hc; have hkk1 := (ks.getD k F7).hk
     refine Qg (sR ?_)
     refine rM rfl s4 <| rM rfl s3 <| Qa rfl (Qs rfl rfl) <| rN ?_
     refine Xv rfl (fun hc31 => ?_) (fun hc31 => ?_)
     ·
      have hc31p := of_decide_eq_true hc31
      refine Q7 (Qh (Qg (Qo (Qg ?_))))
      refine Xq (dl 26) 26 (by kernel_rfl) <| Qj rfl rfl (fun _ _hx => Xi (r := 165) Yu rfl (by first | rfl | omega) Qbu rfl s1) <| Qj rfl rfl (fun _ _hx => Y7 10 Dl rfl (m30.ext _hx).h0 rfl) <| dM rfl rfl s4 <| Qj rfl rfl (fun _ _hx => Ym (i := (k : Int)) (RdK.ofRest hk (m30.ext _hx)) Dl Qfm rfl rfl oM sL) <| Qj rfl rfl (fun _ _hx => Qa4 (i := (k : Int)) (RdK.ofRest hk (m30.ext _hx)) sL uT69 rfl (by first | rfl | omega) Dy rfl rfl) <| Qj (v := (i64 ((ks.getD k F7).n))) rfl rfl (fun _ _hx => Fe (i := (k : Int)) (dflt := F7) (u := (i64 ((ks.getD k F7).n))) (RdK.ofRest hk (m30.ext _hx)) sL Fj rfl rfl (by decide) (kp_n (ks.getD k F7))) <| Qj rfl rfl (fun _ _hx => Xi (r := 165) Yu rfl (by first | rfl | omega) Qbu rfl s1) <| Qj rfl rfl (fun _ _hx => Y7 10 Dl rfl (m30.ext _hx).h0 rfl) <| dM rfl rfl s3 <| Qj rfl rfl (fun _ _hx => Ym (i := (i : Int)) (RdK.ofRest hk (m30.ext _hx)) Dl Qfm rfl rfl oM sL) <| Qj rfl rfl (fun _ _hx => Qa4 (i := (i : Int)) (RdK.ofRest hk (m30.ext _hx)) sL uT69 rfl (by first | rfl | omega) Dy rfl rfl) ?_
      refine Qj (v := (i64 ((ks.getD i F7).n))) rfl rfl (fun _ _hx => Fe (i := (i : Int)) (dflt := F7) (u := (i64 ((ks.getD i F7).n))) (RdK.ofRest hk (m30.ext _hx)) sL Fj rfl rfl (by decide) (kp_n (ks.getD i F7))) <| Qj rfl rfl (fun _ _hx => Vp rfl rfl) <| Qj rfl rfl (fun _ _hx => Qb (v := (bl (((ks.getD k F7).n) == ((ks.getD i F7).n)))) rfl) ?_
      rcases Bool.eq_false_or_eq_true (((ks.getD k F7).n) == ((ks.getD i F7).n)) with hb32 | hb32
      ·
       have hb32p := eq_of_beq hb32
       refine Eo (s := 96) rfl rfl rfl hb32 rfl (fun _ _hx => Xi (r := 165) Yu rfl (by first | rfl | omega) Qbu rfl s1) <| Eo (s := 96) rfl rfl rfl hb32 rfl (fun _ _hx => Y7 10 Dl rfl (m30.ext _hx).h0 rfl) <| Eo (s := 96) rfl rfl rfl hb32 rfl (fun _ _hx => Qb s4) <| Eo (s := 96) rfl rfl rfl hb32 rfl (fun _ _hx => Ym (i := (k : Int)) (RdK.ofRest hk (m30.ext _hx)) Dl Qfm rfl rfl oM sL) <| Eo (s := 96) rfl rfl rfl hb32 rfl (fun _ _hx => Qa4 (i := (k : Int)) (RdK.ofRest hk (m30.ext _hx)) sL uT69 rfl (by first | rfl | omega) Z9 rfl rfl) <| Eo (s := 96) rfl rfl rfl hb32 rfl (fun _ _hx => Hz (i := (k : Int)) (dflt := F7) (cs := (cl u8 ((ks.getD k F7).c))) (RdK.ofRest hk (m30.ext _hx)) sL X3 rfl Z9 rfl rfl (by decide) (kp_c (ks.getD k F7))) <| Eo (s := 96) rfl rfl rfl hb32 rfl (fun _ _hx => Xi (r := 165) Yu rfl (by first | rfl | omega) Qbu rfl s1) <| Eo (s := 96) rfl rfl rfl hb32 rfl (fun _ _hx => Y7 10 Dl rfl (m30.ext _hx).h0 rfl) <| Eo (s := 96) rfl rfl rfl hb32 rfl (fun _ _hx => Qb s3) <| Eo (s := 96) rfl rfl rfl hb32 rfl (fun _ _hx => Ym (i := (i : Int)) (RdK.ofRest hk (m30.ext _hx)) Dl Qfm rfl rfl oM sL) <| Eo (s := 96) rfl rfl rfl hb32 rfl (fun _ _hx => Qa4 (i := (i : Int)) (RdK.ofRest hk (m30.ext _hx)) sL uT69 rfl (by first | rfl | omega) Z9 rfl rfl) <| Eo (s := 96) rfl rfl rfl hb32 rfl (fun _ _hx => Hz (i := (i : Int)) (dflt := F7) (cs := (cl u8 ((ks.getD i F7).c))) (RdK.ofRest hk (m30.ext _hx)) sL X3 rfl Z9 rfl rfl (by decide) (kp_c (ks.getD i F7))) ?_
       refine Xd (fun w33 e33 => ?_)
       have m33 := m30.ext e33
       refine Zt (s := 96) rfl rfl hb32 rfl (Qi0 (l := (ks.getD k F7).c) (m := (ks.getD i F7).c) X3 Vm X6 Tryd.eqGuardType23 rfl rfl (by first | rfl | first | omega | (simp only [List.length_set, List.length_append, List.length_replicate, List.length_map, List.length_cons, List.length_nil]; omega) | (simp; done) | (simp; omega) | decide) (by first | rfl | first | omega | (simp only [List.length_set, List.length_append, List.length_replicate, List.length_map, List.length_cons, List.length_nil]; omega) | (simp; done) | (simp; omega) | decide)) <| Qa rfl (Jd rfl hb32 rfl) <| rN ?_
       refine Xv rfl (fun hc34 => ?_) (fun hc34 => ?_)
       ·
        have hc34p := eq_of_beq hc34
        refine sR <| Qa rfl (Qc (v := (bl false)) rfl) ?_
        refine rN (Xt ?_)
        refine Du (Vg (Du (Du (Vg (Du ?_)))))
        refine Ze [(bl false)] ⟨rfl, trivial⟩ ?_
        exact ⟨congrArg bl (by show _ = ((Be n1 n2 n3 ks.length && Ei sb tb sa ta oa) && okK ks ks.length); have hz := ok_no2 (show i < ks.length by omega) (show k < i by omega) (show hitK _ _ = true by unfold hitK; rw [hb32, hc34]; rfl); revert hc13 hc22 hz; generalize Be n1 n2 n3 ks.length = b0; generalize Ei sb tb sa ta oa = b1; generalize okK ks ks.length = b2; revert b0 b1 b2; decide), m33.toExt⟩
       ·
        have hc34p := ne_of_beq_false hc34
        refine Q7 (Qi (Qe ?_))
        refine rM rfl s4 <| Qa rfl (Qk (b := 1) rfl rfl oM oM) <| Qa rfl (Qc (v := (i64 ((k : Int) + 1))) rfl) <| rN ?_
        exact ⟨⟨(k + 1), oM, (by rw [Qi6 oM, hdk]; unfold hitK; rw [hb32, hc34]; rfl), s0, s1, s3, rfl, s26, s62, s67, s77, m33⟩, Gl rfl z4 oM oM⟩
      ·
       have hb32p := ne_of_beq_false hb32
       refine Ld (s := 96) rfl rfl rfl hb32 rfl <| Ld (s := 96) rfl rfl rfl hb32 rfl <| Ld (s := 96) rfl rfl rfl hb32 rfl <| Ld (s := 96) rfl rfl rfl hb32 rfl <| Ld (s := 96) rfl rfl rfl hb32 rfl <| Ld (s := 96) rfl rfl rfl hb32 rfl <| Ld (s := 96) rfl rfl rfl hb32 rfl <| Ld (s := 96) rfl rfl rfl hb32 rfl <| Ld (s := 96) rfl rfl rfl hb32 rfl <| Ld (s := 96) rfl rfl rfl hb32 rfl <| Ld (s := 96) rfl rfl rfl hb32 rfl <| Ld (s := 96) rfl rfl rfl hb32 rfl ?_
       refine Xd (fun w35 e35 => ?_)
       have m35 := m30.ext e35
       refine Yd (s := 96) rfl rfl hb32 rfl <| Qa rfl (Yn rfl hb32 rfl) <| rN <| Yp rfl (by decide) ?_
       refine Q7 (Qi (Qe ?_))
       refine rM rfl s4 <| Qa rfl (Qk (b := 1) rfl rfl oM oM) <| Qa rfl (Qc (v := (i64 ((k : Int) + 1))) rfl) <| rN ?_
       exact ⟨⟨(k + 1), oM, (by rw [Qi6 oM, hdk]; unfold hitK; rw [hb32]; rfl), s0, s1, s3, rfl, s26, s62, s67, s77, m35⟩, Gl rfl z4 oM oM⟩
     ·
      have hc31p := of_decide_eq_false hc31
      refine X0 ?_
      refine Qr (Qr (Xf ?_))
      refine Qi (Qe ?_)
      refine rM rfl s3 <| Qa rfl (Qk (b := 1) rfl rfl oM oM) <| Qa rfl (Qc (v := (i64 ((i : Int) + 1))) rfl) <| rN ?_
      exact ⟨⟨(i + 1), oM, (by rw [okK, hok, show dupB ks (ks.getD i F7) i = false from (show k = i by omega) ▸ hdk, show U8 (ks.getD i F7).n = true from by simpa using hc28]; rfl), s0, s1, rfl, s26, s62, m30⟩, Gl rfl z3 oM oM⟩
   ·
    have hc25p := of_decide_eq_false hc25
    refine X0 ?_
    refine Qr (Qr (Xf ?_))
    refine sR <| Qa rfl (Qc (v := (bl true)) rfl) ?_
    refine rN (Xt ?_)
    refine Ze [(bl true)] ⟨rfl, trivial⟩ ?_
    exact ⟨congrArg bl (by show _ = ((Be n1 n2 n3 ks.length && Ei sb tb sa ta oa) && okK ks ks.length); have hz : okK ks ks.length = true := (show i = ks.length by omega) ▸ hok; revert hc13 hc22 hz; generalize Be n1 n2 n3 ks.length = b0; generalize Ei sb tb sa ta oa = b1; generalize okK ks ks.length = b2; revert b0 b1 b2; decide), m24.toExt⟩
end Go.Proofs.YtkmiemlpfkfiiaaDoor
