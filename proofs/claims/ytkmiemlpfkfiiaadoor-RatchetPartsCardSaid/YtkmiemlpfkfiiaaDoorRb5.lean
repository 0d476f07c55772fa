/- The ratchet: the header of bytes. Conditions: none beyond those that each theorem states. -/
import Derived.Test.YtkmiemlpfkfiiaaDoorRb4
namespace Go.Proofs.YtkmiemlpfkfiiaaDoor
open Tryd
set_option linter.unusedVariables false
set_option linter.unusedSimpArgs false
theorem Pi (b : Xg) (a : Nat) : (b.drop (a : Int).toNat).take ((b.length : Int).toNat - (a : Int).toNat) = b.drop a := by
 simp only [Int.toNat_natCast]; exact List.take_of_length_le (by rw [List.length_drop]; exact Nat.le_refl _)
theorem Qds {x : Xg} {n : Nat} (h : 4 ≤ n) : Wu (x.take n) = Wu x := by
 unfold Wu
 have e : ∀ i, i < 4 → (x.take n).getD i 0 = x.getD i 0 := fun i hi => by rw [List.getD_eq_getElem?_getD, List.getD_eq_getElem?_getD, List.getElem?_take_of_lt oM]
 rw [e 0 oM, e 1 oM, e 2 oM, e 3 oM]
theorem sH_ext {a a' : Xg} {p p' n n' : Int} (h1 : a = a') (h2 : p = p') (h3 : n = n') : Value.agg (Qo (sH a p n)) = Value.agg (Qo (sH a' p' n')) := by subst h1 h2 h3; rfl
theorem Qjb {b : Xg} (h : Px b = false) : Xn b = ⟨List.replicate 32 0, 0, 0, rfl⟩ ∧ hdE b = 3 ∧ hdR b = [] := by
 refine ⟨?_, ?_, ?_⟩
 ·unfold Xn; rw [h]; rfl
 ·unfold hdE; rw [h]; rfl
 unfold hdR; rw [h]; rfl
theorem Qgm {b : Xg} (h : Px b = true) : Xn b = ⟨Bl (b.take 32), Wu (b.drop 32), Wu (b.drop 36), Md _⟩ ∧ hdE b = 0 ∧ hdR b = b.drop 40 := by
 refine ⟨?_, ?_, ?_⟩
 ·unfold Xn; rw [h]; rfl
 ·unfold hdE; rw [h]; rfl
 unfold hdR; rw [h]; rfl
theorem Qnq {b : Xg} (h : (b.length : Int) < 40) : Px b = false := by
 unfold Px; rw [show decide (40 ≤ b.length) = false from decide_eq_false oM]; rfl
theorem Qo2 {b : Xg} (h : 2147483647 < Wu (b.drop 32) ∨ 2147483647 < Wu (b.drop 36)) : Px b = false := by
 unfold Px
 rw [Bool.and_eq_false_iff, Bool.and_eq_false_iff, decide_eq_false_iff_not, decide_eq_false_iff_not, decide_eq_false_iff_not]
 omega
theorem Qql {b : Xg} (h : ¬ (b.length : Int) < 40) (h1 : ¬ 2147483647 < Wu (b.drop 32)) (h2 : ¬ 2147483647 < Wu (b.drop 36)) : Px b = true := by
 unfold Px
 rw [Bool.and_eq_true, Bool.and_eq_true, decide_eq_true_eq, decide_eq_true_eq, decide_eq_true_eq]
 omega
theorem hd_of {b : Xg} (h : Px b = true) : 40 ≤ b.length ∧ (0 ≤ (Xn b).p ∧ (Xn b).p ≤ 2147483647) ∧ (0 ≤ (Xn b).n ∧ (Xn b).n ≤ 2147483647) := by
 rw [(Qgm h).1]
 unfold Px at h
 rw [Bool.and_eq_true, Bool.and_eq_true, decide_eq_true_eq, decide_eq_true_eq, decide_eq_true_eq] at h
 exact ⟨h.1, ⟨Qqn _, h.2.1⟩, ⟨Qqn _, h.2.2⟩⟩
theorem or_ste0 {P : Program} {fr : Nat → Value} {w : World} {ty T E : TypeId} {x y : Operand} {z : Option Value} {kb b j : Nat} {α : Type} {f : α → Value} {l : List α} {a : α} {L : List (List Value)} {fz : Nat × Nat} (hfo : ∀ a, (f a).oneCell' = true) (ht : Jm P T = some (z, 1, kb)) (hx : Qq fr x = ptr b j) (hy : Qq fr y = f a)
  (hb : w.heap[b]? = some (.cells (Qo (l.map f :: L)) E fz)) (hj : j < l.length) (hfz : fz.2 = 0 := by rfl) : Vp P fr w (.store T x y) ty (fun _ w' => Upd w b (.cells (Qo ((l.set j a).map f :: L)) E fz) w') := by
 have := Un (ty := ty) ht hx hy (hfo a) hb (by rw [U5, List.flatten_cons, List.length_append, List.length_map]; omega) (.inl oM)
 have e : (Qo (l.map f :: L)).setIfInBounds j (f a) = Qo ((l.set j a).map f :: L) := by
  apply Array.ext'
  simp only [Qo, Array.toList_setIfInBounds, List.flatten_cons, List.map_set]
  rw [List.set_append_left _ _ (by simpa using hj)]
 rw [e] at this
 exact this
attribute [local irreducible] Qc5 Wu Eh Yg Jj Tc Wp Vd Wn Xk Ae F6 Qe Qi Bl
set_option maxHeartbeats 2000000 in
theorem c_head19 (v : Value) (b : Xg) (w0 : World)  (hb : Rd (Jl w0) u8 v b) (hbl : b.length ≤ 1048576) : X9 prog 23 #[v] w0 (fun r w1 => ∃ vr Hr, r = Value.tuple #[(Value.agg (Qo (sH ((Xn b).c) ((Xn b).p) ((Xn b).n)))), vr, i64 (hdE b)] ∧ Xe u8 5 vr (hdR b) Hr ∧ Mem w1 (Qu w0) Hr) := by
 refine Zb (args := [v]) func23 rfl ntmps23 results23 rfl ?_
 have m0 : Mem w0 (Qu w0) [] := Mem.of_world w0
 refine sR <| Y9 (Ji m0 Ap) fun w1 b2 m1 => Zz Yj <| Zz (i64 0) ?_
 refine rN (Qa (sR ?_))
 refine Zp v <| Qd (Yl (Rd.ofRest hb m1) Zu rfl) <| Qd (Z9 (b := 40) rfl rfl) <| rN ?_
 refine Z8 rfl (fun hc2 => ?_) (fun hc2 => ?_)
 ·
  have hc2p := of_decide_eq_true hc2
  refine sR <| Qd (Jk Ea Ap rfl m1.h0) <| Ye m1 (J8 Ap rfl rfl m1.h0 (Yr (Jo Qy _) (Yr (X4 (Z4 _) Kw) (Yr (X4 (Z4 _) Kw) Fa)))) fun w3 m3 => Zz Yj <| Zz (i64 3) ?_
  refine rN (Xb (Y3 ?_))
  refine Qv [(Value.agg (Qo (sH (List.replicate 32 0) 0 0))), Yj, (i64 3)] ⟨⟨_, rfl, J4 Ea Ap m3.h0⟩, rfl, rfl, trivial⟩ ?_
  obtain ⟨hz1, hz2, hz3⟩ := Qjb (b := b) (Qnq hc2p)
  have m4 := Mem.drop [_] _ m3
  rw [hz1, hz2, hz3]
  exact ⟨Yj, [], rfl, Xe.cast (Xe.none u8 5) (by first | rfl | exact Pi b 40 | (simp; done) | simp [Pi]), by simpa using m4⟩
 ·
  have hc2p := of_decide_eq_false hc2
  have hgn1 : Wu ((b.drop (32 : Int).toNat).take ((b.length : Int).toNat - (32 : Int).toNat)) = Wu (b.drop 32) := congrArg Wu (Pi b 32)
  have hgn2 : Wu ((b.drop (36 : Int).toNat).take ((b.length : Int).toNat - (36 : Int).toNat)) = Wu (b.drop 36) := congrArg Wu (Pi b 36)
  have hgn3 : Wu ((b.drop 32).take 4) = Wu (b.drop 32) := Qds oM
  have hgn4 : Wu ((b.drop 36).take 4) = Wu (b.drop 36) := Qds oM
  refine Qs (Qc (Qa ?_))
  refine Xl (dl 10) 10 Xw <| Ky rfl v <| Yn rfl (fun _ e' => Jd (i := 0) (j := 32) (Rd.ofRest hb (m1.ext e')) Zu Y0 rfl (Zi _ _) (Yh (k := .i64) (i := 32) rfl) oM sL sL) <| Yn rfl (fun _ e' => ev_sap (Rd.cast (l' := (b.drop 0).take 32) (Rd.sub (Rd.ofRest hb (m1.ext e')) oM sL sL) rfl) Xq rfl sL) <| Yn (v := (agg u8 (((b.drop 0).take 32).take 32))) rfl (fun _ e' => Qhk (l := (b.drop 0).take 32) (Rd.cast (l' := (b.drop 0).take 32) (Rd.sub (Rd.ofRest hb (m1.ext e')) oM sL sL) rfl) Xq Zl rfl sL rfl) <| Ky rfl v <| Yn rfl (fun _ e' => Jd (i := 32) (j := (b.length : Int)) (Rd.ofRest hb (m1.ext e')) Zu Y0 rfl (Yh (k := .i64) (i := 32) rfl) (Zi _ _) oM sL sL) <| Vg rfl rfl (fun w5 e5 => oc46 (Kt rfl) (c_get4 (Ci v 32 (b.length : Int)) ((b.drop (32 : Int).toNat).take (((b.length : Int) : Int).toNat - (32 : Int).toNat)) _ (Rd.cast (l' := (b.drop (32 : Int).toNat).take (((b.length : Int) : Int).toNat - (32 : Int).toNat)) (Rd.sub (Rd.ofRest hb (m1.ext e5)) oM sL sL) rfl) sL)) <| Ky rfl v <| Yn rfl (fun _ e' => Jd (i := 36) (j := (b.length : Int)) (Rd.ofRest hb (m1.ext e')) Zu Y0 rfl (Yh (k := .i64) (i := 36) rfl) (Zi _ _) oM sL sL) <| Vg rfl rfl (fun w8 e8 => oc46 (Kt rfl) (c_get4 (Ci v 36 (b.length : Int)) ((b.drop (36 : Int).toNat).take (((b.length : Int) : Int).toNat - (36 : Int).toNat)) _ (Rd.cast (l' := (b.drop (36 : Int).toNat).take (((b.length : Int) : Int).toNat - (36 : Int).toNat)) (Rd.sub (Rd.ofRest hb (m1.ext e8)) oM sL sL) rfl) sL)) <| Gs m1 fun w11 m11 => ?_
  refine Qd (Va (c := (Qo (sH (((b.drop 0).take 32).take 32) (Wu ((b.drop (32 : Int).toNat).take (((b.length : Int) : Int).toNat - (32 : Int).toNat))) (Wu ((b.drop (36 : Int).toNat).take (((b.length : Int) : Int).toNat - (36 : Int).toNat)))))) (pl := [(0, 32), (32, 1), (33, 1)]) Ap Ea Xw (J3 (i := 0) (v := (agg u8 (((b.drop 0).take 32).take 32))) (cs := (cl u8 (((b.drop 0).take 32).take 32))) rfl rfl (J3 (i := 1) (v := (i64 (Wu ((b.drop (32 : Int).toNat).take (((b.length : Int) : Int).toNat - (32 : Int).toNat))))) (cs := #[(i64 (Wu ((b.drop (32 : Int).toNat).take (((b.length : Int) : Int).toNat - (32 : Int).toNat))))]) rfl rfl (J3 (i := 2) (v := (i64 (Wu ((b.drop (36 : Int).toNat).take (((b.length : Int) : Int).toNat - (36 : Int).toNat))))) (cs := #[(i64 (Wu ((b.drop (36 : Int).toNat).take (((b.length : Int) : Int).toNat - (36 : Int).toNat))))]) rfl rfl V3))) (V9 (L := (sH (List.replicate 32 0) 0 0)) 0 (sH (((b.drop 0).take 32).take 32) 0 0) rfl (Gt u8 _).symm rfl (V9 1 (sH (((b.drop 0).take 32).take 32) (Wu ((b.drop (32 : Int).toNat).take (((b.length : Int) : Int).toNat - (32 : Int).toNat))) 0) rfl rfl rfl (V9 2 (sH (((b.drop 0).take 32).take 32) (Wu ((b.drop (32 : Int).toNat).take (((b.length : Int) : Int).toNat - (32 : Int).toNat))) (Wu ((b.drop (36 : Int).toNat).take (((b.length : Int) : Int).toNat - (36 : Int).toNat)))) rfl rfl rfl Dq)))) <| Ye m11 (J8 Ap rfl rfl m11.h0 (Yr (Jo Qy _) (Yr (X4 (Z4 _) Kw) (Yr (X4 (Z4 _) Kw) Fa)))) fun w12 m12 => ?_
  refine rN (Qa (sR ?_))
  refine Qd (Zr (r := 32) Ea rfl Jr U0 rfl rfl) <| Qd (Y8 1 Fj rfl m12.h0 rfl) <| Qd (Zr (r := 33) Ea rfl Jr U0 rfl rfl) <| Qd (Y8 2 Fj rfl m12.h0 rfl) <| Qd (v := (i64 (if (Wu ((b.drop (36 : Int).toNat).take (((b.length : Int) : Int).toNat - (36 : Int).toNat))) > (Wu ((b.drop (32 : Int).toNat).take (((b.length : Int) : Int).toNat - (32 : Int).toNat))) then Wu ((b.drop (36 : Int).toNat).take (((b.length : Int) : Int).toNat - (36 : Int).toNat)) else Wu ((b.drop (32 : Int).toNat).take (((b.length : Int) : Int).toNat - (32 : Int).toNat))))) (Qpb rfl rfl) <| Qd (Gm (b := 2147483647) rfl rfl) <| rN ?_
  refine Z8 rfl (fun hc13 => ?_) (fun hc13 => ?_)
  ·
   have hc13p := of_decide_eq_true hc13
   refine sR <| Qd (Va (c := (Qo (sH (List.replicate 32 0) 0 0))) (pl := [(0, 32), (32, 1), (33, 1)]) Ap Ea Xw V3 Xw) <| Ye m12 (J8 Ap rfl rfl m12.h0 (Yr (Jo Qy _) (Yr (X4 (Z4 _) Kw) (Yr (X4 (Z4 _) Kw) Fa)))) fun w14 m14 => Zz Yj <| Zz (i64 3) ?_
   refine rN (Xb (Y3 ?_))
   refine Qv [(Value.agg (Qo (sH (List.replicate 32 0) 0 0))), Yj, (i64 3)] ⟨⟨_, rfl, J4 Ea Ap m14.h0⟩, rfl, rfl, trivial⟩ ?_
   obtain ⟨hz1, hz2, hz3⟩ := Qjb (b := b) (Qo2 (by have hq := hc13p; simp only [hgn1, hgn2, hgn3, hgn4] at hq; split at hq <;> omega))
   have m15 := Mem.drop [_] _ m14
   rw [hz1, hz2, hz3]
   exact ⟨Yj, [], rfl, Xe.cast (Xe.none u8 5) (by first | rfl | exact Pi b 40 | (simp; done) | simp [Pi]), by simpa using m15⟩
  ·
   have hc13p := of_decide_eq_false hc13
   refine Qs (Qc (Qa ?_))
   refine Xl [(0, false), (1, false), (2, false), (3, true)] 4 Xw <| Yn rfl (fun _ e' => Jk Ea Ap rfl (m12.ext e').h0) <| Ky rfl v <| Yn rfl (fun _ e' => Jd (i := 40) (j := (b.length : Int)) (Rd.ofRest hb (m12.ext e')) Zu Y0 rfl (Yh (k := .i64) (i := 40) rfl) (Zi _ _) oM sL sL) ?_
   refine Cj rfl rfl (fun w16 e16 => ?_)
   have m16 := m12.ext e16
   refine Vp.mono (oc34 (Kt rfl) (Qcg (Ci v 40 (b.length : Int)) ((b.drop (40 : Int).toNat).take (((b.length : Int) : Int).toNat - (40 : Int).toNat)) _ (Rd.cast (l' := (b.drop (40 : Int).toNat).take (((b.length : Int) : Int).toNat - (40 : Int).toNat)) (Rd.sub (Rd.ofRest hb m16) oM sL sL) rfl) sL)) ?_
   rintro rq18 w17 ⟨Hsq18, grq18, k_w17⟩
   refine ⟨k_w17.toExt, ?_⟩
   have m17 : Mem _ _ (Hsq18 ++ ([_])) := Mem.new (H := [_]) (H' := Hsq18) m16 k_w17
   refine Gs m17 fun w19 m19 => Vk (J8 Ap rfl rfl ((Mem.pick Hsq18 [_] _ m19)).h0 (Yr (Jo Qy _) (Yr (X4 (Z4 _) Kw) (Yr (X4 (Z4 _) Kw) Fa)))) ?_
   rintro _ w20 uq20
   have m20 : Mem _ _ ([_] ++ (Hsq18 ++ ([]))) := Mem.upd0 (Mem.pick Hsq18 [_] _ m19) uq20
   refine Zz rq18 <| Zz (i64 0) ?_
   refine rN (Xb ?_)
   refine Qv [(Value.agg (Qo (sH (((b.drop 0).take 32).take 32) (Wu ((b.drop (32 : Int).toNat).take (((b.length : Int) : Int).toNat - (32 : Int).toNat))) (Wu ((b.drop (36 : Int).toNat).take (((b.length : Int) : Int).toNat - (36 : Int).toNat)))))), rq18, (i64 0)] ⟨⟨_, rfl, J4 Ea Ap m20.h0⟩, rfl, rfl, trivial⟩ ?_
   have hq0 := hc13p
   simp only [hgn1, hgn2, hgn3, hgn4] at hq0
   obtain ⟨hz1, hz2, hz3⟩ := Qgm (b := b) (Qql hc2p (by split at hq0 <;> omega) (by split at hq0 <;> omega))
   have m21 := Mem.drop [_] _ m20
   rw [hz1, hz2, hz3]
   exact ⟨rq18, Hsq18, congrArg (fun x => Value.tuple #[x, _, i64 0]) (sH_ext ((show _ = b.take 32 by simp [List.take_take]).trans (Rq (by simp; omega)).symm) hgn1 hgn2), Xe.cast grq18 (by first | rfl | exact Pi b 40 | (simp; done) | simp [Pi]), by simpa using m21⟩
set_option maxHeartbeats 2000000 in
theorem Qr7 (v : Value) (b : Xg) (w0 : World)  (hb : Rd (Jl w0) u8 v b) (hbl : b.length ≤ 1048576) : X9 prog 24 #[v] w0 (fun r w1 => ∃ vr Hr, r = Value.tuple #[(Value.agg (Qo (sH ((Xn b).c) ((Xn b).p) ((Xn b).n)))), vr, i64 (hdE b)] ∧ Xe u8 5 vr (hdR b) Hr ∧ Mem w1 (Qu w0) Hr) := by
 refine Zb (args := [v]) func24 rfl ntmps24 results24 rfl ?_
 have m0 : Mem w0 (Qu w0) [] := Mem.of_world w0
 refine sR <| Y9 (Ji m0 Ap) fun w1 b2 m1 => Zz Yj <| Zz (i64 0) ?_
 refine rN (Qa (sR ?_))
 refine Zp v <| Qd (Yl (Rd.ofRest hb m1) Zu rfl) <| Qd (Z9 (b := 40) rfl rfl) <| rN ?_
 refine Z8 rfl (fun hc2 => ?_) (fun hc2 => ?_)
 ·
  have hc2p := of_decide_eq_true hc2
  refine sR <| Qd (Va (c := (Qo (sH (List.replicate 32 0) 0 0))) (pl := [(0, 32), (32, 1), (33, 1)]) Ap Ea Xw V3 Xw) <| Ye m1 (J8 Ap rfl rfl m1.h0 (Yr (Jo Qy _) (Yr (X4 (Z4 _) Kw) (Yr (X4 (Z4 _) Kw) Fa)))) fun w3 m3 => Zz Yj <| Zz (i64 3) ?_
  refine rN (Xb (Y3 ?_))
  refine Qv [(Value.agg (Qo (sH (List.replicate 32 0) 0 0))), Yj, (i64 3)] ⟨⟨_, rfl, J4 Ea Ap m3.h0⟩, rfl, rfl, trivial⟩ ?_
  obtain ⟨hz1, hz2, hz3⟩ := Qjb (b := b) (Qnq hc2p)
  have m4 := Mem.drop [_] _ m3
  rw [hz1, hz2, hz3]
  exact ⟨Yj, [], rfl, Xe.cast (Xe.none u8 5) (by first | rfl | exact Pi b 40 | (simp; done) | simp [Pi]), by simpa using m4⟩
 ·
  have hc2p := of_decide_eq_false hc2
  have hgn1 : Wu ((b.drop (32 : Int).toNat).take ((b.length : Int).toNat - (32 : Int).toNat)) = Wu (b.drop 32) := congrArg Wu (Pi b 32)
  have hgn2 : Wu ((b.drop (36 : Int).toNat).take ((b.length : Int).toNat - (36 : Int).toNat)) = Wu (b.drop 36) := congrArg Wu (Pi b 36)
  have hgn3 : Wu ((b.drop 32).take 4) = Wu (b.drop 32) := Qds oM
  have hgn4 : Wu ((b.drop 36).take 4) = Wu (b.drop 36) := Qds oM
  refine Qs (Qc (Qa ?_))
  refine Xl [(0, false), (1, false), (2, false), (3, false), (4, false), (5, false), (6, false), (7, true)] 8 Xw <| Ky rfl v <| Yn rfl (fun _ e' => Jd (i := 32) (j := 36) (Rd.ofRest hb (m1.ext e')) Zu Y0 rfl (Yh (k := .i64) (i := 32) rfl) (Yh (k := .i64) (i := 36) rfl) oM sL sL) <| Vg rfl rfl (fun w5 e5 => oc48 (Kt rfl) (Qqz (Ci v 32 36) ((b.drop 32).take 4) _ (Rd.cast (l' := (b.drop 32).take 4) (Rd.sub (Rd.ofRest hb (m1.ext e5)) oM sL sL) rfl) sL)) <| Ky rfl v <| Yn rfl (fun _ e' => Jd (i := 36) (j := 40) (Rd.ofRest hb (m1.ext e')) Zu Y0 rfl (Yh (k := .i64) (i := 36) rfl) (Yh (k := .i64) (i := 40) rfl) oM sL sL) <| Vg rfl rfl (fun w8 e8 => oc48 (Kt rfl) (Qqz (Ci v 36 40) ((b.drop 36).take 4) _ (Rd.cast (l' := (b.drop 36).take 4) (Rd.sub (Rd.ofRest hb (m1.ext e8)) oM sL sL) rfl) sL)) <| Yb rfl (Va (c := (Qo (sH (List.replicate 32 0) (Wu ((b.drop 32).take 4)) (Wu ((b.drop 36).take 4))))) (pl := [(0, 32), (32, 1), (33, 1)]) Ap Ea Xw (J3 (i := 1) (v := (i64 (Wu ((b.drop 32).take 4)))) (cs := #[(i64 (Wu ((b.drop 32).take 4)))]) rfl rfl (J3 (i := 2) (v := (i64 (Wu ((b.drop 36).take 4)))) (cs := #[(i64 (Wu ((b.drop 36).take 4)))]) rfl rfl V3)) (V9 (L := (sH (List.replicate 32 0) 0 0)) 1 (sH (List.replicate 32 0) (Wu ((b.drop 32).take 4)) 0) rfl rfl rfl (V9 2 (sH (List.replicate 32 0) (Wu ((b.drop 32).take 4)) (Wu ((b.drop 36).take 4))) rfl rfl rfl Dq))) ?_
  refine Cj rfl rfl (fun w11 e11 => ?_)
  have m11 := m1.ext e11
  refine Vp.mono (Ji m11 Ap) ?_
  rintro _ w12 ⟨b5, rfl, e12, m12⟩
  refine ⟨e12, ?_⟩
  refine Gs m12 fun w13 m13 => Ye m13 (J8 Ap rfl rfl m13.h0 (Yr (Jo Qy _) (Yr (X4 (Z4 _) Kw) (Yr (X4 (Z4 _) Kw) Fa)))) fun w14 m14 => ?_
  refine rN (Qa (sR ?_))
  refine Zz (i64 0) ?_
  refine rN (Qk ?_)
  refine Y7 (fun g wv => ∃ (i : Nat), (i ≤ 32) ∧ g 0 = v ∧ g 2 = (ptr b2 0) ∧ g 3 = Yj ∧ g 4 = (i64 0) ∧ g 5 = (ptr b5 0) ∧ g 6 = (i64 (i : Int)) ∧ g 9 = (bl (decide ((b.length : Int) < 40))) ∧ Mem wv (Qu w0) [(b5, .cells (Qo (sH (Y1 (fun j => b.getD (j : Int).toNat 0) 0 32 i) (Wu ((b.drop 32).take 4)) (Wu ((b.drop 36).take 4)))) 53 (0, 0)), (b2, .cells (Qo (sH (List.replicate 32 0) 0 0)) 53 (0, 0))]) (fun g wv => (32 - RowKit.intOf (g 6)).toNat) ?_ ?_
  ·exact ⟨0, oM, rfl, rfl, rfl, rfl, rfl, rfl, rfl, (by rw [Em]; exact m14)⟩
  rintro fr15 w16 ⟨i, hi, s0, s2, s3, s4, s5, s6, s9, m16⟩
  have z6 := s6
  have hfl : (Y1 (fun j => b.getD (j : Int).toNat 0) 0 32 i).length = 32 := Kz _ _ _ _ hi
  refine Qa (sR ?_)
  refine Ya s6 <| Qd (Z9 (b := 32) rfl rfl) <| rN ?_
  refine Z8 rfl (fun hc17 => ?_) (fun hc17 => ?_)
  ·
   have hc17p := of_decide_eq_true hc17
   refine Qs (Qc (Qa (Qk (Qb ?_))))
   refine Ya s6 <| Ya s0 <| Ya s6 <| Qd (Zw (Rd.ofRest hb m16) Zu Y0 rfl rfl oM sL) <| Qd (v := (u8 (b.getD i 0))) (X8 (l := b) (i := (i : Int)) (dflt := 0) (Rd.ofRest hb m16) Gl rfl oM sL rfl) <| Qd (Zr (r := 0) Ea rfl Jr Zl rfl s5) <| Qd (Zo (r := i) oM Xq Y0 rfl rfl oM sL) <| Vk (or_ste0 (j := i) Qy Y0 rfl rfl m16.h0 sL) ?_
   rintro _ w18 uq18
   have m18 : Mem _ _ [(b5, .cells (Qo (sH ((Y1 (fun j => b.getD (j : Int).toNat 0) 0 32 i).set i (b.getD i 0)) (Wu ((b.drop 32).take 4)) (Wu ((b.drop 36).take 4)))) 53 (0, 0)), _] := m16.upd0 uq18
   refine Zv (Qh (Qb ?_))
   refine Ya s6 <| Qd (Zg (b := 1) rfl rfl oM oM) <| Zz (i64 ((i : Int) + 1)) <| rN ?_
   exact ⟨⟨(i + 1), oM, s0, s2, s3, s4, s5, rfl, s9, (by rw [← Ew (fun j => b.getD (j : Int).toNat 0) 0 (n := 32) (k := i) oM _ rfl]; exact m18)⟩, Uo rfl z6 oM oM⟩
  ·
   have hc17p := of_decide_eq_false hc17
   obtain rfl : i = 32 := by omega
   have hfl : (Y1 (fun j => b.getD (j : Int).toNat 0) 0 32 32).length = 32 := Kz _ _ _ _ oM
   refine X6 ?_
   refine Qm (Qm (Xi ?_))
   refine Qa (sR ?_)
   refine Qd (Zr (r := 32) Ea rfl Jr U0 rfl s5) <| Qd (Y8 1 Fj rfl m16.h0 rfl) <| Qd (Gm (b := 2147483647) rfl rfl) <| Zp (bl (decide (2147483647 < (Wu ((b.drop 32).take 4))))) ?_
   rcases Bool.eq_false_or_eq_true (decide (2147483647 < (Wu ((b.drop 32).take 4)))) with hb19 | hb19
   ·
    have hb19p := of_decide_eq_true hb19
    refine W9 (s := 32) rfl rfl hb19 rfl <| W9 (s := 32) rfl rfl hb19 rfl <| W9 (s := 32) rfl rfl hb19 rfl <| Qd (Vm rfl hb19 rfl) <| rN <| Za rfl Jg <| sR <| Qd (Va (c := (Qo (sH (List.replicate 32 0) 0 0))) (pl := [(0, 32), (32, 1), (33, 1)]) Ap Ea Xw V3 Xw) <| Vz m16 (J8 Ap s2 rfl m16.h1 (Yr (Jo Qy _) (Yr (X4 (Z4 _) Kw) (Yr (X4 (Z4 _) Kw) Fa)))) fun w20 m20 => Zz Yj <| Zz (i64 3) ?_
    refine rN (Xb (Y3 ?_))
    refine Qv [(Value.agg (Qo (sH (List.replicate 32 0) 0 0))), Yj, (i64 3)] ⟨⟨_, s2, J4 Ea Ap m20.h1⟩, rfl, rfl, trivial⟩ ?_
    obtain ⟨hz1, hz2, hz3⟩ := Qjb (b := b) (Qo2 (by have hq := hb19p; simp only [hgn1, hgn2, hgn3, hgn4] at hq; omega))
    have m21 := Mem.drop [_] _ m20
    have m22 := Mem.drop [_] _ m21
    rw [hz1, hz2, hz3]
    exact ⟨Yj, [], rfl, Xe.cast (Xe.none u8 5) (by first | rfl | exact Pi b 40 | (simp; done) | simp [Pi]), by simpa using m22⟩
   ·
    have hb19p := of_decide_eq_false hb19
    refine Z5 (s := 32) rfl rfl hb19 rfl (Zr (r := 33) Ea rfl Jr U0 rfl s5) <| Z5 (s := 32) rfl rfl hb19 rfl (Y8 2 Fj rfl m16.h0 rfl) <| Z5 (s := 32) rfl rfl hb19 rfl (Gm (b := 2147483647) rfl rfl) <| Qd (Y4 rfl hb19 rfl) <| rN ?_
    refine Z8 rfl (fun hc23 => ?_) (fun hc23 => ?_)
    ·
     have hc23p := of_decide_eq_true hc23
     refine sR <| Qd (Va (c := (Qo (sH (List.replicate 32 0) 0 0))) (pl := [(0, 32), (32, 1), (33, 1)]) Ap Ea Xw V3 Xw) <| Vz m16 (J8 Ap s2 rfl m16.h1 (Yr (Jo Qy _) (Yr (X4 (Z4 _) Kw) (Yr (X4 (Z4 _) Kw) Fa)))) fun w24 m24 => Zz Yj <| Zz (i64 3) ?_
     refine rN (Xb (Y3 ?_))
     refine Qv [(Value.agg (Qo (sH (List.replicate 32 0) 0 0))), Yj, (i64 3)] ⟨⟨_, s2, J4 Ea Ap m24.h1⟩, rfl, rfl, trivial⟩ ?_
     obtain ⟨hz1, hz2, hz3⟩ := Qjb (b := b) (Qo2 (by have hq := hc23p; simp only [hgn1, hgn2, hgn3, hgn4] at hq; omega))
     have m25 := Mem.drop [_] _ m24
     have m26 := Mem.drop [_] _ m25
     rw [hz1, hz2, hz3]
     exact ⟨Yj, [], rfl, Xe.cast (Xe.none u8 5) (by first | rfl | exact Pi b 40 | (simp; done) | simp [Pi]), by simpa using m26⟩
    ·
     have hc23p := of_decide_eq_false hc23
     refine Qs (Qc (Qa ?_))
     refine Kr Xw ?_
     have hFM27 : Mem w16 (Qu w0) ([] ++ [(b5, .cells (Qo (sH (Y1 (fun j => b.getD (j : Int).toNat 0) 0 32 32) (Wu ((b.drop 32).take 4)) (Wu ((b.drop 36).take 4)))) 53 (0, 0)), (b2, .cells (Qo (sH (List.replicate 32 0) 0 0)) 53 (0, 0))]) := m16
     obtain ⟨RM27, hRM27⟩ : ∃ R2, R2 = Rest.add (Qu w0) [(b5, .cells (Qo (sH (Y1 (fun j => b.getD (j : Int).toNat 0) 0 32 32) (Wu ((b.drop 32).take 4)) (Wu ((b.drop 36).take 4)))) 53 (0, 0)), (b2, .cells (Qo (sH (List.replicate 32 0) 0 0)) 53 (0, 0))] := ⟨_, rfl⟩
     have M270 : Mem w16 RM27 [] := by rw [hRM27]; exact Mem.give hFM27
     have hr28 : Rd RM27.blk u8 v b := by rw [hRM27]; exact Rd.mono hb fun b o e => Mem.addRest hFM27 e
     have ho29 : RM27.blk b5 = some (.cells (Qo (sH (Y1 (fun j => b.getD (j : Int).toNat 0) 0 32 32) (Wu ((b.drop 32).take 4)) (Wu ((b.drop 36).take 4)))) 53 (0, 0)) := by rw [hRM27]; exact Mem.addOwn hFM27 (List.Mem.head _)
     have ho30 : RM27.blk b2 = some (.cells (Qo (sH (List.replicate 32 0) 0 0)) 53 (0, 0)) := by rw [hRM27]; exact Mem.addOwn hFM27 (List.Mem.tail _ (List.Mem.head _))
     refine Dl M270 [(0, false), (2, false), (3, false), (1, true), (4, true)] 5 rfl Xw <| yqH rfl (fun w _H _hx => Jk Ea Ap s5 (_hx.rest _ _ ho29)) <| N8 rfl (Yp s0) <| yqH rfl (fun w _H _hx => Jd (i := 40) (j := (b.length : Int)) (Rd.ofRest hr28 _hx) Zu Y0 rfl (Yh (k := .i64) (i := 40) rfl) (Zi _ _) oM sL sL) ?_
     refine Qeu rfl rfl (fun w31 e31 => ?_)
     have m31 := M270.ext e31
     refine Vp.mono (Qw u8 [] Qy m31 Zu Y0 rfl (by simp [Ac]) rfl) ?_
     rintro _ w32 ⟨b39, rfl, e32, m32⟩
     refine ⟨⟨_, m32⟩, ?_⟩
     refine Qeu rfl rfl (fun w33 e33 => ?_)
     have m33 := m32.ext e33
     refine Vp.mono (Xp (f := u8) (Hs := [(b39, .cells (cl u8 ([])) 5 (0, 0))]) (H := []) m33 (Xe.of u8 5 b39 ([])) rfl rfl (Rd.cast (l' := (b.drop (40 : Int).toNat).take (((b.length : Int) : Int).toNat - (40 : Int).toNat)) (Rd.sub (Rd.ofRest hr28 m33) oM sL sL) rfl) Zu Zu Y0 rfl Qy sL sL) ?_
     rintro sv34 w34 ⟨Hs34, m34, g34⟩
     replace g34 : Xe u8 5 sv34 ((b.drop (40 : Int).toNat).take (((b.length : Int) : Int).toNat - (40 : Int).toNat)) Hs34 := g34
     refine ⟨⟨_, m34⟩, ?_⟩
     refine Gs m34 fun w35 m35 => ?_
     have hX36 := m35
     rw [hRM27] at hX36
     have m37 : Mem w35 (Qu w0) (Hs34 ++ ([(b5, .cells (Qo (sH (Y1 (fun j => b.getD (j : Int).toNat 0) 0 32 32) (Wu ((b.drop 32).take 4)) (Wu ((b.drop 36).take 4)))) 53 (0, 0)), (b2, .cells (Qo (sH (List.replicate 32 0) 0 0)) 53 (0, 0))])) := ymA (Mem.back hFM27 hX36)
     refine Vk (J8 Ap s2 rfl ((Mem.pick2 Hs34 [_] [_] _ m37)).h0 (Yr (Jo Qy _) (Yr (X4 (Z4 _) Kw) (Yr (X4 (Z4 _) Kw) Fa)))) ?_
     rintro _ w38 uq38
     have m38 : Mem _ _ ([_] ++ (Hs34 ++ ([_]))) := Mem.upd0 (Mem.pick2 Hs34 [_] [_] _ m37) uq38
     refine Zz sv34 <| Zz (i64 0) ?_
     refine rN (Xb ?_)
     refine Qv [(Value.agg (Qo (sH (Y1 (fun j => b.getD (j : Int).toNat 0) 0 32 32) (Wu ((b.drop 32).take 4)) (Wu ((b.drop 36).take 4))))), sv34, (i64 0)] ⟨⟨_, s2, J4 Ea Ap m38.h0⟩, rfl, rfl, trivial⟩ ?_
     have hq0 := hb19p
     simp only [hgn1, hgn2, hgn3, hgn4] at hq0
     have hq1 := hc23p
     simp only [hgn1, hgn2, hgn3, hgn4] at hq1
     obtain ⟨hz1, hz2, hz3⟩ := Qgm (b := b) (Qql hc2p hq0 hq1)
     have m39 := Mem.drop [_] _ m38
     have m40 := Mem.drop [_] _ (Mem.pick Hs34 [_] _ m39)
     rw [hz1, hz2, hz3]
     exact ⟨sv34, Hs34, congrArg (fun x => Value.tuple #[x, _, i64 0]) (sH_ext ((show _ = b.take 32 from (Qjo b 0 oM).trans X7).trans (Rq (by simp; omega)).symm) hgn3 hgn4), Xe.cast g34 (by first | rfl | exact Pi b 40 | (simp; done) | simp [Pi]), by simpa using m40⟩
end Go.Proofs.YtkmiemlpfkfiiaaDoor
