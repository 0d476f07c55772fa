/- The ratchet: keys that are left out (the document). Conditions: none beyond those that each theorem states. -/
import Derived.Test.YtkmiemlpfkfiiaaDoorRb4
namespace Go.Proofs.YtkmiemlpfkfiiaaDoor
open Tryd
section
set_option linter.unusedVariables false
set_option linter.unusedSimpArgs false
theorem Qdr (b : Zj) (a : Nat) : (b.drop (a : Int).toNat).take ((b.length : Int).toNat - (a : Int).toNat) = b.drop a := by
 simp only [Int.toNat_natCast]; exact List.take_of_length_le (by rw [List.length_drop]; exact Nat.le_refl _)
theorem Qhb {x : Zj} {n : Nat} (h : 4 ≤ n) : Va (x.take n) = Va x := by
 unfold Va
 have e : ∀ i, i < 4 → (x.take n).getD i 0 = x.getD i 0 := fun i hi => by rw [List.getD_eq_getElem?_getD, List.getD_eq_getElem?_getD, List.getElem?_take_of_lt oM]
 rw [e 0 oM, e 1 oM, e 2 oM, e 3 oM]
theorem sH_ext {a a' : Zj} {p p' n n' : Int} (h1 : a = a') (h2 : p = p') (h3 : n = n') : Value.agg (Qp (sH a p n)) = Value.agg (Qp (sH a' p' n')) := by subst h1 h2 h3; rfl
theorem hd_no {b : Zj} (h : D5 b = false) : Kt b = ⟨List.replicate 32 0, 0, 0, rfl⟩ ∧ hdE b = 3 ∧ hdR b = [] := by
 refine ⟨?_, ?_, ?_⟩
 ·unfold Kt; rw [h]; rfl
 ·unfold hdE; rw [h]; rfl
 unfold hdR; rw [h]; rfl
theorem Qfw {b : Zj} (h : D5 b = true) : Kt b = ⟨Gf (b.take 32), Va (b.drop 32), Va (b.drop 36), E5 _⟩ ∧ hdE b = 0 ∧ hdR b = b.drop 40 := by
 refine ⟨?_, ?_, ?_⟩
 ·unfold Kt; rw [h]; rfl
 ·unfold hdE; rw [h]; rfl
 unfold hdR; rw [h]; rfl
theorem hd_short {b : Zj} (h : (b.length : Int) < 40) : D5 b = false := by
 unfold D5; rw [show decide (40 ≤ b.length) = false from decide_eq_false oM]; rfl
theorem hd_big {b : Zj} (h : 2147483647 < Va (b.drop 32) ∨ 2147483647 < Va (b.drop 36)) : D5 b = false := by
 unfold D5
 rw [Bool.and_eq_false_iff, Bool.and_eq_false_iff, decide_eq_false_iff_not, decide_eq_false_iff_not, decide_eq_false_iff_not]
 omega
theorem Qmo {b : Zj} (h : ¬ (b.length : Int) < 40) (h1 : ¬ 2147483647 < Va (b.drop 32)) (h2 : ¬ 2147483647 < Va (b.drop 36)) : D5 b = true := by
 unfold D5
 rw [Bool.and_eq_true, Bool.and_eq_true, decide_eq_true_eq, decide_eq_true_eq, decide_eq_true_eq]
 omega
theorem hd_of {b : Zj} (h : D5 b = true) : 40 ≤ b.length ∧ (0 ≤ (Kt b).p ∧ (Kt b).p ≤ 2147483647) ∧ (0 ≤ (Kt b).n ∧ (Kt b).n ≤ 2147483647) := by
 rw [(Qfw h).1]
 unfold D5 at h
 rw [Bool.and_eq_true, Bool.and_eq_true, decide_eq_true_eq, decide_eq_true_eq, decide_eq_true_eq] at h
 exact ⟨h.1, ⟨Qmp _, h.2.1⟩, ⟨Qmp _, h.2.2⟩⟩
attribute [local irreducible] Ak Va D7 Ya Yq Gy J9 Jz Ja Zu Wi Ko Qi Q7 Gf
set_option maxHeartbeats 2000000 in
theorem c_head19 (v : Value) (b : Zj) (w0 : World)  (hb : Rd (Yn w0) u8 v b) (hbl : b.length ≤ 1048576) : Xm prog 23 #[v] w0 (fun r w1 => ∃ vr Hr, r = Value.tuple #[(Value.agg (Qp (sH ((Kt b).c) ((Kt b).p) ((Kt b).n)))), vr, i64 (hdE b)] ∧ Xl u8 5 vr (hdR b) Hr ∧ Mem w1 (Qu w0) Hr) := by
 refine Qy (args := [v]) func23 rfl ntmps23 results23 rfl ?_
 have m0 : Mem w0 (Qu w0) [] := Mem.of_world w0
 refine sR <| Y5 (Yu m0 Qa6) fun w1 b2 m1 => Zv Jp <| Zv (i64 0) ?_
 refine rN (Qc (sR ?_))
 refine Zb v <| Qd (Yg (Rd.ofRest hb m1) Zx rfl) <| Qd (Xy (b := 40) rfl rfl) <| rN ?_
 refine Xb rfl (fun hc2 => ?_) (fun hc2 => ?_)
 ·
  have hc2p := of_decide_eq_true hc2
  refine sR <| Qd (Jt La Qa6 rfl m1.h0) <| Yb m1 (Jw Qa6 rfl rfl m1.h0 (Xt (Yj Q9 _) (Xt (Zz (Jn _) Jm) (Xt (Zz (Jn _) Jm) Ui)))) fun w3 m3 => Zv Jp <| Zv (i64 3) ?_
  refine rN (Zy (Y7 ?_))
  refine Qs [(Value.agg (Qp (sH (List.replicate 32 0) 0 0))), Jp, (i64 3)] ⟨⟨_, rfl, Ku La Qa6 m3.h0⟩, rfl, rfl, trivial⟩ ?_
  obtain ⟨hz1, hz2, hz3⟩ := hd_no (b := b) (hd_short hc2p)
  have m4 := Mem.drop [_] _ m3
  rw [hz1, hz2, hz3]
  exact ⟨Jp, [], rfl, Xl.cast (Xl.none u8 5) (by first | rfl | exact Qdr b 40 | (simp; done) | simp [Qdr]), by simpa using m4⟩
 ·
  have hc2p := of_decide_eq_false hc2
  have hgn1 : Va ((b.drop (32 : Int).toNat).take ((b.length : Int).toNat - (32 : Int).toNat)) = Va (b.drop 32) := congrArg Va (Qdr b 32)
  have hgn2 : Va ((b.drop (36 : Int).toNat).take ((b.length : Int).toNat - (36 : Int).toNat)) = Va (b.drop 36) := congrArg Va (Qdr b 36)
  have hgn3 : Va ((b.drop 32).take 4) = Va (b.drop 32) := Qhb oM
  have hgn4 : Va ((b.drop 36).take 4) = Va (b.drop 36) := Qhb oM
  refine Qo (Qa (Qc ?_))
  refine Xj (dl 10) 10 Xh <| Jj rfl v <| Y6 rfl (fun _ e' => Yv (i := 0) (j := 32) (Rd.ofRest hb (m1.ext e')) Zx Yw rfl (Zc _ _) (Xv (k := .i64) (i := 32) rfl) oM sL sL) <| Y6 rfl (fun _ e' => ev_sap (Rd.cast (l' := (b.drop 0).take 32) (Rd.sub (Rd.ofRest hb (m1.ext e')) oM sL sL) rfl) Xf rfl sL) <| Y6 (v := (agg u8 (((b.drop 0).take 32).take 32))) rfl (fun _ e' => Qd8 (l := (b.drop 0).take 32) (Rd.cast (l' := (b.drop 0).take 32) (Rd.sub (Rd.ofRest hb (m1.ext e')) oM sL sL) rfl) Xf Zi rfl sL rfl) <| Jj rfl v <| Y6 rfl (fun _ e' => Yv (i := 32) (j := (b.length : Int)) (Rd.ofRest hb (m1.ext e')) Zx Yw rfl (Xv (k := .i64) (i := 32) rfl) (Zc _ _) oM sL sL) <| U4 rfl rfl (fun w5 e5 => oc46 (Jb rfl) (c_get4 (Ai v 32 (b.length : Int)) ((b.drop (32 : Int).toNat).take (((b.length : Int) : Int).toNat - (32 : Int).toNat)) _ (Rd.cast (l' := (b.drop (32 : Int).toNat).take (((b.length : Int) : Int).toNat - (32 : Int).toNat)) (Rd.sub (Rd.ofRest hb (m1.ext e5)) oM sL sL) rfl) sL)) <| Jj rfl v <| Y6 rfl (fun _ e' => Yv (i := 36) (j := (b.length : Int)) (Rd.ofRest hb (m1.ext e')) Zx Yw rfl (Xv (k := .i64) (i := 36) rfl) (Zc _ _) oM sL sL) <| U4 rfl rfl (fun w8 e8 => oc46 (Jb rfl) (c_get4 (Ai v 36 (b.length : Int)) ((b.drop (36 : Int).toNat).take (((b.length : Int) : Int).toNat - (36 : Int).toNat)) _ (Rd.cast (l' := (b.drop (36 : Int).toNat).take (((b.length : Int) : Int).toNat - (36 : Int).toNat)) (Rd.sub (Rd.ofRest hb (m1.ext e8)) oM sL sL) rfl) sL)) <| Ug m1 fun w11 m11 => ?_
  refine Qd (Ky (c := (Qp (sH (((b.drop 0).take 32).take 32) (Va ((b.drop (32 : Int).toNat).take (((b.length : Int) : Int).toNat - (32 : Int).toNat))) (Va ((b.drop (36 : Int).toNat).take (((b.length : Int) : Int).toNat - (36 : Int).toNat)))))) (pl := [(0, 32), (32, 1), (33, 1)]) Qa6 La Xh (Yx (i := 0) (v := (agg u8 (((b.drop 0).take 32).take 32))) (cs := (cl u8 (((b.drop 0).take 32).take 32))) rfl rfl (Yx (i := 1) (v := (i64 (Va ((b.drop (32 : Int).toNat).take (((b.length : Int) : Int).toNat - (32 : Int).toNat))))) (cs := #[(i64 (Va ((b.drop (32 : Int).toNat).take (((b.length : Int) : Int).toNat - (32 : Int).toNat))))]) rfl rfl (Yx (i := 2) (v := (i64 (Va ((b.drop (36 : Int).toNat).take (((b.length : Int) : Int).toNat - (36 : Int).toNat))))) (cs := #[(i64 (Va ((b.drop (36 : Int).toNat).take (((b.length : Int) : Int).toNat - (36 : Int).toNat))))]) rfl rfl V5))) (Vb (L := (sH (List.replicate 32 0) 0 0)) 0 (sH (((b.drop 0).take 32).take 32) 0 0) rfl (Ws u8 _).symm rfl (Vb 1 (sH (((b.drop 0).take 32).take 32) (Va ((b.drop (32 : Int).toNat).take (((b.length : Int) : Int).toNat - (32 : Int).toNat))) 0) rfl rfl rfl (Vb 2 (sH (((b.drop 0).take 32).take 32) (Va ((b.drop (32 : Int).toNat).take (((b.length : Int) : Int).toNat - (32 : Int).toNat))) (Va ((b.drop (36 : Int).toNat).take (((b.length : Int) : Int).toNat - (36 : Int).toNat)))) rfl rfl rfl Dc)))) <| Yb m11 (Jw Qa6 rfl rfl m11.h0 (Xt (Yj Q9 _) (Xt (Zz (Jn _) Jm) (Xt (Zz (Jn _) Jm) Ui)))) fun w12 m12 => ?_
  refine rN (Qc (sR ?_))
  refine Qd (Zd (r := 32) La rfl Yy Dj rfl rfl) <| Qd (Yp 1 Di rfl m12.h0 rfl) <| Qd (Zd (r := 33) La rfl Yy Dj rfl rfl) <| Qd (Yp 2 Di rfl m12.h0 rfl) <| Qd (v := (i64 (if (Va ((b.drop (36 : Int).toNat).take (((b.length : Int) : Int).toNat - (36 : Int).toNat))) > (Va ((b.drop (32 : Int).toNat).take (((b.length : Int) : Int).toNat - (32 : Int).toNat))) then Va ((b.drop (36 : Int).toNat).take (((b.length : Int) : Int).toNat - (36 : Int).toNat)) else Va ((b.drop (32 : Int).toNat).take (((b.length : Int) : Int).toNat - (32 : Int).toNat))))) (Qln rfl rfl) <| Qd (Cm (b := 2147483647) rfl rfl) <| rN ?_
  refine Xb rfl (fun hc13 => ?_) (fun hc13 => ?_)
  ·
   have hc13p := of_decide_eq_true hc13
   refine sR <| Qd (Ky (c := (Qp (sH (List.replicate 32 0) 0 0))) (pl := [(0, 32), (32, 1), (33, 1)]) Qa6 La Xh V5 Xh) <| Yb m12 (Jw Qa6 rfl rfl m12.h0 (Xt (Yj Q9 _) (Xt (Zz (Jn _) Jm) (Xt (Zz (Jn _) Jm) Ui)))) fun w14 m14 => Zv Jp <| Zv (i64 3) ?_
   refine rN (Zy (Y7 ?_))
   refine Qs [(Value.agg (Qp (sH (List.replicate 32 0) 0 0))), Jp, (i64 3)] ⟨⟨_, rfl, Ku La Qa6 m14.h0⟩, rfl, rfl, trivial⟩ ?_
   obtain ⟨hz1, hz2, hz3⟩ := hd_no (b := b) (hd_big (by have hq := hc13p; simp only [hgn1, hgn2, hgn3, hgn4] at hq; split at hq <;> omega))
   have m15 := Mem.drop [_] _ m14
   rw [hz1, hz2, hz3]
   exact ⟨Jp, [], rfl, Xl.cast (Xl.none u8 5) (by first | rfl | exact Qdr b 40 | (simp; done) | simp [Qdr]), by simpa using m15⟩
  ·
   have hc13p := of_decide_eq_false hc13
   refine Qo (Qa (Qc ?_))
   refine Xj [(0, false), (1, false), (2, false), (3, true)] 4 Xh <| Y6 rfl (fun _ e' => Jt La Qa6 rfl (m12.ext e').h0) <| Jj rfl v <| Y6 rfl (fun _ e' => Yv (i := 40) (j := (b.length : Int)) (Rd.ofRest hb (m12.ext e')) Zx Yw rfl (Xv (k := .i64) (i := 40) rfl) (Zc _ _) oM sL sL) ?_
   refine Ba rfl rfl (fun w16 e16 => ?_)
   have m16 := m12.ext e16
   refine J8.mono (oc34 (Jb rfl) (Rt (Ai v 40 (b.length : Int)) ((b.drop (40 : Int).toNat).take (((b.length : Int) : Int).toNat - (40 : Int).toNat)) _ (Rd.cast (l' := (b.drop (40 : Int).toNat).take (((b.length : Int) : Int).toNat - (40 : Int).toNat)) (Rd.sub (Rd.ofRest hb m16) oM sL sL) rfl) sL)) ?_
   rintro rq18 w17 ⟨Hsq18, grq18, k_w17⟩
   refine ⟨k_w17.toExt, ?_⟩
   have m17 : Mem _ _ (Hsq18 ++ ([_])) := Mem.new (H := [_]) (H' := Hsq18) m16 k_w17
   refine Ug m17 fun w19 m19 => Ve (Jw Qa6 rfl rfl ((Mem.pick Hsq18 [_] _ m19)).h0 (Xt (Yj Q9 _) (Xt (Zz (Jn _) Jm) (Xt (Zz (Jn _) Jm) Ui)))) ?_
   rintro _ w20 uq20
   have m20 : Mem _ _ ([_] ++ (Hsq18 ++ ([]))) := Mem.upd0 (Mem.pick Hsq18 [_] _ m19) uq20
   refine Zv rq18 <| Zv (i64 0) ?_
   refine rN (Zy ?_)
   refine Qs [(Value.agg (Qp (sH (((b.drop 0).take 32).take 32) (Va ((b.drop (32 : Int).toNat).take (((b.length : Int) : Int).toNat - (32 : Int).toNat))) (Va ((b.drop (36 : Int).toNat).take (((b.length : Int) : Int).toNat - (36 : Int).toNat)))))), rq18, (i64 0)] ⟨⟨_, rfl, Ku La Qa6 m20.h0⟩, rfl, rfl, trivial⟩ ?_
   have hq0 := hc13p
   simp only [hgn1, hgn2, hgn3, hgn4] at hq0
   obtain ⟨hz1, hz2, hz3⟩ := Qfw (b := b) (Qmo hc2p (by split at hq0 <;> omega) (by split at hq0 <;> omega))
   have m21 := Mem.drop [_] _ m20
   rw [hz1, hz2, hz3]
   exact ⟨rq18, Hsq18, congrArg (fun x => Value.tuple #[x, _, i64 0]) (sH_ext ((show _ = b.take 32 by simp [List.take_take]).trans (Ut (by simp; omega)).symm) hgn1 hgn2), Xl.cast grq18 (by first | rfl | exact Qdr b 40 | (simp; done) | simp [Qdr]), by simpa using m21⟩
end --m
section
set_option linter.unusedVariables false
set_option linter.unusedSimpArgs false
attribute [local irreducible] Ak Va D7 Ya Yq Gy J9 Jz Ja Zu Wi Ko Qi Q7
end --m
end Go.Proofs.YtkmiemlpfkfiiaaDoor
