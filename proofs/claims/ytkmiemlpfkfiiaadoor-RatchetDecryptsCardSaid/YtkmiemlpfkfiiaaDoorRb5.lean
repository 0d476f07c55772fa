/- The ratchet: the header of bytes. Conditions: none beyond those that each theorem states. -/
import Derived.Test.YtkmiemlpfkfiiaaDoorRb4
namespace Go.Proofs.YtkmiemlpfkfiiaaDoor
open Tryd
set_option linter.unusedVariables false
set_option linter.unusedSimpArgs false
theorem Pn (b : Z8) (a : Nat) : (b.drop (a : Int).toNat).take ((b.length : Int).toNat - (a : Int).toNat) = b.drop a := by
 simp only [Int.toNat_natCast]; exact List.take_of_length_le (by rw [List.length_drop]; exact Nat.le_refl _)
theorem Qd0 {x : Z8} {n : Nat} (h : 4 ≤ n) : Wn (x.take n) = Wn x := by
 unfold Wn
 have e : ∀ i, i < 4 → (x.take n).getD i 0 = x.getD i 0 := fun i hi => by rw [List.getD_eq_getElem?_getD, List.getD_eq_getElem?_getD, List.getElem?_take_of_lt oM]
 rw [e 0 oM, e 1 oM, e 2 oM, e 3 oM]
theorem sH_ext {a a' : Z8} {p p' n n' : Int} (h1 : a = a') (h2 : p = p') (h3 : n = n') : Value.agg (Qz (sH a p n)) = Value.agg (Qz (sH a' p' n')) := by subst h1 h2 h3; rfl
theorem Qhp {b : Z8} (h : P7 b = false) : Xe b = ⟨List.replicate 32 0, 0, 0, rfl⟩ ∧ hdE b = 3 ∧ hdR b = [] := by
 refine ⟨?_, ?_, ?_⟩
 ·unfold Xe; rw [h]; rfl
 ·unfold hdE; rw [h]; rfl
 unfold hdR; rw [h]; rfl
theorem Qe3 {b : Z8} (h : P7 b = true) : Xe b = ⟨Ai (b.take 32), Wn (b.drop 32), Wn (b.drop 36), Nk _⟩ ∧ hdE b = 0 ∧ hdR b = b.drop 40 := by
 refine ⟨?_, ?_, ?_⟩
 ·unfold Xe; rw [h]; rfl
 ·unfold hdE; rw [h]; rfl
 unfold hdR; rw [h]; rfl
theorem Qny {b : Z8} (h : (b.length : Int) < 40) : P7 b = false := by
 unfold P7; rw [show decide (40 ≤ b.length) = false from decide_eq_false oM]; rfl
theorem Qo9 {b : Z8} (h : 2147483647 < Wn (b.drop 32) ∨ 2147483647 < Wn (b.drop 36)) : P7 b = false := by
 unfold P7
 rw [Bool.and_eq_false_iff, Bool.and_eq_false_iff, decide_eq_false_iff_not, decide_eq_false_iff_not, decide_eq_false_iff_not]
 omega
theorem Qqq {b : Z8} (h : ¬ (b.length : Int) < 40) (h1 : ¬ 2147483647 < Wn (b.drop 32)) (h2 : ¬ 2147483647 < Wn (b.drop 36)) : P7 b = true := by
 unfold P7
 rw [Bool.and_eq_true, Bool.and_eq_true, decide_eq_true_eq, decide_eq_true_eq, decide_eq_true_eq]
 omega
theorem hd_of {b : Z8} (h : P7 b = true) : 40 ≤ b.length ∧ (0 ≤ (Xe b).p ∧ (Xe b).p ≤ 2147483647) ∧ (0 ≤ (Xe b).n ∧ (Xe b).n ≤ 2147483647) := by
 rw [(Qe3 h).1]
 unfold P7 at h
 rw [Bool.and_eq_true, Bool.and_eq_true, decide_eq_true_eq, decide_eq_true_eq, decide_eq_true_eq] at h
 exact ⟨h.1, ⟨Qqs _, h.2.1⟩, ⟨Qqs _, h.2.2⟩⟩
theorem or_ste0 {P : Program} {fr : Nat → Value} {w : World} {ty T E : TypeId} {x y : Operand} {z : Option Value} {kb b j : Nat} {α : Type} {f : α → Value} {l : List α} {a : α} {L : List (List Value)} {fz : Nat × Nat} (hfo : ∀ a, (f a).oneCell' = true) (ht : Jh P T = some (z, 1, kb)) (hx : Ql fr x = ptr b j) (hy : Ql fr y = f a)
  (hb : w.heap[b]? = some (.cells (Qz (l.map f :: L)) E fz)) (hj : j < l.length) (hfz : fz.2 = 0 := by rfl) : Wu P fr w (.store T x y) ty (fun _ w' => Upd w b (.cells (Qz ((l.set j a).map f :: L)) E fz) w') := by
 have := Ul (ty := ty) ht hx hy (hfo a) hb (by rw [U5, List.flatten_cons, List.length_append, List.length_map]; omega) (.inl oM)
 have e : (Qz (l.map f :: L)).setIfInBounds j (f a) = Qz ((l.set j a).map f :: L) := by
  apply Array.ext'
  simp only [Qz, Array.toList_setIfInBounds, List.flatten_cons, List.map_set]
  rw [List.set_append_left _ _ (by simpa using hj)]
 rw [e] at this
 exact this
attribute [local irreducible] Qee Pq Wn Dh Yc Jf Qaz Wh Vb Kz Xj Lc Ef Xr V5 Ac Ai
set_option maxHeartbeats 2000000 in
theorem Qoc (v : Value) (b : Z8) (w0 : World)  (hb : Rd (Y8 w0) u8 v b) (hbl : b.length ≤ 1048576) : X0 prog 23 #[v] w0 (fun r w1 => ∃ vr Hr, r = Value.tuple #[(Value.agg (Qz (sH ((Xe b).c) ((Xe b).p) ((Xe b).n)))), vr, i64 (hdE b)] ∧ Z5 u8 5 vr (hdR b) Hr ∧ Mem w1 (Qr w0) Hr) := by
 refine Qy (args := [v]) func23 rfl ntmps23 results23 rfl ?_
 have m0 : Mem w0 (Qr w0) [] := Mem.of_world w0
 refine sR <| Y9 (Jw m0 D9) fun w1 b2 m1 => Zx Wl <| Zx (i64 0) ?_
 refine rN (Qa (sR ?_))
 refine Zm v <| Qd (Yk (Rd.ofRest hb m1) Zo rfl) <| Qd (Xa (b := 40) rfl rfl) <| rN ?_
 refine Zy rfl (fun hc2 => ?_) (fun hc2 => ?_)
 ·
  have hc2p := of_decide_eq_true hc2
  refine sR <| Qd (J7 Fj D9 rfl m1.h0) <| Ye m1 (Kt D9 rfl rfl m1.h0 (Yl (Jj Qs _) (Yl (Xy (Zv _) Jz) (Yl (Xy (Zv _) Jz) Uw)))) fun w3 m3 => Zx Wl <| Zx (i64 3) ?_
  refine rN (Zz (Yv ?_))
  refine Qp [(Value.agg (Qz (sH (List.replicate 32 0) 0 0))), Wl, (i64 3)] ⟨⟨_, rfl, Jr Fj D9 m3.h0⟩, rfl, rfl, trivial⟩ ?_
  obtain ⟨hz1, hz2, hz3⟩ := Qhp (b := b) (Qny hc2p)
  have m4 := Mem.drop [_] _ m3
  rw [hz1, hz2, hz3]
  exact ⟨Wl, [], rfl, Z5.cast (Z5.none u8 5) (by first | rfl | exact Pn b 40 | (simp; done) | simp [Pn]), by simpa using m4⟩
 ·
  have hc2p := of_decide_eq_false hc2
  have hgn1 : Wn ((b.drop (32 : Int).toNat).take ((b.length : Int).toNat - (32 : Int).toNat)) = Wn (b.drop 32) := congrArg Wn (Pn b 32)
  have hgn2 : Wn ((b.drop (36 : Int).toNat).take ((b.length : Int).toNat - (36 : Int).toNat)) = Wn (b.drop 36) := congrArg Wn (Pn b 36)
  have hgn3 : Wn ((b.drop 32).take 4) = Wn (b.drop 32) := Qd0 oM
  have hgn4 : Wn ((b.drop 36).take 4) = Wn (b.drop 36) := Qd0 oM
  refine Qn (Qc (Qa ?_))
  refine Xg (dl 10) 10 Xo <| J8 rfl v <| Ym rfl (fun _ e' => Y6 (i := 0) (j := 32) (Rd.ofRest hb (m1.ext e')) Zo Yw rfl (Zd _ _) (Yd (k := .i64) (i := 32) rfl) oM sL sL) <| Ym rfl (fun _ e' => ev_sap (Rd.cast (l' := (b.drop 0).take 32) (Rd.sub (Rd.ofRest hb (m1.ext e')) oM sL sL) rfl) Xl rfl sL) <| Ym (v := (agg u8 (((b.drop 0).take 32).take 32))) rfl (fun _ e' => Qhu (l := (b.drop 0).take 32) (Rd.cast (l' := (b.drop 0).take 32) (Rd.sub (Rd.ofRest hb (m1.ext e')) oM sL sL) rfl) Xl Zg rfl sL rfl) <| J8 rfl v <| Ym rfl (fun _ e' => Y6 (i := 32) (j := (b.length : Int)) (Rd.ofRest hb (m1.ext e')) Zo Yw rfl (Yd (k := .i64) (i := 32) rfl) (Zd _ _) oM sL sL) <| Vg rfl rfl (fun w5 e5 => oc46 (Jv rfl) (c_get4 (Bg v 32 (b.length : Int)) ((b.drop (32 : Int).toNat).take (((b.length : Int) : Int).toNat - (32 : Int).toNat)) _ (Rd.cast (l' := (b.drop (32 : Int).toNat).take (((b.length : Int) : Int).toNat - (32 : Int).toNat)) (Rd.sub (Rd.ofRest hb (m1.ext e5)) oM sL sL) rfl) sL)) <| J8 rfl v <| Ym rfl (fun _ e' => Y6 (i := 36) (j := (b.length : Int)) (Rd.ofRest hb (m1.ext e')) Zo Yw rfl (Yd (k := .i64) (i := 36) rfl) (Zd _ _) oM sL sL) <| Vg rfl rfl (fun w8 e8 => oc46 (Jv rfl) (c_get4 (Bg v 36 (b.length : Int)) ((b.drop (36 : Int).toNat).take (((b.length : Int) : Int).toNat - (36 : Int).toNat)) _ (Rd.cast (l' := (b.drop (36 : Int).toNat).take (((b.length : Int) : Int).toNat - (36 : Int).toNat)) (Rd.sub (Rd.ofRest hb (m1.ext e8)) oM sL sL) rfl) sL)) <| Gf m1 fun w11 m11 => ?_
  refine Qd (Wv (c := (Qz (sH (((b.drop 0).take 32).take 32) (Wn ((b.drop (32 : Int).toNat).take (((b.length : Int) : Int).toNat - (32 : Int).toNat))) (Wn ((b.drop (36 : Int).toNat).take (((b.length : Int) : Int).toNat - (36 : Int).toNat)))))) (pl := [(0, 32), (32, 1), (33, 1)]) D9 Fj Xo (Jq (i := 0) (v := (agg u8 (((b.drop 0).take 32).take 32))) (cs := (cl u8 (((b.drop 0).take 32).take 32))) rfl rfl (Jq (i := 1) (v := (i64 (Wn ((b.drop (32 : Int).toNat).take (((b.length : Int) : Int).toNat - (32 : Int).toNat))))) (cs := #[(i64 (Wn ((b.drop (32 : Int).toNat).take (((b.length : Int) : Int).toNat - (32 : Int).toNat))))]) rfl rfl (Jq (i := 2) (v := (i64 (Wn ((b.drop (36 : Int).toNat).take (((b.length : Int) : Int).toNat - (36 : Int).toNat))))) (cs := #[(i64 (Wn ((b.drop (36 : Int).toNat).take (((b.length : Int) : Int).toNat - (36 : Int).toNat))))]) rfl rfl Vq))) (Vy (L := (sH (List.replicate 32 0) 0 0)) 0 (sH (((b.drop 0).take 32).take 32) 0 0) rfl (Gj u8 _).symm rfl (Vy 1 (sH (((b.drop 0).take 32).take 32) (Wn ((b.drop (32 : Int).toNat).take (((b.length : Int) : Int).toNat - (32 : Int).toNat))) 0) rfl rfl rfl (Vy 2 (sH (((b.drop 0).take 32).take 32) (Wn ((b.drop (32 : Int).toNat).take (((b.length : Int) : Int).toNat - (32 : Int).toNat))) (Wn ((b.drop (36 : Int).toNat).take (((b.length : Int) : Int).toNat - (36 : Int).toNat)))) rfl rfl rfl Bq)))) <| Ye m11 (Kt D9 rfl rfl m11.h0 (Yl (Jj Qs _) (Yl (Xy (Zv _) Jz) (Yl (Xy (Zv _) Jz) Uw)))) fun w12 m12 => ?_
  refine rN (Qa (sR ?_))
  refine Qd (Zi (r := 32) Fj rfl Je Ui rfl rfl) <| Qd (Yi 1 Uu rfl m12.h0 rfl) <| Qd (Zi (r := 33) Fj rfl Je Ui rfl rfl) <| Qd (Yi 2 Uu rfl m12.h0 rfl) <| Qd (v := (i64 (if (Wn ((b.drop (36 : Int).toNat).take (((b.length : Int) : Int).toNat - (36 : Int).toNat))) > (Wn ((b.drop (32 : Int).toNat).take (((b.length : Int) : Int).toNat - (32 : Int).toNat))) then Wn ((b.drop (36 : Int).toNat).take (((b.length : Int) : Int).toNat - (36 : Int).toNat)) else Wn ((b.drop (32 : Int).toNat).take (((b.length : Int) : Int).toNat - (32 : Int).toNat))))) (Qpj rfl rfl) <| Qd (Vz (b := 2147483647) rfl rfl) <| rN ?_
  refine Zy rfl (fun hc13 => ?_) (fun hc13 => ?_)
  ·
   have hc13p := of_decide_eq_true hc13
   refine sR <| Qd (Wv (c := (Qz (sH (List.replicate 32 0) 0 0))) (pl := [(0, 32), (32, 1), (33, 1)]) D9 Fj Xo Vq Xo) <| Ye m12 (Kt D9 rfl rfl m12.h0 (Yl (Jj Qs _) (Yl (Xy (Zv _) Jz) (Yl (Xy (Zv _) Jz) Uw)))) fun w14 m14 => Zx Wl <| Zx (i64 3) ?_
   refine rN (Zz (Yv ?_))
   refine Qp [(Value.agg (Qz (sH (List.replicate 32 0) 0 0))), Wl, (i64 3)] ⟨⟨_, rfl, Jr Fj D9 m14.h0⟩, rfl, rfl, trivial⟩ ?_
   obtain ⟨hz1, hz2, hz3⟩ := Qhp (b := b) (Qo9 (by have hq := hc13p; simp only [hgn1, hgn2, hgn3, hgn4] at hq; split at hq <;> omega))
   have m15 := Mem.drop [_] _ m14
   rw [hz1, hz2, hz3]
   exact ⟨Wl, [], rfl, Z5.cast (Z5.none u8 5) (by first | rfl | exact Pn b 40 | (simp; done) | simp [Pn]), by simpa using m15⟩
  ·
   have hc13p := of_decide_eq_false hc13
   refine Qn (Qc (Qa ?_))
   refine Xg [(0, false), (1, false), (2, false), (3, true)] 4 Xo <| Ym rfl (fun _ e' => J7 Fj D9 rfl (m12.ext e').h0) <| J8 rfl v <| Ym rfl (fun _ e' => Y6 (i := 40) (j := (b.length : Int)) (Rd.ofRest hb (m12.ext e')) Zo Yw rfl (Yd (k := .i64) (i := 40) rfl) (Zd _ _) oM sL sL) ?_
   refine Bi rfl rfl (fun w16 e16 => ?_)
   have m16 := m12.ext e16
   refine Wu.mono (oc34 (Jv rfl) (Qcr (Bg v 40 (b.length : Int)) ((b.drop (40 : Int).toNat).take (((b.length : Int) : Int).toNat - (40 : Int).toNat)) _ (Rd.cast (l' := (b.drop (40 : Int).toNat).take (((b.length : Int) : Int).toNat - (40 : Int).toNat)) (Rd.sub (Rd.ofRest hb m16) oM sL sL) rfl) sL)) ?_
   rintro rq18 w17 ⟨Hsq18, grq18, k_w17⟩
   refine ⟨k_w17.toExt, ?_⟩
   have m17 : Mem _ _ (Hsq18 ++ ([_])) := Mem.new (H := [_]) (H' := Hsq18) m16 k_w17
   refine Gf m17 fun w19 m19 => Vf (Kt D9 rfl rfl ((Mem.pick Hsq18 [_] _ m19)).h0 (Yl (Jj Qs _) (Yl (Xy (Zv _) Jz) (Yl (Xy (Zv _) Jz) Uw)))) ?_
   rintro _ w20 uq20
   have m20 : Mem _ _ ([_] ++ (Hsq18 ++ ([]))) := Mem.upd0 (Mem.pick Hsq18 [_] _ m19) uq20
   refine Zx rq18 <| Zx (i64 0) ?_
   refine rN (Zz ?_)
   refine Qp [(Value.agg (Qz (sH (((b.drop 0).take 32).take 32) (Wn ((b.drop (32 : Int).toNat).take (((b.length : Int) : Int).toNat - (32 : Int).toNat))) (Wn ((b.drop (36 : Int).toNat).take (((b.length : Int) : Int).toNat - (36 : Int).toNat)))))), rq18, (i64 0)] ⟨⟨_, rfl, Jr Fj D9 m20.h0⟩, rfl, rfl, trivial⟩ ?_
   have hq0 := hc13p
   simp only [hgn1, hgn2, hgn3, hgn4] at hq0
   obtain ⟨hz1, hz2, hz3⟩ := Qe3 (b := b) (Qqq hc2p (by split at hq0 <;> omega) (by split at hq0 <;> omega))
   have m21 := Mem.drop [_] _ m20
   rw [hz1, hz2, hz3]
   exact ⟨rq18, Hsq18, congrArg (fun x => Value.tuple #[x, _, i64 0]) (sH_ext ((show _ = b.take 32 by simp [List.take_take]).trans (Ry (by simp; omega)).symm) hgn1 hgn2), Z5.cast grq18 (by first | rfl | exact Pn b 40 | (simp; done) | simp [Pn]), by simpa using m21⟩
set_option maxHeartbeats 2000000 in
theorem Qli (v : Value) (b : Z8) (w0 : World)  (hb : Rd (Y8 w0) u8 v b) (hbl : b.length ≤ 1048576) : X0 prog 24 #[v] w0 (fun r w1 => ∃ vr Hr, r = Value.tuple #[(Value.agg (Qz (sH ((Xe b).c) ((Xe b).p) ((Xe b).n)))), vr, i64 (hdE b)] ∧ Z5 u8 5 vr (hdR b) Hr ∧ Mem w1 (Qr w0) Hr) := by
 refine Qy (args := [v]) func24 rfl ntmps24 results24 rfl ?_
 have m0 : Mem w0 (Qr w0) [] := Mem.of_world w0
 refine sR <| Y9 (Jw m0 D9) fun w1 b2 m1 => Zx Wl <| Zx (i64 0) ?_
 refine rN (Qa (sR ?_))
 refine Zm v <| Qd (Yk (Rd.ofRest hb m1) Zo rfl) <| Qd (Xa (b := 40) rfl rfl) <| rN ?_
 refine Zy rfl (fun hc2 => ?_) (fun hc2 => ?_)
 ·
  have hc2p := of_decide_eq_true hc2
  refine sR <| Qd (Wv (c := (Qz (sH (List.replicate 32 0) 0 0))) (pl := [(0, 32), (32, 1), (33, 1)]) D9 Fj Xo Vq Xo) <| Ye m1 (Kt D9 rfl rfl m1.h0 (Yl (Jj Qs _) (Yl (Xy (Zv _) Jz) (Yl (Xy (Zv _) Jz) Uw)))) fun w3 m3 => Zx Wl <| Zx (i64 3) ?_
  refine rN (Zz (Yv ?_))
  refine Qp [(Value.agg (Qz (sH (List.replicate 32 0) 0 0))), Wl, (i64 3)] ⟨⟨_, rfl, Jr Fj D9 m3.h0⟩, rfl, rfl, trivial⟩ ?_
  obtain ⟨hz1, hz2, hz3⟩ := Qhp (b := b) (Qny hc2p)
  have m4 := Mem.drop [_] _ m3
  rw [hz1, hz2, hz3]
  exact ⟨Wl, [], rfl, Z5.cast (Z5.none u8 5) (by first | rfl | exact Pn b 40 | (simp; done) | simp [Pn]), by simpa using m4⟩
 ·
  have hc2p := of_decide_eq_false hc2
  have hgn1 : Wn ((b.drop (32 : Int).toNat).take ((b.length : Int).toNat - (32 : Int).toNat)) = Wn (b.drop 32) := congrArg Wn (Pn b 32)
  have hgn2 : Wn ((b.drop (36 : Int).toNat).take ((b.length : Int).toNat - (36 : Int).toNat)) = Wn (b.drop 36) := congrArg Wn (Pn b 36)
  have hgn3 : Wn ((b.drop 32).take 4) = Wn (b.drop 32) := Qd0 oM
  have hgn4 : Wn ((b.drop 36).take 4) = Wn (b.drop 36) := Qd0 oM
  refine Qn (Qc (Qa ?_))
  refine Xg [(0, false), (1, false), (2, false), (3, false), (4, false), (5, false), (6, false), (7, true)] 8 Xo <| J8 rfl v <| Ym rfl (fun _ e' => Y6 (i := 32) (j := 36) (Rd.ofRest hb (m1.ext e')) Zo Yw rfl (Yd (k := .i64) (i := 32) rfl) (Yd (k := .i64) (i := 36) rfl) oM sL sL) <| Vg rfl rfl (fun w5 e5 => oc48 (Jv rfl) (Qq8 (Bg v 32 36) ((b.drop 32).take 4) _ (Rd.cast (l' := (b.drop 32).take 4) (Rd.sub (Rd.ofRest hb (m1.ext e5)) oM sL sL) rfl) sL)) <| J8 rfl v <| Ym rfl (fun _ e' => Y6 (i := 36) (j := 40) (Rd.ofRest hb (m1.ext e')) Zo Yw rfl (Yd (k := .i64) (i := 36) rfl) (Yd (k := .i64) (i := 40) rfl) oM sL sL) <| Vg rfl rfl (fun w8 e8 => oc48 (Jv rfl) (Qq8 (Bg v 36 40) ((b.drop 36).take 4) _ (Rd.cast (l' := (b.drop 36).take 4) (Rd.sub (Rd.ofRest hb (m1.ext e8)) oM sL sL) rfl) sL)) <| X6 rfl (Wv (c := (Qz (sH (List.replicate 32 0) (Wn ((b.drop 32).take 4)) (Wn ((b.drop 36).take 4))))) (pl := [(0, 32), (32, 1), (33, 1)]) D9 Fj Xo (Jq (i := 1) (v := (i64 (Wn ((b.drop 32).take 4)))) (cs := #[(i64 (Wn ((b.drop 32).take 4)))]) rfl rfl (Jq (i := 2) (v := (i64 (Wn ((b.drop 36).take 4)))) (cs := #[(i64 (Wn ((b.drop 36).take 4)))]) rfl rfl Vq)) (Vy (L := (sH (List.replicate 32 0) 0 0)) 1 (sH (List.replicate 32 0) (Wn ((b.drop 32).take 4)) 0) rfl rfl rfl (Vy 2 (sH (List.replicate 32 0) (Wn ((b.drop 32).take 4)) (Wn ((b.drop 36).take 4))) rfl rfl rfl Bq))) ?_
  refine Bi rfl rfl (fun w11 e11 => ?_)
  have m11 := m1.ext e11
  refine Wu.mono (Jw m11 D9) ?_
  rintro _ w12 ⟨b5, rfl, e12, m12⟩
  refine ⟨e12, ?_⟩
  refine Gf m12 fun w13 m13 => Ye m13 (Kt D9 rfl rfl m13.h0 (Yl (Jj Qs _) (Yl (Xy (Zv _) Jz) (Yl (Xy (Zv _) Jz) Uw)))) fun w14 m14 => ?_
  refine rN (Qa (sR ?_))
  refine Zx (i64 0) ?_
  refine rN (Qh ?_)
  refine Y1 (fun g wv => ∃ (i : Nat), (i ≤ 32) ∧ g 0 = v ∧ g 2 = (ptr b2 0) ∧ g 3 = Wl ∧ g 4 = (i64 0) ∧ g 5 = (ptr b5 0) ∧ g 6 = (i64 (i : Int)) ∧ g 9 = (bl (decide ((b.length : Int) < 40))) ∧ Mem wv (Qr w0) [(b5, .cells (Qz (sH (Y0 (fun j => b.getD (j : Int).toNat 0) 0 32 i) (Wn ((b.drop 32).take 4)) (Wn ((b.drop 36).take 4)))) 53 (0, 0)), (b2, .cells (Qz (sH (List.replicate 32 0) 0 0)) 53 (0, 0))]) (fun g wv => (32 - RowKit.intOf (g 6)).toNat) ?_ ?_
  ·exact ⟨0, oM, rfl, rfl, rfl, rfl, rfl, rfl, rfl, (by rw [En]; exact m14)⟩
  rintro fr15 w16 ⟨i, hi, s0, s2, s3, s4, s5, s6, s9, m16⟩
  have z6 := s6
  have hfl : (Y0 (fun j => b.getD (j : Int).toNat 0) 0 32 i).length = 32 := J9 _ _ _ _ hi
  refine Qa (sR ?_)
  refine Yb s6 <| Qd (Xa (b := 32) rfl rfl) <| rN ?_
  refine Zy rfl (fun hc17 => ?_) (fun hc17 => ?_)
  ·
   have hc17p := of_decide_eq_true hc17
   refine Qn (Qc (Qa (Qh (Qb ?_))))
   refine Yb s6 <| Yb s0 <| Yb s6 <| Qd (Zt (Rd.ofRest hb m16) Zo Yw rfl rfl oM sL) <| Qd (v := (u8 (b.getD i 0))) (X5 (l := b) (i := (i : Int)) (dflt := 0) (Rd.ofRest hb m16) Vs rfl oM sL rfl) <| Qd (Zi (r := 0) Fj rfl Je Zg rfl s5) <| Qd (Zl (r := i) oM Xl Yw rfl rfl oM sL) <| Vf (or_ste0 (j := i) Qs Yw rfl rfl m16.h0 sL) ?_
   rintro _ w18 uq18
   have m18 : Mem _ _ [(b5, .cells (Qz (sH ((Y0 (fun j => b.getD (j : Int).toNat 0) 0 32 i).set i (b.getD i 0)) (Wn ((b.drop 32).take 4)) (Wn ((b.drop 36).take 4)))) 53 (0, 0)), _] := m16.upd0 uq18
   refine Zp (Qe (Qb ?_))
   refine Yb s6 <| Qd (Zf (b := 1) rfl rfl oM oM) <| Zx (i64 ((i : Int) + 1)) <| rN ?_
   exact ⟨⟨(i + 1), oM, s0, s2, s3, s4, s5, rfl, s9, (by rw [← E5 (fun j => b.getD (j : Int).toNat 0) 0 (n := 32) (k := i) oM _ rfl]; exact m18)⟩, Ue rfl z6 oM oM⟩
  ·
   have hc17p := of_decide_eq_false hc17
   obtain rfl : i = 32 := by omega
   have hfl : (Y0 (fun j => b.getD (j : Int).toNat 0) 0 32 32).length = 32 := J9 _ _ _ _ oM
   refine X4 ?_
   refine Qj (Qj (Xi ?_))
   refine Qa (sR ?_)
   refine Qd (Zi (r := 32) Fj rfl Je Ui rfl s5) <| Qd (Yi 1 Uu rfl m16.h0 rfl) <| Qd (Vz (b := 2147483647) rfl rfl) <| Zm (bl (decide (2147483647 < (Wn ((b.drop 32).take 4))))) ?_
   rcases Bool.eq_false_or_eq_true (decide (2147483647 < (Wn ((b.drop 32).take 4)))) with hb19 | hb19
   ·
    have hb19p := of_decide_eq_true hb19
    refine Yg (s := 32) rfl rfl hb19 rfl <| Yg (s := 32) rfl rfl hb19 rfl <| Yg (s := 32) rfl rfl hb19 rfl <| Qd (Jg rfl hb19 rfl) <| rN <| Q9 rfl Jb <| sR <| Qd (Wv (c := (Qz (sH (List.replicate 32 0) 0 0))) (pl := [(0, 32), (32, 1), (33, 1)]) D9 Fj Xo Vq Xo) <| Vu m16 (Kt D9 s2 rfl m16.h1 (Yl (Jj Qs _) (Yl (Xy (Zv _) Jz) (Yl (Xy (Zv _) Jz) Uw)))) fun w20 m20 => Zx Wl <| Zx (i64 3) ?_
    refine rN (Zz (Yv ?_))
    refine Qp [(Value.agg (Qz (sH (List.replicate 32 0) 0 0))), Wl, (i64 3)] ⟨⟨_, s2, Jr Fj D9 m20.h1⟩, rfl, rfl, trivial⟩ ?_
    obtain ⟨hz1, hz2, hz3⟩ := Qhp (b := b) (Qo9 (by have hq := hb19p; simp only [hgn1, hgn2, hgn3, hgn4] at hq; omega))
    have m21 := Mem.drop [_] _ m20
    have m22 := Mem.drop [_] _ m21
    rw [hz1, hz2, hz3]
    exact ⟨Wl, [], rfl, Z5.cast (Z5.none u8 5) (by first | rfl | exact Pn b 40 | (simp; done) | simp [Pn]), by simpa using m22⟩
   ·
    have hb19p := of_decide_eq_false hb19
    refine Zj (s := 32) rfl rfl hb19 rfl (Zi (r := 33) Fj rfl Je Ui rfl s5) <| Zj (s := 32) rfl rfl hb19 rfl (Yi 2 Uu rfl m16.h0 rfl) <| Zj (s := 32) rfl rfl hb19 rfl (Vz (b := 2147483647) rfl rfl) <| Qd (Yz rfl hb19 rfl) <| rN ?_
    refine Zy rfl (fun hc23 => ?_) (fun hc23 => ?_)
    ·
     have hc23p := of_decide_eq_true hc23
     refine sR <| Qd (Wv (c := (Qz (sH (List.replicate 32 0) 0 0))) (pl := [(0, 32), (32, 1), (33, 1)]) D9 Fj Xo Vq Xo) <| Vu m16 (Kt D9 s2 rfl m16.h1 (Yl (Jj Qs _) (Yl (Xy (Zv _) Jz) (Yl (Xy (Zv _) Jz) Uw)))) fun w24 m24 => Zx Wl <| Zx (i64 3) ?_
     refine rN (Zz (Yv ?_))
     refine Qp [(Value.agg (Qz (sH (List.replicate 32 0) 0 0))), Wl, (i64 3)] ⟨⟨_, s2, Jr Fj D9 m24.h1⟩, rfl, rfl, trivial⟩ ?_
     obtain ⟨hz1, hz2, hz3⟩ := Qhp (b := b) (Qo9 (by have hq := hc23p; simp only [hgn1, hgn2, hgn3, hgn4] at hq; omega))
     have m25 := Mem.drop [_] _ m24
     have m26 := Mem.drop [_] _ m25
     rw [hz1, hz2, hz3]
     exact ⟨Wl, [], rfl, Z5.cast (Z5.none u8 5) (by first | rfl | exact Pn b 40 | (simp; done) | simp [Pn]), by simpa using m26⟩
    ·
     have hc23p := of_decide_eq_false hc23
     refine Qn (Qc (Qa ?_))
     refine J4 Xo ?_
     have hFM27 : Mem w16 (Qr w0) ([] ++ [(b5, .cells (Qz (sH (Y0 (fun j => b.getD (j : Int).toNat 0) 0 32 32) (Wn ((b.drop 32).take 4)) (Wn ((b.drop 36).take 4)))) 53 (0, 0)), (b2, .cells (Qz (sH (List.replicate 32 0) 0 0)) 53 (0, 0))]) := m16
     obtain ⟨RM27, hRM27⟩ : ∃ R2, R2 = Rest.add (Qr w0) [(b5, .cells (Qz (sH (Y0 (fun j => b.getD (j : Int).toNat 0) 0 32 32) (Wn ((b.drop 32).take 4)) (Wn ((b.drop 36).take 4)))) 53 (0, 0)), (b2, .cells (Qz (sH (List.replicate 32 0) 0 0)) 53 (0, 0))] := ⟨_, rfl⟩
     have M270 : Mem w16 RM27 [] := by rw [hRM27]; exact Mem.give hFM27
     have hr28 : Rd RM27.blk u8 v b := by rw [hRM27]; exact Rd.mono hb fun b o e => Mem.addRest hFM27 e
     have ho29 : RM27.blk b5 = some (.cells (Qz (sH (Y0 (fun j => b.getD (j : Int).toNat 0) 0 32 32) (Wn ((b.drop 32).take 4)) (Wn ((b.drop 36).take 4)))) 53 (0, 0)) := by rw [hRM27]; exact Mem.addOwn hFM27 (List.Mem.head _)
     have ho30 : RM27.blk b2 = some (.cells (Qz (sH (List.replicate 32 0) 0 0)) 53 (0, 0)) := by rw [hRM27]; exact Mem.addOwn hFM27 (List.Mem.tail _ (List.Mem.head _))
     refine Dv M270 [(0, false), (2, false), (3, false), (1, true), (4, true)] 5 rfl Xo <| yqH rfl (fun w _H _hx => J7 Fj D9 s5 (_hx.rest _ _ ho29)) <| Ns rfl (Yh s0) <| yqH rfl (fun w _H _hx => Y6 (i := 40) (j := (b.length : Int)) (Rd.ofRest hr28 _hx) Zo Yw rfl (Yd (k := .i64) (i := 40) rfl) (Zd _ _) oM sL sL) ?_
     refine Qe6 rfl rfl (fun w31 e31 => ?_)
     have m31 := M270.ext e31
     refine Wu.mono (Qq u8 [] Qs m31 Zo Yw rfl (by simp [Ce]) rfl) ?_
     rintro _ w32 ⟨b39, rfl, e32, m32⟩
     refine ⟨⟨_, m32⟩, ?_⟩
     refine Qe6 rfl rfl (fun w33 e33 => ?_)
     have m33 := m32.ext e33
     refine Wu.mono (Xf (f := u8) (Hs := [(b39, .cells (cl u8 ([])) 5 (0, 0))]) (H := []) m33 (Z5.of u8 5 b39 ([])) rfl rfl (Rd.cast (l' := (b.drop (40 : Int).toNat).take (((b.length : Int) : Int).toNat - (40 : Int).toNat)) (Rd.sub (Rd.ofRest hr28 m33) oM sL sL) rfl) Zo Zo Yw rfl Qs sL sL) ?_
     rintro sv34 w34 ⟨Hs34, m34, g34⟩
     replace g34 : Z5 u8 5 sv34 ((b.drop (40 : Int).toNat).take (((b.length : Int) : Int).toNat - (40 : Int).toNat)) Hs34 := g34
     refine ⟨⟨_, m34⟩, ?_⟩
     refine Gf m34 fun w35 m35 => ?_
     have hX36 := m35
     rw [hRM27] at hX36
     have m37 : Mem w35 (Qr w0) (Hs34 ++ ([(b5, .cells (Qz (sH (Y0 (fun j => b.getD (j : Int).toNat 0) 0 32 32) (Wn ((b.drop 32).take 4)) (Wn ((b.drop 36).take 4)))) 53 (0, 0)), (b2, .cells (Qz (sH (List.replicate 32 0) 0 0)) 53 (0, 0))])) := ymA (Mem.back hFM27 hX36)
     refine Vf (Kt D9 s2 rfl ((Mem.pick2 Hs34 [_] [_] _ m37)).h0 (Yl (Jj Qs _) (Yl (Xy (Zv _) Jz) (Yl (Xy (Zv _) Jz) Uw)))) ?_
     rintro _ w38 uq38
     have m38 : Mem _ _ ([_] ++ (Hs34 ++ ([_]))) := Mem.upd0 (Mem.pick2 Hs34 [_] [_] _ m37) uq38
     refine Zx sv34 <| Zx (i64 0) ?_
     refine rN (Zz ?_)
     refine Qp [(Value.agg (Qz (sH (Y0 (fun j => b.getD (j : Int).toNat 0) 0 32 32) (Wn ((b.drop 32).take 4)) (Wn ((b.drop 36).take 4))))), sv34, (i64 0)] ⟨⟨_, s2, Jr Fj D9 m38.h0⟩, rfl, rfl, trivial⟩ ?_
     have hq0 := hb19p
     simp only [hgn1, hgn2, hgn3, hgn4] at hq0
     have hq1 := hc23p
     simp only [hgn1, hgn2, hgn3, hgn4] at hq1
     obtain ⟨hz1, hz2, hz3⟩ := Qe3 (b := b) (Qqq hc2p hq0 hq1)
     have m39 := Mem.drop [_] _ m38
     have m40 := Mem.drop [_] _ (Mem.pick Hs34 [_] _ m39)
     rw [hz1, hz2, hz3]
     exact ⟨sv34, Hs34, congrArg (fun x => Value.tuple #[x, _, i64 0]) (sH_ext ((show _ = b.take 32 from (Qjy b 0 oM).trans Ya).trans (Ry (by simp; omega)).symm) hgn3 hgn4), Z5.cast g34 (by first | rfl | exact Pn b 40 | (simp; done) | simp [Pn]), by simpa using m40⟩
end Go.Proofs.YtkmiemlpfkfiiaaDoor
