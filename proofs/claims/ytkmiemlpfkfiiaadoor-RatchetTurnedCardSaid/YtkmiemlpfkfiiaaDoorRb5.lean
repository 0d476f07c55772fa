/- The ratchet: the header of bytes. Conditions: none beyond those that each theorem states. -/
import Derived.Test.YtkmiemlpfkfiiaaDoorRb4
namespace Go.Proofs.YtkmiemlpfkfiiaaDoor
open Bool renaming and_eq_true → bF
open List renaming flatten_cons → dD, getD_eq_getElem?_getD → aI, replicate → aA
open Mem renaming addOwn → ae, drop → aF, of_world → aY, pick → aC, pick2 → aN
open Rd renaming cast → bC, ofRest → aK, sub → bf
open Value renaming agg → aO, tuple → ak
open Tryd
set_option linter.unusedVariables false
set_option linter.unusedSimpArgs false
theorem Pj (b : Z4) (a : Nat) : (b.drop (a : Int).toNat).take ((b.length : Int).toNat - (a : Int).toNat) = b.drop a := by
 simp only [Int.toNat_natCast]; exact List.take_of_length_le (by rw [List.length_drop]; exact Nat.le_refl _)
theorem Qd7 {x : Z4} {n : Nat} (h : 4 ≤ n) : We (x.take n) = We x := by
 unfold We
 have e : ∀ i, i < 4 → (x.take n).getD i 0 = x.getD i 0 := fun i hi => by rw [aI, aI, List.getElem?_take_of_lt oM]
 rw [e 0 oM, e 1 oM, e 2 oM, e 3 oM]
theorem sH_ext {a a' : Z4} {p p' n n' : Int} (h1 : a = a') (h2 : p = p') (h3 : n = n') : aO (Qy (sH a p n)) = aO (Qy (sH a' p' n')) := by subst h1 h2 h3; rfl
theorem Qj8 {b : Z4} (h : Ns b = false) : Xf b = ⟨aA 32 0, 0, 0, rfl⟩ ∧ hdE b = 3 ∧ hdR b = [] := by
 refine ⟨?_, ?_, ?_⟩
 ·unfold Xf; rw [h]; rfl
 ·unfold hdE; rw [h]; rfl
 unfold hdR; rw [h]; rfl
theorem Qe9 {b : Z4} (h : Ns b = true) : Xf b = ⟨F7 (b.take 32), We (b.drop 32), We (b.drop 36), Md _⟩ ∧ hdE b = 0 ∧ hdR b = b.drop 40 := by
 refine ⟨?_, ?_, ?_⟩
 ·unfold Xf; rw [h]; rfl
 ·unfold hdE; rw [h]; rfl
 unfold hdR; rw [h]; rfl
theorem Qpb {b : Z4} (h : (b.length : Int) < 40) : Ns b = false := by
 unfold Ns; rw [show decide (40 ≤ b.length) = false from decide_eq_false oM]; rfl
theorem Qqr {b : Z4} (h : 2147483647 < We (b.drop 32) ∨ 2147483647 < We (b.drop 36)) : Ns b = false := by
 unfold Ns
 rw [Bool.and_eq_false_iff, Bool.and_eq_false_iff, decide_eq_false_iff_not, decide_eq_false_iff_not, decide_eq_false_iff_not]
 omega
theorem Qnd {b : Z4} (h : ¬ (b.length : Int) < 40) (h1 : ¬ 2147483647 < We (b.drop 32)) (h2 : ¬ 2147483647 < We (b.drop 36)) : Ns b = true := by
 unfold Ns
 rw [bF, bF, decide_eq_true_eq, decide_eq_true_eq, decide_eq_true_eq]
 omega
theorem hd_of {b : Z4} (h : Ns b = true) : 40 ≤ b.length ∧ (0 ≤ (Xf b).p ∧ (Xf b).p ≤ 2147483647) ∧ (0 ≤ (Xf b).n ∧ (Xf b).n ≤ 2147483647) := by
 rw [(Qe9 h).1]
 unfold Ns at h
 rw [bF, bF, decide_eq_true_eq, decide_eq_true_eq, decide_eq_true_eq] at h
 exact ⟨h.1, ⟨Qsm _, h.2.1⟩, ⟨Qsm _, h.2.2⟩⟩
theorem or_ste0 {P : Program} {fr : Nat → Value} {w : World} {ty T E : TypeId} {x y : Operand} {z : Option Value} {kb b j : Nat} {α : Type} {f : α → Value} {l : List α} {a : α} {L : List (List Value)} {fz : Nat × Nat} (hfo : ∀ a, (f a).oneCell' = true) (ht : Ji P T = some (z, 1, kb)) (hx : Ql fr x = ptr b j) (hy : Ql fr y = f a)
  (hb : w.heap[b]? = some (.cells (Qy (l.map f :: L)) E fz)) (hj : j < l.length) (hfz : fz.2 = 0 := by rfl) : Vf P fr w (.store T x y) ty (fun _ w' => Upd w b (.cells (Qy ((l.set j a).map f :: L)) E fz) w') := by
 have := Ui (ty := ty) ht hx hy (hfo a) hb (by rw [U2, dD, List.length_append, List.length_map]; omega) (.inl oM)
 have e : (Qy (l.map f :: L)).setIfInBounds j (f a) = Qy ((l.set j a).map f :: L) := by
  apply Array.ext'
  simp only [Qy, Array.toList_setIfInBounds, dD, List.map_set]
  rw [List.set_append_left _ _ (by simpa using hj)]
 rw [e] at this
 exact this
attribute [local irreducible] Si We Eg X8 Y7 Ba Wh Wv Kw Xc Gv Gn Zu Yy F7
set_option maxHeartbeats 2000000 in
theorem c_head19 (v : Value) (b : Z4) (w0 : World)  (hb : Rd (Jd w0) u8 v b) (hbl : b.length ≤ 1048576) : Xz prog 23 #[v] w0 (fun r w1 => ∃ vr Hr, r = ak #[(aO (Qy (sH ((Xf b).c) ((Xf b).p) ((Xf b).n)))), vr, i64 (hdE b)] ∧ Z9 u8 5 vr (hdR b) Hr ∧ Mem w1 (Qs w0) Hr) := by
 refine Qz (args := [v]) func23 rfl ntmps23 results23 rfl ?_
 have m0 : Mem w0 (Qs w0) [] := aY w0
 refine sR <| Y5 (Ju m0 Aq) fun w1 b2 m1 => Zx J3 <| Zx (i64 0) ?_
 refine rN (Qa (sR ?_))
 refine Zm v <| Qd (Yi (aK hb m1) Zn rfl) <| Qd (Xd (b := 40) rfl rfl) <| rN ?_
 refine Zz rfl (fun hc2 => ?_) (fun hc2 => ?_)
 ·
  have hc2p := of_decide_eq_true hc2
  refine sR <| Qd (Ky F8 Aq rfl m1.h0) <| Ye m1 (Ko Aq rfl rfl m1.h0 (Ym (Jf Qr _) (Ym (X0 (Zw _) J6) (Ym (X0 (Zw _) J6) U6)))) fun w3 m3 => Zx J3 <| Zx (i64 3) ?_
  refine rN (Z8 (Yz ?_))
  refine Qq [(aO (Qy (sH (aA 32 0) 0 0))), J3, (i64 3)] ⟨⟨_, rfl, Jq F8 Aq m3.h0⟩, rfl, rfl, trivial⟩ ?_
  obtain ⟨hz1, hz2, hz3⟩ := Qj8 (b := b) (Qpb hc2p)
  have m4 := aF [_] _ m3
  rw [hz1, hz2, hz3]
  exact ⟨J3, [], rfl, Z9.cast (Z9.none u8 5) (by first | rfl | exact Pj b 40 | (simp; done) | simp [Pj]), by simpa using m4⟩
 ·
  have hc2p := of_decide_eq_false hc2
  have hgn1 : We ((b.drop (32 : Int).toNat).take ((b.length : Int).toNat - (32 : Int).toNat)) = We (b.drop 32) := congrArg We (Pj b 32)
  have hgn2 : We ((b.drop (36 : Int).toNat).take ((b.length : Int).toNat - (36 : Int).toNat)) = We (b.drop 36) := congrArg We (Pj b 36)
  have hgn3 : We ((b.drop 32).take 4) = We (b.drop 32) := Qd7 oM
  have hgn4 : We ((b.drop 36).take 4) = We (b.drop 36) := Qd7 oM
  refine Qo (Qc (Qa ?_))
  refine Xi (dl 10) 10 Xv <| J7 rfl v <| Yj rfl (fun _ e' => Y8 (i := 0) (j := 32) (aK hb (m1.ext e')) Zn Yr rfl (Zd _ _) (Yb (k := .i64) (i := 32) rfl) oM sL sL) <| Yj rfl (fun _ e' => ev_sap (bC (l' := (b.drop 0).take 32) (bf (aK hb (m1.ext e')) oM sL sL) rfl) Xn rfl sL) <| Yj (v := (agg u8 (((b.drop 0).take 32).take 32))) rfl (fun _ e' => Qif (l := (b.drop 0).take 32) (bC (l' := (b.drop 0).take 32) (bf (aK hb (m1.ext e')) oM sL sL) rfl) Xn Zh rfl sL rfl) <| J7 rfl v <| Yj rfl (fun _ e' => Y8 (i := 32) (j := (b.length : Int)) (aK hb (m1.ext e')) Zn Yr rfl (Yb (k := .i64) (i := 32) rfl) (Zd _ _) oM sL sL) <| Wy rfl rfl (fun w5 e5 => oc46 (Jz rfl) (c_get4 (Cf v 32 (b.length : Int)) ((b.drop (32 : Int).toNat).take (((b.length : Int) : Int).toNat - (32 : Int).toNat)) _ (bC (l' := (b.drop (32 : Int).toNat).take (((b.length : Int) : Int).toNat - (32 : Int).toNat)) (bf (aK hb (m1.ext e5)) oM sL sL) rfl) sL)) <| J7 rfl v <| Yj rfl (fun _ e' => Y8 (i := 36) (j := (b.length : Int)) (aK hb (m1.ext e')) Zn Yr rfl (Yb (k := .i64) (i := 36) rfl) (Zd _ _) oM sL sL) <| Wy rfl rfl (fun w8 e8 => oc46 (Jz rfl) (c_get4 (Cf v 36 (b.length : Int)) ((b.drop (36 : Int).toNat).take (((b.length : Int) : Int).toNat - (36 : Int).toNat)) _ (bC (l' := (b.drop (36 : Int).toNat).take (((b.length : Int) : Int).toNat - (36 : Int).toNat)) (bf (aK hb (m1.ext e8)) oM sL sL) rfl) sL)) <| Gf m1 fun w11 m11 => ?_
  refine Qd (Ws (c := (Qy (sH (((b.drop 0).take 32).take 32) (We ((b.drop (32 : Int).toNat).take (((b.length : Int) : Int).toNat - (32 : Int).toNat))) (We ((b.drop (36 : Int).toNat).take (((b.length : Int) : Int).toNat - (36 : Int).toNat)))))) (pl := [(0, 32), (32, 1), (33, 1)]) Aq F8 Xv (Jp (i := 0) (v := (agg u8 (((b.drop 0).take 32).take 32))) (cs := (cl u8 (((b.drop 0).take 32).take 32))) rfl rfl (Jp (i := 1) (v := (i64 (We ((b.drop (32 : Int).toNat).take (((b.length : Int) : Int).toNat - (32 : Int).toNat))))) (cs := #[(i64 (We ((b.drop (32 : Int).toNat).take (((b.length : Int) : Int).toNat - (32 : Int).toNat))))]) rfl rfl (Jp (i := 2) (v := (i64 (We ((b.drop (36 : Int).toNat).take (((b.length : Int) : Int).toNat - (36 : Int).toNat))))) (cs := #[(i64 (We ((b.drop (36 : Int).toNat).take (((b.length : Int) : Int).toNat - (36 : Int).toNat))))]) rfl rfl Vt))) (Vx (L := (sH (aA 32 0) 0 0)) 0 (sH (((b.drop 0).take 32).take 32) 0 0) rfl (Gg u8 _).symm rfl (Vx 1 (sH (((b.drop 0).take 32).take 32) (We ((b.drop (32 : Int).toNat).take (((b.length : Int) : Int).toNat - (32 : Int).toNat))) 0) rfl rfl rfl (Vx 2 (sH (((b.drop 0).take 32).take 32) (We ((b.drop (32 : Int).toNat).take (((b.length : Int) : Int).toNat - (32 : Int).toNat))) (We ((b.drop (36 : Int).toNat).take (((b.length : Int) : Int).toNat - (36 : Int).toNat)))) rfl rfl rfl Bg)))) <| Ye m11 (Ko Aq rfl rfl m11.h0 (Ym (Jf Qr _) (Ym (X0 (Zw _) J6) (Ym (X0 (Zw _) J6) U6)))) fun w12 m12 => ?_
  refine rN (Qa (sR ?_))
  refine Qd (Zl (r := 32) F8 rfl Jj Uw rfl rfl) <| Qd (Y2 1 Fa rfl m12.h0 rfl) <| Qd (Zl (r := 33) F8 rfl Jj Uw rfl rfl) <| Qd (Y2 2 Fa rfl m12.h0 rfl) <| Qd (v := (i64 (if (We ((b.drop (36 : Int).toNat).take (((b.length : Int) : Int).toNat - (36 : Int).toNat))) > (We ((b.drop (32 : Int).toNat).take (((b.length : Int) : Int).toNat - (32 : Int).toNat))) then We ((b.drop (36 : Int).toNat).take (((b.length : Int) : Int).toNat - (36 : Int).toNat)) else We ((b.drop (32 : Int).toNat).take (((b.length : Int) : Int).toNat - (32 : Int).toNat))))) (Qq1 rfl rfl) <| Qd (G7 (b := 2147483647) rfl rfl) <| rN ?_
  refine Zz rfl (fun hc13 => ?_) (fun hc13 => ?_)
  ·
   have hc13p := of_decide_eq_true hc13
   refine sR <| Qd (Ws (c := (Qy (sH (aA 32 0) 0 0))) (pl := [(0, 32), (32, 1), (33, 1)]) Aq F8 Xv Vt Xv) <| Ye m12 (Ko Aq rfl rfl m12.h0 (Ym (Jf Qr _) (Ym (X0 (Zw _) J6) (Ym (X0 (Zw _) J6) U6)))) fun w14 m14 => Zx J3 <| Zx (i64 3) ?_
   refine rN (Z8 (Yz ?_))
   refine Qq [(aO (Qy (sH (aA 32 0) 0 0))), J3, (i64 3)] ⟨⟨_, rfl, Jq F8 Aq m14.h0⟩, rfl, rfl, trivial⟩ ?_
   obtain ⟨hz1, hz2, hz3⟩ := Qj8 (b := b) (Qqr (by have hq := hc13p; simp only [hgn1, hgn2, hgn3, hgn4] at hq; split at hq <;> omega))
   have m15 := aF [_] _ m14
   rw [hz1, hz2, hz3]
   exact ⟨J3, [], rfl, Z9.cast (Z9.none u8 5) (by first | rfl | exact Pj b 40 | (simp; done) | simp [Pj]), by simpa using m15⟩
  ·
   have hc13p := of_decide_eq_false hc13
   refine Qo (Qc (Qa ?_))
   refine Xi [(0, false), (1, false), (2, false), (3, true)] 4 Xv <| Yj rfl (fun _ e' => Ky F8 Aq rfl (m12.ext e').h0) <| J7 rfl v <| Yj rfl (fun _ e' => Y8 (i := 40) (j := (b.length : Int)) (aK hb (m12.ext e')) Zn Yr rfl (Yb (k := .i64) (i := 40) rfl) (Zd _ _) oM sL sL) ?_
   refine C9 rfl rfl (fun w16 e16 => ?_)
   have m16 := m12.ext e16
   refine Vf.mono (oc34 (Jz rfl) (Qco (Cf v 40 (b.length : Int)) ((b.drop (40 : Int).toNat).take (((b.length : Int) : Int).toNat - (40 : Int).toNat)) _ (bC (l' := (b.drop (40 : Int).toNat).take (((b.length : Int) : Int).toNat - (40 : Int).toNat)) (bf (aK hb m16) oM sL sL) rfl) sL)) ?_
   rintro rq18 w17 ⟨Hsq18, grq18, k_w17⟩
   refine ⟨k_w17.toExt, ?_⟩
   have m17 : Mem _ _ (Hsq18 ++ ([_])) := Mem.new (H := [_]) (H' := Hsq18) m16 k_w17
   refine Gf m17 fun w19 m19 => Vd (Ko Aq rfl rfl ((aC Hsq18 [_] _ m19)).h0 (Ym (Jf Qr _) (Ym (X0 (Zw _) J6) (Ym (X0 (Zw _) J6) U6)))) ?_
   rintro _ w20 uq20
   have m20 : Mem _ _ ([_] ++ (Hsq18 ++ ([]))) := Mem.upd0 (aC Hsq18 [_] _ m19) uq20
   refine Zx rq18 <| Zx (i64 0) ?_
   refine rN (Z8 ?_)
   refine Qq [(aO (Qy (sH (((b.drop 0).take 32).take 32) (We ((b.drop (32 : Int).toNat).take (((b.length : Int) : Int).toNat - (32 : Int).toNat))) (We ((b.drop (36 : Int).toNat).take (((b.length : Int) : Int).toNat - (36 : Int).toNat)))))), rq18, (i64 0)] ⟨⟨_, rfl, Jq F8 Aq m20.h0⟩, rfl, rfl, trivial⟩ ?_
   have hq0 := hc13p
   simp only [hgn1, hgn2, hgn3, hgn4] at hq0
   obtain ⟨hz1, hz2, hz3⟩ := Qe9 (b := b) (Qnd hc2p (by split at hq0 <;> omega) (by split at hq0 <;> omega))
   have m21 := aF [_] _ m20
   rw [hz1, hz2, hz3]
   exact ⟨rq18, Hsq18, congrArg (fun x => ak #[x, _, i64 0]) (sH_ext ((show _ = b.take 32 by simp [List.take_take]).trans (Ci (by simp; omega)).symm) hgn1 hgn2), Z9.cast grq18 (by first | rfl | exact Pj b 40 | (simp; done) | simp [Pj]), by simpa using m21⟩
set_option maxHeartbeats 2000000 in
theorem Quq (v : Value) (b : Z4) (w0 : World)  (hb : Rd (Jd w0) u8 v b) (hbl : b.length ≤ 1048576) : Xz prog 24 #[v] w0 (fun r w1 => ∃ vr Hr, r = ak #[(aO (Qy (sH ((Xf b).c) ((Xf b).p) ((Xf b).n)))), vr, i64 (hdE b)] ∧ Z9 u8 5 vr (hdR b) Hr ∧ Mem w1 (Qs w0) Hr) := by
 refine Qz (args := [v]) func24 rfl ntmps24 results24 rfl ?_
 have m0 : Mem w0 (Qs w0) [] := aY w0
 refine sR <| Y5 (Ju m0 Aq) fun w1 b2 m1 => Zx J3 <| Zx (i64 0) ?_
 refine rN (Qa (sR ?_))
 refine Zm v <| Qd (Yi (aK hb m1) Zn rfl) <| Qd (Xd (b := 40) rfl rfl) <| rN ?_
 refine Zz rfl (fun hc2 => ?_) (fun hc2 => ?_)
 ·
  have hc2p := of_decide_eq_true hc2
  refine sR <| Qd (Ws (c := (Qy (sH (aA 32 0) 0 0))) (pl := [(0, 32), (32, 1), (33, 1)]) Aq F8 Xv Vt Xv) <| Ye m1 (Ko Aq rfl rfl m1.h0 (Ym (Jf Qr _) (Ym (X0 (Zw _) J6) (Ym (X0 (Zw _) J6) U6)))) fun w3 m3 => Zx J3 <| Zx (i64 3) ?_
  refine rN (Z8 (Yz ?_))
  refine Qq [(aO (Qy (sH (aA 32 0) 0 0))), J3, (i64 3)] ⟨⟨_, rfl, Jq F8 Aq m3.h0⟩, rfl, rfl, trivial⟩ ?_
  obtain ⟨hz1, hz2, hz3⟩ := Qj8 (b := b) (Qpb hc2p)
  have m4 := aF [_] _ m3
  rw [hz1, hz2, hz3]
  exact ⟨J3, [], rfl, Z9.cast (Z9.none u8 5) (by first | rfl | exact Pj b 40 | (simp; done) | simp [Pj]), by simpa using m4⟩
 ·
  have hc2p := of_decide_eq_false hc2
  have hgn1 : We ((b.drop (32 : Int).toNat).take ((b.length : Int).toNat - (32 : Int).toNat)) = We (b.drop 32) := congrArg We (Pj b 32)
  have hgn2 : We ((b.drop (36 : Int).toNat).take ((b.length : Int).toNat - (36 : Int).toNat)) = We (b.drop 36) := congrArg We (Pj b 36)
  have hgn3 : We ((b.drop 32).take 4) = We (b.drop 32) := Qd7 oM
  have hgn4 : We ((b.drop 36).take 4) = We (b.drop 36) := Qd7 oM
  refine Qo (Qc (Qa ?_))
  refine Xi [(0, false), (1, false), (2, false), (3, false), (4, false), (5, false), (6, false), (7, true)] 8 Xv <| J7 rfl v <| Yj rfl (fun _ e' => Y8 (i := 32) (j := 36) (aK hb (m1.ext e')) Zn Yr rfl (Yb (k := .i64) (i := 32) rfl) (Yb (k := .i64) (i := 36) rfl) oM sL sL) <| Wy rfl rfl (fun w5 e5 => oc48 (Jz rfl) (Qs3 (Cf v 32 36) ((b.drop 32).take 4) _ (bC (l' := (b.drop 32).take 4) (bf (aK hb (m1.ext e5)) oM sL sL) rfl) sL)) <| J7 rfl v <| Yj rfl (fun _ e' => Y8 (i := 36) (j := 40) (aK hb (m1.ext e')) Zn Yr rfl (Yb (k := .i64) (i := 36) rfl) (Yb (k := .i64) (i := 40) rfl) oM sL sL) <| Wy rfl rfl (fun w8 e8 => oc48 (Jz rfl) (Qs3 (Cf v 36 40) ((b.drop 36).take 4) _ (bC (l' := (b.drop 36).take 4) (bf (aK hb (m1.ext e8)) oM sL sL) rfl) sL)) <| X4 rfl (Ws (c := (Qy (sH (aA 32 0) (We ((b.drop 32).take 4)) (We ((b.drop 36).take 4))))) (pl := [(0, 32), (32, 1), (33, 1)]) Aq F8 Xv (Jp (i := 1) (v := (i64 (We ((b.drop 32).take 4)))) (cs := #[(i64 (We ((b.drop 32).take 4)))]) rfl rfl (Jp (i := 2) (v := (i64 (We ((b.drop 36).take 4)))) (cs := #[(i64 (We ((b.drop 36).take 4)))]) rfl rfl Vt)) (Vx (L := (sH (aA 32 0) 0 0)) 1 (sH (aA 32 0) (We ((b.drop 32).take 4)) 0) rfl rfl rfl (Vx 2 (sH (aA 32 0) (We ((b.drop 32).take 4)) (We ((b.drop 36).take 4))) rfl rfl rfl Bg))) ?_
  refine C9 rfl rfl (fun w11 e11 => ?_)
  have m11 := m1.ext e11
  refine Vf.mono (Ju m11 Aq) ?_
  rintro _ w12 ⟨b5, rfl, e12, m12⟩
  refine ⟨e12, ?_⟩
  refine Gf m12 fun w13 m13 => Ye m13 (Ko Aq rfl rfl m13.h0 (Ym (Jf Qr _) (Ym (X0 (Zw _) J6) (Ym (X0 (Zw _) J6) U6)))) fun w14 m14 => ?_
  refine rN (Qa (sR ?_))
  refine Zx (i64 0) ?_
  refine rN (Qh ?_)
  refine Y1 (fun g wv => ∃ (i : Nat), (i ≤ 32) ∧ g 0 = v ∧ g 2 = (ptr b2 0) ∧ g 3 = J3 ∧ g 4 = (i64 0) ∧ g 5 = (ptr b5 0) ∧ g 6 = (i64 (i : Int)) ∧ g 9 = (bl (decide ((b.length : Int) < 40))) ∧ Mem wv (Qs w0) [(b5, .cells (Qy (sH (Yv (fun j => b.getD (j : Int).toNat 0) 0 32 i) (We ((b.drop 32).take 4)) (We ((b.drop 36).take 4)))) 53 (0, 0)), (b2, .cells (Qy (sH (aA 32 0) 0 0)) 53 (0, 0))]) (fun g wv => (32 - RowKit.intOf (g 6)).toNat) ?_ ?_
  ·exact ⟨0, oM, rfl, rfl, rfl, rfl, rfl, rfl, rfl, (by rw [Ei]; exact m14)⟩
  rintro fr15 w16 ⟨i, hi, s0, s2, s3, s4, s5, s6, s9, m16⟩
  have z6 := s6
  have hfl : (Yv (fun j => b.getD (j : Int).toNat 0) 0 32 i).length = 32 := J8 _ _ _ _ hi
  refine Qa (sR ?_)
  refine X9 s6 <| Qd (Xd (b := 32) rfl rfl) <| rN ?_
  refine Zz rfl (fun hc17 => ?_) (fun hc17 => ?_)
  ·
   have hc17p := of_decide_eq_true hc17
   refine Qo (Qc (Qa (Qh (Qb ?_))))
   refine X9 s6 <| X9 s0 <| X9 s6 <| Qd (Zo (aK hb m16) Zn Yr rfl rfl oM sL) <| Qd (v := (u8 (b.getD i 0))) (Xy (l := b) (i := (i : Int)) (dflt := 0) (aK hb m16) V3 rfl oM sL rfl) <| Qd (Zl (r := 0) F8 rfl Jj Zh rfl s5) <| Qd (Zj (r := i) oM Xn Yr rfl rfl oM sL) <| Vd (or_ste0 (j := i) Qr Yr rfl rfl m16.h0 sL) ?_
   rintro _ w18 uq18
   have m18 : Mem _ _ [(b5, .cells (Qy (sH ((Yv (fun j => b.getD (j : Int).toNat 0) 0 32 i).set i (b.getD i 0)) (We ((b.drop 32).take 4)) (We ((b.drop 36).take 4)))) 53 (0, 0)), _] := m16.upd0 uq18
   refine Zp (Qe (Qb ?_))
   refine X9 s6 <| Qd (Zg (b := 1) rfl rfl oM oM) <| Zx (i64 ((i : Int) + 1)) <| rN ?_
   exact ⟨⟨(i + 1), oM, s0, s2, s3, s4, s5, rfl, s9, (by rw [← Ep (fun j => b.getD (j : Int).toNat 0) 0 (n := 32) (k := i) oM _ rfl]; exact m18)⟩, Uj rfl z6 oM oM⟩
  ·
   have hc17p := of_decide_eq_false hc17
   obtain rfl : i = 32 := by omega
   have hfl : (Yv (fun j => b.getD (j : Int).toNat 0) 0 32 32).length = 32 := J8 _ _ _ _ oM
   refine X3 ?_
   refine Qj (Qj (Xk ?_))
   refine Qa (sR ?_)
   refine Qd (Zl (r := 32) F8 rfl Jj Uw rfl s5) <| Qd (Y2 1 Fa rfl m16.h0 rfl) <| Qd (G7 (b := 2147483647) rfl rfl) <| Zm (bl (decide (2147483647 < (We ((b.drop 32).take 4))))) ?_
   rcases Bool.eq_false_or_eq_true (decide (2147483647 < (We ((b.drop 32).take 4)))) with hb19 | hb19
   ·
    have hb19p := of_decide_eq_true hb19
    refine Fe (s := 32) rfl rfl hb19 rfl <| Fe (s := 32) rfl rfl hb19 rfl <| Fe (s := 32) rfl rfl hb19 rfl <| Qd (G6 rfl hb19 rfl) <| rN <| Za rfl Yx <| sR <| Qd (Ws (c := (Qy (sH (aA 32 0) 0 0))) (pl := [(0, 32), (32, 1), (33, 1)]) Aq F8 Xv Vt Xv) <| Vs m16 (Ko Aq s2 rfl m16.h1 (Ym (Jf Qr _) (Ym (X0 (Zw _) J6) (Ym (X0 (Zw _) J6) U6)))) fun w20 m20 => Zx J3 <| Zx (i64 3) ?_
    refine rN (Z8 (Yz ?_))
    refine Qq [(aO (Qy (sH (aA 32 0) 0 0))), J3, (i64 3)] ⟨⟨_, s2, Jq F8 Aq m20.h1⟩, rfl, rfl, trivial⟩ ?_
    obtain ⟨hz1, hz2, hz3⟩ := Qj8 (b := b) (Qqr (by have hq := hb19p; simp only [hgn1, hgn2, hgn3, hgn4] at hq; omega))
    have m21 := aF [_] _ m20
    have m22 := aF [_] _ m21
    rw [hz1, hz2, hz3]
    exact ⟨J3, [], rfl, Z9.cast (Z9.none u8 5) (by first | rfl | exact Pj b 40 | (simp; done) | simp [Pj]), by simpa using m22⟩
   ·
    have hb19p := of_decide_eq_false hb19
    refine Yf (s := 32) rfl rfl hb19 rfl (Zl (r := 33) F8 rfl Jj Uw rfl s5) <| Yf (s := 32) rfl rfl hb19 rfl (Y2 2 Fa rfl m16.h0 rfl) <| Yf (s := 32) rfl rfl hb19 rfl (G7 (b := 2147483647) rfl rfl) <| Qd (Wn rfl hb19 rfl) <| rN ?_
    refine Zz rfl (fun hc23 => ?_) (fun hc23 => ?_)
    ·
     have hc23p := of_decide_eq_true hc23
     refine sR <| Qd (Ws (c := (Qy (sH (aA 32 0) 0 0))) (pl := [(0, 32), (32, 1), (33, 1)]) Aq F8 Xv Vt Xv) <| Vs m16 (Ko Aq s2 rfl m16.h1 (Ym (Jf Qr _) (Ym (X0 (Zw _) J6) (Ym (X0 (Zw _) J6) U6)))) fun w24 m24 => Zx J3 <| Zx (i64 3) ?_
     refine rN (Z8 (Yz ?_))
     refine Qq [(aO (Qy (sH (aA 32 0) 0 0))), J3, (i64 3)] ⟨⟨_, s2, Jq F8 Aq m24.h1⟩, rfl, rfl, trivial⟩ ?_
     obtain ⟨hz1, hz2, hz3⟩ := Qj8 (b := b) (Qqr (by have hq := hc23p; simp only [hgn1, hgn2, hgn3, hgn4] at hq; omega))
     have m25 := aF [_] _ m24
     have m26 := aF [_] _ m25
     rw [hz1, hz2, hz3]
     exact ⟨J3, [], rfl, Z9.cast (Z9.none u8 5) (by first | rfl | exact Pj b 40 | (simp; done) | simp [Pj]), by simpa using m26⟩
    ·
     have hc23p := of_decide_eq_false hc23
     refine Qo (Qc (Qa ?_))
     refine Jy Xv ?_
     have hFM27 : Mem w16 (Qs w0) ([] ++ [(b5, .cells (Qy (sH (Yv (fun j => b.getD (j : Int).toNat 0) 0 32 32) (We ((b.drop 32).take 4)) (We ((b.drop 36).take 4)))) 53 (0, 0)), (b2, .cells (Qy (sH (aA 32 0) 0 0)) 53 (0, 0))]) := m16
     obtain ⟨RM27, hRM27⟩ : ∃ R2, R2 = Rest.add (Qs w0) [(b5, .cells (Qy (sH (Yv (fun j => b.getD (j : Int).toNat 0) 0 32 32) (We ((b.drop 32).take 4)) (We ((b.drop 36).take 4)))) 53 (0, 0)), (b2, .cells (Qy (sH (aA 32 0) 0 0)) 53 (0, 0))] := ⟨_, rfl⟩
     have M270 : Mem w16 RM27 [] := by rw [hRM27]; exact Mem.give hFM27
     have hr28 : Rd RM27.blk u8 v b := by rw [hRM27]; exact Rd.mono hb fun b o e => Mem.addRest hFM27 e
     have ho29 : RM27.blk b5 = some (.cells (Qy (sH (Yv (fun j => b.getD (j : Int).toNat 0) 0 32 32) (We ((b.drop 32).take 4)) (We ((b.drop 36).take 4)))) 53 (0, 0)) := by rw [hRM27]; exact ae hFM27 (List.Mem.head _)
     have ho30 : RM27.blk b2 = some (.cells (Qy (sH (aA 32 0) 0 0)) 53 (0, 0)) := by rw [hRM27]; exact ae hFM27 (List.Mem.tail _ (List.Mem.head _))
     refine Dk M270 [(0, false), (2, false), (3, false), (1, true), (4, true)] 5 rfl Xv <| yqH rfl (fun w _H _hx => Ky F8 Aq s5 (_hx.rest _ _ ho29)) <| N8 rfl (Jb s0) <| yqH rfl (fun w _H _hx => Y8 (i := 40) (j := (b.length : Int)) (aK hr28 _hx) Zn Yr rfl (Yb (k := .i64) (i := 40) rfl) (Zd _ _) oM sL sL) ?_
     refine Qfb rfl rfl (fun w31 e31 => ?_)
     have m31 := M270.ext e31
     refine Vf.mono (Qp u8 [] Qr m31 Zn Yr rfl (by simp [Bz]) rfl) ?_
     rintro _ w32 ⟨b39, rfl, e32, m32⟩
     refine ⟨⟨_, m32⟩, ?_⟩
     refine Qfb rfl rfl (fun w33 e33 => ?_)
     have m33 := m32.ext e33
     refine Vf.mono (Xh (f := u8) (Hs := [(b39, .cells (cl u8 ([])) 5 (0, 0))]) (H := []) m33 (Z9.of u8 5 b39 ([])) rfl rfl (bC (l' := (b.drop (40 : Int).toNat).take (((b.length : Int) : Int).toNat - (40 : Int).toNat)) (bf (aK hr28 m33) oM sL sL) rfl) Zn Zn Yr rfl Qr sL sL) ?_
     rintro sv34 w34 ⟨Hs34, m34, g34⟩
     replace g34 : Z9 u8 5 sv34 ((b.drop (40 : Int).toNat).take (((b.length : Int) : Int).toNat - (40 : Int).toNat)) Hs34 := g34
     refine ⟨⟨_, m34⟩, ?_⟩
     refine Gf m34 fun w35 m35 => ?_
     have hX36 := m35
     rw [hRM27] at hX36
     have m37 : Mem w35 (Qs w0) (Hs34 ++ ([(b5, .cells (Qy (sH (Yv (fun j => b.getD (j : Int).toNat 0) 0 32 32) (We ((b.drop 32).take 4)) (We ((b.drop 36).take 4)))) 53 (0, 0)), (b2, .cells (Qy (sH (aA 32 0) 0 0)) 53 (0, 0))])) := ymA (Mem.back hFM27 hX36)
     refine Vd (Ko Aq s2 rfl ((aN Hs34 [_] [_] _ m37)).h0 (Ym (Jf Qr _) (Ym (X0 (Zw _) J6) (Ym (X0 (Zw _) J6) U6)))) ?_
     rintro _ w38 uq38
     have m38 : Mem _ _ ([_] ++ (Hs34 ++ ([_]))) := Mem.upd0 (aN Hs34 [_] [_] _ m37) uq38
     refine Zx sv34 <| Zx (i64 0) ?_
     refine rN (Z8 ?_)
     refine Qq [(aO (Qy (sH (Yv (fun j => b.getD (j : Int).toNat 0) 0 32 32) (We ((b.drop 32).take 4)) (We ((b.drop 36).take 4))))), sv34, (i64 0)] ⟨⟨_, s2, Jq F8 Aq m38.h0⟩, rfl, rfl, trivial⟩ ?_
     have hq0 := hb19p
     simp only [hgn1, hgn2, hgn3, hgn4] at hq0
     have hq1 := hc23p
     simp only [hgn1, hgn2, hgn3, hgn4] at hq1
     obtain ⟨hz1, hz2, hz3⟩ := Qe9 (b := b) (Qnd hc2p hq0 hq1)
     have m39 := aF [_] _ m38
     have m40 := aF [_] _ (aC Hs34 [_] _ m39)
     rw [hz1, hz2, hz3]
     exact ⟨sv34, Hs34, congrArg (fun x => ak #[x, _, i64 0]) (sH_ext ((show _ = b.take 32 from (Qkj b 0 oM).trans Ya).trans (Ci (by simp; omega)).symm) hgn3 hgn4), Z9.cast g34 (by first | rfl | exact Pj b 40 | (simp; done) | simp [Pj]), by simpa using m40⟩
end Go.Proofs.YtkmiemlpfkfiiaaDoor
