/- Contracts: stream, fifth part. Conditions: none beyond those that each theorem states. -/
import Derived.Test.YtkmiemlpfkfiiaaDoorSt4
namespace Go.Proofs.YtkmiemlpfkfiiaaDoor
open List renaming append_assoc → aQ, append_nil → aZ, cons_append → aW, mem_append_left → aS, mem_append_right → aG, nil_append → aX, range → bP
open Mem renaming drop → aF, pick → aC, pick2 → aN, pick3 → ai
open RowKit renaming intOf → aT
open Tryd
set_option linter.unusedVariables false
set_option linter.unusedSimpArgs false
attribute [local irreducible] Qgx begN Yw qK setQ Yo G9 Yl oN Qdb
set_option maxHeartbeats 2000000 in
theorem c_block3 (key : Z4) (cr : BitVec 32) (nz : Z4) (w0 : World)  (hk : key.length = 32) (hn : nz.length = 12) : Xz prog 94 #[(agg u8 key), (u32 cr), (agg u8 nz)] w0 (fun r w1 => ∃ Hs, Z9 u8 5 r (Fv key cr nz) Hs ∧ Mem w1 (Qs w0) Hs) := by
 refine Qz (args := [(agg u8 key), (u32 cr), (agg u8 nz)]) func94 rfl ntmps94 results94 rfl ?_
 have m0 : Mem w0 (Qs w0) [] := Mem.of_world w0
 refine sR <| Y5 (Z5 (f := u8) (l := key) m0 rfl) fun w1 b3 m1 => Y5 (Z5 (f := u8) (l := nz) m1 rfl) fun w2 b5 m2 => Zx J3 ?_
 refine rN (sR ?_)
 refine Y5 (Qp u32 [1634760805#32, 857760878#32, 2036477234#32, 1797285236#32] Xb m2 Hg Ze rfl rfl rfl) fun w3 b19 m3 => Zx (Wi b19 0 4 4) ?_
 refine rN (Qa (sR ?_))
 refine Zx (i64 0) ?_
 refine rN (Qh ?_)
 refine Y1 (fun g wv => ∃ (k1 : Nat) (sk : Value) (Hk : List (Nat × Obj)), (k1 ≤ 8) ∧ (Z9 u32 106 sk (Qgx key k1) Hk) ∧ g 0 = (agg u8 key) ∧ g 1 = (u32 cr) ∧ g 2 = (agg u8 nz) ∧ g 3 = (ptr b3 0) ∧ g 5 = (ptr b5 0) ∧ g 6 = J3 ∧ g 7 = sk ∧ g 8 = (i64 ((4 * k1 : Nat) : Int)) ∧ Mem wv (Qs w0) (Hk ++ ([(b3, .cells (cl u8 key) 23 (0, 0)), (b5, .cells (cl u8 nz) 77 (0, 0))]))) (fun g wv => (32 - aT (g 8)).toNat) ?_ ?_
 have m4 := (aC [_] [_] _ m3)
 have m5 := (aC [_, _] [_] _ m4)
 have m6 := (aC [_, _] [_] _ m5)
 ·exact ⟨0, (Wi b19 0 4 4), [(b19, .cells (cl u32 ([1634760805#32, 857760878#32, 2036477234#32, 1797285236#32])) 106 (0, 0))], oM, (Z9.cast (Z9.of u32 106 b19 ([1634760805#32, 857760878#32, 2036477234#32, 1797285236#32])) (begK_0 key).symm), rfl, rfl, rfl, rfl, rfl, rfl, rfl, rfl, (by
  have hT := m6
  try simp only [aQ, aW, aX, aZ] at hT ⊢
  exact hT)⟩
 rintro fr7 w8 ⟨k1, sk, Hk, hk1, gk, s0, s1, s2, s3, s5, s6, s7, s8, m8⟩
 have z7 := s7
 have z8 := s8
 have hkl := Qkp key k1
 refine Qa (sR ?_)
 refine X9 s8 <| Qd (Xd (b := 32) rfl rfl) <| rN ?_
 refine Zz rfl (fun hc9 => ?_) (fun hc9 => ?_)
 ·
  have hc9p := of_decide_eq_true hc9
  refine Qo (Qc (Qa (Qh (Qb ?_))))
  refine X9 s7 <| X9 s8 <| X9 s8 <| Qd (Zg (b := 4) rfl rfl oM oM) <| Qd (Xj (i := ((4 * k1 : Nat) : Int)) (j := ((4 * k1 : Nat) : Int) + 4) Xn Yr s3 (Yb (k := .i64) (i := ((4 * k1 : Nat) : Int)) rfl) (Yb (k := .i64) (i := ((4 * k1 : Nat) : Int) + 4) rfl) oM sL sL) <| U5 m8 (oc107 (Jz rfl) (Qsu (sla b3 0 1 ((4 * k1 : Nat) : Int) (((4 * k1 : Nat) : Int) + 4) 32) ((key.drop (((4 * k1 : Nat) : Int) : Int).toNat).take ((((4 * k1 : Nat) : Int) + 4 : Int).toNat - (((4 * k1 : Nat) : Int) : Int).toNat)) _ (Rd.cast (l' := (key.drop (((4 * k1 : Nat) : Int) : Int).toNat).take ((((4 * k1 : Nat) : Int) + 4 : Int).toNat - (((4 * k1 : Nat) : Int) : Int).toNat)) (Rd.sla ((aC Hk [_] _ m8)).h0 sL oM sL sL) rfl) sL)) fun w10 m10 => Y5 (Qp u32 [Yl ((key.drop (((4 * k1 : Nat) : Int) : Int).toNat).take ((((4 * k1 : Nat) : Int) + 4 : Int).toNat - (((4 * k1 : Nat) : Int) : Int).toNat))] Xb m10 Hg Ze rfl rfl rfl) fun w12 b30 m12 => Vr (Xh (f := u32) (Hs := Hk) (H := [_, _, _]) (aC [_] Hk _ m12) gk rfl rfl (Rd.mkA m12.h0) Hg Hg Ze rfl Xb sL sL) ?_
  rintro sv13 w13 ⟨Hs13, m13, g13⟩
  replace g13 : Z9 u32 106 sv13 ((Qgx key k1) ++ ([Yl ((key.drop (((4 * k1 : Nat) : Int) : Int).toNat).take ((((4 * k1 : Nat) : Int) + 4 : Int).toNat - (((4 * k1 : Nat) : Int) : Int).toNat))])) Hs13 := g13
  refine Zx sv13 ?_
  refine Zp (Qe (Qb ?_))
  refine X9 s8 <| Qd (Zg (b := 4) rfl rfl oM oM) <| Zx (i64 (((4 * k1 : Nat) : Int) + 4)) <| rN ?_
  have m14 := aF [_] _ (aC Hs13 [_] _ m13)
  exact ⟨⟨(k1 + 1), sv13, Hs13, oM, (Z9.cast g13 (by rw [Qsi rfl rfl, begK_S])), s0, s1, s2, s3, s5, s6, rfl, (Eq.trans rfl (congrArg i64 (by push_cast; omega))), m14⟩, Uj rfl z8 oM oM⟩
 ·
  have hc9p := of_decide_eq_false hc9
  refine X3 ?_
  refine Qj (Qj (Xk ?_))
  refine sR <| X9 s7 <| X9 s1 <| Y5 (Qp u32 [cr] Xb m8 Hg Ze rfl rfl rfl) fun w15 b34 m15 => Vr (Xh (f := u32) (Hs := Hk) (H := [_, _, _]) (aC [_] Hk _ m15) gk rfl rfl (Rd.mkA m15.h0) Hg Hg Ze rfl Xb sL sL) ?_
  rintro sv16 w16 ⟨Hs16, m16, g16⟩
  replace g16 : Z9 u32 106 sv16 ((Qgx key k1) ++ ([cr])) Hs16 := g16
  refine Zx sv16 ?_
  refine rN (Qa (sR ?_))
  refine Zx (i64 0) ?_
  refine rN (Qh ?_)
  refine Y1 (fun g wv => ∃ (k2 : Nat) (sk : Value) (Hk : List (Nat × Obj)), (k2 ≤ 3) ∧ (Z9 u32 106 sk (begN (Qgx key 8 ++ [cr]) nz k2) Hk) ∧ g 0 = (agg u8 key) ∧ g 1 = (u32 cr) ∧ g 2 = (agg u8 nz) ∧ g 3 = (ptr b3 0) ∧ g 5 = (ptr b5 0) ∧ g 6 = J3 ∧ g 7 = sk ∧ g 8 = (i64 ((4 * k1 : Nat) : Int)) ∧ g 9 = (i64 ((4 * k2 : Nat) : Int)) ∧ g 21 = (bl (decide (((4 * k1 : Nat) : Int) < 32))) ∧ Mem wv (Qs w0) (Hk ++ ([(b5, .cells (cl u8 nz) 77 (0, 0))]))) (fun g wv => (12 - aT (g 9)).toNat) ?_ ?_
  have m17 := aF [_] _ (aC Hs16 [_] _ m16)
  have m18 := aF [_] _ (aC Hs16 [_] _ m17)
  ·exact ⟨0, sv16, Hs16, oM, (Z9.cast g16 (by rw [show k1 = 8 by omega, begN_0])), s0, s1, s2, s3, s5, s6, rfl, s8, rfl, rfl, (by
   have hT := m18
   try simp only [aQ, aW, aX, aZ] at hT ⊢
   exact hT)⟩
  rintro fr19 w20 ⟨k2, sk, Hk, hk2, gk, s0, s1, s2, s3, s5, s6, s7, s8, s9, s21, m20⟩
  have z7 := s7
  have z9 := s9
  have hkl := Qpv (Qgx key 8 ++ [cr]) nz k2
  have hk8 := Qkp key 8
  rw [List.length_append, hk8, List.length_singleton] at hkl
  refine Qa (sR ?_)
  refine X9 s9 <| Qd (Xd (b := 12) rfl rfl) <| rN ?_
  refine Zz rfl (fun hc21 => ?_) (fun hc21 => ?_)
  ·
   have hc21p := of_decide_eq_true hc21
   refine Qo (Qc (Qa (Qh (Qb ?_))))
   refine X9 s7 <| X9 s9 <| X9 s9 <| Qd (Zg (b := 4) rfl rfl oM oM) <| Qd (Xj (i := ((4 * k2 : Nat) : Int)) (j := ((4 * k2 : Nat) : Int) + 4) Pm Yr s5 (Yb (k := .i64) (i := ((4 * k2 : Nat) : Int)) rfl) (Yb (k := .i64) (i := ((4 * k2 : Nat) : Int) + 4) rfl) oM sL sL) <| U5 m20 (oc107 (Jz rfl) (Qsu (sla b5 0 1 ((4 * k2 : Nat) : Int) (((4 * k2 : Nat) : Int) + 4) 12) ((nz.drop (((4 * k2 : Nat) : Int) : Int).toNat).take ((((4 * k2 : Nat) : Int) + 4 : Int).toNat - (((4 * k2 : Nat) : Int) : Int).toNat)) _ (Rd.cast (l' := (nz.drop (((4 * k2 : Nat) : Int) : Int).toNat).take ((((4 * k2 : Nat) : Int) + 4 : Int).toNat - (((4 * k2 : Nat) : Int) : Int).toNat)) (Rd.sla ((aC Hk [_] _ m20)).h0 sL oM sL sL) rfl) sL)) fun w22 m22 => Y5 (Qp u32 [Yl ((nz.drop (((4 * k2 : Nat) : Int) : Int).toNat).take ((((4 * k2 : Nat) : Int) + 4 : Int).toNat - (((4 * k2 : Nat) : Int) : Int).toNat))] Xb m22 Hg Ze rfl rfl rfl) fun w24 b46 m24 => Vr (Xh (f := u32) (Hs := Hk) (H := [_, _]) (aC [_] Hk _ m24) gk rfl rfl (Rd.mkA m24.h0) Hg Hg Ze rfl Xb sL sL) ?_
   rintro sv25 w25 ⟨Hs25, m25, g25⟩
   replace g25 : Z9 u32 106 sv25 ((begN (Qgx key 8 ++ [cr]) nz k2) ++ ([Yl ((nz.drop (((4 * k2 : Nat) : Int) : Int).toNat).take ((((4 * k2 : Nat) : Int) + 4 : Int).toNat - (((4 * k2 : Nat) : Int) : Int).toNat))])) Hs25 := g25
   refine Zx sv25 ?_
   refine Zp (Qe (Qb ?_))
   refine X9 s9 <| Qd (Zg (b := 4) rfl rfl oM oM) <| Zx (i64 (((4 * k2 : Nat) : Int) + 4)) <| rN ?_
   have m26 := aF [_] _ (aC Hs25 [_] _ m25)
   exact ⟨⟨(k2 + 1), sv25, Hs25, oM, (Z9.cast g25 (by rw [Qsi rfl rfl, begN_S])), s0, s1, s2, s3, s5, s6, rfl, s8, (Eq.trans rfl (congrArg i64 (by push_cast; omega))), s21, m26⟩, Uj rfl z9 oM oM⟩
  ·
   have hc21p := of_decide_eq_false hc21
   refine X3 ?_
   refine Qj (Qj (Xk ?_))
   refine Qa ?_
   have gF27 : Z9 u32 106 sk (Yw Yl key cr nz) Hk := Z9.cast gk (by rw [show k2 = 3 by omega]; exact begR_eq)
   have hfl0 : (Yw Yl key cr nz).length = 16 := Qgw _ _ _
   refine Qb <| Y5 (Qp u32 [] Xb m20 Hg Ze rfl (by simp [Bz]) rfl) fun w28 b48 m28 => X9 s7 <| Vr (Xh (f := u32) (Hs := [(b48, .cells (cl u32 ([])) 106 (0, 0))]) (H := Hk ++ ([_])) m28 (Z9.of u32 106 b48 ([])) rfl rfl (gF27.rd (aC [_] Hk _ m28)) Hg Hg Ze rfl Xb sL sL) ?_
   rintro sv29 w29 ⟨Hs29, m29, g29⟩
   replace g29 : Z9 u32 106 sv29 (Yw Yl key cr nz) Hs29 := g29
   refine Zx sv29 ?_
   refine rN (sR ?_)
   refine Vr (oc108 (Qpx) (c_order2 _)) ?_
   rintro rq31 w30 ⟨olq31, Hoq31, hOq31, k_w30⟩
   have m30 : Mem _ _ (Hoq31 ++ (Hs29 ++ (Hk ++ ([_])))) := Mem.new (H := Hs29 ++ (Hk ++ ([_]))) (H' := Hoq31) m29 k_w30
   have hol8 := (Qqs (hOq31 _ (fun q hq => (m30).own _ (aS _ hq)))).1
   have holi := (Qqs (hOq31 _ (fun q hq => (m30).own _ (aS _ hq)))).2
   refine Zx rq31 ?_
   refine rN (Qa (sR ?_))
   refine Zx (i64 0) ?_
   refine rN (Qh ?_)
   refine Y1 (fun g wv => ∃ (k3 : Nat) (sv : Value) (Hv : List (Nat × Obj)), (k3 ≤ 10) ∧ (Z9 u32 106 sv (Yo G9 k3 (Yw Yl key cr nz)) Hv) ∧ g 0 = (agg u8 key) ∧ g 1 = (u32 cr) ∧ g 2 = (agg u8 nz) ∧ g 3 = (ptr b3 0) ∧ g 5 = (ptr b5 0) ∧ g 6 = J3 ∧ g 7 = sk ∧ g 8 = (i64 ((4 * k1 : Nat) : Int)) ∧ g 9 = (i64 ((4 * k2 : Nat) : Int)) ∧ g 10 = sv ∧ g 11 = rq31 ∧ g 12 = (i64 (k3 : Int)) ∧ g 21 = (bl (decide (((4 * k1 : Nat) : Int) < 32))) ∧ g 37 = (bl (decide (((4 * k2 : Nat) : Int) < 12))) ∧ Mem wv (Qs w0) (Hv ++ (Hk ++ (Hoq31 ++ ([]))))) (fun g wv => (10 - aT (g 12)).toNat) ?_ ?_
   have m32 := aF [_] _ (ai Hoq31 Hs29 Hk [_] _ m30)
   have m33 := (aN Hoq31 Hs29 Hk _ m32)
   have m34 := (aN Hk Hoq31 Hs29 _ m33)
   ·exact ⟨0, sv29, Hs29, oM, (Z9.cast g29 (Qto _).symm), s0, s1, s2, s3, s5, s6, s7, s8, s9, rfl, rfl, rfl, s21, rfl, (by
    have hT := m34
    try simp only [aQ, aW, aX, aZ] at hT ⊢
    exact hT)⟩
   rintro fr35 w36 ⟨k3, sv, Hv, hk3, gv, s0, s1, s2, s3, s5, s6, s7, s8, s9, s10, s11, s12, s21, s37, m36⟩
   have z10 := s10
   have z12 := s12
   have hrl := Qal k3 (Yw Yl key cr nz) (Qgw _ _ _)
   refine Qa (sR ?_)
   refine X9 s12 <| Qd (Xd (b := 10) rfl rfl) <| rN ?_
   refine Zz rfl (fun hc37 => ?_) (fun hc37 => ?_)
   ·
    have hc37p := of_decide_eq_true hc37
    refine Qo (Qc (Qa (Qh (sR ?_))))
    refine Zx (i64 0) ?_
    refine rN (Gh ?_)
    refine Y1 (fun g wv => ∃ (i : Nat) (sv2 : Value) (Hv2 : List (Nat × Obj)), (i ≤ 8) ∧ (Z9 u32 106 sv2 (qK (Yo G9 k3 (Yw Yl key cr nz)) i) Hv2) ∧ g 0 = (agg u8 key) ∧ g 1 = (u32 cr) ∧ g 2 = (agg u8 nz) ∧ g 3 = (ptr b3 0) ∧ g 5 = (ptr b5 0) ∧ g 6 = J3 ∧ g 7 = sk ∧ g 8 = (i64 ((4 * k1 : Nat) : Int)) ∧ g 9 = (i64 ((4 * k2 : Nat) : Int)) ∧ g 10 = sv2 ∧ g 11 = rq31 ∧ g 12 = (i64 (k3 : Int)) ∧ g 13 = (i64 (i : Int)) ∧ g 21 = (bl (decide (((4 * k1 : Nat) : Int) < 32))) ∧ g 37 = (bl (decide (((4 * k2 : Nat) : Int) < 12))) ∧ g 53 = (bl (decide ((k3 : Int) < 10))) ∧ Mem wv (Qs w0) (Hv2 ++ (Hk ++ (Hoq31 ++ ([]))))) (fun g wv => (8 - aT (g 13)).toNat) ?_ ?_
    ·exact ⟨0, sv, Hv, oM, (Z9.cast gv (qK_0 _).symm), s0, s1, s2, s3, s5, s6, s7, s8, s9, s10, s11, s12, rfl, s21, s37, rfl, (by
     have hT := m36
     try simp only [aQ, aW, aX, aZ] at hT ⊢
     exact hT)⟩
    rintro fr38 w39 ⟨i, sv2, Hv2, hi8, gv2, s0, s1, s2, s3, s5, s6, s7, s8, s9, s10, s11, s12, s13, s21, s37, s53, m39⟩
    have z10 := s10
    have z13 := s13
    refine Qa (sR ?_)
    refine X9 s13 <| Qd (Xd (b := 8) rfl rfl) <| rN ?_
    refine Zz rfl (fun hc40 => ?_) (fun hc40 => ?_)
    ·
     have hc40p := of_decide_eq_true hc40
     have hoi := oN_ok i oM
     have ho0 := hoi.2 0 oM; have ho1 := hoi.2 1 oM; have ho2 := hoi.2 2 oM; have ho3 := hoi.2 3 oM
     have hie := holi i
     rw [← hie] at hoi ho0 ho1 ho2 ho3
     have hqn : ∀ j, ((olq31.getD i Pv).2.getD j 0).toNat = oN i j := fun j => by rw [hie]; exact oN_eq i j
     have hql := Qp8 (Yo G9 k3 (Yw Yl key cr nz)) i
     refine Qo (Qc (Qa (Qh (Qa ?_))))
     refine Xi [(0, false), (1, false), (2, false), (3, false), (4, false), (5, false), (6, false), (7, false), (8, false), (9, false), (10, false), (11, false), (12, false), (13, false), (14, false), (15, false), (16, false), (17, false), (18, false), (19, false), (20, false), (21, false), (22, false), (23, false), (24, false), (25, false), (26, false), (27, false), (28, false), (29, false), (30, false), (31, false), (32, false), (33, false), (34, false), (35, false), (36, false), (37, false), (38, true)] 39 Xv <| Uh rfl s10 <| Uh rfl s11 <| Uh rfl s13 <| Yj rfl (fun _ e' => Y4 (i := (i : Int)) (hOq31 _ (fun q hq => ((m39.ext e')).own _ (aG _ (aG _ (aS _ hq))))).1 Qle ti83 rfl rfl oM sL) <| Yj (v := (ilv (olq31.getD i Pv))) rfl (fun _ e' => Nc (i := (i : Int)) (dflt := Pv) (u := (ilv (olq31.getD i Pv))) (hOq31 _ (fun q hq => ((m39.ext e')).own _ (aG _ (aG _ (aS _ hq))))).1 sL Qcx rfl rfl Yx rfl) <| Yj rfl (fun _ e' => Zo (i := 0) (Qer (hOq31 _ (fun q hq => ((m39.ext e')).own _ (aG _ (aG _ (aS _ hq))))) (i := i) sD) Qcx Uw rfl rfl oM sL) <| Yj (v := (i64 (((olq31.getD i Pv).2).getD 0 0))) rfl (fun _ e' => Xy (l := (olq31.getD i Pv).2) (i := 0) (dflt := 0) (Qer (hOq31 _ (fun q hq => ((m39.ext e')).own _ (aG _ (aG _ (aS _ hq))))) (i := i) sD) Fa rfl oM sL rfl) <| Yj rfl (fun _ e' => Zo (gv2.rd (m39.ext e')) Hg Ze rfl rfl oM sL) <| Yj (v := (u32 ((qK (Yo G9 k3 (Yw Yl key cr nz)) i).getD ((((olq31.getD i Pv).2).getD 0 0 : Int).toNat) 0))) rfl (fun _ e' => Xy (l := (qK (Yo G9 k3 (Yw Yl key cr nz)) i)) (i := ((olq31.getD i Pv).2).getD 0 0) (dflt := 0) (gv2.rd (m39.ext e')) Xt rfl oM sL rfl) <| Uh rfl s10 <| Uh rfl s11 ?_
     refine Uh rfl s13 <| Yj rfl (fun _ e' => Y4 (i := (i : Int)) (hOq31 _ (fun q hq => ((m39.ext e')).own _ (aG _ (aG _ (aS _ hq))))).1 Qle ti83 rfl rfl oM sL) <| Yj (v := (ilv (olq31.getD i Pv))) rfl (fun _ e' => Nc (i := (i : Int)) (dflt := Pv) (u := (ilv (olq31.getD i Pv))) (hOq31 _ (fun q hq => ((m39.ext e')).own _ (aG _ (aG _ (aS _ hq))))).1 sL Qcx rfl rfl Yx rfl) <| Yj rfl (fun _ e' => Zo (i := 1) (Qer (hOq31 _ (fun q hq => ((m39.ext e')).own _ (aG _ (aG _ (aS _ hq))))) (i := i) sD) Qcx Uw rfl rfl oM sL) <| Yj (v := (i64 (((olq31.getD i Pv).2).getD 1 0))) rfl (fun _ e' => Xy (l := (olq31.getD i Pv).2) (i := 1) (dflt := 0) (Qer (hOq31 _ (fun q hq => ((m39.ext e')).own _ (aG _ (aG _ (aS _ hq))))) (i := i) sD) Fa rfl oM sL rfl) <| Yj rfl (fun _ e' => Zo (gv2.rd (m39.ext e')) Hg Ze rfl rfl oM sL) <| Yj (v := (u32 ((qK (Yo G9 k3 (Yw Yl key cr nz)) i).getD ((((olq31.getD i Pv).2).getD 1 0 : Int).toNat) 0))) rfl (fun _ e' => Xy (l := (qK (Yo G9 k3 (Yw Yl key cr nz)) i)) (i := ((olq31.getD i Pv).2).getD 1 0) (dflt := 0) (gv2.rd (m39.ext e')) Xt rfl oM sL rfl) <| Uh rfl s10 <| Uh rfl s11 <| Uh rfl s13 <| Yj rfl (fun _ e' => Y4 (i := (i : Int)) (hOq31 _ (fun q hq => ((m39.ext e')).own _ (aG _ (aG _ (aS _ hq))))).1 Qle ti83 rfl rfl oM sL) <| Yj (v := (ilv (olq31.getD i Pv))) rfl (fun _ e' => Nc (i := (i : Int)) (dflt := Pv) (u := (ilv (olq31.getD i Pv))) (hOq31 _ (fun q hq => ((m39.ext e')).own _ (aG _ (aG _ (aS _ hq))))).1 sL Qcx rfl rfl Yx rfl) ?_
     refine Yj rfl (fun _ e' => Zo (i := 2) (Qer (hOq31 _ (fun q hq => ((m39.ext e')).own _ (aG _ (aG _ (aS _ hq))))) (i := i) sD) Qcx Uw rfl rfl oM sL) <| Yj (v := (i64 (((olq31.getD i Pv).2).getD 2 0))) rfl (fun _ e' => Xy (l := (olq31.getD i Pv).2) (i := 2) (dflt := 0) (Qer (hOq31 _ (fun q hq => ((m39.ext e')).own _ (aG _ (aG _ (aS _ hq))))) (i := i) sD) Fa rfl oM sL rfl) <| Yj rfl (fun _ e' => Zo (gv2.rd (m39.ext e')) Hg Ze rfl rfl oM sL) <| Yj (v := (u32 ((qK (Yo G9 k3 (Yw Yl key cr nz)) i).getD ((((olq31.getD i Pv).2).getD 2 0 : Int).toNat) 0))) rfl (fun _ e' => Xy (l := (qK (Yo G9 k3 (Yw Yl key cr nz)) i)) (i := ((olq31.getD i Pv).2).getD 2 0) (dflt := 0) (gv2.rd (m39.ext e')) Xt rfl oM sL rfl) <| Uh rfl s10 <| Uh rfl s11 <| Uh rfl s13 <| Yj rfl (fun _ e' => Y4 (i := (i : Int)) (hOq31 _ (fun q hq => ((m39.ext e')).own _ (aG _ (aG _ (aS _ hq))))).1 Qle ti83 rfl rfl oM sL) <| Yj (v := (ilv (olq31.getD i Pv))) rfl (fun _ e' => Nc (i := (i : Int)) (dflt := Pv) (u := (ilv (olq31.getD i Pv))) (hOq31 _ (fun q hq => ((m39.ext e')).own _ (aG _ (aG _ (aS _ hq))))).1 sL Qcx rfl rfl Yx rfl) <| Yj rfl (fun _ e' => Zo (i := 3) (Qer (hOq31 _ (fun q hq => ((m39.ext e')).own _ (aG _ (aG _ (aS _ hq))))) (i := i) sD) Qcx Uw rfl rfl oM sL) <| Yj (v := (i64 (((olq31.getD i Pv).2).getD 3 0))) rfl (fun _ e' => Xy (l := (olq31.getD i Pv).2) (i := 3) (dflt := 0) (Qer (hOq31 _ (fun q hq => ((m39.ext e')).own _ (aG _ (aG _ (aS _ hq))))) (i := i) sD) Fa rfl oM sL rfl) <| Yj rfl (fun _ e' => Zo (gv2.rd (m39.ext e')) Hg Ze rfl rfl oM sL) ?_
     refine Yj (v := (u32 ((qK (Yo G9 k3 (Yw Yl key cr nz)) i).getD ((((olq31.getD i Pv).2).getD 3 0 : Int).toNat) 0))) rfl (fun _ e' => Xy (l := (qK (Yo G9 k3 (Yw Yl key cr nz)) i)) (i := ((olq31.getD i Pv).2).getD 3 0) (dflt := 0) (gv2.rd (m39.ext e')) Xt rfl oM sL rfl) <| X4 rfl (V9 u32 [(qK (Yo G9 k3 (Yw Yl key cr nz)) i).getD ((((olq31.getD i Pv).2).getD 0 0 : Int).toNat) 0, (qK (Yo G9 k3 (Yw Yl key cr nz)) i).getD ((((olq31.getD i Pv).2).getD 1 0 : Int).toNat) 0, (qK (Yo G9 k3 (Yw Yl key cr nz)) i).getD ((((olq31.getD i Pv).2).getD 2 0 : Int).toNat) 0, (qK (Yo G9 k3 (Yw Yl key cr nz)) i).getD ((((olq31.getD i Pv).2).getD 3 0 : Int).toNat) 0] Xb Qbm Gj Ze rfl rfl) <| Wy rfl rfl (fun w41 e41 => oc109 (Jz rfl) (Qrp ((qK (Yo G9 k3 (Yw Yl key cr nz)) i).getD ((((olq31.getD i Pv).2).getD 0 0 : Int).toNat) 0) ((qK (Yo G9 k3 (Yw Yl key cr nz)) i).getD ((((olq31.getD i Pv).2).getD 1 0 : Int).toNat) 0) ((qK (Yo G9 k3 (Yw Yl key cr nz)) i).getD ((((olq31.getD i Pv).2).getD 2 0 : Int).toNat) 0) ((qK (Yo G9 k3 (Yw Yl key cr nz)) i).getD ((((olq31.getD i Pv).2).getD 3 0 : Int).toNat) 0) _)) ?_
     refine C9 rfl rfl (fun w43 e43 => ?_)
     have m43 := m39.ext e43
     refine Vf.mono (Q7 m43 Qbm) ?_
     rintro _ w44 ⟨b14, rfl, e44, m44⟩
     refine ⟨e44, ?_⟩
     refine Gf m44 fun w45 m45 => Ye m45 (Qg (f := u32) (l := Kr Y0 ((qK (Yo G9 k3 (Yw Yl key cr nz)) i).getD ((((olq31.getD i Pv).2).getD 0 0 : Int).toNat) 0) ((qK (Yo G9 k3 (Yw Yl key cr nz)) i).getD ((((olq31.getD i Pv).2).getD 1 0 : Int).toNat) 0) ((qK (Yo G9 k3 (Yw Yl key cr nz)) i).getD ((((olq31.getD i Pv).2).getD 2 0 : Int).toNat) 0) ((qK (Yo G9 k3 (Yw Yl key cr nz)) i).getD ((((olq31.getD i Pv).2).getD 3 0 : Int).toNat) 0)) Xb Qbm rfl rfl sL m45.h0 Ph rfl) fun w46 m46 => ?_
     refine rN (Qa ?_)
     obtain ⟨q, hq⟩ : ∃ q, q = Kr Y0 ((qK (Yo G9 k3 (Yw Yl key cr nz)) i).getD ((((olq31.getD i Pv).2).getD 0 0 : Int).toNat) 0) ((qK (Yo G9 k3 (Yw Yl key cr nz)) i).getD ((((olq31.getD i Pv).2).getD 1 0 : Int).toNat) 0) ((qK (Yo G9 k3 (Yw Yl key cr nz)) i).getD ((((olq31.getD i Pv).2).getD 2 0 : Int).toNat) 0) ((qK (Yo G9 k3 (Yw Yl key cr nz)) i).getD ((((olq31.getD i Pv).2).getD 3 0 : Int).toNat) 0) := ⟨_, rfl⟩
     have hqe : q = (Kr Y0 ((qK (Yo G9 k3 (Yw Yl key cr nz)) i).getD (oN i 0) 0) ((qK (Yo G9 k3 (Yw Yl key cr nz)) i).getD (oN i 1) 0) ((qK (Yo G9 k3 (Yw Yl key cr nz)) i).getD (oN i 2) 0) ((qK (Yo G9 k3 (Yw Yl key cr nz)) i).getD (oN i 3) 0)) := by rw [hq]; simp only [hqn]
     have hq4 : q.length = 4 := by rw [hqe]; rfl
     have m47 : Mem w46 (Qs w0) ([(b14, .cells (cl u32 q) 167 (0, 0))] ++ (Hv2 ++ (Hk ++ (Hoq31 ++ ([]))))) := by rw [hq]; exact m46
     refine Qb <| Zx (i64 0) ?_
     refine rN (Gh ?_)
     refine Y1 (fun g wv => ∃ (j : Nat) (sv3 : Value) (Hv3 : List (Nat × Obj)), (j ≤ 4) ∧ (Z9 u32 106 sv3 (setQ (qK (Yo G9 k3 (Yw Yl key cr nz)) i) q i j) Hv3) ∧ g 0 = (agg u8 key) ∧ g 1 = (u32 cr) ∧ g 2 = (agg u8 nz) ∧ g 3 = (ptr b3 0) ∧ g 5 = (ptr b5 0) ∧ g 6 = J3 ∧ g 7 = sk ∧ g 8 = (i64 ((4 * k1 : Nat) : Int)) ∧ g 9 = (i64 ((4 * k2 : Nat) : Int)) ∧ g 10 = sv3 ∧ g 11 = rq31 ∧ g 12 = (i64 (k3 : Int)) ∧ g 13 = (i64 (i : Int)) ∧ g 14 = (ptr b14 0) ∧ g 15 = (i64 (j : Int)) ∧ g 21 = (bl (decide (((4 * k1 : Nat) : Int) < 32))) ∧ g 37 = (bl (decide (((4 * k2 : Nat) : Int) < 12))) ∧ g 53 = (bl (decide ((k3 : Int) < 10))) ∧ g 57 = (bl (decide ((i : Int) < 8))) ∧ Mem wv (Qs w0) (Hv3 ++ (Hk ++ (Hoq31 ++ ([(b14, .cells (cl u32 q) 167 (0, 0))]))))) (fun g wv => (4 - aT (g 15)).toNat) ?_ ?_
     have m48 := (ai [_] Hv2 Hk Hoq31 _ m47)
     have m49 := (ai Hoq31 [_] Hv2 Hk _ m48)
     have m50 := (ai Hk Hoq31 [_] Hv2 _ m49)
     ·exact ⟨0, sv2, Hv2, oM, (Z9.cast gv2 (setQ_0 _ _ _).symm), s0, s1, s2, s3, s5, s6, s7, s8, s9, s10, s11, s12, s13, rfl, rfl, s21, s37, s53, rfl, (by
      have hT := m50
      try simp only [aQ, aW, aX, aZ] at hT ⊢
      exact hT)⟩
     rintro fr51 w52 ⟨j, sv3, Hv3, hj4, gv3, s0, s1, s2, s3, s5, s6, s7, s8, s9, s10, s11, s12, s13, s14, s15, s21, s37, s53, s57, m52⟩
     have z10 := s10
     have z15 := s15
     refine Qa (sR ?_)
     refine X9 s15 <| Qd (Xd (b := 4) rfl rfl) <| rN ?_
     refine Zz rfl (fun hc53 => ?_) (fun hc53 => ?_)
     ·
      have hc53p := of_decide_eq_true hc53
      have hoj := hoi.2 j oM
      have hqj := hqn j
      have hsl := Qn9 (qK (Yo G9 k3 (Yw Yl key cr nz)) i) q i j
      refine Qo (Qc (Qa (Qh ?_)))
      refine Xi (dl 11) 11 Xv <| Uh rfl s10 <| Uh rfl s11 <| Uh rfl s13 <| Yj rfl (fun _ e' => Y4 (i := (i : Int)) (hOq31 _ (fun q hq => ((m52.ext e')).own _ (aG _ (aG _ (aS _ hq))))).1 Qle ti83 rfl rfl oM sL) <| Yj (v := (ilv (olq31.getD i Pv))) rfl (fun _ e' => Nc (i := (i : Int)) (dflt := Pv) (u := (ilv (olq31.getD i Pv))) (hOq31 _ (fun q hq => ((m52.ext e')).own _ (aG _ (aG _ (aS _ hq))))).1 sL Qcx rfl rfl Yx rfl) <| Uh rfl s15 <| Yj rfl (fun _ e' => Zo (Qer (hOq31 _ (fun q hq => ((m52.ext e')).own _ (aG _ (aG _ (aS _ hq))))) (i := i) sD) Qcx Uw rfl rfl oM sL) <| Yj (v := (i64 (((olq31.getD i Pv).2).getD j 0))) rfl (fun _ e' => Xy (l := (olq31.getD i Pv).2) (i := (j : Int)) (dflt := 0) (Qer (hOq31 _ (fun q hq => ((m52.ext e')).own _ (aG _ (aG _ (aS _ hq))))) (i := i) sD) Fa rfl oM sL rfl) <| Uh rfl s15 <| X4 rfl (Zj (r := j) oM Gj Ze s14 rfl oM sL) <| Yj rfl (fun _ e' => Qi Xt rfl rfl ((ai Hv3 Hk Hoq31 [_] _ (m52.ext e'))).h0 (Qu _ _ 0 sL)) ?_
      refine Gf m52 fun w54 m54 => Qd (Zo (gv3.rd m54) Hg Ze rfl rfl oM sL) <| Vd (Qet (Hs := Hv3) (H := Hk ++ (Hoq31 ++ ([_]))) (i := ((olq31.getD i Pv).2).getD j 0) (a := q.getD j 0) m54 gv3 Xb Ze oM sL rfl rfl) ?_
      rintro _ w55 ⟨Hs55, m55, g55⟩
      replace g55 : Z9 u32 106 sv3 ((setQ (qK (Yo G9 k3 (Yw Yl key cr nz)) i) q i j).set ((((olq31.getD i Pv).2).getD j 0 : Int).toNat) (q.getD j 0)) Hs55 := g55
      refine Zp (Qe (Qb ?_))
      refine X9 s15 <| Qd (Zg (b := 1) rfl rfl oM oM) <| Zx (i64 ((j : Int) + 1)) <| rN ?_
      exact ⟨⟨(j + 1), sv3, Hs55, oM, (Z9.cast g55 (by rw [hqn, setQ_S])), s0, s1, s2, s3, s5, s6, s7, s8, s9, s10, s11, s12, s13, s14, rfl, s21, s37, s53, s57, m55⟩, Uj rfl z15 oM oM⟩
     ·
      have hc53p := of_decide_eq_false hc53
      refine X3 ?_
      refine Qj (Qj (Xk ?_))
      refine Qe (Qb ?_)
      refine X9 s13 <| Qd (Zg (b := 1) rfl rfl oM oM) <| Zx (i64 ((i : Int) + 1)) <| rN ?_
      have m56 := aF [_] _ (ai Hv3 Hk Hoq31 [_] _ m52)
      exact ⟨⟨(i + 1), sv3, Hv3, oM, (Z9.cast gv3 (by rw [show j = 4 by omega]; exact qK_S hqe)), s0, s1, s2, s3, s5, s6, s7, s8, s9, s10, s11, s12, rfl, s21, s37, s53, m56⟩, Uj rfl z13 oM oM⟩
    ·
     have hc40p := of_decide_eq_false hc40
     refine X3 ?_
     refine Qj (Qj (Xk ?_))
     refine Qe (Qb ?_)
     refine X9 s12 <| Qd (Zg (b := 1) rfl rfl oM oM) <| Zx (i64 ((k3 : Int) + 1)) <| rN ?_
     exact ⟨⟨(k3 + 1), sv2, Hv2, oM, (Z9.cast gv2 (by rw [show i = 8 by omega, Qtn])), s0, s1, s2, s3, s5, s6, s7, s8, s9, s10, s11, rfl, s21, s37, m39⟩, Uj rfl z12 oM oM⟩
   ·
    have hc37p := of_decide_eq_false hc37
    refine X3 ?_
    refine Qj (Qj (Xk ?_))
    refine Qa ?_
    have gF57 : Z9 u32 106 sv (Yo G9 10 (Yw Yl key cr nz)) Hv := Z9.cast gv (by rw [show k3 = 10 by omega])
    have hrl := Qal 10 (Yw Yl key cr nz) (Qgw _ _ _)
    refine Qb <| Y5 (Qp u8 [] Qr m36 Zn Yr rfl (by simp [Bz]) rfl) fun w58 b114 m58 => Zx (Wi b114 0 0 0) ?_
    refine rN (Qa (sR ?_))
    refine Zx (i64 0) ?_
    refine rN (Qh ?_)
    refine Y1 (fun g wv => ∃ (k4 : Nat) (so : Value) (Ho4 : List (Nat × Obj)), (k4 ≤ 16) ∧ (Z9 u8 5 so ((bP k4).flatMap (Bc (Yo G9 10 (Yw Yl key cr nz)) (Yw Yl key cr nz))) Ho4) ∧ g 0 = (agg u8 key) ∧ g 1 = (u32 cr) ∧ g 2 = (agg u8 nz) ∧ g 3 = (ptr b3 0) ∧ g 5 = (ptr b5 0) ∧ g 6 = J3 ∧ g 7 = sk ∧ g 8 = (i64 ((4 * k1 : Nat) : Int)) ∧ g 9 = (i64 ((4 * k2 : Nat) : Int)) ∧ g 10 = sv ∧ g 11 = rq31 ∧ g 12 = (i64 (k3 : Int)) ∧ g 16 = so ∧ g 17 = (i64 (k4 : Int)) ∧ g 21 = (bl (decide (((4 * k1 : Nat) : Int) < 32))) ∧ g 37 = (bl (decide (((4 * k2 : Nat) : Int) < 12))) ∧ g 53 = (bl (decide ((k3 : Int) < 10))) ∧ Mem wv (Qs w0) (Ho4 ++ (Hv ++ (Hk ++ ([]))))) (fun g wv => (16 - aT (g 17)).toNat) ?_ ?_
    have m59 := aF Hoq31 _ (ai [_] Hv Hk Hoq31 _ m58)
    ·exact ⟨0, (Wi b114 0 0 0), [(b114, .cells (cl u8 ([])) 5 (0, 0))], oM, (Z9.of u8 5 b114 []), s0, s1, s2, s3, s5, s6, s7, s8, s9, s10, s11, s12, rfl, rfl, s21, s37, rfl, (by
     have hT := m59
     try simp only [aQ, aW, aX, aZ] at hT ⊢
     exact hT)⟩
    rintro fr60 w61 ⟨k4, so, Ho4, hk4, gro, s0, s1, s2, s3, s5, s6, s7, s8, s9, s10, s11, s12, s16, s17, s21, s37, s53, m61⟩
    have z17 := s17
    have z16 := s16
    have hol := Am (Yo G9 10 (Yw Yl key cr nz)) (Yw Yl key cr nz) k4
    have hfl : (Yw Yl key cr nz).length = 16 := Qgw _ _ _
    refine Qa (sR ?_)
    refine X9 s17 <| Qd (Xd (b := 16) rfl rfl) <| rN ?_
    refine Zz rfl (fun hc62 => ?_) (fun hc62 => ?_)
    ·
     have hc62p := of_decide_eq_true hc62
     refine Qo (Qc (Qa (Qh (Qa ?_))))
     refine Xi (dl 8) 8 Xv <| Uh rfl s10 <| Uh rfl s17 <| Yj rfl (fun _ e' => Zo (gF57.rd (aC Ho4 Hv _ (m61.ext e'))) Hg Ze rfl rfl oM sL) <| Yj (v := (u32 ((Yo G9 10 (Yw Yl key cr nz)).getD k4 0))) rfl (fun _ e' => Xy (l := (Yo G9 10 (Yw Yl key cr nz))) (i := (k4 : Int)) (dflt := 0) (gF57.rd (aC Ho4 Hv _ (m61.ext e'))) Xt rfl oM sL rfl) <| Uh rfl s7 <| Uh rfl s17 <| Yj rfl (fun _ e' => Zo (gF27.rd (aN Ho4 Hv Hk _ (m61.ext e'))) Hg Ze rfl rfl oM sL) <| Yj (v := (u32 ((Yw Yl key cr nz).getD k4 0))) rfl (fun _ e' => Xy (l := (Yw Yl key cr nz)) (i := (k4 : Int)) (dflt := 0) (gF27.rd (aN Ho4 Hv Hk _ (m61.ext e'))) Xt rfl oM sL rfl) <| Gf m61 fun w63 m63 => Qd (Xx rfl rfl) <| Tc rfl ?_
     refine rN (Qb ?_)
     refine X9 s16 <| X9 rfl <| Qd (Fj ⟨_, Xt⟩ V3 rfl) <| X9 rfl <| Qd (Ul (b := 8) rfl rfl oM) <| Qd (Fj ⟨_, Xt⟩ V3 rfl) <| X9 rfl <| Qd (Ul (b := 16) rfl rfl oM) <| Qd (Fj ⟨_, Xt⟩ V3 rfl) <| X9 rfl <| Qd (Ul (b := 24) rfl rfl oM) <| Qd (Fj ⟨_, Xt⟩ V3 rfl) ?_
     refine Y5 (Qp u8 [(((Yo G9 10 (Yw Yl key cr nz)).getD k4 0) + ((Yw Yl key cr nz).getD k4 0)).setWidth 8, ((((Yo G9 10 (Yw Yl key cr nz)).getD k4 0) + ((Yw Yl key cr nz).getD k4 0)) >>> 8).setWidth 8, ((((Yo G9 10 (Yw Yl key cr nz)).getD k4 0) + ((Yw Yl key cr nz).getD k4 0)) >>> 16).setWidth 8, ((((Yo G9 10 (Yw Yl key cr nz)).getD k4 0) + ((Yw Yl key cr nz).getD k4 0)) >>> 24).setWidth 8] Qr m63 Zn Yr rfl rfl rfl) fun w64 b140 m64 => Vr (Xh (f := u8) (Hs := Ho4) (H := [_] ++ (Hv ++ (Hk ++ ([])))) (aC [_] Ho4 _ m64) gro rfl rfl (Rd.mkA m64.h0) Zn Zn Yr rfl Qr sL sL) ?_
     rintro sv65 w65 ⟨Hs65, m65, g65⟩
     replace g65 : Z9 u8 5 sv65 (((bP k4).flatMap (Bc (Yo G9 10 (Yw Yl key cr nz)) (Yw Yl key cr nz))) ++ ([(((Yo G9 10 (Yw Yl key cr nz)).getD k4 0) + ((Yw Yl key cr nz).getD k4 0)).setWidth 8, ((((Yo G9 10 (Yw Yl key cr nz)).getD k4 0) + ((Yw Yl key cr nz).getD k4 0)) >>> 8).setWidth 8, ((((Yo G9 10 (Yw Yl key cr nz)).getD k4 0) + ((Yw Yl key cr nz).getD k4 0)) >>> 16).setWidth 8, ((((Yo G9 10 (Yw Yl key cr nz)).getD k4 0) + ((Yw Yl key cr nz).getD k4 0)) >>> 24).setWidth 8])) Hs65 := g65
     refine Zx sv65 ?_
     refine Zp (Qe ?_)
     have m66 := aF [_] _ (aC Hs65 [_] _ m65)
     refine Qb <| X9 s17 <| Qd (Zg (b := 1) rfl rfl oM oM) <| Zx (i64 ((k4 : Int) + 1)) <| rN ?_
     exact ⟨⟨(k4 + 1), sv65, Hs65, oM, (Z9.cast g65 (by rw [Qc4]; rfl)), s0, s1, s2, s3, s5, s6, s7, s8, s9, s10, s11, s12, rfl, rfl, s21, s37, s53, m66⟩, Uj rfl z17 oM oM⟩
    ·
     have hc62p := of_decide_eq_false hc62
     refine X3 ?_
     refine Qj (Qj (Xk ?_))
     refine sR <| X9 s16 <| Zx so ?_
     refine rN (Z8 ?_)
     refine Qq [so] ⟨rfl, trivial⟩ ?_
     have m67 := aF Hv _ (aC Ho4 Hv _ m61)
     have m68 := aF Hk _ (aC Ho4 Hk _ m67)
     exact ⟨Ho4, Z9.cast gro (by rw [show k4 = 16 by omega]; rfl), by simpa using m68⟩
end Go.Proofs.YtkmiemlpfkfiiaaDoor
