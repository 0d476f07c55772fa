/- Contracts: stream, fifth part. Conditions: none beyond those that each theorem states. -/
import Derived.Test.YtkmiemlpfkfiiaaDoorSt4
namespace Go.Proofs.YtkmiemlpfkfiiaaDoor
open Tryd
set_option linter.unusedVariables false
set_option linter.unusedSimpArgs false
attribute [local irreducible] Qf0 begN Y5 qK setQ Yu Ud Yq oN Qc1
set_option maxHeartbeats 2000000 in
theorem c_block3 (key : Xg) (cr : BitVec 32) (nz : Xg) (w0 : World)  (hk : key.length = 32) (hn : nz.length = 12) : X9 prog 94 #[(agg u8 key), (u32 cr), (agg u8 nz)] w0 (fun r w1 => ∃ Hs, Xe u8 5 r (F7 key cr nz) Hs ∧ Mem w1 (Qu w0) Hs) := by
 refine Zb (args := [(agg u8 key), (u32 cr), (agg u8 nz)]) func94 rfl ntmps94 results94 rfl ?_
 have m0 : Mem w0 (Qu w0) [] := Mem.of_world w0
 refine sR <| Y9 (Xa (f := u8) (l := key) m0 rfl) fun w1 b3 m1 => Y9 (Xa (f := u8) (l := nz) m1 rfl) fun w2 b5 m2 => Zz Yj ?_
 refine rN (sR ?_)
 refine Y9 (Qw u32 [1634760805#32, 857760878#32, 2036477234#32, 1797285236#32] Xf m2 Hf Zj rfl rfl rfl) fun w3 b19 m3 => Zz (Wq b19 0 4 4) ?_
 refine rN (Qa (sR ?_))
 refine Zz (i64 0) ?_
 refine rN (Qk ?_)
 refine Y7 (fun g wv => ∃ (k1 : Nat) (sk : Value) (Hk : List (Nat × Obj)), (k1 ≤ 8) ∧ (Xe u32 106 sk (Qf0 key k1) Hk) ∧ g 0 = (agg u8 key) ∧ g 1 = (u32 cr) ∧ g 2 = (agg u8 nz) ∧ g 3 = (ptr b3 0) ∧ g 5 = (ptr b5 0) ∧ g 6 = Yj ∧ g 7 = sk ∧ g 8 = (i64 ((4 * k1 : Nat) : Int)) ∧ Mem wv (Qu w0) (Hk ++ ([(b3, .cells (cl u8 key) 23 (0, 0)), (b5, .cells (cl u8 nz) 77 (0, 0))]))) (fun g wv => (32 - RowKit.intOf (g 8)).toNat) ?_ ?_
 have m4 := (Mem.pick [_] [_] _ m3)
 have m5 := (Mem.pick [_, _] [_] _ m4)
 have m6 := (Mem.pick [_, _] [_] _ m5)
 ·exact ⟨0, (Wq b19 0 4 4), [(b19, .cells (cl u32 ([1634760805#32, 857760878#32, 2036477234#32, 1797285236#32])) 106 (0, 0))], oM, (Xe.cast (Xe.of u32 106 b19 ([1634760805#32, 857760878#32, 2036477234#32, 1797285236#32])) (begK_0 key).symm), rfl, rfl, rfl, rfl, rfl, rfl, rfl, rfl, (by
  have hT := m6
  try simp only [List.append_assoc, List.cons_append, List.nil_append, List.append_nil] at hT ⊢
  exact hT)⟩
 rintro fr7 w8 ⟨k1, sk, Hk, hk1, gk, s0, s1, s2, s3, s5, s6, s7, s8, m8⟩
 have z7 := s7
 have z8 := s8
 have hkl := Qjt key k1
 refine Qa (sR ?_)
 refine Ya s8 <| Qd (Z9 (b := 32) rfl rfl) <| rN ?_
 refine Z8 rfl (fun hc9 => ?_) (fun hc9 => ?_)
 ·
  have hc9p := of_decide_eq_true hc9
  refine Qs (Qc (Qa (Qk (Qb ?_))))
  refine Ya s7 <| Ya s8 <| Ya s8 <| Qd (Zg (b := 4) rfl rfl oM oM) <| Qd (Xo (i := ((4 * k1 : Nat) : Int)) (j := ((4 * k1 : Nat) : Int) + 4) Xq Y0 s3 (Yh (k := .i64) (i := ((4 * k1 : Nat) : Int)) rfl) (Yh (k := .i64) (i := ((4 * k1 : Nat) : Int) + 4) rfl) oM sL sL) <| U9 m8 (oc107 (Kt rfl) (Qqq (sla b3 0 1 ((4 * k1 : Nat) : Int) (((4 * k1 : Nat) : Int) + 4) 32) ((key.drop (((4 * k1 : Nat) : Int) : Int).toNat).take ((((4 * k1 : Nat) : Int) + 4 : Int).toNat - (((4 * k1 : Nat) : Int) : Int).toNat)) _ (Rd.cast (l' := (key.drop (((4 * k1 : Nat) : Int) : Int).toNat).take ((((4 * k1 : Nat) : Int) + 4 : Int).toNat - (((4 * k1 : Nat) : Int) : Int).toNat)) (Rd.sla ((Mem.pick Hk [_] _ m8)).h0 sL oM sL sL) rfl) sL)) fun w10 m10 => Y9 (Qw u32 [Yq ((key.drop (((4 * k1 : Nat) : Int) : Int).toNat).take ((((4 * k1 : Nat) : Int) + 4 : Int).toNat - (((4 * k1 : Nat) : Int) : Int).toNat))] Xf m10 Hf Zj rfl rfl rfl) fun w12 b30 m12 => Vy (Xp (f := u32) (Hs := Hk) (H := [_, _, _]) (Mem.pick [_] Hk _ m12) gk rfl rfl (Rd.mkA m12.h0) Hf Hf Zj rfl Xf sL sL) ?_
  rintro sv13 w13 ⟨Hs13, m13, g13⟩
  replace g13 : Xe u32 106 sv13 ((Qf0 key k1) ++ ([Yq ((key.drop (((4 * k1 : Nat) : Int) : Int).toNat).take ((((4 * k1 : Nat) : Int) + 4 : Int).toNat - (((4 * k1 : Nat) : Int) : Int).toNat))])) Hs13 := g13
  refine Zz sv13 ?_
  refine Zv (Qh (Qb ?_))
  refine Ya s8 <| Qd (Zg (b := 4) rfl rfl oM oM) <| Zz (i64 (((4 * k1 : Nat) : Int) + 4)) <| rN ?_
  have m14 := Mem.drop [_] _ (Mem.pick Hs13 [_] _ m13)
  exact ⟨⟨(k1 + 1), sv13, Hs13, oM, (Xe.cast g13 (by rw [Qqk rfl rfl, begK_S])), s0, s1, s2, s3, s5, s6, rfl, (Eq.trans rfl (congrArg i64 (by push_cast; omega))), m14⟩, Uo rfl z8 oM oM⟩
 ·
  have hc9p := of_decide_eq_false hc9
  refine X6 ?_
  refine Qm (Qm (Xi ?_))
  refine sR <| Ya s7 <| Ya s1 <| Y9 (Qw u32 [cr] Xf m8 Hf Zj rfl rfl rfl) fun w15 b34 m15 => Vy (Xp (f := u32) (Hs := Hk) (H := [_, _, _]) (Mem.pick [_] Hk _ m15) gk rfl rfl (Rd.mkA m15.h0) Hf Hf Zj rfl Xf sL sL) ?_
  rintro sv16 w16 ⟨Hs16, m16, g16⟩
  replace g16 : Xe u32 106 sv16 ((Qf0 key k1) ++ ([cr])) Hs16 := g16
  refine Zz sv16 ?_
  refine rN (Qa (sR ?_))
  refine Zz (i64 0) ?_
  refine rN (Qk ?_)
  refine Y7 (fun g wv => ∃ (k2 : Nat) (sk : Value) (Hk : List (Nat × Obj)), (k2 ≤ 3) ∧ (Xe u32 106 sk (begN (Qf0 key 8 ++ [cr]) nz k2) Hk) ∧ g 0 = (agg u8 key) ∧ g 1 = (u32 cr) ∧ g 2 = (agg u8 nz) ∧ g 3 = (ptr b3 0) ∧ g 5 = (ptr b5 0) ∧ g 6 = Yj ∧ g 7 = sk ∧ g 8 = (i64 ((4 * k1 : Nat) : Int)) ∧ g 9 = (i64 ((4 * k2 : Nat) : Int)) ∧ g 21 = (bl (decide (((4 * k1 : Nat) : Int) < 32))) ∧ Mem wv (Qu w0) (Hk ++ ([(b5, .cells (cl u8 nz) 77 (0, 0))]))) (fun g wv => (12 - RowKit.intOf (g 9)).toNat) ?_ ?_
  have m17 := Mem.drop [_] _ (Mem.pick Hs16 [_] _ m16)
  have m18 := Mem.drop [_] _ (Mem.pick Hs16 [_] _ m17)
  ·exact ⟨0, sv16, Hs16, oM, (Xe.cast g16 (by rw [show k1 = 8 by omega, begN_0])), s0, s1, s2, s3, s5, s6, rfl, s8, rfl, rfl, (by
   have hT := m18
   try simp only [List.append_assoc, List.cons_append, List.nil_append, List.append_nil] at hT ⊢
   exact hT)⟩
  rintro fr19 w20 ⟨k2, sk, Hk, hk2, gk, s0, s1, s2, s3, s5, s6, s7, s8, s9, s21, m20⟩
  have z7 := s7
  have z9 := s9
  have hkl := Qn7 (Qf0 key 8 ++ [cr]) nz k2
  have hk8 := Qjt key 8
  rw [List.length_append, hk8, List.length_singleton] at hkl
  refine Qa (sR ?_)
  refine Ya s9 <| Qd (Z9 (b := 12) rfl rfl) <| rN ?_
  refine Z8 rfl (fun hc21 => ?_) (fun hc21 => ?_)
  ·
   have hc21p := of_decide_eq_true hc21
   refine Qs (Qc (Qa (Qk (Qb ?_))))
   refine Ya s7 <| Ya s9 <| Ya s9 <| Qd (Zg (b := 4) rfl rfl oM oM) <| Qd (Xo (i := ((4 * k2 : Nat) : Int)) (j := ((4 * k2 : Nat) : Int) + 4) Pj Y0 s5 (Yh (k := .i64) (i := ((4 * k2 : Nat) : Int)) rfl) (Yh (k := .i64) (i := ((4 * k2 : Nat) : Int) + 4) rfl) oM sL sL) <| U9 m20 (oc107 (Kt rfl) (Qqq (sla b5 0 1 ((4 * k2 : Nat) : Int) (((4 * k2 : Nat) : Int) + 4) 12) ((nz.drop (((4 * k2 : Nat) : Int) : Int).toNat).take ((((4 * k2 : Nat) : Int) + 4 : Int).toNat - (((4 * k2 : Nat) : Int) : Int).toNat)) _ (Rd.cast (l' := (nz.drop (((4 * k2 : Nat) : Int) : Int).toNat).take ((((4 * k2 : Nat) : Int) + 4 : Int).toNat - (((4 * k2 : Nat) : Int) : Int).toNat)) (Rd.sla ((Mem.pick Hk [_] _ m20)).h0 sL oM sL sL) rfl) sL)) fun w22 m22 => Y9 (Qw u32 [Yq ((nz.drop (((4 * k2 : Nat) : Int) : Int).toNat).take ((((4 * k2 : Nat) : Int) + 4 : Int).toNat - (((4 * k2 : Nat) : Int) : Int).toNat))] Xf m22 Hf Zj rfl rfl rfl) fun w24 b46 m24 => Vy (Xp (f := u32) (Hs := Hk) (H := [_, _]) (Mem.pick [_] Hk _ m24) gk rfl rfl (Rd.mkA m24.h0) Hf Hf Zj rfl Xf sL sL) ?_
   rintro sv25 w25 ⟨Hs25, m25, g25⟩
   replace g25 : Xe u32 106 sv25 ((begN (Qf0 key 8 ++ [cr]) nz k2) ++ ([Yq ((nz.drop (((4 * k2 : Nat) : Int) : Int).toNat).take ((((4 * k2 : Nat) : Int) + 4 : Int).toNat - (((4 * k2 : Nat) : Int) : Int).toNat))])) Hs25 := g25
   refine Zz sv25 ?_
   refine Zv (Qh (Qb ?_))
   refine Ya s9 <| Qd (Zg (b := 4) rfl rfl oM oM) <| Zz (i64 (((4 * k2 : Nat) : Int) + 4)) <| rN ?_
   have m26 := Mem.drop [_] _ (Mem.pick Hs25 [_] _ m25)
   exact ⟨⟨(k2 + 1), sv25, Hs25, oM, (Xe.cast g25 (by rw [Qqk rfl rfl, begN_S])), s0, s1, s2, s3, s5, s6, rfl, s8, (Eq.trans rfl (congrArg i64 (by push_cast; omega))), s21, m26⟩, Uo rfl z9 oM oM⟩
  ·
   have hc21p := of_decide_eq_false hc21
   refine X6 ?_
   refine Qm (Qm (Xi ?_))
   refine Qa ?_
   have gF27 : Xe u32 106 sk (Y5 Yq key cr nz) Hk := Xe.cast gk (by rw [show k2 = 3 by omega]; exact begR_eq)
   have hfl0 : (Y5 Yq key cr nz).length = 16 := Qfz _ _ _
   refine Qb <| Y9 (Qw u32 [] Xf m20 Hf Zj rfl (by simp [Ac]) rfl) fun w28 b48 m28 => Ya s7 <| Vy (Xp (f := u32) (Hs := [(b48, .cells (cl u32 ([])) 106 (0, 0))]) (H := Hk ++ ([_])) m28 (Xe.of u32 106 b48 ([])) rfl rfl (gF27.rd (Mem.pick [_] Hk _ m28)) Hf Hf Zj rfl Xf sL sL) ?_
   rintro sv29 w29 ⟨Hs29, m29, g29⟩
   replace g29 : Xe u32 106 sv29 (Y5 Yq key cr nz) Hs29 := g29
   refine Zz sv29 ?_
   refine rN (sR ?_)
   refine Vy (oc108 (Qn9) (c_order2 _)) ?_
   rintro rq31 w30 ⟨olq31, Hoq31, hOq31, k_w30⟩
   have m30 : Mem _ _ (Hoq31 ++ (Hs29 ++ (Hk ++ ([_])))) := Mem.new (H := Hs29 ++ (Hk ++ ([_]))) (H' := Hoq31) m29 k_w30
   have hol8 := (Qo3 (hOq31 _ (fun q hq => (m30).own _ (List.mem_append_left _ hq)))).1
   have holi := (Qo3 (hOq31 _ (fun q hq => (m30).own _ (List.mem_append_left _ hq)))).2
   refine Zz rq31 ?_
   refine rN (Qa (sR ?_))
   refine Zz (i64 0) ?_
   refine rN (Qk ?_)
   refine Y7 (fun g wv => ∃ (k3 : Nat) (sv : Value) (Hv : List (Nat × Obj)), (k3 ≤ 10) ∧ (Xe u32 106 sv (Yu Ud k3 (Y5 Yq key cr nz)) Hv) ∧ g 0 = (agg u8 key) ∧ g 1 = (u32 cr) ∧ g 2 = (agg u8 nz) ∧ g 3 = (ptr b3 0) ∧ g 5 = (ptr b5 0) ∧ g 6 = Yj ∧ g 7 = sk ∧ g 8 = (i64 ((4 * k1 : Nat) : Int)) ∧ g 9 = (i64 ((4 * k2 : Nat) : Int)) ∧ g 10 = sv ∧ g 11 = rq31 ∧ g 12 = (i64 (k3 : Int)) ∧ g 21 = (bl (decide (((4 * k1 : Nat) : Int) < 32))) ∧ g 37 = (bl (decide (((4 * k2 : Nat) : Int) < 12))) ∧ Mem wv (Qu w0) (Hv ++ (Hk ++ (Hoq31 ++ ([]))))) (fun g wv => (10 - RowKit.intOf (g 12)).toNat) ?_ ?_
   have m32 := Mem.drop [_] _ (Mem.pick3 Hoq31 Hs29 Hk [_] _ m30)
   have m33 := (Mem.pick2 Hoq31 Hs29 Hk _ m32)
   have m34 := (Mem.pick2 Hk Hoq31 Hs29 _ m33)
   ·exact ⟨0, sv29, Hs29, oM, (Xe.cast g29 (Qrf _).symm), s0, s1, s2, s3, s5, s6, s7, s8, s9, rfl, rfl, rfl, s21, rfl, (by
    have hT := m34
    try simp only [List.append_assoc, List.cons_append, List.nil_append, List.append_nil] at hT ⊢
    exact hT)⟩
   rintro fr35 w36 ⟨k3, sv, Hv, hk3, gv, s0, s1, s2, s3, s5, s6, s7, s8, s9, s10, s11, s12, s21, s37, m36⟩
   have z10 := s10
   have z12 := s12
   have hrl := Qaj k3 (Y5 Yq key cr nz) (Qfz _ _ _)
   refine Qa (sR ?_)
   refine Ya s12 <| Qd (Z9 (b := 10) rfl rfl) <| rN ?_
   refine Z8 rfl (fun hc37 => ?_) (fun hc37 => ?_)
   ·
    have hc37p := of_decide_eq_true hc37
    refine Qs (Qc (Qa (Qk (sR ?_))))
    refine Zz (i64 0) ?_
    refine rN (V5 ?_)
    refine Y7 (fun g wv => ∃ (i : Nat) (sv2 : Value) (Hv2 : List (Nat × Obj)), (i ≤ 8) ∧ (Xe u32 106 sv2 (qK (Yu Ud k3 (Y5 Yq key cr nz)) i) Hv2) ∧ g 0 = (agg u8 key) ∧ g 1 = (u32 cr) ∧ g 2 = (agg u8 nz) ∧ g 3 = (ptr b3 0) ∧ g 5 = (ptr b5 0) ∧ g 6 = Yj ∧ g 7 = sk ∧ g 8 = (i64 ((4 * k1 : Nat) : Int)) ∧ g 9 = (i64 ((4 * k2 : Nat) : Int)) ∧ g 10 = sv2 ∧ g 11 = rq31 ∧ g 12 = (i64 (k3 : Int)) ∧ g 13 = (i64 (i : Int)) ∧ g 21 = (bl (decide (((4 * k1 : Nat) : Int) < 32))) ∧ g 37 = (bl (decide (((4 * k2 : Nat) : Int) < 12))) ∧ g 53 = (bl (decide ((k3 : Int) < 10))) ∧ Mem wv (Qu w0) (Hv2 ++ (Hk ++ (Hoq31 ++ ([]))))) (fun g wv => (8 - RowKit.intOf (g 13)).toNat) ?_ ?_
    ·exact ⟨0, sv, Hv, oM, (Xe.cast gv (qK_0 _).symm), s0, s1, s2, s3, s5, s6, s7, s8, s9, s10, s11, s12, rfl, s21, s37, rfl, (by
     have hT := m36
     try simp only [List.append_assoc, List.cons_append, List.nil_append, List.append_nil] at hT ⊢
     exact hT)⟩
    rintro fr38 w39 ⟨i, sv2, Hv2, hi8, gv2, s0, s1, s2, s3, s5, s6, s7, s8, s9, s10, s11, s12, s13, s21, s37, s53, m39⟩
    have z10 := s10
    have z13 := s13
    refine Qa (sR ?_)
    refine Ya s13 <| Qd (Z9 (b := 8) rfl rfl) <| rN ?_
    refine Z8 rfl (fun hc40 => ?_) (fun hc40 => ?_)
    ·
     have hc40p := of_decide_eq_true hc40
     have hoi := oN_ok i oM
     have ho0 := hoi.2 0 oM; have ho1 := hoi.2 1 oM; have ho2 := hoi.2 2 oM; have ho3 := hoi.2 3 oM
     have hie := holi i
     rw [← hie] at hoi ho0 ho1 ho2 ho3
     have hqn : ∀ j, ((olq31.getD i Pq).2.getD j 0).toNat = oN i j := fun j => by rw [hie]; exact oN_eq i j
     have hql := Qok (Yu Ud k3 (Y5 Yq key cr nz)) i
     refine Qs (Qc (Qa (Qk (Qa ?_))))
     refine Xl [(0, false), (1, false), (2, false), (3, false), (4, false), (5, false), (6, false), (7, false), (8, false), (9, false), (10, false), (11, false), (12, false), (13, false), (14, false), (15, false), (16, false), (17, false), (18, false), (19, false), (20, false), (21, false), (22, false), (23, false), (24, false), (25, false), (26, false), (27, false), (28, false), (29, false), (30, false), (31, false), (32, false), (33, false), (34, false), (35, false), (36, false), (37, false), (38, true)] 39 Xw <| Um rfl s10 <| Um rfl s11 <| Um rfl s13 <| Yn rfl (fun _ e' => Jb (i := (i : Int)) (hOq31 _ (fun q hq => ((m39.ext e')).own _ (List.mem_append_right _ (List.mem_append_right _ (List.mem_append_left _ hq))))).1 Qkj ti83 rfl rfl oM sL) <| Yn (v := (ilv (olq31.getD i Pq))) rfl (fun _ e' => Nb (i := (i : Int)) (dflt := Pq) (u := (ilv (olq31.getD i Pq))) (hOq31 _ (fun q hq => ((m39.ext e')).own _ (List.mem_append_right _ (List.mem_append_right _ (List.mem_append_left _ hq))))).1 sL Qcq rfl rfl Jg rfl) <| Yn rfl (fun _ e' => Zw (i := 0) (Qea (hOq31 _ (fun q hq => ((m39.ext e')).own _ (List.mem_append_right _ (List.mem_append_right _ (List.mem_append_left _ hq))))) (i := i) sD) Qcq U0 rfl rfl oM sL) <| Yn (v := (i64 (((olq31.getD i Pq).2).getD 0 0))) rfl (fun _ e' => X8 (l := (olq31.getD i Pq).2) (i := 0) (dflt := 0) (Qea (hOq31 _ (fun q hq => ((m39.ext e')).own _ (List.mem_append_right _ (List.mem_append_right _ (List.mem_append_left _ hq))))) (i := i) sD) Fj rfl oM sL rfl) <| Yn rfl (fun _ e' => Zw (gv2.rd (m39.ext e')) Hf Zj rfl rfl oM sL) <| Yn (v := (u32 ((qK (Yu Ud k3 (Y5 Yq key cr nz)) i).getD ((((olq31.getD i Pq).2).getD 0 0 : Int).toNat) 0))) rfl (fun _ e' => X8 (l := (qK (Yu Ud k3 (Y5 Yq key cr nz)) i)) (i := ((olq31.getD i Pq).2).getD 0 0) (dflt := 0) (gv2.rd (m39.ext e')) Xx rfl oM sL rfl) <| Um rfl s10 <| Um rfl s11 ?_
     refine Um rfl s13 <| Yn rfl (fun _ e' => Jb (i := (i : Int)) (hOq31 _ (fun q hq => ((m39.ext e')).own _ (List.mem_append_right _ (List.mem_append_right _ (List.mem_append_left _ hq))))).1 Qkj ti83 rfl rfl oM sL) <| Yn (v := (ilv (olq31.getD i Pq))) rfl (fun _ e' => Nb (i := (i : Int)) (dflt := Pq) (u := (ilv (olq31.getD i Pq))) (hOq31 _ (fun q hq => ((m39.ext e')).own _ (List.mem_append_right _ (List.mem_append_right _ (List.mem_append_left _ hq))))).1 sL Qcq rfl rfl Jg rfl) <| Yn rfl (fun _ e' => Zw (i := 1) (Qea (hOq31 _ (fun q hq => ((m39.ext e')).own _ (List.mem_append_right _ (List.mem_append_right _ (List.mem_append_left _ hq))))) (i := i) sD) Qcq U0 rfl rfl oM sL) <| Yn (v := (i64 (((olq31.getD i Pq).2).getD 1 0))) rfl (fun _ e' => X8 (l := (olq31.getD i Pq).2) (i := 1) (dflt := 0) (Qea (hOq31 _ (fun q hq => ((m39.ext e')).own _ (List.mem_append_right _ (List.mem_append_right _ (List.mem_append_left _ hq))))) (i := i) sD) Fj rfl oM sL rfl) <| Yn rfl (fun _ e' => Zw (gv2.rd (m39.ext e')) Hf Zj rfl rfl oM sL) <| Yn (v := (u32 ((qK (Yu Ud k3 (Y5 Yq key cr nz)) i).getD ((((olq31.getD i Pq).2).getD 1 0 : Int).toNat) 0))) rfl (fun _ e' => X8 (l := (qK (Yu Ud k3 (Y5 Yq key cr nz)) i)) (i := ((olq31.getD i Pq).2).getD 1 0) (dflt := 0) (gv2.rd (m39.ext e')) Xx rfl oM sL rfl) <| Um rfl s10 <| Um rfl s11 <| Um rfl s13 <| Yn rfl (fun _ e' => Jb (i := (i : Int)) (hOq31 _ (fun q hq => ((m39.ext e')).own _ (List.mem_append_right _ (List.mem_append_right _ (List.mem_append_left _ hq))))).1 Qkj ti83 rfl rfl oM sL) <| Yn (v := (ilv (olq31.getD i Pq))) rfl (fun _ e' => Nb (i := (i : Int)) (dflt := Pq) (u := (ilv (olq31.getD i Pq))) (hOq31 _ (fun q hq => ((m39.ext e')).own _ (List.mem_append_right _ (List.mem_append_right _ (List.mem_append_left _ hq))))).1 sL Qcq rfl rfl Jg rfl) ?_
     refine Yn rfl (fun _ e' => Zw (i := 2) (Qea (hOq31 _ (fun q hq => ((m39.ext e')).own _ (List.mem_append_right _ (List.mem_append_right _ (List.mem_append_left _ hq))))) (i := i) sD) Qcq U0 rfl rfl oM sL) <| Yn (v := (i64 (((olq31.getD i Pq).2).getD 2 0))) rfl (fun _ e' => X8 (l := (olq31.getD i Pq).2) (i := 2) (dflt := 0) (Qea (hOq31 _ (fun q hq => ((m39.ext e')).own _ (List.mem_append_right _ (List.mem_append_right _ (List.mem_append_left _ hq))))) (i := i) sD) Fj rfl oM sL rfl) <| Yn rfl (fun _ e' => Zw (gv2.rd (m39.ext e')) Hf Zj rfl rfl oM sL) <| Yn (v := (u32 ((qK (Yu Ud k3 (Y5 Yq key cr nz)) i).getD ((((olq31.getD i Pq).2).getD 2 0 : Int).toNat) 0))) rfl (fun _ e' => X8 (l := (qK (Yu Ud k3 (Y5 Yq key cr nz)) i)) (i := ((olq31.getD i Pq).2).getD 2 0) (dflt := 0) (gv2.rd (m39.ext e')) Xx rfl oM sL rfl) <| Um rfl s10 <| Um rfl s11 <| Um rfl s13 <| Yn rfl (fun _ e' => Jb (i := (i : Int)) (hOq31 _ (fun q hq => ((m39.ext e')).own _ (List.mem_append_right _ (List.mem_append_right _ (List.mem_append_left _ hq))))).1 Qkj ti83 rfl rfl oM sL) <| Yn (v := (ilv (olq31.getD i Pq))) rfl (fun _ e' => Nb (i := (i : Int)) (dflt := Pq) (u := (ilv (olq31.getD i Pq))) (hOq31 _ (fun q hq => ((m39.ext e')).own _ (List.mem_append_right _ (List.mem_append_right _ (List.mem_append_left _ hq))))).1 sL Qcq rfl rfl Jg rfl) <| Yn rfl (fun _ e' => Zw (i := 3) (Qea (hOq31 _ (fun q hq => ((m39.ext e')).own _ (List.mem_append_right _ (List.mem_append_right _ (List.mem_append_left _ hq))))) (i := i) sD) Qcq U0 rfl rfl oM sL) <| Yn (v := (i64 (((olq31.getD i Pq).2).getD 3 0))) rfl (fun _ e' => X8 (l := (olq31.getD i Pq).2) (i := 3) (dflt := 0) (Qea (hOq31 _ (fun q hq => ((m39.ext e')).own _ (List.mem_append_right _ (List.mem_append_right _ (List.mem_append_left _ hq))))) (i := i) sD) Fj rfl oM sL rfl) <| Yn rfl (fun _ e' => Zw (gv2.rd (m39.ext e')) Hf Zj rfl rfl oM sL) ?_
     refine Yn (v := (u32 ((qK (Yu Ud k3 (Y5 Yq key cr nz)) i).getD ((((olq31.getD i Pq).2).getD 3 0 : Int).toNat) 0))) rfl (fun _ e' => X8 (l := (qK (Yu Ud k3 (Y5 Yq key cr nz)) i)) (i := ((olq31.getD i Pq).2).getD 3 0) (dflt := 0) (gv2.rd (m39.ext e')) Xx rfl oM sL rfl) <| Yb rfl (Gq u32 [(qK (Yu Ud k3 (Y5 Yq key cr nz)) i).getD ((((olq31.getD i Pq).2).getD 0 0 : Int).toNat) 0, (qK (Yu Ud k3 (Y5 Yq key cr nz)) i).getD ((((olq31.getD i Pq).2).getD 1 0 : Int).toNat) 0, (qK (Yu Ud k3 (Y5 Yq key cr nz)) i).getD ((((olq31.getD i Pq).2).getD 2 0 : Int).toNat) 0, (qK (Yu Ud k3 (Y5 Yq key cr nz)) i).getD ((((olq31.getD i Pq).2).getD 3 0 : Int).toNat) 0] Xf Qbk Gv Zj rfl rfl) <| Vg rfl rfl (fun w41 e41 => oc109 (Kt rfl) (Qpu ((qK (Yu Ud k3 (Y5 Yq key cr nz)) i).getD ((((olq31.getD i Pq).2).getD 0 0 : Int).toNat) 0) ((qK (Yu Ud k3 (Y5 Yq key cr nz)) i).getD ((((olq31.getD i Pq).2).getD 1 0 : Int).toNat) 0) ((qK (Yu Ud k3 (Y5 Yq key cr nz)) i).getD ((((olq31.getD i Pq).2).getD 2 0 : Int).toNat) 0) ((qK (Yu Ud k3 (Y5 Yq key cr nz)) i).getD ((((olq31.getD i Pq).2).getD 3 0 : Int).toNat) 0) _)) ?_
     refine Cj rfl rfl (fun w43 e43 => ?_)
     have m43 := m39.ext e43
     refine Vp.mono (Zc m43 Qbk) ?_
     rintro _ w44 ⟨b14, rfl, e44, m44⟩
     refine ⟨e44, ?_⟩
     refine Gs m44 fun w45 m45 => Ye m45 (Qj (f := u32) (l := Wi Y6 ((qK (Yu Ud k3 (Y5 Yq key cr nz)) i).getD ((((olq31.getD i Pq).2).getD 0 0 : Int).toNat) 0) ((qK (Yu Ud k3 (Y5 Yq key cr nz)) i).getD ((((olq31.getD i Pq).2).getD 1 0 : Int).toNat) 0) ((qK (Yu Ud k3 (Y5 Yq key cr nz)) i).getD ((((olq31.getD i Pq).2).getD 2 0 : Int).toNat) 0) ((qK (Yu Ud k3 (Y5 Yq key cr nz)) i).getD ((((olq31.getD i Pq).2).getD 3 0 : Int).toNat) 0)) Xf Qbk rfl rfl sL m45.h0 Nj rfl) fun w46 m46 => ?_
     refine rN (Qa ?_)
     obtain ⟨q, hq⟩ : ∃ q, q = Wi Y6 ((qK (Yu Ud k3 (Y5 Yq key cr nz)) i).getD ((((olq31.getD i Pq).2).getD 0 0 : Int).toNat) 0) ((qK (Yu Ud k3 (Y5 Yq key cr nz)) i).getD ((((olq31.getD i Pq).2).getD 1 0 : Int).toNat) 0) ((qK (Yu Ud k3 (Y5 Yq key cr nz)) i).getD ((((olq31.getD i Pq).2).getD 2 0 : Int).toNat) 0) ((qK (Yu Ud k3 (Y5 Yq key cr nz)) i).getD ((((olq31.getD i Pq).2).getD 3 0 : Int).toNat) 0) := ⟨_, rfl⟩
     have hqe : q = (Wi Y6 ((qK (Yu Ud k3 (Y5 Yq key cr nz)) i).getD (oN i 0) 0) ((qK (Yu Ud k3 (Y5 Yq key cr nz)) i).getD (oN i 1) 0) ((qK (Yu Ud k3 (Y5 Yq key cr nz)) i).getD (oN i 2) 0) ((qK (Yu Ud k3 (Y5 Yq key cr nz)) i).getD (oN i 3) 0)) := by rw [hq]; simp only [hqn]
     have hq4 : q.length = 4 := by rw [hqe]; rfl
     have m47 : Mem w46 (Qu w0) ([(b14, .cells (cl u32 q) 167 (0, 0))] ++ (Hv2 ++ (Hk ++ (Hoq31 ++ ([]))))) := by rw [hq]; exact m46
     refine Qb <| Zz (i64 0) ?_
     refine rN (V5 ?_)
     refine Y7 (fun g wv => ∃ (j : Nat) (sv3 : Value) (Hv3 : List (Nat × Obj)), (j ≤ 4) ∧ (Xe u32 106 sv3 (setQ (qK (Yu Ud k3 (Y5 Yq key cr nz)) i) q i j) Hv3) ∧ g 0 = (agg u8 key) ∧ g 1 = (u32 cr) ∧ g 2 = (agg u8 nz) ∧ g 3 = (ptr b3 0) ∧ g 5 = (ptr b5 0) ∧ g 6 = Yj ∧ g 7 = sk ∧ g 8 = (i64 ((4 * k1 : Nat) : Int)) ∧ g 9 = (i64 ((4 * k2 : Nat) : Int)) ∧ g 10 = sv3 ∧ g 11 = rq31 ∧ g 12 = (i64 (k3 : Int)) ∧ g 13 = (i64 (i : Int)) ∧ g 14 = (ptr b14 0) ∧ g 15 = (i64 (j : Int)) ∧ g 21 = (bl (decide (((4 * k1 : Nat) : Int) < 32))) ∧ g 37 = (bl (decide (((4 * k2 : Nat) : Int) < 12))) ∧ g 53 = (bl (decide ((k3 : Int) < 10))) ∧ g 57 = (bl (decide ((i : Int) < 8))) ∧ Mem wv (Qu w0) (Hv3 ++ (Hk ++ (Hoq31 ++ ([(b14, .cells (cl u32 q) 167 (0, 0))]))))) (fun g wv => (4 - RowKit.intOf (g 15)).toNat) ?_ ?_
     have m48 := (Mem.pick3 [_] Hv2 Hk Hoq31 _ m47)
     have m49 := (Mem.pick3 Hoq31 [_] Hv2 Hk _ m48)
     have m50 := (Mem.pick3 Hk Hoq31 [_] Hv2 _ m49)
     ·exact ⟨0, sv2, Hv2, oM, (Xe.cast gv2 (setQ_0 _ _ _).symm), s0, s1, s2, s3, s5, s6, s7, s8, s9, s10, s11, s12, s13, rfl, rfl, s21, s37, s53, rfl, (by
      have hT := m50
      try simp only [List.append_assoc, List.cons_append, List.nil_append, List.append_nil] at hT ⊢
      exact hT)⟩
     rintro fr51 w52 ⟨j, sv3, Hv3, hj4, gv3, s0, s1, s2, s3, s5, s6, s7, s8, s9, s10, s11, s12, s13, s14, s15, s21, s37, s53, s57, m52⟩
     have z10 := s10
     have z15 := s15
     refine Qa (sR ?_)
     refine Ya s15 <| Qd (Z9 (b := 4) rfl rfl) <| rN ?_
     refine Z8 rfl (fun hc53 => ?_) (fun hc53 => ?_)
     ·
      have hc53p := of_decide_eq_true hc53
      have hoj := hoi.2 j oM
      have hqj := hqn j
      have hsl := Qmy (qK (Yu Ud k3 (Y5 Yq key cr nz)) i) q i j
      refine Qs (Qc (Qa (Qk ?_)))
      refine Xl (dl 11) 11 Xw <| Um rfl s10 <| Um rfl s11 <| Um rfl s13 <| Yn rfl (fun _ e' => Jb (i := (i : Int)) (hOq31 _ (fun q hq => ((m52.ext e')).own _ (List.mem_append_right _ (List.mem_append_right _ (List.mem_append_left _ hq))))).1 Qkj ti83 rfl rfl oM sL) <| Yn (v := (ilv (olq31.getD i Pq))) rfl (fun _ e' => Nb (i := (i : Int)) (dflt := Pq) (u := (ilv (olq31.getD i Pq))) (hOq31 _ (fun q hq => ((m52.ext e')).own _ (List.mem_append_right _ (List.mem_append_right _ (List.mem_append_left _ hq))))).1 sL Qcq rfl rfl Jg rfl) <| Um rfl s15 <| Yn rfl (fun _ e' => Zw (Qea (hOq31 _ (fun q hq => ((m52.ext e')).own _ (List.mem_append_right _ (List.mem_append_right _ (List.mem_append_left _ hq))))) (i := i) sD) Qcq U0 rfl rfl oM sL) <| Yn (v := (i64 (((olq31.getD i Pq).2).getD j 0))) rfl (fun _ e' => X8 (l := (olq31.getD i Pq).2) (i := (j : Int)) (dflt := 0) (Qea (hOq31 _ (fun q hq => ((m52.ext e')).own _ (List.mem_append_right _ (List.mem_append_right _ (List.mem_append_left _ hq))))) (i := i) sD) Fj rfl oM sL rfl) <| Um rfl s15 <| Yb rfl (Zo (r := j) oM Gv Zj s14 rfl oM sL) <| Yn rfl (fun _ e' => Ql Xx rfl rfl ((Mem.pick3 Hv3 Hk Hoq31 [_] _ (m52.ext e'))).h0 (Qx _ _ 0 sL)) ?_
      refine Gs m52 fun w54 m54 => Qd (Zw (gv3.rd m54) Hf Zj rfl rfl oM sL) <| Vk (Qj6 (Hs := Hv3) (H := Hk ++ (Hoq31 ++ ([_]))) (i := ((olq31.getD i Pq).2).getD j 0) (a := q.getD j 0) m54 gv3 Xf Zj oM sL rfl rfl) ?_
      rintro _ w55 ⟨Hs55, m55, g55⟩
      replace g55 : Xe u32 106 sv3 ((setQ (qK (Yu Ud k3 (Y5 Yq key cr nz)) i) q i j).set ((((olq31.getD i Pq).2).getD j 0 : Int).toNat) (q.getD j 0)) Hs55 := g55
      refine Zv (Qh (Qb ?_))
      refine Ya s15 <| Qd (Zg (b := 1) rfl rfl oM oM) <| Zz (i64 ((j : Int) + 1)) <| rN ?_
      exact ⟨⟨(j + 1), sv3, Hs55, oM, (Xe.cast g55 (by rw [hqn, setQ_S])), s0, s1, s2, s3, s5, s6, s7, s8, s9, s10, s11, s12, s13, s14, rfl, s21, s37, s53, s57, m55⟩, Uo rfl z15 oM oM⟩
     ·
      have hc53p := of_decide_eq_false hc53
      refine X6 ?_
      refine Qm (Qm (Xi ?_))
      refine Qh (Qb ?_)
      refine Ya s13 <| Qd (Zg (b := 1) rfl rfl oM oM) <| Zz (i64 ((i : Int) + 1)) <| rN ?_
      have m56 := Mem.drop [_] _ (Mem.pick3 Hv3 Hk Hoq31 [_] _ m52)
      exact ⟨⟨(i + 1), sv3, Hv3, oM, (Xe.cast gv3 (by rw [show j = 4 by omega]; exact qK_S hqe)), s0, s1, s2, s3, s5, s6, s7, s8, s9, s10, s11, s12, rfl, s21, s37, s53, m56⟩, Uo rfl z13 oM oM⟩
    ·
     have hc40p := of_decide_eq_false hc40
     refine X6 ?_
     refine Qm (Qm (Xi ?_))
     refine Qh (Qb ?_)
     refine Ya s12 <| Qd (Zg (b := 1) rfl rfl oM oM) <| Zz (i64 ((k3 : Int) + 1)) <| rN ?_
     exact ⟨⟨(k3 + 1), sv2, Hv2, oM, (Xe.cast gv2 (by rw [show i = 8 by omega, Qre])), s0, s1, s2, s3, s5, s6, s7, s8, s9, s10, s11, rfl, s21, s37, m39⟩, Uo rfl z12 oM oM⟩
   ·
    have hc37p := of_decide_eq_false hc37
    refine X6 ?_
    refine Qm (Qm (Xi ?_))
    refine Qa ?_
    have gF57 : Xe u32 106 sv (Yu Ud 10 (Y5 Yq key cr nz)) Hv := Xe.cast gv (by rw [show k3 = 10 by omega])
    have hrl := Qaj 10 (Y5 Yq key cr nz) (Qfz _ _ _)
    refine Qb <| Y9 (Qw u8 [] Qy m36 Zu Y0 rfl (by simp [Ac]) rfl) fun w58 b114 m58 => Zz (Wq b114 0 0 0) ?_
    refine rN (Qa (sR ?_))
    refine Zz (i64 0) ?_
    refine rN (Qk ?_)
    refine Y7 (fun g wv => ∃ (k4 : Nat) (so : Value) (Ho4 : List (Nat × Obj)), (k4 ≤ 16) ∧ (Xe u8 5 so ((List.range k4).flatMap (C9 (Yu Ud 10 (Y5 Yq key cr nz)) (Y5 Yq key cr nz))) Ho4) ∧ g 0 = (agg u8 key) ∧ g 1 = (u32 cr) ∧ g 2 = (agg u8 nz) ∧ g 3 = (ptr b3 0) ∧ g 5 = (ptr b5 0) ∧ g 6 = Yj ∧ g 7 = sk ∧ g 8 = (i64 ((4 * k1 : Nat) : Int)) ∧ g 9 = (i64 ((4 * k2 : Nat) : Int)) ∧ g 10 = sv ∧ g 11 = rq31 ∧ g 12 = (i64 (k3 : Int)) ∧ g 16 = so ∧ g 17 = (i64 (k4 : Int)) ∧ g 21 = (bl (decide (((4 * k1 : Nat) : Int) < 32))) ∧ g 37 = (bl (decide (((4 * k2 : Nat) : Int) < 12))) ∧ g 53 = (bl (decide ((k3 : Int) < 10))) ∧ Mem wv (Qu w0) (Ho4 ++ (Hv ++ (Hk ++ ([]))))) (fun g wv => (16 - RowKit.intOf (g 17)).toNat) ?_ ?_
    have m59 := Mem.drop Hoq31 _ (Mem.pick3 [_] Hv Hk Hoq31 _ m58)
    ·exact ⟨0, (Wq b114 0 0 0), [(b114, .cells (cl u8 ([])) 5 (0, 0))], oM, (Xe.of u8 5 b114 []), s0, s1, s2, s3, s5, s6, s7, s8, s9, s10, s11, s12, rfl, rfl, s21, s37, rfl, (by
     have hT := m59
     try simp only [List.append_assoc, List.cons_append, List.nil_append, List.append_nil] at hT ⊢
     exact hT)⟩
    rintro fr60 w61 ⟨k4, so, Ho4, hk4, gro, s0, s1, s2, s3, s5, s6, s7, s8, s9, s10, s11, s12, s16, s17, s21, s37, s53, m61⟩
    have z17 := s17
    have z16 := s16
    have hol := Am (Yu Ud 10 (Y5 Yq key cr nz)) (Y5 Yq key cr nz) k4
    have hfl : (Y5 Yq key cr nz).length = 16 := Qfz _ _ _
    refine Qa (sR ?_)
    refine Ya s17 <| Qd (Z9 (b := 16) rfl rfl) <| rN ?_
    refine Z8 rfl (fun hc62 => ?_) (fun hc62 => ?_)
    ·
     have hc62p := of_decide_eq_true hc62
     refine Qs (Qc (Qa (Qk (Qa ?_))))
     refine Xl (dl 8) 8 Xw <| Um rfl s10 <| Um rfl s17 <| Yn rfl (fun _ e' => Zw (gF57.rd (Mem.pick Ho4 Hv _ (m61.ext e'))) Hf Zj rfl rfl oM sL) <| Yn (v := (u32 ((Yu Ud 10 (Y5 Yq key cr nz)).getD k4 0))) rfl (fun _ e' => X8 (l := (Yu Ud 10 (Y5 Yq key cr nz))) (i := (k4 : Int)) (dflt := 0) (gF57.rd (Mem.pick Ho4 Hv _ (m61.ext e'))) Xx rfl oM sL rfl) <| Um rfl s7 <| Um rfl s17 <| Yn rfl (fun _ e' => Zw (gF27.rd (Mem.pick2 Ho4 Hv Hk _ (m61.ext e'))) Hf Zj rfl rfl oM sL) <| Yn (v := (u32 ((Y5 Yq key cr nz).getD k4 0))) rfl (fun _ e' => X8 (l := (Y5 Yq key cr nz)) (i := (k4 : Int)) (dflt := 0) (gF27.rd (Mem.pick2 Ho4 Hv Hk _ (m61.ext e'))) Xx rfl oM sL rfl) <| Gs m61 fun w63 m63 => Qd (X5 rfl rfl) <| Sz rfl ?_
     refine rN (Qb ?_)
     refine Ya s16 <| Ya rfl <| Qd (Fz ⟨_, Xx⟩ Gl rfl) <| Ya rfl <| Qd (Us (b := 8) rfl rfl oM) <| Qd (Fz ⟨_, Xx⟩ Gl rfl) <| Ya rfl <| Qd (Us (b := 16) rfl rfl oM) <| Qd (Fz ⟨_, Xx⟩ Gl rfl) <| Ya rfl <| Qd (Us (b := 24) rfl rfl oM) <| Qd (Fz ⟨_, Xx⟩ Gl rfl) ?_
     refine Y9 (Qw u8 [(((Yu Ud 10 (Y5 Yq key cr nz)).getD k4 0) + ((Y5 Yq key cr nz).getD k4 0)).setWidth 8, ((((Yu Ud 10 (Y5 Yq key cr nz)).getD k4 0) + ((Y5 Yq key cr nz).getD k4 0)) >>> 8).setWidth 8, ((((Yu Ud 10 (Y5 Yq key cr nz)).getD k4 0) + ((Y5 Yq key cr nz).getD k4 0)) >>> 16).setWidth 8, ((((Yu Ud 10 (Y5 Yq key cr nz)).getD k4 0) + ((Y5 Yq key cr nz).getD k4 0)) >>> 24).setWidth 8] Qy m63 Zu Y0 rfl rfl rfl) fun w64 b140 m64 => Vy (Xp (f := u8) (Hs := Ho4) (H := [_] ++ (Hv ++ (Hk ++ ([])))) (Mem.pick [_] Ho4 _ m64) gro rfl rfl (Rd.mkA m64.h0) Zu Zu Y0 rfl Qy sL sL) ?_
     rintro sv65 w65 ⟨Hs65, m65, g65⟩
     replace g65 : Xe u8 5 sv65 (((List.range k4).flatMap (C9 (Yu Ud 10 (Y5 Yq key cr nz)) (Y5 Yq key cr nz))) ++ ([(((Yu Ud 10 (Y5 Yq key cr nz)).getD k4 0) + ((Y5 Yq key cr nz).getD k4 0)).setWidth 8, ((((Yu Ud 10 (Y5 Yq key cr nz)).getD k4 0) + ((Y5 Yq key cr nz).getD k4 0)) >>> 8).setWidth 8, ((((Yu Ud 10 (Y5 Yq key cr nz)).getD k4 0) + ((Y5 Yq key cr nz).getD k4 0)) >>> 16).setWidth 8, ((((Yu Ud 10 (Y5 Yq key cr nz)).getD k4 0) + ((Y5 Yq key cr nz).getD k4 0)) >>> 24).setWidth 8])) Hs65 := g65
     refine Zz sv65 ?_
     refine Zv (Qh ?_)
     have m66 := Mem.drop [_] _ (Mem.pick Hs65 [_] _ m65)
     refine Qb <| Ya s17 <| Qd (Zg (b := 1) rfl rfl oM oM) <| Zz (i64 ((k4 : Int) + 1)) <| rN ?_
     exact ⟨⟨(k4 + 1), sv65, Hs65, oM, (Xe.cast g65 (by rw [Qcw]; rfl)), s0, s1, s2, s3, s5, s6, s7, s8, s9, s10, s11, s12, rfl, rfl, s21, s37, s53, m66⟩, Uo rfl z17 oM oM⟩
    ·
     have hc62p := of_decide_eq_false hc62
     refine X6 ?_
     refine Qm (Qm (Xi ?_))
     refine sR <| Ya s16 <| Zz so ?_
     refine rN (Xb ?_)
     refine Qv [so] ⟨rfl, trivial⟩ ?_
     have m67 := Mem.drop Hv _ (Mem.pick Ho4 Hv _ m61)
     have m68 := Mem.drop Hk _ (Mem.pick Ho4 Hk _ m67)
     exact ⟨Ho4, Xe.cast gro (by rw [show k4 = 16 by omega]; rfl), by simpa using m68⟩
end Go.Proofs.YtkmiemlpfkfiiaaDoor
