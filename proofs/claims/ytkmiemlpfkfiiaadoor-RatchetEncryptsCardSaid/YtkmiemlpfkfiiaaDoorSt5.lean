/- Contracts: stream, fifth part. Conditions: none beyond those that each theorem states. -/
import Derived.Test.YtkmiemlpfkfiiaaDoorSt4
namespace Go.Proofs.YtkmiemlpfkfiiaaDoor
set_option linter.unusedVariables false
set_option linter.unusedSimpArgs false
attribute [local irreducible] Qdq begN Yf qK setQ X9 Vt X8 oN Qaw
set_option maxHeartbeats 2000000 in
theorem c_block3 (key : List (BitVec 8)) (counter : BitVec 32) (nonce : List (BitVec 8)) (w0 : World)  (hk : key.length = 32) (hn : nonce.length = 12) : Xz Tryd.prog 94 #[(agg u8 key), (u32 counter), (agg u8 nonce)] w0 (fun r w1 => ∃ Hs, Zv u8 5 r (Wq key counter nonce) Hs ∧ Mem w1 (Qy w0) Hs) := by
 refine Zd (args := [(agg u8 key), (u32 counter), (agg u8 nonce)]) Tryd.func94 rfl Tryd.ntmps94 Tryd.results94 rfl ?_
 have m0 : Mem w0 (Qy w0) [] := Mem.of_world w0
 refine sR <| Za rfl (Z8 (f := u8) (l := key) m0 rfl) ?_
 rintro _ w1 ⟨b3, rfl, e1, m1⟩
 refine Za rfl (Z8 (f := u8) (l := nonce) m1 rfl) ?_
 rintro _ w2 ⟨b5, rfl, e2, m2⟩
 refine Qa rfl (Qc (v := (Value.slice none 0 0)) rfl) ?_
 refine rN (sR ?_)
 refine Za rfl (Ql u32 [1634760805#32, 857760878#32, 2036477234#32, 1797285236#32] Z5 m2 Df Zh rfl rfl rfl) ?_
 rintro _ w3 ⟨b19, rfl, e3, m3⟩
 refine Qa rfl (Qc (v := (Ko b19 0 4 4)) rfl) ?_
 refine rN (Qg (sR ?_))
 refine Qa rfl (Qc (v := (i64 0)) rfl) ?_
 refine rN (Qo ?_)
 refine Yo (fun g wv => ∃ (k1 : Nat) (sk : Value) (Hk : List (Nat × Obj)), (k1 ≤ 8) ∧ (Zv u32 106 sk (Qdq key k1) Hk) ∧ g 0 = (agg u8 key) ∧ g 1 = (u32 counter) ∧ g 2 = (agg u8 nonce) ∧ g 3 = (ptr b3 0) ∧ g 5 = (ptr b5 0) ∧ g 6 = (Value.slice none 0 0) ∧ g 7 = sk ∧ g 8 = (i64 ((4 * k1 : Nat) : Int)) ∧ Mem wv (Qy w0) (Hk ++ ([(b3, .cells (cl u8 key) 23 (0, 0)), (b5, .cells (cl u8 nonce) 77 (0, 0))]))) (fun g wv => (32 - RowKit.intOf (g 8)).toNat) ?_ ?_
 have m4 := (Mem.pick [_] [_] _ m3)
 have m5 := (Mem.pick [_, _] [_] _ m4)
 have m6 := (Mem.pick [_, _] [_] _ m5)
 ·exact ⟨0, (Ko b19 0 4 4), [(b19, .cells (cl u32 ([1634760805#32, 857760878#32, 2036477234#32, 1797285236#32])) 106 (0, 0))], oM, (Zv.cast (Zv.of u32 106 b19 ([1634760805#32, 857760878#32, 2036477234#32, 1797285236#32])) (begK_0 key).symm), rfl, rfl, rfl, rfl, rfl, rfl, rfl, rfl, (by
  have hT := m6
  try simp only [List.append_assoc, List.cons_append, List.nil_append, List.append_nil] at hT ⊢
  exact hT)⟩
 rintro fr7 w8 ⟨k1, sk, Hk, hk1, gk, s0, s1, s2, s3, s5, s6, s7, s8, m8⟩
 have z7 := s7
 have z8 := s8
 have hkl := Qgp key k1
 refine Qg (sR ?_)
 refine rM rfl s8 <| Qa rfl (Qs (b := 32) rfl rfl) <| rN ?_
 refine Xv rfl (fun hc9 => ?_) (fun hc9 => ?_)
 ·
  have hc9p := of_decide_eq_true hc9
  refine Q7 (Qh (Qg (Qo (Qe ?_))))
  refine rM rfl s7 <| rM rfl s8 <| rM rfl s8 <| Qa rfl (Qk (b := 4) rfl rfl oM oM) <| Qa rfl (Xj (i := ((4 * k1 : Nat) : Int)) (j := ((4 * k1 : Nat) : Int) + 4) X3 X6 s3 (Jt (k := .i64) (i := ((4 * k1 : Nat) : Int)) rfl) (Jt (k := .i64) (i := ((4 * k1 : Nat) : Int) + 4) rfl) oM sL sL) <| Za rfl (oc107 (Jj rfl) (Qm0 (sla b3 0 1 ((4 * k1 : Nat) : Int) (((4 * k1 : Nat) : Int) + 4) 32) ((key.drop (((4 * k1 : Nat) : Int) : Int).toNat).take ((((4 * k1 : Nat) : Int) + 4 : Int).toNat - (((4 * k1 : Nat) : Int) : Int).toNat)) _ (Rd.cast (l' := (key.drop (((4 * k1 : Nat) : Int) : Int).toNat).take ((((4 * k1 : Nat) : Int) + 4 : Int).toNat - (((4 * k1 : Nat) : Int) : Int).toNat)) (Rd.sla ((Mem.pick Hk [_] _ m8)).h0 sL oM sL sL) rfl) sL)) ?_
  rintro _ w10 ⟨rfl, e10⟩
  have m10 := m8.ext e10
  refine Za rfl (Ql u32 [X8 ((key.drop (((4 * k1 : Nat) : Int) : Int).toNat).take ((((4 * k1 : Nat) : Int) + 4 : Int).toNat - (((4 * k1 : Nat) : Int) : Int).toNat))] Z5 m10 Df Zh rfl rfl rfl) ?_
  rintro _ w12 ⟨b30, rfl, e12, m12⟩
  refine Za rfl (Zk (f := u32) (Hs := Hk) (H := [_, _, _]) (Mem.pick [_] Hk _ m12) gk rfl rfl (Rd.mkA m12.h0) Df Df Zh rfl Z5 sL sL) ?_
  rintro sv13 w13 ⟨Hs13, m13, g13⟩
  replace g13 : Zv u32 106 sv13 ((Qdq key k1) ++ ([X8 ((key.drop (((4 * k1 : Nat) : Int) : Int).toNat).take ((((4 * k1 : Nat) : Int) + 4 : Int).toNat - (((4 * k1 : Nat) : Int) : Int).toNat))])) Hs13 := g13
  refine rA rfl (v := sv13) rfl ?_
  refine Zr (Qi (Qe ?_))
  refine rM rfl s8 <| Qa rfl (Qk (b := 4) rfl rfl oM oM) <| Qa rfl (Qc (v := (i64 (((4 * k1 : Nat) : Int) + 4))) rfl) <| rN ?_
  have m14 := Mem.drop [_] _ (Mem.pick Hs13 [_] _ m13)
  exact ⟨⟨(k1 + 1), sv13, Hs13, oM, (Zv.cast g13 (by rw [Qmu rfl rfl, begK_S])), s0, s1, s2, s3, s5, s6, rfl, (Eq.trans rfl (congrArg i64 (by push_cast; omega))), m14⟩, Gl rfl z8 oM oM⟩
 ·
  have hc9p := of_decide_eq_false hc9
  refine X0 ?_
  refine Qr (Qr (Xf ?_))
  refine sR <| rM rfl s7 <| rM rfl s1 <| Za rfl (Ql u32 [counter] Z5 m8 Df Zh rfl rfl rfl) ?_
  rintro _ w15 ⟨b34, rfl, e15, m15⟩
  refine Za rfl (Zk (f := u32) (Hs := Hk) (H := [_, _, _]) (Mem.pick [_] Hk _ m15) gk rfl rfl (Rd.mkA m15.h0) Df Df Zh rfl Z5 sL sL) ?_
  rintro sv16 w16 ⟨Hs16, m16, g16⟩
  replace g16 : Zv u32 106 sv16 ((Qdq key k1) ++ ([counter])) Hs16 := g16
  refine rA rfl (v := sv16) rfl ?_
  refine rN (Qg (sR ?_))
  refine Qa rfl (Qc (v := (i64 0)) rfl) ?_
  refine rN (Qo ?_)
  refine Yo (fun g wv => ∃ (k2 : Nat) (sk : Value) (Hk : List (Nat × Obj)), (k2 ≤ 3) ∧ (Zv u32 106 sk (begN (Qdq key 8 ++ [counter]) nonce k2) Hk) ∧ g 0 = (agg u8 key) ∧ g 1 = (u32 counter) ∧ g 2 = (agg u8 nonce) ∧ g 3 = (ptr b3 0) ∧ g 5 = (ptr b5 0) ∧ g 6 = (Value.slice none 0 0) ∧ g 7 = sk ∧ g 8 = (i64 ((4 * k1 : Nat) : Int)) ∧ g 9 = (i64 ((4 * k2 : Nat) : Int)) ∧ g 21 = (bl (decide (((4 * k1 : Nat) : Int) < 32))) ∧ Mem wv (Qy w0) (Hk ++ ([(b5, .cells (cl u8 nonce) 77 (0, 0))]))) (fun g wv => (12 - RowKit.intOf (g 9)).toNat) ?_ ?_
  have m17 := Mem.drop [_] _ (Mem.pick Hs16 [_] _ m16)
  have m18 := Mem.drop [_] _ (Mem.pick Hs16 [_] _ m17)
  ·exact ⟨0, sv16, Hs16, oM, (Zv.cast g16 (by rw [show k1 = 8 by omega, begN_0])), s0, s1, s2, s3, s5, s6, rfl, s8, rfl, rfl, (by
   have hT := m18
   try simp only [List.append_assoc, List.cons_append, List.nil_append, List.append_nil] at hT ⊢
   exact hT)⟩
  rintro fr19 w20 ⟨k2, sk, Hk, hk2, gk, s0, s1, s2, s3, s5, s6, s7, s8, s9, s21, m20⟩
  have z7 := s7
  have z9 := s9
  have hkl := Qks (Qdq key 8 ++ [counter]) nonce k2
  have hk8 := Qgp key 8
  rw [List.length_append, hk8, List.length_singleton] at hkl
  refine Qg (sR ?_)
  refine rM rfl s9 <| Qa rfl (Qs (b := 12) rfl rfl) <| rN ?_
  refine Xv rfl (fun hc21 => ?_) (fun hc21 => ?_)
  ·
   have hc21p := of_decide_eq_true hc21
   refine Q7 (Qh (Qg (Qo (Qe ?_))))
   refine rM rfl s7 <| rM rfl s9 <| rM rfl s9 <| Qa rfl (Qk (b := 4) rfl rfl oM oM) <| Qa rfl (Xj (i := ((4 * k2 : Nat) : Int)) (j := ((4 * k2 : Nat) : Int) + 4) Qah X6 s5 (Jt (k := .i64) (i := ((4 * k2 : Nat) : Int)) rfl) (Jt (k := .i64) (i := ((4 * k2 : Nat) : Int) + 4) rfl) oM sL sL) <| Za rfl (oc107 (Jj rfl) (Qm0 (sla b5 0 1 ((4 * k2 : Nat) : Int) (((4 * k2 : Nat) : Int) + 4) 12) ((nonce.drop (((4 * k2 : Nat) : Int) : Int).toNat).take ((((4 * k2 : Nat) : Int) + 4 : Int).toNat - (((4 * k2 : Nat) : Int) : Int).toNat)) _ (Rd.cast (l' := (nonce.drop (((4 * k2 : Nat) : Int) : Int).toNat).take ((((4 * k2 : Nat) : Int) + 4 : Int).toNat - (((4 * k2 : Nat) : Int) : Int).toNat)) (Rd.sla ((Mem.pick Hk [_] _ m20)).h0 sL oM sL sL) rfl) sL)) ?_
   rintro _ w22 ⟨rfl, e22⟩
   have m22 := m20.ext e22
   refine Za rfl (Ql u32 [X8 ((nonce.drop (((4 * k2 : Nat) : Int) : Int).toNat).take ((((4 * k2 : Nat) : Int) + 4 : Int).toNat - (((4 * k2 : Nat) : Int) : Int).toNat))] Z5 m22 Df Zh rfl rfl rfl) ?_
   rintro _ w24 ⟨b46, rfl, e24, m24⟩
   refine Za rfl (Zk (f := u32) (Hs := Hk) (H := [_, _]) (Mem.pick [_] Hk _ m24) gk rfl rfl (Rd.mkA m24.h0) Df Df Zh rfl Z5 sL sL) ?_
   rintro sv25 w25 ⟨Hs25, m25, g25⟩
   replace g25 : Zv u32 106 sv25 ((begN (Qdq key 8 ++ [counter]) nonce k2) ++ ([X8 ((nonce.drop (((4 * k2 : Nat) : Int) : Int).toNat).take ((((4 * k2 : Nat) : Int) + 4 : Int).toNat - (((4 * k2 : Nat) : Int) : Int).toNat))])) Hs25 := g25
   refine rA rfl (v := sv25) rfl ?_
   refine Zr (Qi (Qe ?_))
   refine rM rfl s9 <| Qa rfl (Qk (b := 4) rfl rfl oM oM) <| Qa rfl (Qc (v := (i64 (((4 * k2 : Nat) : Int) + 4))) rfl) <| rN ?_
   have m26 := Mem.drop [_] _ (Mem.pick Hs25 [_] _ m25)
   exact ⟨⟨(k2 + 1), sv25, Hs25, oM, (Zv.cast g25 (by rw [Qmu rfl rfl, begN_S])), s0, s1, s2, s3, s5, s6, rfl, s8, (Eq.trans rfl (congrArg i64 (by push_cast; omega))), s21, m26⟩, Gl rfl z9 oM oM⟩
  ·
   have hc21p := of_decide_eq_false hc21
   refine X0 ?_
   refine Qr (Qr (Xf ?_))
   refine Qg ?_
   have gF27 : Zv u32 106 sk (Yf X8 key counter nonce) Hk := Zv.cast gk (by rw [show k2 = 3 by omega]; exact begR_eq)
   have hfl0 : (Yf X8 key counter nonce).length = 16 := Qdp _ _ _
   refine Qe <| Za rfl (Ql u32 [] Z5 m20 Df Zh rfl (by simp [Jo]) rfl) ?_
   rintro _ w28 ⟨b48, rfl, e28, m28⟩
   refine rM rfl s7 <| Za rfl (Zk (f := u32) (Hs := [(b48, .cells (cl u32 ([])) 106 (0, 0))]) (H := Hk ++ ([_])) m28 (Zv.of u32 106 b48 ([])) rfl rfl (gF27.rd (Mem.pick [_] Hk _ m28)) Df Df Zh rfl Z5 sL sL) ?_
   rintro sv29 w29 ⟨Hs29, m29, g29⟩
   replace g29 : Zv u32 106 sv29 (Yf X8 key counter nonce) Hs29 := g29
   refine rA rfl (v := sv29) rfl ?_
   refine rN (sR ?_)
   refine Za rfl (oc108 (Qkv) (c_order2 _)) ?_
   rintro rq31 w30 ⟨olq31, Hoq31, hOq31, k_w30⟩
   have m30 : Mem _ _ (Hoq31 ++ (Hs29 ++ (Hk ++ ([_])))) := Mem.new (H := Hs29 ++ (Hk ++ ([_]))) (H' := Hoq31) m29 k_w30
   have hol8 := (Qlk (hOq31 _ (fun q hq => (m30).own _ (List.mem_append_left _ hq)))).1
   have holi := (Qlk (hOq31 _ (fun q hq => (m30).own _ (List.mem_append_left _ hq)))).2
   refine rA rfl (v := rq31) rfl ?_
   refine rN (Qg (sR ?_))
   refine Qa rfl (Qc (v := (i64 0)) rfl) ?_
   refine rN (Qo ?_)
   refine Yo (fun g wv => ∃ (k3 : Nat) (sv : Value) (Hv : List (Nat × Obj)), (k3 ≤ 10) ∧ (Zv u32 106 sv (X9 Vt k3 (Yf X8 key counter nonce)) Hv) ∧ g 0 = (agg u8 key) ∧ g 1 = (u32 counter) ∧ g 2 = (agg u8 nonce) ∧ g 3 = (ptr b3 0) ∧ g 5 = (ptr b5 0) ∧ g 6 = (Value.slice none 0 0) ∧ g 7 = sk ∧ g 8 = (i64 ((4 * k1 : Nat) : Int)) ∧ g 9 = (i64 ((4 * k2 : Nat) : Int)) ∧ g 10 = sv ∧ g 11 = rq31 ∧ g 12 = (i64 (k3 : Int)) ∧ g 21 = (bl (decide (((4 * k1 : Nat) : Int) < 32))) ∧ g 37 = (bl (decide (((4 * k2 : Nat) : Int) < 12))) ∧ Mem wv (Qy w0) (Hv ++ (Hk ++ (Hoq31 ++ ([]))))) (fun g wv => (10 - RowKit.intOf (g 12)).toNat) ?_ ?_
   have m32 := Mem.drop [_] _ (Mem.pick3 Hoq31 Hs29 Hk [_] _ m30)
   have m33 := (Mem.pick2 Hoq31 Hs29 Hk _ m32)
   have m34 := (Mem.pick2 Hk Hoq31 Hs29 _ m33)
   ·exact ⟨0, sv29, Hs29, oM, (Zv.cast g29 (Qnk _).symm), s0, s1, s2, s3, s5, s6, s7, s8, s9, rfl, rfl, rfl, s21, rfl, (by
    have hT := m34
    try simp only [List.append_assoc, List.cons_append, List.nil_append, List.append_nil] at hT ⊢
    exact hT)⟩
   rintro fr35 w36 ⟨k3, sv, Hv, hk3, gv, s0, s1, s2, s3, s5, s6, s7, s8, s9, s10, s11, s12, s21, s37, m36⟩
   have z10 := s10
   have z12 := s12
   have hrl := Nc k3 (Yf X8 key counter nonce) (Qdp _ _ _)
   refine Qg (sR ?_)
   refine rM rfl s12 <| Qa rfl (Qs (b := 10) rfl rfl) <| rN ?_
   refine Xv rfl (fun hc37 => ?_) (fun hc37 => ?_)
   ·
    have hc37p := of_decide_eq_true hc37
    refine Q7 (Qh (Qg (Qo (sR ?_))))
    refine Qa rfl (Qc (v := (i64 0)) rfl) ?_
    refine rN (Vq ?_)
    refine Yo (fun g wv => ∃ (i : Nat) (sv2 : Value) (Hv2 : List (Nat × Obj)), (i ≤ 8) ∧ (Zv u32 106 sv2 (qK (X9 Vt k3 (Yf X8 key counter nonce)) i) Hv2) ∧ g 0 = (agg u8 key) ∧ g 1 = (u32 counter) ∧ g 2 = (agg u8 nonce) ∧ g 3 = (ptr b3 0) ∧ g 5 = (ptr b5 0) ∧ g 6 = (Value.slice none 0 0) ∧ g 7 = sk ∧ g 8 = (i64 ((4 * k1 : Nat) : Int)) ∧ g 9 = (i64 ((4 * k2 : Nat) : Int)) ∧ g 10 = sv2 ∧ g 11 = rq31 ∧ g 12 = (i64 (k3 : Int)) ∧ g 13 = (i64 (i : Int)) ∧ g 21 = (bl (decide (((4 * k1 : Nat) : Int) < 32))) ∧ g 37 = (bl (decide (((4 * k2 : Nat) : Int) < 12))) ∧ g 53 = (bl (decide ((k3 : Int) < 10))) ∧ Mem wv (Qy w0) (Hv2 ++ (Hk ++ (Hoq31 ++ ([]))))) (fun g wv => (8 - RowKit.intOf (g 13)).toNat) ?_ ?_
    ·exact ⟨0, sv, Hv, oM, (Zv.cast gv (qK_0 _).symm), s0, s1, s2, s3, s5, s6, s7, s8, s9, s10, s11, s12, rfl, s21, s37, rfl, (by
     have hT := m36
     try simp only [List.append_assoc, List.cons_append, List.nil_append, List.append_nil] at hT ⊢
     exact hT)⟩
    rintro fr38 w39 ⟨i, sv2, Hv2, hi8, gv2, s0, s1, s2, s3, s5, s6, s7, s8, s9, s10, s11, s12, s13, s21, s37, s53, m39⟩
    have z10 := s10
    have z13 := s13
    refine Qg (sR ?_)
    refine rM rfl s13 <| Qa rfl (Qs (b := 8) rfl rfl) <| rN ?_
    refine Xv rfl (fun hc40 => ?_) (fun hc40 => ?_)
    ·
     have hc40p := of_decide_eq_true hc40
     have hoi := oN_ok i oM
     have ho0 := hoi.2 0 oM; have ho1 := hoi.2 1 oM; have ho2 := hoi.2 2 oM; have ho3 := hoi.2 3 oM
     have hie := holi i
     rw [← hie] at hoi ho0 ho1 ho2 ho3
     have hqn : ∀ j, ((olq31.getD i Af).2.getD j 0).toNat = oN i j := fun j => by rw [hie]; exact oN_eq i j
     have hql := Qk7 (X9 Vt k3 (Yf X8 key counter nonce)) i
     refine Q7 (Qh (Qg (Qo (Qg ?_))))
     refine Xq [(0, false), (1, false), (2, false), (3, false), (4, false), (5, false), (6, false), (7, false), (8, false), (9, false), (10, false), (11, false), (12, false), (13, false), (14, false), (15, false), (16, false), (17, false), (18, false), (19, false), (20, false), (21, false), (22, false), (23, false), (24, false), (25, false), (26, false), (27, false), (28, false), (29, false), (30, false), (31, false), (32, false), (33, false), (34, false), (35, false), (36, false), (37, false), (38, true)] 39 (by kernel_rfl) <| dM rfl rfl s10 <| dM rfl rfl s11 <| dM rfl rfl s13 <| Qj rfl rfl (fun _ _hx => Ym (i := (i : Int)) (hOq31 _ (fun q hq => ((m39.ext _hx)).own _ (List.mem_append_right _ (List.mem_append_right _ (List.mem_append_left _ hq))))).1 Qhe ti83 rfl rfl oM sL) <| Qj (v := (ilv (olq31.getD i Af))) rfl rfl (fun _ _hx => Fe (i := (i : Int)) (dflt := Af) (u := (ilv (olq31.getD i Af))) (hOq31 _ (fun q hq => ((m39.ext _hx)).own _ (List.mem_append_right _ (List.mem_append_right _ (List.mem_append_left _ hq))))).1 sL Qag rfl rfl (by decide) rfl) <| Qj rfl rfl (fun _ _hx => Xa (i := 0) (Qb3 (hOq31 _ (fun q hq => ((m39.ext _hx)).own _ (List.mem_append_right _ (List.mem_append_right _ (List.mem_append_left _ hq))))) (i := i) sD) Qag Dy rfl rfl oM sL) <| Qj (v := (i64 (((olq31.getD i Af).2).getD 0 0))) rfl rfl (fun _ _hx => Yc (l := (olq31.getD i Af).2) (i := 0) (dflt := 0) (Qb3 (hOq31 _ (fun q hq => ((m39.ext _hx)).own _ (List.mem_append_right _ (List.mem_append_right _ (List.mem_append_left _ hq))))) (i := i) sD) Fj rfl oM sL rfl) <| Qj rfl rfl (fun _ _hx => Xa (gv2.rd (m39.ext _hx)) Df Zh rfl rfl oM sL) <| Qj (v := (u32 ((qK (X9 Vt k3 (Yf X8 key counter nonce)) i).getD ((((olq31.getD i Af).2).getD 0 0 : Int).toNat) 0))) rfl rfl (fun _ _hx => Yc (l := (qK (X9 Vt k3 (Yf X8 key counter nonce)) i)) (i := ((olq31.getD i Af).2).getD 0 0) (dflt := 0) (gv2.rd (m39.ext _hx)) Xk rfl oM sL rfl) <| dM rfl rfl s10 <| dM rfl rfl s11 ?_
     refine dM rfl rfl s13 <| Qj rfl rfl (fun _ _hx => Ym (i := (i : Int)) (hOq31 _ (fun q hq => ((m39.ext _hx)).own _ (List.mem_append_right _ (List.mem_append_right _ (List.mem_append_left _ hq))))).1 Qhe ti83 rfl rfl oM sL) <| Qj (v := (ilv (olq31.getD i Af))) rfl rfl (fun _ _hx => Fe (i := (i : Int)) (dflt := Af) (u := (ilv (olq31.getD i Af))) (hOq31 _ (fun q hq => ((m39.ext _hx)).own _ (List.mem_append_right _ (List.mem_append_right _ (List.mem_append_left _ hq))))).1 sL Qag rfl rfl (by decide) rfl) <| Qj rfl rfl (fun _ _hx => Xa (i := 1) (Qb3 (hOq31 _ (fun q hq => ((m39.ext _hx)).own _ (List.mem_append_right _ (List.mem_append_right _ (List.mem_append_left _ hq))))) (i := i) sD) Qag Dy rfl rfl oM sL) <| Qj (v := (i64 (((olq31.getD i Af).2).getD 1 0))) rfl rfl (fun _ _hx => Yc (l := (olq31.getD i Af).2) (i := 1) (dflt := 0) (Qb3 (hOq31 _ (fun q hq => ((m39.ext _hx)).own _ (List.mem_append_right _ (List.mem_append_right _ (List.mem_append_left _ hq))))) (i := i) sD) Fj rfl oM sL rfl) <| Qj rfl rfl (fun _ _hx => Xa (gv2.rd (m39.ext _hx)) Df Zh rfl rfl oM sL) <| Qj (v := (u32 ((qK (X9 Vt k3 (Yf X8 key counter nonce)) i).getD ((((olq31.getD i Af).2).getD 1 0 : Int).toNat) 0))) rfl rfl (fun _ _hx => Yc (l := (qK (X9 Vt k3 (Yf X8 key counter nonce)) i)) (i := ((olq31.getD i Af).2).getD 1 0) (dflt := 0) (gv2.rd (m39.ext _hx)) Xk rfl oM sL rfl) <| dM rfl rfl s10 <| dM rfl rfl s11 <| dM rfl rfl s13 <| Qj rfl rfl (fun _ _hx => Ym (i := (i : Int)) (hOq31 _ (fun q hq => ((m39.ext _hx)).own _ (List.mem_append_right _ (List.mem_append_right _ (List.mem_append_left _ hq))))).1 Qhe ti83 rfl rfl oM sL) <| Qj (v := (ilv (olq31.getD i Af))) rfl rfl (fun _ _hx => Fe (i := (i : Int)) (dflt := Af) (u := (ilv (olq31.getD i Af))) (hOq31 _ (fun q hq => ((m39.ext _hx)).own _ (List.mem_append_right _ (List.mem_append_right _ (List.mem_append_left _ hq))))).1 sL Qag rfl rfl (by decide) rfl) ?_
     refine Qj rfl rfl (fun _ _hx => Xa (i := 2) (Qb3 (hOq31 _ (fun q hq => ((m39.ext _hx)).own _ (List.mem_append_right _ (List.mem_append_right _ (List.mem_append_left _ hq))))) (i := i) sD) Qag Dy rfl rfl oM sL) <| Qj (v := (i64 (((olq31.getD i Af).2).getD 2 0))) rfl rfl (fun _ _hx => Yc (l := (olq31.getD i Af).2) (i := 2) (dflt := 0) (Qb3 (hOq31 _ (fun q hq => ((m39.ext _hx)).own _ (List.mem_append_right _ (List.mem_append_right _ (List.mem_append_left _ hq))))) (i := i) sD) Fj rfl oM sL rfl) <| Qj rfl rfl (fun _ _hx => Xa (gv2.rd (m39.ext _hx)) Df Zh rfl rfl oM sL) <| Qj (v := (u32 ((qK (X9 Vt k3 (Yf X8 key counter nonce)) i).getD ((((olq31.getD i Af).2).getD 2 0 : Int).toNat) 0))) rfl rfl (fun _ _hx => Yc (l := (qK (X9 Vt k3 (Yf X8 key counter nonce)) i)) (i := ((olq31.getD i Af).2).getD 2 0) (dflt := 0) (gv2.rd (m39.ext _hx)) Xk rfl oM sL rfl) <| dM rfl rfl s10 <| dM rfl rfl s11 <| dM rfl rfl s13 <| Qj rfl rfl (fun _ _hx => Ym (i := (i : Int)) (hOq31 _ (fun q hq => ((m39.ext _hx)).own _ (List.mem_append_right _ (List.mem_append_right _ (List.mem_append_left _ hq))))).1 Qhe ti83 rfl rfl oM sL) <| Qj (v := (ilv (olq31.getD i Af))) rfl rfl (fun _ _hx => Fe (i := (i : Int)) (dflt := Af) (u := (ilv (olq31.getD i Af))) (hOq31 _ (fun q hq => ((m39.ext _hx)).own _ (List.mem_append_right _ (List.mem_append_right _ (List.mem_append_left _ hq))))).1 sL Qag rfl rfl (by decide) rfl) <| Qj rfl rfl (fun _ _hx => Xa (i := 3) (Qb3 (hOq31 _ (fun q hq => ((m39.ext _hx)).own _ (List.mem_append_right _ (List.mem_append_right _ (List.mem_append_left _ hq))))) (i := i) sD) Qag Dy rfl rfl oM sL) <| Qj (v := (i64 (((olq31.getD i Af).2).getD 3 0))) rfl rfl (fun _ _hx => Yc (l := (olq31.getD i Af).2) (i := 3) (dflt := 0) (Qb3 (hOq31 _ (fun q hq => ((m39.ext _hx)).own _ (List.mem_append_right _ (List.mem_append_right _ (List.mem_append_left _ hq))))) (i := i) sD) Fj rfl oM sL rfl) <| Qj rfl rfl (fun _ _hx => Xa (gv2.rd (m39.ext _hx)) Df Zh rfl rfl oM sL) ?_
     refine Qj (v := (u32 ((qK (X9 Vt k3 (Yf X8 key counter nonce)) i).getD ((((olq31.getD i Af).2).getD 3 0 : Int).toNat) 0))) rfl rfl (fun _ _hx => Yc (l := (qK (X9 Vt k3 (Yf X8 key counter nonce)) i)) (i := ((olq31.getD i Af).2).getD 3 0) (dflt := 0) (gv2.rd (m39.ext _hx)) Xk rfl oM sL rfl) <| Qj rfl rfl (fun _ _hx => Vf u32 [(qK (X9 Vt k3 (Yf X8 key counter nonce)) i).getD ((((olq31.getD i Af).2).getD 0 0 : Int).toNat) 0, (qK (X9 Vt k3 (Yf X8 key counter nonce)) i).getD ((((olq31.getD i Af).2).getD 1 0 : Int).toNat) 0, (qK (X9 Vt k3 (Yf X8 key counter nonce)) i).getD ((((olq31.getD i Af).2).getD 2 0 : Int).toNat) 0, (qK (X9 Vt k3 (Yf X8 key counter nonce)) i).getD ((((olq31.getD i Af).2).getD 3 0 : Int).toNat) 0] Z5 Rq Vh Zh rfl rfl) <| Kv rfl rfl (fun w41 e41 => oc109 (Jj rfl) (Qmb ((qK (X9 Vt k3 (Yf X8 key counter nonce)) i).getD ((((olq31.getD i Af).2).getD 0 0 : Int).toNat) 0) ((qK (X9 Vt k3 (Yf X8 key counter nonce)) i).getD ((((olq31.getD i Af).2).getD 1 0 : Int).toNat) 0) ((qK (X9 Vt k3 (Yf X8 key counter nonce)) i).getD ((((olq31.getD i Af).2).getD 2 0 : Int).toNat) 0) ((qK (X9 Vt k3 (Yf X8 key counter nonce)) i).getD ((((olq31.getD i Af).2).getD 3 0 : Int).toNat) 0) _)) ?_
     refine Bf rfl rfl (fun w43 e43 => ?_)
     have m43 := m39.ext e43
     refine Yz.mono (Zg m43 Rq) ?_
     rintro _ w44 ⟨b14, rfl, e44, m44⟩
     refine ⟨e44, ?_⟩
     refine Xd (fun w45 e45 => ?_)
     have m45 := m44.ext e45
     refine Zw (Qm (f := u32) (l := Jg Yg ((qK (X9 Vt k3 (Yf X8 key counter nonce)) i).getD ((((olq31.getD i Af).2).getD 0 0 : Int).toNat) 0) ((qK (X9 Vt k3 (Yf X8 key counter nonce)) i).getD ((((olq31.getD i Af).2).getD 1 0 : Int).toNat) 0) ((qK (X9 Vt k3 (Yf X8 key counter nonce)) i).getD ((((olq31.getD i Af).2).getD 2 0 : Int).toNat) 0) ((qK (X9 Vt k3 (Yf X8 key counter nonce)) i).getD ((((olq31.getD i Af).2).getD 3 0 : Int).toNat) 0)) Z5 Rq rfl rfl sL m45.h0 (by rw [Jk]; first | omega | (simp only [List.length_set, List.length_append, List.length_replicate, List.length_map, List.length_cons, List.length_nil]; omega) | (simp; done) | (simp; omega) | decide) rfl) ?_
     rintro _ w46 uq46
     have m46 := m45.upd0 uq46
     refine rN (Qg ?_)
     obtain ⟨q, hq⟩ : ∃ q, q = Jg Yg ((qK (X9 Vt k3 (Yf X8 key counter nonce)) i).getD ((((olq31.getD i Af).2).getD 0 0 : Int).toNat) 0) ((qK (X9 Vt k3 (Yf X8 key counter nonce)) i).getD ((((olq31.getD i Af).2).getD 1 0 : Int).toNat) 0) ((qK (X9 Vt k3 (Yf X8 key counter nonce)) i).getD ((((olq31.getD i Af).2).getD 2 0 : Int).toNat) 0) ((qK (X9 Vt k3 (Yf X8 key counter nonce)) i).getD ((((olq31.getD i Af).2).getD 3 0 : Int).toNat) 0) := ⟨_, rfl⟩
     have hqe : q = (Jg Yg ((qK (X9 Vt k3 (Yf X8 key counter nonce)) i).getD (oN i 0) 0) ((qK (X9 Vt k3 (Yf X8 key counter nonce)) i).getD (oN i 1) 0) ((qK (X9 Vt k3 (Yf X8 key counter nonce)) i).getD (oN i 2) 0) ((qK (X9 Vt k3 (Yf X8 key counter nonce)) i).getD (oN i 3) 0)) := by rw [hq]; simp only [hqn]
     have hq4 : q.length = 4 := by rw [hqe]; rfl
     have m47 : Mem w46 (Qy w0) ([(b14, .cells (cl u32 q) 167 (0, 0))] ++ (Hv2 ++ (Hk ++ (Hoq31 ++ ([]))))) := by rw [hq]; exact m46
     refine Qe <| Qa rfl (Qc (v := (i64 0)) rfl) ?_
     refine rN (Vq ?_)
     refine Yo (fun g wv => ∃ (j : Nat) (sv3 : Value) (Hv3 : List (Nat × Obj)), (j ≤ 4) ∧ (Zv u32 106 sv3 (setQ (qK (X9 Vt k3 (Yf X8 key counter nonce)) i) q i j) Hv3) ∧ g 0 = (agg u8 key) ∧ g 1 = (u32 counter) ∧ g 2 = (agg u8 nonce) ∧ g 3 = (ptr b3 0) ∧ g 5 = (ptr b5 0) ∧ g 6 = (Value.slice none 0 0) ∧ g 7 = sk ∧ g 8 = (i64 ((4 * k1 : Nat) : Int)) ∧ g 9 = (i64 ((4 * k2 : Nat) : Int)) ∧ g 10 = sv3 ∧ g 11 = rq31 ∧ g 12 = (i64 (k3 : Int)) ∧ g 13 = (i64 (i : Int)) ∧ g 14 = (ptr b14 0) ∧ g 15 = (i64 (j : Int)) ∧ g 21 = (bl (decide (((4 * k1 : Nat) : Int) < 32))) ∧ g 37 = (bl (decide (((4 * k2 : Nat) : Int) < 12))) ∧ g 53 = (bl (decide ((k3 : Int) < 10))) ∧ g 57 = (bl (decide ((i : Int) < 8))) ∧ Mem wv (Qy w0) (Hv3 ++ (Hk ++ (Hoq31 ++ ([(b14, .cells (cl u32 q) 167 (0, 0))]))))) (fun g wv => (4 - RowKit.intOf (g 15)).toNat) ?_ ?_
     have m48 := (Mem.pick3 [_] Hv2 Hk Hoq31 _ m47)
     have m49 := (Mem.pick3 Hoq31 [_] Hv2 Hk _ m48)
     have m50 := (Mem.pick3 Hk Hoq31 [_] Hv2 _ m49)
     ·exact ⟨0, sv2, Hv2, oM, (Zv.cast gv2 (setQ_0 _ _ _).symm), s0, s1, s2, s3, s5, s6, s7, s8, s9, s10, s11, s12, s13, rfl, rfl, s21, s37, s53, rfl, (by
      have hT := m50
      try simp only [List.append_assoc, List.cons_append, List.nil_append, List.append_nil] at hT ⊢
      exact hT)⟩
     rintro fr51 w52 ⟨j, sv3, Hv3, hj4, gv3, s0, s1, s2, s3, s5, s6, s7, s8, s9, s10, s11, s12, s13, s14, s15, s21, s37, s53, s57, m52⟩
     have z10 := s10
     have z15 := s15
     refine Qg (sR ?_)
     refine rM rfl s15 <| Qa rfl (Qs (b := 4) rfl rfl) <| rN ?_
     refine Xv rfl (fun hc53 => ?_) (fun hc53 => ?_)
     ·
      have hc53p := of_decide_eq_true hc53
      have hoj := hoi.2 j oM
      have hqj := hqn j
      have hsl := Qjk (qK (X9 Vt k3 (Yf X8 key counter nonce)) i) q i j
      refine Q7 (Qh (Qg (Qo ?_)))
      refine Xq (dl 11) 11 (by kernel_rfl) <| dM rfl rfl s10 <| dM rfl rfl s11 <| dM rfl rfl s13 <| Qj rfl rfl (fun _ _hx => Ym (i := (i : Int)) (hOq31 _ (fun q hq => ((m52.ext _hx)).own _ (List.mem_append_right _ (List.mem_append_right _ (List.mem_append_left _ hq))))).1 Qhe ti83 rfl rfl oM sL) <| Qj (v := (ilv (olq31.getD i Af))) rfl rfl (fun _ _hx => Fe (i := (i : Int)) (dflt := Af) (u := (ilv (olq31.getD i Af))) (hOq31 _ (fun q hq => ((m52.ext _hx)).own _ (List.mem_append_right _ (List.mem_append_right _ (List.mem_append_left _ hq))))).1 sL Qag rfl rfl (by decide) rfl) <| dM rfl rfl s15 <| Qj rfl rfl (fun _ _hx => Xa (Qb3 (hOq31 _ (fun q hq => ((m52.ext _hx)).own _ (List.mem_append_right _ (List.mem_append_right _ (List.mem_append_left _ hq))))) (i := i) sD) Qag Dy rfl rfl oM sL) <| Qj (v := (i64 (((olq31.getD i Af).2).getD j 0))) rfl rfl (fun _ _hx => Yc (l := (olq31.getD i Af).2) (i := (j : Int)) (dflt := 0) (Qb3 (hOq31 _ (fun q hq => ((m52.ext _hx)).own _ (List.mem_append_right _ (List.mem_append_right _ (List.mem_append_left _ hq))))) (i := i) sD) Fj rfl oM sL rfl) <| dM rfl rfl s15 <| Qj rfl rfl (fun _ _hx => Qd (r := j) oM Vh Zh s14 rfl oM sL) <| Qj rfl rfl (fun _ _hx => Qn Xk rfl rfl ((Mem.pick3 Hv3 Hk Hoq31 [_] _ (m52.ext _hx))).h0 (Qx _ _ 0 sL)) ?_
      refine Xd (fun w54 e54 => ?_)
      have m54 := m52.ext e54
      refine Qa rfl (Xa (gv3.rd m54) Df Zh rfl rfl oM sL) <| Zw (Qg2 (Hs := Hv3) (H := Hk ++ (Hoq31 ++ ([_]))) (i := ((olq31.getD i Af).2).getD j 0) (a := q.getD j 0) m54 gv3 Z5 Zh oM sL rfl rfl) ?_
      rintro _ w55 ⟨Hs55, m55, g55⟩
      replace g55 : Zv u32 106 sv3 ((setQ (qK (X9 Vt k3 (Yf X8 key counter nonce)) i) q i j).set ((((olq31.getD i Af).2).getD j 0 : Int).toNat) (q.getD j 0)) Hs55 := g55
      refine Zr (Qi (Qe ?_))
      refine rM rfl s15 <| Qa rfl (Qk (b := 1) rfl rfl oM oM) <| Qa rfl (Qc (v := (i64 ((j : Int) + 1))) rfl) <| rN ?_
      exact ⟨⟨(j + 1), sv3, Hs55, oM, (Zv.cast g55 (by rw [hqn, setQ_S])), s0, s1, s2, s3, s5, s6, s7, s8, s9, s10, s11, s12, s13, s14, rfl, s21, s37, s53, s57, m55⟩, Gl rfl z15 oM oM⟩
     ·
      have hc53p := of_decide_eq_false hc53
      refine X0 ?_
      refine Qr (Qr (Xf ?_))
      refine Qi (Qe ?_)
      refine rM rfl s13 <| Qa rfl (Qk (b := 1) rfl rfl oM oM) <| Qa rfl (Qc (v := (i64 ((i : Int) + 1))) rfl) <| rN ?_
      have m56 := Mem.drop [_] _ (Mem.pick3 Hv3 Hk Hoq31 [_] _ m52)
      exact ⟨⟨(i + 1), sv3, Hv3, oM, (Zv.cast gv3 (by rw [show j = 4 by omega]; exact qK_S hqe)), s0, s1, s2, s3, s5, s6, s7, s8, s9, s10, s11, s12, rfl, s21, s37, s53, m56⟩, Gl rfl z13 oM oM⟩
    ·
     have hc40p := of_decide_eq_false hc40
     refine X0 ?_
     refine Qr (Qr (Xf ?_))
     refine Qi (Qe ?_)
     refine rM rfl s12 <| Qa rfl (Qk (b := 1) rfl rfl oM oM) <| Qa rfl (Qc (v := (i64 ((k3 : Int) + 1))) rfl) <| rN ?_
     exact ⟨⟨(k3 + 1), sv2, Hv2, oM, (Zv.cast gv2 (by rw [show i = 8 by omega, Qnj])), s0, s1, s2, s3, s5, s6, s7, s8, s9, s10, s11, rfl, s21, s37, m39⟩, Gl rfl z12 oM oM⟩
   ·
    have hc37p := of_decide_eq_false hc37
    refine X0 ?_
    refine Qr (Qr (Xf ?_))
    refine Qg ?_
    have gF57 : Zv u32 106 sv (X9 Vt 10 (Yf X8 key counter nonce)) Hv := Zv.cast gv (by rw [show k3 = 10 by omega])
    have hrl := Nc 10 (Yf X8 key counter nonce) (Qdp _ _ _)
    refine Qe <| Za rfl (Ql u8 [] Qu m36 Zi X6 rfl (by simp [Jo]) rfl) ?_
    rintro _ w58 ⟨b114, rfl, e58, m58⟩
    refine Qa rfl (Qc (v := (Ko b114 0 0 0)) rfl) ?_
    refine rN (Qg (sR ?_))
    refine Qa rfl (Qc (v := (i64 0)) rfl) ?_
    refine rN (Qo ?_)
    refine Yo (fun g wv => ∃ (k4 : Nat) (so : Value) (Ho4 : List (Nat × Obj)), (k4 ≤ 16) ∧ (Zv u8 5 so ((List.range k4).flatMap (Fz (X9 Vt 10 (Yf X8 key counter nonce)) (Yf X8 key counter nonce))) Ho4) ∧ g 0 = (agg u8 key) ∧ g 1 = (u32 counter) ∧ g 2 = (agg u8 nonce) ∧ g 3 = (ptr b3 0) ∧ g 5 = (ptr b5 0) ∧ g 6 = (Value.slice none 0 0) ∧ g 7 = sk ∧ g 8 = (i64 ((4 * k1 : Nat) : Int)) ∧ g 9 = (i64 ((4 * k2 : Nat) : Int)) ∧ g 10 = sv ∧ g 11 = rq31 ∧ g 12 = (i64 (k3 : Int)) ∧ g 16 = so ∧ g 17 = (i64 (k4 : Int)) ∧ g 21 = (bl (decide (((4 * k1 : Nat) : Int) < 32))) ∧ g 37 = (bl (decide (((4 * k2 : Nat) : Int) < 12))) ∧ g 53 = (bl (decide ((k3 : Int) < 10))) ∧ Mem wv (Qy w0) (Ho4 ++ (Hv ++ (Hk ++ ([]))))) (fun g wv => (16 - RowKit.intOf (g 17)).toNat) ?_ ?_
    have m59 := Mem.drop Hoq31 _ (Mem.pick3 [_] Hv Hk Hoq31 _ m58)
    ·exact ⟨0, (Ko b114 0 0 0), [(b114, .cells (cl u8 ([])) 5 (0, 0))], oM, (Zv.of u8 5 b114 []), s0, s1, s2, s3, s5, s6, s7, s8, s9, s10, s11, s12, rfl, rfl, s21, s37, rfl, (by
     have hT := m59
     try simp only [List.append_assoc, List.cons_append, List.nil_append, List.append_nil] at hT ⊢
     exact hT)⟩
    rintro fr60 w61 ⟨k4, so, Ho4, hk4, gro, s0, s1, s2, s3, s5, s6, s7, s8, s9, s10, s11, s12, s16, s17, s21, s37, s53, m61⟩
    have z17 := s17
    have z16 := s16
    have hol := Eu (X9 Vt 10 (Yf X8 key counter nonce)) (Yf X8 key counter nonce) k4
    have hfl : (Yf X8 key counter nonce).length = 16 := Qdp _ _ _
    refine Qg (sR ?_)
    refine rM rfl s17 <| Qa rfl (Qs (b := 16) rfl rfl) <| rN ?_
    refine Xv rfl (fun hc62 => ?_) (fun hc62 => ?_)
    ·
     have hc62p := of_decide_eq_true hc62
     refine Q7 (Qh (Qg (Qo (Qg ?_))))
     refine Xq (dl 8) 8 (by kernel_rfl) <| dM rfl rfl s10 <| dM rfl rfl s17 <| Qj rfl rfl (fun _ _hx => Xa (gF57.rd (Mem.pick Ho4 Hv _ (m61.ext _hx))) Df Zh rfl rfl oM sL) <| Qj (v := (u32 ((X9 Vt 10 (Yf X8 key counter nonce)).getD k4 0))) rfl rfl (fun _ _hx => Yc (l := (X9 Vt 10 (Yf X8 key counter nonce))) (i := (k4 : Int)) (dflt := 0) (gF57.rd (Mem.pick Ho4 Hv _ (m61.ext _hx))) Xk rfl oM sL rfl) <| dM rfl rfl s7 <| dM rfl rfl s17 <| Qj rfl rfl (fun _ _hx => Xa (gF27.rd (Mem.pick2 Ho4 Hv Hk _ (m61.ext _hx))) Df Zh rfl rfl oM sL) <| Qj (v := (u32 ((Yf X8 key counter nonce).getD k4 0))) rfl rfl (fun _ _hx => Yc (l := (Yf X8 key counter nonce)) (i := (k4 : Int)) (dflt := 0) (gF27.rd (Mem.pick2 Ho4 Hv Hk _ (m61.ext _hx))) Xk rfl oM sL rfl) ?_
     refine Xd (fun w63 e63 => ?_)
     have m63 := m61.ext e63
     refine Qa rfl (Xp rfl rfl) <| rA rfl rfl ?_
     refine rN (Qe ?_)
     refine rM rfl s16 <| rM rfl rfl <| Qa rfl (Ua ⟨_, Xk⟩ Vm rfl) <| rM rfl rfl <| Qa rfl (V8 (b := 8) rfl rfl oM) <| Qa rfl (Ua ⟨_, Xk⟩ Vm rfl) <| rM rfl rfl <| Qa rfl (V8 (b := 16) rfl rfl oM) <| Qa rfl (Ua ⟨_, Xk⟩ Vm rfl) <| rM rfl rfl <| Qa rfl (V8 (b := 24) rfl rfl oM) <| Qa rfl (Ua ⟨_, Xk⟩ Vm rfl) ?_
     refine Za rfl (Ql u8 [(((X9 Vt 10 (Yf X8 key counter nonce)).getD k4 0) + ((Yf X8 key counter nonce).getD k4 0)).setWidth 8, ((((X9 Vt 10 (Yf X8 key counter nonce)).getD k4 0) + ((Yf X8 key counter nonce).getD k4 0)) >>> 8).setWidth 8, ((((X9 Vt 10 (Yf X8 key counter nonce)).getD k4 0) + ((Yf X8 key counter nonce).getD k4 0)) >>> 16).setWidth 8, ((((X9 Vt 10 (Yf X8 key counter nonce)).getD k4 0) + ((Yf X8 key counter nonce).getD k4 0)) >>> 24).setWidth 8] Qu m63 Zi X6 rfl rfl rfl) ?_
     rintro _ w64 ⟨b140, rfl, e64, m64⟩
     refine Za rfl (Zk (f := u8) (Hs := Ho4) (H := [_] ++ (Hv ++ (Hk ++ ([])))) (Mem.pick [_] Ho4 _ m64) gro rfl rfl (Rd.mkA m64.h0) Zi Zi X6 rfl Qu sL sL) ?_
     rintro sv65 w65 ⟨Hs65, m65, g65⟩
     replace g65 : Zv u8 5 sv65 (((List.range k4).flatMap (Fz (X9 Vt 10 (Yf X8 key counter nonce)) (Yf X8 key counter nonce))) ++ ([(((X9 Vt 10 (Yf X8 key counter nonce)).getD k4 0) + ((Yf X8 key counter nonce).getD k4 0)).setWidth 8, ((((X9 Vt 10 (Yf X8 key counter nonce)).getD k4 0) + ((Yf X8 key counter nonce).getD k4 0)) >>> 8).setWidth 8, ((((X9 Vt 10 (Yf X8 key counter nonce)).getD k4 0) + ((Yf X8 key counter nonce).getD k4 0)) >>> 16).setWidth 8, ((((X9 Vt 10 (Yf X8 key counter nonce)).getD k4 0) + ((Yf X8 key counter nonce).getD k4 0)) >>> 24).setWidth 8])) Hs65 := g65
     refine rA rfl (v := sv65) rfl ?_
     refine Zr (Qi ?_)
     have m66 := Mem.drop [_] _ (Mem.pick Hs65 [_] _ m65)
     refine Qe <| rM rfl s17 <| Qa rfl (Qk (b := 1) rfl rfl oM oM) <| Qa rfl (Qc (v := (i64 ((k4 : Int) + 1))) rfl) <| rN ?_
     exact ⟨⟨(k4 + 1), sv65, Hs65, oM, (Zv.cast g65 (by rw [Qap]; rfl)), s0, s1, s2, s3, s5, s6, s7, s8, s9, s10, s11, s12, rfl, rfl, s21, s37, s53, m66⟩, Gl rfl z17 oM oM⟩
    ·
     have hc62p := of_decide_eq_false hc62
     refine X0 ?_
     refine Qr (Qr (Xf ?_))
     refine sR <| rM rfl s16 <| rA rfl (v := so) rfl ?_
     refine rN (Xt ?_)
     refine Ze [so] ⟨rfl, trivial⟩ ?_
     have m67 := Mem.drop Hv _ (Mem.pick Ho4 Hv _ m61)
     have m68 := Mem.drop Hk _ (Mem.pick Ho4 Hk _ m67)
     exact ⟨Ho4, Zv.cast gro (by rw [show k4 = 16 by omega]; rfl), by simpa using m68⟩
end Go.Proofs.YtkmiemlpfkfiiaaDoor
