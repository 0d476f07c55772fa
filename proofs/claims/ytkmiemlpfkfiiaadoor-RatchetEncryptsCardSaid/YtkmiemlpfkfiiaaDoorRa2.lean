/- The ratchet: numbers, headers, copies. Conditions: none beyond those that each theorem states. -/
import Derived.Test.YtkmiemlpfkfiiaaDoorRa1
namespace Go.Proofs.YtkmiemlpfkfiiaaDoor
set_option linter.unusedVariables false
set_option linter.unusedSimpArgs false
def Qak (n : Int) : List (BitVec 8) := [BitVec.ofInt 8 (n / 16777216), BitVec.ofInt 8 (n / 65536), BitVec.ofInt 8 (n / 256), BitVec.ofInt 8 n]
@[simp] theorem num4_len (n : Int) : (Qak n).length = 4 := rfl
def G7 (c : List (BitVec 8)) (p n : Int) : List (BitVec 8) := (c ++ Qak p) ++ Qak n
theorem Qbj {c : List (BitVec 8)} {p n : Int} (h : c.length = 32) : (G7 c p n).length = 40 := by simp [G7, num4_len, h]
def Ea (k a b : Nat) : Bool := decide (100 < (k : Int)) || (decide (500 < (a : Int)) || decide (1000 < (b : Int)))
set_option maxHeartbeats 2000000 in
theorem c_put4 (vo : Value) (lo : List (BitVec 8)) (Ho : List (Nat × Obj)) (n : Int) (w0 : World) (R : Rest) (m0 : Mem w0 R (Ho ++ ([]))) (go : Zv u8 5 vo lo Ho) (hlo : lo.length ≤ 1048576) (hn0 : 0 ≤ n ∧ n ≤ 2147483647) : Xz Tryd.prog 44 #[vo, (i64 n)] w0 (fun r w1 => ∃ Hs, Zv u8 5 r (lo ++ Qak n) Hs ∧ Mem w1 R Hs) := by
 refine Zd (args := [vo, (i64 n)]) Tryd.func44 rfl Tryd.ntmps44 Tryd.results44 rfl <| sR <| Qa rfl (Qc (v := (Value.slice none 0 0)) rfl) ?_
 refine rN (sR ?_)
 refine rM rfl (v := vo) rfl <| Qa rfl (Qb (v := (i64 n)) rfl) <| Qa rfl (En (p := 16777216) (b := 24) rfl rfl rfl (by decide) (by decide)) <| Qa rfl (Wn ⟨_, Fj⟩ Vm rfl) <| Qa rfl (Qb (v := (i64 n)) rfl) <| Qa rfl (En (p := 65536) (b := 16) rfl rfl rfl (by decide) (by decide)) <| Qa rfl (Wn ⟨_, Fj⟩ Vm rfl) <| Qa rfl (Qb (v := (i64 n)) rfl) <| Qa rfl (En (p := 256) (b := 8) rfl rfl rfl (by decide) (by decide)) <| Qa rfl (Wn ⟨_, Fj⟩ Vm rfl) <| Qa rfl (Qb (v := (i64 n)) rfl) <| Qa rfl (Wn ⟨_, Fj⟩ Vm rfl) ?_
 refine Za rfl (Ql u8 [BitVec.ofInt 8 (n / 16777216), BitVec.ofInt 8 (n / 65536), BitVec.ofInt 8 (n / 256), BitVec.ofInt 8 n] Qu m0 Zi X6 rfl rfl rfl) ?_
 rintro _ w1 ⟨b17, rfl, e1, m1⟩
 refine Za rfl (Zk (f := u8) (Hs := Ho) (H := [_]) (Mem.pick [_] Ho _ m1) go rfl rfl (Rd.mkA m1.h0) Zi Zi X6 rfl Qu sL sL) ?_
 rintro sv2 w2 ⟨Hs2, m2, g2⟩
 replace g2 : Zv u8 5 sv2 (lo ++ ([BitVec.ofInt 8 (n / 16777216), BitVec.ofInt 8 (n / 65536), BitVec.ofInt 8 (n / 256), BitVec.ofInt 8 n])) Hs2 := g2
 refine rA rfl (v := sv2) rfl ?_
 refine rN (Xt ?_)
 refine Ze [sv2] ⟨rfl, trivial⟩ ?_
 have m3 := Mem.drop [_] _ (Mem.pick Hs2 [_] _ m2)
 exact ⟨Hs2, Zv.cast g2 rfl, (by
  have hT := m3
  try simp only [List.append_assoc, List.cons_append, List.nil_append, List.append_nil] at hT ⊢
  exact hT)⟩
set_option maxHeartbeats 2000000 in
theorem c_num4 (vo : Value) (lo : List (BitVec 8)) (Ho : List (Nat × Obj)) (n : Int) (w0 : World) (R : Rest) (m0 : Mem w0 R (Ho ++ ([]))) (go : Zv u8 5 vo lo Ho) (hlo : lo.length ≤ 1048576) (hn0 : 0 ≤ n ∧ n ≤ 2147483647) : Xz Tryd.prog 45 #[vo, (i64 n)] w0 (fun r w1 => ∃ Hs, Zv u8 5 r (lo ++ Qak n) Hs ∧ Mem w1 R Hs) := by
 refine Zd (args := [vo, (i64 n)]) Tryd.func45 rfl Tryd.ntmps45 Tryd.results45 rfl <| sR <| Qa rfl (Qc (v := (Value.slice none 0 0)) rfl) ?_
 refine rN (sR ?_)
 refine rM rfl (v := vo) rfl <| Qa rfl (Qb (v := (i64 n)) rfl) <| Qa rfl (Wy (b := 16777216) rfl rfl oM oM oM) <| Qa rfl (Wn ⟨_, Fj⟩ Vm rfl) <| Qa rfl (Qb (v := (i64 n)) rfl) <| Qa rfl (Wy (b := 65536) rfl rfl oM oM oM) <| Qa rfl (Wn ⟨_, Fj⟩ Vm rfl) <| Qa rfl (Qb (v := (i64 n)) rfl) <| Qa rfl (Wy (b := 256) rfl rfl oM oM oM) <| Qa rfl (Wn ⟨_, Fj⟩ Vm rfl) <| Qa rfl (Qb (v := (i64 n)) rfl) <| Qa rfl (Wn ⟨_, Fj⟩ Vm rfl) ?_
 refine Za rfl (Ql u8 [BitVec.ofInt 8 (n / 16777216), BitVec.ofInt 8 (n / 65536), BitVec.ofInt 8 (n / 256), BitVec.ofInt 8 n] Qu m0 Zi X6 rfl rfl rfl) ?_
 rintro _ w1 ⟨b17, rfl, e1, m1⟩
 refine Za rfl (Zk (f := u8) (Hs := Ho) (H := [_]) (Mem.pick [_] Ho _ m1) go rfl rfl (Rd.mkA m1.h0) Zi Zi X6 rfl Qu sL sL) ?_
 rintro sv2 w2 ⟨Hs2, m2, g2⟩
 replace g2 : Zv u8 5 sv2 (lo ++ ([BitVec.ofInt 8 (n / 16777216), BitVec.ofInt 8 (n / 65536), BitVec.ofInt 8 (n / 256), BitVec.ofInt 8 n])) Hs2 := g2
 refine rA rfl (v := sv2) rfl ?_
 refine rN (Xt ?_)
 refine Ze [sv2] ⟨rfl, trivial⟩ ?_
 have m3 := Mem.drop [_] _ (Mem.pick Hs2 [_] _ m2)
 exact ⟨Hs2, Zv.cast g2 rfl, (by
  have hT := m3
  try simp only [List.append_assoc, List.cons_append, List.nil_append, List.append_nil] at hT ⊢
  exact hT)⟩
set_option maxHeartbeats 2000000 in
theorem Qoo (ra wa oa : List (BitVec 8)) (sb tb : Bool) (sa ta : List (BitVec 8)) (n1 n2 n3 : Int) (vk : Value) (ks : List Kp) (va : Value) (la : List (BitVec 8)) (vc : Value) (lc : List (BitVec 8)) (w0 : World)  (hl : ra.length = 32 ∧ wa.length = 32 ∧ oa.length = 32 ∧ sa.length = 32 ∧ ta.length = 32) (hk : RdK (Yq w0) J9 65 vk ks) (hn : ks.length ≤ 9223372036854775807) (hra : Rd (Yq w0) u8 va la) (hrc : Rd (Yq w0) u8 vc lc) (hla : la.length ≤ 9223372036854775807) (hlc : lc.length ≤ 9223372036854775807) : Xz Tryd.prog 10 #[(Value.agg (Zl (sE ra wa oa sb tb sa ta n1 n2 n3 vk))), va, vc] w0 (fun r w1 => r = (bl (Ea ks.length la.length lc.length)) ∧ Ext w0 w1) := by
 refine Zd (args := [(Value.agg (Zl (sE ra wa oa sb tb sa ta n1 n2 n3 vk))), va, vc]) Tryd.func10 rfl Tryd.ntmps10 Tryd.results10 rfl ?_
 have m0 : Mem w0 (Qy w0) [] := Mem.of_world w0
 obtain ⟨hl1, hl2, hl3, hl4, hl5⟩ := hl
 refine sR <| Za rfl (Gx (cs := (Zl (sE ra wa oa sb tb sa ta n1 n2 n3 vk))) m0 rfl) ?_
 rintro _ w1 ⟨b3, rfl, e1, m1⟩
 refine Qa rfl (Qc (v := (bl false)) rfl) ?_
 refine rN (sR ?_)
 refine Qa rfl (Xi (r := 165) Yu rfl (by first | rfl | omega) Qbu rfl rfl) <| Qa rfl (Y7 10 Dl rfl m1.h0 rfl) <| Qa rfl (L8 (RdK.ofRest hk m1) Dl rfl) <| Qa rfl (W9 (b := 100) rfl rfl) <| Qa rfl (Qb (v := (bl (decide (100 < (ks.length : Int))))) rfl) ?_
 rcases Bool.eq_false_or_eq_true (decide (100 < (ks.length : Int))) with hb2 | hb2
 ·
  have hb2p := of_decide_eq_true hb2
  refine Yd (s := 11) rfl rfl hb2 rfl <| Yd (s := 11) rfl rfl hb2 rfl <| Yd (s := 11) rfl rfl hb2 rfl <| Qa rfl (Jd rfl hb2 rfl) <| Qa rfl (Qb (v := (bl true)) rfl) <| Yd (s := 16) rfl rfl rfl rfl <| Yd (s := 16) rfl rfl rfl rfl <| Yd (s := 16) rfl rfl rfl rfl <| Qa rfl (Ai rfl rfl) <| Qa rfl (Qc (v := (bl true)) rfl) ?_
  refine rN (Xt ?_)
  refine Ze [(bl true)] ⟨rfl, trivial⟩ ?_
  exact ⟨congrArg bl (by unfold Ea; revert hb2; generalize decide (100 < (ks.length : Int)) = b0; generalize decide (500 < (la.length : Int)) = b1; generalize decide (1000 < (lc.length : Int)) = b2; revert b0 b1 b2; decide), m1.toExt⟩
 ·
  have hb2p := of_decide_eq_false hb2
  refine Zt (s := 11) rfl rfl hb2 rfl (Qb (v := va) rfl) <| Zt (s := 11) rfl rfl hb2 rfl (Ye (Rd.ofRest hra m1) Zi rfl) <| Zt (s := 11) rfl rfl hb2 rfl (W9 (b := 500) rfl rfl) <| Qa rfl (Yn rfl hb2 rfl) <| Qa rfl (Qb (v := (bl (decide (500 < (la.length : Int))))) rfl) ?_
  rcases Bool.eq_false_or_eq_true (decide (500 < (la.length : Int))) with hb3 | hb3
  ·
   have hb3p := of_decide_eq_true hb3
   refine Yd (s := 16) rfl rfl hb3 rfl <| Yd (s := 16) rfl rfl hb3 rfl <| Yd (s := 16) rfl rfl hb3 rfl <| Qa rfl (Jd rfl hb3 rfl) <| Qa rfl (Qc (v := (bl true)) rfl) ?_
   refine rN (Xt ?_)
   refine Ze [(bl true)] ⟨rfl, trivial⟩ ?_
   exact ⟨congrArg bl (by unfold Ea; revert hb2 hb3; generalize decide (100 < (ks.length : Int)) = b0; generalize decide (500 < (la.length : Int)) = b1; generalize decide (1000 < (lc.length : Int)) = b2; revert b0 b1 b2; decide), m1.toExt⟩
  ·
   have hb3p := of_decide_eq_false hb3
   refine Zt (s := 16) rfl rfl hb3 rfl (Qb (v := vc) rfl) <| Zt (s := 16) rfl rfl hb3 rfl (Ye (Rd.ofRest hrc m1) Zi rfl) <| Zt (s := 16) rfl rfl hb3 rfl (W9 (b := 1000) rfl rfl) <| Qa rfl (Yn rfl hb3 rfl) <| Qa rfl (Qc (v := (bl (decide (1000 < (lc.length : Int))))) rfl) ?_
   refine rN (Xt ?_)
   refine Ze [(bl (decide (1000 < (lc.length : Int))))] ⟨rfl, trivial⟩ ?_
   exact ⟨congrArg bl (by unfold Ea; revert hb2 hb3; generalize decide (100 < (ks.length : Int)) = b0; generalize decide (500 < (la.length : Int)) = b1; generalize decide (1000 < (lc.length : Int)) = b2; revert b0 b1 b2; decide), m1.toExt⟩
set_option maxHeartbeats 2000000 in
theorem c_header (c : List (BitVec 8)) (p n : Int) (w0 : World)  (hc : c.length = 32) (hp : 0 ≤ p ∧ p ≤ 2147483647) (hn : 0 ≤ n ∧ n ≤ 2147483647) : Xz Tryd.prog 30 #[(Value.agg (Zl (sH c p n)))] w0 (fun r w1 => ∃ Hs, Zv u8 5 r (G7 c p n) Hs ∧ Mem w1 (Qy w0) Hs) := by
 refine Zd (args := [(Value.agg (Zl (sH c p n)))]) Tryd.func30 rfl Tryd.ntmps30 Tryd.results30 rfl ?_
 have m0 : Mem w0 (Qy w0) [] := Mem.of_world w0
 refine sR <| Za rfl (Gx (cs := (Zl (sH c p n))) m0 rfl) ?_
 rintro _ w1 ⟨b1, rfl, e1, m1⟩
 refine Qa rfl (Qc (v := (Value.slice none 0 0)) rfl) ?_
 refine rN (Qg ?_)
 refine Jz (by kernel_rfl) ?_
 have hFM2 : Mem w1 (Qy w0) ([] ++ [(b1, .cells (Zl (sH c p n)) 53 (0, 0))]) := m1
 obtain ⟨RM2, hRM2⟩ : ∃ R2, R2 = Rest.add (Qy w0) [(b1, .cells (Zl (sH c p n)) 53 (0, 0))] := ⟨_, rfl⟩
 have M20 : Mem w1 RM2 [] := by rw [hRM2]; exact Mem.give hFM2
 have ho3 : RM2.blk b1 = some (.cells (Zl (sH c p n)) 53 (0, 0)) := by rw [hRM2]; exact Mem.addOwn hFM2 (List.Mem.head _)
 refine Ju M20 [(0, false), (1, false), (3, false), (4, false), (6, false), (7, false), (2, true), (5, true)] 8 rfl (by kernel_rfl) <| Xu rfl rfl (fun w _H _hx => Xi (r := 0) uT53 rfl (by first | rfl | omega) Z9 rfl rfl) <| Xu rfl rfl (fun w _H _hx => Xj (i := 0) (j := 32) X3 X6 rfl (Zy _ _) (Zy _ _) oM sL sL) <| Xu rfl rfl (fun w _H _hx => Xi (r := 32) uT53 rfl (by first | rfl | omega) Dy rfl rfl) <| Xu rfl rfl (fun w _H _hx => Y7 1 Fj rfl (_hx.rest _ _ ho3) rfl) <| Xu rfl rfl (fun w _H _hx => Xi (r := 33) uT53 rfl (by first | rfl | omega) Dy rfl rfl) <| Xu rfl rfl (fun w _H _hx => Y7 2 Fj rfl (_hx.rest _ _ ho3) rfl) ?_
 refine Y5 rfl rfl (fun w4 e4 => ?_)
 have m4 := M20.ext e4
 refine Yz.mono (oc34 (Jj rfl) (Qdn (sla b1 0 1 0 32 32) c _ (Rd.sgA 0 (m4.rest _ _ ho3) rfl) sL)) ?_
 rintro rq6 w5 ⟨Hsq6, grq6, k_w5⟩
 have m5 : Mem _ _ (Hsq6 ++ ([])) := Mem.new (H := []) (H' := Hsq6) m4 k_w5
 refine ⟨⟨_, m5⟩, ?_⟩
 refine Y5 rfl rfl (fun w7 e7 => ?_)
 have m7 := m5.ext e7
 have hF9 : Mem w7 RM2 ((Hsq6 ++ ([])) ++ ([])) := by
  have hT := m7
  try simp only [List.append_assoc, List.cons_append, List.nil_append, List.append_nil] at hT ⊢
  exact hT
 refine Yz.mono (oc44 (Xr rfl rfl) (c_put4 rq6 c Hsq6 p _ _ (Mem.give hF9) grq6 sL sL)) ?_
 rintro rq10 w8 ⟨Hsq10, grq10, k_w8⟩
 have m8 : Mem w8 RM2 (Hsq10 ++ ([])) := (by
  have hT := Mem.back hF9 k_w8
  try simp only [List.append_assoc, List.cons_append, List.nil_append, List.append_nil] at hT ⊢
  exact hT)
 refine ⟨⟨_, m8⟩, ?_⟩
 refine Xd (fun w11 e11 => ?_)
 have m11 := m8.ext e11
 have hX12 := m11
 rw [hRM2] at hX12
 have m13 : Mem w11 (Qy w0) (Hsq10 ++ ([(b1, .cells (Zl (sH c p n)) 53 (0, 0))])) := (by
  have hT := Mem.back hFM2 hX12
  try simp only [List.append_assoc, List.cons_append, List.nil_append, List.append_nil] at hT ⊢
  exact hT)
 have hF15 : Mem w11 (Qy w0) ((Hsq10 ++ ([])) ++ ([(b1, .cells (Zl (sH c p n)) 53 (0, 0))])) := by
  have hT := m13
  try simp only [List.append_assoc, List.cons_append, List.nil_append, List.append_nil] at hT ⊢
  exact hT
 refine Za rfl (oc44 (Xr rfl rfl) (c_put4 rq10 (c ++ Qak p) Hsq10 n _ _ (Mem.give hF15) grq10 sL sL)) ?_
 rintro rq16 w14 ⟨Hsq16, grq16, k_w14⟩
 have m14 : Mem w14 (Qy w0) (Hsq16 ++ ([(b1, .cells (Zl (sH c p n)) 53 (0, 0))])) := (by
  have hT := Mem.back hF15 k_w14
  try simp only [List.append_assoc, List.cons_append, List.nil_append, List.append_nil] at hT ⊢
  exact hT)
 refine rA rfl (v := rq16) rfl ?_
 refine rN (Xt ?_)
 refine Ze [rq16] ⟨rfl, trivial⟩ ?_
 have m17 := Mem.drop [_] _ (Mem.pick Hsq16 [_] _ m14)
 exact ⟨Hsq16, Zv.cast grq16 (by simp [G7]), (by
  have hT := m17
  try simp only [List.append_assoc, List.cons_append, List.nil_append, List.append_nil] at hT ⊢
  exact hT)⟩
set_option maxHeartbeats 2000000 in
theorem Qok (c : List (BitVec 8)) (p n : Int) (w0 : World)  (hc : c.length = 32) (hp : 0 ≤ p ∧ p ≤ 2147483647) (hn : 0 ≤ n ∧ n ≤ 2147483647) : Xz Tryd.prog 35 #[(Value.agg (Zl (sH c p n)))] w0 (fun r w1 => ∃ Hs, Zv u8 5 r (G7 c p n) Hs ∧ Mem w1 (Qy w0) Hs) := by
 refine Zd (args := [(Value.agg (Zl (sH c p n)))]) Tryd.func35 rfl Tryd.ntmps35 Tryd.results35 rfl ?_
 have m0 : Mem w0 (Qy w0) [] := Mem.of_world w0
 refine sR <| Za rfl (Gx (cs := (Zl (sH c p n))) m0 rfl) ?_
 rintro _ w1 ⟨b1, rfl, e1, m1⟩
 refine Qa rfl (Qc (v := (Value.slice none 0 0)) rfl) ?_
 refine rN (sR ?_)
 refine Za rfl (Ql u8 [] Qu m1 Zi X6 rfl (by simp [Jo]) rfl) ?_
 rintro _ w2 ⟨b4, rfl, e2, m2⟩
 refine Qa rfl (Xi (r := 0) uT53 rfl (by first | rfl | omega) Z9 rfl rfl) <| Qa rfl (Xj (i := 0) (j := 32) X3 X6 rfl (Zy _ _) (Zy _ _) oM sL sL) <| Za rfl (Zk (f := u8) (Hs := [(b4, .cells (cl u8 ([])) 5 (0, 0))]) (H := [_]) m2 (Zv.of u8 5 b4 ([])) rfl rfl (Rd.sgA 0 m2.h1 rfl) Zi Zi X6 rfl Qu sL sL) ?_
 rintro sv3 w3 ⟨Hs3, m3, g3⟩
 replace g3 : Zv u8 5 sv3 c Hs3 := g3
 refine rA rfl (v := sv3) rfl ?_
 refine rN (Qg ?_)
 refine Jz (by kernel_rfl) ?_
 have hFM4 : Mem w3 (Qy w0) ((Hs3 ++ ([])) ++ [(b1, .cells (Zl (sH c p n)) 53 (0, 0))]) := (by
  have hT := m3
  try simp only [List.append_assoc, List.cons_append, List.nil_append, List.append_nil] at hT ⊢
  exact hT)
 obtain ⟨RM4, hRM4⟩ : ∃ R2, R2 = Rest.add (Qy w0) [(b1, .cells (Zl (sH c p n)) 53 (0, 0))] := ⟨_, rfl⟩
 have M40 : Mem w3 RM4 (Hs3 ++ ([])) := by rw [hRM4]; exact Mem.give hFM4
 have ho5 : RM4.blk b1 = some (.cells (Zl (sH c p n)) 53 (0, 0)) := by rw [hRM4]; exact Mem.addOwn hFM4 (List.Mem.head _)
 refine Ju M40 [(0, false), (1, false), (2, false), (4, false), (5, false), (3, true)] 6 rfl (by kernel_rfl) <| Xu rfl rfl (fun w _H _hx => Qb (v := sv3) rfl) <| Xu rfl rfl (fun w _H _hx => Xi (r := 32) uT53 rfl (by first | rfl | omega) Dy rfl rfl) <| Xu rfl rfl (fun w _H _hx => Y7 1 Fj rfl (_hx.rest _ _ ho5) rfl) <| Xu rfl rfl (fun w _H _hx => Xi (r := 33) uT53 rfl (by first | rfl | omega) Dy rfl rfl) <| Xu rfl rfl (fun w _H _hx => Y7 2 Fj rfl (_hx.rest _ _ ho5) rfl) ?_
 refine Y5 rfl rfl (fun w6 e6 => ?_)
 have m6 := M40.ext e6
 have hF8 : Mem w6 RM4 ((Hs3 ++ ([])) ++ ([])) := by
  have hT := m6
  try simp only [List.append_assoc, List.cons_append, List.nil_append, List.append_nil] at hT ⊢
  exact hT
 refine Yz.mono (oc45 (Xr rfl rfl) (c_num4 sv3 c Hs3 p _ _ (Mem.give hF8) g3 sL sL)) ?_
 rintro rq9 w7 ⟨Hsq9, grq9, k_w7⟩
 have m7 : Mem w7 RM4 (Hsq9 ++ ([])) := (by
  have hT := Mem.back hF8 k_w7
  try simp only [List.append_assoc, List.cons_append, List.nil_append, List.append_nil] at hT ⊢
  exact hT)
 refine ⟨⟨_, m7⟩, ?_⟩
 refine Xd (fun w10 e10 => ?_)
 have m10 := m7.ext e10
 have hX11 := m10
 rw [hRM4] at hX11
 have m12 : Mem w10 (Qy w0) (Hsq9 ++ ([(b1, .cells (Zl (sH c p n)) 53 (0, 0))])) := (by
  have hT := Mem.back hFM4 hX11
  try simp only [List.append_assoc, List.cons_append, List.nil_append, List.append_nil] at hT ⊢
  exact hT)
 have hF14 : Mem w10 (Qy w0) ((Hsq9 ++ ([])) ++ ([(b1, .cells (Zl (sH c p n)) 53 (0, 0))])) := by
  have hT := m12
  try simp only [List.append_assoc, List.cons_append, List.nil_append, List.append_nil] at hT ⊢
  exact hT
 refine Za rfl (oc45 (Xr rfl rfl) (c_num4 rq9 (c ++ Qak p) Hsq9 n _ _ (Mem.give hF14) grq9 sL sL)) ?_
 rintro rq15 w13 ⟨Hsq15, grq15, k_w13⟩
 have m13 : Mem w13 (Qy w0) (Hsq15 ++ ([(b1, .cells (Zl (sH c p n)) 53 (0, 0))])) := (by
  have hT := Mem.back hF14 k_w13
  try simp only [List.append_assoc, List.cons_append, List.nil_append, List.append_nil] at hT ⊢
  exact hT)
 refine rA rfl (v := rq15) rfl ?_
 refine rN (Xt ?_)
 refine Ze [rq15] ⟨rfl, trivial⟩ ?_
 have m16 := Mem.drop [_] _ (Mem.pick Hsq15 [_] _ m13)
 exact ⟨Hsq15, Zv.cast grq15 (by simp [G7]), (by
  have hT := m16
  try simp only [List.append_assoc, List.cons_append, List.nil_append, List.append_nil] at hT ⊢
  exact hT)⟩
set_option maxHeartbeats 2000000 in
theorem c_cloneK (v : Value) (l : List Kp) (w0 : World)  (hr : RdK (Yq w0) J9 65 v l) (hl : l.length ≤ 1048576) : Xz Tryd.prog 29 #[v] w0 (fun r w1 => ∃ Hs, J6 J9 65 69 r l Hs ∧ Mem w1 (Qy w0) Hs) := by
 refine Zd (args := [v]) Tryd.func29 rfl Tryd.ntmps29 Tryd.results29 rfl ?_
 have m0 : Mem w0 (Qy w0) [] := Mem.of_world w0
 refine sR <| Qa rfl (Qc (v := (Value.slice none 0 0)) rfl) ?_
 refine rN (Qg (sR ?_))
 refine rM rfl (v := v) rfl <| Qa rfl (Qkc (RdK.ofRest hr m0) Dl rfl rfl) <| rN ?_
 refine Xv rfl (fun hc1 => ?_) (fun hc1 => ?_)
 ·
  refine sR <| Qa rfl (Qc (v := (Value.slice none 0 0)) rfl) ?_
  refine rN (Xt (Vg ?_))
  refine Ze [(Value.slice none 0 0)] ⟨rfl, trivial⟩ ?_
  exact ⟨[], J6.cast (J6.none J9 65 69) (Qnf hr hc1), m0⟩
 ·
  refine Q7 (Qh (sR ?_))
  refine Za rfl (H9 (c := #[]) m0 Dl Qfm rfl Vo (by kernel_rfl)) ?_
  rintro _ w2 ⟨b5, rfl, e2, m2⟩
  have m2 : Mem w2 (Qy w0) [(b5, .cells #[] 69 (0, 0))] := m2
  refine rM rfl (v := v) rfl <| Za rfl (Qcg (enc := J9) (k := 65) (Hs := [(b5, .cells #[] 69 (0, 0))]) (H := []) m2 (J6.of J9 65 69 b5 [] rfl (by simp)) rfl rfl (RdK.ofRest hr m2) Dl Dl Qfm rfl rfl (fun a _ => Qob a) sL sL) ?_
  rintro sv3 w3 ⟨Hs3, m3, g3⟩
  replace g3 : J6 J9 65 69 sv3 l Hs3 := g3
  refine rA rfl (v := sv3) rfl ?_
  refine rN (Xt ?_)
  refine Ze [sv3] ⟨rfl, trivial⟩ ?_
  exact ⟨Hs3, J6.cast g3 (by simp), by simpa using m3⟩
end Go.Proofs.YtkmiemlpfkfiiaaDoor
