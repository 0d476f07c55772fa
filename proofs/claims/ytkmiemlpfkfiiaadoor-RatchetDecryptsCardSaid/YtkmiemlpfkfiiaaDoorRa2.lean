/- The ratchet: numbers, headers, copies. Conditions: none beyond those that each theorem states. -/
import Derived.Test.YtkmiemlpfkfiiaaDoorRa1
namespace Go.Proofs.YtkmiemlpfkfiiaaDoor
open Tryd
set_option linter.unusedVariables false
set_option linter.unusedSimpArgs false
def Qee (n : Int) : Z8 := [BitVec.ofInt 8 (n / 16777216), BitVec.ofInt 8 (n / 65536), BitVec.ofInt 8 (n / 256), BitVec.ofInt 8 n]
@[simp] theorem num4_len (n : Int) : (Qee n).length = 4 := rfl
def Wn (b : Z8) : Int := ((b.getD 0 0).toNat : Int) * 16777216 + ((b.getD 1 0).toNat : Int) * 65536 + ((b.getD 2 0).toNat : Int) * 256 + ((b.getD 3 0).toNat : Int)
def Lc (c : Z8) (p n : Int) : Z8 := (c ++ Qee p) ++ Qee n
theorem Qk9 {c : Z8} {p n : Int} (h : c.length = 32) : (Lc c p n).length = 40 := by simp [Lc, num4_len, h]
def Ac (k a b : Nat) : Bool := decide (100 < (k : Int)) || (decide (500 < (a : Int)) || decide (1000 < (b : Int)))
set_option maxHeartbeats 2000000 in
theorem c_put4 (vo : Value) (lo : Z8) (Ho : List (Nat × Obj)) (n : Int) (w0 : World) (R : Rest) (m0 : Mem w0 R (Ho ++ ([]))) (go : Z5 u8 5 vo lo Ho) (hlo : lo.length ≤ 1048576) (hn0 : 0 ≤ n ∧ n ≤ 2147483647) : X0 prog 44 #[vo, (i64 n)] w0 (fun r w1 => ∃ Hs, Z5 u8 5 r (lo ++ Qee n) Hs ∧ Mem w1 R Hs) := by
 refine Qy (args := [vo, (i64 n)]) func44 rfl ntmps44 results44 rfl <| sR <| Zx Wl ?_
 refine rN (sR ?_)
 refine Zm vo <| Zm (i64 n) <| Qd (Aq (p := 16777216) (b := 24) rfl rfl rfl Jb Jb) <| Qd (F7 ⟨_, Uu⟩ Vs rfl) <| Zm (i64 n) <| Qd (Aq (p := 65536) (b := 16) rfl rfl rfl Jb Jb) <| Qd (F7 ⟨_, Uu⟩ Vs rfl) <| Zm (i64 n) <| Qd (Aq (p := 256) (b := 8) rfl rfl rfl Jb Jb) <| Qd (F7 ⟨_, Uu⟩ Vs rfl) <| Zm (i64 n) <| Qd (F7 ⟨_, Uu⟩ Vs rfl) ?_
 refine Y9 (Qq u8 [BitVec.ofInt 8 (n / 16777216), BitVec.ofInt 8 (n / 65536), BitVec.ofInt 8 (n / 256), BitVec.ofInt 8 n] Qs m0 Zo Yw rfl rfl rfl) fun w1 b17 m1 => Vw (Xf (f := u8) (Hs := Ho) (H := [_]) (Mem.pick [_] Ho _ m1) go rfl rfl (Rd.mkA m1.h0) Zo Zo Yw rfl Qs sL sL) ?_
 rintro sv2 w2 ⟨Hs2, m2, g2⟩
 replace g2 : Z5 u8 5 sv2 (lo ++ ([BitVec.ofInt 8 (n / 16777216), BitVec.ofInt 8 (n / 65536), BitVec.ofInt 8 (n / 256), BitVec.ofInt 8 n])) Hs2 := g2
 refine Zx sv2 ?_
 refine rN (Zz ?_)
 refine Qp [sv2] ⟨rfl, trivial⟩ ?_
 have m3 := Mem.drop [_] _ (Mem.pick Hs2 [_] _ m2)
 exact ⟨Hs2, Z5.cast g2 rfl, (by
  have hT := m3
  try simp only [List.append_assoc, List.cons_append, List.nil_append, List.append_nil] at hT ⊢
  exact hT)⟩
set_option maxHeartbeats 2000000 in
theorem c_get4 (v : Value) (b : Z8) (w0 : World)  (hb : Rd (Y8 w0) u8 v b) (hb4 : 4 ≤ b.length) : X0 prog 46 #[v] w0 (fun r w1 => r = (i64 (Wn b)) ∧ Ext w0 w1) := by
 refine Qy (args := [v]) func46 rfl ntmps46 results46 rfl ?_
 have m0 : Mem w0 (Qr w0) [] := Mem.of_world w0
 refine sR <| Zx (i64 0) ?_
 refine rN (Qa ?_)
 refine Xg (dl 21) 21 Xo <| J8 rfl v <| Ym rfl (fun _ e' => Zt (i := 0) (Rd.ofRest hb (m0.ext e')) Zo Yw rfl rfl oM sL) <| Ym (v := (u8 (b.getD 0 0))) rfl (fun _ e' => X5 (l := b) (i := 0) (dflt := 0) (Rd.ofRest hb (m0.ext e')) Vs rfl oM sL rfl) <| X6 rfl (Gn ⟨_, Vs⟩ Uu rfl) <| X6 rfl (Qbg (p := 16777216) (b := 24) rfl rfl rfl Jb Jb oM oM) <| J8 rfl v <| Ym rfl (fun _ e' => Zt (i := 1) (Rd.ofRest hb (m0.ext e')) Zo Yw rfl rfl oM sL) <| Ym (v := (u8 (b.getD 1 0))) rfl (fun _ e' => X5 (l := b) (i := 1) (dflt := 0) (Rd.ofRest hb (m0.ext e')) Vs rfl oM sL rfl) <| X6 rfl (Gn ⟨_, Vs⟩ Uu rfl) <| X6 rfl (Qbg (p := 65536) (b := 16) rfl rfl rfl Jb Jb oM oM) <| X6 rfl (Qe5 (a := (((b.getD 0 0).toNat : Int) * 16777216)) (q := ((b.getD 0 0).toNat : Int)) (b := (((b.getD 1 0).toNat : Int) * 65536)) 24 rfl rfl oM oM oM oM Jb) ?_
 refine J8 rfl v <| Ym rfl (fun _ e' => Zt (i := 2) (Rd.ofRest hb (m0.ext e')) Zo Yw rfl rfl oM sL) <| Ym (v := (u8 (b.getD 2 0))) rfl (fun _ e' => X5 (l := b) (i := 2) (dflt := 0) (Rd.ofRest hb (m0.ext e')) Vs rfl oM sL rfl) <| X6 rfl (Gn ⟨_, Vs⟩ Uu rfl) <| X6 rfl (Qbg (p := 256) (b := 8) rfl rfl rfl Jb Jb oM oM) <| X6 rfl (Qe5 (a := (((b.getD 0 0).toNat : Int) * 16777216 + ((b.getD 1 0).toNat : Int) * 65536)) (q := (((b.getD 0 0).toNat : Int) * 256 + ((b.getD 1 0).toNat : Int))) (b := (((b.getD 2 0).toNat : Int) * 256)) 16 rfl rfl oM oM oM oM Jb) <| J8 rfl v <| Ym rfl (fun _ e' => Zt (i := 3) (Rd.ofRest hb (m0.ext e')) Zo Yw rfl rfl oM sL) <| Ym (v := (u8 (b.getD 3 0))) rfl (fun _ e' => X5 (l := b) (i := 3) (dflt := 0) (Rd.ofRest hb (m0.ext e')) Vs rfl oM sL rfl) <| X6 rfl (Gn ⟨_, Vs⟩ Uu rfl) <| Gf m0 fun w1 m1 => Qd (Qe5 (a := (((b.getD 0 0).toNat : Int) * 16777216 + ((b.getD 1 0).toNat : Int) * 65536 + ((b.getD 2 0).toNat : Int) * 256)) (q := ((((b.getD 0 0).toNat : Int) * 256 + ((b.getD 1 0).toNat : Int)) * 256 + ((b.getD 2 0).toNat : Int))) (b := ((b.getD 3 0).toNat : Int)) 8 rfl rfl oM oM oM oM Jb) <| yqA rfl ?_
 refine rN (Zz ?_)
 refine Qp [(i64 (((b.getD 0 0).toNat : Int) * 16777216 + ((b.getD 1 0).toNat : Int) * 65536 + ((b.getD 2 0).toNat : Int) * 256 + ((b.getD 3 0).toNat : Int)))] ⟨rfl, trivial⟩ ?_
 exact ⟨congrArg i64 (by unfold Wn; first | rfl | (simp only [Int.mul_comm 16777216, Int.mul_comm 65536, Int.mul_comm 256])), m1.toExt⟩
set_option maxHeartbeats 2000000 in
theorem Qq8 (v : Value) (b : Z8) (w0 : World)  (hb : Rd (Y8 w0) u8 v b) (hb4 : 4 ≤ b.length) : X0 prog 48 #[v] w0 (fun r w1 => r = (i64 (Wn b)) ∧ Ext w0 w1) := by
 refine Qy (args := [v]) func48 rfl ntmps48 results48 rfl ?_
 have m0 : Mem w0 (Qr w0) [] := Mem.of_world w0
 refine sR <| Zx (i64 0) ?_
 refine rN (Qa ?_)
 refine Xg (dl 21) 21 Xo <| J8 rfl v <| Ym rfl (fun _ e' => Zt (i := 0) (Rd.ofRest hb (m0.ext e')) Zo Yw rfl rfl oM sL) <| Ym (v := (u8 (b.getD 0 0))) rfl (fun _ e' => X5 (l := b) (i := 0) (dflt := 0) (Rd.ofRest hb (m0.ext e')) Vs rfl oM sL rfl) <| X6 rfl (Gn ⟨_, Vs⟩ Uu rfl) <| X6 rfl (Kv (a := 16777216) rfl rfl oM oM) <| J8 rfl v <| Ym rfl (fun _ e' => Zt (i := 1) (Rd.ofRest hb (m0.ext e')) Zo Yw rfl rfl oM sL) <| Ym (v := (u8 (b.getD 1 0))) rfl (fun _ e' => X5 (l := b) (i := 1) (dflt := 0) (Rd.ofRest hb (m0.ext e')) Vs rfl oM sL rfl) <| X6 rfl (Gn ⟨_, Vs⟩ Uu rfl) <| X6 rfl (Kv (a := 65536) rfl rfl oM oM) <| X6 rfl (Zf rfl rfl oM oM) ?_
 refine J8 rfl v <| Ym rfl (fun _ e' => Zt (i := 2) (Rd.ofRest hb (m0.ext e')) Zo Yw rfl rfl oM sL) <| Ym (v := (u8 (b.getD 2 0))) rfl (fun _ e' => X5 (l := b) (i := 2) (dflt := 0) (Rd.ofRest hb (m0.ext e')) Vs rfl oM sL rfl) <| X6 rfl (Gn ⟨_, Vs⟩ Uu rfl) <| X6 rfl (Kv (a := 256) rfl rfl oM oM) <| X6 rfl (Zf rfl rfl oM oM) <| J8 rfl v <| Ym rfl (fun _ e' => Zt (i := 3) (Rd.ofRest hb (m0.ext e')) Zo Yw rfl rfl oM sL) <| Ym (v := (u8 (b.getD 3 0))) rfl (fun _ e' => X5 (l := b) (i := 3) (dflt := 0) (Rd.ofRest hb (m0.ext e')) Vs rfl oM sL rfl) <| X6 rfl (Gn ⟨_, Vs⟩ Uu rfl) <| Gf m0 fun w1 m1 => Qd (Zf rfl rfl oM oM) <| yqA rfl ?_
 refine rN (Zz ?_)
 refine Qp [(i64 ((((16777216 * ((b.getD 0 0).toNat : Int)) + (65536 * ((b.getD 1 0).toNat : Int))) + (256 * ((b.getD 2 0).toNat : Int))) + ((b.getD 3 0).toNat : Int)))] ⟨rfl, trivial⟩ ?_
 exact ⟨congrArg i64 (by unfold Wn; first | rfl | (simp only [Int.mul_comm 16777216, Int.mul_comm 65536, Int.mul_comm 256])), m1.toExt⟩
set_option maxHeartbeats 2000000 in
theorem Qso (ra wa oa : Z8) (sb tb : Bool) (sa ta : Z8) (n1 n2 n3 : Int) (vk : Value) (ks : List Kp) (va : Value) (la : Z8) (vc : Value) (lc : Z8) (w0 : World)  (hl : ra.length = 32 ∧ wa.length = 32 ∧ oa.length = 32 ∧ sa.length = 32 ∧ ta.length = 32) (hk : RdK (Y8 w0) Y3 65 vk ks) (hn : ks.length ≤ 9223372036854775807) (hra : Rd (Y8 w0) u8 va la) (hrc : Rd (Y8 w0) u8 vc lc) (hla : la.length ≤ 9223372036854775807) (hlc : lc.length ≤ 9223372036854775807) : X0 prog 10 #[(Value.agg (Qz (sE ra wa oa sb tb sa ta n1 n2 n3 vk))), va, vc] w0 (fun r w1 => r = (bl (Ac ks.length la.length lc.length)) ∧ Ext w0 w1) := by
 refine Qy (args := [(Value.agg (Qz (sE ra wa oa sb tb sa ta n1 n2 n3 vk))), va, vc]) func10 rfl ntmps10 results10 rfl ?_
 have m0 : Mem w0 (Qr w0) [] := Mem.of_world w0
 obtain ⟨hl1, hl2, hl3, hl4, hl5⟩ := hl
 refine sR <| Y9 (Us (cs := (Qz (sE ra wa oa sb tb sa ta n1 n2 n3 vk))) m0 rfl) fun w1 b3 m1 => Zx (bl false) ?_
 refine rN (sR ?_)
 refine Qd (Zi (r := 165) Xt rfl Je Ec rfl rfl) <| Qd (Yi 10 Wq rfl m1.h0 rfl) <| Qd (Fp (RdK.ofRest hk m1) Wq rfl) <| Qd (Vz (b := 100) rfl rfl) <| Zm (bl (decide (100 < (ks.length : Int)))) ?_
 rcases Bool.eq_false_or_eq_true (decide (100 < (ks.length : Int))) with hb2 | hb2
 ·
  have hb2p := of_decide_eq_true hb2
  refine Yg (s := 11) rfl rfl hb2 rfl <| Yg (s := 11) rfl rfl hb2 rfl <| Yg (s := 11) rfl rfl hb2 rfl <| Qd (Jg rfl hb2 rfl) <| Zm (bl true) <| Yg (s := 16) rfl rfl rfl rfl <| Yg (s := 16) rfl rfl rfl rfl <| Yg (s := 16) rfl rfl rfl rfl <| Qd (Hy rfl rfl) <| Zx (bl true) ?_
  refine rN (Zz ?_)
  refine Qp [(bl true)] ⟨rfl, trivial⟩ ?_
  exact ⟨congrArg bl (by unfold Ac; revert hb2; generalize decide (100 < (ks.length : Int)) = b0; generalize decide (500 < (la.length : Int)) = b1; generalize decide (1000 < (lc.length : Int)) = b2; revert b0 b1 b2; decide), m1.toExt⟩
 ·
  have hb2p := of_decide_eq_false hb2
  refine Zj (s := 11) rfl rfl hb2 rfl (Yh (v := va) rfl) <| Zj (s := 11) rfl rfl hb2 rfl (Yk (Rd.ofRest hra m1) Zo rfl) <| Zj (s := 11) rfl rfl hb2 rfl (Vz (b := 500) rfl rfl) <| Qd (Yz rfl hb2 rfl) <| Zm (bl (decide (500 < (la.length : Int)))) ?_
  rcases Bool.eq_false_or_eq_true (decide (500 < (la.length : Int))) with hb3 | hb3
  ·
   have hb3p := of_decide_eq_true hb3
   refine Yg (s := 16) rfl rfl hb3 rfl <| Yg (s := 16) rfl rfl hb3 rfl <| Yg (s := 16) rfl rfl hb3 rfl <| Qd (Jg rfl hb3 rfl) <| Zx (bl true) ?_
   refine rN (Zz ?_)
   refine Qp [(bl true)] ⟨rfl, trivial⟩ ?_
   exact ⟨congrArg bl (by unfold Ac; revert hb2 hb3; generalize decide (100 < (ks.length : Int)) = b0; generalize decide (500 < (la.length : Int)) = b1; generalize decide (1000 < (lc.length : Int)) = b2; revert b0 b1 b2; decide), m1.toExt⟩
  ·
   have hb3p := of_decide_eq_false hb3
   refine Zj (s := 16) rfl rfl hb3 rfl (Yh (v := vc) rfl) <| Zj (s := 16) rfl rfl hb3 rfl (Yk (Rd.ofRest hrc m1) Zo rfl) <| Zj (s := 16) rfl rfl hb3 rfl (Vz (b := 1000) rfl rfl) <| Qd (Yz rfl hb3 rfl) <| Zx (bl (decide (1000 < (lc.length : Int)))) ?_
   refine rN (Zz ?_)
   refine Qp [(bl (decide (1000 < (lc.length : Int))))] ⟨rfl, trivial⟩ ?_
   exact ⟨congrArg bl (by unfold Ac; revert hb2 hb3; generalize decide (100 < (ks.length : Int)) = b0; generalize decide (500 < (la.length : Int)) = b1; generalize decide (1000 < (lc.length : Int)) = b2; revert b0 b1 b2; decide), m1.toExt⟩
set_option maxHeartbeats 2000000 in
theorem c_header (c : Z8) (p n : Int) (w0 : World)  (hc : c.length = 32) (hp : 0 ≤ p ∧ p ≤ 2147483647) (hn : 0 ≤ n ∧ n ≤ 2147483647) : X0 prog 30 #[(Value.agg (Qz (sH c p n)))] w0 (fun r w1 => ∃ Hs, Z5 u8 5 r (Lc c p n) Hs ∧ Mem w1 (Qr w0) Hs) := by
 refine Qy (args := [(Value.agg (Qz (sH c p n)))]) func30 rfl ntmps30 results30 rfl ?_
 have m0 : Mem w0 (Qr w0) [] := Mem.of_world w0
 refine sR <| Y9 (Us (cs := (Qz (sH c p n))) m0 rfl) fun w1 b1 m1 => Zx Wl ?_
 refine rN (Qa ?_)
 refine J4 Xo ?_
 have hFM2 : Mem w1 (Qr w0) ([] ++ [(b1, .cells (Qz (sH c p n)) 53 (0, 0))]) := m1
 obtain ⟨RM2, hRM2⟩ : ∃ R2, R2 = Rest.add (Qr w0) [(b1, .cells (Qz (sH c p n)) 53 (0, 0))] := ⟨_, rfl⟩
 have M20 : Mem w1 RM2 [] := by rw [hRM2]; exact Mem.give hFM2
 have ho3 : RM2.blk b1 = some (.cells (Qz (sH c p n)) 53 (0, 0)) := by rw [hRM2]; exact Mem.addOwn hFM2 (List.Mem.head _)
 refine Dv M20 [(0, false), (1, false), (3, false), (4, false), (6, false), (7, false), (2, true), (5, true)] 8 rfl Xo <| Ns rfl (Zi (r := 0) Fj rfl Je Zg rfl rfl) <| Ns rfl (Xk (i := 0) (j := 32) Xl Yw rfl (Zd _ _) (Zd _ _) oM sL sL) <| Ns rfl (Zi (r := 32) Fj rfl Je Ui rfl rfl) <| yqH rfl (fun w _H _hx => Yi 1 Uu rfl (_hx.rest _ _ ho3) rfl) <| Ns rfl (Zi (r := 33) Fj rfl Je Ui rfl rfl) <| yqH rfl (fun w _H _hx => Yi 2 Uu rfl (_hx.rest _ _ ho3) rfl) ?_
 refine Qe6 rfl rfl (fun w4 e4 => ?_)
 have m4 := M20.ext e4
 refine Wu.mono (oc34 (Jv rfl) (Qcr (sla b1 0 1 0 32 32) c _ (Rd.sgA 0 (m4.rest _ _ ho3) rfl) sL)) ?_
 rintro rq6 w5 ⟨Hsq6, grq6, k_w5⟩
 have m5 : Mem _ _ (Hsq6 ++ ([])) := Mem.new (H := []) (H' := Hsq6) m4 k_w5
 refine ⟨⟨_, m5⟩, ?_⟩
 refine Qe6 rfl rfl (fun w7 e7 => ?_)
 have m7 := m5.ext e7
 have hF9 : Mem w7 RM2 ((Hsq6 ++ ([])) ++ ([])) := by
  have hT := m7
  try simp only [List.append_assoc, List.cons_append, List.nil_append, List.append_nil] at hT ⊢
  exact hT
 refine Wu.mono (oc44 (Xm rfl rfl) (c_put4 rq6 c Hsq6 p _ _ (Mem.give hF9) grq6 sL sL)) ?_
 rintro rq10 w8 ⟨Hsq10, grq10, k_w8⟩
 have m8 : Mem w8 RM2 (Hsq10 ++ ([])) := ymA (Mem.back hF9 k_w8)
 refine ⟨⟨_, m8⟩, ?_⟩
 refine Gf m8 fun w11 m11 => ?_
 have hX12 := m11
 rw [hRM2] at hX12
 have m13 : Mem w11 (Qr w0) (Hsq10 ++ ([(b1, .cells (Qz (sH c p n)) 53 (0, 0))])) := ymA (Mem.back hFM2 hX12)
 have hF15 : Mem w11 (Qr w0) ((Hsq10 ++ ([])) ++ ([(b1, .cells (Qz (sH c p n)) 53 (0, 0))])) := by
  have hT := m13
  try simp only [List.append_assoc, List.cons_append, List.nil_append, List.append_nil] at hT ⊢
  exact hT
 refine Vw (oc44 (Xm rfl rfl) (c_put4 rq10 (c ++ Qee p) Hsq10 n _ _ (Mem.give hF15) grq10 sL sL)) ?_
 rintro rq16 w14 ⟨Hsq16, grq16, k_w14⟩
 have m14 : Mem w14 (Qr w0) (Hsq16 ++ ([(b1, .cells (Qz (sH c p n)) 53 (0, 0))])) := ymA (Mem.back hF15 k_w14)
 refine Zx rq16 ?_
 refine rN (Zz ?_)
 refine Qp [rq16] ⟨rfl, trivial⟩ ?_
 have m17 := Mem.drop [_] _ (Mem.pick Hsq16 [_] _ m14)
 exact ⟨Hsq16, Z5.cast grq16 (by simp [Lc]), (by
  have hT := m17
  try simp only [List.append_assoc, List.cons_append, List.nil_append, List.append_nil] at hT ⊢
  exact hT)⟩
set_option maxHeartbeats 2000000 in
theorem Qod (v : Value) (l : List Kp) (w0 : World)  (hr : RdK (Y8 w0) Y3 65 v l) (hl : l.length ≤ 1048576) : X0 prog 29 #[v] w0 (fun r w1 => ∃ Hs, Yx Y3 65 69 r l Hs ∧ Mem w1 (Qr w0) Hs) := by
 refine Qy (args := [v]) func29 rfl ntmps29 results29 rfl ?_
 have m0 : Mem w0 (Qr w0) [] := Mem.of_world w0
 refine sR <| Zx Wl ?_
 refine rN (Qa (sR ?_))
 refine Zm v <| Qd (Qn2 (RdK.ofRest hr m0) Wq rfl rfl) <| rN ?_
 refine Zy rfl (fun hc1 => ?_) (fun hc1 => ?_)
 ·
  refine sR <| Zx Wl ?_
  refine rN (Zz (Yv ?_))
  refine Qp [Wl] ⟨rfl, trivial⟩ ?_
  exact ⟨[], Yx.cast (Yx.none Y3 65 69) (Qri hr hc1), m0⟩
 ·
  refine Qn (Qc (sR ?_))
  refine Y9 (Ei (c := #[]) m0 Wq Dj rfl Vq Xo) fun w2 b5 m2 => ?_
  have m2 : Mem w2 (Qr w0) [(b5, .cells #[] 69 (0, 0))] := m2
  refine Zm v <| Vw (C9 (enc := Y3) (k := 65) (Hs := [(b5, .cells #[] 69 (0, 0))]) (H := []) m2 (Yx.of Y3 65 69 b5 [] rfl Ya) rfl rfl (RdK.ofRest hr m2) Wq Wq Dj rfl rfl (fun a _ => Nq a) sL sL) ?_
  rintro sv3 w3 ⟨Hs3, m3, g3⟩
  replace g3 : Yx Y3 65 69 sv3 l Hs3 := g3
  refine Zx sv3 ?_
  refine rN (Zz ?_)
  refine Qp [sv3] ⟨rfl, trivial⟩ ?_
  exact ⟨Hs3, Yx.cast g3 Ya, by simpa using m3⟩
end Go.Proofs.YtkmiemlpfkfiiaaDoor
