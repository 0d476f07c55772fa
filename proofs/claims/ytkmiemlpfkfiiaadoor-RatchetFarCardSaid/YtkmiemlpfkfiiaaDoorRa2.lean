/- The ratchet: numbers, headers, copies. Conditions: none beyond those that each theorem states. -/
import Derived.Test.YtkmiemlpfkfiiaaDoorRa1
namespace Go.Proofs.YtkmiemlpfkfiiaaDoor
open Tryd
set_option linter.unusedVariables false
set_option linter.unusedSimpArgs false
def Ak (n : Int) : Zj := [BitVec.ofInt 8 (n / 16777216), BitVec.ofInt 8 (n / 65536), BitVec.ofInt 8 (n / 256), BitVec.ofInt 8 n]
@[simp] theorem Qj5 (n : Int) : (Ak n).length = 4 := rfl
def Va (b : Zj) : Int := ((b.getD 0 0).toNat : Int) * 16777216 + ((b.getD 1 0).toNat : Int) * 65536 + ((b.getD 2 0).toNat : Int) * 256 + ((b.getD 3 0).toNat : Int)
def Wi (c : Zj) (p n : Int) : Zj := (c ++ Ak p) ++ Ak n
theorem Qay {c : Zj} {p n : Int} (h : c.length = 32) : (Wi c p n).length = 40 := by simp [Wi, Qj5, h]
set_option maxHeartbeats 2000000 in
theorem c_put4 (vo : Value) (lo : Zj) (Ho : List (Nat × Obj)) (n : Int) (w0 : World) (R : Rest) (m0 : Mem w0 R (Ho ++ ([]))) (go : Xl u8 5 vo lo Ho) (hlo : lo.length ≤ 1048576) (hn0 : 0 ≤ n ∧ n ≤ 2147483647) : Xm prog 44 #[vo, (i64 n)] w0 (fun r w1 => ∃ Hs, Xl u8 5 r (lo ++ Ak n) Hs ∧ Mem w1 R Hs) := by
 refine Qy (args := [vo, (i64 n)]) func44 rfl ntmps44 results44 rfl <| sR <| Zv Jp ?_
 refine rN (sR ?_)
 refine Zb vo <| Zb (i64 n) <| Qd (Qae (p := 16777216) (b := 24) rfl rfl rfl Yh Yh) <| Qd (V8 ⟨_, Di⟩ Uu rfl) <| Zb (i64 n) <| Qd (Qae (p := 65536) (b := 16) rfl rfl rfl Yh Yh) <| Qd (V8 ⟨_, Di⟩ Uu rfl) <| Zb (i64 n) <| Qd (Qae (p := 256) (b := 8) rfl rfl rfl Yh Yh) <| Qd (V8 ⟨_, Di⟩ Uu rfl) <| Zb (i64 n) <| Qd (V8 ⟨_, Di⟩ Uu rfl) ?_
 refine Y5 (Zr u8 [BitVec.ofInt 8 (n / 16777216), BitVec.ofInt 8 (n / 65536), BitVec.ofInt 8 (n / 256), BitVec.ofInt 8 n] Q9 m0 Zx Yw rfl rfl rfl) fun w1 b17 m1 => G5 (Yl (f := u8) (Hs := Ho) (H := [_]) (Mem.pick [_] Ho _ m1) go rfl rfl (Rd.mkA m1.h0) Zx Zx Yw rfl Q9 sL sL) ?_
 rintro sv2 w2 ⟨Hs2, m2, g2⟩
 replace g2 : Xl u8 5 sv2 (lo ++ ([BitVec.ofInt 8 (n / 16777216), BitVec.ofInt 8 (n / 65536), BitVec.ofInt 8 (n / 256), BitVec.ofInt 8 n])) Hs2 := g2
 refine Zv sv2 ?_
 refine rN (Zy ?_)
 refine Qs [sv2] ⟨rfl, trivial⟩ ?_
 have m3 := Mem.drop [_] _ (Mem.pick Hs2 [_] _ m2)
 exact ⟨Hs2, Xl.cast g2 rfl, (by
  have hT := m3
  try simp only [List.append_assoc, List.cons_append, List.nil_append, List.append_nil] at hT ⊢
  exact hT)⟩
set_option maxHeartbeats 2000000 in
theorem c_get4 (v : Value) (b : Zj) (w0 : World)  (hb : Rd (Yn w0) u8 v b) (hb4 : 4 ≤ b.length) : Xm prog 46 #[v] w0 (fun r w1 => r = (i64 (Va b)) ∧ Ext w0 w1) := by
 refine Qy (args := [v]) func46 rfl ntmps46 results46 rfl ?_
 have m0 : Mem w0 (Qu w0) [] := Mem.of_world w0
 refine sR <| Zv (i64 0) ?_
 refine rN (Qc ?_)
 refine Xj (dl 21) 21 Xh <| Jj rfl v <| Y6 rfl (fun _ e' => Xr (i := 0) (Rd.ofRest hb (m0.ext e')) Zx Yw rfl rfl oM sL) <| Y6 (v := (u8 (b.getD 0 0))) rfl (fun _ e' => Y4 (l := b) (i := 0) (dflt := 0) (Rd.ofRest hb (m0.ext e')) Uu rfl oM sL rfl) <| Xq rfl (Du ⟨_, Uu⟩ Di rfl) <| Xq rfl (Qaf (p := 16777216) (b := 24) rfl rfl rfl Yh Yh oM oM) <| Jj rfl v <| Y6 rfl (fun _ e' => Xr (i := 1) (Rd.ofRest hb (m0.ext e')) Zx Yw rfl rfl oM sL) <| Y6 (v := (u8 (b.getD 1 0))) rfl (fun _ e' => Y4 (l := b) (i := 1) (dflt := 0) (Rd.ofRest hb (m0.ext e')) Uu rfl oM sL rfl) <| Xq rfl (Du ⟨_, Uu⟩ Di rfl) <| Xq rfl (Qaf (p := 65536) (b := 16) rfl rfl rfl Yh Yh oM oM) <| Xq rfl (Qbs (a := (((b.getD 0 0).toNat : Int) * 16777216)) (q := ((b.getD 0 0).toNat : Int)) (b := (((b.getD 1 0).toNat : Int) * 65536)) 24 rfl rfl oM oM oM oM Yh) ?_
 refine Jj rfl v <| Y6 rfl (fun _ e' => Xr (i := 2) (Rd.ofRest hb (m0.ext e')) Zx Yw rfl rfl oM sL) <| Y6 (v := (u8 (b.getD 2 0))) rfl (fun _ e' => Y4 (l := b) (i := 2) (dflt := 0) (Rd.ofRest hb (m0.ext e')) Uu rfl oM sL rfl) <| Xq rfl (Du ⟨_, Uu⟩ Di rfl) <| Xq rfl (Qaf (p := 256) (b := 8) rfl rfl rfl Yh Yh oM oM) <| Xq rfl (Qbs (a := (((b.getD 0 0).toNat : Int) * 16777216 + ((b.getD 1 0).toNat : Int) * 65536)) (q := (((b.getD 0 0).toNat : Int) * 256 + ((b.getD 1 0).toNat : Int))) (b := (((b.getD 2 0).toNat : Int) * 256)) 16 rfl rfl oM oM oM oM Yh) <| Jj rfl v <| Y6 rfl (fun _ e' => Xr (i := 3) (Rd.ofRest hb (m0.ext e')) Zx Yw rfl rfl oM sL) <| Y6 (v := (u8 (b.getD 3 0))) rfl (fun _ e' => Y4 (l := b) (i := 3) (dflt := 0) (Rd.ofRest hb (m0.ext e')) Uu rfl oM sL rfl) <| Xq rfl (Du ⟨_, Uu⟩ Di rfl) <| Ug m0 fun w1 m1 => Qd (Qbs (a := (((b.getD 0 0).toNat : Int) * 16777216 + ((b.getD 1 0).toNat : Int) * 65536 + ((b.getD 2 0).toNat : Int) * 256)) (q := ((((b.getD 0 0).toNat : Int) * 256 + ((b.getD 1 0).toNat : Int)) * 256 + ((b.getD 2 0).toNat : Int))) (b := ((b.getD 3 0).toNat : Int)) 8 rfl rfl oM oM oM oM Yh) <| Sv rfl ?_
 refine rN (Zy ?_)
 refine Qs [(i64 (((b.getD 0 0).toNat : Int) * 16777216 + ((b.getD 1 0).toNat : Int) * 65536 + ((b.getD 2 0).toNat : Int) * 256 + ((b.getD 3 0).toNat : Int)))] ⟨rfl, trivial⟩ ?_
 exact ⟨congrArg i64 (by unfold Va; first | rfl | (simp only [Int.mul_comm 16777216, Int.mul_comm 65536, Int.mul_comm 256])), m1.toExt⟩
set_option maxHeartbeats 2000000 in
theorem c_header (c : Zj) (p n : Int) (w0 : World)  (hc : c.length = 32) (hp : 0 ≤ p ∧ p ≤ 2147483647) (hn : 0 ≤ n ∧ n ≤ 2147483647) : Xm prog 30 #[(Value.agg (Qp (sH c p n)))] w0 (fun r w1 => ∃ Hs, Xl u8 5 r (Wi c p n) Hs ∧ Mem w1 (Qu w0) Hs) := by
 refine Qy (args := [(Value.agg (Qp (sH c p n)))]) func30 rfl ntmps30 results30 rfl ?_
 have m0 : Mem w0 (Qu w0) [] := Mem.of_world w0
 refine sR <| Y5 (Uk (cs := (Qp (sH c p n))) m0 rfl) fun w1 b1 m1 => Zv Jp ?_
 refine rN (Qc ?_)
 refine Ju Xh ?_
 have hFM2 : Mem w1 (Qu w0) ([] ++ [(b1, .cells (Qp (sH c p n)) 53 (0, 0))]) := m1
 obtain ⟨RM2, hRM2⟩ : ∃ R2, R2 = Rest.add (Qu w0) [(b1, .cells (Qp (sH c p n)) 53 (0, 0))] := ⟨_, rfl⟩
 have M20 : Mem w1 RM2 [] := by rw [hRM2]; exact Mem.give hFM2
 have ho3 : RM2.blk b1 = some (.cells (Qp (sH c p n)) 53 (0, 0)) := by rw [hRM2]; exact Mem.addOwn hFM2 (List.Mem.head _)
 refine Ea M20 [(0, false), (1, false), (3, false), (4, false), (6, false), (7, false), (2, true), (5, true)] 8 rfl Xh <| L9 rfl (Zd (r := 0) La rfl Yy Zi rfl rfl) <| L9 rfl (Z7 (i := 0) (j := 32) Xf Yw rfl (Zc _ _) (Zc _ _) oM sL sL) <| L9 rfl (Zd (r := 32) La rfl Yy Dj rfl rfl) <| yqH rfl (fun w _H _hx => Yp 1 Di rfl (_hx.rest _ _ ho3) rfl) <| L9 rfl (Zd (r := 33) La rfl Yy Dj rfl rfl) <| yqH rfl (fun w _H _hx => Yp 2 Di rfl (_hx.rest _ _ ho3) rfl) ?_
 refine Qf7 rfl rfl (fun w4 e4 => ?_)
 have m4 := M20.ext e4
 refine J8.mono (oc34 (Jb rfl) (Rt (sla b1 0 1 0 32 32) c _ (Rd.sgA 0 (m4.rest _ _ ho3) rfl) sL)) ?_
 rintro rq6 w5 ⟨Hsq6, grq6, k_w5⟩
 have m5 : Mem _ _ (Hsq6 ++ ([])) := Mem.new (H := []) (H' := Hsq6) m4 k_w5
 refine ⟨⟨_, m5⟩, ?_⟩
 refine Qf7 rfl rfl (fun w7 e7 => ?_)
 have m7 := m5.ext e7
 have hF9 : Mem w7 RM2 ((Hsq6 ++ ([])) ++ ([])) := by
  have hT := m7
  try simp only [List.append_assoc, List.cons_append, List.nil_append, List.append_nil] at hT ⊢
  exact hT
 refine J8.mono (oc44 (X3 rfl rfl) (c_put4 rq6 c Hsq6 p _ _ (Mem.give hF9) grq6 sL sL)) ?_
 rintro rq10 w8 ⟨Hsq10, grq10, k_w8⟩
 have m8 : Mem w8 RM2 (Hsq10 ++ ([])) := ymA (Mem.back hF9 k_w8)
 refine ⟨⟨_, m8⟩, ?_⟩
 refine Ug m8 fun w11 m11 => ?_
 have hX12 := m11
 rw [hRM2] at hX12
 have m13 : Mem w11 (Qu w0) (Hsq10 ++ ([(b1, .cells (Qp (sH c p n)) 53 (0, 0))])) := ymA (Mem.back hFM2 hX12)
 have hF15 : Mem w11 (Qu w0) ((Hsq10 ++ ([])) ++ ([(b1, .cells (Qp (sH c p n)) 53 (0, 0))])) := by
  have hT := m13
  try simp only [List.append_assoc, List.cons_append, List.nil_append, List.append_nil] at hT ⊢
  exact hT
 refine G5 (oc44 (X3 rfl rfl) (c_put4 rq10 (c ++ Ak p) Hsq10 n _ _ (Mem.give hF15) grq10 sL sL)) ?_
 rintro rq16 w14 ⟨Hsq16, grq16, k_w14⟩
 have m14 : Mem w14 (Qu w0) (Hsq16 ++ ([(b1, .cells (Qp (sH c p n)) 53 (0, 0))])) := ymA (Mem.back hF15 k_w14)
 refine Zv rq16 ?_
 refine rN (Zy ?_)
 refine Qs [rq16] ⟨rfl, trivial⟩ ?_
 have m17 := Mem.drop [_] _ (Mem.pick Hsq16 [_] _ m14)
 exact ⟨Hsq16, Xl.cast grq16 (by simp [Wi]), (by
  have hT := m17
  try simp only [List.append_assoc, List.cons_append, List.nil_append, List.append_nil] at hT ⊢
  exact hT)⟩
set_option maxHeartbeats 2000000 in
theorem Qky (v : Value) (l : List Kp) (w0 : World)  (hr : RdK (Yn w0) Yz 65 v l) (hl : l.length ≤ 1048576) : Xm prog 29 #[v] w0 (fun r w1 => ∃ Hs, Yf Yz 65 69 r l Hs ∧ Mem w1 (Qu w0) Hs) := by
 refine Qy (args := [v]) func29 rfl ntmps29 results29 rfl ?_
 have m0 : Mem w0 (Qu w0) [] := Mem.of_world w0
 refine sR <| Zv Jp ?_
 refine rN (Qc (sR ?_))
 refine Zb v <| Qd (Qkm (RdK.ofRest hr m0) Gt rfl rfl) <| rN ?_
 refine Xb rfl (fun hc1 => ?_) (fun hc1 => ?_)
 ·
  refine sR <| Zv Jp ?_
  refine rN (Zy (Y7 ?_))
  refine Qs [Jp] ⟨rfl, trivial⟩ ?_
  exact ⟨[], Yf.cast (Yf.none Yz 65 69) (Qnh hr hc1), m0⟩
 ·
  refine Qo (Qa (sR ?_))
  refine Y5 (Ry (c := #[]) m0 Gt Np rfl V5 Xh) fun w2 b5 m2 => ?_
  have m2 : Mem w2 (Qu w0) [(b5, .cells #[] 69 (0, 0))] := m2
  refine Zb v <| G5 (Qbp (enc := Yz) (k := 65) (Hs := [(b5, .cells #[] 69 (0, 0))]) (H := []) m2 (Yf.of Yz 65 69 b5 [] rfl Xk) rfl rfl (RdK.ofRest hr m2) Gt Gt Np rfl rfl (fun a _ => Qdn a) sL sL) ?_
  rintro sv3 w3 ⟨Hs3, m3, g3⟩
  replace g3 : Yf Yz 65 69 sv3 l Hs3 := g3
  refine Zv sv3 ?_
  refine rN (Zy ?_)
  refine Qs [sv3] ⟨rfl, trivial⟩ ?_
  exact ⟨Hs3, Yf.cast g3 Xk, by simpa using m3⟩
end Go.Proofs.YtkmiemlpfkfiiaaDoor
