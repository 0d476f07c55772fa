/- The ratchet: numbers, headers, copies. Conditions: none beyond those that each theorem states. -/
import Derived.Test.YtkmiemlpfkfiiaaDoorRa1
namespace Go.Proofs.YtkmiemlpfkfiiaaDoor
set_option linter.unusedVariables false
set_option linter.unusedSimpArgs false
def Ui (n : Int) : List (BitVec 8) := [BitVec.ofInt 8 (n / 16777216), BitVec.ofInt 8 (n / 65536), BitVec.ofInt 8 (n / 256), BitVec.ofInt 8 n]
@[simp] theorem Dx (n : Int) : (Ui n).length = 4 := rfl
def Yu (b : List (BitVec 8)) : Int := ((b.getD 0 0).toNat : Int) * 16777216 + ((b.getD 1 0).toNat : Int) * 65536 + ((b.getD 2 0).toNat : Int) * 256 + ((b.getD 3 0).toNat : Int)
def Aa (c : List (BitVec 8)) (p n : Int) : List (BitVec 8) := (c ++ Ui p) ++ Ui n
theorem Qds {c : List (BitVec 8)} {p n : Int} (h : c.length = 32) : (Aa c p n).length = 40 := by simp [Aa, Dx, h]
set_option maxHeartbeats 2000000 in
theorem Rw (vo : Value) (lo : List (BitVec 8)) (Ho : List (Nat × Obj)) (n : Int) (w0 : World) (R : Rest) (hm0 : Mem w0 R (Ho ++ ([]))) (go : Xx u8 5 vo lo Ho) (hlo : lo.length ≤ 1048576) (hn0 : 0 ≤ n ∧ n ≤ 2147483647) : X8 Tryd.prog 44 #[vo, (i64 n)] w0 (fun r w1 => ∃ Hs, Xx u8 5 r (lo ++ Ui n) Hs ∧ Mem w1 R Hs) := by
 refine Zp (args := [vo, (i64 n)]) Tryd.func44 rfl Tryd.ntmps44 Tryd.results44 rfl <| sR <| Qb rfl (Qd (v := (Value.slice none 0 0)) rfl) ?_
 refine rN (sR ?_)
 refine rM rfl (v := vo) rfl <| Qb rfl (Qc (v := (i64 n)) rfl) <| Qb rfl (Me (p := 16777216) (b := 24) rfl rfl rfl (by decide) (by decide)) <| Qb rfl (Wp ⟨_, Gj⟩ Vh rfl) <| Qb rfl (Qc (v := (i64 n)) rfl) <| Qb rfl (Me (p := 65536) (b := 16) rfl rfl rfl (by decide) (by decide)) <| Qb rfl (Wp ⟨_, Gj⟩ Vh rfl) <| Qb rfl (Qc (v := (i64 n)) rfl) <| Qb rfl (Me (p := 256) (b := 8) rfl rfl rfl (by decide) (by decide)) <| Qb rfl (Wp ⟨_, Gj⟩ Vh rfl) <| Qb rfl (Qc (v := (i64 n)) rfl) <| Qb rfl (Wp ⟨_, Gj⟩ Vh rfl) ?_
 refine Zo rfl (Xd u8 [BitVec.ofInt 8 (n / 16777216), BitVec.ofInt 8 (n / 65536), BitVec.ofInt 8 (n / 256), BitVec.ofInt 8 n] Q8 hm0 Z4 Yq rfl rfl rfl) ?_
 rintro _ w1 ⟨b17, rfl, _ew1, hm1⟩
 refine Zo rfl (Xt (f := u8) (Hs := Ho) (H := [(b17, .cells (cl u8 ([BitVec.ofInt 8 (n / 16777216), BitVec.ofInt 8 (n / 65536), BitVec.ofInt 8 (n / 256), BitVec.ofInt 8 n])) 5 (0, 0))]) (Mem.pick [_] Ho _ hm1) go rfl rfl (Rd.mkA hm1.h0) Z4 Z4 Yq rfl Q8 sL sL) ?_
 rintro sv2 w2 ⟨Hs2, hm2, g2⟩
 replace g2 : Xx u8 5 sv2 (lo ++ ([BitVec.ofInt 8 (n / 16777216), BitVec.ofInt 8 (n / 65536), BitVec.ofInt 8 (n / 256), BitVec.ofInt 8 n])) Hs2 := g2
 refine rA rfl (v := sv2) rfl ?_
 refine rN (Xn ?_)
 refine Zj [sv2] ⟨rfl, trivial⟩ ?_
 have hm3 := Mem.drop ([(b17, .cells (cl u8 ([BitVec.ofInt 8 (n / 16777216), BitVec.ofInt 8 (n / 65536), BitVec.ofInt 8 (n / 256), BitVec.ofInt 8 n])) 5 (0, 0))]) _ (Mem.pick Hs2 [_] _ hm2)
 exact ⟨Hs2, Xx.cast g2 rfl, (by
   have hT := hm3
   try simp only [List.append_assoc, List.cons_append, List.nil_append, List.append_nil] at hT ⊢
   exact hT)⟩
set_option maxHeartbeats 2000000 in
theorem Qc5 (vo : Value) (lo : List (BitVec 8)) (Ho : List (Nat × Obj)) (n : Int) (w0 : World) (R : Rest) (hm0 : Mem w0 R (Ho ++ ([]))) (go : Xx u8 5 vo lo Ho) (hlo : lo.length ≤ 1048576) (hn0 : 0 ≤ n ∧ n ≤ 2147483647) : X8 Tryd.prog 45 #[vo, (i64 n)] w0 (fun r w1 => ∃ Hs, Xx u8 5 r (lo ++ Ui n) Hs ∧ Mem w1 R Hs) := by
 refine Zp (args := [vo, (i64 n)]) Tryd.func45 rfl Tryd.ntmps45 Tryd.results45 rfl <| sR <| Qb rfl (Qd (v := (Value.slice none 0 0)) rfl) ?_
 refine rN (sR ?_)
 refine rM rfl (v := vo) rfl <| Qb rfl (Qc (v := (i64 n)) rfl) <| Qb rfl (Wl (b := 16777216) rfl rfl oM oM oM) <| Qb rfl (Wp ⟨_, Gj⟩ Vh rfl) <| Qb rfl (Qc (v := (i64 n)) rfl) <| Qb rfl (Wl (b := 65536) rfl rfl oM oM oM) <| Qb rfl (Wp ⟨_, Gj⟩ Vh rfl) <| Qb rfl (Qc (v := (i64 n)) rfl) <| Qb rfl (Wl (b := 256) rfl rfl oM oM oM) <| Qb rfl (Wp ⟨_, Gj⟩ Vh rfl) <| Qb rfl (Qc (v := (i64 n)) rfl) <| Qb rfl (Wp ⟨_, Gj⟩ Vh rfl) ?_
 refine Zo rfl (Xd u8 [BitVec.ofInt 8 (n / 16777216), BitVec.ofInt 8 (n / 65536), BitVec.ofInt 8 (n / 256), BitVec.ofInt 8 n] Q8 hm0 Z4 Yq rfl rfl rfl) ?_
 rintro _ w1 ⟨b17, rfl, _ew1, hm1⟩
 refine Zo rfl (Xt (f := u8) (Hs := Ho) (H := [(b17, .cells (cl u8 ([BitVec.ofInt 8 (n / 16777216), BitVec.ofInt 8 (n / 65536), BitVec.ofInt 8 (n / 256), BitVec.ofInt 8 n])) 5 (0, 0))]) (Mem.pick [_] Ho _ hm1) go rfl rfl (Rd.mkA hm1.h0) Z4 Z4 Yq rfl Q8 sL sL) ?_
 rintro sv2 w2 ⟨Hs2, hm2, g2⟩
 replace g2 : Xx u8 5 sv2 (lo ++ ([BitVec.ofInt 8 (n / 16777216), BitVec.ofInt 8 (n / 65536), BitVec.ofInt 8 (n / 256), BitVec.ofInt 8 n])) Hs2 := g2
 refine rA rfl (v := sv2) rfl ?_
 refine rN (Xn ?_)
 refine Zj [sv2] ⟨rfl, trivial⟩ ?_
 have hm3 := Mem.drop ([(b17, .cells (cl u8 ([BitVec.ofInt 8 (n / 16777216), BitVec.ofInt 8 (n / 65536), BitVec.ofInt 8 (n / 256), BitVec.ofInt 8 n])) 5 (0, 0))]) _ (Mem.pick Hs2 [_] _ hm2)
 exact ⟨Hs2, Xx.cast g2 rfl, (by
   have hT := hm3
   try simp only [List.append_assoc, List.cons_append, List.nil_append, List.append_nil] at hT ⊢
   exact hT)⟩
set_option maxHeartbeats 2000000 in
theorem Qbi (v : Value) (b : List (BitVec 8)) (w0 : World)  (hb : Rd (Y3 w0) u8 v b) (hb4 : 4 ≤ b.length) : X8 Tryd.prog 46 #[v] w0 (fun r w1 => r = (i64 (Yu b)) ∧ Ext w0 w1) := by
 refine Zp (args := [v]) Tryd.func46 rfl Tryd.ntmps46 Tryd.results46 rfl ?_
 have hm0 : Mem w0 (Qo w0) [] := Mem.of_world w0
 refine sR <| Qb rfl (Qd (v := (i64 0)) rfl) ?_
 refine rN (Qh ?_)
 refine Yc [(0, false), (1, false), (2, false), (3, false), (4, false), (5, false), (6, false), (7, false), (8, false), (9, false), (10, false), (11, false), (12, false), (13, false), (14, false), (15, false), (16, false), (17, false), (18, false), (19, false), (20, false)] 21 (by kernel_rfl) <| dM rfl rfl (v := v) rfl <| Qw rfl rfl (fun _ _hx => Xi (i := 0) (Rd.ofRest hb (hm0.ext _hx)) Z4 Yq rfl rfl oM sL) <| Qw (v := (u8 (b.getD 0 0))) rfl rfl (fun _ _hx => Yg (l := b) (i := 0) (dflt := 0) (Rd.ofRest hb (hm0.ext _hx)) Vh rfl oM sL rfl) <| Qw rfl rfl (fun _ _hx => Vf ⟨_, Vh⟩ Gj rfl) <| Qw rfl rfl (fun _ _hx => Na (p := 16777216) (b := 24) rfl rfl rfl (by decide) (by decide) oM oM) <| dM rfl rfl (v := v) rfl <| Qw rfl rfl (fun _ _hx => Xi (i := 1) (Rd.ofRest hb (hm0.ext _hx)) Z4 Yq rfl rfl oM sL) <| Qw (v := (u8 (b.getD 1 0))) rfl rfl (fun _ _hx => Yg (l := b) (i := 1) (dflt := 0) (Rd.ofRest hb (hm0.ext _hx)) Vh rfl oM sL rfl) <| Qw rfl rfl (fun _ _hx => Vf ⟨_, Vh⟩ Gj rfl) <| Qw rfl rfl (fun _ _hx => Na (p := 65536) (b := 16) rfl rfl rfl (by decide) (by decide) oM oM) <| Qw rfl rfl (fun _ _hx => Rn (a := (((b.getD 0 0).toNat : Int) * 16777216)) (q := ((b.getD 0 0).toNat : Int)) (b := (((b.getD 1 0).toNat : Int) * 65536)) 24 rfl rfl oM oM oM oM (by decide)) ?_
 refine dM rfl rfl (v := v) rfl <| Qw rfl rfl (fun _ _hx => Xi (i := 2) (Rd.ofRest hb (hm0.ext _hx)) Z4 Yq rfl rfl oM sL) <| Qw (v := (u8 (b.getD 2 0))) rfl rfl (fun _ _hx => Yg (l := b) (i := 2) (dflt := 0) (Rd.ofRest hb (hm0.ext _hx)) Vh rfl oM sL rfl) <| Qw rfl rfl (fun _ _hx => Vf ⟨_, Vh⟩ Gj rfl) <| Qw rfl rfl (fun _ _hx => Na (p := 256) (b := 8) rfl rfl rfl (by decide) (by decide) oM oM) <| Qw rfl rfl (fun _ _hx => Rn (a := (((b.getD 0 0).toNat : Int) * 16777216 + ((b.getD 1 0).toNat : Int) * 65536)) (q := (((b.getD 0 0).toNat : Int) * 256 + ((b.getD 1 0).toNat : Int))) (b := (((b.getD 2 0).toNat : Int) * 256)) 16 rfl rfl oM oM oM oM (by decide)) <| dM rfl rfl (v := v) rfl <| Qw rfl rfl (fun _ _hx => Xi (i := 3) (Rd.ofRest hb (hm0.ext _hx)) Z4 Yq rfl rfl oM sL) <| Qw (v := (u8 (b.getD 3 0))) rfl rfl (fun _ _hx => Yg (l := b) (i := 3) (dflt := 0) (Rd.ofRest hb (hm0.ext _hx)) Vh rfl oM sL rfl) <| Qw rfl rfl (fun _ _hx => Vf ⟨_, Vh⟩ Gj rfl) ?_
 refine X3 (fun w1 _ew1 => ?_)
 have hm1 := hm0.ext _ew1
 refine Qb rfl (Rn (a := (((b.getD 0 0).toNat : Int) * 16777216 + ((b.getD 1 0).toNat : Int) * 65536 + ((b.getD 2 0).toNat : Int) * 256)) (q := ((((b.getD 0 0).toNat : Int) * 256 + ((b.getD 1 0).toNat : Int)) * 256 + ((b.getD 2 0).toNat : Int))) (b := ((b.getD 3 0).toNat : Int)) 8 rfl rfl oM oM oM oM (by decide)) <| rA rfl rfl <| rN ?_
 refine CW.abs (fun g => g 0 = v ∧ g 2 = (i64 (((b.getD 0 0).toNat : Int) * 16777216 + ((b.getD 1 0).toNat : Int) * 65536 + ((b.getD 2 0).toNat : Int) * 256 + ((b.getD 3 0).toNat : Int))) ∧ True) ⟨rfl, rfl, trivial⟩ ?_
 rintro fr2 ⟨s0, s2, _⟩
 refine Xn <| Zj [(i64 (((b.getD 0 0).toNat : Int) * 16777216 + ((b.getD 1 0).toNat : Int) * 65536 + ((b.getD 2 0).toNat : Int) * 256 + ((b.getD 3 0).toNat : Int)))] ⟨s2, trivial⟩ ?_
 exact ⟨congrArg i64 (by unfold Yu; first | rfl | (simp only [Int.mul_comm 16777216, Int.mul_comm 65536, Int.mul_comm 256])), hm1.toExt⟩
set_option maxHeartbeats 2000000 in
theorem Qal (v : Value) (b : List (BitVec 8)) (w0 : World)  (hb : Rd (Y3 w0) u8 v b) (hb4 : 4 ≤ b.length) : X8 Tryd.prog 48 #[v] w0 (fun r w1 => r = (i64 (Yu b)) ∧ Ext w0 w1) := by
 refine Zp (args := [v]) Tryd.func48 rfl Tryd.ntmps48 Tryd.results48 rfl ?_
 have hm0 : Mem w0 (Qo w0) [] := Mem.of_world w0
 refine sR <| Qb rfl (Qd (v := (i64 0)) rfl) ?_
 refine rN (Qh ?_)
 refine Yc [(0, false), (1, false), (2, false), (3, false), (4, false), (5, false), (6, false), (7, false), (8, false), (9, false), (10, false), (11, false), (12, false), (13, false), (14, false), (15, false), (16, false), (17, false), (18, false), (19, false), (20, false)] 21 (by kernel_rfl) <| dM rfl rfl (v := v) rfl <| Qw rfl rfl (fun _ _hx => Xi (i := 0) (Rd.ofRest hb (hm0.ext _hx)) Z4 Yq rfl rfl oM sL) <| Qw (v := (u8 (b.getD 0 0))) rfl rfl (fun _ _hx => Yg (l := b) (i := 0) (dflt := 0) (Rd.ofRest hb (hm0.ext _hx)) Vh rfl oM sL rfl) <| Qw rfl rfl (fun _ _hx => Vf ⟨_, Vh⟩ Gj rfl) <| Qw rfl rfl (fun _ _hx => Xj (a := 16777216) rfl rfl oM oM) <| dM rfl rfl (v := v) rfl <| Qw rfl rfl (fun _ _hx => Xi (i := 1) (Rd.ofRest hb (hm0.ext _hx)) Z4 Yq rfl rfl oM sL) <| Qw (v := (u8 (b.getD 1 0))) rfl rfl (fun _ _hx => Yg (l := b) (i := 1) (dflt := 0) (Rd.ofRest hb (hm0.ext _hx)) Vh rfl oM sL rfl) <| Qw rfl rfl (fun _ _hx => Vf ⟨_, Vh⟩ Gj rfl) <| Qw rfl rfl (fun _ _hx => Xj (a := 65536) rfl rfl oM oM) <| Qw rfl rfl (fun _ _hx => Qk rfl rfl oM oM) ?_
 refine dM rfl rfl (v := v) rfl <| Qw rfl rfl (fun _ _hx => Xi (i := 2) (Rd.ofRest hb (hm0.ext _hx)) Z4 Yq rfl rfl oM sL) <| Qw (v := (u8 (b.getD 2 0))) rfl rfl (fun _ _hx => Yg (l := b) (i := 2) (dflt := 0) (Rd.ofRest hb (hm0.ext _hx)) Vh rfl oM sL rfl) <| Qw rfl rfl (fun _ _hx => Vf ⟨_, Vh⟩ Gj rfl) <| Qw rfl rfl (fun _ _hx => Xj (a := 256) rfl rfl oM oM) <| Qw rfl rfl (fun _ _hx => Qk rfl rfl oM oM) <| dM rfl rfl (v := v) rfl <| Qw rfl rfl (fun _ _hx => Xi (i := 3) (Rd.ofRest hb (hm0.ext _hx)) Z4 Yq rfl rfl oM sL) <| Qw (v := (u8 (b.getD 3 0))) rfl rfl (fun _ _hx => Yg (l := b) (i := 3) (dflt := 0) (Rd.ofRest hb (hm0.ext _hx)) Vh rfl oM sL rfl) <| Qw rfl rfl (fun _ _hx => Vf ⟨_, Vh⟩ Gj rfl) ?_
 refine X3 (fun w1 _ew1 => ?_)
 have hm1 := hm0.ext _ew1
 refine Qb rfl (Qk rfl rfl oM oM) <| rA rfl rfl <| rN ?_
 refine CW.abs (fun g => g 0 = v ∧ g 2 = (i64 ((((16777216 * ((b.getD 0 0).toNat : Int)) + (65536 * ((b.getD 1 0).toNat : Int))) + (256 * ((b.getD 2 0).toNat : Int))) + ((b.getD 3 0).toNat : Int))) ∧ True) ⟨rfl, rfl, trivial⟩ ?_
 rintro fr2 ⟨s0, s2, _⟩
 refine Xn <| Zj [(i64 ((((16777216 * ((b.getD 0 0).toNat : Int)) + (65536 * ((b.getD 1 0).toNat : Int))) + (256 * ((b.getD 2 0).toNat : Int))) + ((b.getD 3 0).toNat : Int)))] ⟨s2, trivial⟩ ?_
 exact ⟨congrArg i64 (by unfold Yu; first | rfl | (simp only [Int.mul_comm 16777216, Int.mul_comm 65536, Int.mul_comm 256])), hm1.toExt⟩
set_option maxHeartbeats 2000000 in
theorem Ru (v : Value) (b : List (BitVec 8)) (w0 : World)  (hb : Rd (Y3 w0) u8 v b) (hb4 : 32 ≤ b.length) : X8 Tryd.prog 49 #[v] w0 (fun r w1 => r = (agg u8 (b.take 32)) ∧ Ext w0 w1) := by
 refine Zp (args := [v]) Tryd.func49 rfl Tryd.ntmps49 Tryd.results49 rfl ?_
 have hm0 : Mem w0 (Qo w0) [] := Mem.of_world w0
 refine sR <| Zo rfl (Zy hm0 Z5) ?_
 rintro _ w1 ⟨b2, rfl, _ew1, hm1⟩
 refine rN (sR ?_)
 refine Qb rfl (Kq (ps := []) (c := (cl u8 (List.replicate 32 0))) Z5 Xo Yq (by simp) rfl) <| Zo rfl (Zy hm1 Z5) ?_
 rintro _ w2 ⟨b3, rfl, _ew2, hm2⟩
 refine Xf (Zl (f := u8) (l := List.replicate 32 0) Q8 Z5 rfl rfl sL hm2.h0 (by rw [Ko]; first | omega | (simp only [List.length_set, List.length_append, List.length_replicate, List.length_map, List.length_cons, List.length_nil]; omega) | (simp; done) | (simp; omega) | decide) rfl) ?_
 rintro _ w3 uq3
 have hm3 := hm2.upd0 uq3
 refine rN (Qh (sR ?_))
 refine Qb rfl (Qd (v := (i64 0)) rfl) ?_
 refine rN (Qv ?_)
 refine Jg (fun g wv => ∃ (i : Nat), (i ≤ 32) ∧ g 0 = v ∧ g 2 = (ptr b2 0) ∧ g 3 = (ptr b3 0) ∧ g 4 = (i64 (i : Int)) ∧ Mem wv (Qo w0) [(b3, .cells (cl u8 (Jp (fun j => b.getD (j : Int).toNat 0) 0 32 i)) 23 (0, 0)), (b2, .cells (cl u8 (List.replicate 32 0)) 23 (0, 0))]) (fun g wv => (32 - RowKit.intOf (g 4)).toNat) ?_ ?_
 · exact ⟨0, oM, rfl, rfl, rfl, rfl, (by rw [Ew]; exact hm3)⟩
 · rintro fr4 w5 ⟨i, hi, s0, s2, s3, s4, hm5⟩
   have z4 := s4
   refine Qh (sR ?_)
   refine rM rfl s4 <| Qb rfl (Qs (b := 32) rfl rfl) <| rN ?_
   refine Xy rfl (fun hc6 => ?_) (fun hc6 => ?_)
   ·
     have hc6p := of_decide_eq_true hc6
     refine Zc (Qi (Qh (Qv (Qg ?_))))
     refine rM rfl s4 <| rM rfl s0 <| rM rfl s4 <| Qb rfl (Xi (Rd.ofRest hb hm5) Z4 Yq rfl rfl oM sL) <| Qb (v := (u8 (b.getD i 0))) rfl (Yg (l := b) (i := (i : Int)) (dflt := 0) (Rd.ofRest hb hm5) Vh rfl oM sL rfl) <| Qb rfl (Qm (r := i) oM Xo Yq s3 rfl oM sL) <| Xf (Yj (f := u8) (a := b.getD i 0) Q8 Yq rfl rfl hm5.h0 sL (.inl (Nat.zero_le _))) ?_
     rintro _ w7 uq7
     have hm7 := hm5.upd0 uq7
     refine Zz (Qn (Qg ?_))
     refine rM rfl s4 <| Qb rfl (Qk (b := 1) rfl rfl oM oM) <| Qb rfl (Qd (v := (i64 ((i : Int) + 1))) rfl) <| rN ?_
     exact ⟨⟨(i + 1), oM, s0, s2, s3, rfl, (by rw [← Dy (fun j => b.getD (j : Int).toNat 0) 0 (n := 32) (k := i) oM _ rfl]; exact hm7)⟩, Fj rfl z4 oM oM⟩
   ·
     have hc6p := of_decide_eq_false hc6
     refine Yb ?_
     refine Zb (Zb (Xw ?_))
     refine sR <| Qb (v := (agg u8 (Jp (fun j => b.getD (j : Int).toNat 0) 0 32 i))) rfl (Z9 Xo rfl Z5 s3 hm5.h0 (by rw [Ko]; first | omega | (simp only [List.length_set, List.length_append, List.length_replicate, List.length_map, List.length_cons, List.length_nil]; omega) | (simp; done) | (simp; omega) | decide)) <| Xf (Zl (f := u8) (l := Jp (fun j => b.getD (j : Int).toNat 0) 0 32 i) Q8 Z5 s2 rfl sL hm5.h1 (by rw [Ko]; first | omega | (simp only [List.length_set, List.length_append, List.length_replicate, List.length_map, List.length_cons, List.length_nil]; omega) | (simp; done) | (simp; omega) | decide) rfl) ?_
     rintro _ w8 uq8
     have hm8 := hm5.upd1 uq8
     refine rN (Xn ?_)
     refine Zj [(agg u8 (Jp (fun j => b.getD (j : Int).toNat 0) 0 32 i))] ⟨⟨_, s2, X6 Xo rfl Z5 hm8.h1 (by rw [Ko]; first | omega | (simp only [List.length_set, List.length_append, List.length_replicate, List.length_map, List.length_cons, List.length_nil]; omega) | (simp; done) | (simp; omega) | decide)⟩, trivial⟩ ?_
     exact ⟨congrArg (agg u8) (by obtain rfl : i = 32 := oM; exact (Qgk b 0 oM).trans (by simp)), hm8.toExt⟩
set_option maxHeartbeats 2000000 in
theorem Ry (n : Int) (bk : Nat) (v : Value) (b : List (BitVec 8)) (w0 : World)  (hbk : Y3 w0 bk = some (.cells #[v] 27 (0, 0))) (hb : Rd (Y3 w0) u8 v b) (hn : 0 ≤ n ∧ n + 32 ≤ (b.length : Int)) (hbl : b.length ≤ 1048576) : X8 Tryd.prog 47 #[(i64 n), (ptr bk 0)] w0 (fun r w1 => r = (agg u8 ((b.drop n.toNat).take 32)) ∧ Ext w0 w1) := by
 refine Zp (args := [(i64 n), (ptr bk 0)]) Tryd.func47 rfl Tryd.ntmps47 Tryd.results47 rfl ?_
 have hm0 : Mem w0 (Qo w0) [] := Mem.of_world w0
 refine sR <| Zo rfl (Zy hm0 Z5) ?_
 rintro _ w1 ⟨b3, rfl, _ew1, hm1⟩
 refine rN (sR ?_)
 refine Qb (v := v) rfl (Qy Z4 rfl rfl (hm1.rest _ _ hbk) rfl) <| Qb rfl (Qc (v := (i64 n)) rfl) <| Qb rfl (Qc (v := (i64 n)) rfl) <| Qb rfl (Qk (b := 32) rfl rfl oM oM) <| Qb rfl (Yr (i := n) (j := n + 32) (Rd.ofRest hb hm1) Z4 Yq rfl (X9 (k := .i64) (i := n) rfl) (X9 (k := .i64) (i := n + 32) rfl) oM sL sL) <| Qb rfl (ev_sap (Rd.cast (l' := (b.drop (n : Int).toNat).take ((n + 32 : Int).toNat - (n : Int).toNat)) (Rd.sub (Rd.ofRest hb hm1) oM sL sL) rfl) Xo rfl sL) <| Qb (v := (agg u8 (((b.drop (n : Int).toNat).take ((n + 32 : Int).toNat - (n : Int).toNat)).take 32))) rfl (Qbx (l := (b.drop (n : Int).toNat).take ((n + 32 : Int).toNat - (n : Int).toNat)) (Rd.cast (l' := (b.drop (n : Int).toNat).take ((n + 32 : Int).toNat - (n : Int).toNat)) (Rd.sub (Rd.ofRest hb hm1) oM sL sL) rfl) Xo Z5 rfl sL rfl) <| Xf (Zl (f := u8) (l := ((b.drop (n : Int).toNat).take ((n + 32 : Int).toNat - (n : Int).toNat)).take 32) Q8 Z5 rfl rfl sL hm1.h0 (by rw [Ko]; first | omega | (simp only [List.length_set, List.length_append, List.length_replicate, List.length_map, List.length_cons, List.length_nil]; omega) | (simp; done) | (simp; omega) | decide) rfl) ?_
 rintro _ w2 uq2
 have hm2 := hm1.upd0 uq2
 refine rN (Xn ?_)
 refine Zj [(agg u8 (((b.drop (n : Int).toNat).take ((n + 32 : Int).toNat - (n : Int).toNat)).take 32))] ⟨⟨_, rfl, X6 Xo rfl Z5 hm2.h0 (by rw [Ko]; first | omega | (simp only [List.length_set, List.length_append, List.length_replicate, List.length_map, List.length_cons, List.length_nil]; omega) | (simp; done) | (simp; omega) | decide)⟩, trivial⟩ ?_
 exact ⟨congrArg (agg u8) (by rw [show (n + 32).toNat - n.toNat = 32 by omega, List.take_take]; rfl), hm2.toExt⟩
set_option maxHeartbeats 2000000 in
theorem c_header (c : List (BitVec 8)) (p n : Int) (w0 : World)  (hc : c.length = 32) (hp : 0 ≤ p ∧ p ≤ 2147483647) (hn : 0 ≤ n ∧ n ≤ 2147483647) : X8 Tryd.prog 30 #[(Value.agg (Qr [c.map u8, [(i64 p)], [(i64 n)]]))] w0 (fun r w1 => ∃ Hs, Xx u8 5 r (Aa c p n) Hs ∧ Mem w1 (Qo w0) Hs) := by
 refine Zp (args := [(Value.agg (Qr [c.map u8, [(i64 p)], [(i64 n)]]))]) Tryd.func30 rfl Tryd.ntmps30 Tryd.results30 rfl ?_
 have hm0 : Mem w0 (Qo w0) [] := Mem.of_world w0
 refine sR <| Zo rfl (V6 (cs := (Qr [c.map u8, [(i64 p)], [(i64 n)]])) hm0 rfl) ?_
 rintro _ w1 ⟨b1, rfl, _ew1, hm1⟩
 refine Qb rfl (Qd (v := (Value.slice none 0 0)) rfl) ?_
 refine rN (Qh ?_)
 refine Kz (by kernel_rfl) ?_
 have hFM2 : Mem w1 (Qo w0) ([] ++ [(b1, .cells (Qr [c.map u8, [(i64 p)], [(i64 n)]]) 53 (0, 0))]) := hm1
 obtain ⟨RM2, hRM2⟩ : ∃ R2, R2 = Rest.add (Qo w0) [(b1, .cells (Qr [c.map u8, [(i64 p)], [(i64 n)]]) 53 (0, 0))] := ⟨_, rfl⟩
 have M20 : Mem w1 RM2 [] := by rw [hRM2]; exact Mem.give hFM2
 have ho3 : RM2.blk b1 = some (.cells (Qr [c.map u8, [(i64 p)], [(i64 n)]]) 53 (0, 0)) := by rw [hRM2]; exact Mem.addOwn hFM2 (List.Mem.head _)
 refine Uc M20 [(0, false), (1, false), (3, false), (4, false), (6, false), (7, false), (2, true), (5, true)] 8 rfl (by kernel_rfl) <| Jd rfl rfl (fun w _H _hx => Zr (r := 0) uT53 rfl (by first | rfl | omega) Z5 rfl rfl) <| Jd rfl rfl (fun w _H _hx => Xg (i := 0) (j := 32) Xo Yq rfl (Zn _ _) (Zn _ _) oM sL sL) <| Jd rfl rfl (fun w _H _hx => Zr (r := 32) uT53 rfl (by first | rfl | omega) Uz rfl rfl) <| Jd (v := (i64 p)) rfl rfl (fun w _H _hx => Zd (v := (i64 p)) [c.map u8] [[(i64 n)]] Gj rfl rfl (_hx.rest _ _ ho3) (Qa (n := 32) (m := 0) (k := 32) (by first | rfl | (rw [List.length_map]; first | omega | (simp; done) | (simp; omega))) Qj rfl)) <| Jd rfl rfl (fun w _H _hx => Zr (r := 33) uT53 rfl (by first | rfl | omega) Uz rfl rfl) <| Jd (v := (i64 n)) rfl rfl (fun w _H _hx => Zd (v := (i64 n)) [c.map u8, [(i64 p)]] [] Gj rfl rfl (_hx.rest _ _ ho3) (Qa (n := 32) (m := 1) (k := 33) (by first | rfl | (rw [List.length_map]; first | omega | (simp; done) | (simp; omega))) (Qa (n := 1) (m := 0) (k := 1) rfl Qj rfl) rfl)) ?_
 refine Rt rfl rfl (fun w4 _ew4 => ?_)
 have hm4 := M20.ext _ew4
 refine Jr.mono (Qx Tryd.func34 bd34 nm34 (Ye rfl) (Qam (sla b1 0 1 0 32 32) c _ (Rd.segA [] [[(i64 p)], [(i64 n)]] (hm4.rest _ _ ho3) Qj sL (by decide) (by decide)) sL)) ?_
 rintro rq6 w5 ⟨Hsq6, grq6, k_w5⟩
 have hm5 : Mem w5 RM2 (Hsq6 ++ ([])) := Mem.new (H := []) (H' := Hsq6) hm4 k_w5
 refine ⟨⟨_, hm5⟩, ?_⟩
 refine Rt rfl rfl (fun w7 _ew7 => ?_)
 have hm7 := hm5.ext _ew7
 have hF9 : Mem w7 RM2 ((Hsq6 ++ ([])) ++ ([])) := by
   have hT := hm7
   try simp only [List.append_assoc, List.cons_append, List.nil_append, List.append_nil] at hT ⊢
   exact hT
 refine Jr.mono (Qx Tryd.func44 bd44 nm44 (Yk rfl rfl) (Rw rq6 c Hsq6 p _ _ (Mem.give hF9) grq6 sL sL)) ?_
 rintro rq10 w8 ⟨Hsq10, grq10, k_w8⟩
 have hm8 : Mem w8 RM2 (Hsq10 ++ ([])) := (by
   have hT := Mem.back hF9 k_w8
   try simp only [List.append_assoc, List.cons_append, List.nil_append, List.append_nil] at hT ⊢
   exact hT)
 refine ⟨⟨_, hm8⟩, ?_⟩
 refine X3 (fun w11 _ew11 => ?_)
 have hm11 := hm8.ext _ew11
 have hX12 := hm11
 rw [hRM2] at hX12
 have hm13 : Mem w11 (Qo w0) (Hsq10 ++ ([(b1, .cells (Qr [c.map u8, [(i64 p)], [(i64 n)]]) 53 (0, 0))])) := (by
   have hT := Mem.back hFM2 hX12
   try simp only [List.append_assoc, List.cons_append, List.nil_append, List.append_nil] at hT ⊢
   exact hT)
 have hF15 : Mem w11 (Qo w0) ((Hsq10 ++ ([])) ++ ([(b1, .cells (Qr [c.map u8, [(i64 p)], [(i64 n)]]) 53 (0, 0))])) := by
   have hT := hm13
   try simp only [List.append_assoc, List.cons_append, List.nil_append, List.append_nil] at hT ⊢
   exact hT
 refine Zo rfl (Qx Tryd.func44 bd44 nm44 (Yk rfl rfl) (Rw rq10 (c ++ Ui p) Hsq10 n _ _ (Mem.give hF15) grq10 sL sL)) ?_
 rintro rq16 w14 ⟨Hsq16, grq16, k_w14⟩
 have hm14 : Mem w14 (Qo w0) (Hsq16 ++ ([(b1, .cells (Qr [c.map u8, [(i64 p)], [(i64 n)]]) 53 (0, 0))])) := (by
   have hT := Mem.back hF15 k_w14
   try simp only [List.append_assoc, List.cons_append, List.nil_append, List.append_nil] at hT ⊢
   exact hT)
 refine rA rfl (v := rq16) rfl ?_
 refine rN (Xn ?_)
 refine Zj [rq16] ⟨rfl, trivial⟩ ?_
 have hm17 := Mem.drop ([(b1, .cells (Qr [c.map u8, [(i64 p)], [(i64 n)]]) 53 (0, 0))]) _ (Mem.pick Hsq16 [_] _ hm14)
 exact ⟨Hsq16, Xx.cast grq16 (by simp [Aa]), (by
   have hT := hm17
   try simp only [List.append_assoc, List.cons_append, List.nil_append, List.append_nil] at hT ⊢
   exact hT)⟩
set_option maxHeartbeats 2000000 in
theorem c_cloneK (v : Value) (l : List Kp) (w0 : World)  (hr : RdK (Y3 w0) Jf 65 v l) (hl : l.length ≤ 1048576) : X8 Tryd.prog 29 #[v] w0 (fun r w1 => ∃ Hs, Y6 Jf 65 69 r l Hs ∧ Mem w1 (Qo w0) Hs) := by
 refine Zp (args := [v]) Tryd.func29 rfl Tryd.ntmps29 Tryd.results29 rfl ?_
 have hm0 : Mem w0 (Qo w0) [] := Mem.of_world w0
 refine sR <| Qb rfl (Qd (v := (Value.slice none 0 0)) rfl) ?_
 refine rN (Qh (sR ?_))
 refine rM rfl (v := v) rfl <| Qb rfl (Qfk (RdK.ofRest hr hm0) We rfl rfl) <| rN ?_
 refine Xy rfl (fun hc1 => ?_) (fun hc1 => ?_)
 ·
   refine sR <| Qb rfl (Qd (v := (Value.slice none 0 0)) rfl) ?_
   refine rN (Xn (Jv ?_))
   refine Zj [(Value.slice none 0 0)] ⟨rfl, trivial⟩ ?_
   exact ⟨[], Y6.cast (Y6.none Jf 65 69) (Qg8 hr hc1), hm0⟩
 ·
   refine Zc (Qi (sR ?_))
   refine Zo rfl (Dc (c := #[]) hm0 We F6 rfl Wy (by kernel_rfl)) ?_
   rintro _ w2 ⟨b5, rfl, _ew2, hm2⟩
   have hm2 : Mem w2 (Qo w0) [(b5, .cells #[] 69 (0, 0))] := hm2
   refine rM rfl (v := v) rfl <| Zo rfl (Ap (enc := Jf) (k := 65) (Hs := [(b5, .cells #[] 69 (0, 0))]) (H := []) hm2 (Y6.of Jf 65 69 b5 [] rfl (by simp)) rfl rfl (RdK.ofRest hr hm2) We We F6 rfl rfl (fun a _ => Qbe a) sL sL) ?_
   rintro sv3 w3 ⟨Hs3, hm3, g3⟩
   replace g3 : Y6 Jf 65 69 sv3 l Hs3 := g3
   refine rA rfl (v := sv3) rfl ?_
   refine rN (Xn ?_)
   refine Zj [sv3] ⟨rfl, trivial⟩ ?_
   exact ⟨Hs3, Y6.cast g3 (by simp), by simpa using hm3⟩
end Go.Proofs.YtkmiemlpfkfiiaaDoor
